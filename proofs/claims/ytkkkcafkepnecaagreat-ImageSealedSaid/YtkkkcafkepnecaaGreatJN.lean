/- Conditions of functions, printed by a program of this session (gen.py) and checked by the kernel. -/
import Derived.Test.YtkkkcafkepnecaaGreatZB
set_option linter.unusedVariables false
namespace Go.Proofs.YtkkkcafkepnecaaGreat
open Go Go.RowKit Vc

namespace linesmanlaw10_works
theorem okf : okFn PG N.linesmanlaw10_works = true := by kernel_rfl
def note : Note := ⟨[], []⟩
def C (R : Ending → World → Prop) (w : World) : Prop :=
  pu PG (Instr.build T.t_api_Ins #[(0, (.int .i64 9))]) fun t3 => bsW T.t_api_Ins 1 (bsC PG T.t_api_Ins 1 [(0, t3)]) (fun t4 w5 => pu PG (Instr.build T.t_api_Func #[(0, (.int .i64 1)), (1, t4)]) fun t6 => bsW T.t_api_Func 1 (bsC PG T.t_api_Func 1 [(0, t6)]) (fun t7 w8 => pu PG (Instr.build T.t_api_Program #[(1, (.int .i64 1)), (0, t7)]) fun t9 => alW (zc PG T.t_api_Program) T.t_api_Program (fun t10 w11 => stW 4 t10 t9 (fun w12 => ldW (some 4) t10 w12 fun t14 => callW PG N.image_Encode [t14] (fun t15 w16 => exW 0 t15 fun t17 => exW 1 t15 fun t18 => opW PG (convert T.t_string T.t_sl_uint8 (.string (bs [108, 105, 110, 101, 1, 0, 0, 1, 1, 1, 0, 9, 0]))) (fun t21 w22 => callW PG N.image_Decode [t21] (fun t23 w24 => exW 0 t23 fun t25 => exW 1 t23 fun t26 => alW (zc PG T.t_api_Program) T.t_api_Program (fun t27 w28 => stW 4 t27 t25 (fun w29 => pu PG (binV .add T.t_string true (.string (bs [108, 105, 110, 101, 1, 0, 0, 1, 1, 1, 0, 9, 0])) (.string (bs [0, 0, 0, 0, 0, 0, 0, 0]))) fun t31 => opW PG (convert T.t_string T.t_sl_uint8 t31) (fun t32 w33 => callW PG N.image_Decode [t32] (fun t34 w35 => exW 0 t34 fun t36 => exW 1 t34 fun t37 => alW (zc PG T.t_api_Program) T.t_api_Program (fun t38 w39 => stW 4 t38 t36 (fun w40 => bsW T.t_uint8 4 (bsC PG T.t_uint8 4 [(0, (.int .u8 108)), (1, (.int .u8 105)), (2, (.int .u8 110)), (3, (.int .u8 102))]) (fun t42 w43 => opW PG (convert T.t_sl_uint8 T.t_sl_uint8 t42) (fun t44 w45 => callW PG N.image_Decode [t44] (fun t46 w47 => exW 0 t46 fun t48 => exW 1 t46 fun t49 => alW (zc PG T.t_api_Program) T.t_api_Program (fun t50 w51 => stW 4 t50 t48 (fun w52 => callW PG N.linesmanlaw10_num [t18] (fun t54 w55 => pu PG (binV .eql T.t_int true t54 (.int .i64 0)) fun t56 => condV t56 (lnS t17 fun t57 => pu PG (binV .eql T.t_int true t57 (.int .i64 21)) fun t58 => condV t58 (pu PG (Instr.sliceAt T.t_sl_uint8 t17 none (some (.int .i64 13)) none) fun t59 => opW PG (convert T.t_sl_uint8 T.t_string t59) (fun t60 w61 => pu PG (binV .eql T.t_string false t60 (.string (bs [108, 105, 110, 101, 1, 0, 0, 1, 1, 1, 0, 9, 0]))) fun t62 => condV t62 (callW PG N.linesmanlaw10_num [t26] (fun t63 w64 => pu PG (binV .eql T.t_int true t63 (.int .i64 110)) fun t65 => condV t65 (callW PG N.linesmanlaw10_num [t37] (fun t66 w67 => pu PG (binV .eql T.t_int true t66 (.int .i64 200)) fun t68 => condV t68 (callW PG N.linesmanlaw10_num [t49] (fun t69 w70 => pu PG (binV .eql T.t_int true t69 (.int .i64 200)) fun t71 => R (.returned t71) w70) (fun c w => R (.panicked c) w) w67) (R (.returned (.bool false)) w67)) (fun c w => R (.panicked c) w) w64) (R (.returned (.bool false)) w64)) (fun c w => R (.panicked c) w) w61) (R (.returned (.bool false)) w61)) w55) (R (.returned (.bool false)) w55)) (R (.returned (.bool false)) w55)) (fun c w => R (.panicked c) w) w52) w51) w47) (fun c w => R (.panicked c) w) w45) w43) w40) w39) w35) (fun c w => R (.panicked c) w) w33) w29) w28) w24) (fun c w => R (.panicked c) w) w22) w16) (fun c w => R (.panicked c) w) w12) w11) w8) w5) w
theorem C_eq (R : Ending → World → Prop) (w : World) : fnW PG note 400 Tryz.f17 [] R w = C R  w := by kernel_rfl
theorem ok {R : Ending → World → Prop} {w : World} (h : C R  w) : Calls PG N.linesmanlaw10_works #[] w R :=
  fnW_sound mixed Tryz.func17 (args := []) (by rw [C_eq]; exact h)
end linesmanlaw10_works
namespace linesmanlaw10_num
theorem okf : okFn PG N.linesmanlaw10_num = true := by kernel_rfl
def note : Note := ⟨[], []⟩
def C (R : Ending → World → Prop) (x0 : Value) (w : World) : Prop :=
  R (.returned x0) w
theorem C_eq (R : Ending → World → Prop) (x0 : Value) (w : World) : fnW PG note 400 Tryz.f22 [x0] R w = C R x0 w := by kernel_rfl
theorem ok {R : Ending → World → Prop} {x0 : Value} {w : World} (h : C R x0 w) : Calls PG N.linesmanlaw10_num #[x0] w R :=
  fnW_sound mixed Tryz.func22 (args := [x0]) (by rw [C_eq]; exact h)
end linesmanlaw10_num
namespace linesmanlaw10_few
theorem okf : okFn PG N.linesmanlaw10_few = true := by kernel_rfl
def note : Note := ⟨[(0, [3, 4])], []⟩
def C (R : Ending → World → Prop) (x0 : Value) (w : World) : Prop :=
  alW (Value.cells x0) T.t_api_Program (fun t2 w3 => LoopW [(.int .i64 0), (.int .i64 0)] (fun l8 N9 w10 => ∀ j7 : S, faW 0 t2 fun t13 => ldW none t13 w10 fun t14 => lnS t14 fun t15 => pu PG (binV .lss T.t_int false (gv l8 1) t15) fun t16 => condV t16 (pu PG (binV .lss T.t_int true (gv l8 1) (.int .i64 40)) fun t17 => condV t17 (faW 0 t2 fun t19 => ldW none t19 w10 fun t20 => ixS 2 t20 (gv l8 1) fun t21 => faW 1 t21 fun t22 => ldW none t22 w10 fun t23 => lnS t23 fun t24 => pu PG (binV .add T.t_int false (gv l8 0) t24) fun t25 => pu PG (binV .add T.t_int true (gv l8 1) (.int .i64 1)) fun t26 => N9 [t25, t26] w10) (faW 0 t2 fun t28 => ldW none t28 w10 fun t29 => lnS t29 fun t30 => pu PG (binV .leq T.t_int true t30 (.int .i64 40)) fun t31 => condV t31 (pu PG (binV .leq T.t_int true (gv l8 0) (.int .i64 1600)) fun t32 => R (.returned t32) w10) (R (.returned (.bool false)) w10))) (faW 0 t2 fun t34 => ldW none t34 w10 fun t35 => lnS t35 fun t36 => pu PG (binV .leq T.t_int true t36 (.int .i64 40)) fun t37 => condV t37 (pu PG (binV .leq T.t_int true (gv l8 0) (.int .i64 1600)) fun t38 => R (.returned t38) w10) (R (.returned (.bool false)) w10))) w3) w
theorem C_eq (R : Ending → World → Prop) (x0 : Value) (w : World) : fnW PG note 400 Tryz.f23 [x0] R w = C R x0 w := by kernel_rfl
theorem ok {R : Ending → World → Prop} {x0 : Value} {w : World} (h : C R x0 w) : Calls PG N.linesmanlaw10_few #[x0] w R :=
  fnW_sound mixed Tryz.func23 (args := [x0]) (by rw [C_eq]; exact h)
end linesmanlaw10_few
end Go.Proofs.YtkkkcafkepnecaaGreat
