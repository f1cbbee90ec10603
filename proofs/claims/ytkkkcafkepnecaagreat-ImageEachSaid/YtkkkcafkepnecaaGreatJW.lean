/- Conditions of functions, printed by a program of this session (gen.py) and checked by the kernel. -/
import Derived.Test.YtkkkcafkepnecaaGreatZB
set_option linter.unusedVariables false
namespace Go.Proofs.YtkkkcafkepnecaaGreat
open Go Go.RowKit Vc

namespace linesmanlaw10_ImageSealed
theorem okf : okFn PG N.linesmanlaw10_ImageSealed = true := by kernel_rfl
def note : Note := ⟨[], []⟩
def C (R : Ending → World → Prop) (x0 x1 : Value) (w : World) : Prop :=
  lnS x0 fun t4 => pu PG (binV .gtr T.t_int true t4 (.int .i64 4000)) fun t5 => condV t5 (callW PG N.linesmanlaw10_works [] (fun t9 w10 => R (.returned t9) w10) (fun c w => R (.panicked c) w) w) (lnS x1 fun t6 => pu PG (binV .gtr T.t_int true t6 (.int .i64 50)) fun t7 => condV t7 (callW PG N.linesmanlaw10_works [] (fun t12 w13 => R (.returned t12) w13) (fun c w => R (.panicked c) w) w) (callW PG N.linesmanref10_Sealed [x0] (fun t15 w16 => opW PG (Builtin.append_ #[T.t_sl_uint8, T.t_sl_uint8] T.t_sl_uint8 #[t15, x1]) (fun t17 w18 => callW PG N.image_Decode [t17] (fun t20 w21 => exW 0 t20 fun t22 => exW 1 t20 fun t23 => alW (zc PG T.t_api_Program) T.t_api_Program (fun t24 w25 => stW 4 t24 t22 (fun w26 => callW PG N.linesmanref10_Decode [t17] (fun t28 w29 => exW 0 t28 fun t30 => exW 1 t28 fun t31 => alW (zc PG T.t_api_Program) T.t_api_Program (fun t32 w33 => stW 4 t32 t30 (fun w34 => ldW (some 4) t24 w34 fun t36 => ldW (some 4) t32 w34 fun t37 => callW PG N.linesmanref09_Same [t36, t37] (fun t38 w39 => condV t38 (callW PG N.linesmanlaw10_num [t23] (fun t40 w41 => pu PG (binV .eql T.t_int false t40 t31) fun t42 => condV t42 (callW PG N.linesmanlaw10_works [] (fun t43 w44 => R (.returned t43) w44) (fun c w => R (.panicked c) w) w41) (R (.returned (.bool false)) w41)) (fun c w => R (.panicked c) w) w39) (R (.returned (.bool false)) w39)) (fun c w => R (.panicked c) w) w34) w33) w29) (fun c w => R (.panicked c) w) w26) w25) w21) (fun c w => R (.panicked c) w) w18) w16) (fun c w => R (.panicked c) w) w))
theorem C_eq (R : Ending → World → Prop) (x0 x1 : Value) (w : World) : fnW PG note 400 Tryz.f4 [x0, x1] R w = C R x0 x1 w := by kernel_rfl
theorem ok {R : Ending → World → Prop} {x0 x1 : Value} {w : World} (h : C R x0 x1 w) : Calls PG N.linesmanlaw10_ImageSealed #[x0, x1] w R :=
  fnW_sound mixed Tryz.func4 (args := [x0, x1]) (by rw [C_eq]; exact h)
end linesmanlaw10_ImageSealed
namespace linesmanref10_Decode
theorem okf : okFn PG N.linesmanref10_Decode = true := by kernel_rfl
def note : Note := ⟨[], []⟩
def C (R : Ending → World → Prop) (x0 : Value) (w : World) : Prop :=
  alW (zc PG T.t_api_Program) T.t_api_Program (fun t2 w3 => callW PG N.linesmanref10_First [x0] (fun t5 w6 => exW 0 t5 fun t7 => exW 1 t5 fun t8 => exW 2 t5 fun t9 => alW (zc PG T.t_api_Program) T.t_api_Program (fun t10 w11 => stW 4 t10 t7 (fun w12 => pu PG (binV .eql T.t_int true t9 (.int .i64 0)) fun t15 => condV t15 (lnS x0 fun t16 => pu PG (binV .lss T.t_int false t8 t16) fun t17 => condV t17 (pu PG (binV .neq T.t_int true (.int .i64 200) (.int .i64 0)) fun t20 => condV t20 (pu PG (Instr.build T.t_api_Program #[]) fun t22 => stW 4 t2 t22 (fun w23 => ldW (some 4) t2 w23 fun t24 => R (.returned (.tuple #[t24, (.int .i64 200)])) w23) w12) (ldW (some 4) t10 w12 fun t26 => stW 4 t2 t26 (fun w27 => ldW (some 4) t2 w27 fun t28 => R (.returned (.tuple #[t28, (.int .i64 0)])) w27) w12)) (pu PG (binV .neq T.t_int true t9 (.int .i64 0)) fun t31 => condV t31 (pu PG (Instr.build T.t_api_Program #[]) fun t33 => stW 4 t2 t33 (fun w34 => ldW (some 4) t2 w34 fun t35 => R (.returned (.tuple #[t35, t9])) w34) w12) (ldW (some 4) t10 w12 fun t37 => stW 4 t2 t37 (fun w38 => ldW (some 4) t2 w38 fun t39 => R (.returned (.tuple #[t39, (.int .i64 0)])) w38) w12))) (pu PG (binV .neq T.t_int true t9 (.int .i64 0)) fun t42 => condV t42 (pu PG (Instr.build T.t_api_Program #[]) fun t44 => stW 4 t2 t44 (fun w45 => ldW (some 4) t2 w45 fun t46 => R (.returned (.tuple #[t46, t9])) w45) w12) (ldW (some 4) t10 w12 fun t48 => stW 4 t2 t48 (fun w49 => ldW (some 4) t2 w49 fun t50 => R (.returned (.tuple #[t50, (.int .i64 0)])) w49) w12))) w11) w6) (fun c w => R (.panicked c) w) w3) w
theorem C_eq (R : Ending → World → Prop) (x0 : Value) (w : World) : fnW PG note 400 Tryz.f20 [x0] R w = C R x0 w := by kernel_rfl
theorem ok {R : Ending → World → Prop} {x0 : Value} {w : World} (h : C R x0 w) : Calls PG N.linesmanref10_Decode #[x0] w R :=
  fnW_sound mixed Tryz.func20 (args := [x0]) (by rw [C_eq]; exact h)
end linesmanref10_Decode
namespace linesmanref10_First
theorem okf : okFn PG N.linesmanref10_First = true := by kernel_rfl
def note : Note := ⟨[], []⟩
def C (R : Ending → World → Prop) (x0 : Value) (w : World) : Prop :=
  alW (zc PG T.t_api_Program) T.t_api_Program (fun t2 w3 => pu PG (Instr.build T.t_linesmanref10_Reader #[(0, x0)]) fun t5 => callW PG N.linesmanref10_Reader_program [t5] (fun t6 w7 => exW 0 t6 fun t8 => exW 1 t6 fun t9 => alW (zc PG T.t_linesmanref10_Reader) T.t_linesmanref10_Reader (fun t10 w11 => alW (zc PG T.t_api_Program) T.t_api_Program (fun t12 w13 => stW 3 t10 t8 (fun w14 => stW 4 t12 t9 (fun w15 => ∃ H17 : World → Prop, H17 (World.drew w15) ∧ (ldW (some 4) t12 (World.drew w15) fun t18 => faW 1 t10 fun t19 => ldS none t19 H17 fun t20 => faW 2 t10 fun t21 => ldS none t21 H17 fun t22 => stW 4 t2 t18 (fun w23 => H17 w23 ∧ (ldW (some 4) t2 w23 fun t24 => R (.returned (.tuple #[t24, t20, t22])) w23)) (World.drew w15))) w14) w13) w11) w7) (fun c w => R (.panicked c) w) w3) w
theorem C_eq (R : Ending → World → Prop) (x0 : Value) (w : World) : fnW PG note 400 Tryz.f37 [x0] R w = C R x0 w := by kernel_rfl
theorem ok {R : Ending → World → Prop} {x0 : Value} {w : World} (h : C R x0 w) : Calls PG N.linesmanref10_First #[x0] w R :=
  fnW_sound mixed Tryz.func37 (args := [x0]) (by rw [C_eq]; exact h)
end linesmanref10_First
end Go.Proofs.YtkkkcafkepnecaaGreat
