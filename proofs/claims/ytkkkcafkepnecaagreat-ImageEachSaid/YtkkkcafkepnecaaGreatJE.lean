/- Conditions of functions, printed by a program of this session (gen.py) and checked by the kernel. -/
import Derived.Test.YtkkkcafkepnecaaGreatZB
set_option linter.unusedVariables false
namespace Go.Proofs.YtkkkcafkepnecaaGreat
open Go Go.RowKit Vc

namespace image_begins
theorem okf : okFn PG N.image_begins = true := by kernel_rfl
def note : Note := ⟨[], []⟩
def C (R : Ending → World → Prop) (w : World) : Prop :=
  alW (zc PG T.t_4_uint8) T.t_4_uint8 (fun t2 w3 => pu PG (Instr.build T.t_4_uint8 #[(0, (.int .u8 108)), (1, (.int .u8 105)), (2, (.int .u8 110)), (3, (.int .u8 101))]) fun t5 => stW 4 t2 t5 (fun w6 => ldW (some 4) t2 w6 fun t7 => R (.returned t7) w6) w3) w
theorem C_eq (R : Ending → World → Prop) (w : World) : fnW PG note 400 Tryz.f67 [] R w = C R  w := by kernel_rfl
theorem ok {R : Ending → World → Prop} {w : World} (h : C R  w) : Calls PG N.image_begins #[] w R :=
  fnW_sound mixed Tryz.func67 (args := []) (by rw [C_eq]; exact h)
end image_begins
namespace instr_Bytes
theorem okf : okFn PG N.instr_Bytes = true := by kernel_rfl
def note : Note := ⟨[(0, [5, 23])], []⟩
def C (R : Ending → World → Prop) (x0 : Value) (w : World) : Prop :=
  alW (Value.cells x0) T.t_api_Ins (fun t2 w3 => ldW (some 5) t2 w3 fun t6 => callW PG N.instr_Check [t6] (fun t7 w8 => pu PG (binV .neq T.t_api_Errno true t7 (.int .i64 0)) fun t10 => condV t10 (R (.returned (.tuple #[(.slice none 0 0), t7])) w8) (faW 0 t2 fun t13 => ldW none t13 w8 fun t14 => pu PG (convert T.t_api_Op T.t_uint8 t14) fun t15 => bsW T.t_uint8 1 (bsC PG T.t_uint8 1 [(0, t15)]) (fun t16 w17 => faW 0 t2 fun t20 => ldW none t20 w17 fun t21 => callW PG N.instr_named [t21] (fun t22 w23 => lnS t22 fun t24 => LoopW [t16, (.int .i64 0)] (fun l26 N27 w28 => ∀ j25 : S, pu PG (binV .lss T.t_int false (gv l26 1) t24) fun t30 => condV t30 (ixS 4 t22 (gv l26 1) fun t34 => ldW (some 4) t34 w28 fun t35 => alW (zc PG T.t_instr_part) T.t_instr_part (fun t36 w37 => stW 4 t36 t35 (fun w38 => ∃ H40 : World → Prop, H40 (World.drew w38) ∧ (faW 2 t36 fun t41 => ldS none t41 H40 fun t42 => ldS (some 5) t2 H40 fun t43 => faW 0 t36 fun t44 => ldS none t44 H40 fun t45 => callV PG t42 [t43] (fun t46 w47 => H40 w47 ∧ (callW PG N.octet_Fixed [t46, t45] (fun t48 w49 => exW 0 t48 fun t50 => exW 1 t48 fun t51 => opW PG (Builtin.append_ #[T.t_sl_uint8, T.t_sl_uint8] T.t_sl_uint8 #[(gv l26 0), t50]) (fun t54 w55 => pu PG (binV .add T.t_int true (gv l26 1) (.int .i64 1)) fun t56 => N27 [t54, t56] w55) w49) (fun c w => ∀ s52 : S, R (.panicked c) w) w47)) (fun c w => ∀ s53 : S, R (.panicked c) w) (World.drew w38))) w37) w28) (R (.returned (.tuple #[(gv l26 0), (.int .i64 0)])) w28)) w23) (fun c w => R (.panicked c) w) w17) w8)) (fun c w => R (.panicked c) w) w3) w
theorem C_eq (R : Ending → World → Prop) (x0 : Value) (w : World) : fnW PG note 400 Tryz.f71 [x0] R w = C R x0 w := by kernel_rfl
theorem ok {R : Ending → World → Prop} {x0 : Value} {w : World} (h : C R x0 w) : Calls PG N.instr_Bytes #[x0] w R :=
  fnW_sound mixed Tryz.func71 (args := [x0]) (by rw [C_eq]; exact h)
end instr_Bytes
namespace image_must
theorem okf : okFn PG N.image_must = true := by kernel_rfl
def note : Note := ⟨[], []⟩
def C (R : Ending → World → Prop) (x0 x1 : Value) (w : World) : Prop :=
  pu PG (Op.unary .not x0) fun t2 => condV t2 (R (.panicked [{ v := (.iface T.t_api_Errno x1), recovered := false }]) w) (R (.returned (.tuple #[])) w)
theorem C_eq (R : Ending → World → Prop) (x0 x1 : Value) (w : World) : fnW PG note 400 Tryz.f150 [x0, x1] R w = C R x0 x1 w := by kernel_rfl
theorem ok {R : Ending → World → Prop} {x0 x1 : Value} {w : World} (h : C R x0 x1 w) : Calls PG N.image_must #[x0, x1] w R :=
  fnW_sound mixed Tryz.func150 (args := [x0, x1]) (by rw [C_eq]; exact h)
end image_must
namespace image_reader_byte
theorem okf : okFn PG N.image_reader_byte = true := by kernel_rfl
def note : Note := ⟨[], []⟩
def C (R : Ending → World → Prop) (x0 : Value) (w : World) : Prop :=
  callW PG N.image_reader_number [x0, (.int .i64 1)] (fun t3 w4 => pu PG (convert T.t_uint64 T.t_int t3) fun t5 => R (.returned t5) w4) (fun c w => R (.panicked c) w) w
theorem C_eq (R : Ending → World → Prop) (x0 : Value) (w : World) : fnW PG note 400 Tryz.f151 [x0] R w = C R x0 w := by kernel_rfl
theorem ok {R : Ending → World → Prop} {x0 : Value} {w : World} (h : C R x0 w) : Calls PG N.image_reader_byte #[x0] w R :=
  fnW_sound mixed Tryz.func151 (args := [x0]) (by rw [C_eq]; exact h)
end image_reader_byte
namespace image_reader_number
theorem okf : okFn PG N.image_reader_number = true := by kernel_rfl
def note : Note := ⟨[], []⟩
def C (R : Ending → World → Prop) (x0 x1 : Value) (w : World) : Prop :=
  ∃ H3 : World → Prop, H3 (World.drew w) ∧ (nlW x0 fun t4 => faW 0 t4 fun t5 => ldS (some 1) t5 H3 fun t6 => nlW x0 fun t7 => faW 1 t7 fun t8 => ldS none t8 H3 fun t9 => callW PG N.image_tape_from [t6, t9] (fun t10 w11 => callW PG N.octet_ReadFixed [t10, x1] (fun t12 w13 => exW 0 t12 fun t14 => exW 1 t12 fun t15 => pu PG (binV .eql T.t_api_Errno true t15 (.int .i64 0)) fun t19 => callW PG N.image_must [t19, t15] (fun t20 w21 => nlW x0 fun t23 => faW 1 t23 fun t24 => ldW none t24 w21 fun t25 => pu PG (binV .add T.t_int false t25 x1) fun t26 => nlW x0 fun t27 => faW 1 t27 fun t28 => stW 1 t28 t26 (fun w29 => R (.returned t14) w29) w21) (fun c w => R (.panicked c) w) w13) (fun c w => ∀ s16 : S, R (.panicked c) w) w11) (fun c w => ∀ s17 : S, R (.panicked c) w) (World.drew w))
theorem C_eq (R : Ending → World → Prop) (x0 x1 : Value) (w : World) : fnW PG note 400 Tryz.f152 [x0, x1] R w = C R x0 x1 w := by kernel_rfl
theorem ok {R : Ending → World → Prop} {x0 x1 : Value} {w : World} (h : C R x0 x1 w) : Calls PG N.image_reader_number #[x0, x1] w R :=
  fnW_sound mixed Tryz.func152 (args := [x0, x1]) (by rw [C_eq]; exact h)
end image_reader_number
namespace image_reader_ins
theorem okf : okFn PG N.image_reader_ins = true := by kernel_rfl
def note : Note := ⟨[], []⟩
def C (R : Ending → World → Prop) (x0 : Value) (w : World) : Prop :=
  alW (zc PG T.t_api_Ins) T.t_api_Ins (fun t2 w3 => ∃ H5 : World → Prop, H5 (World.drew w3) ∧ (nlW x0 fun t6 => faW 0 t6 fun t7 => ldS (some 1) t7 H5 fun t8 => nlW x0 fun t9 => faW 1 t9 fun t10 => ldS none t10 H5 fun t11 => (callW PG N.image_tape_from [t8, t11] (fun t12 w13 => (callW PG N.instr_Read [t12] (fun t14 w15 => exW 0 t14 fun t16 => exW 1 t14 fun t17 => exW 2 t14 fun t18 => alW (zc PG T.t_api_Ins) T.t_api_Ins (fun t19 w20 => H5 w20 ∧ (stW 5 t19 t16 (fun w21 => pu PG (binV .neq T.t_api_Errno true t18 (.int .i64 180)) fun t46 => callW PG N.image_must [t46, (.int .i64 200)] (fun t47 w48 => pu PG (binV .eql T.t_api_Errno true t18 (.int .i64 0)) fun t50 => callW PG N.image_must [t50, t18] (fun t51 w52 => nlW x0 fun t54 => faW 1 t54 fun t55 => ldW none t55 w52 fun t56 => pu PG (binV .add T.t_int false t56 t17) fun t57 => nlW x0 fun t58 => faW 1 t58 fun t59 => stW 1 t59 t57 (fun w60 => ldW (some 5) t19 w60 fun t62 => stW 5 t2 t62 (fun w63 => ldW (some 5) t2 w63 fun t64 => R (.returned t64) w63) w60) w52) (fun c w => R (.panicked c) w) w48) (fun c w => R (.panicked c) w) w21) w20)) w15) (fun c w => ∀ s22 : S, R (.panicked c) w) w13) ∧ (alW (zc PG T.t_api_Ins) T.t_api_Ins (fun t23 w24 => H5 w24 ∧ (callW PG N.instr_Read [t12] (fun t25 w26 => exW 0 t25 fun t27 => exW 1 t25 fun t28 => exW 2 t25 fun t29 => stW 5 t23 t27 (fun w30 => pu PG (binV .neq T.t_api_Errno true t29 (.int .i64 180)) fun t66 => callW PG N.image_must [t66, (.int .i64 200)] (fun t67 w68 => pu PG (binV .eql T.t_api_Errno true t29 (.int .i64 0)) fun t70 => callW PG N.image_must [t70, t29] (fun t71 w72 => nlW x0 fun t74 => faW 1 t74 fun t75 => ldW none t75 w72 fun t76 => pu PG (binV .add T.t_int false t76 t28) fun t77 => nlW x0 fun t78 => faW 1 t78 fun t79 => stW 1 t79 t77 (fun w80 => ldW (some 5) t23 w80 fun t82 => stW 5 t2 t82 (fun w83 => ldW (some 5) t2 w83 fun t84 => R (.returned t84) w83) w80) w72) (fun c w => R (.panicked c) w) w68) (fun c w => R (.panicked c) w) w30) w26) (fun c w => ∀ s31 : S, R (.panicked c) w) w24)) w13)) (fun c w => ∀ s32 : S, R (.panicked c) w) (World.drew w3)) ∧ (alW (zc PG T.t_api_Ins) T.t_api_Ins (fun t33 w34 => H5 w34 ∧ (callW PG N.image_tape_from [t8, t11] (fun t35 w36 => callW PG N.instr_Read [t35] (fun t37 w38 => exW 0 t37 fun t39 => exW 1 t37 fun t40 => exW 2 t37 fun t41 => stW 5 t33 t39 (fun w42 => pu PG (binV .neq T.t_api_Errno true t41 (.int .i64 180)) fun t86 => callW PG N.image_must [t86, (.int .i64 200)] (fun t87 w88 => pu PG (binV .eql T.t_api_Errno true t41 (.int .i64 0)) fun t90 => callW PG N.image_must [t90, t41] (fun t91 w92 => nlW x0 fun t94 => faW 1 t94 fun t95 => ldW none t95 w92 fun t96 => pu PG (binV .add T.t_int false t96 t40) fun t97 => nlW x0 fun t98 => faW 1 t98 fun t99 => stW 1 t99 t97 (fun w100 => ldW (some 5) t33 w100 fun t102 => stW 5 t2 t102 (fun w103 => ldW (some 5) t2 w103 fun t104 => R (.returned t104) w103) w100) w92) (fun c w => R (.panicked c) w) w88) (fun c w => R (.panicked c) w) w42) w38) (fun c w => ∀ s43 : S, R (.panicked c) w) w36) (fun c w => ∀ s44 : S, R (.panicked c) w) w34)) (World.drew w3)))) w
theorem C_eq (R : Ending → World → Prop) (x0 : Value) (w : World) : fnW PG note 400 Tryz.f153 [x0] R w = C R x0 w := by kernel_rfl
theorem ok {R : Ending → World → Prop} {x0 : Value} {w : World} (h : C R x0 w) : Calls PG N.image_reader_ins #[x0] w R :=
  fnW_sound mixed Tryz.func153 (args := [x0]) (by rw [C_eq]; exact h)
end image_reader_ins
namespace image_tape_from
theorem okf : okFn PG N.image_tape_from = true := by kernel_rfl
def note : Note := ⟨[], []⟩
def C (R : Ending → World → Prop) (x0 x1 : Value) (w : World) : Prop :=
  alW (Value.cells x0) T.t_image_tape (fun t2 w3 => faW 0 t2 fun t5 => ldW none t5 w3 fun t6 => faW 0 t2 fun t7 => ldW none t7 w3 fun t8 => lnS t8 fun t9 => faW 0 t2 fun t10 => ldW none t10 w3 fun t11 => lnS t11 fun t12 => pu PG (Instr.sliceAt T.t_sl_uint8 t6 (some x1) (some t9) (some t12)) fun t13 => R (.returned t13) w3) w
theorem C_eq (R : Ending → World → Prop) (x0 x1 : Value) (w : World) : fnW PG note 400 Tryz.f185 [x0, x1] R w = C R x0 x1 w := by kernel_rfl
theorem ok {R : Ending → World → Prop} {x0 x1 : Value} {w : World} (h : C R x0 x1 w) : Calls PG N.image_tape_from #[x0, x1] w R :=
  fnW_sound mixed Tryz.func185 (args := [x0, x1]) (by rw [C_eq]; exact h)
end image_tape_from
namespace instr_Read
theorem okf : okFn PG N.instr_Read = true := by kernel_rfl
def note : Note := ⟨[(0, [25])], []⟩
def C (R : Ending → World → Prop) (x0 : Value) (w : World) : Prop :=
  alW (zc PG T.t_api_Ins) T.t_api_Ins (fun t2 w3 => alW (zc PG T.t_int) T.t_int (fun t4 w5 => alW (zc PG T.t_api_Errno) T.t_api_Errno (fun t6 w7 => pu PG (Instr.build T.t_instr_tape #[(0, x0)]) fun t10 => pu PG (Instr.build T.t_instr_reader #[(0, t10)]) fun t11 => alW (Value.cells t11) T.t_instr_reader (fun t12 w13 => callW PG N.instr_reader_number [t12, (.int .i64 1)] (fun t15 w16 => pu PG (convert T.t_uint64 T.t_api_Op t15) fun t17 => faW 0 t2 fun t18 => stW 1 t18 t17 (fun w19 => faW 0 t2 fun t25 => ldW none t25 w19 fun t26 => callW PG N.instr_is [t26] (fun t27 w28 => callW PG N.instr_must [t27, (.int .i64 180)] (fun t29 w30 => faW 0 t2 fun t41 => ldW none t41 w30 fun t42 => callW PG N.instr_named [t42] (fun t43 w44 => lnS t43 fun t45 => LoopW [(.int .i64 0)] (fun l51 N52 w53 => ∀ j50 : S, pu PG (binV .lss T.t_int false (gv l51 0) t45) fun t55 => condV t55 (ixS 4 t43 (gv l51 0) fun t59 => ldW (some 4) t59 w53 fun t60 => alW (zc PG T.t_instr_part) T.t_instr_part (fun t61 w62 => stW 4 t61 t60 (fun w63 => ∃ H64 : World → Prop, H64 (World.drew w63) ∧ (faW 3 t61 fun t65 => ldS none t65 H64 fun t66 => faW 0 t61 fun t67 => ldS none t67 H64 fun t68 => callW PG N.instr_reader_number [t12, t68] (fun t69 w70 => H64 w70 ∧ (callV PG t66 [t2, t69] (fun t71 w72 => pu PG (binV .add T.t_int true (gv l51 0) (.int .i64 1)) fun t83 => N52 [t83] w72) (fun c w => ∀ s73 : S, LvW PG ({ target := .fn (.func N.instr_caught) #[], args := #[t6, (.func (.func N.instr_Read_1) #[] #[t2, t4])] } :: []) (.panicking c) w (endV (fun w74 => ldW (some 5) t2 w74 fun t75 => ldW none t4 w74 fun t76 => ldW none t6 w74 fun t77 => R (.returned (.tuple #[t75, t76, t77])) w74) R)) w70)) (fun c w => ∀ s78 : S, LvW PG ({ target := .fn (.func N.instr_caught) #[], args := #[t6, (.func (.func N.instr_Read_1) #[] #[t2, t4])] } :: []) (.panicking c) w (endV (fun w79 => ldW (some 5) t2 w79 fun t80 => ldW none t4 w79 fun t81 => ldW none t6 w79 fun t82 => R (.returned (.tuple #[t80, t81, t82])) w79) R)) (World.drew w63))) w62) w53) (ldW (some 5) t2 w53 fun t85 => callW PG N.instr_right [t85] (fun t86 w87 => callW PG N.instr_must [t86, (.int .i64 180)] (fun t88 w89 => ∃ H99 : World → Prop, H99 (World.drew w89) ∧ (ldS (some 5) t2 H99 fun t100 => nlW t12 fun t101 => faW 1 t101 fun t102 => ldS none t102 H99 fun t103 => stW 5 t2 t100 (fun w104 => stW 1 t4 t103 (fun w105 => stW 1 t6 (.int .i64 0) (fun w106 => LvW PG ({ target := .fn (.func N.instr_caught) #[], args := #[t6, (.func (.func N.instr_Read_1) #[] #[t2, t4])] } :: []) .returning w106 (endV (fun w107 => ldW (some 5) t2 w107 fun t108 => ldW none t4 w107 fun t109 => ldW none t6 w107 fun t110 => R (.returned (.tuple #[t108, t109, t110])) w107) R)) w105) w104) (World.drew w89))) (fun c w => LvW PG ({ target := .fn (.func N.instr_caught) #[], args := #[t6, (.func (.func N.instr_Read_1) #[] #[t2, t4])] } :: []) (.panicking c) w (endV (fun w90 => ldW (some 5) t2 w90 fun t91 => ldW none t4 w90 fun t92 => ldW none t6 w90 fun t93 => R (.returned (.tuple #[t91, t92, t93])) w90) R)) w87) (fun c w => LvW PG ({ target := .fn (.func N.instr_caught) #[], args := #[t6, (.func (.func N.instr_Read_1) #[] #[t2, t4])] } :: []) (.panicking c) w (endV (fun w94 => ldW (some 5) t2 w94 fun t95 => ldW none t4 w94 fun t96 => ldW none t6 w94 fun t97 => R (.returned (.tuple #[t95, t96, t97])) w94) R)) w53)) w44) (fun c w => LvW PG ({ target := .fn (.func N.instr_caught) #[], args := #[t6, (.func (.func N.instr_Read_1) #[] #[t2, t4])] } :: []) (.panicking c) w (endV (fun w46 => ldW (some 5) t2 w46 fun t47 => ldW none t4 w46 fun t48 => ldW none t6 w46 fun t49 => R (.returned (.tuple #[t47, t48, t49])) w46) R)) w30) (fun c w => LvW PG ({ target := .fn (.func N.instr_caught) #[], args := #[t6, (.func (.func N.instr_Read_1) #[] #[t2, t4])] } :: []) (.panicking c) w (endV (fun w31 => ldW (some 5) t2 w31 fun t32 => ldW none t4 w31 fun t33 => ldW none t6 w31 fun t34 => R (.returned (.tuple #[t32, t33, t34])) w31) R)) w28) (fun c w => LvW PG ({ target := .fn (.func N.instr_caught) #[], args := #[t6, (.func (.func N.instr_Read_1) #[] #[t2, t4])] } :: []) (.panicking c) w (endV (fun w35 => ldW (some 5) t2 w35 fun t36 => ldW none t4 w35 fun t37 => ldW none t6 w35 fun t38 => R (.returned (.tuple #[t36, t37, t38])) w35) R)) w19) w16) (fun c w => LvW PG ({ target := .fn (.func N.instr_caught) #[], args := #[t6, (.func (.func N.instr_Read_1) #[] #[t2, t4])] } :: []) (.panicking c) w (endV (fun w20 => ldW (some 5) t2 w20 fun t21 => ldW none t4 w20 fun t22 => ldW none t6 w20 fun t23 => R (.returned (.tuple #[t21, t22, t23])) w20) R)) w13) w7) w5) w3) w
theorem C_eq (R : Ending → World → Prop) (x0 : Value) (w : World) : fnW PG note 400 Tryz.f186 [x0] R w = C R x0 w := by kernel_rfl
theorem ok {R : Ending → World → Prop} {x0 : Value} {w : World} (h : C R x0 w) : Calls PG N.instr_Read #[x0] w R :=
  fnW_sound mixed Tryz.func186 (args := [x0]) (by rw [C_eq]; exact h)
end instr_Read
namespace instr_Read_1
theorem okf : okFn PG N.instr_Read_1 = true := by kernel_rfl
def note : Note := ⟨[], []⟩
def C (R : Ending → World → Prop) (x0 x1 : Value) (w : World) : Prop :=
  pu PG (Instr.build T.t_api_Ins #[]) fun t1 => stW 5 x0 t1 (fun w2 => stW 1 x1 (.int .i64 0) (fun w3 => R (.returned (.tuple #[])) w3) w2) w
theorem C_eq (R : Ending → World → Prop) (x0 x1 : Value) (w : World) : fnW PG note 400 Tryz.f223 [x0, x1] R w = C R x0 x1 w := by kernel_rfl
theorem ok {R : Ending → World → Prop} {x0 x1 : Value} {w : World} (h : C R x0 x1 w) : Calls PG N.instr_Read_1 #[x0, x1] w R :=
  fnW_sound mixed Tryz.func223 (args := [x0, x1]) (by rw [C_eq]; exact h)
end instr_Read_1
namespace instr_reader_number
theorem okf : okFn PG N.instr_reader_number = true := by kernel_rfl
def note : Note := ⟨[], []⟩
def C (R : Ending → World → Prop) (x0 x1 : Value) (w : World) : Prop :=
  ∃ H3 : World → Prop, H3 (World.drew w) ∧ (nlW x0 fun t4 => faW 0 t4 fun t5 => ldS (some 1) t5 H3 fun t6 => nlW x0 fun t7 => faW 1 t7 fun t8 => ldS none t8 H3 fun t9 => callW PG N.instr_tape_left [t6, t9, x1] (fun t10 w11 => callW PG N.instr_must [t10, (.int .i64 110)] (fun t12 w13 => ∃ H17 : World → Prop, H17 (World.drew w13) ∧ (nlW x0 fun t18 => faW 0 t18 fun t19 => faW 0 t19 fun t20 => ldS none t20 H17 fun t21 => nlW x0 fun t22 => faW 1 t22 fun t23 => ldS none t23 H17 fun t24 => pu PG (Instr.sliceAt T.t_sl_uint8 t21 (some t24) none none) fun t25 => callW PG N.octet_ReadFixed [t25, x1] (fun t26 w27 => exW 0 t26 fun t28 => exW 1 t26 fun t29 => nlW x0 fun t32 => faW 1 t32 fun t33 => ldW none t33 w27 fun t34 => pu PG (binV .add T.t_int false t34 x1) fun t35 => nlW x0 fun t36 => faW 1 t36 fun t37 => stW 1 t37 t35 (fun w38 => R (.returned t28) w38) w27) (fun c w => ∀ s30 : S, R (.panicked c) w) (World.drew w13))) (fun c w => ∀ s14 : S, R (.panicked c) w) w11) (fun c w => ∀ s15 : S, R (.panicked c) w) (World.drew w))
theorem C_eq (R : Ending → World → Prop) (x0 x1 : Value) (w : World) : fnW PG note 400 Tryz.f224 [x0, x1] R w = C R x0 x1 w := by kernel_rfl
theorem ok {R : Ending → World → Prop} {x0 x1 : Value} {w : World} (h : C R x0 x1 w) : Calls PG N.instr_reader_number #[x0, x1] w R :=
  fnW_sound mixed Tryz.func224 (args := [x0, x1]) (by rw [C_eq]; exact h)
end instr_reader_number
namespace instr_must
theorem okf : okFn PG N.instr_must = true := by kernel_rfl
def note : Note := ⟨[], []⟩
def C (R : Ending → World → Prop) (x0 x1 : Value) (w : World) : Prop :=
  pu PG (Op.unary .not x0) fun t2 => condV t2 (R (.panicked [{ v := (.iface T.t_api_Errno x1), recovered := false }]) w) (R (.returned (.tuple #[])) w)
theorem C_eq (R : Ending → World → Prop) (x0 x1 : Value) (w : World) : fnW PG note 400 Tryz.f225 [x0, x1] R w = C R x0 x1 w := by kernel_rfl
theorem ok {R : Ending → World → Prop} {x0 x1 : Value} {w : World} (h : C R x0 x1 w) : Calls PG N.instr_must #[x0, x1] w R :=
  fnW_sound mixed Tryz.func225 (args := [x0, x1]) (by rw [C_eq]; exact h)
end instr_must
namespace instr_tape_left
theorem okf : okFn PG N.instr_tape_left = true := by kernel_rfl
def note : Note := ⟨[], []⟩
def C (R : Ending → World → Prop) (x0 x1 x2 : Value) (w : World) : Prop :=
  alW (Value.cells x0) T.t_instr_tape (fun t2 w3 => faW 0 t2 fun t5 => ldW none t5 w3 fun t6 => lnS t6 fun t7 => pu PG (binV .sub T.t_int false t7 x1) fun t8 => pu PG (binV .geq T.t_int false t8 x2) fun t9 => R (.returned t9) w3) w
theorem C_eq (R : Ending → World → Prop) (x0 x1 x2 : Value) (w : World) : fnW PG note 400 Tryz.f231 [x0, x1, x2] R w = C R x0 x1 x2 w := by kernel_rfl
theorem ok {R : Ending → World → Prop} {x0 x1 x2 : Value} {w : World} (h : C R x0 x1 x2 w) : Calls PG N.instr_tape_left #[x0, x1, x2] w R :=
  fnW_sound mixed Tryz.func231 (args := [x0, x1, x2]) (by rw [C_eq]; exact h)
end instr_tape_left
end Go.Proofs.YtkkkcafkepnecaaGreat
