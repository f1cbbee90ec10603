/- Conditions of functions, printed by a program of this session (gen.py) and checked by the kernel. -/
import Derived.Test.YtkkkcafkepnecaaGreatZB
set_option linter.unusedVariables false
namespace Go.Proofs.YtkkkcafkepnecaaGreat
open Go Go.RowKit Vc

namespace image_begins
theorem okf : okFn PG N.image_begins = true := by kernel_rfl
def note : Note := ⟨[], []⟩
def C (R : Ending → World → Prop) (w : World) : Prop :=
  alW (zc PG T.t_4_uint8) T.t_4_uint8 (fun t2 w3 => pu PG (Instr.build T.t_4_uint8 #[(0, (.int .u8 108)), (1, (.int .u8 105)), (2, (.int .u8 110)), (3, (.int .u8 101))]) fun t5 => stW 4 t2 t5 (fun w6 => ldW (some 4) t2 w6 fun t7 => R (.returned t7) w6) w3) w
theorem C_eq (R : Ending → World → Prop) (w : World) : fnW PG note 400 Tryz.f67 [] R w = C R  w := by kernel_rfl
theorem ok {R : Ending → World → Prop} {w : World} (h : C R  w) : Calls PG N.image_begins #[] w R :=
  fnW_sound mixed Tryz.func67 (args := []) (by rw [C_eq]; exact h)
end image_begins
namespace image_must
theorem okf : okFn PG N.image_must = true := by kernel_rfl
def note : Note := ⟨[], []⟩
def C (R : Ending → World → Prop) (x0 x1 : Value) (w : World) : Prop :=
  pu PG (Op.unary .not x0) fun t2 => condV t2 (R (.panicked [{ v := (.iface T.t_api_Errno x1), recovered := false }]) w) (R (.returned (.tuple #[])) w)
theorem C_eq (R : Ending → World → Prop) (x0 x1 : Value) (w : World) : fnW PG note 400 Tryz.f150 [x0, x1] R w = C R x0 x1 w := by kernel_rfl
theorem ok {R : Ending → World → Prop} {x0 x1 : Value} {w : World} (h : C R x0 x1 w) : Calls PG N.image_must #[x0, x1] w R :=
  fnW_sound mixed Tryz.func150 (args := [x0, x1]) (by rw [C_eq]; exact h)
end image_must
namespace image_reader_byte
theorem okf : okFn PG N.image_reader_byte = true := by kernel_rfl
def note : Note := ⟨[], []⟩
def C (R : Ending → World → Prop) (x0 : Value) (w : World) : Prop :=
  callW PG N.image_reader_number [x0, (.int .i64 1)] (fun t3 w4 => pu PG (convert T.t_uint64 T.t_int t3) fun t5 => R (.returned t5) w4) (fun c w => R (.panicked c) w) w
theorem C_eq (R : Ending → World → Prop) (x0 : Value) (w : World) : fnW PG note 400 Tryz.f151 [x0] R w = C R x0 w := by kernel_rfl
theorem ok {R : Ending → World → Prop} {x0 : Value} {w : World} (h : C R x0 w) : Calls PG N.image_reader_byte #[x0] w R :=
  fnW_sound mixed Tryz.func151 (args := [x0]) (by rw [C_eq]; exact h)
end image_reader_byte
namespace image_reader_number
theorem okf : okFn PG N.image_reader_number = true := by kernel_rfl
def note : Note := ⟨[], []⟩
def C (R : Ending → World → Prop) (x0 x1 : Value) (w : World) : Prop :=
  ∃ H3 : World → Prop, H3 (World.drew w) ∧ (nlW x0 fun t4 => faW 0 t4 fun t5 => ldS (some 1) t5 H3 fun t6 => nlW x0 fun t7 => faW 1 t7 fun t8 => ldS none t8 H3 fun t9 => callW PG N.image_tape_from [t6, t9] (fun t10 w11 => callW PG N.octet_ReadFixed [t10, x1] (fun t12 w13 => exW 0 t12 fun t14 => exW 1 t12 fun t15 => pu PG (binV .eql T.t_api_Errno true t15 (.int .i64 0)) fun t19 => callW PG N.image_must [t19, t15] (fun t20 w21 => nlW x0 fun t23 => faW 1 t23 fun t24 => ldW none t24 w21 fun t25 => pu PG (binV .add T.t_int false t25 x1) fun t26 => nlW x0 fun t27 => faW 1 t27 fun t28 => stW 1 t28 t26 (fun w29 => R (.returned t14) w29) w21) (fun c w => R (.panicked c) w) w13) (fun c w => ∀ s16 : S, R (.panicked c) w) w11) (fun c w => ∀ s17 : S, R (.panicked c) w) (World.drew w))
theorem C_eq (R : Ending → World → Prop) (x0 x1 : Value) (w : World) : fnW PG note 400 Tryz.f152 [x0, x1] R w = C R x0 x1 w := by kernel_rfl
theorem ok {R : Ending → World → Prop} {x0 x1 : Value} {w : World} (h : C R x0 x1 w) : Calls PG N.image_reader_number #[x0, x1] w R :=
  fnW_sound mixed Tryz.func152 (args := [x0, x1]) (by rw [C_eq]; exact h)
end image_reader_number
namespace image_reader_ins
theorem okf : okFn PG N.image_reader_ins = true := by kernel_rfl
def note : Note := ⟨[], []⟩
def C (R : Ending → World → Prop) (x0 : Value) (w : World) : Prop :=
  alW (zc PG T.t_api_Ins) T.t_api_Ins (fun t2 w3 => ∃ H5 : World → Prop, H5 (World.drew w3) ∧ (nlW x0 fun t6 => faW 0 t6 fun t7 => ldS (some 1) t7 H5 fun t8 => nlW x0 fun t9 => faW 1 t9 fun t10 => ldS none t10 H5 fun t11 => (callW PG N.image_tape_from [t8, t11] (fun t12 w13 => (callW PG N.instr_Read [t12] (fun t14 w15 => exW 0 t14 fun t16 => exW 1 t14 fun t17 => exW 2 t14 fun t18 => alW (zc PG T.t_api_Ins) T.t_api_Ins (fun t19 w20 => H5 w20 ∧ (stW 5 t19 t16 (fun w21 => pu PG (binV .neq T.t_api_Errno true t18 (.int .i64 180)) fun t46 => callW PG N.image_must [t46, (.int .i64 200)] (fun t47 w48 => pu PG (binV .eql T.t_api_Errno true t18 (.int .i64 0)) fun t50 => callW PG N.image_must [t50, t18] (fun t51 w52 => nlW x0 fun t54 => faW 1 t54 fun t55 => ldW none t55 w52 fun t56 => pu PG (binV .add T.t_int false t56 t17) fun t57 => nlW x0 fun t58 => faW 1 t58 fun t59 => stW 1 t59 t57 (fun w60 => ldW (some 5) t19 w60 fun t62 => stW 5 t2 t62 (fun w63 => ldW (some 5) t2 w63 fun t64 => R (.returned t64) w63) w60) w52) (fun c w => R (.panicked c) w) w48) (fun c w => R (.panicked c) w) w21) w20)) w15) (fun c w => ∀ s22 : S, R (.panicked c) w) w13) ∧ (alW (zc PG T.t_api_Ins) T.t_api_Ins (fun t23 w24 => H5 w24 ∧ (callW PG N.instr_Read [t12] (fun t25 w26 => exW 0 t25 fun t27 => exW 1 t25 fun t28 => exW 2 t25 fun t29 => stW 5 t23 t27 (fun w30 => pu PG (binV .neq T.t_api_Errno true t29 (.int .i64 180)) fun t66 => callW PG N.image_must [t66, (.int .i64 200)] (fun t67 w68 => pu PG (binV .eql T.t_api_Errno true t29 (.int .i64 0)) fun t70 => callW PG N.image_must [t70, t29] (fun t71 w72 => nlW x0 fun t74 => faW 1 t74 fun t75 => ldW none t75 w72 fun t76 => pu PG (binV .add T.t_int false t76 t28) fun t77 => nlW x0 fun t78 => faW 1 t78 fun t79 => stW 1 t79 t77 (fun w80 => ldW (some 5) t23 w80 fun t82 => stW 5 t2 t82 (fun w83 => ldW (some 5) t2 w83 fun t84 => R (.returned t84) w83) w80) w72) (fun c w => R (.panicked c) w) w68) (fun c w => R (.panicked c) w) w30) w26) (fun c w => ∀ s31 : S, R (.panicked c) w) w24)) w13)) (fun c w => ∀ s32 : S, R (.panicked c) w) (World.drew w3)) ∧ (alW (zc PG T.t_api_Ins) T.t_api_Ins (fun t33 w34 => H5 w34 ∧ (callW PG N.image_tape_from [t8, t11] (fun t35 w36 => callW PG N.instr_Read [t35] (fun t37 w38 => exW 0 t37 fun t39 => exW 1 t37 fun t40 => exW 2 t37 fun t41 => stW 5 t33 t39 (fun w42 => pu PG (binV .neq T.t_api_Errno true t41 (.int .i64 180)) fun t86 => callW PG N.image_must [t86, (.int .i64 200)] (fun t87 w88 => pu PG (binV .eql T.t_api_Errno true t41 (.int .i64 0)) fun t90 => callW PG N.image_must [t90, t41] (fun t91 w92 => nlW x0 fun t94 => faW 1 t94 fun t95 => ldW none t95 w92 fun t96 => pu PG (binV .add T.t_int false t96 t40) fun t97 => nlW x0 fun t98 => faW 1 t98 fun t99 => stW 1 t99 t97 (fun w100 => ldW (some 5) t33 w100 fun t102 => stW 5 t2 t102 (fun w103 => ldW (some 5) t2 w103 fun t104 => R (.returned t104) w103) w100) w92) (fun c w => R (.panicked c) w) w88) (fun c w => R (.panicked c) w) w42) w38) (fun c w => ∀ s43 : S, R (.panicked c) w) w36) (fun c w => ∀ s44 : S, R (.panicked c) w) w34)) (World.drew w3)))) w
theorem C_eq (R : Ending → World → Prop) (x0 : Value) (w : World) : fnW PG note 400 Tryz.f153 [x0] R w = C R x0 w := by kernel_rfl
theorem ok {R : Ending → World → Prop} {x0 : Value} {w : World} (h : C R x0 w) : Calls PG N.image_reader_ins #[x0] w R :=
  fnW_sound mixed Tryz.func153 (args := [x0]) (by rw [C_eq]; exact h)
end image_reader_ins
namespace image_tape_from
theorem okf : okFn PG N.image_tape_from = true := by kernel_rfl
def note : Note := ⟨[], []⟩
def C (R : Ending → World → Prop) (x0 x1 : Value) (w : World) : Prop :=
  alW (Value.cells x0) T.t_image_tape (fun t2 w3 => faW 0 t2 fun t5 => ldW none t5 w3 fun t6 => faW 0 t2 fun t7 => ldW none t7 w3 fun t8 => lnS t8 fun t9 => faW 0 t2 fun t10 => ldW none t10 w3 fun t11 => lnS t11 fun t12 => pu PG (Instr.sliceAt T.t_sl_uint8 t6 (some x1) (some t9) (some t12)) fun t13 => R (.returned t13) w3) w
theorem C_eq (R : Ending → World → Prop) (x0 x1 : Value) (w : World) : fnW PG note 400 Tryz.f185 [x0, x1] R w = C R x0 x1 w := by kernel_rfl
theorem ok {R : Ending → World → Prop} {x0 x1 : Value} {w : World} (h : C R x0 x1 w) : Calls PG N.image_tape_from #[x0, x1] w R :=
  fnW_sound mixed Tryz.func185 (args := [x0, x1]) (by rw [C_eq]; exact h)
end image_tape_from
end Go.Proofs.YtkkkcafkepnecaaGreat
