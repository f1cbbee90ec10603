/- Conditions of functions, printed by a program of this session (gen.py) and checked by the kernel. -/
import Derived.Test.YtkkkcafkepnecaaGreatZB
set_option linter.unusedVariables false
namespace Go.Proofs.YtkkkcafkepnecaaGreat
open Go Go.RowKit Vc

namespace image_Decode
theorem okf : okFn PG N.image_Decode = true := by kernel_rfl
def note : Note := ⟨[], []⟩
def C (R : Ending → World → Prop) (x0 : Value) (w : World) : Prop :=
  alW (zc PG T.t_api_Program) T.t_api_Program (fun t2 w3 => callW PG N.image_first [x0] (fun t5 w6 => exW 0 t5 fun t7 => exW 1 t5 fun t8 => exW 2 t5 fun t9 => stW 4 t2 t7 (fun w10 => pu PG (binV .eql T.t_api_Errno true t9 (.int .i64 0)) fun t13 => condV t13 (lnS x0 fun t14 => pu PG (binV .lss T.t_int false t8 t14) fun t15 => condV t15 (pu PG (Instr.build T.t_api_Program #[]) fun t17 => stW 4 t2 t17 (fun w18 => ldW (some 4) t2 w18 fun t19 => R (.returned (.tuple #[t19, (.int .i64 200)])) w18) w10) (ldW (some 4) t2 w10 fun t21 => stW 4 t2 t21 (fun w22 => ldW (some 4) t2 w22 fun t23 => R (.returned (.tuple #[t23, t9])) w22) w10)) (ldW (some 4) t2 w10 fun t25 => stW 4 t2 t25 (fun w26 => ldW (some 4) t2 w26 fun t27 => R (.returned (.tuple #[t27, t9])) w26) w10)) w6) (fun c w => R (.panicked c) w) w3) w
theorem C_eq (R : Ending → World → Prop) (x0 : Value) (w : World) : fnW PG note 400 Tryz.f19 [x0] R w = C R x0 w := by kernel_rfl
theorem ok {R : Ending → World → Prop} {x0 : Value} {w : World} (h : C R x0 w) : Calls PG N.image_Decode #[x0] w R :=
  fnW_sound mixed Tryz.func19 (args := [x0]) (by rw [C_eq]; exact h)
end image_Decode
namespace image_Is
theorem okf : okFn PG N.image_Is = true := by kernel_rfl
def note : Note := ⟨[], []⟩
def C (R : Ending → World → Prop) (x0 : Value) (w : World) : Prop :=
  callW PG N.image_Decode [x0] (fun t3 w4 => exW 0 t3 fun t5 => exW 1 t3 fun t6 => alW (zc PG T.t_api_Program) T.t_api_Program (fun t7 w8 => stW 4 t7 t5 (fun w9 => pu PG (binV .eql T.t_api_Errno true t6 (.int .i64 0)) fun t11 => R (.returned t11) w9) w8) w4) (fun c w => R (.panicked c) w) w
theorem C_eq (R : Ending → World → Prop) (x0 : Value) (w : World) : fnW PG note 400 Tryz.f27 [x0] R w = C R x0 w := by kernel_rfl
theorem ok {R : Ending → World → Prop} {x0 : Value} {w : World} (h : C R x0 w) : Calls PG N.image_Is #[x0] w R :=
  fnW_sound mixed Tryz.func27 (args := [x0]) (by rw [C_eq]; exact h)
end image_Is
namespace image_first
theorem okf : okFn PG N.image_first = true := by kernel_rfl
def note : Note := ⟨[], []⟩
def C (R : Ending → World → Prop) (x0 : Value) (w : World) : Prop :=
  alW (zc PG T.t_api_Program) T.t_api_Program (fun t2 w3 => alW (zc PG T.t_int) T.t_int (fun t4 w5 => alW (zc PG T.t_api_Errno) T.t_api_Errno (fun t6 w7 => pu PG (Instr.build T.t_image_tape #[(0, x0)]) fun t10 => pu PG (Instr.build T.t_image_reader #[(0, t10)]) fun t11 => alW (Value.cells t11) T.t_image_reader (fun t12 w13 => callW PG N.image_reader_program [t12] (fun t15 w16 => stW 4 t2 t15 (fun w17 => ∃ H23 : World → Prop, H23 (World.drew w17) ∧ (ldW (some 4) t2 (World.drew w17) fun t24 => nlW t12 fun t25 => faW 1 t25 fun t26 => ldS none t26 H23 fun t27 => stW 4 t2 t24 (fun w28 => H23 w28 ∧ (stW 1 t4 t27 (fun w29 => stW 1 t6 (.int .i64 0) (fun w30 => LvW PG ({ target := .fn (.func N.image_caught) #[], args := #[t6, (.func (.func N.image_first_1) #[] #[t2, t4])] } :: []) .returning w30 (endV (fun w31 => ldW (some 4) t2 w31 fun t32 => ldW none t4 w31 fun t33 => ldW none t6 w31 fun t34 => R (.returned (.tuple #[t32, t33, t34])) w31) R)) w29) w28)) (World.drew w17))) w16) (fun c w => LvW PG ({ target := .fn (.func N.image_caught) #[], args := #[t6, (.func (.func N.image_first_1) #[] #[t2, t4])] } :: []) (.panicking c) w (endV (fun w18 => ldW (some 4) t2 w18 fun t19 => ldW none t4 w18 fun t20 => ldW none t6 w18 fun t21 => R (.returned (.tuple #[t19, t20, t21])) w18) R)) w13) w7) w5) w3) w
theorem C_eq (R : Ending → World → Prop) (x0 : Value) (w : World) : fnW PG note 400 Tryz.f66 [x0] R w = C R x0 w := by kernel_rfl
theorem ok {R : Ending → World → Prop} {x0 : Value} {w : World} (h : C R x0 w) : Calls PG N.image_first #[x0] w R :=
  fnW_sound mixed Tryz.func66 (args := [x0]) (by rw [C_eq]; exact h)
end image_first
namespace image_writer_byte
theorem okf : okFn PG N.image_writer_byte = true := by kernel_rfl
def note : Note := ⟨[], []⟩
def C (R : Ending → World → Prop) (x0 x1 : Value) (w : World) : Prop :=
  pu PG (convert T.t_int T.t_uint64 x1) fun t1 => callW PG N.image_writer_number [x0, t1, (.int .i64 1)] (fun t2 w3 => R (.returned (.tuple #[])) w3) (fun c w => R (.panicked c) w) w
theorem C_eq (R : Ending → World → Prop) (x0 x1 : Value) (w : World) : fnW PG note 400 Tryz.f68 [x0, x1] R w = C R x0 x1 w := by kernel_rfl
theorem ok {R : Ending → World → Prop} {x0 x1 : Value} {w : World} (h : C R x0 x1 w) : Calls PG N.image_writer_byte #[x0, x1] w R :=
  fnW_sound mixed Tryz.func68 (args := [x0, x1]) (by rw [C_eq]; exact h)
end image_writer_byte
namespace image_each_int
theorem okf : okFn PG N.image_each_int = true := by kernel_rfl
def note : Note := ⟨[(0, [8])], []⟩
def C (R : Ending → World → Prop) (x0 x1 : Value) (w : World) : Prop :=
  lnS x1 fun t2 => LoopW [(.int .i64 0)] (fun l4 N5 w6 => ∀ j3 : S, pu PG (binV .lss T.t_int false (gv l4 0) t2) fun t8 => condV t8 (ixS 1 x1 (gv l4 0) fun t12 => ldW none t12 w6 fun t13 => callV PG x0 [t13] (fun t14 w15 => pu PG (binV .add T.t_int true (gv l4 0) (.int .i64 1)) fun t16 => N5 [t16] w15) (fun c w => R (.panicked c) w) w6) (R (.returned (.tuple #[])) w6)) w
theorem C_eq (R : Ending → World → Prop) (x0 x1 : Value) (w : World) : fnW PG note 400 Tryz.f69 [x0, x1] R w = C R x0 x1 w := by kernel_rfl
theorem ok {R : Ending → World → Prop} {x0 x1 : Value} {w : World} (h : C R x0 x1 w) : Calls PG N.image_each_int #[x0, x1] w R :=
  fnW_sound mixed Tryz.func69 (args := [x0, x1]) (by rw [C_eq]; exact h)
end image_each_int
namespace image_writer_number
theorem okf : okFn PG N.image_writer_number = true := by kernel_rfl
def note : Note := ⟨[], []⟩
def C (R : Ending → World → Prop) (x0 x1 x2 : Value) (w : World) : Prop :=
  callW PG N.octet_Fixed [x1, x2] (fun t2 w3 => exW 0 t2 fun t4 => exW 1 t2 fun t5 => nlW x0 fun t6 => faW 0 t6 fun t7 => ldW none t7 w3 fun t8 => opW PG (Builtin.append_ #[T.t_sl_uint8, T.t_sl_uint8] T.t_sl_uint8 #[t8, t4]) (fun t9 w10 => nlW x0 fun t11 => faW 0 t11 fun t12 => stW 1 t12 t9 (fun w13 => R (.returned (.tuple #[])) w13) w10) w3) (fun c w => R (.panicked c) w) w
theorem C_eq (R : Ending → World → Prop) (x0 x1 x2 : Value) (w : World) : fnW PG note 400 Tryz.f70 [x0, x1, x2] R w = C R x0 x1 x2 w := by kernel_rfl
theorem ok {R : Ending → World → Prop} {x0 x1 x2 : Value} {w : World} (h : C R x0 x1 x2 w) : Calls PG N.image_writer_number #[x0, x1, x2] w R :=
  fnW_sound mixed Tryz.func70 (args := [x0, x1, x2]) (by rw [C_eq]; exact h)
end image_writer_number
namespace image_first_1
theorem okf : okFn PG N.image_first_1 = true := by kernel_rfl
def note : Note := ⟨[], []⟩
def C (R : Ending → World → Prop) (x0 x1 : Value) (w : World) : Prop :=
  pu PG (Instr.build T.t_api_Program #[]) fun t1 => stW 4 x0 t1 (fun w2 => stW 1 x1 (.int .i64 0) (fun w3 => R (.returned (.tuple #[])) w3) w2) w
theorem C_eq (R : Ending → World → Prop) (x0 x1 : Value) (w : World) : fnW PG note 400 Tryz.f111 [x0, x1] R w = C R x0 x1 w := by kernel_rfl
theorem ok {R : Ending → World → Prop} {x0 x1 : Value} {w : World} (h : C R x0 x1 w) : Calls PG N.image_first_1 #[x0, x1] w R :=
  fnW_sound mixed Tryz.func111 (args := [x0, x1]) (by rw [C_eq]; exact h)
end image_first_1
end Go.Proofs.YtkkkcafkepnecaaGreat
