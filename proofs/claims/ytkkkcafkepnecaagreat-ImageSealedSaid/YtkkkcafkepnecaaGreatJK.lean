/- Conditions of functions, printed by a program of this session (gen.py) and checked by the kernel. -/
import Derived.Test.YtkkkcafkepnecaaGreatZB
set_option linter.unusedVariables false
namespace Go.Proofs.YtkkkcafkepnecaaGreat
open Go Go.RowKit Vc

namespace image_writer_byte
theorem okf : okFn PG N.image_writer_byte = true := by kernel_rfl
def note : Note := ⟨[], []⟩
def C (R : Ending → World → Prop) (x0 x1 : Value) (w : World) : Prop :=
  pu PG (convert T.t_int T.t_uint64 x1) fun t1 => callW PG N.image_writer_number [x0, t1, (.int .i64 1)] (fun t2 w3 => R (.returned (.tuple #[])) w3) (fun c w => R (.panicked c) w) w
theorem C_eq (R : Ending → World → Prop) (x0 x1 : Value) (w : World) : fnW PG note 400 Tryz.f68 [x0, x1] R w = C R x0 x1 w := by kernel_rfl
theorem ok {R : Ending → World → Prop} {x0 x1 : Value} {w : World} (h : C R x0 x1 w) : Calls PG N.image_writer_byte #[x0, x1] w R :=
  fnW_sound mixed Tryz.func68 (args := [x0, x1]) (by rw [C_eq]; exact h)
end image_writer_byte
namespace image_each_int
theorem okf : okFn PG N.image_each_int = true := by kernel_rfl
def note : Note := ⟨[(0, [8])], []⟩
def C (R : Ending → World → Prop) (x0 x1 : Value) (w : World) : Prop :=
  lnS x1 fun t2 => LoopW [(.int .i64 0)] (fun l4 N5 w6 => ∀ j3 : S, pu PG (binV .lss T.t_int false (gv l4 0) t2) fun t8 => condV t8 (ixS 1 x1 (gv l4 0) fun t12 => ldW none t12 w6 fun t13 => callV PG x0 [t13] (fun t14 w15 => pu PG (binV .add T.t_int true (gv l4 0) (.int .i64 1)) fun t16 => N5 [t16] w15) (fun c w => R (.panicked c) w) w6) (R (.returned (.tuple #[])) w6)) w
theorem C_eq (R : Ending → World → Prop) (x0 x1 : Value) (w : World) : fnW PG note 400 Tryz.f69 [x0, x1] R w = C R x0 x1 w := by kernel_rfl
theorem ok {R : Ending → World → Prop} {x0 x1 : Value} {w : World} (h : C R x0 x1 w) : Calls PG N.image_each_int #[x0, x1] w R :=
  fnW_sound mixed Tryz.func69 (args := [x0, x1]) (by rw [C_eq]; exact h)
end image_each_int
namespace image_writer_number
theorem okf : okFn PG N.image_writer_number = true := by kernel_rfl
def note : Note := ⟨[], []⟩
def C (R : Ending → World → Prop) (x0 x1 x2 : Value) (w : World) : Prop :=
  callW PG N.octet_Fixed [x1, x2] (fun t2 w3 => exW 0 t2 fun t4 => exW 1 t2 fun t5 => nlW x0 fun t6 => faW 0 t6 fun t7 => ldW none t7 w3 fun t8 => opW PG (Builtin.append_ #[T.t_sl_uint8, T.t_sl_uint8] T.t_sl_uint8 #[t8, t4]) (fun t9 w10 => nlW x0 fun t11 => faW 0 t11 fun t12 => stW 1 t12 t9 (fun w13 => R (.returned (.tuple #[])) w13) w10) w3) (fun c w => R (.panicked c) w) w
theorem C_eq (R : Ending → World → Prop) (x0 x1 x2 : Value) (w : World) : fnW PG note 400 Tryz.f70 [x0, x1, x2] R w = C R x0 x1 x2 w := by kernel_rfl
theorem ok {R : Ending → World → Prop} {x0 x1 x2 : Value} {w : World} (h : C R x0 x1 x2 w) : Calls PG N.image_writer_number #[x0, x1, x2] w R :=
  fnW_sound mixed Tryz.func70 (args := [x0, x1, x2]) (by rw [C_eq]; exact h)
end image_writer_number
end Go.Proofs.YtkkkcafkepnecaaGreat
