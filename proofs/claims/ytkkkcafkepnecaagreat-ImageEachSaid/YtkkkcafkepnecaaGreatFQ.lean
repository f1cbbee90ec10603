/- Conditions of functions, printed by a program of this session (gen.py) and checked by the kernel. -/
import Derived.Test.YtkkkcafkepnecaaGreatZB
set_option linter.unusedVariables false
namespace Go.Proofs.YtkkkcafkepnecaaGreat
open Go Go.RowKit Vc

namespace linesmanref08_in
theorem okf : okFn PG N.linesmanref08_in = true := by kernel_rfl
def note : Note := ⟨[(0, [6])], []⟩
def C (R : Ending → World → Prop) (x0 x1 : Value) (w : World) : Prop :=
  callW PG N.linesmanref08_Names [x0] (fun t3 w4 => LoopW [(.int .i64 0)] (fun l8 N9 w10 => ∀ j7 : S, lnT t3 fun t13 => pu PG (binV .lss T.t_int false (gv l8 0) t13) fun t14 => condV t14 (ixT t3 (gv l8 0) fun t17 => pu PG (binV .eql T.t_uint8 false t17 x1) fun t18 => condV t18 (R (.returned (.bool true)) w10) (pu PG (binV .add T.t_int true (gv l8 0) (.int .i64 1)) fun t20 => N9 [t20] w10)) (R (.returned (.bool false)) w10)) w4) (fun c w => R (.panicked c) w) w
theorem C_eq (R : Ending → World → Prop) (x0 x1 : Value) (w : World) : fnW PG note 400 Tryz.f164 [x0, x1] R w = C R x0 x1 w := by kernel_rfl
theorem ok {R : Ending → World → Prop} {x0 x1 : Value} {w : World} (h : C R x0 x1 w) : Calls PG N.linesmanref08_in #[x0, x1] w R :=
  fnW_sound mixed Tryz.func164 (args := [x0, x1]) (by rw [C_eq]; exact h)
end linesmanref08_in
namespace linesmanref08_Names
theorem okf : okFn PG N.linesmanref08_Names = true := by kernel_rfl
def note : Note := ⟨[], []⟩
def C (R : Ending → World → Prop) (x0 : Value) (w : World) : Prop :=
  pu PG (binV .lss T.t_int true x0 (.int .i64 1)) fun t4 => condV t4 (R (.returned (.string (bs [45]))) w) (pu PG (binV .gtr T.t_int true x0 (.int .i64 19)) fun t5 => condV t5 (R (.returned (.string (bs [45]))) w) (bsW T.t_string 19 (bsC PG T.t_string 19 [(0, (.string (bs [97, 105]))), (1, (.string (bs [97, 98]))), (2, (.string (bs [97, 98, 99, 107]))), (3, (.string (bs [105]))), (4, (.string (bs [97, 105]))), (5, (.string (bs [97, 98]))), (6, (.string (bs [97, 98]))), (7, (.string (bs [97, 98, 110, 102]))), (8, (.string (bs [97]))), (9, (.string (bs [98, 110, 102]))), (10, (.string (bs [97]))), (11, (.string (bs [97]))), (12, (.string (bs [97]))), (13, (.string (bs [97]))), (14, (.string (bs [97]))), (15, (.string (bs [97]))), (16, (.string (bs [97, 98]))), (17, (.string (bs [97]))), (18, (.string (bs [])))]) (fun t9 w10 => pu PG (binV .sub T.t_int true x0 (.int .i64 1)) fun t11 => ixS 1 t9 t11 fun t12 => ldW none t12 w10 fun t13 => R (.returned t13) w10) w))
theorem C_eq (R : Ending → World → Prop) (x0 : Value) (w : World) : fnW PG note 400 Tryz.f198 [x0] R w = C R x0 w := by kernel_rfl
theorem ok {R : Ending → World → Prop} {x0 : Value} {w : World} (h : C R x0 w) : Calls PG N.linesmanref08_Names #[x0] w R :=
  fnW_sound mixed Tryz.func198 (args := [x0]) (by rw [C_eq]; exact h)
end linesmanref08_Names
namespace linesmanref08_reg
theorem okf : okFn PG N.linesmanref08_reg = true := by kernel_rfl
def note : Note := ⟨[], []⟩
def C (R : Ending → World → Prop) (x0 x1 : Value) (w : World) : Prop :=
  pu PG (binV .eql T.t_int true x0 (.int .i64 0)) fun t3 => condV t3 (R (.returned (.bool true)) w) (condV x1 (pu PG (binV .geq T.t_int true x0 (.int .i64 0)) fun t4 => condV t4 (pu PG (binV .leq T.t_int true x0 (.int .i64 15)) fun t5 => R (.returned t5) w) (R (.returned (.bool false)) w)) (R (.returned (.bool false)) w))
theorem C_eq (R : Ending → World → Prop) (x0 x1 : Value) (w : World) : fnW PG note 400 Tryz.f199 [x0, x1] R w = C R x0 x1 w := by kernel_rfl
theorem ok {R : Ending → World → Prop} {x0 x1 : Value} {w : World} (h : C R x0 x1 w) : Calls PG N.linesmanref08_reg #[x0, x1] w R :=
  fnW_sound mixed Tryz.func199 (args := [x0, x1]) (by rw [C_eq]; exact h)
end linesmanref08_reg
end Go.Proofs.YtkkkcafkepnecaaGreat
