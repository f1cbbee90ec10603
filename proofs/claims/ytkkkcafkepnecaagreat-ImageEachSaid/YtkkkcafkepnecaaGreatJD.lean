/- Conditions of functions, printed by a program of this session (gen.py) and checked by the kernel. -/
import Derived.Test.YtkkkcafkepnecaaGreatZB
set_option linter.unusedVariables false
namespace Go.Proofs.YtkkkcafkepnecaaGreat
open Go Go.RowKit Vc

namespace linesmanref01_Fixed
theorem okf : okFn PG N.linesmanref01_Fixed = true := by kernel_rfl
def note : Note := ⟨[(0, [0, 7])], []⟩
def C (R : Ending → World → Prop) (x0 x1 : Value) (w : World) : Prop :=
  callW PG N.linesmanref01_right [x1] (fun t4 w5 => pu PG (Op.unary .not t4) fun t6 => condV t6 (R (.returned (.tuple #[(.slice none 0 0), (.int .i64 2)])) w5) (mkW T.t_uint8 1 1 (zo PG T.t_uint8) x1 x1 (fun t9 w10 => LoopW [x0, (.int .i64 0)] (fun l14 N15 w16 => ∀ j13 : S, pu PG (binV .lss T.t_int false (gv l14 1) x1) fun t19 => condV t19 (pu PG (binV .rem T.t_uint64 true (gv l14 0) (.int .u64 256)) fun t22 => pu PG (convert T.t_uint64 T.t_uint8 t22) fun t23 => ixS 1 t9 (gv l14 1) fun t24 => stW 1 t24 t23 (fun w25 => pu PG (binV .quo T.t_uint64 true (gv l14 0) (.int .u64 256)) fun t26 => pu PG (binV .add T.t_int true (gv l14 1) (.int .i64 1)) fun t27 => N15 [t26, t27] w25) w16) (pu PG (binV .gtr T.t_uint64 true (gv l14 0) (.int .u64 0)) fun t30 => condV t30 (R (.returned (.tuple #[(.slice none 0 0), (.int .i64 4)])) w16) (R (.returned (.tuple #[t9, (.int .i64 0)])) w16))) w10) w5)) (fun c w => R (.panicked c) w) w
theorem C_eq (R : Ending → World → Prop) (x0 x1 : Value) (w : World) : fnW PG note 400 Tryz.f64 [x0, x1] R w = C R x0 x1 w := by kernel_rfl
theorem ok {R : Ending → World → Prop} {x0 x1 : Value} {w : World} (h : C R x0 x1 w) : Calls PG N.linesmanref01_Fixed #[x0, x1] w R :=
  fnW_sound mixed Tryz.func64 (args := [x0, x1]) (by rw [C_eq]; exact h)
end linesmanref01_Fixed
namespace linesmanref02_Of
theorem okf : okFn PG N.linesmanref02_Of = true := by kernel_rfl
def note : Note := ⟨[(0, [3, 4]), (2, [3, 5])], []⟩
def C (R : Ending → World → Prop) (x0 : Value) (w : World) : Prop :=
  LoopW [(.int .u64 18446744073709551615), (.int .i64 0)] (fun l6 N7 w8 => ∀ j5 : S, lnS x0 fun t11 => pu PG (binV .lss T.t_int false (gv l6 1) t11) fun t12 => condV t12 (ixS 1 x0 (gv l6 1) fun t15 => ldW none t15 w8 fun t16 => pu PG (convert T.t_uint8 T.t_uint64 t16) fun t17 => pu PG (binV .xor T.t_uint64 false (gv l6 0) t17) fun t18 => LoopW [t18, (.int .i64 0)] (fun l21 N22 w23 => ∀ j20 : S, pu PG (binV .lss T.t_int true (gv l21 1) (.int .i64 8)) fun t26 => condV t26 (pu PG (binV .rem T.t_uint64 true (gv l21 0) (.int .u64 2)) fun t29 => pu PG (binV .eql T.t_uint64 true t29 (.int .u64 1)) fun t30 => pu PG (binV .quo T.t_uint64 true (gv l21 0) (.int .u64 2)) fun t32 => condV t30 (pu PG (binV .xor T.t_uint64 true t32 (.int .u64 14514072000185962306)) fun t34 => pu PG (binV .add T.t_int true (gv l21 1) (.int .i64 1)) fun t35 => N22 [t34, t35] w23) (pu PG (binV .add T.t_int true (gv l21 1) (.int .i64 1)) fun t36 => N22 [t32, t36] w23)) (pu PG (binV .add T.t_int true (gv l6 1) (.int .i64 1)) fun t37 => N7 [(gv l21 0), t37] w23)) w8) (pu PG (Op.unary .xor (gv l6 0)) fun t39 => R (.returned t39) w8)) w
theorem C_eq (R : Ending → World → Prop) (x0 : Value) (w : World) : fnW PG note 400 Tryz.f65 [x0] R w = C R x0 w := by kernel_rfl
theorem ok {R : Ending → World → Prop} {x0 : Value} {w : World} (h : C R x0 w) : Calls PG N.linesmanref02_Of #[x0] w R :=
  fnW_sound mixed Tryz.func65 (args := [x0]) (by rw [C_eq]; exact h)
end linesmanref02_Of
namespace linesmanref01_right
theorem okf : okFn PG N.linesmanref01_right = true := by kernel_rfl
def note : Note := ⟨[], []⟩
def C (R : Ending → World → Prop) (x0 : Value) (w : World) : Prop :=
  pu PG (binV .eql T.t_int true x0 (.int .i64 1)) fun t3 => condV t3 (R (.returned (.bool true)) w) (pu PG (binV .eql T.t_int true x0 (.int .i64 2)) fun t4 => condV t4 (R (.returned (.bool true)) w) (pu PG (binV .eql T.t_int true x0 (.int .i64 4)) fun t5 => condV t5 (R (.returned (.bool true)) w) (pu PG (binV .eql T.t_int true x0 (.int .i64 8)) fun t6 => R (.returned t6) w)))
theorem C_eq (R : Ending → World → Prop) (x0 : Value) (w : World) : fnW PG note 400 Tryz.f109 [x0] R w = C R x0 w := by kernel_rfl
theorem ok {R : Ending → World → Prop} {x0 : Value} {w : World} (h : C R x0 w) : Calls PG N.linesmanref01_right #[x0] w R :=
  fnW_sound mixed Tryz.func109 (args := [x0]) (by rw [C_eq]; exact h)
end linesmanref01_right
namespace linesmanref01_ReadFixed
theorem okf : okFn PG N.linesmanref01_ReadFixed = true := by kernel_rfl
def note : Note := ⟨[(0, [6, 7])], []⟩
def C (R : Ending → World → Prop) (x0 x1 : Value) (w : World) : Prop :=
  callW PG N.linesmanref01_right [x1] (fun t4 w5 => pu PG (Op.unary .not t4) fun t6 => condV t6 (R (.returned (.tuple #[(.int .u64 0), (.int .i64 2)])) w5) (lnS x0 fun t10 => pu PG (binV .lss T.t_int false t10 x1) fun t11 => condV t11 (R (.returned (.tuple #[(.int .u64 0), (.int .i64 110)])) w5) (pu PG (binV .sub T.t_int true x1 (.int .i64 1)) fun t16 => LoopW [(.int .u64 0), t16] (fun l18 N19 w20 => ∀ j17 : S, pu PG (binV .geq T.t_int true (gv l18 1) (.int .i64 0)) fun t23 => condV t23 (pu PG (binV .mul T.t_uint64 true (.int .u64 256) (gv l18 0)) fun t25 => ixS 1 x0 (gv l18 1) fun t26 => ldW none t26 w20 fun t27 => pu PG (convert T.t_uint8 T.t_uint64 t27) fun t28 => pu PG (binV .add T.t_uint64 false t25 t28) fun t29 => pu PG (binV .sub T.t_int true (gv l18 1) (.int .i64 1)) fun t30 => N19 [t29, t30] w20) (R (.returned (.tuple #[(gv l18 0), (.int .i64 0)])) w20)) w5))) (fun c w => R (.panicked c) w) w
theorem C_eq (R : Ending → World → Prop) (x0 x1 : Value) (w : World) : fnW PG note 400 Tryz.f172 [x0, x1] R w = C R x0 x1 w := by kernel_rfl
theorem ok {R : Ending → World → Prop} {x0 x1 : Value} {w : World} (h : C R x0 x1 w) : Calls PG N.linesmanref01_ReadFixed #[x0, x1] w R :=
  fnW_sound mixed Tryz.func172 (args := [x0, x1]) (by rw [C_eq]; exact h)
end linesmanref01_ReadFixed
end Go.Proofs.YtkkkcafkepnecaaGreat
