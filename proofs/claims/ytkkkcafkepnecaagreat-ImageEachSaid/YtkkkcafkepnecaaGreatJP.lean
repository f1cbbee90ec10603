/- Conditions of functions, printed by a program of this session (gen.py) and checked by the kernel. -/
import Derived.Test.YtkkkcafkepnecaaGreatZB
set_option linter.unusedVariables false
namespace Go.Proofs.YtkkkcafkepnecaaGreat
open Go Go.RowKit Vc

namespace linesmanref10_Sealed
theorem okf : okFn PG N.linesmanref10_Sealed = true := by kernel_rfl
def note : Note := ⟨[], []⟩
def C (R : Ending → World → Prop) (x0 : Value) (w : World) : Prop :=
  callW PG N.linesmanref02_Of [x0] (fun t3 w4 => callW PG N.linesmanref01_Fixed [t3, (.int .i64 8)] (fun t5 w6 => exW 0 t5 fun t7 => exW 1 t5 fun t8 => bsW T.t_uint8 0 (bsC PG T.t_uint8 0 []) (fun t10 w11 => opW PG (Builtin.append_ #[T.t_sl_uint8, T.t_sl_uint8] T.t_sl_uint8 #[t10, x0]) (fun t12 w13 => opW PG (Builtin.append_ #[T.t_sl_uint8, T.t_sl_uint8] T.t_sl_uint8 #[t12, t7]) (fun t14 w15 => R (.returned t14) w15) w13) w11) w6) (fun c w => R (.panicked c) w) w4) (fun c w => R (.panicked c) w) w
theorem C_eq (R : Ending → World → Prop) (x0 : Value) (w : World) : fnW PG note 400 Tryz.f18 [x0] R w = C R x0 w := by kernel_rfl
theorem ok {R : Ending → World → Prop} {x0 : Value} {w : World} (h : C R x0 w) : Calls PG N.linesmanref10_Sealed #[x0] w R :=
  fnW_sound mixed Tryz.func18 (args := [x0]) (by rw [C_eq]; exact h)
end linesmanref10_Sealed
namespace linesmanref10_Encode
theorem okf : okFn PG N.linesmanref10_Encode = true := by kernel_rfl
def note : Note := ⟨[], []⟩
def C (R : Ending → World → Prop) (x0 : Value) (w : World) : Prop :=
  alW (Value.cells x0) T.t_api_Program (fun t2 w3 => ldW (some 4) t2 w3 fun t6 => callW PG N.linesmanref09_Right [t6] (fun t7 w8 => pu PG (Op.unary .not t7) fun t9 => condV t9 (R (.returned (.tuple #[(.slice none 0 0), (.int .i64 2)])) w8) (ldW (some 4) t2 w8 fun t12 => callW PG N.linesmanref10_Bare [t12] (fun t13 w14 => callW PG N.linesmanref10_Sealed [t13] (fun t15 w16 => R (.returned (.tuple #[t15, (.int .i64 0)])) w16) (fun c w => R (.panicked c) w) w14) (fun c w => R (.panicked c) w) w8)) (fun c w => R (.panicked c) w) w3) w
theorem C_eq (R : Ending → World → Prop) (x0 : Value) (w : World) : fnW PG note 400 Tryz.f26 [x0] R w = C R x0 w := by kernel_rfl
theorem ok {R : Ending → World → Prop} {x0 : Value} {w : World} (h : C R x0 w) : Calls PG N.linesmanref10_Encode #[x0] w R :=
  fnW_sound mixed Tryz.func26 (args := [x0]) (by rw [C_eq]; exact h)
end linesmanref10_Encode
namespace linesmanref10_Bare
theorem okf : okFn PG N.linesmanref10_Bare = true := by kernel_rfl
def note : Note := ⟨[(0, [3, 4]), (2, [3, 8])], []⟩
def C (R : Ending → World → Prop) (x0 : Value) (w : World) : Prop :=
  alW (Value.cells x0) T.t_api_Program (fun t2 w3 => faW 1 t2 fun t5 => ldW none t5 w3 fun t6 => pu PG (convert T.t_int T.t_uint8 t6) fun t7 => faW 2 t2 fun t8 => ldW none t8 w3 fun t9 => pu PG (convert T.t_int T.t_uint8 t9) fun t10 => faW 3 t2 fun t11 => ldW none t11 w3 fun t12 => pu PG (convert T.t_int T.t_uint8 t12) fun t13 => faW 0 t2 fun t14 => ldW none t14 w3 fun t15 => lnS t15 fun t16 => pu PG (convert T.t_int T.t_uint8 t16) fun t17 => bsW T.t_uint8 8 (bsC PG T.t_uint8 8 [(0, (.int .u8 108)), (1, (.int .u8 105)), (2, (.int .u8 110)), (3, (.int .u8 101)), (4, t7), (5, t10), (6, t13), (7, t17)]) (fun t18 w19 => LoopW [t18, (.int .i64 0)] (fun l23 N24 w25 => ∀ j22 : S, faW 0 t2 fun t28 => ldW none t28 w25 fun t29 => lnS t29 fun t30 => pu PG (binV .lss T.t_int false (gv l23 1) t30) fun t31 => condV t31 (faW 0 t2 fun t34 => ldW none t34 w25 fun t35 => ixS 2 t35 (gv l23 1) fun t36 => ldW (some 2) t36 w25 fun t37 => alW (zc PG T.t_api_Func) T.t_api_Func (fun t38 w39 => stW 2 t38 t37 (fun w40 => faW 1 t38 fun t42 => ldW none t42 w40 fun t43 => lnS t43 fun t44 => pu PG (convert T.t_int T.t_uint64 t44) fun t45 => callW PG N.linesmanref01_Fixed [t45, (.int .i64 2)] (fun t46 w47 => exW 0 t46 fun t48 => exW 1 t46 fun t49 => faW 0 t38 fun t51 => ldW none t51 w47 fun t52 => pu PG (convert T.t_int T.t_uint8 t52) fun t53 => bsW T.t_uint8 1 (bsC PG T.t_uint8 1 [(0, t53)]) (fun t54 w55 => opW PG (Builtin.append_ #[T.t_sl_uint8, T.t_sl_uint8] T.t_sl_uint8 #[(gv l23 0), t54]) (fun t56 w57 => opW PG (Builtin.append_ #[T.t_sl_uint8, T.t_sl_uint8] T.t_sl_uint8 #[t56, t48]) (fun t58 w59 => LoopW [t58, (.int .i64 0)] (fun l62 N63 w64 => ∀ j61 : S, faW 1 t38 fun t67 => ldW none t67 w64 fun t68 => lnS t68 fun t69 => pu PG (binV .lss T.t_int false (gv l62 1) t69) fun t70 => condV t70 (faW 1 t38 fun t72 => ldW none t72 w64 fun t73 => ixS 5 t73 (gv l62 1) fun t74 => ldW (some 5) t74 w64 fun t75 => callW PG N.linesmanref08_Bytes [t75] (fun t76 w77 => opW PG (Builtin.append_ #[T.t_sl_uint8, T.t_sl_uint8] T.t_sl_uint8 #[(gv l62 0), t76]) (fun t78 w79 => pu PG (binV .add T.t_int true (gv l62 1) (.int .i64 1)) fun t80 => N63 [t78, t80] w79) w77) (fun c w => R (.panicked c) w) w64) (pu PG (binV .add T.t_int true (gv l23 1) (.int .i64 1)) fun t81 => N24 [(gv l62 0), t81] w64)) w59) w57) w55) w47) (fun c w => R (.panicked c) w) w40) w39) w25) (R (.returned (gv l23 0)) w25)) w19) w3) w
theorem C_eq (R : Ending → World → Prop) (x0 : Value) (w : World) : fnW PG note 400 Tryz.f73 [x0] R w = C R x0 w := by kernel_rfl
theorem ok {R : Ending → World → Prop} {x0 : Value} {w : World} (h : C R x0 w) : Calls PG N.linesmanref10_Bare #[x0] w R :=
  fnW_sound mixed Tryz.func73 (args := [x0]) (by rw [C_eq]; exact h)
end linesmanref10_Bare
end Go.Proofs.YtkkkcafkepnecaaGreat
