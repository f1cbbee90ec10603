/- Conditions of functions, printed by a program of this session (gen.py) and checked by the kernel. -/
import Derived.Test.YtkkkcafkepnecaaGreatZB
set_option linter.unusedVariables false
namespace Go.Proofs.YtkkkcafkepnecaaGreat
open Go Go.RowKit Vc

namespace octet_Fixed
theorem okf : okFn PG N.octet_Fixed = true := by kernel_rfl
def note : Note := ⟨[(0, [4, 20])], []⟩
def C (R : Ending → World → Prop) (x0 x1 : Value) (w : World) : Prop :=
  callW PG N.octet_right [x1] (fun t5 w6 => pu PG (Op.unary .not t5) fun t7 => condV t7 (R (.returned (.tuple #[(.slice none 0 0), (.int .i64 2)])) w6) (pu PG (binV .lss T.t_int true x1 (.int .i64 8)) fun t13 => condV t13 (pu PG (binV .mul T.t_int true (.int .i64 8) x1) fun t14 => pu PG (binV .shr T.t_uint64 false x0 t14) fun t15 => pu PG (binV .gtr T.t_uint64 true t15 (.int .u64 0)) fun t16 => condV t16 (R (.returned (.tuple #[(.slice none 0 0), (.int .i64 4)])) w6) (LoopW [(.slice none 0 0), (.int .i64 0)] (fun l22 N23 w24 => ∀ j21 : S, pu PG (binV .lss T.t_int false (gv l22 1) x1) fun t26 => condV t26 (pu PG (binV .mul T.t_int true (.int .i64 8) (gv l22 1)) fun t30 => pu PG (binV .shr T.t_uint64 false x0 t30) fun t31 => pu PG (convert T.t_uint64 T.t_uint8 t31) fun t32 => bsW T.t_uint8 1 (bsC PG T.t_uint8 1 [(0, t32)]) (fun t33 w34 => opW PG (Builtin.append_ #[T.t_sl_uint8, T.t_sl_uint8] T.t_sl_uint8 #[(gv l22 0), t33]) (fun t35 w36 => pu PG (binV .add T.t_int true (gv l22 1) (.int .i64 1)) fun t37 => N23 [t35, t37] w36) w34) w24) (R (.returned (.tuple #[(gv l22 0), (.int .i64 0)])) w24)) w6)) (LoopW [(.slice none 0 0), (.int .i64 0)] (fun l43 N44 w45 => ∀ j42 : S, pu PG (binV .lss T.t_int false (gv l43 1) x1) fun t47 => condV t47 (pu PG (binV .mul T.t_int true (.int .i64 8) (gv l43 1)) fun t51 => pu PG (binV .shr T.t_uint64 false x0 t51) fun t52 => pu PG (convert T.t_uint64 T.t_uint8 t52) fun t53 => bsW T.t_uint8 1 (bsC PG T.t_uint8 1 [(0, t53)]) (fun t54 w55 => opW PG (Builtin.append_ #[T.t_sl_uint8, T.t_sl_uint8] T.t_sl_uint8 #[(gv l43 0), t54]) (fun t56 w57 => pu PG (binV .add T.t_int true (gv l43 1) (.int .i64 1)) fun t58 => N44 [t56, t58] w57) w55) w45) (R (.returned (.tuple #[(gv l43 0), (.int .i64 0)])) w45)) w6))) (fun c w => R (.panicked c) w) w
theorem C_eq (R : Ending → World → Prop) (x0 x1 : Value) (w : World) : fnW PG note 400 Tryz.f113 [x0, x1] R w = C R x0 x1 w := by kernel_rfl
theorem ok {R : Ending → World → Prop} {x0 x1 : Value} {w : World} (h : C R x0 x1 w) : Calls PG N.octet_Fixed #[x0, x1] w R :=
  fnW_sound mixed Tryz.func113 (args := [x0, x1]) (by rw [C_eq]; exact h)
end octet_Fixed
namespace octet_right
theorem okf : okFn PG N.octet_right = true := by kernel_rfl
def note : Note := ⟨[], []⟩
def C (R : Ending → World → Prop) (x0 : Value) (w : World) : Prop :=
  callW PG N.octet_widths [] (fun t3 w4 => alW (zc PG T.t_4_int) T.t_4_int (fun t5 w6 => stW 4 t5 t3 (fun w7 => pu PG (Instr.sliceAt T.t_4_int t5 none none none) fun t9 => callW PG N.octet_among_int [x0, t9] (fun t10 w11 => R (.returned t10) w11) (fun c w => R (.panicked c) w) w7) w6) w4) (fun c w => R (.panicked c) w) w
theorem C_eq (R : Ending → World → Prop) (x0 : Value) (w : World) : fnW PG note 400 Tryz.f154 [x0] R w = C R x0 w := by kernel_rfl
theorem ok {R : Ending → World → Prop} {x0 : Value} {w : World} (h : C R x0 w) : Calls PG N.octet_right #[x0] w R :=
  fnW_sound mixed Tryz.func154 (args := [x0]) (by rw [C_eq]; exact h)
end octet_right
namespace octet_ReadFixed
theorem okf : okFn PG N.octet_ReadFixed = true := by kernel_rfl
def note : Note := ⟨[(1, [4, 21])], []⟩
def C (R : Ending → World → Prop) (x0 x1 : Value) (w : World) : Prop :=
  callW PG N.octet_right [x1] (fun t4 w5 => pu PG (Op.unary .not t4) fun t6 => condV t6 (R (.returned (.tuple #[(.int .u64 0), (.int .i64 2)])) w5) (lnS x0 fun t9 => pu PG (binV .lss T.t_int false t9 x1) fun t10 => condV t10 (R (.returned (.tuple #[(.int .u64 0), (.int .i64 110)])) w5) (pu PG (Instr.sliceAt T.t_sl_uint8 x0 none (some x1) none) fun t14 => lnS t14 fun t15 => LoopW [(.int .u64 0), (.int .i64 0)] (fun l17 N18 w19 => ∀ j16 : S, pu PG (binV .lss T.t_int false (gv l17 1) t15) fun t21 => condV t21 (ixS 1 t14 (gv l17 1) fun t25 => ldW none t25 w19 fun t26 => pu PG (convert T.t_uint8 T.t_uint64 t26) fun t27 => pu PG (binV .mul T.t_int true (.int .i64 8) (gv l17 1)) fun t28 => pu PG (binV .shl T.t_uint64 false t27 t28) fun t29 => pu PG (binV .or T.t_uint64 false (gv l17 0) t29) fun t30 => pu PG (binV .add T.t_int true (gv l17 1) (.int .i64 1)) fun t31 => N18 [t30, t31] w19) (R (.returned (.tuple #[(gv l17 0), (.int .i64 0)])) w19)) w5))) (fun c w => R (.panicked c) w) w
theorem C_eq (R : Ending → World → Prop) (x0 x1 : Value) (w : World) : fnW PG note 400 Tryz.f184 [x0, x1] R w = C R x0 x1 w := by kernel_rfl
theorem ok {R : Ending → World → Prop} {x0 x1 : Value} {w : World} (h : C R x0 x1 w) : Calls PG N.octet_ReadFixed #[x0, x1] w R :=
  fnW_sound mixed Tryz.func184 (args := [x0, x1]) (by rw [C_eq]; exact h)
end octet_ReadFixed
namespace octet_widths
theorem okf : okFn PG N.octet_widths = true := by kernel_rfl
def note : Note := ⟨[], []⟩
def C (R : Ending → World → Prop) (w : World) : Prop :=
  alW (zc PG T.t_4_int) T.t_4_int (fun t2 w3 => pu PG (Instr.build T.t_4_int #[(0, (.int .i64 1)), (1, (.int .i64 2)), (2, (.int .i64 4)), (3, (.int .i64 8))]) fun t5 => stW 4 t2 t5 (fun w6 => ldW (some 4) t2 w6 fun t7 => R (.returned t7) w6) w3) w
theorem C_eq (R : Ending → World → Prop) (w : World) : fnW PG note 400 Tryz.f187 [] R w = C R  w := by kernel_rfl
theorem ok {R : Ending → World → Prop} {w : World} (h : C R  w) : Calls PG N.octet_widths #[] w R :=
  fnW_sound mixed Tryz.func187 (args := []) (by rw [C_eq]; exact h)
end octet_widths
namespace octet_among_int
theorem okf : okFn PG N.octet_among_int = true := by kernel_rfl
def note : Note := ⟨[], []⟩
def C (R : Ending → World → Prop) (x0 x1 : Value) (w : World) : Prop :=
  callW PG N.slices_Contains_sl_int_int [x1, x0] (fun t3 w4 => R (.returned t3) w4) (fun c w => R (.panicked c) w) w
theorem C_eq (R : Ending → World → Prop) (x0 x1 : Value) (w : World) : fnW PG note 400 Tryz.f188 [x0, x1] R w = C R x0 x1 w := by kernel_rfl
theorem ok {R : Ending → World → Prop} {x0 x1 : Value} {w : World} (h : C R x0 x1 w) : Calls PG N.octet_among_int #[x0, x1] w R :=
  fnW_sound mixed Tryz.func188 (args := [x0, x1]) (by rw [C_eq]; exact h)
end octet_among_int
namespace slices_Contains_sl_int_int
theorem okf : okFn PG N.slices_Contains_sl_int_int = true := by kernel_rfl
def note : Note := ⟨[], []⟩
def C (R : Ending → World → Prop) (x0 x1 : Value) (w : World) : Prop :=
  callW PG N.slices_Index_sl_int_int [x0, x1] (fun t3 w4 => pu PG (binV .geq T.t_int true t3 (.int .i64 0)) fun t5 => R (.returned t5) w4) (fun c w => R (.panicked c) w) w
theorem C_eq (R : Ending → World → Prop) (x0 x1 : Value) (w : World) : fnW PG note 400 Tryz.f226 [x0, x1] R w = C R x0 x1 w := by kernel_rfl
theorem ok {R : Ending → World → Prop} {x0 x1 : Value} {w : World} (h : C R x0 x1 w) : Calls PG N.slices_Contains_sl_int_int #[x0, x1] w R :=
  fnW_sound mixed Tryz.func226 (args := [x0, x1]) (by rw [C_eq]; exact h)
end slices_Contains_sl_int_int
namespace slices_Index_sl_int_int
theorem okf : okFn PG N.slices_Index_sl_int_int = true := by kernel_rfl
def note : Note := ⟨[(0, [8])], []⟩
def C (R : Ending → World → Prop) (x0 x1 : Value) (w : World) : Prop :=
  lnS x0 fun t4 => LoopW [(.int .i64 0)] (fun l6 N7 w8 => ∀ j5 : S, pu PG (binV .lss T.t_int false (gv l6 0) t4) fun t10 => condV t10 (ixS 1 x0 (gv l6 0) fun t15 => ldW none t15 w8 fun t16 => pu PG (binV .eql T.t_int false x1 t16) fun t17 => condV t17 (R (.returned (gv l6 0)) w8) (pu PG (binV .add T.t_int true (gv l6 0) (.int .i64 1)) fun t19 => N7 [t19] w8)) (R (.returned (.int .i64 (-1))) w8)) w
theorem C_eq (R : Ending → World → Prop) (x0 x1 : Value) (w : World) : fnW PG note 400 Tryz.f232 [x0, x1] R w = C R x0 x1 w := by kernel_rfl
theorem ok {R : Ending → World → Prop} {x0 x1 : Value} {w : World} (h : C R x0 x1 w) : Calls PG N.slices_Index_sl_int_int #[x0, x1] w R :=
  fnW_sound mixed Tryz.func232 (args := [x0, x1]) (by rw [C_eq]; exact h)
end slices_Index_sl_int_int
end Go.Proofs.YtkkkcafkepnecaaGreat
