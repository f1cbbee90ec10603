/- Conditions of functions, printed by a program of this session (gen.py) and checked by the kernel. -/
import Derived.Test.YtkkkcafkepnecaaGreatZB
set_option linter.unusedVariables false
namespace Go.Proofs.YtkkkcafkepnecaaGreat
open Go Go.RowKit Vc

namespace slices_EqualFunc_sl_api_Frame_sl_api_Frame_api_Frame_api_Frame
theorem okf : okFn PG N.slices_EqualFunc_sl_api_Frame_sl_api_Frame_api_Frame_api_Frame = true := by kernel_rfl
def note : Note := ⟨[(0, [17])], []⟩
def C (R : Ending → World → Prop) (x0 x1 x2 : Value) (w : World) : Prop :=
  lnS x0 fun t4 => lnS x1 fun t5 => pu PG (binV .neq T.t_int false t4 t5) fun t6 => condV t6 (R (.returned (.bool false)) w) (lnS x0 fun t10 => LoopW [(.int .i64 0)] (fun l12 N13 w14 => ∀ j11 : S, pu PG (binV .lss T.t_int false (gv l12 0) t10) fun t16 => condV t16 (ixS 4 x0 (gv l12 0) fun t20 => ldW (some 4) t20 w14 fun t21 => alW (zc PG T.t_api_Frame) T.t_api_Frame (fun t22 w23 => stW 4 t22 t21 (fun w24 => ixS 4 x1 (gv l12 0) fun t26 => ldW (some 4) t26 w24 fun t27 => alW (zc PG T.t_api_Frame) T.t_api_Frame (fun t28 w29 => stW 4 t28 t27 (fun w30 => ldW (some 4) t22 w30 fun t32 => ldW (some 4) t28 w30 fun t33 => callV PG x2 [t32, t33] (fun t34 w35 => pu PG (Op.unary .not t34) fun t36 => condV t36 (R (.returned (.bool false)) w35) (pu PG (binV .add T.t_int true (gv l12 0) (.int .i64 1)) fun t38 => N13 [t38] w35)) (fun c w => R (.panicked c) w) w30) w29) w24) w23) w14) (R (.returned (.bool true)) w14)) w)
theorem C_eq (R : Ending → World → Prop) (x0 x1 x2 : Value) (w : World) : fnW PG note 400 Tryz.f87 [x0, x1, x2] R w = C R x0 x1 x2 w := by kernel_rfl
theorem ok {R : Ending → World → Prop} {x0 x1 x2 : Value} {w : World} (h : C R x0 x1 x2 w) : Calls PG N.slices_EqualFunc_sl_api_Frame_sl_api_Frame_api_Frame_api_Frame #[x0, x1, x2] w R :=
  fnW_sound mixed Tryz.func87 (args := [x0, x1, x2]) (by rw [C_eq]; exact h)
end slices_EqualFunc_sl_api_Frame_sl_api_Frame_api_Frame_api_Frame
namespace stack_same
theorem okf : okFn PG N.stack_same = true := by kernel_rfl
def note : Note := ⟨[], []⟩
def C (R : Ending → World → Prop) (x0 x1 : Value) (w : World) : Prop :=
  alW (Value.cells x0) T.t_api_Frame (fun t2 w3 => alW (Value.cells x1) T.t_api_Frame (fun t4 w5 => ∃ H7 : World → Prop, H7 (World.drew w5) ∧ (faW 0 t2 fun t8 => ldS none t8 H7 fun t9 => faW 1 t2 fun t10 => ldS none t10 H7 fun t11 => faW 2 t2 fun t12 => ldS none t12 H7 fun t13 => pu PG (Instr.build T.t_3_int #[(0, t9), (1, t11), (2, t13)]) fun t14 => faW 0 t4 fun t15 => ldS none t15 H7 fun t16 => faW 1 t4 fun t17 => ldS none t17 H7 fun t18 => faW 2 t4 fun t19 => ldS none t19 H7 fun t20 => pu PG (Instr.build T.t_3_int #[(0, t16), (1, t18), (2, t20)]) fun t21 => (alW (zc PG T.t_3_int) T.t_3_int (fun t22 w23 => H7 w23 ∧ (alW (zc PG T.t_3_int) T.t_3_int (fun t24 w25 => H7 w25 ∧ (stW 3 t22 t14 (fun w26 => H7 w26 ∧ (stW 3 t24 t21 (fun w27 => ldW (some 3) t22 w27 fun t35 => ldW (some 3) t24 w27 fun t36 => pu PG (binV .eql T.t_3_int false t35 t36) fun t37 => condV t37 (faW 3 t2 fun t38 => ldW none t38 w27 fun t39 => faW 3 t4 fun t40 => ldW none t40 w27 fun t41 => callW PG N.slices_Equal_sl_uint32_uint32 [t39, t41] (fun t42 w43 => R (.returned t42) w43) (fun c w => R (.panicked c) w) w27) (R (.returned (.bool false)) w27)) w26)) w25)) w23)) (World.drew w5)) ∧ (alW (zc PG T.t_3_int) T.t_3_int (fun t28 w29 => H7 w29 ∧ (alW (zc PG T.t_3_int) T.t_3_int (fun t30 w31 => H7 w31 ∧ (stW 3 t30 t14 (fun w32 => H7 w32 ∧ (stW 3 t28 t21 (fun w33 => ldW (some 3) t30 w33 fun t45 => ldW (some 3) t28 w33 fun t46 => pu PG (binV .eql T.t_3_int false t45 t46) fun t47 => condV t47 (faW 3 t2 fun t48 => ldW none t48 w33 fun t49 => faW 3 t4 fun t50 => ldW none t50 w33 fun t51 => callW PG N.slices_Equal_sl_uint32_uint32 [t49, t51] (fun t52 w53 => R (.returned t52) w53) (fun c w => R (.panicked c) w) w33) (R (.returned (.bool false)) w33)) w32)) w31)) w29)) (World.drew w5)))) w3) w
theorem C_eq (R : Ending → World → Prop) (x0 x1 : Value) (w : World) : fnW PG note 400 Tryz.f88 [x0, x1] R w = C R x0 x1 w := by kernel_rfl
theorem ok {R : Ending → World → Prop} {x0 x1 : Value} {w : World} (h : C R x0 x1 w) : Calls PG N.stack_same #[x0, x1] w R :=
  fnW_sound mixed Tryz.func88 (args := [x0, x1]) (by rw [C_eq]; exact h)
end stack_same
namespace slices_Equal_sl_uint32_uint32
theorem okf : okFn PG N.slices_Equal_sl_uint32_uint32 = true := by kernel_rfl
def note : Note := ⟨[(0, [13])], []⟩
def C (R : Ending → World → Prop) (x0 x1 : Value) (w : World) : Prop :=
  lnS x0 fun t4 => lnS x1 fun t5 => pu PG (binV .neq T.t_int false t4 t5) fun t6 => condV t6 (R (.returned (.bool false)) w) (lnS x0 fun t10 => LoopW [(.int .i64 0)] (fun l12 N13 w14 => ∀ j11 : S, pu PG (binV .lss T.t_int false (gv l12 0) t10) fun t16 => condV t16 (∃ H21 : World → Prop, H21 (World.drew w14) ∧ (ixS 1 x0 (gv l12 0) fun t22 => ldS none t22 H21 fun t23 => ixS 1 x1 (gv l12 0) fun t24 => ldS none t24 H21 fun t25 => pu PG (binV .neq T.t_uint32 false t23 t25) fun t26 => condV t26 (R (.returned (.bool false)) (World.drew w14)) (pu PG (binV .add T.t_int true (gv l12 0) (.int .i64 1)) fun t28 => N13 [t28] (World.drew w14)))) (R (.returned (.bool true)) w14)) w)
theorem C_eq (R : Ending → World → Prop) (x0 x1 : Value) (w : World) : fnW PG note 400 Tryz.f100 [x0, x1] R w = C R x0 x1 w := by kernel_rfl
theorem ok {R : Ending → World → Prop} {x0 x1 : Value} {w : World} (h : C R x0 x1 w) : Calls PG N.slices_Equal_sl_uint32_uint32 #[x0, x1] w R :=
  fnW_sound mixed Tryz.func100 (args := [x0, x1]) (by rw [C_eq]; exact h)
end slices_Equal_sl_uint32_uint32
end Go.Proofs.YtkkkcafkepnecaaGreat
