/- Conditions of functions, printed by a program of this session (gen.py) and checked by the kernel. -/
import Derived.Test.YtkkkcafkepnecaaGreatZB
set_option linter.unusedVariables false
namespace Go.Proofs.YtkkkcafkepnecaaGreat
open Go Go.RowKit Vc

namespace linesmanlaw12_small
theorem okf : okFn PG N.linesmanlaw12_small = true := by kernel_rfl
def note : Note := ⟨[], []⟩
def C (R : Ending → World → Prop) (x0 : Value) (w : World) : Prop :=
  alW (Value.cells x0) T.t_linesmanlaw12_Start (fun t2 w3 => faW 0 t2 fun t5 => ldW (some 4) t5 w3 fun t6 => callW PG N.linesmanlaw12_few [t6] (fun t7 w8 => condV t7 (faW 5 t2 fun t9 => ldW none t9 w8 fun t10 => lnS t10 fun t11 => pu PG (binV .leq T.t_int true t11 (.int .i64 20)) fun t12 => R (.returned t12) w8) (R (.returned (.bool false)) w8)) (fun c w => R (.panicked c) w) w3) w
theorem C_eq (R : Ending → World → Prop) (x0 : Value) (w : World) : fnW PG note 400 Tryz.f11 [x0] R w = C R x0 w := by kernel_rfl
theorem ok {R : Ending → World → Prop} {x0 : Value} {w : World} (h : C R x0 w) : Calls PG N.linesmanlaw12_small #[x0] w R :=
  fnW_sound mixed Tryz.func11 (args := [x0]) (by rw [C_eq]; exact h)
end linesmanlaw12_small
namespace linesmanref09_At
theorem okf : okFn PG N.linesmanref09_At = true := by kernel_rfl
def note : Note := ⟨[], []⟩
def C (R : Ending → World → Prop) (x0 x1 : Value) (w : World) : Prop :=
  alW (Value.cells x0) T.t_api_Program (fun t2 w3 => alW (Value.cells x1) T.t_api_Site (fun t4 w5 => alW (zc PG T.t_api_Ins) T.t_api_Ins (fun t6 w7 => ∃ H10 : World → Prop, H10 (World.drew w7) ∧ (faW 0 t4 fun t11 => ldS none t11 H10 fun t12 => pu PG (binV .lss T.t_int true t12 (.int .i64 0)) fun t13 => condV t13 (pu PG (Instr.build T.t_api_Ins #[]) fun t35 => stW 5 t6 t35 (fun w36 => ldW (some 5) t6 w36 fun t37 => R (.returned (.tuple #[t37, (.int .i64 4)])) w36) (World.drew w7)) (faW 0 t4 fun t14 => ldS none t14 H10 fun t15 => faW 0 t2 fun t16 => ldS none t16 H10 fun t17 => lnS t17 fun t18 => pu PG (binV .geq T.t_int false t15 t18) fun t19 => condV t19 (pu PG (Instr.build T.t_api_Ins #[]) fun t39 => stW 5 t6 t39 (fun w40 => ldW (some 5) t6 w40 fun t41 => R (.returned (.tuple #[t41, (.int .i64 4)])) w40) (World.drew w7)) (faW 1 t4 fun t20 => ldS none t20 H10 fun t21 => pu PG (binV .lss T.t_int true t21 (.int .i64 0)) fun t22 => condV t22 (pu PG (Instr.build T.t_api_Ins #[]) fun t43 => stW 5 t6 t43 (fun w44 => ldW (some 5) t6 w44 fun t45 => R (.returned (.tuple #[t45, (.int .i64 4)])) w44) (World.drew w7)) (faW 1 t4 fun t23 => ldS none t23 H10 fun t24 => faW 0 t2 fun t25 => ldS none t25 H10 fun t26 => faW 0 t4 fun t27 => ldS none t27 H10 fun t28 => ixS 2 t26 t28 fun t29 => faW 1 t29 fun t30 => ldS none t30 H10 fun t31 => lnS t31 fun t32 => pu PG (binV .geq T.t_int false t24 t32) fun t33 => condV t33 (pu PG (Instr.build T.t_api_Ins #[]) fun t47 => stW 5 t6 t47 (fun w48 => ldW (some 5) t6 w48 fun t49 => R (.returned (.tuple #[t49, (.int .i64 4)])) w48) (World.drew w7)) (∃ H51 : World → Prop, H51 (World.drew (World.drew w7)) ∧ (faW 0 t2 fun t52 => ldS none t52 H51 fun t53 => faW 0 t4 fun t54 => ldS none t54 H51 fun t55 => ixS 2 t53 t55 fun t56 => faW 1 t56 fun t57 => ldS none t57 H51 fun t58 => faW 1 t4 fun t59 => ldS none t59 H51 fun t60 => ixS 5 t58 t60 fun t61 => ldS (some 5) t61 H51 fun t62 => stW 5 t6 t62 (fun w63 => ldW (some 5) t6 w63 fun t64 => R (.returned (.tuple #[t64, (.int .i64 0)])) w63) (World.drew (World.drew w7))))))))) w5) w3) w
theorem C_eq (R : Ending → World → Prop) (x0 x1 : Value) (w : World) : fnW PG note 400 Tryz.f35 [x0, x1] R w = C R x0 x1 w := by kernel_rfl
theorem ok {R : Ending → World → Prop} {x0 x1 : Value} {w : World} (h : C R x0 x1 w) : Calls PG N.linesmanref09_At #[x0, x1] w R :=
  fnW_sound mixed Tryz.func35 (args := [x0, x1]) (by rw [C_eq]; exact h)
end linesmanref09_At
namespace linesmanlaw12_few
theorem okf : okFn PG N.linesmanlaw12_few = true := by kernel_rfl
def note : Note := ⟨[(0, [3, 4])], []⟩
def C (R : Ending → World → Prop) (x0 : Value) (w : World) : Prop :=
  alW (Value.cells x0) T.t_api_Program (fun t2 w3 => LoopW [(.int .i64 0), (.int .i64 0)] (fun l8 N9 w10 => ∀ j7 : S, faW 0 t2 fun t13 => ldW none t13 w10 fun t14 => lnS t14 fun t15 => pu PG (binV .lss T.t_int false (gv l8 1) t15) fun t16 => condV t16 (pu PG (binV .lss T.t_int true (gv l8 1) (.int .i64 40)) fun t17 => condV t17 (faW 0 t2 fun t19 => ldW none t19 w10 fun t20 => ixS 2 t20 (gv l8 1) fun t21 => faW 1 t21 fun t22 => ldW none t22 w10 fun t23 => lnS t23 fun t24 => pu PG (binV .add T.t_int false (gv l8 0) t24) fun t25 => pu PG (binV .add T.t_int true (gv l8 1) (.int .i64 1)) fun t26 => N9 [t25, t26] w10) (faW 0 t2 fun t28 => ldW none t28 w10 fun t29 => lnS t29 fun t30 => pu PG (binV .leq T.t_int true t30 (.int .i64 40)) fun t31 => condV t31 (pu PG (binV .leq T.t_int true (gv l8 0) (.int .i64 600)) fun t32 => R (.returned t32) w10) (R (.returned (.bool false)) w10))) (faW 0 t2 fun t34 => ldW none t34 w10 fun t35 => lnS t35 fun t36 => pu PG (binV .leq T.t_int true t36 (.int .i64 40)) fun t37 => condV t37 (pu PG (binV .leq T.t_int true (gv l8 0) (.int .i64 600)) fun t38 => R (.returned t38) w10) (R (.returned (.bool false)) w10))) w3) w
theorem C_eq (R : Ending → World → Prop) (x0 : Value) (w : World) : fnW PG note 400 Tryz.f56 [x0] R w = C R x0 w := by kernel_rfl
theorem ok {R : Ending → World → Prop} {x0 : Value} {w : World} (h : C R x0 w) : Calls PG N.linesmanlaw12_few #[x0] w R :=
  fnW_sound mixed Tryz.func56 (args := [x0]) (by rw [C_eq]; exact h)
end linesmanlaw12_few
end Go.Proofs.YtkkkcafkepnecaaGreat
