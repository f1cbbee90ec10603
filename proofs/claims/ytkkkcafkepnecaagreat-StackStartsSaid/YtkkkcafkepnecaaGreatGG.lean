/- Conditions of functions, printed by a program of this session (gen.py) and checked by the kernel. -/
import Derived.Test.YtkkkcafkepnecaaGreatZB
set_option linter.unusedVariables false
namespace Go.Proofs.YtkkkcafkepnecaaGreat
open Go Go.RowKit Vc

namespace linesmanref12_New
theorem okf : okFn PG N.linesmanref12_New = true := by kernel_rfl
def note : Note := ⟨[], []⟩
def C (R : Ending → World → Prop) (x0 x1 x2 : Value) (w : World) : Prop :=
  alW (Value.cells x0) T.t_api_Program (fun t2 w3 => alW (zc PG T.t_linesmanref12_Stack) T.t_linesmanref12_Stack (fun t4 w5 => ldW (some 4) t2 w5 fun t8 => callW PG N.linesmanref09_Right [t8] (fun t9 w10 => pu PG (Op.unary .not t9) fun t11 => condV t11 (pu PG (Instr.build T.t_linesmanref12_Stack #[]) fun t13 => stW 6 t4 t13 (fun w14 => ldW (some 6) t4 w14 fun t15 => R (.returned (.tuple #[t15, (.int .i64 2)])) w14) w10) (pu PG (binV .lss T.t_int true x1 (.int .i64 0)) fun t18 => condV t18 (pu PG (Instr.build T.t_linesmanref12_Stack #[]) fun t31 => stW 6 t4 t31 (fun w32 => ldW (some 6) t4 w32 fun t33 => R (.returned (.tuple #[t33, (.int .i64 4)])) w32) w10) (faW 0 t2 fun t19 => ldW none t19 w10 fun t20 => lnS t20 fun t21 => pu PG (binV .geq T.t_int false x1 t21) fun t22 => condV t22 (pu PG (Instr.build T.t_linesmanref12_Stack #[]) fun t35 => stW 6 t4 t35 (fun w36 => ldW (some 6) t4 w36 fun t37 => R (.returned (.tuple #[t37, (.int .i64 4)])) w36) w10) (lnS x2 fun t23 => faW 0 t2 fun t24 => ldW none t24 w10 fun t25 => ixS 2 t25 x1 fun t26 => faW 0 t26 fun t27 => ldW none t27 w10 fun t28 => pu PG (binV .gtr T.t_int false t23 t28) fun t29 => condV t29 (pu PG (Instr.build T.t_linesmanref12_Stack #[]) fun t39 => stW 6 t4 t39 (fun w40 => ldW (some 6) t4 w40 fun t41 => R (.returned (.tuple #[t41, (.int .i64 4)])) w40) w10) (∃ H43 : World → Prop, H43 (World.drew w10) ∧ (ldS (some 4) t2 H43 fun t44 => faW 0 t2 fun t45 => ldS none t45 H43 fun t46 => ixS 2 t46 x1 fun t47 => faW 0 t47 fun t48 => ldS none t48 H43 fun t49 => callW PG N.linesmanref12_entered [t49, x2] (fun t50 w51 => H43 w51 ∧ (pu PG (Instr.build T.t_api_Frame #[(0, x1), (3, t50)]) fun t52 => bsW T.t_api_Frame 1 (bsC PG T.t_api_Frame 1 [(0, t52)]) (fun t53 w54 => H43 w54 ∧ (pu PG (Instr.build T.t_linesmanref12_Stack #[(0, t44), (1, t53)]) fun t55 => stW 6 t4 t55 (fun w56 => ldW (some 6) t4 w56 fun t58 => R (.returned (.tuple #[t58, (.int .i64 0)])) w56) w54)) w51)) (fun c w => ∀ s57 : S, R (.panicked c) w) (World.drew w10))))))) (fun c w => R (.panicked c) w) w5) w3) w
theorem C_eq (R : Ending → World → Prop) (x0 x1 x2 : Value) (w : World) : fnW PG note 400 Tryz.f14 [x0, x1, x2] R w = C R x0 x1 x2 w := by kernel_rfl
theorem ok {R : Ending → World → Prop} {x0 x1 x2 : Value} {w : World} (h : C R x0 x1 x2 w) : Calls PG N.linesmanref12_New #[x0, x1, x2] w R :=
  fnW_sound mixed Tryz.func14 (args := [x0, x1, x2]) (by rw [C_eq]; exact h)
end linesmanref12_New
namespace linesmanref12_entered
theorem okf : okFn PG N.linesmanref12_entered = true := by kernel_rfl
def note : Note := ⟨[], []⟩
def C (R : Ending → World → Prop) (x0 x1 : Value) (w : World) : Prop :=
  bsW T.t_uint32 0 (bsC PG T.t_uint32 0 []) (fun t3 w4 => opW PG (Builtin.append_ #[T.t_sl_uint32, T.t_sl_uint32] T.t_sl_uint32 #[t3, x1]) (fun t5 w6 => lnS x1 fun t7 => pu PG (binV .sub T.t_int false x0 t7) fun t8 => opW PG (Builtin.append_ #[T.t_sl_uint32, T.t_int] T.t_sl_uint32 #[t5, t8]) (fun t9 w10 => R (.returned t9) w10) w6) w4) w
theorem C_eq (R : Ending → World → Prop) (x0 x1 : Value) (w : World) : fnW PG note 400 Tryz.f60 [x0, x1] R w = C R x0 x1 w := by kernel_rfl
theorem ok {R : Ending → World → Prop} {x0 x1 : Value} {w : World} (h : C R x0 x1 w) : Calls PG N.linesmanref12_entered #[x0, x1] w R :=
  fnW_sound mixed Tryz.func60 (args := [x0, x1]) (by rw [C_eq]; exact h)
end linesmanref12_entered
end Go.Proofs.YtkkkcafkepnecaaGreat
