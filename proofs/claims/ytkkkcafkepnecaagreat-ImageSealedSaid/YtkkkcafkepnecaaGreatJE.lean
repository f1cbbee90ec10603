/- Conditions of functions, printed by a program of this session (gen.py) and checked by the kernel. -/
import Derived.Test.YtkkkcafkepnecaaGreatZB
set_option linter.unusedVariables false
namespace Go.Proofs.YtkkkcafkepnecaaGreat
open Go Go.RowKit Vc

namespace instr_Bytes
theorem okf : okFn PG N.instr_Bytes = true := by kernel_rfl
def note : Note := ⟨[(0, [5, 23])], []⟩
def C (R : Ending → World → Prop) (x0 : Value) (w : World) : Prop :=
  alW (Value.cells x0) T.t_api_Ins (fun t2 w3 => ldW (some 5) t2 w3 fun t6 => callW PG N.instr_Check [t6] (fun t7 w8 => pu PG (binV .neq T.t_api_Errno true t7 (.int .i64 0)) fun t10 => condV t10 (R (.returned (.tuple #[(.slice none 0 0), t7])) w8) (faW 0 t2 fun t13 => ldW none t13 w8 fun t14 => pu PG (convert T.t_api_Op T.t_uint8 t14) fun t15 => bsW T.t_uint8 1 (bsC PG T.t_uint8 1 [(0, t15)]) (fun t16 w17 => faW 0 t2 fun t20 => ldW none t20 w17 fun t21 => callW PG N.instr_named [t21] (fun t22 w23 => lnS t22 fun t24 => LoopW [t16, (.int .i64 0)] (fun l26 N27 w28 => ∀ j25 : S, pu PG (binV .lss T.t_int false (gv l26 1) t24) fun t30 => condV t30 (ixS 4 t22 (gv l26 1) fun t34 => ldW (some 4) t34 w28 fun t35 => alW (zc PG T.t_instr_part) T.t_instr_part (fun t36 w37 => stW 4 t36 t35 (fun w38 => ∃ H40 : World → Prop, H40 (World.drew w38) ∧ (faW 2 t36 fun t41 => ldS none t41 H40 fun t42 => ldS (some 5) t2 H40 fun t43 => faW 0 t36 fun t44 => ldS none t44 H40 fun t45 => callV PG t42 [t43] (fun t46 w47 => H40 w47 ∧ (callW PG N.octet_Fixed [t46, t45] (fun t48 w49 => exW 0 t48 fun t50 => exW 1 t48 fun t51 => opW PG (Builtin.append_ #[T.t_sl_uint8, T.t_sl_uint8] T.t_sl_uint8 #[(gv l26 0), t50]) (fun t54 w55 => pu PG (binV .add T.t_int true (gv l26 1) (.int .i64 1)) fun t56 => N27 [t54, t56] w55) w49) (fun c w => ∀ s52 : S, R (.panicked c) w) w47)) (fun c w => ∀ s53 : S, R (.panicked c) w) (World.drew w38))) w37) w28) (R (.returned (.tuple #[(gv l26 0), (.int .i64 0)])) w28)) w23) (fun c w => R (.panicked c) w) w17) w8)) (fun c w => R (.panicked c) w) w3) w
theorem C_eq (R : Ending → World → Prop) (x0 : Value) (w : World) : fnW PG note 400 Tryz.f71 [x0] R w = C R x0 w := by kernel_rfl
theorem ok {R : Ending → World → Prop} {x0 : Value} {w : World} (h : C R x0 w) : Calls PG N.instr_Bytes #[x0] w R :=
  fnW_sound mixed Tryz.func71 (args := [x0]) (by rw [C_eq]; exact h)
end instr_Bytes
end Go.Proofs.YtkkkcafkepnecaaGreat
