/- Conditions of functions, printed by a program of this session (gen.py) and checked by the kernel. -/
import Derived.Test.YtkkkcafkepnecaaGreatZB
set_option linter.unusedVariables false
namespace Go.Proofs.YtkkkcafkepnecaaGreat
open Go Go.RowKit Vc

namespace linesmanlaw17_num
theorem okf : okFn PG N.linesmanlaw17_num = true := by kernel_rfl
def note : Note := ⟨[], []⟩
def C (R : Ending → World → Prop) (x0 : Value) (w : World) : Prop :=
  R (.returned x0) w
theorem C_eq (R : Ending → World → Prop) (x0 : Value) (w : World) : fnW PG note 400 Tryz.f46 [x0] R w = C R x0 w := by kernel_rfl
theorem ok {R : Ending → World → Prop} {x0 : Value} {w : World} (h : C R x0 w) : Calls PG N.linesmanlaw17_num #[x0] w R :=
  fnW_sound mixed Tryz.func46 (args := [x0]) (by rw [C_eq]; exact h)
end linesmanlaw17_num
namespace fiber_Same
theorem okf : okFn PG N.fiber_Same = true := by kernel_rfl
def note : Note := ⟨[], []⟩
def C (R : Ending → World → Prop) (x0 x1 : Value) (w : World) : Prop :=
  alW (Value.cells x0) T.t_api_Want (fun t2 w3 => alW (Value.cells x1) T.t_api_Want (fun t4 w5 => faW 8 t2 fun t8 => ldW none t8 w5 fun t9 => faW 8 t4 fun t10 => ldW none t10 w5 fun t11 => callW PG N.slices_Equal_sl_uint32_uint32 [t9, t11] (fun t12 w13 => pu PG (Op.unary .not t12) fun t14 => condV t14 (R (.returned (.bool false)) w13) (faW 0 t2 fun t17 => ldW none t17 w13 fun t18 => faW 0 t4 fun t19 => ldW none t19 w13 fun t20 => pu PG (binV .eql T.t_api_EvKind false t18 t20) fun t21 => condV t21 (faW 1 t2 fun t22 => ldW (some 2) t22 w13 fun t23 => faW 1 t4 fun t24 => ldW (some 2) t24 w13 fun t25 => pu PG (binV .eql T.t_api_Site false t23 t25) fun t26 => condV t26 (faW 3 t2 fun t27 => ldW none t27 w13 fun t28 => faW 3 t4 fun t29 => ldW none t29 w13 fun t30 => pu PG (binV .eql T.t_uint32 false t28 t30) fun t31 => condV t31 (faW 4 t2 fun t32 => ldW none t32 w13 fun t33 => faW 4 t4 fun t34 => ldW none t34 w13 fun t35 => pu PG (binV .eql T.t_uint32 false t33 t35) fun t36 => condV t36 (faW 5 t2 fun t37 => ldW none t37 w13 fun t38 => faW 5 t4 fun t39 => ldW none t39 w13 fun t40 => pu PG (binV .eql T.t_uint32 false t38 t40) fun t41 => condV t41 (faW 6 t2 fun t42 => ldW none t42 w13 fun t43 => faW 6 t4 fun t44 => ldW none t44 w13 fun t45 => pu PG (binV .eql T.t_int64 false t43 t45) fun t46 => condV t46 (faW 7 t2 fun t47 => ldW none t47 w13 fun t48 => faW 7 t4 fun t49 => ldW none t49 w13 fun t50 => pu PG (binV .eql T.t_int false t48 t50) fun t51 => condV t51 (faW 9 t2 fun t52 => ldW none t52 w13 fun t53 => faW 9 t4 fun t54 => ldW none t54 w13 fun t55 => pu PG (binV .eql T.t_api_Trap false t53 t55) fun t56 => R (.returned t56) w13) (R (.returned (.bool false)) w13)) (R (.returned (.bool false)) w13)) (R (.returned (.bool false)) w13)) (R (.returned (.bool false)) w13)) (R (.returned (.bool false)) w13)) (R (.returned (.bool false)) w13)) (R (.returned (.bool false)) w13))) (fun c w => R (.panicked c) w) w5) w3) w
theorem C_eq (R : Ending → World → Prop) (x0 x1 : Value) (w : World) : fnW PG note 400 Tryz.f49 [x0, x1] R w = C R x0 x1 w := by kernel_rfl
theorem ok {R : Ending → World → Prop} {x0 x1 : Value} {w : World} (h : C R x0 x1 w) : Calls PG N.fiber_Same #[x0, x1] w R :=
  fnW_sound mixed Tryz.func49 (args := [x0, x1]) (by rw [C_eq]; exact h)
end fiber_Same
namespace linesmanref17_Same
theorem okf : okFn PG N.linesmanref17_Same = true := by kernel_rfl
def note : Note := ⟨[(0, [5])], []⟩
def C (R : Ending → World → Prop) (x0 x1 : Value) (w : World) : Prop :=
  alW (Value.cells x0) T.t_api_Want (fun t2 w3 => alW (Value.cells x1) T.t_api_Want (fun t4 w5 => faW 0 t2 fun t8 => ldW none t8 w5 fun t9 => faW 0 t4 fun t10 => ldW none t10 w5 fun t11 => pu PG (binV .neq T.t_api_EvKind false t9 t11) fun t12 => condV t12 (R (.returned (.bool false)) w5) (faW 1 t2 fun t13 => ldW (some 2) t13 w5 fun t14 => faW 1 t4 fun t15 => ldW (some 2) t15 w5 fun t16 => pu PG (binV .neq T.t_api_Site false t14 t16) fun t17 => condV t17 (R (.returned (.bool false)) w5) (faW 3 t2 fun t18 => ldW none t18 w5 fun t19 => faW 3 t4 fun t20 => ldW none t20 w5 fun t21 => pu PG (binV .neq T.t_uint32 false t19 t21) fun t22 => condV t22 (R (.returned (.bool false)) w5) (faW 4 t2 fun t23 => ldW none t23 w5 fun t24 => faW 4 t4 fun t25 => ldW none t25 w5 fun t26 => pu PG (binV .neq T.t_uint32 false t24 t26) fun t27 => condV t27 (R (.returned (.bool false)) w5) (faW 5 t2 fun t28 => ldW none t28 w5 fun t29 => faW 5 t4 fun t30 => ldW none t30 w5 fun t31 => pu PG (binV .neq T.t_uint32 false t29 t31) fun t32 => condV t32 (R (.returned (.bool false)) w5) (faW 6 t2 fun t33 => ldW none t33 w5 fun t34 => faW 6 t4 fun t35 => ldW none t35 w5 fun t36 => pu PG (binV .neq T.t_int64 false t34 t36) fun t37 => condV t37 (R (.returned (.bool false)) w5) (faW 7 t2 fun t38 => ldW none t38 w5 fun t39 => faW 7 t4 fun t40 => ldW none t40 w5 fun t41 => pu PG (binV .neq T.t_int false t39 t41) fun t42 => condV t42 (R (.returned (.bool false)) w5) (faW 9 t2 fun t43 => ldW none t43 w5 fun t44 => faW 9 t4 fun t45 => ldW none t45 w5 fun t46 => pu PG (binV .neq T.t_api_Trap false t44 t46) fun t47 => condV t47 (R (.returned (.bool false)) w5) (faW 8 t2 fun t48 => ldW none t48 w5 fun t49 => lnS t49 fun t50 => faW 8 t4 fun t51 => ldW none t51 w5 fun t52 => lnS t52 fun t53 => pu PG (binV .neq T.t_int false t50 t53) fun t54 => condV t54 (R (.returned (.bool false)) w5) (LoopW [(.int .i64 0)] (fun l67 N68 w69 => ∀ j66 : S, faW 8 t2 fun t72 => ldW none t72 w69 fun t73 => lnS t73 fun t74 => pu PG (binV .lss T.t_int false (gv l67 0) t74) fun t75 => condV t75 (∃ H78 : World → Prop, H78 (World.drew w69) ∧ (faW 8 t2 fun t79 => ldS none t79 H78 fun t80 => ixS 1 t80 (gv l67 0) fun t81 => ldS none t81 H78 fun t82 => faW 8 t4 fun t83 => ldS none t83 H78 fun t84 => ixS 1 t84 (gv l67 0) fun t85 => ldS none t85 H78 fun t86 => pu PG (binV .neq T.t_uint32 false t82 t86) fun t87 => condV t87 (R (.returned (.bool false)) (World.drew w69)) (pu PG (binV .add T.t_int true (gv l67 0) (.int .i64 1)) fun t89 => N68 [t89] (World.drew w69)))) (R (.returned (.bool true)) w69)) w5)))))))))) w3) w
theorem C_eq (R : Ending → World → Prop) (x0 x1 : Value) (w : World) : fnW PG note 400 Tryz.f55 [x0, x1] R w = C R x0 x1 w := by kernel_rfl
theorem ok {R : Ending → World → Prop} {x0 x1 : Value} {w : World} (h : C R x0 x1 w) : Calls PG N.linesmanref17_Same #[x0, x1] w R :=
  fnW_sound mixed Tryz.func55 (args := [x0, x1]) (by rw [C_eq]; exact h)
end linesmanref17_Same
namespace linesmanlaw17_given
theorem okf : okFn PG N.linesmanlaw17_given = true := by kernel_rfl
def note : Note := ⟨[], []⟩
def C (R : Ending → World → Prop) (w : World) : Prop :=
  alW (zc PG T.t_api_Program) T.t_api_Program (fun t2 w3 => pu PG (Instr.build T.t_api_Ins #[(0, (.int .i64 1)), (4, (.int .u32 7))]) fun t5 => pu PG (Instr.build T.t_api_Ins #[(0, (.int .i64 7)), (2, (.int .i64 1))]) fun t6 => pu PG (Instr.build T.t_api_Ins #[(0, (.int .i64 9))]) fun t7 => bsW T.t_api_Ins 3 (bsC PG T.t_api_Ins 3 [(0, t5), (1, t6), (2, t7)]) (fun t8 w9 => pu PG (Instr.build T.t_api_Func #[(0, (.int .i64 2)), (1, t8)]) fun t10 => bsW T.t_api_Func 1 (bsC PG T.t_api_Func 1 [(0, t10)]) (fun t11 w12 => pu PG (Instr.build T.t_api_Program #[(0, t11)]) fun t13 => stW 4 t2 t13 (fun w14 => ldW (some 4) t2 w14 fun t15 => R (.returned t15) w14) w12) w9) w3) w
theorem C_eq (R : Ending → World → Prop) (w : World) : fnW PG note 400 Tryz.f96 [] R w = C R  w := by kernel_rfl
theorem ok {R : Ending → World → Prop} {w : World} (h : C R  w) : Calls PG N.linesmanlaw17_given #[] w R :=
  fnW_sound mixed Tryz.func96 (args := []) (by rw [C_eq]; exact h)
end linesmanlaw17_given
end Go.Proofs.YtkkkcafkepnecaaGreat
