/- Conditions of functions, printed by a program of this session (gen.py) and checked by the kernel. -/
import Derived.Test.YtkkkcafkepnecaaGreatZB
set_option linter.unusedVariables false
namespace Go.Proofs.YtkkkcafkepnecaaGreat
open Go Go.RowKit Vc

namespace fiber_Fiber_Want
theorem okf : okFn PG N.fiber_Fiber_Want = true := by kernel_rfl
def note : Note := ⟨[], []⟩
def C (R : Ending → World → Prop) (x0 : Value) (w : World) : Prop :=
  alW (zc PG T.t_api_Want) T.t_api_Want (fun t2 w3 => callW PG N.fiber_Fiber_none [x0] (fun t6 w7 => condV t6 (pu PG (Instr.build T.t_api_Want #[]) fun t9 => stW 10 t2 t9 (fun w10 => ldW (some 10) t2 w10 fun t11 => R (.returned (.tuple #[t11, (.bool false)])) w10) w7) (nlW x0 fun t13 => faW 0 t13 fun t14 => faW 0 t14 fun t15 => ldW none t15 w7 fun t16 => callW PG N.stack_Stack_Next [t16] (fun t17 w18 => exW 0 t17 fun t19 => exW 1 t17 fun t20 => exW 2 t17 fun t21 => alW (zc PG T.t_api_Ins) T.t_api_Ins (fun t22 w23 => alW (zc PG T.t_api_Site) T.t_api_Site (fun t24 w25 => stW 5 t22 t19 (fun w26 => stW 2 t24 t20 (fun w27 => pu PG (Op.unary .not t21) fun t30 => condV t30 (pu PG (Instr.build T.t_api_Want #[]) fun t32 => stW 10 t2 t32 (fun w33 => ldW (some 10) t2 w33 fun t34 => R (.returned (.tuple #[t34, (.bool false)])) w33) w27) (ldW (some 2) t24 w27 fun t36 => pu PG (Instr.build T.t_api_Want #[(1, t36)]) fun t37 => alW (zc PG T.t_api_Want) T.t_api_Want (fun t38 w39 => stW 10 t38 t37 (fun w40 => ∃ H42 : World → Prop, H42 (World.drew w40) ∧ (faW 0 t22 fun t43 => ldS none t43 H42 fun t44 => callW PG N.fiber_wants [] (fun t45 w46 => H42 w46 ∧ (opW PG (Instr.lookup T.t_map_api_Op_func_ptr_fiber_Fiber_api_Ins_ptr_api_Want t45 t44 true) (fun t47 w48 => exW 0 t47 fun t49 => exW 1 t47 fun t50 => pu PG (Op.unary .not t50) fun t54 => condV t54 (ldW (some 5) t22 w48 fun t56 => callV PG (.func (.func N.fiber_Fiber_local) #[] #[]) [x0, t56, t38] (fun t57 w58 => ldW (some 10) t38 w58 fun t60 => stW 10 t2 t60 (fun w61 => ldW (some 10) t2 w61 fun t62 => R (.returned (.tuple #[t62, (.bool true)])) w61) w58) (fun c w => R (.panicked c) w) w48) (ldW (some 5) t22 w48 fun t64 => callV PG t49 [x0, t64, t38] (fun t65 w66 => ldW (some 10) t38 w66 fun t68 => stW 10 t2 t68 (fun w69 => ldW (some 10) t2 w69 fun t70 => R (.returned (.tuple #[t70, (.bool true)])) w69) w66) (fun c w => R (.panicked c) w) w48)) w46)) (fun c w => ∀ s51 : S, R (.panicked c) w) (World.drew w40))) w39) w27)) w26) w25) w23) w18) (fun c w => R (.panicked c) w) w7)) (fun c w => R (.panicked c) w) w3) w
theorem C_eq (R : Ending → World → Prop) (x0 : Value) (w : World) : fnW PG note 400 Tryz.f48 [x0] R w = C R x0 w := by kernel_rfl
theorem ok {R : Ending → World → Prop} {x0 : Value} {w : World} (h : C R x0 w) : Calls PG N.fiber_Fiber_Want #[x0] w R :=
  fnW_sound mixed Tryz.func48 (args := [x0]) (by rw [C_eq]; exact h)
end fiber_Fiber_Want
namespace fiber_Fiber_none
theorem okf : okFn PG N.fiber_Fiber_none = true := by kernel_rfl
def note : Note := ⟨[], []⟩
def C (R : Ending → World → Prop) (x0 : Value) (w : World) : Prop :=
  pu PG (binV .eql T.t_ptr_fiber_Fiber true x0 (.pointer none)) fun t3 => condV t3 (R (.returned (.bool true)) w) (nlW x0 fun t4 => faW 1 t4 fun t5 => ldW none t5 w fun t6 => pu PG (binV .eql T.t_int true t6 (.int .i64 0)) fun t7 => R (.returned t7) w)
theorem C_eq (R : Ending → World → Prop) (x0 : Value) (w : World) : fnW PG note 400 Tryz.f97 [x0] R w = C R x0 w := by kernel_rfl
theorem ok {R : Ending → World → Prop} {x0 : Value} {w : World} (h : C R x0 w) : Calls PG N.fiber_Fiber_none #[x0] w R :=
  fnW_sound mixed Tryz.func97 (args := [x0]) (by rw [C_eq]; exact h)
end fiber_Fiber_none
namespace fiber_wants
theorem okf : okFn PG N.fiber_wants = true := by kernel_rfl
def note : Note := ⟨[], []⟩
def C (R : Ending → World → Prop) (w : World) : Prop :=
  opW PG (Instr.makeMap T.t_map_api_Op_func_ptr_fiber_Fiber_api_Ins_ptr_api_Want none) (fun t3 w4 => opU PG (Instr.mapUpdate T.t_map_api_Op_func_ptr_fiber_Fiber_api_Ins_ptr_api_Want t3 (.int .i64 6) (.func (.func N.fiber_Fiber_loads) #[] #[])) (fun w5 => opU PG (Instr.mapUpdate T.t_map_api_Op_func_ptr_fiber_Fiber_api_Ins_ptr_api_Want t3 (.int .i64 7) (.func (.func N.fiber_Fiber_stores) #[] #[])) (fun w6 => opU PG (Instr.mapUpdate T.t_map_api_Op_func_ptr_fiber_Fiber_api_Ins_ptr_api_Want t3 (.int .i64 10) (.func (.func N.fiber_Fiber_begins) #[] #[])) (fun w7 => opU PG (Instr.mapUpdate T.t_map_api_Op_func_ptr_fiber_Fiber_api_Ins_ptr_api_Want t3 (.int .i64 17) (.func (.func N.fiber_Fiber_counts) #[] #[])) (fun w8 => opU PG (Instr.mapUpdate T.t_map_api_Op_func_ptr_fiber_Fiber_api_Ins_ptr_api_Want t3 (.int .i64 18) (.func (.func N.fiber_Fiber_shares) #[] #[])) (fun w9 => opU PG (Instr.mapUpdate T.t_map_api_Op_func_ptr_fiber_Fiber_api_Ins_ptr_api_Want t3 (.int .i64 11) (.func (.func N.fiber_Fiber_shares) #[] #[])) (fun w10 => opU PG (Instr.mapUpdate T.t_map_api_Op_func_ptr_fiber_Fiber_api_Ins_ptr_api_Want t3 (.int .i64 12) (.func (.func N.fiber_Fiber_shares) #[] #[])) (fun w11 => opU PG (Instr.mapUpdate T.t_map_api_Op_func_ptr_fiber_Fiber_api_Ins_ptr_api_Want t3 (.int .i64 13) (.func (.func N.fiber_Fiber_shares) #[] #[])) (fun w12 => opU PG (Instr.mapUpdate T.t_map_api_Op_func_ptr_fiber_Fiber_api_Ins_ptr_api_Want t3 (.int .i64 14) (.func (.func N.fiber_Fiber_shares) #[] #[])) (fun w13 => opU PG (Instr.mapUpdate T.t_map_api_Op_func_ptr_fiber_Fiber_api_Ins_ptr_api_Want t3 (.int .i64 15) (.func (.func N.fiber_Fiber_shares) #[] #[])) (fun w14 => opU PG (Instr.mapUpdate T.t_map_api_Op_func_ptr_fiber_Fiber_api_Ins_ptr_api_Want t3 (.int .i64 16) (.func (.func N.fiber_Fiber_shares) #[] #[])) (fun w15 => R (.returned t3) w15) w14) w13) w12) w11) w10) w9) w8) w7) w6) w5) w4) w
theorem C_eq (R : Ending → World → Prop) (w : World) : fnW PG note 400 Tryz.f98 [] R w = C R  w := by kernel_rfl
theorem ok {R : Ending → World → Prop} {w : World} (h : C R  w) : Calls PG N.fiber_wants #[] w R :=
  fnW_sound mixed Tryz.func98 (args := []) (by rw [C_eq]; exact h)
end fiber_wants
end Go.Proofs.YtkkkcafkepnecaaGreat
