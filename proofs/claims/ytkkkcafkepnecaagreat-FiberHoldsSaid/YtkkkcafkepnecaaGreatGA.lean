/- Conditions of functions, printed by a program of this session (gen.py) and checked by the kernel. -/
import Derived.Test.YtkkkcafkepnecaaGreatZB
set_option linter.unusedVariables false
namespace Go.Proofs.YtkkkcafkepnecaaGreat
open Go Go.RowKit Vc

namespace fiber_Fiber_local
theorem okf : okFn PG N.fiber_Fiber_local = true := by kernel_rfl
def note : Note := ⟨[], []⟩
def C (R : Ending → World → Prop) (x0 x1 x2 : Value) (w : World) : Prop :=
  alW (Value.cells x1) T.t_api_Ins (fun t2 w3 => nlW x2 fun t5 => faW 0 t5 fun t6 => stW 1 t6 (.int .i64 1) (fun w7 => faW 0 t2 fun t9 => ldW none t9 w7 fun t10 => pu PG (binV .eql T.t_api_Op true t10 (.int .i64 3)) fun t12 => condV t12 (∃ H14 : World → Prop, H14 (World.drew w7) ∧ (faW 4 t2 fun t15 => ldS none t15 H14 fun t16 => pu PG (convert T.t_uint32 T.t_api_Arith t16) fun t17 => nlW x0 fun t18 => faW 0 t18 fun t19 => faW 0 t19 fun t20 => ldS none t20 H14 fun t21 => faW 2 t2 fun t22 => ldS none t22 H14 fun t23 => nlW x0 fun t24 => faW 0 t24 fun t25 => faW 0 t25 fun t26 => ldS none t26 H14 fun t27 => faW 3 t2 fun t28 => ldS none t28 H14 fun t29 => callW PG N.stack_Stack_Reg [t21, t23] (fun t30 w31 => H14 w31 ∧ (callW PG N.stack_Stack_Reg [t27, t29] (fun t32 w33 => H14 w33 ∧ (callW PG N.arith_Do [t17, t30, t32] (fun t34 w35 => exW 0 t34 fun t36 => exW 1 t34 fun t37 => pu PG (binV .neq T.t_api_Errno true t37 (.int .i64 0)) fun t42 => condV t42 (nlW x2 fun t43 => faW 0 t43 fun t44 => stW 1 t44 (.int .i64 14) (fun w45 => nlW x2 fun t46 => faW 9 t46 fun t47 => stW 1 t47 (.int .i64 4) (fun w48 => R (.returned (.tuple #[])) w48) w45) w35) (R (.returned (.tuple #[])) w35)) (fun c w => ∀ s38 : S, R (.panicked c) w) w33)) (fun c w => ∀ s39 : S, R (.panicked c) w) w31)) (fun c w => ∀ s40 : S, R (.panicked c) w) (World.drew w7))) (pu PG (binV .eql T.t_api_Op true t10 (.int .i64 8)) fun t50 => condV t50 (∃ H52 : World → Prop, H52 (World.drew w7) ∧ (nlW x0 fun t53 => faW 0 t53 fun t54 => faW 0 t54 fun t55 => ldS none t55 H52 fun t56 => nlW x0 fun t57 => faW 1 t57 fun t58 => ldS none t58 H52 fun t59 => callW PG N.stack_Stack_Depth [t56] (fun t60 w61 => H52 w61 ∧ (pu PG (binV .geq T.t_int false t60 t59) fun t62 => condV t62 (nlW x2 fun t64 => faW 0 t64 fun t65 => stW 1 t65 (.int .i64 14) (fun w66 => nlW x2 fun t67 => faW 9 t67 fun t68 => stW 1 t68 (.int .i64 6) (fun w69 => R (.returned (.tuple #[])) w69) w66) w61) (R (.returned (.tuple #[])) w61))) (fun c w => ∀ s63 : S, R (.panicked c) w) (World.drew w7))) (pu PG (binV .eql T.t_api_Op true t10 (.int .i64 9)) fun t71 => condV t71 (nlW x0 fun t73 => faW 0 t73 fun t74 => faW 0 t74 fun t75 => ldW none t75 w7 fun t76 => callW PG N.stack_Stack_Depth [t76] (fun t77 w78 => pu PG (binV .eql T.t_int true t77 (.int .i64 1)) fun t79 => condV t79 (nlW x2 fun t80 => faW 0 t80 fun t81 => stW 1 t81 (.int .i64 13) (fun w82 => R (.returned (.tuple #[])) w82) w78) (R (.returned (.tuple #[])) w78)) (fun c w => R (.panicked c) w) w7) (R (.returned (.tuple #[])) w7)))) w3) w
theorem C_eq (R : Ending → World → Prop) (x0 x1 x2 : Value) (w : World) : fnW PG note 400 Tryz.f99 [x0, x1, x2] R w = C R x0 x1 x2 w := by kernel_rfl
theorem ok {R : Ending → World → Prop} {x0 x1 x2 : Value} {w : World} (h : C R x0 x1 x2 w) : Calls PG N.fiber_Fiber_local #[x0, x1, x2] w R :=
  fnW_sound mixed Tryz.func99 (args := [x0, x1, x2]) (by rw [C_eq]; exact h)
end fiber_Fiber_local
namespace fiber_Fiber_loads
theorem okf : okFn PG N.fiber_Fiber_loads = true := by kernel_rfl
def note : Note := ⟨[], []⟩
def C (R : Ending → World → Prop) (x0 x1 x2 : Value) (w : World) : Prop :=
  alW (Value.cells x1) T.t_api_Ins (fun t2 w3 => ∃ H4 : World → Prop, H4 (World.drew w3) ∧ (nlW x0 fun t5 => faW 0 t5 fun t6 => faW 0 t6 fun t7 => ldS none t7 H4 fun t8 => faW 2 t2 fun t9 => ldS none t9 H4 fun t10 => callW PG N.stack_Stack_Reg [t8, t10] (fun t11 w12 => nlW x2 fun t13 => faW 0 t13 fun t14 => stW 1 t14 (.int .i64 2) (fun w15 => nlW x2 fun t16 => faW 3 t16 fun t17 => stW 1 t17 t11 (fun w18 => R (.returned (.tuple #[])) w18) w15) w12) (fun c w => ∀ s19 : S, R (.panicked c) w) (World.drew w3))) w
theorem C_eq (R : Ending → World → Prop) (x0 x1 x2 : Value) (w : World) : fnW PG note 400 Tryz.f141 [x0, x1, x2] R w = C R x0 x1 x2 w := by kernel_rfl
theorem ok {R : Ending → World → Prop} {x0 x1 x2 : Value} {w : World} (h : C R x0 x1 x2 w) : Calls PG N.fiber_Fiber_loads #[x0, x1, x2] w R :=
  fnW_sound mixed Tryz.func141 (args := [x0, x1, x2]) (by rw [C_eq]; exact h)
end fiber_Fiber_loads
namespace fiber_Fiber_stores
theorem okf : okFn PG N.fiber_Fiber_stores = true := by kernel_rfl
def note : Note := ⟨[], []⟩
def C (R : Ending → World → Prop) (x0 x1 x2 : Value) (w : World) : Prop :=
  alW (Value.cells x1) T.t_api_Ins (fun t2 w3 => ∃ H4 : World → Prop, H4 (World.drew w3) ∧ (nlW x0 fun t5 => faW 0 t5 fun t6 => faW 0 t6 fun t7 => ldS none t7 H4 fun t8 => faW 1 t2 fun t9 => ldS none t9 H4 fun t10 => nlW x0 fun t11 => faW 0 t11 fun t12 => faW 0 t12 fun t13 => ldS none t13 H4 fun t14 => faW 2 t2 fun t15 => ldS none t15 H4 fun t16 => callW PG N.stack_Stack_Reg [t8, t10] (fun t17 w18 => H4 w18 ∧ (callW PG N.stack_Stack_Reg [t14, t16] (fun t19 w20 => nlW x2 fun t21 => faW 0 t21 fun t22 => stW 1 t22 (.int .i64 3) (fun w23 => nlW x2 fun t24 => faW 3 t24 fun t25 => stW 1 t25 t17 (fun w26 => nlW x2 fun t27 => faW 4 t27 fun t28 => stW 1 t28 t19 (fun w29 => R (.returned (.tuple #[])) w29) w26) w23) w20) (fun c w => ∀ s30 : S, R (.panicked c) w) w18)) (fun c w => ∀ s31 : S, R (.panicked c) w) (World.drew w3))) w
theorem C_eq (R : Ending → World → Prop) (x0 x1 x2 : Value) (w : World) : fnW PG note 400 Tryz.f142 [x0, x1, x2] R w = C R x0 x1 x2 w := by kernel_rfl
theorem ok {R : Ending → World → Prop} {x0 x1 x2 : Value} {w : World} (h : C R x0 x1 x2 w) : Calls PG N.fiber_Fiber_stores #[x0, x1, x2] w R :=
  fnW_sound mixed Tryz.func142 (args := [x0, x1, x2]) (by rw [C_eq]; exact h)
end fiber_Fiber_stores
namespace fiber_Fiber_begins
theorem okf : okFn PG N.fiber_Fiber_begins = true := by kernel_rfl
def note : Note := ⟨[], []⟩
def C (R : Ending → World → Prop) (x0 x1 x2 : Value) (w : World) : Prop :=
  alW (Value.cells x1) T.t_api_Ins (fun t2 w3 => ∃ H4 : World → Prop, H4 (World.drew w3) ∧ (faW 4 t2 fun t5 => ldS none t5 H4 fun t6 => pu PG (convert T.t_uint32 T.t_int t6) fun t7 => faW 2 t2 fun t8 => ldW none t8 (World.drew w3) fun t9 => faW 3 t2 fun t10 => ldW none t10 (World.drew w3) fun t11 => nlW x0 fun t12 => faW 0 t12 fun t13 => faW 0 t13 fun t14 => ldW none t14 (World.drew w3) fun t15 => callW PG N.fiber_gathered_uint32 [t9, t11, (.func (.func N.stack_Stack_Reg) #[t15] #[])] (fun t16 w17 => H4 w17 ∧ (nlW x2 fun t18 => faW 0 t18 fun t19 => stW 1 t19 (.int .i64 4) (fun w20 => H4 w20 ∧ (nlW x2 fun t21 => faW 7 t21 fun t22 => stW 1 t22 t7 (fun w23 => nlW x2 fun t24 => faW 8 t24 fun t25 => stW 1 t25 t16 (fun w26 => R (.returned (.tuple #[])) w26) w23) w20)) w17)) (fun c w => ∀ s27 : S, R (.panicked c) w) (World.drew w3))) w
theorem C_eq (R : Ending → World → Prop) (x0 x1 x2 : Value) (w : World) : fnW PG note 400 Tryz.f143 [x0, x1, x2] R w = C R x0 x1 x2 w := by kernel_rfl
theorem ok {R : Ending → World → Prop} {x0 x1 x2 : Value} {w : World} (h : C R x0 x1 x2 w) : Calls PG N.fiber_Fiber_begins #[x0, x1, x2] w R :=
  fnW_sound mixed Tryz.func143 (args := [x0, x1, x2]) (by rw [C_eq]; exact h)
end fiber_Fiber_begins
namespace fiber_Fiber_counts
theorem okf : okFn PG N.fiber_Fiber_counts = true := by kernel_rfl
def note : Note := ⟨[], []⟩
def C (R : Ending → World → Prop) (x0 x1 x2 : Value) (w : World) : Prop :=
  alW (Value.cells x1) T.t_api_Ins (fun t2 w3 => ∃ H4 : World → Prop, H4 (World.drew w3) ∧ (nlW x0 fun t5 => faW 0 t5 fun t6 => faW 0 t6 fun t7 => ldS none t7 H4 fun t8 => faW 1 t2 fun t9 => ldS none t9 H4 fun t10 => nlW x0 fun t11 => faW 0 t11 fun t12 => faW 0 t12 fun t13 => ldS none t13 H4 fun t14 => faW 2 t2 fun t15 => ldS none t15 H4 fun t16 => callW PG N.stack_Stack_Reg [t8, t10] (fun t17 w18 => H4 w18 ∧ (callW PG N.stack_Stack_Reg [t14, t16] (fun t19 w20 => callW PG N.arith_Signed [t19] (fun t21 w22 => nlW x2 fun t23 => faW 0 t23 fun t24 => stW 1 t24 (.int .i64 11) (fun w25 => nlW x2 fun t26 => faW 5 t26 fun t27 => stW 1 t27 t17 (fun w28 => nlW x2 fun t29 => faW 6 t29 fun t30 => stW 1 t30 t21 (fun w31 => R (.returned (.tuple #[])) w31) w28) w25) w22) (fun c w => ∀ s32 : S, R (.panicked c) w) w20) (fun c w => ∀ s33 : S, R (.panicked c) w) w18)) (fun c w => ∀ s34 : S, R (.panicked c) w) (World.drew w3))) w
theorem C_eq (R : Ending → World → Prop) (x0 x1 x2 : Value) (w : World) : fnW PG note 400 Tryz.f144 [x0, x1, x2] R w = C R x0 x1 x2 w := by kernel_rfl
theorem ok {R : Ending → World → Prop} {x0 x1 x2 : Value} {w : World} (h : C R x0 x1 x2 w) : Calls PG N.fiber_Fiber_counts #[x0, x1, x2] w R :=
  fnW_sound mixed Tryz.func144 (args := [x0, x1, x2]) (by rw [C_eq]; exact h)
end fiber_Fiber_counts
namespace fiber_Fiber_shares
theorem okf : okFn PG N.fiber_Fiber_shares = true := by kernel_rfl
def note : Note := ⟨[], []⟩
def C (R : Ending → World → Prop) (x0 x1 x2 : Value) (w : World) : Prop :=
  alW (Value.cells x1) T.t_api_Ins (fun t2 w3 => ∃ H4 : World → Prop, H4 (World.drew w3) ∧ (faW 0 t2 fun t5 => ldS none t5 H4 fun t6 => pu PG (binV .sub T.t_api_Op true t6 (.int .i64 11)) fun t7 => nlW x0 fun t8 => faW 0 t8 fun t9 => faW 0 t9 fun t10 => ldS none t10 H4 fun t11 => faW 1 t2 fun t12 => ldS none t12 H4 fun t13 => callW PG N.fiber_shared [] (fun t14 w15 => H4 w15 ∧ (ixV 8 1 false t14 t7 fun t16 => callW PG N.stack_Stack_Reg [t11, t13] (fun t17 w18 => H4 w18 ∧ (nlW x2 fun t19 => faW 0 t19 fun t20 => stW 1 t20 t16 (fun w21 => nlW x2 fun t22 => faW 5 t22 fun t23 => stW 1 t23 t17 (fun w24 => R (.returned (.tuple #[])) w24) w21) w18)) (fun c w => ∀ s25 : S, R (.panicked c) w) w15)) (fun c w => ∀ s26 : S, R (.panicked c) w) (World.drew w3))) w
theorem C_eq (R : Ending → World → Prop) (x0 x1 x2 : Value) (w : World) : fnW PG note 400 Tryz.f145 [x0, x1, x2] R w = C R x0 x1 x2 w := by kernel_rfl
theorem ok {R : Ending → World → Prop} {x0 x1 x2 : Value} {w : World} (h : C R x0 x1 x2 w) : Calls PG N.fiber_Fiber_shares #[x0, x1, x2] w R :=
  fnW_sound mixed Tryz.func145 (args := [x0, x1, x2]) (by rw [C_eq]; exact h)
end fiber_Fiber_shares
namespace fiber_gathered_uint32
theorem okf : okFn PG N.fiber_gathered_uint32 = true := by kernel_rfl
def note : Note := ⟨[(0, [6, 9])], []⟩
def C (R : Ending → World → Prop) (x0 x1 x2 : Value) (w : World) : Prop :=
  LoopW [(.slice none 0 0), (.int .i64 0)] (fun l5 N6 w7 => ∀ j4 : S, pu PG (binV .lss T.t_int false (gv l5 1) x1) fun t9 => condV t9 (pu PG (binV .add T.t_int false x0 (gv l5 1)) fun t13 => callV PG x2 [t13] (fun t14 w15 => bsW T.t_uint32 1 (bsC PG T.t_uint32 1 [(0, t14)]) (fun t16 w17 => opW PG (Builtin.append_ #[T.t_sl_uint32, T.t_sl_uint32] T.t_sl_uint32 #[(gv l5 0), t16]) (fun t18 w19 => pu PG (binV .add T.t_int true (gv l5 1) (.int .i64 1)) fun t20 => N6 [t18, t20] w19) w17) w15) (fun c w => R (.panicked c) w) w7) (R (.returned (gv l5 0)) w7)) w
theorem C_eq (R : Ending → World → Prop) (x0 x1 x2 : Value) (w : World) : fnW PG note 400 Tryz.f174 [x0, x1, x2] R w = C R x0 x1 x2 w := by kernel_rfl
theorem ok {R : Ending → World → Prop} {x0 x1 x2 : Value} {w : World} (h : C R x0 x1 x2 w) : Calls PG N.fiber_gathered_uint32 #[x0, x1, x2] w R :=
  fnW_sound mixed Tryz.func174 (args := [x0, x1, x2]) (by rw [C_eq]; exact h)
end fiber_gathered_uint32
namespace fiber_shared
theorem okf : okFn PG N.fiber_shared = true := by kernel_rfl
def note : Note := ⟨[], []⟩
def C (R : Ending → World → Prop) (w : World) : Prop :=
  alW (zc PG T.t_8_api_EvKind) T.t_8_api_EvKind (fun t2 w3 => pu PG (Instr.build T.t_8_api_EvKind #[(0, (.int .i64 5)), (1, (.int .i64 6)), (2, (.int .i64 7)), (3, (.int .i64 8)), (4, (.int .i64 9)), (5, (.int .i64 10)), (6, (.int .i64 11)), (7, (.int .i64 12))]) fun t5 => stW 8 t2 t5 (fun w6 => ldW (some 8) t2 w6 fun t7 => R (.returned t7) w6) w3) w
theorem C_eq (R : Ending → World → Prop) (w : World) : fnW PG note 400 Tryz.f176 [] R w = C R  w := by kernel_rfl
theorem ok {R : Ending → World → Prop} {w : World} (h : C R  w) : Calls PG N.fiber_shared #[] w R :=
  fnW_sound mixed Tryz.func176 (args := []) (by rw [C_eq]; exact h)
end fiber_shared
end Go.Proofs.YtkkkcafkepnecaaGreat
