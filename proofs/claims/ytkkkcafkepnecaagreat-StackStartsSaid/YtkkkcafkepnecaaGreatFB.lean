/- Conditions of functions, printed by a program of this session (gen.py) and checked by the kernel. -/
import Derived.Test.YtkkkcafkepnecaaGreatZB
set_option linter.unusedVariables false
namespace Go.Proofs.YtkkkcafkepnecaaGreat
open Go Go.RowKit Vc

namespace stack_Stack_Copy
theorem okf : okFn PG N.stack_Stack_Copy = true := by kernel_rfl
def note : Note := ⟨[], []⟩
def C (R : Ending → World → Prop) (x0 : Value) (w : World) : Prop :=
  callW PG N.stack_Stack_none [x0] (fun t4 w5 => condV t4 (R (.returned (.pointer none)) w5) (nlW x0 fun t8 => ldW (some 7) t8 w5 fun t9 => alW (zc PG T.t_stack_Stack) T.t_stack_Stack (fun t10 w11 => stW 7 t10 t9 (fun w12 => nlW x0 fun t14 => faW 4 t14 fun t15 => ldW none t15 w12 fun t16 => callW PG N.stack_copied_api_Frame [t16, (.func (.func N.stack_cloned) #[] #[])] (fun t17 w18 => faW 4 t10 fun t19 => stW 1 t19 t17 (fun w20 => R (.returned t10) w20) w18) (fun c w => R (.panicked c) w) w12) w11) w5)) (fun c w => R (.panicked c) w) w
theorem C_eq (R : Ending → World → Prop) (x0 : Value) (w : World) : fnW PG note 400 Tryz.f29 [x0] R w = C R x0 w := by kernel_rfl
theorem ok {R : Ending → World → Prop} {x0 : Value} {w : World} (h : C R x0 w) : Calls PG N.stack_Stack_Copy #[x0] w R :=
  fnW_sound mixed Tryz.func29 (args := [x0]) (by rw [C_eq]; exact h)
end stack_Stack_Copy
namespace stack_Stack_Depth
theorem okf : okFn PG N.stack_Stack_Depth = true := by kernel_rfl
def note : Note := ⟨[], []⟩
def C (R : Ending → World → Prop) (x0 : Value) (w : World) : Prop :=
  callW PG N.stack_Stack_none [x0] (fun t4 w5 => condV t4 (R (.returned (.int .i64 0)) w5) (nlW x0 fun t8 => faW 4 t8 fun t9 => ldW none t9 w5 fun t10 => lnS t10 fun t11 => R (.returned t11) w5)) (fun c w => R (.panicked c) w) w
theorem C_eq (R : Ending → World → Prop) (x0 : Value) (w : World) : fnW PG note 400 Tryz.f30 [x0] R w = C R x0 w := by kernel_rfl
theorem ok {R : Ending → World → Prop} {x0 : Value} {w : World} (h : C R x0 w) : Calls PG N.stack_Stack_Depth #[x0] w R :=
  fnW_sound mixed Tryz.func30 (args := [x0]) (by rw [C_eq]; exact h)
end stack_Stack_Depth
namespace stack_Stack_Step
theorem okf : okFn PG N.stack_Stack_Step = true := by kernel_rfl
def note : Note := ⟨[], []⟩
def C (R : Ending → World → Prop) (x0 x1 : Value) (w : World) : Prop :=
  alW (zc PG T.t_api_Errno) T.t_api_Errno (fun t2 w3 => callW PG N.stack_Stack_none [x0] (fun t6 w7 => pu PG (Op.unary .not t6) fun t8 => callW PG N.stack_must [t8, (.int .i64 1)] (fun t9 w10 => pu PG (binV .geq T.t_int true x1 (.int .i64 1)) fun t16 => callW PG N.stack_must [t16, (.int .i64 2)] (fun t17 w18 => callW PG N.stack_Stack_ins [x0] (fun t22 w23 => alW (zc PG T.t_api_Ins) T.t_api_Ins (fun t24 w25 => stW 5 t24 t22 (fun w26 => ldW (some 5) t24 w26 fun t30 => callW PG N.stack_Stack_refused [x0, t30, x1] (fun t31 w32 => callW PG N.stack_Stack_top [x0] (fun t36 w37 => nlW t36 fun t38 => faW 1 t38 fun t39 => ldW none t39 w37 fun t40 => pu PG (binV .add T.t_int true t40 (.int .i64 1)) fun t41 => nlW t36 fun t42 => faW 1 t42 fun t43 => stW 1 t43 t41 (fun w44 => ∃ H48 : World → Prop, H48 (World.drew w44) ∧ (faW 0 t24 fun t49 => ldS none t49 H48 fun t50 => ldS (some 5) t24 H48 fun t51 => callW PG N.stack_does [] (fun t52 w53 => H48 w53 ∧ (opW PG (Instr.lookup T.t_map_api_Op_func_ptr_stack_Stack_api_Ins t52 t50 false) (fun t54 w55 => H48 w55 ∧ (callV PG t54 [x0, t51] (fun t56 w57 => stW 1 t2 (.int .i64 0) (fun w65 => LvW PG ({ target := .fn (.func N.stack_caught) #[], args := #[t2] } :: []) .returning w65 (endV (fun w66 => ldW none t2 w66 fun t67 => R (.returned t67) w66) R)) w57) (fun c w => ∀ s58 : S, LvW PG ({ target := .fn (.func N.stack_caught) #[], args := #[t2] } :: []) (.panicking c) w (endV (fun w59 => ldW none (s58 4) w59 fun t60 => R (.returned t60) w59) R)) w55)) w53)) (fun c w => ∀ s61 : S, LvW PG ({ target := .fn (.func N.stack_caught) #[], args := #[t2] } :: []) (.panicking c) w (endV (fun w62 => ldW none (s61 4) w62 fun t63 => R (.returned t63) w62) R)) (World.drew w44))) w37) (fun c w => LvW PG ({ target := .fn (.func N.stack_caught) #[], args := #[t2] } :: []) (.panicking c) w (endV (fun w45 => ldW none t2 w45 fun t46 => R (.returned t46) w45) R)) w32) (fun c w => LvW PG ({ target := .fn (.func N.stack_caught) #[], args := #[t2] } :: []) (.panicking c) w (endV (fun w33 => ldW none t2 w33 fun t34 => R (.returned t34) w33) R)) w26) w25) w23) (fun c w => LvW PG ({ target := .fn (.func N.stack_caught) #[], args := #[t2] } :: []) (.panicking c) w (endV (fun w27 => ldW none t2 w27 fun t28 => R (.returned t28) w27) R)) w18) (fun c w => LvW PG ({ target := .fn (.func N.stack_caught) #[], args := #[t2] } :: []) (.panicking c) w (endV (fun w19 => ldW none t2 w19 fun t20 => R (.returned t20) w19) R)) w10) (fun c w => LvW PG ({ target := .fn (.func N.stack_caught) #[], args := #[t2] } :: []) (.panicking c) w (endV (fun w11 => ldW none t2 w11 fun t12 => R (.returned t12) w11) R)) w7) (fun c w => LvW PG ({ target := .fn (.func N.stack_caught) #[], args := #[t2] } :: []) (.panicking c) w (endV (fun w13 => ldW none t2 w13 fun t14 => R (.returned t14) w13) R)) w3) w
theorem C_eq (R : Ending → World → Prop) (x0 x1 : Value) (w : World) : fnW PG note 400 Tryz.f31 [x0, x1] R w = C R x0 x1 w := by kernel_rfl
theorem ok {R : Ending → World → Prop} {x0 x1 : Value} {w : World} (h : C R x0 x1 w) : Calls PG N.stack_Stack_Step #[x0, x1] w R :=
  fnW_sound mixed Tryz.func31 (args := [x0, x1]) (by rw [C_eq]; exact h)
end stack_Stack_Step
namespace stack_Stack_Pass
theorem okf : okFn PG N.stack_Stack_Pass = true := by kernel_rfl
def note : Note := ⟨[], []⟩
def C (R : Ending → World → Prop) (x0 x1 x2 : Value) (w : World) : Prop :=
  alW (zc PG T.t_api_Errno) T.t_api_Errno (fun t2 w3 => callW PG N.stack_Stack_top [x0] (fun t6 w7 => callW PG N.stack_Stack_ins [x0] (fun t11 w12 => callW PG N.instr_Local [t11] (fun t13 w14 => pu PG (Op.unary .not t13) fun t15 => callW PG N.stack_must [t15, (.int .i64 223)] (fun t16 w17 => pu PG (binV .geq T.t_int true x1 (.int .i64 (-1))) fun t25 => condV t25 (nlW t6 fun t26 => faW 3 t26 fun t27 => ldW none t27 w17 fun t28 => lnS t28 fun t29 => pu PG (binV .lss T.t_int false x1 t29) fun t30 => callW PG N.stack_must [t30, (.int .i64 2)] (fun t31 w32 => pu PG (binV .geq T.t_int true x1 (.int .i64 0)) fun t41 => condV t41 (nlW t6 fun t42 => faW 3 t42 fun t43 => ldW none t43 w32 fun t44 => ixS 1 t44 x1 fun t45 => stW 1 t45 x2 (fun w46 => nlW t6 fun t48 => faW 1 t48 fun t49 => ldW none t49 w46 fun t50 => pu PG (binV .add T.t_int true t50 (.int .i64 1)) fun t51 => nlW t6 fun t52 => faW 1 t52 fun t53 => stW 1 t53 t51 (fun w54 => stW 1 t2 (.int .i64 0) (fun w56 => LvW PG ({ target := .fn (.func N.stack_caught) #[], args := #[t2] } :: []) .returning w56 (endV (fun w57 => ldW none t2 w57 fun t58 => R (.returned t58) w57) R)) w54) w46) w32) (nlW t6 fun t60 => faW 1 t60 fun t61 => ldW none t61 w32 fun t62 => pu PG (binV .add T.t_int true t62 (.int .i64 1)) fun t63 => nlW t6 fun t64 => faW 1 t64 fun t65 => stW 1 t65 t63 (fun w66 => stW 1 t2 (.int .i64 0) (fun w68 => LvW PG ({ target := .fn (.func N.stack_caught) #[], args := #[t2] } :: []) .returning w68 (endV (fun w69 => ldW none t2 w69 fun t70 => R (.returned t70) w69) R)) w66) w32)) (fun c w => LvW PG ({ target := .fn (.func N.stack_caught) #[], args := #[t2] } :: []) (.panicking c) w (endV (fun w33 => ldW none t2 w33 fun t34 => R (.returned t34) w33) R)) w17) (callW PG N.stack_must [(.bool false), (.int .i64 2)] (fun t35 w36 => pu PG (binV .geq T.t_int true x1 (.int .i64 0)) fun t73 => condV t73 (nlW t6 fun t74 => faW 3 t74 fun t75 => ldW none t75 w36 fun t76 => ixS 1 t76 x1 fun t77 => stW 1 t77 x2 (fun w78 => nlW t6 fun t80 => faW 1 t80 fun t81 => ldW none t81 w78 fun t82 => pu PG (binV .add T.t_int true t82 (.int .i64 1)) fun t83 => nlW t6 fun t84 => faW 1 t84 fun t85 => stW 1 t85 t83 (fun w86 => stW 1 t2 (.int .i64 0) (fun w88 => LvW PG ({ target := .fn (.func N.stack_caught) #[], args := #[t2] } :: []) .returning w88 (endV (fun w89 => ldW none t2 w89 fun t90 => R (.returned t90) w89) R)) w86) w78) w36) (nlW t6 fun t92 => faW 1 t92 fun t93 => ldW none t93 w36 fun t94 => pu PG (binV .add T.t_int true t94 (.int .i64 1)) fun t95 => nlW t6 fun t96 => faW 1 t96 fun t97 => stW 1 t97 t95 (fun w98 => stW 1 t2 (.int .i64 0) (fun w100 => LvW PG ({ target := .fn (.func N.stack_caught) #[], args := #[t2] } :: []) .returning w100 (endV (fun w101 => ldW none t2 w101 fun t102 => R (.returned t102) w101) R)) w98) w36)) (fun c w => LvW PG ({ target := .fn (.func N.stack_caught) #[], args := #[t2] } :: []) (.panicking c) w (endV (fun w37 => ldW none t2 w37 fun t38 => R (.returned t38) w37) R)) w17)) (fun c w => LvW PG ({ target := .fn (.func N.stack_caught) #[], args := #[t2] } :: []) (.panicking c) w (endV (fun w18 => ldW none t2 w18 fun t19 => R (.returned t19) w18) R)) w14) (fun c w => LvW PG ({ target := .fn (.func N.stack_caught) #[], args := #[t2] } :: []) (.panicking c) w (endV (fun w20 => ldW none t2 w20 fun t21 => R (.returned t21) w20) R)) w12) (fun c w => LvW PG ({ target := .fn (.func N.stack_caught) #[], args := #[t2] } :: []) (.panicking c) w (endV (fun w22 => ldW none t2 w22 fun t23 => R (.returned t23) w22) R)) w7) (fun c w => LvW PG ({ target := .fn (.func N.stack_caught) #[], args := #[t2] } :: []) (.panicking c) w (endV (fun w8 => ldW none t2 w8 fun t9 => R (.returned t9) w8) R)) w3) w
theorem C_eq (R : Ending → World → Prop) (x0 x1 x2 : Value) (w : World) : fnW PG note 400 Tryz.f32 [x0, x1, x2] R w = C R x0 x1 x2 w := by kernel_rfl
theorem ok {R : Ending → World → Prop} {x0 x1 x2 : Value} {w : World} (h : C R x0 x1 x2 w) : Calls PG N.stack_Stack_Pass #[x0, x1, x2] w R :=
  fnW_sound mixed Tryz.func32 (args := [x0, x1, x2]) (by rw [C_eq]; exact h)
end stack_Stack_Pass
namespace stack_Same
theorem okf : okFn PG N.stack_Same = true := by kernel_rfl
def note : Note := ⟨[], []⟩
def C (R : Ending → World → Prop) (x0 x1 : Value) (w : World) : Prop :=
  callW PG N.stack_Stack_none [x0] (fun t4 w5 => condV t4 (callW PG N.stack_Stack_none [x0] (fun t9 w10 => condV t9 (callW PG N.stack_Stack_none [x1] (fun t11 w12 => R (.returned t11) w12) (fun c w => R (.panicked c) w) w10) (R (.returned (.bool false)) w10)) (fun c w => R (.panicked c) w) w5) (callW PG N.stack_Stack_none [x1] (fun t6 w7 => condV t6 (callW PG N.stack_Stack_none [x0] (fun t14 w15 => condV t14 (callW PG N.stack_Stack_none [x1] (fun t16 w17 => R (.returned t16) w17) (fun c w => R (.panicked c) w) w15) (R (.returned (.bool false)) w15)) (fun c w => R (.panicked c) w) w7) (∃ H19 : World → Prop, H19 (World.drew w7) ∧ (nlW x0 fun t20 => faW 5 t20 fun t21 => ldS none t21 H19 fun t22 => nlW x1 fun t23 => faW 5 t23 fun t24 => ldS none t24 H19 fun t25 => pu PG (binV .eql T.t_uint32 false t22 t25) fun t26 => condV t26 (nlW x0 fun t27 => faW 0 t27 fun t28 => ldS (some 4) t28 H19 fun t29 => nlW x1 fun t30 => faW 0 t30 fun t31 => ldS (some 4) t31 H19 fun t32 => callW PG N.program_Same [t29, t32] (fun t33 w34 => H19 w34 ∧ (condV t33 (nlW x0 fun t35 => faW 4 t35 fun t36 => ldS none t36 H19 fun t37 => nlW x1 fun t38 => faW 4 t38 fun t39 => ldS none t39 H19 fun t40 => callW PG N.slices_EqualFunc_sl_api_Frame_sl_api_Frame_api_Frame_api_Frame [t37, t40, (.func (.func N.stack_same) #[] #[])] (fun t41 w42 => H19 w42 ∧ (R (.returned t41) w42)) (fun c w => ∀ s43 : S, R (.panicked c) w) w34) (R (.returned (.bool false)) w34))) (fun c w => ∀ s44 : S, R (.panicked c) w) (World.drew w7)) (R (.returned (.bool false)) (World.drew w7))))) (fun c w => R (.panicked c) w) w5)) (fun c w => R (.panicked c) w) w
theorem C_eq (R : Ending → World → Prop) (x0 x1 : Value) (w : World) : fnW PG note 400 Tryz.f33 [x0, x1] R w = C R x0 x1 w := by kernel_rfl
theorem ok {R : Ending → World → Prop} {x0 x1 : Value} {w : World} (h : C R x0 x1 w) : Calls PG N.stack_Same #[x0, x1] w R :=
  fnW_sound mixed Tryz.func33 (args := [x0, x1]) (by rw [C_eq]; exact h)
end stack_Same
namespace stack_Stack_Next
theorem okf : okFn PG N.stack_Stack_Next = true := by kernel_rfl
def note : Note := ⟨[], []⟩
def C (R : Ending → World → Prop) (x0 : Value) (w : World) : Prop :=
  alW (zc PG T.t_api_Ins) T.t_api_Ins (fun t2 w3 => alW (zc PG T.t_api_Site) T.t_api_Site (fun t4 w5 => callW PG N.stack_Stack_Depth [x0] (fun t8 w9 => pu PG (binV .eql T.t_int true t8 (.int .i64 0)) fun t10 => condV t10 (pu PG (Instr.build T.t_api_Ins #[]) fun t12 => pu PG (Instr.build T.t_api_Site #[]) fun t13 => stW 5 t2 t12 (fun w14 => stW 2 t4 t13 (fun w15 => ldW (some 5) t2 w15 fun t16 => ldW (some 2) t4 w15 fun t17 => R (.returned (.tuple #[t16, t17, (.bool false)])) w15) w14) w9) (callW PG N.stack_Stack_top [x0] (fun t19 w20 => ∃ H22 : World → Prop, H22 (World.drew w20) ∧ (nlW t19 fun t23 => faW 0 t23 fun t24 => ldS none t24 H22 fun t25 => nlW t19 fun t26 => faW 1 t26 fun t27 => ldS none t27 H22 fun t28 => pu PG (Instr.build T.t_api_Site #[(0, t25), (1, t28)]) fun t29 => callW PG N.stack_Stack_ins [x0] (fun t30 w31 => H22 w31 ∧ (stW 5 t2 t30 (fun w32 => H22 w32 ∧ (stW 2 t4 t29 (fun w33 => ldW (some 5) t2 w33 fun t35 => ldW (some 2) t4 w33 fun t36 => R (.returned (.tuple #[t35, t36, (.bool true)])) w33) w32)) w31)) (fun c w => ∀ s34 : S, R (.panicked c) w) (World.drew w20))) (fun c w => R (.panicked c) w) w9)) (fun c w => R (.panicked c) w) w5) w3) w
theorem C_eq (R : Ending → World → Prop) (x0 : Value) (w : World) : fnW PG note 400 Tryz.f34 [x0] R w = C R x0 w := by kernel_rfl
theorem ok {R : Ending → World → Prop} {x0 : Value} {w : World} (h : C R x0 w) : Calls PG N.stack_Stack_Next #[x0] w R :=
  fnW_sound mixed Tryz.func34 (args := [x0]) (by rw [C_eq]; exact h)
end stack_Stack_Next
namespace stack_Stack_Reg
theorem okf : okFn PG N.stack_Stack_Reg = true := by kernel_rfl
def note : Note := ⟨[], []⟩
def C (R : Ending → World → Prop) (x0 x1 : Value) (w : World) : Prop :=
  callW PG N.stack_Stack_Depth [x0] (fun t4 w5 => pu PG (binV .eql T.t_int true t4 (.int .i64 0)) fun t6 => condV t6 (R (.returned (.int .u32 0)) w5) (pu PG (binV .lss T.t_int true x1 (.int .i64 0)) fun t7 => condV t7 (R (.returned (.int .u32 0)) w5) (callW PG N.stack_Stack_top [x0] (fun t8 w9 => nlW t8 fun t10 => faW 3 t10 fun t11 => ldW none t11 w9 fun t12 => lnS t12 fun t13 => pu PG (binV .geq T.t_int false x1 t13) fun t14 => condV t14 (R (.returned (.int .u32 0)) w9) (callW PG N.stack_Stack_top [x0] (fun t19 w20 => nlW t19 fun t21 => faW 3 t21 fun t22 => ldW none t22 w20 fun t23 => ixS 1 t23 x1 fun t24 => ldW none t24 w20 fun t25 => R (.returned t25) w20) (fun c w => R (.panicked c) w) w9)) (fun c w => R (.panicked c) w) w5))) (fun c w => R (.panicked c) w) w
theorem C_eq (R : Ending → World → Prop) (x0 x1 : Value) (w : World) : fnW PG note 400 Tryz.f41 [x0, x1] R w = C R x0 x1 w := by kernel_rfl
theorem ok {R : Ending → World → Prop} {x0 x1 : Value} {w : World} (h : C R x0 x1 w) : Calls PG N.stack_Stack_Reg #[x0, x1] w R :=
  fnW_sound mixed Tryz.func41 (args := [x0, x1]) (by rw [C_eq]; exact h)
end stack_Stack_Reg
namespace stack_Stack_Result
theorem okf : okFn PG N.stack_Stack_Result = true := by kernel_rfl
def note : Note := ⟨[], []⟩
def C (R : Ending → World → Prop) (x0 : Value) (w : World) : Prop :=
  callW PG N.stack_Stack_none [x0] (fun t4 w5 => condV t4 (R (.returned (.int .u32 0)) w5) (nlW x0 fun t8 => faW 5 t8 fun t9 => ldW none t9 w5 fun t10 => R (.returned t10) w5)) (fun c w => R (.panicked c) w) w
theorem C_eq (R : Ending → World → Prop) (x0 : Value) (w : World) : fnW PG note 400 Tryz.f42 [x0] R w = C R x0 w := by kernel_rfl
theorem ok {R : Ending → World → Prop} {x0 : Value} {w : World} (h : C R x0 w) : Calls PG N.stack_Stack_Result #[x0] w R :=
  fnW_sound mixed Tryz.func42 (args := [x0]) (by rw [C_eq]; exact h)
end stack_Stack_Result
namespace program_Copy
theorem okf : okFn PG N.program_Copy = true := by kernel_rfl
def note : Note := ⟨[(0, [12])], []⟩
def C (R : Ending → World → Prop) (x0 : Value) (w : World) : Prop :=
  alW (Value.cells x0) T.t_api_Program (fun t2 w3 => alW (zc PG T.t_api_Program) T.t_api_Program (fun t4 w5 => faW 0 t2 fun t7 => ldW none t7 w5 fun t8 => callW PG N.slices_Clone_sl_api_Func_api_Func [t8] (fun t9 w10 => faW 0 t2 fun t11 => stW 1 t11 t9 (fun w12 => faW 0 t2 fun t15 => ldW none t15 w12 fun t16 => lnS t16 fun t17 => LoopW [(.int .i64 0)] (fun l19 N20 w21 => ∀ j18 : S, pu PG (binV .lss T.t_int false (gv l19 0) t17) fun t23 => condV t23 (ixS 2 t16 (gv l19 0) fun t27 => ldW (some 2) t27 w21 fun t28 => alW (zc PG T.t_api_Func) T.t_api_Func (fun t29 w30 => stW 2 t29 t28 (fun w31 => ∃ H32 : World → Prop, H32 (World.drew w31) ∧ (faW 0 t2 fun t33 => ldS none t33 H32 fun t34 => faW 1 t29 fun t35 => ldS none t35 H32 fun t36 => callW PG N.slices_Clone_sl_api_Ins_api_Ins [t36] (fun t37 w38 => H32 w38 ∧ (ixS 2 t34 (gv l19 0) fun t39 => faW 1 t39 fun t40 => stW 1 t40 t37 (fun w41 => pu PG (binV .add T.t_int true (gv l19 0) (.int .i64 1)) fun t43 => N20 [t43] w41) w38)) (fun c w => ∀ s42 : S, R (.panicked c) w) (World.drew w31))) w30) w21) (ldW (some 4) t2 w21 fun t45 => stW 4 t4 t45 (fun w46 => ldW (some 4) t4 w46 fun t47 => R (.returned t47) w46) w21)) w12) w10) (fun c w => R (.panicked c) w) w5) w3) w
theorem C_eq (R : Ending → World → Prop) (x0 : Value) (w : World) : fnW PG note 400 Tryz.f58 [x0] R w = C R x0 w := by kernel_rfl
theorem ok {R : Ending → World → Prop} {x0 : Value} {w : World} (h : C R x0 w) : Calls PG N.program_Copy #[x0] w R :=
  fnW_sound mixed Tryz.func58 (args := [x0]) (by rw [C_eq]; exact h)
end program_Copy
namespace stack_entered
theorem okf : okFn PG N.stack_entered = true := by kernel_rfl
def note : Note := ⟨[], []⟩
def C (R : Ending → World → Prop) (x0 x1 x2 x3 : Value) (w : World) : Prop :=
  alW (zc PG T.t_api_Frame) T.t_api_Frame (fun t2 w3 => mkW T.t_uint32 1 4 (zo PG T.t_uint32) x1 x1 (fun t5 w6 => opW PG (Builtin.copy_ #[T.t_sl_uint32, T.t_sl_uint32] T.t_int #[t5, x3]) (fun t8 w9 => pu PG (Instr.build T.t_api_Frame #[(0, x0), (2, x2), (3, t5)]) fun t11 => stW 4 t2 t11 (fun w12 => ldW (some 4) t2 w12 fun t13 => R (.returned t13) w12) w9) w6) w3) w
theorem C_eq (R : Ending → World → Prop) (x0 x1 x2 x3 : Value) (w : World) : fnW PG note 400 Tryz.f59 [x0, x1, x2, x3] R w = C R x0 x1 x2 x3 w := by kernel_rfl
theorem ok {R : Ending → World → Prop} {x0 x1 x2 x3 : Value} {w : World} (h : C R x0 x1 x2 x3 w) : Calls PG N.stack_entered #[x0, x1, x2, x3] w R :=
  fnW_sound mixed Tryz.func59 (args := [x0, x1, x2, x3]) (by rw [C_eq]; exact h)
end stack_entered
namespace stack_Stack_none
theorem okf : okFn PG N.stack_Stack_none = true := by kernel_rfl
def note : Note := ⟨[], []⟩
def C (R : Ending → World → Prop) (x0 : Value) (w : World) : Prop :=
  pu PG (binV .eql T.t_ptr_stack_Stack true x0 (.pointer none)) fun t3 => condV t3 (R (.returned (.bool true)) w) (nlW x0 fun t4 => faW 6 t4 fun t5 => ldW none t5 w fun t6 => pu PG (Op.unary .not t6) fun t7 => R (.returned t7) w)
theorem C_eq (R : Ending → World → Prop) (x0 : Value) (w : World) : fnW PG note 400 Tryz.f76 [x0] R w = C R x0 w := by kernel_rfl
theorem ok {R : Ending → World → Prop} {x0 : Value} {w : World} (h : C R x0 w) : Calls PG N.stack_Stack_none #[x0] w R :=
  fnW_sound mixed Tryz.func76 (args := [x0]) (by rw [C_eq]; exact h)
end stack_Stack_none
namespace stack_must
theorem okf : okFn PG N.stack_must = true := by kernel_rfl
def note : Note := ⟨[], []⟩
def C (R : Ending → World → Prop) (x0 x1 : Value) (w : World) : Prop :=
  pu PG (Op.unary .not x0) fun t2 => condV t2 (R (.panicked [{ v := (.iface T.t_api_Errno x1), recovered := false }]) w) (R (.returned (.tuple #[])) w)
theorem C_eq (R : Ending → World → Prop) (x0 x1 : Value) (w : World) : fnW PG note 400 Tryz.f80 [x0, x1] R w = C R x0 x1 w := by kernel_rfl
theorem ok {R : Ending → World → Prop} {x0 x1 : Value} {w : World} (h : C R x0 x1 w) : Calls PG N.stack_must #[x0, x1] w R :=
  fnW_sound mixed Tryz.func80 (args := [x0, x1]) (by rw [C_eq]; exact h)
end stack_must
namespace stack_Stack_top
theorem okf : okFn PG N.stack_Stack_top = true := by kernel_rfl
def note : Note := ⟨[], []⟩
def C (R : Ending → World → Prop) (x0 : Value) (w : World) : Prop :=
  callW PG N.stack_Stack_none [x0] (fun t3 w4 => pu PG (Op.unary .not t3) fun t5 => callW PG N.stack_must [t5, (.int .i64 1)] (fun t6 w7 => nlW x0 fun t9 => faW 4 t9 fun t10 => ldW none t10 w7 fun t11 => lnS t11 fun t12 => pu PG (binV .gtr T.t_int true t12 (.int .i64 0)) fun t13 => callW PG N.stack_must [t13, (.int .i64 220)] (fun t14 w15 => ∃ H17 : World → Prop, H17 (World.drew w15) ∧ (nlW x0 fun t18 => faW 4 t18 fun t19 => ldS none t19 H17 fun t20 => nlW x0 fun t21 => faW 4 t21 fun t22 => ldS none t22 H17 fun t23 => lnS t23 fun t24 => pu PG (binV .sub T.t_int true t24 (.int .i64 1)) fun t25 => ixS 4 t20 t25 fun t26 => R (.returned t26) (World.drew w15))) (fun c w => R (.panicked c) w) w7) (fun c w => R (.panicked c) w) w4) (fun c w => R (.panicked c) w) w
theorem C_eq (R : Ending → World → Prop) (x0 : Value) (w : World) : fnW PG note 400 Tryz.f83 [x0] R w = C R x0 w := by kernel_rfl
theorem ok {R : Ending → World → Prop} {x0 : Value} {w : World} (h : C R x0 w) : Calls PG N.stack_Stack_top #[x0] w R :=
  fnW_sound mixed Tryz.func83 (args := [x0]) (by rw [C_eq]; exact h)
end stack_Stack_top
namespace program_Same
theorem okf : okFn PG N.program_Same = true := by kernel_rfl
def note : Note := ⟨[], []⟩
def C (R : Ending → World → Prop) (x0 x1 : Value) (w : World) : Prop :=
  alW (Value.cells x0) T.t_api_Program (fun t2 w3 => alW (Value.cells x1) T.t_api_Program (fun t4 w5 => faW 1 t2 fun t7 => ldW none t7 w5 fun t8 => faW 1 t4 fun t9 => ldW none t9 w5 fun t10 => pu PG (binV .eql T.t_int false t8 t10) fun t11 => condV t11 (faW 2 t2 fun t12 => ldW none t12 w5 fun t13 => faW 2 t4 fun t14 => ldW none t14 w5 fun t15 => pu PG (binV .eql T.t_int false t13 t15) fun t16 => condV t16 (faW 3 t2 fun t17 => ldW none t17 w5 fun t18 => faW 3 t4 fun t19 => ldW none t19 w5 fun t20 => pu PG (binV .eql T.t_int false t18 t20) fun t21 => condV t21 (faW 0 t2 fun t22 => ldW none t22 w5 fun t23 => faW 0 t4 fun t24 => ldW none t24 w5 fun t25 => callW PG N.slices_EqualFunc_sl_api_Func_sl_api_Func_api_Func_api_Func [t23, t25, (.func (.func N.program_Same_1) #[] #[])] (fun t26 w27 => R (.returned t26) w27) (fun c w => R (.panicked c) w) w5) (R (.returned (.bool false)) w5)) (R (.returned (.bool false)) w5)) (R (.returned (.bool false)) w5)) w3) w
theorem C_eq (R : Ending → World → Prop) (x0 x1 : Value) (w : World) : fnW PG note 400 Tryz.f86 [x0, x1] R w = C R x0 x1 w := by kernel_rfl
theorem ok {R : Ending → World → Prop} {x0 x1 : Value} {w : World} (h : C R x0 x1 w) : Calls PG N.program_Same #[x0, x1] w R :=
  fnW_sound mixed Tryz.func86 (args := [x0, x1]) (by rw [C_eq]; exact h)
end program_Same
namespace slices_Clone_sl_api_Func_api_Func
theorem okf : okFn PG N.slices_Clone_sl_api_Func_api_Func = true := by kernel_rfl
def note : Note := ⟨[], []⟩
def C (R : Ending → World → Prop) (x0 : Value) (w : World) : Prop :=
  pu PG (binV .eql T.t_sl_api_Func true x0 (.slice none 0 0)) fun t4 => condV t4 (R (.returned (.slice none 0 0)) w) (bsW T.t_api_Func 0 (bsC PG T.t_api_Func 0 []) (fun t7 w8 => opW PG (Builtin.append_ #[T.t_sl_api_Func, T.t_sl_api_Func] T.t_sl_api_Func #[t7, x0]) (fun t9 w10 => R (.returned t9) w10) w8) w)
theorem C_eq (R : Ending → World → Prop) (x0 : Value) (w : World) : fnW PG note 400 Tryz.f107 [x0] R w = C R x0 w := by kernel_rfl
theorem ok {R : Ending → World → Prop} {x0 : Value} {w : World} (h : C R x0 w) : Calls PG N.slices_Clone_sl_api_Func_api_Func #[x0] w R :=
  fnW_sound mixed Tryz.func107 (args := [x0]) (by rw [C_eq]; exact h)
end slices_Clone_sl_api_Func_api_Func
namespace slices_Clone_sl_api_Ins_api_Ins
theorem okf : okFn PG N.slices_Clone_sl_api_Ins_api_Ins = true := by kernel_rfl
def note : Note := ⟨[], []⟩
def C (R : Ending → World → Prop) (x0 : Value) (w : World) : Prop :=
  pu PG (binV .eql T.t_sl_api_Ins true x0 (.slice none 0 0)) fun t4 => condV t4 (R (.returned (.slice none 0 0)) w) (bsW T.t_api_Ins 0 (bsC PG T.t_api_Ins 0 []) (fun t7 w8 => opW PG (Builtin.append_ #[T.t_sl_api_Ins, T.t_sl_api_Ins] T.t_sl_api_Ins #[t7, x0]) (fun t9 w10 => R (.returned t9) w10) w8) w)
theorem C_eq (R : Ending → World → Prop) (x0 : Value) (w : World) : fnW PG note 400 Tryz.f108 [x0] R w = C R x0 w := by kernel_rfl
theorem ok {R : Ending → World → Prop} {x0 : Value} {w : World} (h : C R x0 w) : Calls PG N.slices_Clone_sl_api_Ins_api_Ins #[x0] w R :=
  fnW_sound mixed Tryz.func108 (args := [x0]) (by rw [C_eq]; exact h)
end slices_Clone_sl_api_Ins_api_Ins
namespace arith_Do
theorem okf : okFn PG N.arith_Do = true := by kernel_rfl
def note : Note := ⟨[], []⟩
def C (R : Ending → World → Prop) (x0 x1 x2 : Value) (w : World) : Prop :=
  callW PG N.arith_does [] (fun t3 w4 => opW PG (Instr.lookup T.t_map_api_Arith_func_arith_pair_uint32 t3 x0 true) (fun t5 w6 => exW 0 t5 fun t7 => exW 1 t5 fun t8 => pu PG (Op.unary .not t8) fun t12 => condV t12 (R (.returned (.tuple #[(.int .u32 0), (.int .i64 2)])) w6) (pu PG (binV .eql T.t_uint32 true x2 (.int .u32 0)) fun t18 => condV t18 (pu PG (binV .eql T.t_api_Arith true x0 (.int .i64 4)) fun t19 => condV t19 (R (.returned (.tuple #[(.int .u32 0), (.int .i64 150)])) w6) (pu PG (binV .eql T.t_api_Arith true x0 (.int .i64 5)) fun t20 => condV t20 (R (.returned (.tuple #[(.int .u32 0), (.int .i64 150)])) w6) (pu PG (Instr.build T.t_arith_pair #[(0, x1), (1, x2)]) fun t27 => callV PG t7 [t27] (fun t28 w29 => R (.returned (.tuple #[t28, (.int .i64 0)])) w29) (fun c w => R (.panicked c) w) w6))) (pu PG (Instr.build T.t_arith_pair #[(0, x1), (1, x2)]) fun t32 => callV PG t7 [t32] (fun t33 w34 => R (.returned (.tuple #[t33, (.int .i64 0)])) w34) (fun c w => R (.panicked c) w) w6))) w4) (fun c w => R (.panicked c) w) w
theorem C_eq (R : Ending → World → Prop) (x0 x1 x2 : Value) (w : World) : fnW PG note 400 Tryz.f123 [x0, x1, x2] R w = C R x0 x1 x2 w := by kernel_rfl
theorem ok {R : Ending → World → Prop} {x0 x1 x2 : Value} {w : World} (h : C R x0 x1 x2 w) : Calls PG N.arith_Do #[x0, x1, x2] w R :=
  fnW_sound mixed Tryz.func123 (args := [x0, x1, x2]) (by rw [C_eq]; exact h)
end arith_Do
namespace stack_Stack_consts
theorem okf : okFn PG N.stack_Stack_consts = true := by kernel_rfl
def note : Note := ⟨[], []⟩
def C (R : Ending → World → Prop) (x0 x1 : Value) (w : World) : Prop :=
  alW (Value.cells x1) T.t_api_Ins (fun t2 w3 => ∃ H4 : World → Prop, H4 (World.drew w3) ∧ (faW 1 t2 fun t5 => ldS none t5 H4 fun t6 => faW 4 t2 fun t7 => ldS none t7 H4 fun t8 => callW PG N.stack_Stack_top [x0] (fun t9 w10 => H4 w10 ∧ (nlW t9 fun t11 => faW 3 t11 fun t12 => ldS none t12 H4 fun t13 => ixS 1 t13 t6 fun t14 => stW 1 t14 t8 (fun w15 => R (.returned (.tuple #[])) w15) w10)) (fun c w => ∀ s16 : S, R (.panicked c) w) (World.drew w3))) w
theorem C_eq (R : Ending → World → Prop) (x0 x1 : Value) (w : World) : fnW PG note 400 Tryz.f124 [x0, x1] R w = C R x0 x1 w := by kernel_rfl
theorem ok {R : Ending → World → Prop} {x0 x1 : Value} {w : World} (h : C R x0 x1 w) : Calls PG N.stack_Stack_consts #[x0, x1] w R :=
  fnW_sound mixed Tryz.func124 (args := [x0, x1]) (by rw [C_eq]; exact h)
end stack_Stack_consts
namespace stack_Stack_moves
theorem okf : okFn PG N.stack_Stack_moves = true := by kernel_rfl
def note : Note := ⟨[], []⟩
def C (R : Ending → World → Prop) (x0 x1 : Value) (w : World) : Prop :=
  alW (Value.cells x1) T.t_api_Ins (fun t2 w3 => ∃ H4 : World → Prop, H4 (World.drew w3) ∧ (faW 1 t2 fun t5 => ldS none t5 H4 fun t6 => faW 2 t2 fun t7 => ldS none t7 H4 fun t8 => callW PG N.stack_Stack_top [x0] (fun t9 w10 => H4 w10 ∧ (nlW t9 fun t11 => faW 3 t11 fun t12 => ldS none t12 H4 fun t13 => callW PG N.stack_Stack_top [x0] (fun t14 w15 => H4 w15 ∧ (nlW t14 fun t16 => faW 3 t16 fun t17 => ldS none t17 H4 fun t18 => ixS 1 t18 t8 fun t19 => ldS none t19 H4 fun t20 => ixS 1 t13 t6 fun t21 => stW 1 t21 t20 (fun w22 => R (.returned (.tuple #[])) w22) w15)) (fun c w => ∀ s23 : S, R (.panicked c) w) w10)) (fun c w => ∀ s24 : S, R (.panicked c) w) (World.drew w3))) w
theorem C_eq (R : Ending → World → Prop) (x0 x1 : Value) (w : World) : fnW PG note 400 Tryz.f125 [x0, x1] R w = C R x0 x1 w := by kernel_rfl
theorem ok {R : Ending → World → Prop} {x0 x1 : Value} {w : World} (h : C R x0 x1 w) : Calls PG N.stack_Stack_moves #[x0, x1] w R :=
  fnW_sound mixed Tryz.func125 (args := [x0, x1]) (by rw [C_eq]; exact h)
end stack_Stack_moves
namespace stack_Stack_ariths
theorem okf : okFn PG N.stack_Stack_ariths = true := by kernel_rfl
def note : Note := ⟨[], []⟩
def C (R : Ending → World → Prop) (x0 x1 : Value) (w : World) : Prop :=
  alW (Value.cells x1) T.t_api_Ins (fun t2 w3 => callW PG N.stack_Stack_top [x0] (fun t5 w6 => nlW t5 fun t7 => faW 3 t7 fun t8 => ldW none t8 w6 fun t9 => ∃ H10 : World → Prop, H10 (World.drew w6) ∧ (faW 1 t2 fun t11 => ldS none t11 H10 fun t12 => faW 4 t2 fun t13 => ldS none t13 H10 fun t14 => pu PG (convert T.t_uint32 T.t_api_Arith t14) fun t15 => faW 2 t2 fun t16 => ldS none t16 H10 fun t17 => ixS 1 t9 t17 fun t18 => ldS none t18 H10 fun t19 => faW 3 t2 fun t20 => ldS none t20 H10 fun t21 => ixS 1 t9 t21 fun t22 => ldS none t22 H10 fun t23 => callW PG N.arith_Do [t15, t19, t23] (fun t24 w25 => H10 w25 ∧ (exW 0 t24 fun t26 => exW 1 t24 fun t27 => ixS 1 t9 t12 fun t28 => stW 1 t28 t26 (fun w29 => R (.returned (.tuple #[])) w29) w25)) (fun c w => ∀ s30 : S, R (.panicked c) w) (World.drew w6))) (fun c w => R (.panicked c) w) w3) w
theorem C_eq (R : Ending → World → Prop) (x0 x1 : Value) (w : World) : fnW PG note 400 Tryz.f126 [x0, x1] R w = C R x0 x1 w := by kernel_rfl
theorem ok {R : Ending → World → Prop} {x0 x1 : Value} {w : World} (h : C R x0 x1 w) : Calls PG N.stack_Stack_ariths #[x0, x1] w R :=
  fnW_sound mixed Tryz.func126 (args := [x0, x1]) (by rw [C_eq]; exact h)
end stack_Stack_ariths
namespace stack_Stack_jumps
theorem okf : okFn PG N.stack_Stack_jumps = true := by kernel_rfl
def note : Note := ⟨[], []⟩
def C (R : Ending → World → Prop) (x0 x1 : Value) (w : World) : Prop :=
  alW (Value.cells x1) T.t_api_Ins (fun t2 w3 => ∃ H4 : World → Prop, H4 (World.drew w3) ∧ (faW 4 t2 fun t5 => ldS none t5 H4 fun t6 => pu PG (convert T.t_uint32 T.t_int t6) fun t7 => callW PG N.stack_Stack_top [x0] (fun t8 w9 => H4 w9 ∧ (nlW t8 fun t10 => faW 1 t10 fun t11 => stW 1 t11 t7 (fun w12 => R (.returned (.tuple #[])) w12) w9)) (fun c w => ∀ s13 : S, R (.panicked c) w) (World.drew w3))) w
theorem C_eq (R : Ending → World → Prop) (x0 x1 : Value) (w : World) : fnW PG note 400 Tryz.f127 [x0, x1] R w = C R x0 x1 w := by kernel_rfl
theorem ok {R : Ending → World → Prop} {x0 x1 : Value} {w : World} (h : C R x0 x1 w) : Calls PG N.stack_Stack_jumps #[x0, x1] w R :=
  fnW_sound mixed Tryz.func127 (args := [x0, x1]) (by rw [C_eq]; exact h)
end stack_Stack_jumps
namespace stack_Stack_ifs
theorem okf : okFn PG N.stack_Stack_ifs = true := by kernel_rfl
def note : Note := ⟨[], []⟩
def C (R : Ending → World → Prop) (x0 x1 : Value) (w : World) : Prop :=
  alW (Value.cells x1) T.t_api_Ins (fun t2 w3 => ∃ H5 : World → Prop, H5 (World.drew w3) ∧ (faW 1 t2 fun t6 => ldS none t6 H5 fun t7 => callW PG N.stack_Stack_top [x0] (fun t8 w9 => H5 w9 ∧ (nlW t8 fun t10 => faW 3 t10 fun t11 => ldS none t11 H5 fun t12 => ixS 1 t12 t7 fun t13 => ldS none t13 H5 fun t14 => pu PG (binV .neq T.t_uint32 true t14 (.int .u32 0)) fun t15 => condV t15 (ldW (some 5) t2 w9 fun t17 => callW PG N.stack_Stack_jumps [x0, t17] (fun t18 w19 => R (.returned (.tuple #[])) w19) (fun c w => R (.panicked c) w) w9) (R (.returned (.tuple #[])) w9))) (fun c w => ∀ s16 : S, R (.panicked c) w) (World.drew w3))) w
theorem C_eq (R : Ending → World → Prop) (x0 x1 : Value) (w : World) : fnW PG note 400 Tryz.f128 [x0, x1] R w = C R x0 x1 w := by kernel_rfl
theorem ok {R : Ending → World → Prop} {x0 x1 : Value} {w : World} (h : C R x0 x1 w) : Calls PG N.stack_Stack_ifs #[x0, x1] w R :=
  fnW_sound mixed Tryz.func128 (args := [x0, x1]) (by rw [C_eq]; exact h)
end stack_Stack_ifs
namespace stack_Stack_yields
theorem okf : okFn PG N.stack_Stack_yields = true := by kernel_rfl
def note : Note := ⟨[], []⟩
def C (R : Ending → World → Prop) (x0 x1 : Value) (w : World) : Prop :=
  alW (Value.cells x1) T.t_api_Ins (fun t1 w2 => R (.returned (.tuple #[])) w2) w
theorem C_eq (R : Ending → World → Prop) (x0 x1 : Value) (w : World) : fnW PG note 400 Tryz.f131 [x0, x1] R w = C R x0 x1 w := by kernel_rfl
theorem ok {R : Ending → World → Prop} {x0 x1 : Value} {w : World} (h : C R x0 x1 w) : Calls PG N.stack_Stack_yields #[x0, x1] w R :=
  fnW_sound mixed Tryz.func131 (args := [x0, x1]) (by rw [C_eq]; exact h)
end stack_Stack_yields
namespace slices_EqualFunc_sl_api_Func_sl_api_Func_api_Func_api_Func
theorem okf : okFn PG N.slices_EqualFunc_sl_api_Func_sl_api_Func_api_Func_api_Func = true := by kernel_rfl
def note : Note := ⟨[(0, [17])], []⟩
def C (R : Ending → World → Prop) (x0 x1 x2 : Value) (w : World) : Prop :=
  lnS x0 fun t4 => lnS x1 fun t5 => pu PG (binV .neq T.t_int false t4 t5) fun t6 => condV t6 (R (.returned (.bool false)) w) (lnS x0 fun t10 => LoopW [(.int .i64 0)] (fun l12 N13 w14 => ∀ j11 : S, pu PG (binV .lss T.t_int false (gv l12 0) t10) fun t16 => condV t16 (ixS 2 x0 (gv l12 0) fun t20 => ldW (some 2) t20 w14 fun t21 => alW (zc PG T.t_api_Func) T.t_api_Func (fun t22 w23 => stW 2 t22 t21 (fun w24 => ixS 2 x1 (gv l12 0) fun t26 => ldW (some 2) t26 w24 fun t27 => alW (zc PG T.t_api_Func) T.t_api_Func (fun t28 w29 => stW 2 t28 t27 (fun w30 => ldW (some 2) t22 w30 fun t32 => ldW (some 2) t28 w30 fun t33 => callV PG x2 [t32, t33] (fun t34 w35 => pu PG (Op.unary .not t34) fun t36 => condV t36 (R (.returned (.bool false)) w35) (pu PG (binV .add T.t_int true (gv l12 0) (.int .i64 1)) fun t38 => N13 [t38] w35)) (fun c w => R (.panicked c) w) w30) w29) w24) w23) w14) (R (.returned (.bool true)) w14)) w)
theorem C_eq (R : Ending → World → Prop) (x0 x1 x2 : Value) (w : World) : fnW PG note 400 Tryz.f134 [x0, x1, x2] R w = C R x0 x1 x2 w := by kernel_rfl
theorem ok {R : Ending → World → Prop} {x0 x1 x2 : Value} {w : World} (h : C R x0 x1 x2 w) : Calls PG N.slices_EqualFunc_sl_api_Func_sl_api_Func_api_Func_api_Func #[x0, x1, x2] w R :=
  fnW_sound mixed Tryz.func134 (args := [x0, x1, x2]) (by rw [C_eq]; exact h)
end slices_EqualFunc_sl_api_Func_sl_api_Func_api_Func_api_Func
namespace program_Same_1
theorem okf : okFn PG N.program_Same_1 = true := by kernel_rfl
def note : Note := ⟨[], []⟩
def C (R : Ending → World → Prop) (x0 x1 : Value) (w : World) : Prop :=
  alW (Value.cells x0) T.t_api_Func (fun t2 w3 => alW (Value.cells x1) T.t_api_Func (fun t4 w5 => faW 0 t2 fun t7 => ldW none t7 w5 fun t8 => faW 0 t4 fun t9 => ldW none t9 w5 fun t10 => pu PG (binV .eql T.t_int false t8 t10) fun t11 => condV t11 (faW 1 t2 fun t12 => ldW none t12 w5 fun t13 => faW 1 t4 fun t14 => ldW none t14 w5 fun t15 => callW PG N.slices_Equal_sl_api_Ins_api_Ins [t13, t15] (fun t16 w17 => R (.returned t16) w17) (fun c w => R (.panicked c) w) w5) (R (.returned (.bool false)) w5)) w3) w
theorem C_eq (R : Ending → World → Prop) (x0 x1 : Value) (w : World) : fnW PG note 400 Tryz.f135 [x0, x1] R w = C R x0 x1 w := by kernel_rfl
theorem ok {R : Ending → World → Prop} {x0 x1 : Value} {w : World} (h : C R x0 x1 w) : Calls PG N.program_Same_1 #[x0, x1] w R :=
  fnW_sound mixed Tryz.func135 (args := [x0, x1]) (by rw [C_eq]; exact h)
end program_Same_1
namespace slices_Equal_sl_api_Ins_api_Ins
theorem okf : okFn PG N.slices_Equal_sl_api_Ins_api_Ins = true := by kernel_rfl
def note : Note := ⟨[(0, [13])], []⟩
def C (R : Ending → World → Prop) (x0 x1 : Value) (w : World) : Prop :=
  lnS x0 fun t4 => lnS x1 fun t5 => pu PG (binV .neq T.t_int false t4 t5) fun t6 => condV t6 (R (.returned (.bool false)) w) (lnS x0 fun t10 => LoopW [(.int .i64 0)] (fun l12 N13 w14 => ∀ j11 : S, pu PG (binV .lss T.t_int false (gv l12 0) t10) fun t16 => condV t16 (∃ H21 : World → Prop, H21 (World.drew w14) ∧ (ixS 5 x0 (gv l12 0) fun t22 => ldS (some 5) t22 H21 fun t23 => ixS 5 x1 (gv l12 0) fun t24 => ldS (some 5) t24 H21 fun t25 => pu PG (binV .neq T.t_api_Ins false t23 t25) fun t26 => condV t26 (R (.returned (.bool false)) (World.drew w14)) (pu PG (binV .add T.t_int true (gv l12 0) (.int .i64 1)) fun t28 => N13 [t28] (World.drew w14)))) (R (.returned (.bool true)) w14)) w)
theorem C_eq (R : Ending → World → Prop) (x0 x1 : Value) (w : World) : fnW PG note 400 Tryz.f136 [x0, x1] R w = C R x0 x1 w := by kernel_rfl
theorem ok {R : Ending → World → Prop} {x0 x1 : Value} {w : World} (h : C R x0 x1 w) : Calls PG N.slices_Equal_sl_api_Ins_api_Ins #[x0, x1] w R :=
  fnW_sound mixed Tryz.func136 (args := [x0, x1]) (by rw [C_eq]; exact h)
end slices_Equal_sl_api_Ins_api_Ins
namespace arith_does
theorem okf : okFn PG N.arith_does = true := by kernel_rfl
def note : Note := ⟨[], []⟩
def C (R : Ending → World → Prop) (w : World) : Prop :=
  opW PG (Instr.makeMap T.t_map_api_Arith_func_arith_pair_uint32 none) (fun t3 w4 => opU PG (Instr.mapUpdate T.t_map_api_Arith_func_arith_pair_uint32 t3 (.int .i64 1) (.func (.func N.arith_does_1) #[] #[])) (fun w5 => opU PG (Instr.mapUpdate T.t_map_api_Arith_func_arith_pair_uint32 t3 (.int .i64 2) (.func (.func N.arith_does_2) #[] #[])) (fun w6 => opU PG (Instr.mapUpdate T.t_map_api_Arith_func_arith_pair_uint32 t3 (.int .i64 3) (.func (.func N.arith_does_3) #[] #[])) (fun w7 => opU PG (Instr.mapUpdate T.t_map_api_Arith_func_arith_pair_uint32 t3 (.int .i64 4) (.func (.func N.arith_does_4) #[] #[])) (fun w8 => opU PG (Instr.mapUpdate T.t_map_api_Arith_func_arith_pair_uint32 t3 (.int .i64 5) (.func (.func N.arith_does_5) #[] #[])) (fun w9 => opU PG (Instr.mapUpdate T.t_map_api_Arith_func_arith_pair_uint32 t3 (.int .i64 6) (.func (.func N.arith_does_6) #[] #[])) (fun w10 => opU PG (Instr.mapUpdate T.t_map_api_Arith_func_arith_pair_uint32 t3 (.int .i64 7) (.func (.func N.arith_does_7) #[] #[])) (fun w11 => opU PG (Instr.mapUpdate T.t_map_api_Arith_func_arith_pair_uint32 t3 (.int .i64 8) (.func (.func N.arith_does_8) #[] #[])) (fun w12 => opU PG (Instr.mapUpdate T.t_map_api_Arith_func_arith_pair_uint32 t3 (.int .i64 9) (.func (.func N.arith_does_9) #[] #[])) (fun w13 => opU PG (Instr.mapUpdate T.t_map_api_Arith_func_arith_pair_uint32 t3 (.int .i64 10) (.func (.func N.arith_does_10) #[] #[])) (fun w14 => opU PG (Instr.mapUpdate T.t_map_api_Arith_func_arith_pair_uint32 t3 (.int .i64 11) (.func (.func N.arith_does_11) #[] #[])) (fun w15 => opU PG (Instr.mapUpdate T.t_map_api_Arith_func_arith_pair_uint32 t3 (.int .i64 12) (.func (.func N.arith_does_12) #[] #[])) (fun w16 => R (.returned t3) w16) w15) w14) w13) w12) w11) w10) w9) w8) w7) w6) w5) w4) w
theorem C_eq (R : Ending → World → Prop) (w : World) : fnW PG note 400 Tryz.f168 [] R w = C R  w := by kernel_rfl
theorem ok {R : Ending → World → Prop} {w : World} (h : C R  w) : Calls PG N.arith_does #[] w R :=
  fnW_sound mixed Tryz.func168 (args := []) (by rw [C_eq]; exact h)
end arith_does
namespace arith_Signed
theorem okf : okFn PG N.arith_Signed = true := by kernel_rfl
def note : Note := ⟨[], []⟩
def C (R : Ending → World → Prop) (x0 : Value) (w : World) : Prop :=
  pu PG (Instr.build T.t_arith_pair #[(0, x0)]) fun t3 => ptW 0 none t3 fun t4 => callW PG N.arith_word_signed [t4] (fun t5 w6 => R (.returned t5) w6) (fun c w => R (.panicked c) w) w
theorem C_eq (R : Ending → World → Prop) (x0 : Value) (w : World) : fnW PG note 400 Tryz.f175 [x0] R w = C R x0 w := by kernel_rfl
theorem ok {R : Ending → World → Prop} {x0 : Value} {w : World} (h : C R x0 w) : Calls PG N.arith_Signed #[x0] w R :=
  fnW_sound mixed Tryz.func175 (args := [x0]) (by rw [C_eq]; exact h)
end arith_Signed
namespace arith_does_1
theorem okf : okFn PG N.arith_does_1 = true := by kernel_rfl
def note : Note := ⟨[], []⟩
def C (R : Ending → World → Prop) (x0 : Value) (w : World) : Prop :=
  alW (Value.cells x0) T.t_arith_pair (fun t2 w3 => faW 0 t2 fun t5 => ldW none t5 w3 fun t6 => faW 1 t2 fun t7 => ldW none t7 w3 fun t8 => pu PG (binV .add T.t_uint32 false t6 t8) fun t9 => R (.returned t9) w3) w
theorem C_eq (R : Ending → World → Prop) (x0 : Value) (w : World) : fnW PG note 400 Tryz.f200 [x0] R w = C R x0 w := by kernel_rfl
theorem ok {R : Ending → World → Prop} {x0 : Value} {w : World} (h : C R x0 w) : Calls PG N.arith_does_1 #[x0] w R :=
  fnW_sound mixed Tryz.func200 (args := [x0]) (by rw [C_eq]; exact h)
end arith_does_1
namespace arith_does_2
theorem okf : okFn PG N.arith_does_2 = true := by kernel_rfl
def note : Note := ⟨[], []⟩
def C (R : Ending → World → Prop) (x0 : Value) (w : World) : Prop :=
  alW (Value.cells x0) T.t_arith_pair (fun t2 w3 => faW 0 t2 fun t5 => ldW none t5 w3 fun t6 => faW 1 t2 fun t7 => ldW none t7 w3 fun t8 => pu PG (binV .sub T.t_uint32 false t6 t8) fun t9 => R (.returned t9) w3) w
theorem C_eq (R : Ending → World → Prop) (x0 : Value) (w : World) : fnW PG note 400 Tryz.f201 [x0] R w = C R x0 w := by kernel_rfl
theorem ok {R : Ending → World → Prop} {x0 : Value} {w : World} (h : C R x0 w) : Calls PG N.arith_does_2 #[x0] w R :=
  fnW_sound mixed Tryz.func201 (args := [x0]) (by rw [C_eq]; exact h)
end arith_does_2
namespace arith_does_3
theorem okf : okFn PG N.arith_does_3 = true := by kernel_rfl
def note : Note := ⟨[], []⟩
def C (R : Ending → World → Prop) (x0 : Value) (w : World) : Prop :=
  alW (Value.cells x0) T.t_arith_pair (fun t2 w3 => faW 0 t2 fun t5 => ldW none t5 w3 fun t6 => faW 1 t2 fun t7 => ldW none t7 w3 fun t8 => pu PG (binV .mul T.t_uint32 false t6 t8) fun t9 => R (.returned t9) w3) w
theorem C_eq (R : Ending → World → Prop) (x0 : Value) (w : World) : fnW PG note 400 Tryz.f202 [x0] R w = C R x0 w := by kernel_rfl
theorem ok {R : Ending → World → Prop} {x0 : Value} {w : World} (h : C R x0 w) : Calls PG N.arith_does_3 #[x0] w R :=
  fnW_sound mixed Tryz.func202 (args := [x0]) (by rw [C_eq]; exact h)
end arith_does_3
namespace arith_does_4
theorem okf : okFn PG N.arith_does_4 = true := by kernel_rfl
def note : Note := ⟨[], []⟩
def C (R : Ending → World → Prop) (x0 : Value) (w : World) : Prop :=
  alW (Value.cells x0) T.t_arith_pair (fun t2 w3 => faW 0 t2 fun t5 => ldW none t5 w3 fun t6 => faW 1 t2 fun t7 => ldW none t7 w3 fun t8 => pu PG (binV .quo T.t_uint32 false t6 t8) fun t9 => R (.returned t9) w3) w
theorem C_eq (R : Ending → World → Prop) (x0 : Value) (w : World) : fnW PG note 400 Tryz.f203 [x0] R w = C R x0 w := by kernel_rfl
theorem ok {R : Ending → World → Prop} {x0 : Value} {w : World} (h : C R x0 w) : Calls PG N.arith_does_4 #[x0] w R :=
  fnW_sound mixed Tryz.func203 (args := [x0]) (by rw [C_eq]; exact h)
end arith_does_4
namespace arith_does_5
theorem okf : okFn PG N.arith_does_5 = true := by kernel_rfl
def note : Note := ⟨[], []⟩
def C (R : Ending → World → Prop) (x0 : Value) (w : World) : Prop :=
  alW (Value.cells x0) T.t_arith_pair (fun t2 w3 => faW 0 t2 fun t5 => ldW none t5 w3 fun t6 => faW 1 t2 fun t7 => ldW none t7 w3 fun t8 => pu PG (binV .rem T.t_uint32 false t6 t8) fun t9 => R (.returned t9) w3) w
theorem C_eq (R : Ending → World → Prop) (x0 : Value) (w : World) : fnW PG note 400 Tryz.f204 [x0] R w = C R x0 w := by kernel_rfl
theorem ok {R : Ending → World → Prop} {x0 : Value} {w : World} (h : C R x0 w) : Calls PG N.arith_does_5 #[x0] w R :=
  fnW_sound mixed Tryz.func204 (args := [x0]) (by rw [C_eq]; exact h)
end arith_does_5
namespace arith_does_6
theorem okf : okFn PG N.arith_does_6 = true := by kernel_rfl
def note : Note := ⟨[], []⟩
def C (R : Ending → World → Prop) (x0 : Value) (w : World) : Prop :=
  alW (Value.cells x0) T.t_arith_pair (fun t2 w3 => faW 0 t2 fun t5 => ldW none t5 w3 fun t6 => faW 1 t2 fun t7 => ldW none t7 w3 fun t8 => pu PG (binV .and T.t_uint32 false t6 t8) fun t9 => R (.returned t9) w3) w
theorem C_eq (R : Ending → World → Prop) (x0 : Value) (w : World) : fnW PG note 400 Tryz.f205 [x0] R w = C R x0 w := by kernel_rfl
theorem ok {R : Ending → World → Prop} {x0 : Value} {w : World} (h : C R x0 w) : Calls PG N.arith_does_6 #[x0] w R :=
  fnW_sound mixed Tryz.func205 (args := [x0]) (by rw [C_eq]; exact h)
end arith_does_6
namespace arith_does_7
theorem okf : okFn PG N.arith_does_7 = true := by kernel_rfl
def note : Note := ⟨[], []⟩
def C (R : Ending → World → Prop) (x0 : Value) (w : World) : Prop :=
  alW (Value.cells x0) T.t_arith_pair (fun t2 w3 => faW 0 t2 fun t5 => ldW none t5 w3 fun t6 => faW 1 t2 fun t7 => ldW none t7 w3 fun t8 => pu PG (binV .or T.t_uint32 false t6 t8) fun t9 => R (.returned t9) w3) w
theorem C_eq (R : Ending → World → Prop) (x0 : Value) (w : World) : fnW PG note 400 Tryz.f206 [x0] R w = C R x0 w := by kernel_rfl
theorem ok {R : Ending → World → Prop} {x0 : Value} {w : World} (h : C R x0 w) : Calls PG N.arith_does_7 #[x0] w R :=
  fnW_sound mixed Tryz.func206 (args := [x0]) (by rw [C_eq]; exact h)
end arith_does_7
namespace arith_does_8
theorem okf : okFn PG N.arith_does_8 = true := by kernel_rfl
def note : Note := ⟨[], []⟩
def C (R : Ending → World → Prop) (x0 : Value) (w : World) : Prop :=
  alW (Value.cells x0) T.t_arith_pair (fun t2 w3 => faW 0 t2 fun t5 => ldW none t5 w3 fun t6 => faW 1 t2 fun t7 => ldW none t7 w3 fun t8 => pu PG (binV .xor T.t_uint32 false t6 t8) fun t9 => R (.returned t9) w3) w
theorem C_eq (R : Ending → World → Prop) (x0 : Value) (w : World) : fnW PG note 400 Tryz.f207 [x0] R w = C R x0 w := by kernel_rfl
theorem ok {R : Ending → World → Prop} {x0 : Value} {w : World} (h : C R x0 w) : Calls PG N.arith_does_8 #[x0] w R :=
  fnW_sound mixed Tryz.func207 (args := [x0]) (by rw [C_eq]; exact h)
end arith_does_8
namespace arith_does_9
theorem okf : okFn PG N.arith_does_9 = true := by kernel_rfl
def note : Note := ⟨[], []⟩
def C (R : Ending → World → Prop) (x0 : Value) (w : World) : Prop :=
  alW (Value.cells x0) T.t_arith_pair (fun t2 w3 => ∃ H5 : World → Prop, H5 (World.drew w3) ∧ (faW 0 t2 fun t6 => ldS none t6 H5 fun t7 => ldS (some 2) t2 H5 fun t8 => callW PG N.arith_pair_at [t8] (fun t9 w10 => H5 w10 ∧ (pu PG (binV .shl T.t_uint32 false t7 t9) fun t11 => R (.returned t11) w10)) (fun c w => ∀ s12 : S, R (.panicked c) w) (World.drew w3))) w
theorem C_eq (R : Ending → World → Prop) (x0 : Value) (w : World) : fnW PG note 400 Tryz.f208 [x0] R w = C R x0 w := by kernel_rfl
theorem ok {R : Ending → World → Prop} {x0 : Value} {w : World} (h : C R x0 w) : Calls PG N.arith_does_9 #[x0] w R :=
  fnW_sound mixed Tryz.func208 (args := [x0]) (by rw [C_eq]; exact h)
end arith_does_9
namespace arith_pair_at
theorem okf : okFn PG N.arith_pair_at = true := by kernel_rfl
def note : Note := ⟨[], []⟩
def C (R : Ending → World → Prop) (x0 : Value) (w : World) : Prop :=
  alW (Value.cells x0) T.t_arith_pair (fun t2 w3 => faW 1 t2 fun t5 => ldW none t5 w3 fun t6 => pu PG (binV .rem T.t_uint32 true t6 (.int .u32 32)) fun t7 => R (.returned t7) w3) w
theorem C_eq (R : Ending → World → Prop) (x0 : Value) (w : World) : fnW PG note 400 Tryz.f209 [x0] R w = C R x0 w := by kernel_rfl
theorem ok {R : Ending → World → Prop} {x0 : Value} {w : World} (h : C R x0 w) : Calls PG N.arith_pair_at #[x0] w R :=
  fnW_sound mixed Tryz.func209 (args := [x0]) (by rw [C_eq]; exact h)
end arith_pair_at
namespace arith_does_10
theorem okf : okFn PG N.arith_does_10 = true := by kernel_rfl
def note : Note := ⟨[], []⟩
def C (R : Ending → World → Prop) (x0 : Value) (w : World) : Prop :=
  alW (Value.cells x0) T.t_arith_pair (fun t2 w3 => ∃ H5 : World → Prop, H5 (World.drew w3) ∧ (faW 0 t2 fun t6 => ldS none t6 H5 fun t7 => ldS (some 2) t2 H5 fun t8 => callW PG N.arith_pair_at [t8] (fun t9 w10 => H5 w10 ∧ (pu PG (binV .shr T.t_uint32 false t7 t9) fun t11 => R (.returned t11) w10)) (fun c w => ∀ s12 : S, R (.panicked c) w) (World.drew w3))) w
theorem C_eq (R : Ending → World → Prop) (x0 : Value) (w : World) : fnW PG note 400 Tryz.f210 [x0] R w = C R x0 w := by kernel_rfl
theorem ok {R : Ending → World → Prop} {x0 : Value} {w : World} (h : C R x0 w) : Calls PG N.arith_does_10 #[x0] w R :=
  fnW_sound mixed Tryz.func210 (args := [x0]) (by rw [C_eq]; exact h)
end arith_does_10
namespace arith_does_11
theorem okf : okFn PG N.arith_does_11 = true := by kernel_rfl
def note : Note := ⟨[], []⟩
def C (R : Ending → World → Prop) (x0 : Value) (w : World) : Prop :=
  alW (Value.cells x0) T.t_arith_pair (fun t2 w3 => faW 0 t2 fun t5 => ldW none t5 w3 fun t6 => faW 1 t2 fun t7 => ldW none t7 w3 fun t8 => pu PG (binV .lss T.t_uint32 false t6 t8) fun t9 => callW PG N.arith_one [t9] (fun t10 w11 => R (.returned t10) w11) (fun c w => R (.panicked c) w) w3) w
theorem C_eq (R : Ending → World → Prop) (x0 : Value) (w : World) : fnW PG note 400 Tryz.f211 [x0] R w = C R x0 w := by kernel_rfl
theorem ok {R : Ending → World → Prop} {x0 : Value} {w : World} (h : C R x0 w) : Calls PG N.arith_does_11 #[x0] w R :=
  fnW_sound mixed Tryz.func211 (args := [x0]) (by rw [C_eq]; exact h)
end arith_does_11
namespace arith_one
theorem okf : okFn PG N.arith_one = true := by kernel_rfl
def note : Note := ⟨[], []⟩
def C (R : Ending → World → Prop) (x0 : Value) (w : World) : Prop :=
  condV x0 (R (.returned (.int .u32 1)) w) (R (.returned (.int .u32 0)) w)
theorem C_eq (R : Ending → World → Prop) (x0 : Value) (w : World) : fnW PG note 400 Tryz.f212 [x0] R w = C R x0 w := by kernel_rfl
theorem ok {R : Ending → World → Prop} {x0 : Value} {w : World} (h : C R x0 w) : Calls PG N.arith_one #[x0] w R :=
  fnW_sound mixed Tryz.func212 (args := [x0]) (by rw [C_eq]; exact h)
end arith_one
namespace arith_does_12
theorem okf : okFn PG N.arith_does_12 = true := by kernel_rfl
def note : Note := ⟨[], []⟩
def C (R : Ending → World → Prop) (x0 : Value) (w : World) : Prop :=
  alW (Value.cells x0) T.t_arith_pair (fun t2 w3 => faW 0 t2 fun t5 => ldW none t5 w3 fun t6 => faW 1 t2 fun t7 => ldW none t7 w3 fun t8 => pu PG (binV .eql T.t_uint32 false t6 t8) fun t9 => callW PG N.arith_one [t9] (fun t10 w11 => R (.returned t10) w11) (fun c w => R (.panicked c) w) w3) w
theorem C_eq (R : Ending → World → Prop) (x0 : Value) (w : World) : fnW PG note 400 Tryz.f213 [x0] R w = C R x0 w := by kernel_rfl
theorem ok {R : Ending → World → Prop} {x0 : Value} {w : World} (h : C R x0 w) : Calls PG N.arith_does_12 #[x0] w R :=
  fnW_sound mixed Tryz.func213 (args := [x0]) (by rw [C_eq]; exact h)
end arith_does_12
namespace arith_word_signed
theorem okf : okFn PG N.arith_word_signed = true := by kernel_rfl
def note : Note := ⟨[], []⟩
def C (R : Ending → World → Prop) (x0 : Value) (w : World) : Prop :=
  pu PG (convert T.t_arith_word T.t_int32 x0) fun t3 => pu PG (convert T.t_int32 T.t_int64 t3) fun t4 => R (.returned t4) w
theorem C_eq (R : Ending → World → Prop) (x0 : Value) (w : World) : fnW PG note 400 Tryz.f216 [x0] R w = C R x0 w := by kernel_rfl
theorem ok {R : Ending → World → Prop} {x0 : Value} {w : World} (h : C R x0 w) : Calls PG N.arith_word_signed #[x0] w R :=
  fnW_sound mixed Tryz.func216 (args := [x0]) (by rw [C_eq]; exact h)
end arith_word_signed
end Go.Proofs.YtkkkcafkepnecaaGreat
