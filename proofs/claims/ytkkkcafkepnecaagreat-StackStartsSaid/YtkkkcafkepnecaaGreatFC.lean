/- Conditions of functions, printed by a program of this session (gen.py) and checked by the kernel. -/
import Derived.Test.YtkkkcafkepnecaaGreatZB
set_option linter.unusedVariables false
namespace Go.Proofs.YtkkkcafkepnecaaGreat
open Go Go.RowKit Vc

namespace stack_New
theorem okf : okFn PG N.stack_New = true := by kernel_rfl
def note : Note := ⟨[], []⟩
def C (R : Ending → World → Prop) (x0 x1 x2 : Value) (w : World) : Prop :=
  alW (Value.cells x0) T.t_api_Program (fun t2 w3 => ldW (some 4) t2 w3 fun t6 => callW PG N.program_Check [t6] (fun t7 w8 => pu PG (binV .neq T.t_api_Errno true t7 (.int .i64 0)) fun t9 => condV t9 (R (.returned (.tuple #[(.pointer none), (.int .i64 2)])) w8) (pu PG (binV .lss T.t_int true x1 (.int .i64 0)) fun t12 => condV t12 (R (.returned (.tuple #[(.pointer none), (.int .i64 4)])) w8) (faW 0 t2 fun t13 => ldW none t13 w8 fun t14 => lnS t14 fun t15 => pu PG (binV .geq T.t_int false x1 t15) fun t16 => condV t16 (R (.returned (.tuple #[(.pointer none), (.int .i64 4)])) w8) (lnS x2 fun t17 => faW 0 t2 fun t18 => ldW none t18 w8 fun t19 => ixS 2 t19 x1 fun t20 => faW 0 t20 fun t21 => ldW none t21 w8 fun t22 => pu PG (binV .gtr T.t_int false t17 t22) fun t23 => condV t23 (R (.returned (.tuple #[(.pointer none), (.int .i64 4)])) w8) (∃ H28 : World → Prop, H28 (World.drew w8) ∧ (ldS (some 4) t2 H28 fun t29 => faW 0 t2 fun t30 => ldS none t30 H28 fun t31 => ixS 2 t31 x1 fun t32 => faW 0 t32 fun t33 => ldS none t33 H28 fun t34 => callW PG N.program_Copy [t29] (fun t35 w36 => H28 w36 ∧ (callW PG N.stack_entered [x1, t34, (.int .i64 0), x2] (fun t37 w38 => H28 w38 ∧ (bsW T.t_api_Frame 1 (bsC PG T.t_api_Frame 1 [(0, t37)]) (fun t39 w40 => H28 w40 ∧ (pu PG (Instr.build T.t_stack_Stack #[(0, t35), (1, t39), (3, (.bool true))]) fun t41 => alW (Value.cells t41) T.t_stack_Stack (fun t42 w43 => H28 w43 ∧ (R (.returned (.tuple #[t42, (.int .i64 0)])) w43)) w40)) w38)) (fun c w => ∀ s44 : S, R (.panicked c) w) w36)) (fun c w => ∀ s45 : S, R (.panicked c) w) (World.drew w8))))))) (fun c w => R (.panicked c) w) w3) w
theorem C_eq (R : Ending → World → Prop) (x0 x1 x2 : Value) (w : World) : fnW PG note 400 Tryz.f13 [x0, x1, x2] R w = C R x0 x1 x2 w := by kernel_rfl
theorem ok {R : Ending → World → Prop} {x0 x1 x2 : Value} {w : World} (h : C R x0 x1 x2 w) : Calls PG N.stack_New #[x0, x1, x2] w R :=
  fnW_sound mixed Tryz.func13 (args := [x0, x1, x2]) (by rw [C_eq]; exact h)
end stack_New
namespace stack_copied_api_Frame
theorem okf : okFn PG N.stack_copied_api_Frame = true := by kernel_rfl
def note : Note := ⟨[(0, [12])], []⟩
def C (R : Ending → World → Prop) (x0 x1 : Value) (w : World) : Prop :=
  callW PG N.slices_Clone_sl_api_Frame_api_Frame [x0] (fun t3 w4 => lnS t3 fun t7 => LoopW [(.int .i64 0)] (fun l9 N10 w11 => ∀ j8 : S, pu PG (binV .lss T.t_int false (gv l9 0) t7) fun t13 => condV t13 (ixS 4 t3 (gv l9 0) fun t17 => ldW (some 4) t17 w11 fun t18 => alW (zc PG T.t_api_Frame) T.t_api_Frame (fun t19 w20 => stW 4 t19 t18 (fun w21 => ldW (some 4) t19 w21 fun t22 => callV PG x1 [t22] (fun t23 w24 => ixS 4 t3 (gv l9 0) fun t25 => stW 4 t25 t23 (fun w26 => pu PG (binV .add T.t_int true (gv l9 0) (.int .i64 1)) fun t27 => N10 [t27] w26) w24) (fun c w => R (.panicked c) w) w21) w20) w11) (R (.returned t3) w11)) w4) (fun c w => R (.panicked c) w) w
theorem C_eq (R : Ending → World → Prop) (x0 x1 : Value) (w : World) : fnW PG note 400 Tryz.f77 [x0, x1] R w = C R x0 x1 w := by kernel_rfl
theorem ok {R : Ending → World → Prop} {x0 x1 : Value} {w : World} (h : C R x0 x1 w) : Calls PG N.stack_copied_api_Frame #[x0, x1] w R :=
  fnW_sound mixed Tryz.func77 (args := [x0, x1]) (by rw [C_eq]; exact h)
end stack_copied_api_Frame
namespace stack_cloned
theorem okf : okFn PG N.stack_cloned = true := by kernel_rfl
def note : Note := ⟨[], []⟩
def C (R : Ending → World → Prop) (x0 : Value) (w : World) : Prop :=
  alW (Value.cells x0) T.t_api_Frame (fun t2 w3 => alW (zc PG T.t_api_Frame) T.t_api_Frame (fun t4 w5 => faW 3 t2 fun t7 => ldW none t7 w5 fun t8 => callW PG N.slices_Clone_sl_uint32_uint32 [t8] (fun t9 w10 => faW 3 t2 fun t11 => stW 1 t11 t9 (fun w12 => ldW (some 4) t2 w12 fun t14 => stW 4 t4 t14 (fun w15 => ldW (some 4) t4 w15 fun t16 => R (.returned t16) w15) w12) w10) (fun c w => R (.panicked c) w) w5) w3) w
theorem C_eq (R : Ending → World → Prop) (x0 : Value) (w : World) : fnW PG note 400 Tryz.f78 [x0] R w = C R x0 w := by kernel_rfl
theorem ok {R : Ending → World → Prop} {x0 : Value} {w : World} (h : C R x0 w) : Calls PG N.stack_cloned #[x0] w R :=
  fnW_sound mixed Tryz.func78 (args := [x0]) (by rw [C_eq]; exact h)
end stack_cloned
namespace stack_Stack_ins
theorem okf : okFn PG N.stack_Stack_ins = true := by kernel_rfl
def note : Note := ⟨[], []⟩
def C (R : Ending → World → Prop) (x0 : Value) (w : World) : Prop :=
  alW (zc PG T.t_api_Ins) T.t_api_Ins (fun t2 w3 => callW PG N.stack_Stack_top [x0] (fun t5 w6 => ∃ H8 : World → Prop, H8 (World.drew w6) ∧ (nlW x0 fun t9 => faW 0 t9 fun t10 => faW 0 t10 fun t11 => ldS none t11 H8 fun t12 => nlW t5 fun t13 => faW 0 t13 fun t14 => ldS none t14 H8 fun t15 => ixS 2 t12 t15 fun t16 => faW 1 t16 fun t17 => ldS none t17 H8 fun t18 => nlW t5 fun t19 => faW 1 t19 fun t20 => ldS none t20 H8 fun t21 => ixS 5 t18 t21 fun t22 => ldS (some 5) t22 H8 fun t23 => stW 5 t2 t23 (fun w24 => ldW (some 5) t2 w24 fun t25 => R (.returned t25) w24) (World.drew w6))) (fun c w => R (.panicked c) w) w3) w
theorem C_eq (R : Ending → World → Prop) (x0 : Value) (w : World) : fnW PG note 400 Tryz.f81 [x0] R w = C R x0 w := by kernel_rfl
theorem ok {R : Ending → World → Prop} {x0 : Value} {w : World} (h : C R x0 w) : Calls PG N.stack_Stack_ins #[x0] w R :=
  fnW_sound mixed Tryz.func81 (args := [x0]) (by rw [C_eq]; exact h)
end stack_Stack_ins
namespace stack_Stack_refused
theorem okf : okFn PG N.stack_Stack_refused = true := by kernel_rfl
def note : Note := ⟨[], []⟩
def C (R : Ending → World → Prop) (x0 x1 x2 : Value) (w : World) : Prop :=
  alW (Value.cells x1) T.t_api_Ins (fun t2 w3 => ldW (some 5) t2 w3 fun t5 => callW PG N.instr_Local [t5] (fun t6 w7 => callW PG N.stack_must [t6, (.int .i64 221)] (fun t8 w9 => faW 0 t2 fun t12 => ldW none t12 w9 fun t13 => pu PG (binV .eql T.t_api_Op true t13 (.int .i64 3)) fun t14 => condV t14 (callW PG N.stack_Stack_top [x0] (fun t16 w17 => nlW t16 fun t18 => faW 3 t18 fun t19 => ldW none t19 w17 fun t20 => ∃ H22 : World → Prop, H22 (World.drew w17) ∧ (faW 4 t2 fun t23 => ldS none t23 H22 fun t24 => pu PG (convert T.t_uint32 T.t_api_Arith t24) fun t25 => faW 2 t2 fun t26 => ldS none t26 H22 fun t27 => ixS 1 t20 t27 fun t28 => ldS none t28 H22 fun t29 => faW 3 t2 fun t30 => ldS none t30 H22 fun t31 => ixS 1 t20 t31 fun t32 => ldS none t32 H22 fun t33 => callW PG N.arith_Do [t25, t29, t33] (fun t34 w35 => exW 0 t34 fun t36 => exW 1 t34 fun t37 => pu PG (binV .eql T.t_api_Errno true t37 (.int .i64 0)) fun t39 => callW PG N.stack_must [t39, t37] (fun t40 w41 => faW 0 t2 fun t42 => ldW none t42 w41 fun t43 => pu PG (binV .neq T.t_api_Op true t43 (.int .i64 8)) fun t44 => condV t44 (callW PG N.stack_must [(.bool true), (.int .i64 222)] (fun t45 w46 => R (.returned (.tuple #[])) w46) (fun c w => R (.panicked c) w) w41) (nlW x0 fun t47 => faW 4 t47 fun t48 => ldW none t48 w41 fun t49 => lnS t49 fun t50 => pu PG (binV .lss T.t_int false t50 x2) fun t51 => callW PG N.stack_must [t51, (.int .i64 222)] (fun t52 w53 => R (.returned (.tuple #[])) w53) (fun c w => R (.panicked c) w) w41)) (fun c w => R (.panicked c) w) w35) (fun c w => ∀ s38 : S, R (.panicked c) w) (World.drew w17))) (fun c w => R (.panicked c) w) w9) (faW 0 t2 fun t54 => ldW none t54 w9 fun t55 => pu PG (binV .neq T.t_api_Op true t55 (.int .i64 8)) fun t56 => condV t56 (callW PG N.stack_must [(.bool true), (.int .i64 222)] (fun t57 w58 => R (.returned (.tuple #[])) w58) (fun c w => R (.panicked c) w) w9) (nlW x0 fun t59 => faW 4 t59 fun t60 => ldW none t60 w9 fun t61 => lnS t61 fun t62 => pu PG (binV .lss T.t_int false t62 x2) fun t63 => callW PG N.stack_must [t63, (.int .i64 222)] (fun t64 w65 => R (.returned (.tuple #[])) w65) (fun c w => R (.panicked c) w) w9))) (fun c w => R (.panicked c) w) w7) (fun c w => R (.panicked c) w) w3) w
theorem C_eq (R : Ending → World → Prop) (x0 x1 x2 : Value) (w : World) : fnW PG note 400 Tryz.f82 [x0, x1, x2] R w = C R x0 x1 x2 w := by kernel_rfl
theorem ok {R : Ending → World → Prop} {x0 x1 x2 : Value} {w : World} (h : C R x0 x1 x2 w) : Calls PG N.stack_Stack_refused #[x0, x1, x2] w R :=
  fnW_sound mixed Tryz.func82 (args := [x0, x1, x2]) (by rw [C_eq]; exact h)
end stack_Stack_refused
namespace stack_does
theorem okf : okFn PG N.stack_does = true := by kernel_rfl
def note : Note := ⟨[], []⟩
def C (R : Ending → World → Prop) (w : World) : Prop :=
  opW PG (Instr.makeMap T.t_map_api_Op_func_ptr_stack_Stack_api_Ins none) (fun t3 w4 => opU PG (Instr.mapUpdate T.t_map_api_Op_func_ptr_stack_Stack_api_Ins t3 (.int .i64 1) (.func (.func N.stack_Stack_consts) #[] #[])) (fun w5 => opU PG (Instr.mapUpdate T.t_map_api_Op_func_ptr_stack_Stack_api_Ins t3 (.int .i64 2) (.func (.func N.stack_Stack_moves) #[] #[])) (fun w6 => opU PG (Instr.mapUpdate T.t_map_api_Op_func_ptr_stack_Stack_api_Ins t3 (.int .i64 3) (.func (.func N.stack_Stack_ariths) #[] #[])) (fun w7 => opU PG (Instr.mapUpdate T.t_map_api_Op_func_ptr_stack_Stack_api_Ins t3 (.int .i64 4) (.func (.func N.stack_Stack_jumps) #[] #[])) (fun w8 => opU PG (Instr.mapUpdate T.t_map_api_Op_func_ptr_stack_Stack_api_Ins t3 (.int .i64 5) (.func (.func N.stack_Stack_ifs) #[] #[])) (fun w9 => opU PG (Instr.mapUpdate T.t_map_api_Op_func_ptr_stack_Stack_api_Ins t3 (.int .i64 8) (.func (.func N.stack_Stack_calls) #[] #[])) (fun w10 => opU PG (Instr.mapUpdate T.t_map_api_Op_func_ptr_stack_Stack_api_Ins t3 (.int .i64 9) (.func (.func N.stack_Stack_returns) #[] #[])) (fun w11 => opU PG (Instr.mapUpdate T.t_map_api_Op_func_ptr_stack_Stack_api_Ins t3 (.int .i64 19) (.func (.func N.stack_Stack_yields) #[] #[])) (fun w12 => R (.returned t3) w12) w11) w10) w9) w8) w7) w6) w5) w4) w
theorem C_eq (R : Ending → World → Prop) (w : World) : fnW PG note 400 Tryz.f84 [] R w = C R  w := by kernel_rfl
theorem ok {R : Ending → World → Prop} {w : World} (h : C R  w) : Calls PG N.stack_does #[] w R :=
  fnW_sound mixed Tryz.func84 (args := []) (by rw [C_eq]; exact h)
end stack_does
namespace instr_Local
theorem okf : okFn PG N.instr_Local = true := by kernel_rfl
def note : Note := ⟨[], []⟩
def C (R : Ending → World → Prop) (x0 : Value) (w : World) : Prop :=
  alW (Value.cells x0) T.t_api_Ins (fun t2 w3 => ldW (some 5) t2 w3 fun t5 => callW PG N.instr_right [t5] (fun t6 w7 => condV t6 (faW 0 t2 fun t8 => ldW none t8 w7 fun t9 => pu PG (binV .leq T.t_api_Op true t9 (.int .i64 5)) fun t10 => condV t10 (R (.returned (.bool true)) w7) (faW 0 t2 fun t11 => ldW none t11 w7 fun t12 => bsW T.t_api_Op 3 (bsC PG T.t_api_Op 3 [(0, (.int .i64 8)), (1, (.int .i64 9)), (2, (.int .i64 19))]) (fun t13 w14 => callW PG N.instr_among_api_Op [t12, t13] (fun t15 w16 => R (.returned t15) w16) (fun c w => R (.panicked c) w) w14) w7)) (R (.returned (.bool false)) w7)) (fun c w => R (.panicked c) w) w3) w
theorem C_eq (R : Ending → World → Prop) (x0 : Value) (w : World) : fnW PG note 400 Tryz.f85 [x0] R w = C R x0 w := by kernel_rfl
theorem ok {R : Ending → World → Prop} {x0 : Value} {w : World} (h : C R x0 w) : Calls PG N.instr_Local #[x0] w R :=
  fnW_sound mixed Tryz.func85 (args := [x0]) (by rw [C_eq]; exact h)
end instr_Local
namespace stack_Stack_Frames_1
theorem okf : okFn PG N.stack_Stack_Frames_1 = true := by kernel_rfl
def note : Note := ⟨[], []⟩
def C (R : Ending → World → Prop) (x0 : Value) (w : World) : Prop :=
  alW (Value.cells x0) T.t_api_Frame (fun t2 w3 => alW (zc PG T.t_api_Frame) T.t_api_Frame (fun t4 w5 => ldW (some 4) t2 w5 fun t7 => callW PG N.stack_cloned [t7] (fun t8 w9 => stW 4 t4 t8 (fun w10 => ldW (some 4) t4 w10 fun t11 => R (.returned t11) w10) w9) (fun c w => R (.panicked c) w) w5) w3) w
theorem C_eq (R : Ending → World → Prop) (x0 : Value) (w : World) : fnW PG note 400 Tryz.f93 [x0] R w = C R x0 w := by kernel_rfl
theorem ok {R : Ending → World → Prop} {x0 : Value} {w : World} (h : C R x0 w) : Calls PG N.stack_Stack_Frames_1 #[x0] w R :=
  fnW_sound mixed Tryz.func93 (args := [x0]) (by rw [C_eq]; exact h)
end stack_Stack_Frames_1
namespace slices_Clone_sl_api_Frame_api_Frame
theorem okf : okFn PG N.slices_Clone_sl_api_Frame_api_Frame = true := by kernel_rfl
def note : Note := ⟨[], []⟩
def C (R : Ending → World → Prop) (x0 : Value) (w : World) : Prop :=
  pu PG (binV .eql T.t_sl_api_Frame true x0 (.slice none 0 0)) fun t4 => condV t4 (R (.returned (.slice none 0 0)) w) (bsW T.t_api_Frame 0 (bsC PG T.t_api_Frame 0 []) (fun t7 w8 => opW PG (Builtin.append_ #[T.t_sl_api_Frame, T.t_sl_api_Frame] T.t_sl_api_Frame #[t7, x0]) (fun t9 w10 => R (.returned t9) w10) w8) w)
theorem C_eq (R : Ending → World → Prop) (x0 : Value) (w : World) : fnW PG note 400 Tryz.f121 [x0] R w = C R x0 w := by kernel_rfl
theorem ok {R : Ending → World → Prop} {x0 : Value} {w : World} (h : C R x0 w) : Calls PG N.slices_Clone_sl_api_Frame_api_Frame #[x0] w R :=
  fnW_sound mixed Tryz.func121 (args := [x0]) (by rw [C_eq]; exact h)
end slices_Clone_sl_api_Frame_api_Frame
namespace slices_Clone_sl_uint32_uint32
theorem okf : okFn PG N.slices_Clone_sl_uint32_uint32 = true := by kernel_rfl
def note : Note := ⟨[], []⟩
def C (R : Ending → World → Prop) (x0 : Value) (w : World) : Prop :=
  pu PG (binV .eql T.t_sl_uint32 true x0 (.slice none 0 0)) fun t4 => condV t4 (R (.returned (.slice none 0 0)) w) (bsW T.t_uint32 0 (bsC PG T.t_uint32 0 []) (fun t7 w8 => opW PG (Builtin.append_ #[T.t_sl_uint32, T.t_sl_uint32] T.t_sl_uint32 #[t7, x0]) (fun t9 w10 => R (.returned t9) w10) w8) w)
theorem C_eq (R : Ending → World → Prop) (x0 : Value) (w : World) : fnW PG note 400 Tryz.f122 [x0] R w = C R x0 w := by kernel_rfl
theorem ok {R : Ending → World → Prop} {x0 : Value} {w : World} (h : C R x0 w) : Calls PG N.slices_Clone_sl_uint32_uint32 #[x0] w R :=
  fnW_sound mixed Tryz.func122 (args := [x0]) (by rw [C_eq]; exact h)
end slices_Clone_sl_uint32_uint32
namespace stack_Stack_calls
theorem okf : okFn PG N.stack_Stack_calls = true := by kernel_rfl
def note : Note := ⟨[], []⟩
def C (R : Ending → World → Prop) (x0 x1 : Value) (w : World) : Prop :=
  alW (Value.cells x1) T.t_api_Ins (fun t2 w3 => ∃ H5 : World → Prop, H5 (World.drew w3) ∧ (faW 2 t2 fun t6 => ldS none t6 H5 fun t7 => faW 2 t2 fun t8 => ldS none t8 H5 fun t9 => faW 3 t2 fun t10 => ldS none t10 H5 fun t11 => pu PG (binV .add T.t_int false t9 t11) fun t12 => faW 2 t2 fun t13 => ldS none t13 H5 fun t14 => faW 3 t2 fun t15 => ldS none t15 H5 fun t16 => pu PG (binV .add T.t_int false t14 t16) fun t17 => callW PG N.stack_Stack_top [x0] (fun t18 w19 => H5 w19 ∧ (nlW t18 fun t20 => faW 3 t20 fun t21 => ldS none t21 H5 fun t22 => pu PG (Instr.sliceAt T.t_sl_uint32 t22 (some t7) (some t12) (some t17)) fun t23 => ∃ H25 : World → Prop, H25 (World.drew w19) ∧ (nlW x0 fun t26 => faW 4 t26 fun t27 => ldS none t27 H25 fun t28 => faW 4 t2 fun t29 => ldS none t29 H25 fun t30 => pu PG (convert T.t_uint32 T.t_int t30) fun t31 => nlW x0 fun t32 => faW 0 t32 fun t33 => faW 0 t33 fun t34 => ldS none t34 H25 fun t35 => faW 4 t2 fun t36 => ldS none t36 H25 fun t37 => ixS 2 t35 t37 fun t38 => faW 0 t38 fun t39 => ldS none t39 H25 fun t40 => faW 1 t2 fun t41 => ldS none t41 H25 fun t42 => callW PG N.stack_entered [t31, t40, t42, t23] (fun t43 w44 => H25 w44 ∧ (bsW T.t_api_Frame 1 (bsC PG T.t_api_Frame 1 [(0, t43)]) (fun t45 w46 => H25 w46 ∧ (opW PG (Builtin.append_ #[T.t_sl_api_Frame, T.t_sl_api_Frame] T.t_sl_api_Frame #[t28, t45]) (fun t47 w48 => H25 w48 ∧ (nlW x0 fun t49 => faW 4 t49 fun t50 => stW 1 t50 t47 (fun w51 => R (.returned (.tuple #[])) w51) w48)) w46)) w44)) (fun c w => ∀ s52 : S, R (.panicked c) w) (World.drew w19)))) (fun c w => ∀ s24 : S, R (.panicked c) w) (World.drew w3))) w
theorem C_eq (R : Ending → World → Prop) (x0 x1 : Value) (w : World) : fnW PG note 400 Tryz.f129 [x0, x1] R w = C R x0 x1 w := by kernel_rfl
theorem ok {R : Ending → World → Prop} {x0 x1 : Value} {w : World} (h : C R x0 x1 w) : Calls PG N.stack_Stack_calls #[x0, x1] w R :=
  fnW_sound mixed Tryz.func129 (args := [x0, x1]) (by rw [C_eq]; exact h)
end stack_Stack_calls
namespace stack_Stack_returns
theorem okf : okFn PG N.stack_Stack_returns = true := by kernel_rfl
def note : Note := ⟨[], []⟩
def C (R : Ending → World → Prop) (x0 x1 : Value) (w : World) : Prop :=
  alW (Value.cells x1) T.t_api_Ins (fun t2 w3 => callW PG N.stack_Stack_top [x0] (fun t5 w6 => nlW t5 fun t7 => ldW (some 4) t7 w6 fun t8 => alW (zc PG T.t_api_Frame) T.t_api_Frame (fun t9 w10 => stW 4 t9 t8 (fun w11 => ∃ H13 : World → Prop, H13 (World.drew w11) ∧ (nlW x0 fun t14 => faW 4 t14 fun t15 => ldS none t15 H13 fun t16 => nlW x0 fun t17 => faW 4 t17 fun t18 => ldS none t18 H13 fun t19 => lnS t19 fun t20 => pu PG (binV .sub T.t_int true t20 (.int .i64 1)) fun t21 => nlW x0 fun t22 => faW 4 t22 fun t23 => ldS none t23 H13 fun t24 => lnS t24 fun t25 => pu PG (binV .sub T.t_int true t25 (.int .i64 1)) fun t26 => pu PG (Instr.sliceAt T.t_sl_api_Frame t16 none (some t21) (some t26)) fun t27 => nlW x0 fun t28 => faW 4 t28 fun t29 => stW 1 t29 t27 (fun w30 => nlW x0 fun t33 => faW 4 t33 fun t34 => ldW none t34 w30 fun t35 => lnS t35 fun t36 => pu PG (binV .eql T.t_int true t36 (.int .i64 0)) fun t37 => condV t37 (faW 3 t9 fun t39 => ldW none t39 w30 fun t40 => faW 1 t2 fun t41 => ldW none t41 w30 fun t42 => ixS 1 t40 t42 fun t43 => ldW none t43 w30 fun t44 => nlW x0 fun t45 => faW 5 t45 fun t46 => stW 1 t46 t44 (fun w47 => R (.returned (.tuple #[])) w47) w30) (∃ H48 : World → Prop, H48 (World.drew w30) ∧ (faW 2 t9 fun t49 => ldS none t49 H48 fun t50 => faW 3 t9 fun t51 => ldS none t51 H48 fun t52 => faW 1 t2 fun t53 => ldS none t53 H48 fun t54 => ixS 1 t52 t54 fun t55 => ldS none t55 H48 fun t56 => callW PG N.stack_Stack_top [x0] (fun t57 w58 => H48 w58 ∧ (nlW t57 fun t59 => faW 3 t59 fun t60 => ldS none t60 H48 fun t61 => ixS 1 t61 t50 fun t62 => stW 1 t62 t56 (fun w63 => R (.returned (.tuple #[])) w63) w58)) (fun c w => ∀ s64 : S, R (.panicked c) w) (World.drew w30)))) (World.drew w11))) w10) w6) (fun c w => R (.panicked c) w) w3) w
theorem C_eq (R : Ending → World → Prop) (x0 x1 : Value) (w : World) : fnW PG note 400 Tryz.f130 [x0, x1] R w = C R x0 x1 w := by kernel_rfl
theorem ok {R : Ending → World → Prop} {x0 x1 : Value} {w : World} (h : C R x0 x1 w) : Calls PG N.stack_Stack_returns #[x0, x1] w R :=
  fnW_sound mixed Tryz.func130 (args := [x0, x1]) (by rw [C_eq]; exact h)
end stack_Stack_returns
end Go.Proofs.YtkkkcafkepnecaaGreat
