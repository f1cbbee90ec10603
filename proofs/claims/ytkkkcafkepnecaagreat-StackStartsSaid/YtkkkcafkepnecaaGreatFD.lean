/- Conditions of functions, printed by a program of this session (gen.py) and checked by the kernel. -/
import Derived.Test.YtkkkcafkepnecaaGreatZB
set_option linter.unusedVariables false
namespace Go.Proofs.YtkkkcafkepnecaaGreat
open Go Go.RowKit Vc

namespace linesmanlaw12_works
theorem okf : okFn PG N.linesmanlaw12_works = true := by kernel_rfl
def note : Note := ⟨[], []⟩
def C (R : Ending → World → Prop) (w : World) : Prop :=
  callW PG N.linesmanlaw12_given [] (fun t3 w4 => bsW T.t_uint32 3 (bsC PG T.t_uint32 3 [(0, (.int .u32 0)), (1, (.int .u32 2)), (2, (.int .u32 3))]) (fun t5 w6 => callW PG N.stack_New [t3, (.int .i64 0), t5] (fun t7 w8 => exW 0 t7 fun t9 => exW 1 t7 fun t10 => callW PG N.stack_Stack_Step [t9, (.int .i64 1)] (fun t12 w13 => callW PG N.stack_Stack_Step [t9, (.int .i64 2)] (fun t14 w15 => callW PG N.linesmanlaw12_num [t10] (fun t18 w19 => callW PG N.linesmanlaw12_num [t14] (fun t20 w21 => pu PG (binV .add T.t_int false t18 t20) fun t22 => pu PG (binV .neq T.t_int true t22 (.int .i64 0)) fun t23 => condV t23 (R (.returned (.bool false)) w21) (callW PG N.linesmanlaw12_num [t12] (fun t24 w25 => pu PG (binV .neq T.t_int true t24 (.int .i64 222)) fun t26 => condV t26 (R (.returned (.bool false)) w25) (callW PG N.stack_Stack_Depth [t9] (fun t27 w28 => pu PG (binV .neq T.t_int true t27 (.int .i64 2)) fun t29 => condV t29 (R (.returned (.bool false)) w28) (callW PG N.stack_Stack_Reg [t9, (.int .i64 1)] (fun t30 w31 => pu PG (binV .neq T.t_uint32 true t30 (.int .u32 3)) fun t32 => condV t32 (R (.returned (.bool false)) w31) (callW PG N.stack_Stack_Step [t9, (.int .i64 2)] (fun t38 w39 => callW PG N.stack_Stack_Step [t9, (.int .i64 2)] (fun t40 w41 => callW PG N.stack_Stack_Reg [t9, (.int .i64 0)] (fun t43 w44 => callW PG N.stack_Stack_Step [t9, (.int .i64 2)] (fun t46 w47 => callW PG N.linesmanlaw12_num [t38] (fun t49 w50 => callW PG N.linesmanlaw12_num [t40] (fun t51 w52 => pu PG (binV .add T.t_int false t49 t51) fun t53 => callW PG N.linesmanlaw12_num [t46] (fun t54 w55 => pu PG (binV .add T.t_int false t53 t54) fun t56 => pu PG (binV .eql T.t_int true t56 (.int .i64 0)) fun t57 => condV t57 (pu PG (binV .eql T.t_uint32 true t43 (.int .u32 5)) fun t58 => condV t58 (callW PG N.stack_Stack_Depth [t9] (fun t59 w60 => pu PG (binV .eql T.t_int true t59 (.int .i64 0)) fun t61 => condV t61 (callW PG N.stack_Stack_Result [t9] (fun t62 w63 => pu PG (binV .eql T.t_uint32 true t62 (.int .u32 5)) fun t64 => R (.returned t64) w63) (fun c w => R (.panicked c) w) w60) (R (.returned (.bool false)) w60)) (fun c w => R (.panicked c) w) w55) (R (.returned (.bool false)) w55)) (R (.returned (.bool false)) w55)) (fun c w => R (.panicked c) w) w52) (fun c w => R (.panicked c) w) w50) (fun c w => R (.panicked c) w) w47) (fun c w => R (.panicked c) w) w44) (fun c w => R (.panicked c) w) w41) (fun c w => R (.panicked c) w) w39) (fun c w => R (.panicked c) w) w31)) (fun c w => R (.panicked c) w) w28)) (fun c w => R (.panicked c) w) w25)) (fun c w => R (.panicked c) w) w21)) (fun c w => R (.panicked c) w) w19) (fun c w => R (.panicked c) w) w15) (fun c w => R (.panicked c) w) w13) (fun c w => R (.panicked c) w) w8) (fun c w => R (.panicked c) w) w6) w4) (fun c w => R (.panicked c) w) w
theorem C_eq (R : Ending → World → Prop) (w : World) : fnW PG note 400 Tryz.f12 [] R w = C R  w := by kernel_rfl
theorem ok {R : Ending → World → Prop} {w : World} (h : C R  w) : Calls PG N.linesmanlaw12_works #[] w R :=
  fnW_sound mixed Tryz.func12 (args := []) (by rw [C_eq]; exact h)
end linesmanlaw12_works
namespace linesmanlaw12_num
theorem okf : okFn PG N.linesmanlaw12_num = true := by kernel_rfl
def note : Note := ⟨[], []⟩
def C (R : Ending → World → Prop) (x0 : Value) (w : World) : Prop :=
  R (.returned x0) w
theorem C_eq (R : Ending → World → Prop) (x0 : Value) (w : World) : fnW PG note 400 Tryz.f15 [x0] R w = C R x0 w := by kernel_rfl
theorem ok {R : Ending → World → Prop} {x0 : Value} {w : World} (h : C R x0 w) : Calls PG N.linesmanlaw12_num #[x0] w R :=
  fnW_sound mixed Tryz.func15 (args := [x0]) (by rw [C_eq]; exact h)
end linesmanlaw12_num
namespace stack_Stack_Frames
theorem okf : okFn PG N.stack_Stack_Frames = true := by kernel_rfl
def note : Note := ⟨[], []⟩
def C (R : Ending → World → Prop) (x0 : Value) (w : World) : Prop :=
  alW (zc PG T.t_sl_api_Frame) T.t_sl_api_Frame (fun t3 w4 => callW PG N.stack_Stack_none [x0] (fun t7 w8 => pu PG (Op.unary .not t7) fun t9 => condV t9 (nlW x0 fun t10 => faW 4 t10 fun t11 => ldW none t11 w8 fun t12 => callW PG N.stack_copied_api_Frame [t12, (.func (.func N.stack_Stack_Frames_1) #[] #[])] (fun t13 w14 => stW 1 t3 t13 (fun w15 => R (.returned (.func (.func N.stack_Stack_Frames_2) #[] #[t3])) w15) w14) (fun c w => R (.panicked c) w) w8) (R (.returned (.func (.func N.stack_Stack_Frames_2) #[] #[t3])) w8)) (fun c w => R (.panicked c) w) w4) w
theorem C_eq (R : Ending → World → Prop) (x0 : Value) (w : World) : fnW PG note 400 Tryz.f39 [x0] R w = C R x0 w := by kernel_rfl
theorem ok {R : Ending → World → Prop} {x0 : Value} {w : World} (h : C R x0 w) : Calls PG N.stack_Stack_Frames #[x0] w R :=
  fnW_sound mixed Tryz.func39 (args := [x0]) (by rw [C_eq]; exact h)
end stack_Stack_Frames
namespace linesmanlaw12_given
theorem okf : okFn PG N.linesmanlaw12_given = true := by kernel_rfl
def note : Note := ⟨[], []⟩
def C (R : Ending → World → Prop) (w : World) : Prop :=
  alW (zc PG T.t_api_Program) T.t_api_Program (fun t2 w3 => pu PG (Instr.build T.t_api_Ins #[(0, (.int .i64 8)), (2, (.int .i64 1)), (3, (.int .i64 2)), (4, (.int .u32 1))]) fun t5 => pu PG (Instr.build T.t_api_Ins #[(0, (.int .i64 9))]) fun t6 => bsW T.t_api_Ins 2 (bsC PG T.t_api_Ins 2 [(0, t5), (1, t6)]) (fun t7 w8 => pu PG (Instr.build T.t_api_Func #[(0, (.int .i64 3)), (1, t7)]) fun t9 => pu PG (Instr.build T.t_api_Ins #[(0, (.int .i64 3)), (3, (.int .i64 1)), (4, (.int .u32 1))]) fun t10 => pu PG (Instr.build T.t_api_Ins #[(0, (.int .i64 9))]) fun t11 => bsW T.t_api_Ins 2 (bsC PG T.t_api_Ins 2 [(0, t10), (1, t11)]) (fun t12 w13 => pu PG (Instr.build T.t_api_Func #[(0, (.int .i64 2)), (1, t12)]) fun t14 => bsW T.t_api_Func 2 (bsC PG T.t_api_Func 2 [(0, t9), (1, t14)]) (fun t15 w16 => pu PG (Instr.build T.t_api_Program #[(0, t15)]) fun t17 => stW 4 t2 t17 (fun w18 => ldW (some 4) t2 w18 fun t19 => R (.returned t19) w18) w16) w13) w8) w3) w
theorem C_eq (R : Ending → World → Prop) (w : World) : fnW PG note 400 Tryz.f40 [] R w = C R  w := by kernel_rfl
theorem ok {R : Ending → World → Prop} {w : World} (h : C R  w) : Calls PG N.linesmanlaw12_given #[] w R :=
  fnW_sound mixed Tryz.func40 (args := []) (by rw [C_eq]; exact h)
end linesmanlaw12_given
namespace stack_Stack_Frames_2
theorem okf : okFn PG N.stack_Stack_Frames_2 = true := by kernel_rfl
def note : Note := ⟨[], [(0, [1, 2])]⟩
def rp0 : Array Tmp := #[7, 8]
noncomputable def ra0 : Code := sub [1, 0, 1, 1, 0, 0] (bodyOf Tryz.f94)
noncomputable def rb0 : Code := sub [1, 0, 1, 1, 0, 1] (bodyOf Tryz.f94)
def C (R : Ending → World → Prop) (x0 x1 : Value) (w : World) : Prop :=
  alW (Value.cells x0) T.t_func_int_api_Frame_bool (fun t2 w3 => ldW none x1 w3 fun t6 => callW PG N.slices_Backward_sl_api_Frame_api_Frame [t6] (fun t7 w8 => RangeW PG none 19 [(1, x1), (2, t2)] rp0 ra0 rb0 t7 (fun d9 w10 => LvW PG d9 .returning w10 (endV (fun w11 => R (.returned (.tuple #[])) w11) R)) (fun d9 w10 => LvW PG d9 .returning w10 (endV (fun w12 => R (.returned (.tuple #[])) w12) R)) [(0, (fun d9 w10 => LvW PG d9 .returning w10 (endV (fun w13 => R (.returned (.tuple #[])) w13) R)))] (fun c d9 w10 => LvW PG d9 (.panicking c) w10 (endV (fun w14 => R (.returned (.tuple #[])) w14) R)) [] w8) (fun c w => R (.panicked c) w) w3) w
theorem C_eq (R : Ending → World → Prop) (x0 x1 : Value) (w : World) : fnW PG note 400 Tryz.f94 [x0, x1] R w = C R x0 x1 w := by kernel_rfl
theorem ok {R : Ending → World → Prop} {x0 x1 : Value} {w : World} (h : C R x0 x1 w) : Calls PG N.stack_Stack_Frames_2 #[x0, x1] w R :=
  fnW_sound mixed Tryz.func94 (args := [x0, x1]) (by rw [C_eq]; exact h)
def Rd0 (l : Nat) (R : Value → World → Prop) (v1 v2 a0 a1 : Value) (w : World) : Prop :=
  alW (zc PG T.t_api_Frame) T.t_api_Frame (fun t16 w17 => stW 4 t16 a1 (fun w18 => rBeg l (fun w19 => ∃ H21 : World → Prop, H21 (World.drew w19) ∧ (ldS none v2 H21 fun t22 => ldS none v1 H21 fun t23 => lnS t23 fun t24 => pu PG (binV .sub T.t_int true t24 (.int .i64 1)) fun t25 => pu PG (binV .sub T.t_int false t25 a0) fun t26 => ldS (some 4) t16 H21 fun t27 => callW PG N.stack_cloned [t27] (fun t28 w29 => H21 w29 ∧ (callV PG t22 [t26, t28] (fun t30 w31 => H21 w31 ∧ (pu PG (Op.unary .not t30) fun t32 => condV t32 (rEnd l (some (.exit 0)) R w31) (rEnd l none R w31))) (fun c w => ∀ s33 : S, False) w29)) (fun c w => ∀ s34 : S, False) (World.drew w19))) w18) w17) w
theorem Rd0_eq (l : Nat) (R : Value → World → Prop) (v1 v2 a0 a1 : Value) (w : World) (u : S) : rndW PG note 19 400 l ra0 rb0 (pset [7, 8] [a0, a1] (ovrP [(1, v1), (2, v2)] u)) R w = Rd0 l R v1 v2 a0 a1 w := by kernel_rfl
end stack_Stack_Frames_2
namespace slices_Backward_sl_api_Frame_api_Frame
theorem okf : okFn PG N.slices_Backward_sl_api_Frame_api_Frame = true := by kernel_rfl
def note : Note := ⟨[], []⟩
def C (R : Ending → World → Prop) (x0 : Value) (w : World) : Prop :=
  alW (Value.cells x0) T.t_sl_api_Frame (fun t2 w3 => R (.returned (.func (.func N.slices_Backward_sl_api_Frame_api_Frame_1) #[] #[t2])) w3) w
theorem C_eq (R : Ending → World → Prop) (x0 : Value) (w : World) : fnW PG note 400 Tryz.f95 [x0] R w = C R x0 w := by kernel_rfl
theorem ok {R : Ending → World → Prop} {x0 : Value} {w : World} (h : C R x0 w) : Calls PG N.slices_Backward_sl_api_Frame_api_Frame #[x0] w R :=
  fnW_sound mixed Tryz.func95 (args := [x0]) (by rw [C_eq]; exact h)
end slices_Backward_sl_api_Frame_api_Frame
namespace slices_Backward_sl_api_Frame_api_Frame_1
theorem okf : okFn PG N.slices_Backward_sl_api_Frame_api_Frame_1 = true := by kernel_rfl
def note : Note := ⟨[(0, [3])], []⟩
def C (R : Ending → World → Prop) (x0 x1 : Value) (w : World) : Prop :=
  ldW none x1 w fun t2 => lnS t2 fun t3 => pu PG (binV .sub T.t_int true t3 (.int .i64 1)) fun t4 => LoopW [t4] (fun l6 N7 w8 => ∀ j5 : S, pu PG (binV .geq T.t_int true (gv l6 0) (.int .i64 0)) fun t11 => condV t11 (ldW none x1 w8 fun t14 => ixS 4 t14 (gv l6 0) fun t15 => ldW (some 4) t15 w8 fun t16 => callV PG x0 [(gv l6 0), t16] (fun t17 w18 => pu PG (Op.unary .not t17) fun t19 => condV t19 (R (.returned (.tuple #[])) w18) (pu PG (binV .sub T.t_int true (gv l6 0) (.int .i64 1)) fun t20 => N7 [t20] w18)) (fun c w => R (.panicked c) w) w8) (R (.returned (.tuple #[])) w8)) w
theorem C_eq (R : Ending → World → Prop) (x0 x1 : Value) (w : World) : fnW PG note 400 Tryz.f140 [x0, x1] R w = C R x0 x1 w := by kernel_rfl
theorem ok {R : Ending → World → Prop} {x0 x1 : Value} {w : World} (h : C R x0 x1 w) : Calls PG N.slices_Backward_sl_api_Frame_api_Frame_1 #[x0, x1] w R :=
  fnW_sound mixed Tryz.func140 (args := [x0, x1]) (by rw [C_eq]; exact h)
end slices_Backward_sl_api_Frame_api_Frame_1
end Go.Proofs.YtkkkcafkepnecaaGreat
