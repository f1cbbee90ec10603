/- Conditions of functions, printed by a program of this session (gen.py) and checked by the kernel. -/
import Derived.Test.YtkkkcafkepnecaaGreatZB
set_option linter.unusedVariables false
namespace Go.Proofs.YtkkkcafkepnecaaGreat
open Go Go.RowKit Vc

namespace program_Copy
theorem okf : okFn PG N.program_Copy = true := by kernel_rfl
def note : Note := ⟨[(0, [12])], []⟩
def C (R : Ending → World → Prop) (x0 : Value) (w : World) : Prop :=
  alW (Value.cells x0) T.t_api_Program (fun t2 w3 => alW (zc PG T.t_api_Program) T.t_api_Program (fun t4 w5 => faW 0 t2 fun t7 => ldW none t7 w5 fun t8 => callW PG N.slices_Clone_sl_api_Func_api_Func [t8] (fun t9 w10 => faW 0 t2 fun t11 => stW 1 t11 t9 (fun w12 => faW 0 t2 fun t15 => ldW none t15 w12 fun t16 => lnS t16 fun t17 => LoopW [(.int .i64 0)] (fun l19 N20 w21 => ∀ j18 : S, pu PG (binV .lss T.t_int false (gv l19 0) t17) fun t23 => condV t23 (ixS 2 t16 (gv l19 0) fun t27 => ldW (some 2) t27 w21 fun t28 => alW (zc PG T.t_api_Func) T.t_api_Func (fun t29 w30 => stW 2 t29 t28 (fun w31 => ∃ H32 : World → Prop, H32 (World.drew w31) ∧ (faW 0 t2 fun t33 => ldS none t33 H32 fun t34 => faW 1 t29 fun t35 => ldS none t35 H32 fun t36 => callW PG N.slices_Clone_sl_api_Ins_api_Ins [t36] (fun t37 w38 => H32 w38 ∧ (ixS 2 t34 (gv l19 0) fun t39 => faW 1 t39 fun t40 => stW 1 t40 t37 (fun w41 => pu PG (binV .add T.t_int true (gv l19 0) (.int .i64 1)) fun t43 => N20 [t43] w41) w38)) (fun c w => ∀ s42 : S, R (.panicked c) w) (World.drew w31))) w30) w21) (ldW (some 4) t2 w21 fun t45 => stW 4 t4 t45 (fun w46 => ldW (some 4) t4 w46 fun t47 => R (.returned t47) w46) w21)) w12) w10) (fun c w => R (.panicked c) w) w5) w3) w
theorem C_eq (R : Ending → World → Prop) (x0 : Value) (w : World) : fnW PG note 400 Tryz.f58 [x0] R w = C R x0 w := by kernel_rfl
theorem ok {R : Ending → World → Prop} {x0 : Value} {w : World} (h : C R x0 w) : Calls PG N.program_Copy #[x0] w R :=
  fnW_sound mixed Tryz.func58 (args := [x0]) (by rw [C_eq]; exact h)
end program_Copy
namespace program_Same
theorem okf : okFn PG N.program_Same = true := by kernel_rfl
def note : Note := ⟨[], []⟩
def C (R : Ending → World → Prop) (x0 x1 : Value) (w : World) : Prop :=
  alW (Value.cells x0) T.t_api_Program (fun t2 w3 => alW (Value.cells x1) T.t_api_Program (fun t4 w5 => faW 1 t2 fun t7 => ldW none t7 w5 fun t8 => faW 1 t4 fun t9 => ldW none t9 w5 fun t10 => pu PG (binV .eql T.t_int false t8 t10) fun t11 => condV t11 (faW 2 t2 fun t12 => ldW none t12 w5 fun t13 => faW 2 t4 fun t14 => ldW none t14 w5 fun t15 => pu PG (binV .eql T.t_int false t13 t15) fun t16 => condV t16 (faW 3 t2 fun t17 => ldW none t17 w5 fun t18 => faW 3 t4 fun t19 => ldW none t19 w5 fun t20 => pu PG (binV .eql T.t_int false t18 t20) fun t21 => condV t21 (faW 0 t2 fun t22 => ldW none t22 w5 fun t23 => faW 0 t4 fun t24 => ldW none t24 w5 fun t25 => callW PG N.slices_EqualFunc_sl_api_Func_sl_api_Func_api_Func_api_Func [t23, t25, (.func (.func N.program_Same_1) #[] #[])] (fun t26 w27 => R (.returned t26) w27) (fun c w => R (.panicked c) w) w5) (R (.returned (.bool false)) w5)) (R (.returned (.bool false)) w5)) (R (.returned (.bool false)) w5)) w3) w
theorem C_eq (R : Ending → World → Prop) (x0 x1 : Value) (w : World) : fnW PG note 400 Tryz.f86 [x0, x1] R w = C R x0 x1 w := by kernel_rfl
theorem ok {R : Ending → World → Prop} {x0 x1 : Value} {w : World} (h : C R x0 x1 w) : Calls PG N.program_Same #[x0, x1] w R :=
  fnW_sound mixed Tryz.func86 (args := [x0, x1]) (by rw [C_eq]; exact h)
end program_Same
namespace slices_Clone_sl_api_Func_api_Func
theorem okf : okFn PG N.slices_Clone_sl_api_Func_api_Func = true := by kernel_rfl
def note : Note := ⟨[], []⟩
def C (R : Ending → World → Prop) (x0 : Value) (w : World) : Prop :=
  pu PG (binV .eql T.t_sl_api_Func true x0 (.slice none 0 0)) fun t4 => condV t4 (R (.returned (.slice none 0 0)) w) (bsW T.t_api_Func 0 (bsC PG T.t_api_Func 0 []) (fun t7 w8 => opW PG (Builtin.append_ #[T.t_sl_api_Func, T.t_sl_api_Func] T.t_sl_api_Func #[t7, x0]) (fun t9 w10 => R (.returned t9) w10) w8) w)
theorem C_eq (R : Ending → World → Prop) (x0 : Value) (w : World) : fnW PG note 400 Tryz.f107 [x0] R w = C R x0 w := by kernel_rfl
theorem ok {R : Ending → World → Prop} {x0 : Value} {w : World} (h : C R x0 w) : Calls PG N.slices_Clone_sl_api_Func_api_Func #[x0] w R :=
  fnW_sound mixed Tryz.func107 (args := [x0]) (by rw [C_eq]; exact h)
end slices_Clone_sl_api_Func_api_Func
namespace slices_Clone_sl_api_Ins_api_Ins
theorem okf : okFn PG N.slices_Clone_sl_api_Ins_api_Ins = true := by kernel_rfl
def note : Note := ⟨[], []⟩
def C (R : Ending → World → Prop) (x0 : Value) (w : World) : Prop :=
  pu PG (binV .eql T.t_sl_api_Ins true x0 (.slice none 0 0)) fun t4 => condV t4 (R (.returned (.slice none 0 0)) w) (bsW T.t_api_Ins 0 (bsC PG T.t_api_Ins 0 []) (fun t7 w8 => opW PG (Builtin.append_ #[T.t_sl_api_Ins, T.t_sl_api_Ins] T.t_sl_api_Ins #[t7, x0]) (fun t9 w10 => R (.returned t9) w10) w8) w)
theorem C_eq (R : Ending → World → Prop) (x0 : Value) (w : World) : fnW PG note 400 Tryz.f108 [x0] R w = C R x0 w := by kernel_rfl
theorem ok {R : Ending → World → Prop} {x0 : Value} {w : World} (h : C R x0 w) : Calls PG N.slices_Clone_sl_api_Ins_api_Ins #[x0] w R :=
  fnW_sound mixed Tryz.func108 (args := [x0]) (by rw [C_eq]; exact h)
end slices_Clone_sl_api_Ins_api_Ins
namespace slices_EqualFunc_sl_api_Func_sl_api_Func_api_Func_api_Func
theorem okf : okFn PG N.slices_EqualFunc_sl_api_Func_sl_api_Func_api_Func_api_Func = true := by kernel_rfl
def note : Note := ⟨[(0, [17])], []⟩
def C (R : Ending → World → Prop) (x0 x1 x2 : Value) (w : World) : Prop :=
  lnS x0 fun t4 => lnS x1 fun t5 => pu PG (binV .neq T.t_int false t4 t5) fun t6 => condV t6 (R (.returned (.bool false)) w) (lnS x0 fun t10 => LoopW [(.int .i64 0)] (fun l12 N13 w14 => ∀ j11 : S, pu PG (binV .lss T.t_int false (gv l12 0) t10) fun t16 => condV t16 (ixS 2 x0 (gv l12 0) fun t20 => ldW (some 2) t20 w14 fun t21 => alW (zc PG T.t_api_Func) T.t_api_Func (fun t22 w23 => stW 2 t22 t21 (fun w24 => ixS 2 x1 (gv l12 0) fun t26 => ldW (some 2) t26 w24 fun t27 => alW (zc PG T.t_api_Func) T.t_api_Func (fun t28 w29 => stW 2 t28 t27 (fun w30 => ldW (some 2) t22 w30 fun t32 => ldW (some 2) t28 w30 fun t33 => callV PG x2 [t32, t33] (fun t34 w35 => pu PG (Op.unary .not t34) fun t36 => condV t36 (R (.returned (.bool false)) w35) (pu PG (binV .add T.t_int true (gv l12 0) (.int .i64 1)) fun t38 => N13 [t38] w35)) (fun c w => R (.panicked c) w) w30) w29) w24) w23) w14) (R (.returned (.bool true)) w14)) w)
theorem C_eq (R : Ending → World → Prop) (x0 x1 x2 : Value) (w : World) : fnW PG note 400 Tryz.f134 [x0, x1, x2] R w = C R x0 x1 x2 w := by kernel_rfl
theorem ok {R : Ending → World → Prop} {x0 x1 x2 : Value} {w : World} (h : C R x0 x1 x2 w) : Calls PG N.slices_EqualFunc_sl_api_Func_sl_api_Func_api_Func_api_Func #[x0, x1, x2] w R :=
  fnW_sound mixed Tryz.func134 (args := [x0, x1, x2]) (by rw [C_eq]; exact h)
end slices_EqualFunc_sl_api_Func_sl_api_Func_api_Func_api_Func
namespace program_Same_1
theorem okf : okFn PG N.program_Same_1 = true := by kernel_rfl
def note : Note := ⟨[], []⟩
def C (R : Ending → World → Prop) (x0 x1 : Value) (w : World) : Prop :=
  alW (Value.cells x0) T.t_api_Func (fun t2 w3 => alW (Value.cells x1) T.t_api_Func (fun t4 w5 => faW 0 t2 fun t7 => ldW none t7 w5 fun t8 => faW 0 t4 fun t9 => ldW none t9 w5 fun t10 => pu PG (binV .eql T.t_int false t8 t10) fun t11 => condV t11 (faW 1 t2 fun t12 => ldW none t12 w5 fun t13 => faW 1 t4 fun t14 => ldW none t14 w5 fun t15 => callW PG N.slices_Equal_sl_api_Ins_api_Ins [t13, t15] (fun t16 w17 => R (.returned t16) w17) (fun c w => R (.panicked c) w) w5) (R (.returned (.bool false)) w5)) w3) w
theorem C_eq (R : Ending → World → Prop) (x0 x1 : Value) (w : World) : fnW PG note 400 Tryz.f135 [x0, x1] R w = C R x0 x1 w := by kernel_rfl
theorem ok {R : Ending → World → Prop} {x0 x1 : Value} {w : World} (h : C R x0 x1 w) : Calls PG N.program_Same_1 #[x0, x1] w R :=
  fnW_sound mixed Tryz.func135 (args := [x0, x1]) (by rw [C_eq]; exact h)
end program_Same_1
namespace slices_Equal_sl_api_Ins_api_Ins
theorem okf : okFn PG N.slices_Equal_sl_api_Ins_api_Ins = true := by kernel_rfl
def note : Note := ⟨[(0, [13])], []⟩
def C (R : Ending → World → Prop) (x0 x1 : Value) (w : World) : Prop :=
  lnS x0 fun t4 => lnS x1 fun t5 => pu PG (binV .neq T.t_int false t4 t5) fun t6 => condV t6 (R (.returned (.bool false)) w) (lnS x0 fun t10 => LoopW [(.int .i64 0)] (fun l12 N13 w14 => ∀ j11 : S, pu PG (binV .lss T.t_int false (gv l12 0) t10) fun t16 => condV t16 (∃ H21 : World → Prop, H21 (World.drew w14) ∧ (ixS 5 x0 (gv l12 0) fun t22 => ldS (some 5) t22 H21 fun t23 => ixS 5 x1 (gv l12 0) fun t24 => ldS (some 5) t24 H21 fun t25 => pu PG (binV .neq T.t_api_Ins false t23 t25) fun t26 => condV t26 (R (.returned (.bool false)) (World.drew w14)) (pu PG (binV .add T.t_int true (gv l12 0) (.int .i64 1)) fun t28 => N13 [t28] (World.drew w14)))) (R (.returned (.bool true)) w14)) w)
theorem C_eq (R : Ending → World → Prop) (x0 x1 : Value) (w : World) : fnW PG note 400 Tryz.f136 [x0, x1] R w = C R x0 x1 w := by kernel_rfl
theorem ok {R : Ending → World → Prop} {x0 x1 : Value} {w : World} (h : C R x0 x1 w) : Calls PG N.slices_Equal_sl_api_Ins_api_Ins #[x0, x1] w R :=
  fnW_sound mixed Tryz.func136 (args := [x0, x1]) (by rw [C_eq]; exact h)
end slices_Equal_sl_api_Ins_api_Ins
end Go.Proofs.YtkkkcafkepnecaaGreat
