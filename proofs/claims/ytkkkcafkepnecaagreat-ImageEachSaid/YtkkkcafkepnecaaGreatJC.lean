/- Conditions of functions, printed by a program of this session (gen.py) and checked by the kernel. -/
import Derived.Test.YtkkkcafkepnecaaGreatZB
set_option linter.unusedVariables false
namespace Go.Proofs.YtkkkcafkepnecaaGreat
open Go Go.RowKit Vc

namespace digest_Of
theorem okf : okFn PG N.digest_Of = true := by kernel_rfl
def note : Note := ⟨[], []⟩
def C (R : Ending → World → Prop) (x0 : Value) (w : World) : Prop :=
  callW PG N.digest_New [] (fun t3 w4 => callW PG N.digest_Digest_Write [t3, x0] (fun t6 w7 => callW PG N.digest_Digest_Sum [t3] (fun t9 w10 => R (.returned t9) w10) (fun c w => R (.panicked c) w) w7) (fun c w => R (.panicked c) w) w4) (fun c w => R (.panicked c) w) w
theorem C_eq (R : Ending → World → Prop) (x0 : Value) (w : World) : fnW PG note 400 Tryz.f72 [x0] R w = C R x0 w := by kernel_rfl
theorem ok {R : Ending → World → Prop} {x0 : Value} {w : World} (h : C R x0 w) : Calls PG N.digest_Of #[x0] w R :=
  fnW_sound mixed Tryz.func72 (args := [x0]) (by rw [C_eq]; exact h)
end digest_Of
namespace digest_New
theorem okf : okFn PG N.digest_New = true := by kernel_rfl
def note : Note := ⟨[], []⟩
def C (R : Ending → World → Prop) (w : World) : Prop :=
  pu PG (Instr.build T.t_digest_Digest #[(1, (.int .u64 18446744073709551615)), (3, (.bool true))]) fun t3 => alW (Value.cells t3) T.t_digest_Digest (fun t4 w5 => nlW t4 fun t7 => faW 0 t7 fun t8 => callW PG N.digest_table_fill [t8] (fun t9 w10 => R (.returned t4) w10) (fun c w => R (.panicked c) w) w5) w
theorem C_eq (R : Ending → World → Prop) (w : World) : fnW PG note 400 Tryz.f116 [] R w = C R  w := by kernel_rfl
theorem ok {R : Ending → World → Prop} {w : World} (h : C R  w) : Calls PG N.digest_New #[] w R :=
  fnW_sound mixed Tryz.func116 (args := []) (by rw [C_eq]; exact h)
end digest_New
namespace digest_Digest_Write
theorem okf : okFn PG N.digest_Digest_Write = true := by kernel_rfl
def note : Note := ⟨[(0, [11])], []⟩
def C (R : Ending → World → Prop) (x0 x1 : Value) (w : World) : Prop :=
  callW PG N.digest_Digest_none [x0] (fun t4 w5 => condV t4 (R (.returned (.int .i64 1)) w5) (lnS x1 fun t9 => LoopW [(.int .i64 0)] (fun l11 N12 w13 => ∀ j10 : S, pu PG (binV .lss T.t_int false (gv l11 0) t9) fun t15 => condV t15 (ixS 1 x1 (gv l11 0) fun t19 => ldW none t19 w13 fun t20 => ∃ H21 : World → Prop, H21 (World.drew w13) ∧ (nlW x0 fun t22 => faW 256 t22 fun t23 => ldS none t23 H21 fun t24 => nlW x0 fun t25 => faW 0 t25 fun t26 => nlW x0 fun t27 => faW 257 t27 fun t28 => ldS none t28 H21 fun t29 => lnS t20 fun t30 => pu PG (binV .add T.t_int false t29 t30) fun t31 => callW PG N.digest_folded_uint64_byte [t24, t20, (.func (.func N.digest_table_step) #[t26] #[])] (fun t32 w33 => H21 w33 ∧ (nlW x0 fun t34 => faW 256 t34 fun t35 => stW 1 t35 t32 (fun w36 => nlW x0 fun t37 => faW 257 t37 fun t38 => stW 1 t38 t31 (fun w39 => pu PG (binV .add T.t_int true (gv l11 0) (.int .i64 1)) fun t41 => N12 [t41] w39) w36) w33)) (fun c w => ∀ s40 : S, R (.panicked c) w) (World.drew w13))) (R (.returned (.int .i64 0)) w13)) w5)) (fun c w => R (.panicked c) w) w
theorem C_eq (R : Ending → World → Prop) (x0 x1 : Value) (w : World) : fnW PG note 400 Tryz.f117 [x0, x1] R w = C R x0 x1 w := by kernel_rfl
theorem ok {R : Ending → World → Prop} {x0 x1 : Value} {w : World} (h : C R x0 x1 w) : Calls PG N.digest_Digest_Write #[x0, x1] w R :=
  fnW_sound mixed Tryz.func117 (args := [x0, x1]) (by rw [C_eq]; exact h)
end digest_Digest_Write
namespace digest_Digest_Sum
theorem okf : okFn PG N.digest_Digest_Sum = true := by kernel_rfl
def note : Note := ⟨[], []⟩
def C (R : Ending → World → Prop) (x0 : Value) (w : World) : Prop :=
  callW PG N.digest_Digest_none [x0] (fun t4 w5 => condV t4 (R (.returned (.int .u64 0)) w5) (nlW x0 fun t8 => faW 256 t8 fun t9 => ldW none t9 w5 fun t10 => pu PG (Op.unary .xor t10) fun t11 => R (.returned t11) w5)) (fun c w => R (.panicked c) w) w
theorem C_eq (R : Ending → World → Prop) (x0 : Value) (w : World) : fnW PG note 400 Tryz.f118 [x0] R w = C R x0 w := by kernel_rfl
theorem ok {R : Ending → World → Prop} {x0 : Value} {w : World} (h : C R x0 w) : Calls PG N.digest_Digest_Sum #[x0] w R :=
  fnW_sound mixed Tryz.func118 (args := [x0]) (by rw [C_eq]; exact h)
end digest_Digest_Sum
namespace digest_table_fill
theorem okf : okFn PG N.digest_table_fill = true := by kernel_rfl
def note : Note := ⟨[(0, [5]), (2, [3, 10])], []⟩
def C (R : Ending → World → Prop) (x0 : Value) (w : World) : Prop :=
  LoopW [(.int .i64 0)] (fun l3 N4 w5 => ∀ j2 : S, pu PG (binV .lss T.t_int true (gv l3 0) (.int .i64 256)) fun t7 => condV t7 (pu PG (convert T.t_int T.t_uint64 (gv l3 0)) fun t12 => LoopW [t12, (.int .i64 0)] (fun l16 N17 w18 => ∀ j15 : S, pu PG (binV .lss T.t_int true (gv l16 1) (.int .i64 8)) fun t20 => condV t20 (pu PG (binV .and T.t_uint64 true (gv l16 0) (.int .u64 1)) fun t24 => pu PG (binV .shr T.t_uint64 true (gv l16 0) (.int .u64 1)) fun t26 => pu PG (binV .eql T.t_uint64 true t24 (.int .u64 1)) fun t28 => condV t28 (pu PG (binV .xor T.t_uint64 true t26 (.int .u64 14514072000185962306)) fun t29 => pu PG (binV .add T.t_int true (gv l16 1) (.int .i64 1)) fun t30 => N17 [t29, t30] w18) (pu PG (binV .add T.t_int true (gv l16 1) (.int .i64 1)) fun t31 => N17 [t26, t31] w18)) (nlW x0 fun t32 => ixA 256 1 t32 (gv l3 0) fun t33 => stW 1 t33 (gv l16 0) (fun w34 => pu PG (binV .add T.t_int true (gv l3 0) (.int .i64 1)) fun t35 => N4 [t35] w34) w18)) w5) (R (.returned (.tuple #[])) w5)) w
theorem C_eq (R : Ending → World → Prop) (x0 : Value) (w : World) : fnW PG note 400 Tryz.f160 [x0] R w = C R x0 w := by kernel_rfl
theorem ok {R : Ending → World → Prop} {x0 : Value} {w : World} (h : C R x0 w) : Calls PG N.digest_table_fill #[x0] w R :=
  fnW_sound mixed Tryz.func160 (args := [x0]) (by rw [C_eq]; exact h)
end digest_table_fill
namespace digest_Digest_none
theorem okf : okFn PG N.digest_Digest_none = true := by kernel_rfl
def note : Note := ⟨[], []⟩
def C (R : Ending → World → Prop) (x0 : Value) (w : World) : Prop :=
  pu PG (binV .eql T.t_ptr_digest_Digest true x0 (.pointer none)) fun t3 => condV t3 (R (.returned (.bool true)) w) (nlW x0 fun t4 => faW 258 t4 fun t5 => ldW none t5 w fun t6 => pu PG (Op.unary .not t6) fun t7 => R (.returned t7) w)
theorem C_eq (R : Ending → World → Prop) (x0 : Value) (w : World) : fnW PG note 400 Tryz.f161 [x0] R w = C R x0 w := by kernel_rfl
theorem ok {R : Ending → World → Prop} {x0 : Value} {w : World} (h : C R x0 w) : Calls PG N.digest_Digest_none #[x0] w R :=
  fnW_sound mixed Tryz.func161 (args := [x0]) (by rw [C_eq]; exact h)
end digest_Digest_none
namespace digest_folded_uint64_byte
theorem okf : okFn PG N.digest_folded_uint64_byte = true := by kernel_rfl
def note : Note := ⟨[], [(0, [3, 5])]⟩
def rp0 : Array Tmp := #[10]
noncomputable def ra0 : Code := sub [1, 0, 1, 0, 0] (bodyOf Tryz.f162)
noncomputable def rb0 : Code := sub [1, 0, 1, 0, 1] (bodyOf Tryz.f162)
def C (R : Ending → World → Prop) (x0 x1 x2 : Value) (w : World) : Prop :=
  alW (Value.cells x0) T.t_uint64 (fun t2 w3 => alW (Value.cells x2) T.t_func_uint64_uint8_uint64 (fun t4 w5 => callW PG N.slices_Values_sl_byte_byte [x1] (fun t8 w9 => RangeW PG none 16 [(3, t2), (5, t4)] rp0 ra0 rb0 t8 (fun d10 w11 => ldW none t2 w11 fun t15 => LvW PG d10 .returning w11 (endV (fun w16 => R (.returned t15) w16) R)) (fun d10 w11 => LvW PG d10 .returning w11 (endV (fun w12 => R (.returned (.int .u64 0)) w12) R)) [] (fun c d10 w11 => LvW PG d10 (.panicking c) w11 (endV (fun w13 => R (.returned (.int .u64 0)) w13) R)) [] w9) (fun c w => R (.panicked c) w) w5) w3) w
theorem C_eq (R : Ending → World → Prop) (x0 x1 x2 : Value) (w : World) : fnW PG note 400 Tryz.f162 [x0, x1, x2] R w = C R x0 x1 x2 w := by kernel_rfl
theorem ok {R : Ending → World → Prop} {x0 x1 x2 : Value} {w : World} (h : C R x0 x1 x2 w) : Calls PG N.digest_folded_uint64_byte #[x0, x1, x2] w R :=
  fnW_sound mixed Tryz.func162 (args := [x0, x1, x2]) (by rw [C_eq]; exact h)
def Rd0 (l : Nat) (R : Value → World → Prop) (v3 v5 a0 : Value) (w : World) : Prop :=
  rBeg l (fun w17 => ldW none v5 w17 fun t18 => ldW none v3 w17 fun t19 => callV PG t18 [t19, a0] (fun t20 w21 => stW 1 v3 t20 (fun w22 => rEnd l none R w22) w21) (fun c w => False) w17) w
theorem Rd0_eq (l : Nat) (R : Value → World → Prop) (v3 v5 a0 : Value) (w : World) (u : S) : rndW PG note 16 400 l ra0 rb0 (pset [10] [a0] (ovrP [(3, v3), (5, v5)] u)) R w = Rd0 l R v3 v5 a0 w := by kernel_rfl
end digest_folded_uint64_byte
namespace digest_table_step
theorem okf : okFn PG N.digest_table_step = true := by kernel_rfl
def note : Note := ⟨[], []⟩
def C (R : Ending → World → Prop) (x0 x1 x2 : Value) (w : World) : Prop :=
  pu PG (convert T.t_uint64 T.t_uint8 x1) fun t3 => pu PG (binV .xor T.t_uint8 false t3 x2) fun t4 => nlW x0 fun t5 => ixA 256 1 t5 t4 fun t6 => ldW none t6 w fun t7 => pu PG (binV .shr T.t_uint64 true x1 (.int .u64 8)) fun t8 => pu PG (binV .xor T.t_uint64 false t7 t8) fun t9 => R (.returned t9) w
theorem C_eq (R : Ending → World → Prop) (x0 x1 x2 : Value) (w : World) : fnW PG note 400 Tryz.f163 [x0, x1, x2] R w = C R x0 x1 x2 w := by kernel_rfl
theorem ok {R : Ending → World → Prop} {x0 x1 x2 : Value} {w : World} (h : C R x0 x1 x2 w) : Calls PG N.digest_table_step #[x0, x1, x2] w R :=
  fnW_sound mixed Tryz.func163 (args := [x0, x1, x2]) (by rw [C_eq]; exact h)
end digest_table_step
namespace slices_Values_sl_byte_byte
theorem okf : okFn PG N.slices_Values_sl_byte_byte = true := by kernel_rfl
def note : Note := ⟨[], []⟩
def C (R : Ending → World → Prop) (x0 : Value) (w : World) : Prop :=
  alW (Value.cells x0) T.t_sl_uint8 (fun t2 w3 => R (.returned (.func (.func N.slices_Values_sl_byte_byte_1) #[] #[t2])) w3) w
theorem C_eq (R : Ending → World → Prop) (x0 : Value) (w : World) : fnW PG note 400 Tryz.f197 [x0] R w = C R x0 w := by kernel_rfl
theorem ok {R : Ending → World → Prop} {x0 : Value} {w : World} (h : C R x0 w) : Calls PG N.slices_Values_sl_byte_byte #[x0] w R :=
  fnW_sound mixed Tryz.func197 (args := [x0]) (by rw [C_eq]; exact h)
end slices_Values_sl_byte_byte
namespace slices_Values_sl_byte_byte_1
theorem okf : okFn PG N.slices_Values_sl_byte_byte_1 = true := by kernel_rfl
def note : Note := ⟨[(0, [7])], []⟩
def C (R : Ending → World → Prop) (x0 x1 : Value) (w : World) : Prop :=
  ldW none x1 w fun t2 => lnS t2 fun t3 => LoopW [(.int .i64 0)] (fun l5 N6 w7 => ∀ j4 : S, pu PG (binV .lss T.t_int false (gv l5 0) t3) fun t9 => condV t9 (ixS 1 t2 (gv l5 0) fun t13 => ldW none t13 w7 fun t14 => callV PG x0 [t14] (fun t16 w17 => pu PG (Op.unary .not t16) fun t18 => condV t18 (R (.returned (.tuple #[])) w17) (pu PG (binV .add T.t_int true (gv l5 0) (.int .i64 1)) fun t19 => N6 [t19] w17)) (fun c w => R (.panicked c) w) w7) (R (.returned (.tuple #[])) w7)) w
theorem C_eq (R : Ending → World → Prop) (x0 x1 : Value) (w : World) : fnW PG note 400 Tryz.f227 [x0, x1] R w = C R x0 x1 w := by kernel_rfl
theorem ok {R : Ending → World → Prop} {x0 x1 : Value} {w : World} (h : C R x0 x1 w) : Calls PG N.slices_Values_sl_byte_byte_1 #[x0, x1] w R :=
  fnW_sound mixed Tryz.func227 (args := [x0, x1]) (by rw [C_eq]; exact h)
end slices_Values_sl_byte_byte_1
end Go.Proofs.YtkkkcafkepnecaaGreat
