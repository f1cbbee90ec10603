/- Conditions of functions, printed by a program of this session (gen.py) and checked by the kernel. -/
import Derived.Test.YtkkkcafkepnecaaGreatVnN
set_option linter.unusedVariables false
namespace Go.Proofs.YtkkkcafkepnecaaGreat
open Go Go.RowKit Vc
namespace fiber_Fiber_stores
theorem okf : okFn PG N.fiber_Fiber_stores = true := by kernel_rfl
def note : Note := ⟨[], []⟩
def C (R : Ending → World → Prop) (x0 x1 x2 : Value) (w : World) : Prop :=
  alW (Value.cells x1) T.t_api_Ins (fun t2 w3 => ∃ H4 : World → Prop, H4 (World.drew w3) ∧ (nlW x0 fun t5 => faW 0 t5 fun t6 => faW 0 t6 fun t7 => ldS none t7 H4 fun t8 => faW 1 t2 fun t9 => ldS none t9 H4 fun t10 => nlW x0 fun t11 => faW 0 t11 fun t12 => faW 0 t12 fun t13 => ldS none t13 H4 fun t14 => faW 2 t2 fun t15 => ldS none t15 H4 fun t16 => callW PG N.stack_Stack_Reg [t8, t10] (fun t17 w18 => H4 w18 ∧ (callW PG N.stack_Stack_Reg [t14, t16] (fun t19 w20 => nlW x2 fun t21 => faW 0 t21 fun t22 => stW 1 t22 (.int .i64 3) (fun w23 => nlW x2 fun t24 => faW 3 t24 fun t25 => stW 1 t25 t17 (fun w26 => nlW x2 fun t27 => faW 4 t27 fun t28 => stW 1 t28 t19 (fun w29 => R (.returned (.tuple #[])) w29) w26) w23) w20) (fun c w => ∀ s30 : S, R (.panicked c) w) w18)) (fun c w => ∀ s31 : S, R (.panicked c) w) (World.drew w3))) w
theorem C_eq (R : Ending → World → Prop) (x0 x1 x2 : Value) (w : World) : fnW PG note 400 Tryz.f142 [x0, x1, x2] R w = C R x0 x1 x2 w := by kernel_rfl
theorem ok {R : Ending → World → Prop} {x0 x1 x2 : Value} {w : World} (h : C R x0 x1 x2 w) : Calls PG N.fiber_Fiber_stores #[x0, x1, x2] w R :=
  fnW_sound mixed Tryz.func142 (args := [x0, x1, x2]) (by rw [C_eq]; exact h)
end fiber_Fiber_stores
namespace fiber_Fiber_begins
theorem okf : okFn PG N.fiber_Fiber_begins = true := by kernel_rfl
def note : Note := ⟨[], []⟩
def C (R : Ending → World → Prop) (x0 x1 x2 : Value) (w : World) : Prop :=
  alW (Value.cells x1) T.t_api_Ins (fun t2 w3 => ∃ H4 : World → Prop, H4 (World.drew w3) ∧ (faW 4 t2 fun t5 => ldS none t5 H4 fun t6 => pu PG (convert T.t_uint32 T.t_int t6) fun t7 => faW 2 t2 fun t8 => ldW none t8 (World.drew w3) fun t9 => faW 3 t2 fun t10 => ldW none t10 (World.drew w3) fun t11 => nlW x0 fun t12 => faW 0 t12 fun t13 => faW 0 t13 fun t14 => ldW none t14 (World.drew w3) fun t15 => callW PG N.fiber_gathered_uint32 [t9, t11, (.func (.func N.stack_Stack_Reg) #[t15] #[])] (fun t16 w17 => H4 w17 ∧ (nlW x2 fun t18 => faW 0 t18 fun t19 => stW 1 t19 (.int .i64 4) (fun w20 => H4 w20 ∧ (nlW x2 fun t21 => faW 7 t21 fun t22 => stW 1 t22 t7 (fun w23 => nlW x2 fun t24 => faW 8 t24 fun t25 => stW 1 t25 t16 (fun w26 => R (.returned (.tuple #[])) w26) w23) w20)) w17)) (fun c w => ∀ s27 : S, R (.panicked c) w) (World.drew w3))) w
theorem C_eq (R : Ending → World → Prop) (x0 x1 x2 : Value) (w : World) : fnW PG note 400 Tryz.f143 [x0, x1, x2] R w = C R x0 x1 x2 w := by kernel_rfl
theorem ok {R : Ending → World → Prop} {x0 x1 x2 : Value} {w : World} (h : C R x0 x1 x2 w) : Calls PG N.fiber_Fiber_begins #[x0, x1, x2] w R :=
  fnW_sound mixed Tryz.func143 (args := [x0, x1, x2]) (by rw [C_eq]; exact h)
end fiber_Fiber_begins
namespace fiber_Fiber_counts
theorem okf : okFn PG N.fiber_Fiber_counts = true := by kernel_rfl
def note : Note := ⟨[], []⟩
def C (R : Ending → World → Prop) (x0 x1 x2 : Value) (w : World) : Prop :=
  alW (Value.cells x1) T.t_api_Ins (fun t2 w3 => ∃ H4 : World → Prop, H4 (World.drew w3) ∧ (nlW x0 fun t5 => faW 0 t5 fun t6 => faW 0 t6 fun t7 => ldS none t7 H4 fun t8 => faW 1 t2 fun t9 => ldS none t9 H4 fun t10 => nlW x0 fun t11 => faW 0 t11 fun t12 => faW 0 t12 fun t13 => ldS none t13 H4 fun t14 => faW 2 t2 fun t15 => ldS none t15 H4 fun t16 => callW PG N.stack_Stack_Reg [t8, t10] (fun t17 w18 => H4 w18 ∧ (callW PG N.stack_Stack_Reg [t14, t16] (fun t19 w20 => callW PG N.arith_Signed [t19] (fun t21 w22 => nlW x2 fun t23 => faW 0 t23 fun t24 => stW 1 t24 (.int .i64 11) (fun w25 => nlW x2 fun t26 => faW 5 t26 fun t27 => stW 1 t27 t17 (fun w28 => nlW x2 fun t29 => faW 6 t29 fun t30 => stW 1 t30 t21 (fun w31 => R (.returned (.tuple #[])) w31) w28) w25) w22) (fun c w => ∀ s32 : S, R (.panicked c) w) w20) (fun c w => ∀ s33 : S, R (.panicked c) w) w18)) (fun c w => ∀ s34 : S, R (.panicked c) w) (World.drew w3))) w
theorem C_eq (R : Ending → World → Prop) (x0 x1 x2 : Value) (w : World) : fnW PG note 400 Tryz.f144 [x0, x1, x2] R w = C R x0 x1 x2 w := by kernel_rfl
theorem ok {R : Ending → World → Prop} {x0 x1 x2 : Value} {w : World} (h : C R x0 x1 x2 w) : Calls PG N.fiber_Fiber_counts #[x0, x1, x2] w R :=
  fnW_sound mixed Tryz.func144 (args := [x0, x1, x2]) (by rw [C_eq]; exact h)
end fiber_Fiber_counts
namespace fiber_Fiber_shares
theorem okf : okFn PG N.fiber_Fiber_shares = true := by kernel_rfl
def note : Note := ⟨[], []⟩
def C (R : Ending → World → Prop) (x0 x1 x2 : Value) (w : World) : Prop :=
  alW (Value.cells x1) T.t_api_Ins (fun t2 w3 => ∃ H4 : World → Prop, H4 (World.drew w3) ∧ (faW 0 t2 fun t5 => ldS none t5 H4 fun t6 => pu PG (binV .sub T.t_api_Op true t6 (.int .i64 11)) fun t7 => nlW x0 fun t8 => faW 0 t8 fun t9 => faW 0 t9 fun t10 => ldS none t10 H4 fun t11 => faW 1 t2 fun t12 => ldS none t12 H4 fun t13 => callW PG N.fiber_shared [] (fun t14 w15 => H4 w15 ∧ (ixV 8 1 false t14 t7 fun t16 => callW PG N.stack_Stack_Reg [t11, t13] (fun t17 w18 => H4 w18 ∧ (nlW x2 fun t19 => faW 0 t19 fun t20 => stW 1 t20 t16 (fun w21 => nlW x2 fun t22 => faW 5 t22 fun t23 => stW 1 t23 t17 (fun w24 => R (.returned (.tuple #[])) w24) w21) w18)) (fun c w => ∀ s25 : S, R (.panicked c) w) w15)) (fun c w => ∀ s26 : S, R (.panicked c) w) (World.drew w3))) w
theorem C_eq (R : Ending → World → Prop) (x0 x1 x2 : Value) (w : World) : fnW PG note 400 Tryz.f145 [x0, x1, x2] R w = C R x0 x1 x2 w := by kernel_rfl
theorem ok {R : Ending → World → Prop} {x0 x1 x2 : Value} {w : World} (h : C R x0 x1 x2 w) : Calls PG N.fiber_Fiber_shares #[x0, x1, x2] w R :=
  fnW_sound mixed Tryz.func145 (args := [x0, x1, x2]) (by rw [C_eq]; exact h)
end fiber_Fiber_shares
namespace fiber_every_1
theorem okf : okFn PG N.fiber_every_1 = true := by kernel_rfl
def note : Note := ⟨[(0, [4])], []⟩
def C (R : Ending → World → Prop) (x0 x1 x2 : Value) (w : World) : Prop :=
  LoopW [(.int .i64 0)] (fun l3 N4 w5 => ∀ j2 : S, ldW none x1 w5 fun t8 => pu PG (binV .lss T.t_int false (gv l3 0) t8) fun t9 => condV t9 (ldW none x2 w5 fun t12 => callW PG N.fiber_Fiber_Want [t12] (fun t13 w14 => exW 0 t13 fun t15 => exW 1 t13 fun t16 => alW (zc PG T.t_api_Want) T.t_api_Want (fun t17 w18 => stW 10 t17 t15 (fun w19 => pu PG (Op.unary .not t16) fun t21 => condV t21 (R (.returned (.tuple #[])) w19) (ldW (some 10) t17 w19 fun t22 => callV PG x0 [(gv l3 0), t22] (fun t23 w24 => pu PG (Op.unary .not t23) fun t25 => condV t25 (R (.returned (.tuple #[])) w24) (ldW none x2 w24 fun t26 => callW PG N.fiber_Fiber_Do [t26, (.int .u32 0)] (fun t27 w28 => pu PG (binV .neq T.t_api_Errno true t27 (.int .i64 0)) fun t29 => condV t29 (R (.returned (.tuple #[])) w28) (pu PG (binV .add T.t_int true (gv l3 0) (.int .i64 1)) fun t30 => N4 [t30] w28)) (fun c w => R (.panicked c) w) w24)) (fun c w => R (.panicked c) w) w19)) w18) w14) (fun c w => R (.panicked c) w) w5) (R (.returned (.tuple #[])) w5)) w
theorem C_eq (R : Ending → World → Prop) (x0 x1 x2 : Value) (w : World) : fnW PG note 400 Tryz.f146 [x0, x1, x2] R w = C R x0 x1 x2 w := by kernel_rfl
theorem ok {R : Ending → World → Prop} {x0 x1 x2 : Value} {w : World} (h : C R x0 x1 x2 w) : Calls PG N.fiber_every_1 #[x0, x1, x2] w R :=
  fnW_sound mixed Tryz.func146 (args := [x0, x1, x2]) (by rw [C_eq]; exact h)
end fiber_every_1
namespace program_within
theorem okf : okFn PG N.program_within = true := by kernel_rfl
def note : Note := ⟨[], []⟩
def C (R : Ending → World → Prop) (x0 : Value) (w : World) : Prop :=
  callW PG N.program_all_program_bound [(.func (.func N.program_within_1) #[] #[]), x0] (fun t3 w4 => R (.returned t3) w4) (fun c w => R (.panicked c) w) w
theorem C_eq (R : Ending → World → Prop) (x0 : Value) (w : World) : fnW PG note 400 Tryz.f147 [x0] R w = C R x0 w := by kernel_rfl
theorem ok {R : Ending → World → Prop} {x0 : Value} {w : World} (h : C R x0 w) : Calls PG N.program_within #[x0] w R :=
  fnW_sound mixed Tryz.func147 (args := [x0]) (by rw [C_eq]; exact h)
end program_within
namespace program_every
theorem okf : okFn PG N.program_every = true := by kernel_rfl
def note : Note := ⟨[], []⟩
def C (R : Ending → World → Prop) (x0 : Value) (w : World) : Prop :=
  alW (Value.cells x0) T.t_api_Program (fun t2 w3 => R (.returned (.func (.func N.program_every_1) #[] #[t2])) w3) w
theorem C_eq (R : Ending → World → Prop) (x0 : Value) (w : World) : fnW PG note 400 Tryz.f148 [x0] R w = C R x0 w := by kernel_rfl
theorem ok {R : Ending → World → Prop} {x0 : Value} {w : World} (h : C R x0 w) : Calls PG N.program_every #[x0] w R :=
  fnW_sound mixed Tryz.func148 (args := [x0]) (by rw [C_eq]; exact h)
end program_every
namespace program_place_fine
theorem okf : okFn PG N.program_place_fine = true := by kernel_rfl
def note : Note := ⟨[(0, [14])], []⟩
def C (R : Ending → World → Prop) (x0 : Value) (w : World) : Prop :=
  alW (Value.cells x0) T.t_program_place (fun t2 w3 => ldW (some 7) t2 w3 fun t6 => ldW (some 7) t2 w3 fun t7 => ldW (some 7) t2 w3 fun t8 => ldW (some 7) t2 w3 fun t9 => pu PG (Instr.build T.t_4_func_bool #[(0, (.func (.func N.program_place_fits) #[t6] #[])), (1, (.func (.func N.program_place_jumps) #[t7] #[])), (2, (.func (.func N.program_place_calls) #[t8] #[])), (3, (.func (.func N.program_place_ends) #[t9] #[]))]) fun t10 => LoopW [(.int .i64 0)] (fun l12 N13 w14 => ∀ j11 : S, pu PG (binV .lss T.t_int true (gv l12 0) (.int .i64 4)) fun t16 => condV t16 (ixV 4 1 false t10 (gv l12 0) fun t20 => callV PG t20 [] (fun t22 w23 => pu PG (Op.unary .not t22) fun t24 => condV t24 (R (.returned (.bool false)) w23) (pu PG (binV .add T.t_int true (gv l12 0) (.int .i64 1)) fun t26 => N13 [t26] w23)) (fun c w => R (.panicked c) w) w14) (R (.returned (.bool true)) w14)) w3) w
theorem C_eq (R : Ending → World → Prop) (x0 : Value) (w : World) : fnW PG note 400 Tryz.f149 [x0] R w = C R x0 w := by kernel_rfl
theorem ok {R : Ending → World → Prop} {x0 : Value} {w : World} (h : C R x0 w) : Calls PG N.program_place_fine #[x0] w R :=
  fnW_sound mixed Tryz.func149 (args := [x0]) (by rw [C_eq]; exact h)
end program_place_fine
namespace image_must
theorem okf : okFn PG N.image_must = true := by kernel_rfl
def note : Note := ⟨[], []⟩
def C (R : Ending → World → Prop) (x0 x1 : Value) (w : World) : Prop :=
  pu PG (Op.unary .not x0) fun t2 => condV t2 (R (.panicked [{ v := (.iface T.t_api_Errno x1), recovered := false }]) w) (R (.returned (.tuple #[])) w)
theorem C_eq (R : Ending → World → Prop) (x0 x1 : Value) (w : World) : fnW PG note 400 Tryz.f150 [x0, x1] R w = C R x0 x1 w := by kernel_rfl
theorem ok {R : Ending → World → Prop} {x0 x1 : Value} {w : World} (h : C R x0 x1 w) : Calls PG N.image_must #[x0, x1] w R :=
  fnW_sound mixed Tryz.func150 (args := [x0, x1]) (by rw [C_eq]; exact h)
end image_must
namespace image_reader_byte
theorem okf : okFn PG N.image_reader_byte = true := by kernel_rfl
def note : Note := ⟨[], []⟩
def C (R : Ending → World → Prop) (x0 : Value) (w : World) : Prop :=
  callW PG N.image_reader_number [x0, (.int .i64 1)] (fun t3 w4 => pu PG (convert T.t_uint64 T.t_int t3) fun t5 => R (.returned t5) w4) (fun c w => R (.panicked c) w) w
theorem C_eq (R : Ending → World → Prop) (x0 : Value) (w : World) : fnW PG note 400 Tryz.f151 [x0] R w = C R x0 w := by kernel_rfl
theorem ok {R : Ending → World → Prop} {x0 : Value} {w : World} (h : C R x0 w) : Calls PG N.image_reader_byte #[x0] w R :=
  fnW_sound mixed Tryz.func151 (args := [x0]) (by rw [C_eq]; exact h)
end image_reader_byte
namespace image_reader_number
theorem okf : okFn PG N.image_reader_number = true := by kernel_rfl
def note : Note := ⟨[], []⟩
def C (R : Ending → World → Prop) (x0 x1 : Value) (w : World) : Prop :=
  ∃ H3 : World → Prop, H3 (World.drew w) ∧ (nlW x0 fun t4 => faW 0 t4 fun t5 => ldS (some 1) t5 H3 fun t6 => nlW x0 fun t7 => faW 1 t7 fun t8 => ldS none t8 H3 fun t9 => callW PG N.image_tape_from [t6, t9] (fun t10 w11 => callW PG N.octet_ReadFixed [t10, x1] (fun t12 w13 => exW 0 t12 fun t14 => exW 1 t12 fun t15 => pu PG (binV .eql T.t_api_Errno true t15 (.int .i64 0)) fun t19 => callW PG N.image_must [t19, t15] (fun t20 w21 => nlW x0 fun t23 => faW 1 t23 fun t24 => ldW none t24 w21 fun t25 => pu PG (binV .add T.t_int false t25 x1) fun t26 => nlW x0 fun t27 => faW 1 t27 fun t28 => stW 1 t28 t26 (fun w29 => R (.returned t14) w29) w21) (fun c w => R (.panicked c) w) w13) (fun c w => ∀ s16 : S, R (.panicked c) w) w11) (fun c w => ∀ s17 : S, R (.panicked c) w) (World.drew w))
theorem C_eq (R : Ending → World → Prop) (x0 x1 : Value) (w : World) : fnW PG note 400 Tryz.f152 [x0, x1] R w = C R x0 x1 w := by kernel_rfl
theorem ok {R : Ending → World → Prop} {x0 x1 : Value} {w : World} (h : C R x0 x1 w) : Calls PG N.image_reader_number #[x0, x1] w R :=
  fnW_sound mixed Tryz.func152 (args := [x0, x1]) (by rw [C_eq]; exact h)
end image_reader_number
namespace image_reader_ins
theorem okf : okFn PG N.image_reader_ins = true := by kernel_rfl
def note : Note := ⟨[], []⟩
def C (R : Ending → World → Prop) (x0 : Value) (w : World) : Prop :=
  alW (zc PG T.t_api_Ins) T.t_api_Ins (fun t2 w3 => ∃ H5 : World → Prop, H5 (World.drew w3) ∧ (nlW x0 fun t6 => faW 0 t6 fun t7 => ldS (some 1) t7 H5 fun t8 => nlW x0 fun t9 => faW 1 t9 fun t10 => ldS none t10 H5 fun t11 => (callW PG N.image_tape_from [t8, t11] (fun t12 w13 => (callW PG N.instr_Read [t12] (fun t14 w15 => exW 0 t14 fun t16 => exW 1 t14 fun t17 => exW 2 t14 fun t18 => alW (zc PG T.t_api_Ins) T.t_api_Ins (fun t19 w20 => H5 w20 ∧ (stW 5 t19 t16 (fun w21 => pu PG (binV .neq T.t_api_Errno true t18 (.int .i64 180)) fun t46 => callW PG N.image_must [t46, (.int .i64 200)] (fun t47 w48 => pu PG (binV .eql T.t_api_Errno true t18 (.int .i64 0)) fun t50 => callW PG N.image_must [t50, t18] (fun t51 w52 => nlW x0 fun t54 => faW 1 t54 fun t55 => ldW none t55 w52 fun t56 => pu PG (binV .add T.t_int false t56 t17) fun t57 => nlW x0 fun t58 => faW 1 t58 fun t59 => stW 1 t59 t57 (fun w60 => ldW (some 5) t19 w60 fun t62 => stW 5 t2 t62 (fun w63 => ldW (some 5) t2 w63 fun t64 => R (.returned t64) w63) w60) w52) (fun c w => R (.panicked c) w) w48) (fun c w => R (.panicked c) w) w21) w20)) w15) (fun c w => ∀ s22 : S, R (.panicked c) w) w13) ∧ (alW (zc PG T.t_api_Ins) T.t_api_Ins (fun t23 w24 => H5 w24 ∧ (callW PG N.instr_Read [t12] (fun t25 w26 => exW 0 t25 fun t27 => exW 1 t25 fun t28 => exW 2 t25 fun t29 => stW 5 t23 t27 (fun w30 => pu PG (binV .neq T.t_api_Errno true t29 (.int .i64 180)) fun t66 => callW PG N.image_must [t66, (.int .i64 200)] (fun t67 w68 => pu PG (binV .eql T.t_api_Errno true t29 (.int .i64 0)) fun t70 => callW PG N.image_must [t70, t29] (fun t71 w72 => nlW x0 fun t74 => faW 1 t74 fun t75 => ldW none t75 w72 fun t76 => pu PG (binV .add T.t_int false t76 t28) fun t77 => nlW x0 fun t78 => faW 1 t78 fun t79 => stW 1 t79 t77 (fun w80 => ldW (some 5) t23 w80 fun t82 => stW 5 t2 t82 (fun w83 => ldW (some 5) t2 w83 fun t84 => R (.returned t84) w83) w80) w72) (fun c w => R (.panicked c) w) w68) (fun c w => R (.panicked c) w) w30) w26) (fun c w => ∀ s31 : S, R (.panicked c) w) w24)) w13)) (fun c w => ∀ s32 : S, R (.panicked c) w) (World.drew w3)) ∧ (alW (zc PG T.t_api_Ins) T.t_api_Ins (fun t33 w34 => H5 w34 ∧ (callW PG N.image_tape_from [t8, t11] (fun t35 w36 => callW PG N.instr_Read [t35] (fun t37 w38 => exW 0 t37 fun t39 => exW 1 t37 fun t40 => exW 2 t37 fun t41 => stW 5 t33 t39 (fun w42 => pu PG (binV .neq T.t_api_Errno true t41 (.int .i64 180)) fun t86 => callW PG N.image_must [t86, (.int .i64 200)] (fun t87 w88 => pu PG (binV .eql T.t_api_Errno true t41 (.int .i64 0)) fun t90 => callW PG N.image_must [t90, t41] (fun t91 w92 => nlW x0 fun t94 => faW 1 t94 fun t95 => ldW none t95 w92 fun t96 => pu PG (binV .add T.t_int false t96 t40) fun t97 => nlW x0 fun t98 => faW 1 t98 fun t99 => stW 1 t99 t97 (fun w100 => ldW (some 5) t33 w100 fun t102 => stW 5 t2 t102 (fun w103 => ldW (some 5) t2 w103 fun t104 => R (.returned t104) w103) w100) w92) (fun c w => R (.panicked c) w) w88) (fun c w => R (.panicked c) w) w42) w38) (fun c w => ∀ s43 : S, R (.panicked c) w) w36) (fun c w => ∀ s44 : S, R (.panicked c) w) w34)) (World.drew w3)))) w
theorem C_eq (R : Ending → World → Prop) (x0 : Value) (w : World) : fnW PG note 400 Tryz.f153 [x0] R w = C R x0 w := by kernel_rfl
theorem ok {R : Ending → World → Prop} {x0 : Value} {w : World} (h : C R x0 w) : Calls PG N.image_reader_ins #[x0] w R :=
  fnW_sound mixed Tryz.func153 (args := [x0]) (by rw [C_eq]; exact h)
end image_reader_ins
namespace octet_right
theorem okf : okFn PG N.octet_right = true := by kernel_rfl
def note : Note := ⟨[], []⟩
def C (R : Ending → World → Prop) (x0 : Value) (w : World) : Prop :=
  callW PG N.octet_widths [] (fun t3 w4 => alW (zc PG T.t_4_int) T.t_4_int (fun t5 w6 => stW 4 t5 t3 (fun w7 => pu PG (Instr.sliceAt T.t_4_int t5 none none none) fun t9 => callW PG N.octet_among_int [x0, t9] (fun t10 w11 => R (.returned t10) w11) (fun c w => R (.panicked c) w) w7) w6) w4) (fun c w => R (.panicked c) w) w
theorem C_eq (R : Ending → World → Prop) (x0 : Value) (w : World) : fnW PG note 400 Tryz.f154 [x0] R w = C R x0 w := by kernel_rfl
theorem ok {R : Ending → World → Prop} {x0 : Value} {w : World} (h : C R x0 w) : Calls PG N.octet_right #[x0] w R :=
  fnW_sound mixed Tryz.func154 (args := [x0]) (by rw [C_eq]; exact h)
end octet_right
namespace instr_first
theorem okf : okFn PG N.instr_first = true := by kernel_rfl
def note : Note := ⟨[], []⟩
def C (R : Ending → World → Prop) (w : World) : Prop :=
  alW (zc PG T.t_instr_part) T.t_instr_part (fun t2 w3 => pu PG (Instr.build T.t_instr_part #[(0, (.int .i64 1)), (1, (.string (bs [114]))), (2, (.func (.func N.instr_first_1) #[] #[])), (3, (.func (.func N.instr_first_2) #[] #[]))]) fun t5 => stW 4 t2 t5 (fun w6 => ldW (some 4) t2 w6 fun t7 => R (.returned t7) w6) w3) w
theorem C_eq (R : Ending → World → Prop) (w : World) : fnW PG note 400 Tryz.f155 [] R w = C R  w := by kernel_rfl
theorem ok {R : Ending → World → Prop} {w : World} (h : C R  w) : Calls PG N.instr_first #[] w R :=
  fnW_sound mixed Tryz.func155 (args := []) (by rw [C_eq]; exact h)
end instr_first
namespace instr_second
theorem okf : okFn PG N.instr_second = true := by kernel_rfl
def note : Note := ⟨[], []⟩
def C (R : Ending → World → Prop) (w : World) : Prop :=
  alW (zc PG T.t_instr_part) T.t_instr_part (fun t2 w3 => pu PG (Instr.build T.t_instr_part #[(0, (.int .i64 1)), (1, (.string (bs [114]))), (2, (.func (.func N.instr_second_1) #[] #[])), (3, (.func (.func N.instr_second_2) #[] #[]))]) fun t5 => stW 4 t2 t5 (fun w6 => ldW (some 4) t2 w6 fun t7 => R (.returned t7) w6) w3) w
theorem C_eq (R : Ending → World → Prop) (w : World) : fnW PG note 400 Tryz.f156 [] R w = C R  w := by kernel_rfl
theorem ok {R : Ending → World → Prop} {w : World} (h : C R  w) : Calls PG N.instr_second #[] w R :=
  fnW_sound mixed Tryz.func156 (args := []) (by rw [C_eq]; exact h)
end instr_second
namespace instr_imm
theorem okf : okFn PG N.instr_imm = true := by kernel_rfl
def note : Note := ⟨[], []⟩
def C (R : Ending → World → Prop) (x0 : Value) (w : World) : Prop :=
  alW (zc PG T.t_instr_part) T.t_instr_part (fun t2 w3 => pu PG (Instr.build T.t_instr_part #[(0, (.int .i64 4)), (1, x0), (2, (.func (.func N.instr_imm_1) #[] #[])), (3, (.func (.func N.instr_imm_2) #[] #[]))]) fun t5 => stW 4 t2 t5 (fun w6 => ldW (some 4) t2 w6 fun t7 => R (.returned t7) w6) w3) w
theorem C_eq (R : Ending → World → Prop) (x0 : Value) (w : World) : fnW PG note 400 Tryz.f157 [x0] R w = C R x0 w := by kernel_rfl
theorem ok {R : Ending → World → Prop} {x0 : Value} {w : World} (h : C R x0 w) : Calls PG N.instr_imm #[x0] w R :=
  fnW_sound mixed Tryz.func157 (args := [x0]) (by rw [C_eq]; exact h)
end instr_imm
namespace instr_third
theorem okf : okFn PG N.instr_third = true := by kernel_rfl
def note : Note := ⟨[], []⟩
def C (R : Ending → World → Prop) (w : World) : Prop :=
  alW (zc PG T.t_instr_part) T.t_instr_part (fun t2 w3 => pu PG (Instr.build T.t_instr_part #[(0, (.int .i64 1)), (1, (.string (bs [114]))), (2, (.func (.func N.instr_third_1) #[] #[])), (3, (.func (.func N.instr_third_2) #[] #[]))]) fun t5 => stW 4 t2 t5 (fun w6 => ldW (some 4) t2 w6 fun t7 => R (.returned t7) w6) w3) w
theorem C_eq (R : Ending → World → Prop) (w : World) : fnW PG note 400 Tryz.f158 [] R w = C R  w := by kernel_rfl
theorem ok {R : Ending → World → Prop} {w : World} (h : C R  w) : Calls PG N.instr_third #[] w R :=
  fnW_sound mixed Tryz.func158 (args := []) (by rw [C_eq]; exact h)
end instr_third
namespace instr_many
theorem okf : okFn PG N.instr_many = true := by kernel_rfl
def note : Note := ⟨[], []⟩
def C (R : Ending → World → Prop) (w : World) : Prop :=
  alW (zc PG T.t_instr_part) T.t_instr_part (fun t2 w3 => callW PG N.instr_third [] (fun t5 w6 => alW (zc PG T.t_instr_part) T.t_instr_part (fun t7 w8 => stW 4 t7 t5 (fun w9 => faW 1 t7 fun t11 => stW 1 t11 (.string (bs [])) (fun w12 => ldW (some 4) t7 w12 fun t14 => stW 4 t2 t14 (fun w15 => ldW (some 4) t2 w15 fun t16 => R (.returned t16) w15) w12) w9) w8) w6) (fun c w => R (.panicked c) w) w3) w
theorem C_eq (R : Ending → World → Prop) (w : World) : fnW PG note 400 Tryz.f159 [] R w = C R  w := by kernel_rfl
theorem ok {R : Ending → World → Prop} {w : World} (h : C R  w) : Calls PG N.instr_many #[] w R :=
  fnW_sound mixed Tryz.func159 (args := []) (by rw [C_eq]; exact h)
end instr_many
namespace digest_table_fill
theorem okf : okFn PG N.digest_table_fill = true := by kernel_rfl
def note : Note := ⟨[(0, [5]), (2, [3, 10])], []⟩
def C (R : Ending → World → Prop) (x0 : Value) (w : World) : Prop :=
  LoopW [(.int .i64 0)] (fun l3 N4 w5 => ∀ j2 : S, pu PG (binV .lss T.t_int true (gv l3 0) (.int .i64 256)) fun t7 => condV t7 (pu PG (convert T.t_int T.t_uint64 (gv l3 0)) fun t12 => LoopW [t12, (.int .i64 0)] (fun l16 N17 w18 => ∀ j15 : S, pu PG (binV .lss T.t_int true (gv l16 1) (.int .i64 8)) fun t20 => condV t20 (pu PG (binV .and T.t_uint64 true (gv l16 0) (.int .u64 1)) fun t24 => pu PG (binV .shr T.t_uint64 true (gv l16 0) (.int .u64 1)) fun t26 => pu PG (binV .eql T.t_uint64 true t24 (.int .u64 1)) fun t28 => condV t28 (pu PG (binV .xor T.t_uint64 true t26 (.int .u64 14514072000185962306)) fun t29 => pu PG (binV .add T.t_int true (gv l16 1) (.int .i64 1)) fun t30 => N17 [t29, t30] w18) (pu PG (binV .add T.t_int true (gv l16 1) (.int .i64 1)) fun t31 => N17 [t26, t31] w18)) (nlW x0 fun t32 => ixA 256 1 t32 (gv l3 0) fun t33 => stW 1 t33 (gv l16 0) (fun w34 => pu PG (binV .add T.t_int true (gv l3 0) (.int .i64 1)) fun t35 => N4 [t35] w34) w18)) w5) (R (.returned (.tuple #[])) w5)) w
theorem C_eq (R : Ending → World → Prop) (x0 : Value) (w : World) : fnW PG note 400 Tryz.f160 [x0] R w = C R x0 w := by kernel_rfl
theorem ok {R : Ending → World → Prop} {x0 : Value} {w : World} (h : C R x0 w) : Calls PG N.digest_table_fill #[x0] w R :=
  fnW_sound mixed Tryz.func160 (args := [x0]) (by rw [C_eq]; exact h)
end digest_table_fill
namespace digest_Digest_none
theorem okf : okFn PG N.digest_Digest_none = true := by kernel_rfl
def note : Note := ⟨[], []⟩
def C (R : Ending → World → Prop) (x0 : Value) (w : World) : Prop :=
  pu PG (binV .eql T.t_ptr_digest_Digest true x0 (.pointer none)) fun t3 => condV t3 (R (.returned (.bool true)) w) (nlW x0 fun t4 => faW 258 t4 fun t5 => ldW none t5 w fun t6 => pu PG (Op.unary .not t6) fun t7 => R (.returned t7) w)
theorem C_eq (R : Ending → World → Prop) (x0 : Value) (w : World) : fnW PG note 400 Tryz.f161 [x0] R w = C R x0 w := by kernel_rfl
theorem ok {R : Ending → World → Prop} {x0 : Value} {w : World} (h : C R x0 w) : Calls PG N.digest_Digest_none #[x0] w R :=
  fnW_sound mixed Tryz.func161 (args := [x0]) (by rw [C_eq]; exact h)
end digest_Digest_none
namespace digest_folded_uint64_byte
theorem okf : okFn PG N.digest_folded_uint64_byte = true := by kernel_rfl
def note : Note := ⟨[], [(0, [3, 5])]⟩
def rp0 : Array Tmp := #[10]
noncomputable def ra0 : Code := sub [1, 0, 1, 0, 0] (bodyOf Tryz.f162)
noncomputable def rb0 : Code := sub [1, 0, 1, 0, 1] (bodyOf Tryz.f162)
def C (R : Ending → World → Prop) (x0 x1 x2 : Value) (w : World) : Prop :=
  alW (Value.cells x0) T.t_uint64 (fun t2 w3 => alW (Value.cells x2) T.t_func_uint64_uint8_uint64 (fun t4 w5 => callW PG N.slices_Values_sl_byte_byte [x1] (fun t8 w9 => RangeW PG none 16 [(3, t2), (5, t4)] rp0 ra0 rb0 t8 (fun d10 w11 => ldW none t2 w11 fun t15 => LvW PG d10 .returning w11 (endV (fun w16 => R (.returned t15) w16) R)) (fun d10 w11 => LvW PG d10 .returning w11 (endV (fun w12 => R (.returned (.int .u64 0)) w12) R)) [] (fun c d10 w11 => LvW PG d10 (.panicking c) w11 (endV (fun w13 => R (.returned (.int .u64 0)) w13) R)) [] w9) (fun c w => R (.panicked c) w) w5) w3) w
theorem C_eq (R : Ending → World → Prop) (x0 x1 x2 : Value) (w : World) : fnW PG note 400 Tryz.f162 [x0, x1, x2] R w = C R x0 x1 x2 w := by kernel_rfl
theorem ok {R : Ending → World → Prop} {x0 x1 x2 : Value} {w : World} (h : C R x0 x1 x2 w) : Calls PG N.digest_folded_uint64_byte #[x0, x1, x2] w R :=
  fnW_sound mixed Tryz.func162 (args := [x0, x1, x2]) (by rw [C_eq]; exact h)
def Rd0 (l : Nat) (R : Value → World → Prop) (v3 v5 a0 : Value) (w : World) : Prop :=
  rBeg l (fun w17 => ldW none v5 w17 fun t18 => ldW none v3 w17 fun t19 => callV PG t18 [t19, a0] (fun t20 w21 => stW 1 v3 t20 (fun w22 => rEnd l none R w22) w21) (fun c w => False) w17) w
theorem Rd0_eq (l : Nat) (R : Value → World → Prop) (v3 v5 a0 : Value) (w : World) (u : S) : rndW PG note 16 400 l ra0 rb0 (pset [10] [a0] (ovrP [(3, v3), (5, v5)] u)) R w = Rd0 l R v3 v5 a0 w := by kernel_rfl
end digest_folded_uint64_byte
namespace digest_table_step
theorem okf : okFn PG N.digest_table_step = true := by kernel_rfl
def note : Note := ⟨[], []⟩
def C (R : Ending → World → Prop) (x0 x1 x2 : Value) (w : World) : Prop :=
  pu PG (convert T.t_uint64 T.t_uint8 x1) fun t3 => pu PG (binV .xor T.t_uint8 false t3 x2) fun t4 => nlW x0 fun t5 => ixA 256 1 t5 t4 fun t6 => ldW none t6 w fun t7 => pu PG (binV .shr T.t_uint64 true x1 (.int .u64 8)) fun t8 => pu PG (binV .xor T.t_uint64 false t7 t8) fun t9 => R (.returned t9) w
theorem C_eq (R : Ending → World → Prop) (x0 x1 x2 : Value) (w : World) : fnW PG note 400 Tryz.f163 [x0, x1, x2] R w = C R x0 x1 x2 w := by kernel_rfl
theorem ok {R : Ending → World → Prop} {x0 x1 x2 : Value} {w : World} (h : C R x0 x1 x2 w) : Calls PG N.digest_table_step #[x0, x1, x2] w R :=
  fnW_sound mixed Tryz.func163 (args := [x0, x1, x2]) (by rw [C_eq]; exact h)
end digest_table_step
namespace linesmanref08_in
theorem okf : okFn PG N.linesmanref08_in = true := by kernel_rfl
def note : Note := ⟨[(0, [6])], []⟩
def C (R : Ending → World → Prop) (x0 x1 : Value) (w : World) : Prop :=
  callW PG N.linesmanref08_Names [x0] (fun t3 w4 => LoopW [(.int .i64 0)] (fun l8 N9 w10 => ∀ j7 : S, lnT t3 fun t13 => pu PG (binV .lss T.t_int false (gv l8 0) t13) fun t14 => condV t14 (ixT t3 (gv l8 0) fun t17 => pu PG (binV .eql T.t_uint8 false t17 x1) fun t18 => condV t18 (R (.returned (.bool true)) w10) (pu PG (binV .add T.t_int true (gv l8 0) (.int .i64 1)) fun t20 => N9 [t20] w10)) (R (.returned (.bool false)) w10)) w4) (fun c w => R (.panicked c) w) w
theorem C_eq (R : Ending → World → Prop) (x0 x1 : Value) (w : World) : fnW PG note 400 Tryz.f164 [x0, x1] R w = C R x0 x1 w := by kernel_rfl
theorem ok {R : Ending → World → Prop} {x0 x1 : Value} {w : World} (h : C R x0 x1 w) : Calls PG N.linesmanref08_in #[x0, x1] w R :=
  fnW_sound mixed Tryz.func164 (args := [x0, x1]) (by rw [C_eq]; exact h)
end linesmanref08_in
namespace linesmanref08_Right
theorem okf : okFn PG N.linesmanref08_Right = true := by kernel_rfl
def note : Note := ⟨[], []⟩
def C (R : Ending → World → Prop) (x0 : Value) (w : World) : Prop :=
  alW (Value.cells x0) T.t_api_Ins (fun t2 w3 => faW 0 t2 fun t5 => ldW none t5 w3 fun t6 => ∃ H9 : World → Prop, H9 (World.drew w3) ∧ (pu PG (binV .lss T.t_int true t6 (.int .i64 1)) fun t10 => condV t10 (R (.returned (.bool false)) (World.drew w3)) (pu PG (binV .gtr T.t_int true t6 (.int .i64 19)) fun t11 => condV t11 (R (.returned (.bool false)) (World.drew w3)) (faW 1 t2 fun t12 => ldS none t12 H9 fun t13 => callW PG N.linesmanref08_in [t6, (.int .u8 97)] (fun t14 w15 => H9 w15 ∧ (callW PG N.linesmanref08_reg [t13, t14] (fun t16 w17 => H9 w17 ∧ (pu PG (Op.unary .not t16) fun t18 => condV t18 (R (.returned (.bool false)) w17) (faW 2 t2 fun t19 => ldS none t19 H9 fun t20 => callW PG N.linesmanref08_in [t6, (.int .u8 98)] (fun t21 w22 => H9 w22 ∧ (callW PG N.linesmanref08_reg [t20, t21] (fun t23 w24 => pu PG (Op.unary .not t23) fun t25 => condV t25 (R (.returned (.bool false)) w24) (callW PG N.linesmanref08_in [t6, (.int .u8 110)] (fun t36 w37 => condV t36 (faW 3 t2 fun t39 => ldW none t39 w37 fun t40 => pu PG (binV .geq T.t_int true t40 (.int .i64 0)) fun t41 => condV t41 (faW 3 t2 fun t42 => ldW none t42 w37 fun t43 => pu PG (binV .leq T.t_int true t43 (.int .i64 16)) fun t44 => condV t44 (faW 2 t2 fun t45 => ldW none t45 w37 fun t46 => faW 3 t2 fun t47 => ldW none t47 w37 fun t48 => pu PG (binV .add T.t_int false t46 t48) fun t49 => pu PG (binV .leq T.t_int true t49 (.int .i64 16)) fun t50 => condV t50 (faW 4 t2 fun t51 => ldW none t51 w37 fun t52 => pu PG (binV .lss T.t_uint32 true t52 (.int .u32 32)) fun t53 => R (.returned t53) w37) (R (.returned (.bool false)) w37)) (R (.returned (.bool false)) w37)) (R (.returned (.bool false)) w37)) (callW PG N.linesmanref08_in [t6, (.int .u8 107)] (fun t55 w56 => condV t55 (faW 3 t2 fun t58 => ldW none t58 w56 fun t59 => callW PG N.linesmanref08_reg [t59, (.bool true)] (fun t60 w61 => condV t60 (faW 4 t2 fun t62 => ldW none t62 w61 fun t63 => pu PG (binV .geq T.t_uint32 true t63 (.int .u32 1)) fun t64 => condV t64 (faW 4 t2 fun t65 => ldW none t65 w61 fun t66 => pu PG (binV .leq T.t_uint32 true t66 (.int .u32 12)) fun t67 => R (.returned t67) w61) (R (.returned (.bool false)) w61)) (R (.returned (.bool false)) w61)) (fun c w => R (.panicked c) w) w56) (faW 3 t2 fun t69 => ldW none t69 w56 fun t70 => pu PG (binV .neq T.t_int true t70 (.int .i64 0)) fun t71 => condV t71 (R (.returned (.bool false)) w56) (pu PG (binV .eql T.t_int true t6 (.int .i64 4)) fun t74 => condV t74 (faW 4 t2 fun t77 => ldW none t77 w56 fun t78 => pu PG (binV .lss T.t_uint32 true t78 (.int .u32 512)) fun t79 => R (.returned t79) w56) (pu PG (binV .eql T.t_int true t6 (.int .i64 5)) fun t75 => condV t75 (faW 4 t2 fun t81 => ldW none t81 w56 fun t82 => pu PG (binV .lss T.t_uint32 true t82 (.int .u32 512)) fun t83 => R (.returned t83) w56) (faW 4 t2 fun t85 => ldW none t85 w56 fun t86 => pu PG (binV .eql T.t_uint32 true t86 (.int .u32 0)) fun t87 => condV t87 (R (.returned (.bool true)) w56) (callW PG N.linesmanref08_in [t6, (.int .u8 105)] (fun t88 w89 => R (.returned t88) w89) (fun c w => R (.panicked c) w) w56)))))) (fun c w => R (.panicked c) w) w37)) (fun c w => R (.panicked c) w) w24)) (fun c w => ∀ s26 : S, R (.panicked c) w) w22)) (fun c w => ∀ s27 : S, R (.panicked c) w) w17))) (fun c w => ∀ s28 : S, R (.panicked c) w) w15)) (fun c w => ∀ s29 : S, R (.panicked c) w) (World.drew w3))))) w
theorem C_eq (R : Ending → World → Prop) (x0 : Value) (w : World) : fnW PG note 400 Tryz.f165 [x0] R w = C R x0 w := by kernel_rfl
theorem ok {R : Ending → World → Prop} {x0 : Value} {w : World} (h : C R x0 w) : Calls PG N.linesmanref08_Right #[x0] w R :=
  fnW_sound mixed Tryz.func165 (args := [x0]) (by rw [C_eq]; exact h)
end linesmanref08_Right
namespace linesmanref08_Regs
theorem okf : okFn PG N.linesmanref08_Regs = true := by kernel_rfl
def note : Note := ⟨[], []⟩
def C (R : Ending → World → Prop) (x0 : Value) (w : World) : Prop :=
  alW (Value.cells x0) T.t_api_Ins (fun t2 w3 => faW 0 t2 fun t5 => ldW none t5 w3 fun t6 => ldW (some 5) t2 w3 fun t9 => callW PG N.linesmanref08_Right [t9] (fun t10 w11 => pu PG (Op.unary .not t10) fun t12 => condV t12 (R (.returned (.int .i64 0)) w11) (callW PG N.linesmanref08_in [t6, (.int .u8 97)] (fun t17 w18 => condV t17 (faW 1 t2 fun t19 => ldW none t19 w18 fun t20 => pu PG (binV .add T.t_int true t20 (.int .i64 1)) fun t21 => callW PG N.linesmanref08_in [t6, (.int .u8 98)] (fun t24 w25 => condV t24 (faW 2 t2 fun t26 => ldW none t26 w25 fun t27 => pu PG (binV .add T.t_int true t27 (.int .i64 1)) fun t28 => pu PG (Builtin.max_ #[T.t_int, T.t_int] 0 #[t21, t28]) fun t29 => callW PG N.linesmanref08_in [t6, (.int .u8 110)] (fun t32 w33 => condV t32 (faW 2 t2 fun t34 => ldW none t34 w33 fun t35 => faW 3 t2 fun t36 => ldW none t36 w33 fun t37 => pu PG (binV .add T.t_int false t35 t37) fun t38 => pu PG (Builtin.max_ #[T.t_int, T.t_int] 0 #[t29, t38]) fun t39 => callW PG N.linesmanref08_in [t6, (.int .u8 107)] (fun t42 w43 => condV t42 (faW 3 t2 fun t44 => ldW none t44 w43 fun t45 => pu PG (binV .add T.t_int true t45 (.int .i64 1)) fun t46 => pu PG (Builtin.max_ #[T.t_int, T.t_int] 0 #[t39, t46]) fun t47 => R (.returned t47) w43) (R (.returned t39) w43)) (fun c w => R (.panicked c) w) w33) (callW PG N.linesmanref08_in [t6, (.int .u8 107)] (fun t52 w53 => condV t52 (faW 3 t2 fun t54 => ldW none t54 w53 fun t55 => pu PG (binV .add T.t_int true t55 (.int .i64 1)) fun t56 => pu PG (Builtin.max_ #[T.t_int, T.t_int] 0 #[t29, t56]) fun t57 => R (.returned t57) w53) (R (.returned t29) w53)) (fun c w => R (.panicked c) w) w33)) (fun c w => R (.panicked c) w) w25) (callW PG N.linesmanref08_in [t6, (.int .u8 110)] (fun t62 w63 => condV t62 (faW 2 t2 fun t64 => ldW none t64 w63 fun t65 => faW 3 t2 fun t66 => ldW none t66 w63 fun t67 => pu PG (binV .add T.t_int false t65 t67) fun t68 => pu PG (Builtin.max_ #[T.t_int, T.t_int] 0 #[t21, t68]) fun t69 => callW PG N.linesmanref08_in [t6, (.int .u8 107)] (fun t72 w73 => condV t72 (faW 3 t2 fun t74 => ldW none t74 w73 fun t75 => pu PG (binV .add T.t_int true t75 (.int .i64 1)) fun t76 => pu PG (Builtin.max_ #[T.t_int, T.t_int] 0 #[t69, t76]) fun t77 => R (.returned t77) w73) (R (.returned t69) w73)) (fun c w => R (.panicked c) w) w63) (callW PG N.linesmanref08_in [t6, (.int .u8 107)] (fun t82 w83 => condV t82 (faW 3 t2 fun t84 => ldW none t84 w83 fun t85 => pu PG (binV .add T.t_int true t85 (.int .i64 1)) fun t86 => pu PG (Builtin.max_ #[T.t_int, T.t_int] 0 #[t21, t86]) fun t87 => R (.returned t87) w83) (R (.returned t21) w83)) (fun c w => R (.panicked c) w) w63)) (fun c w => R (.panicked c) w) w25)) (fun c w => R (.panicked c) w) w18) (callW PG N.linesmanref08_in [t6, (.int .u8 98)] (fun t92 w93 => condV t92 (faW 2 t2 fun t94 => ldW none t94 w93 fun t95 => pu PG (binV .add T.t_int true t95 (.int .i64 1)) fun t96 => pu PG (Builtin.max_ #[T.t_int, T.t_int] 0 #[(.int .i64 0), t96]) fun t97 => callW PG N.linesmanref08_in [t6, (.int .u8 110)] (fun t100 w101 => condV t100 (faW 2 t2 fun t102 => ldW none t102 w101 fun t103 => faW 3 t2 fun t104 => ldW none t104 w101 fun t105 => pu PG (binV .add T.t_int false t103 t105) fun t106 => pu PG (Builtin.max_ #[T.t_int, T.t_int] 0 #[t97, t106]) fun t107 => callW PG N.linesmanref08_in [t6, (.int .u8 107)] (fun t110 w111 => condV t110 (faW 3 t2 fun t112 => ldW none t112 w111 fun t113 => pu PG (binV .add T.t_int true t113 (.int .i64 1)) fun t114 => pu PG (Builtin.max_ #[T.t_int, T.t_int] 0 #[t107, t114]) fun t115 => R (.returned t115) w111) (R (.returned t107) w111)) (fun c w => R (.panicked c) w) w101) (callW PG N.linesmanref08_in [t6, (.int .u8 107)] (fun t120 w121 => condV t120 (faW 3 t2 fun t122 => ldW none t122 w121 fun t123 => pu PG (binV .add T.t_int true t123 (.int .i64 1)) fun t124 => pu PG (Builtin.max_ #[T.t_int, T.t_int] 0 #[t97, t124]) fun t125 => R (.returned t125) w121) (R (.returned t97) w121)) (fun c w => R (.panicked c) w) w101)) (fun c w => R (.panicked c) w) w93) (callW PG N.linesmanref08_in [t6, (.int .u8 110)] (fun t130 w131 => condV t130 (faW 2 t2 fun t132 => ldW none t132 w131 fun t133 => faW 3 t2 fun t134 => ldW none t134 w131 fun t135 => pu PG (binV .add T.t_int false t133 t135) fun t136 => pu PG (Builtin.max_ #[T.t_int, T.t_int] 0 #[(.int .i64 0), t136]) fun t137 => callW PG N.linesmanref08_in [t6, (.int .u8 107)] (fun t140 w141 => condV t140 (faW 3 t2 fun t142 => ldW none t142 w141 fun t143 => pu PG (binV .add T.t_int true t143 (.int .i64 1)) fun t144 => pu PG (Builtin.max_ #[T.t_int, T.t_int] 0 #[t137, t144]) fun t145 => R (.returned t145) w141) (R (.returned t137) w141)) (fun c w => R (.panicked c) w) w131) (callW PG N.linesmanref08_in [t6, (.int .u8 107)] (fun t150 w151 => condV t150 (faW 3 t2 fun t152 => ldW none t152 w151 fun t153 => pu PG (binV .add T.t_int true t153 (.int .i64 1)) fun t154 => pu PG (Builtin.max_ #[T.t_int, T.t_int] 0 #[(.int .i64 0), t154]) fun t155 => R (.returned t155) w151) (R (.returned (.int .i64 0)) w151)) (fun c w => R (.panicked c) w) w131)) (fun c w => R (.panicked c) w) w93)) (fun c w => R (.panicked c) w) w18)) (fun c w => R (.panicked c) w) w11)) (fun c w => R (.panicked c) w) w3) w
theorem C_eq (R : Ending → World → Prop) (x0 : Value) (w : World) : fnW PG note 400 Tryz.f166 [x0] R w = C R x0 w := by kernel_rfl
theorem ok {R : Ending → World → Prop} {x0 : Value} {w : World} (h : C R x0 w) : Calls PG N.linesmanref08_Regs #[x0] w R :=
  fnW_sound mixed Tryz.func166 (args := [x0]) (by rw [C_eq]; exact h)
end linesmanref08_Regs
namespace linesmanref08_Leaves
theorem okf : okFn PG N.linesmanref08_Leaves = true := by kernel_rfl
def note : Note := ⟨[], []⟩
def C (R : Ending → World → Prop) (x0 : Value) (w : World) : Prop :=
  alW (Value.cells x0) T.t_api_Ins (fun t2 w3 => ldW (some 5) t2 w3 fun t5 => callW PG N.linesmanref08_Right [t5] (fun t6 w7 => condV t6 (faW 0 t2 fun t8 => ldW none t8 w7 fun t9 => pu PG (binV .eql T.t_int true t9 (.int .i64 4)) fun t10 => condV t10 (R (.returned (.bool true)) w7) (faW 0 t2 fun t11 => ldW none t11 w7 fun t12 => pu PG (binV .eql T.t_int true t12 (.int .i64 9)) fun t13 => R (.returned t13) w7)) (R (.returned (.bool false)) w7)) (fun c w => R (.panicked c) w) w3) w
theorem C_eq (R : Ending → World → Prop) (x0 : Value) (w : World) : fnW PG note 400 Tryz.f167 [x0] R w = C R x0 w := by kernel_rfl
theorem ok {R : Ending → World → Prop} {x0 : Value} {w : World} (h : C R x0 w) : Calls PG N.linesmanref08_Leaves #[x0] w R :=
  fnW_sound mixed Tryz.func167 (args := [x0]) (by rw [C_eq]; exact h)
end linesmanref08_Leaves
namespace arith_does
theorem okf : okFn PG N.arith_does = true := by kernel_rfl
def note : Note := ⟨[], []⟩
def C (R : Ending → World → Prop) (w : World) : Prop :=
  opW PG (Instr.makeMap T.t_map_api_Arith_func_arith_pair_uint32 none) (fun t3 w4 => opU PG (Instr.mapUpdate T.t_map_api_Arith_func_arith_pair_uint32 t3 (.int .i64 1) (.func (.func N.arith_does_1) #[] #[])) (fun w5 => opU PG (Instr.mapUpdate T.t_map_api_Arith_func_arith_pair_uint32 t3 (.int .i64 2) (.func (.func N.arith_does_2) #[] #[])) (fun w6 => opU PG (Instr.mapUpdate T.t_map_api_Arith_func_arith_pair_uint32 t3 (.int .i64 3) (.func (.func N.arith_does_3) #[] #[])) (fun w7 => opU PG (Instr.mapUpdate T.t_map_api_Arith_func_arith_pair_uint32 t3 (.int .i64 4) (.func (.func N.arith_does_4) #[] #[])) (fun w8 => opU PG (Instr.mapUpdate T.t_map_api_Arith_func_arith_pair_uint32 t3 (.int .i64 5) (.func (.func N.arith_does_5) #[] #[])) (fun w9 => opU PG (Instr.mapUpdate T.t_map_api_Arith_func_arith_pair_uint32 t3 (.int .i64 6) (.func (.func N.arith_does_6) #[] #[])) (fun w10 => opU PG (Instr.mapUpdate T.t_map_api_Arith_func_arith_pair_uint32 t3 (.int .i64 7) (.func (.func N.arith_does_7) #[] #[])) (fun w11 => opU PG (Instr.mapUpdate T.t_map_api_Arith_func_arith_pair_uint32 t3 (.int .i64 8) (.func (.func N.arith_does_8) #[] #[])) (fun w12 => opU PG (Instr.mapUpdate T.t_map_api_Arith_func_arith_pair_uint32 t3 (.int .i64 9) (.func (.func N.arith_does_9) #[] #[])) (fun w13 => opU PG (Instr.mapUpdate T.t_map_api_Arith_func_arith_pair_uint32 t3 (.int .i64 10) (.func (.func N.arith_does_10) #[] #[])) (fun w14 => opU PG (Instr.mapUpdate T.t_map_api_Arith_func_arith_pair_uint32 t3 (.int .i64 11) (.func (.func N.arith_does_11) #[] #[])) (fun w15 => opU PG (Instr.mapUpdate T.t_map_api_Arith_func_arith_pair_uint32 t3 (.int .i64 12) (.func (.func N.arith_does_12) #[] #[])) (fun w16 => R (.returned t3) w16) w15) w14) w13) w12) w11) w10) w9) w8) w7) w6) w5) w4) w
theorem C_eq (R : Ending → World → Prop) (w : World) : fnW PG note 400 Tryz.f168 [] R w = C R  w := by kernel_rfl
theorem ok {R : Ending → World → Prop} {w : World} (h : C R  w) : Calls PG N.arith_does #[] w R :=
  fnW_sound mixed Tryz.func168 (args := []) (by rw [C_eq]; exact h)
end arith_does
namespace instr_is
theorem okf : okFn PG N.instr_is = true := by kernel_rfl
def note : Note := ⟨[], []⟩
def C (R : Ending → World → Prop) (x0 : Value) (w : World) : Prop :=
  pu PG (binV .geq T.t_api_Op true x0 (.int .i64 1)) fun t3 => condV t3 (pu PG (binV .leq T.t_api_Op true x0 (.int .i64 19)) fun t4 => R (.returned t4) w) (R (.returned (.bool false)) w)
theorem C_eq (R : Ending → World → Prop) (x0 : Value) (w : World) : fnW PG note 400 Tryz.f169 [x0] R w = C R x0 w := by kernel_rfl
theorem ok {R : Ending → World → Prop} {x0 : Value} {w : World} (h : C R x0 w) : Calls PG N.instr_is #[x0] w R :=
  fnW_sound mixed Tryz.func169 (args := [x0]) (by rw [C_eq]; exact h)
end instr_is
namespace arith_Name
theorem okf : okFn PG N.arith_Name = true := by kernel_rfl
def note : Note := ⟨[], [(0, [1, 2, 3])]⟩
def rp0 : Array Tmp := #[7, 8]
noncomputable def ra0 : Code := sub [1, 0, 1, 0, 0] (bodyOf Tryz.f170)
noncomputable def rb0 : Code := sub [1, 0, 1, 0, 1] (bodyOf Tryz.f170)
def C (R : Ending → World → Prop) (x0 : Value) (w : World) : Prop :=
  alW (Value.cells x0) T.t_api_Arith (fun t2 w3 => alW (zc PG T.t_string) T.t_string (fun t4 w5 => alW (zc PG T.t_api_Errno) T.t_api_Errno (fun t6 w7 => callW PG N.arith_every [] (fun t10 w11 => RangeW PG none 13 [(1, t2), (2, t4), (3, t6)] rp0 ra0 rb0 t10 (fun d12 w13 => stW 1 t4 (.string (bs [])) (fun w21 => stW 1 t6 (.int .i64 2) (fun w22 => LvW PG d12 .returning w22 (endV (fun w23 => ldW none t4 w23 fun t24 => ldW none t6 w23 fun t25 => R (.returned (.tuple #[t24, t25])) w23) R)) w21) w13) (fun d12 w13 => LvW PG d12 .returning w13 (endV (fun w14 => ldW none t4 w14 fun t15 => ldW none t6 w14 fun t16 => R (.returned (.tuple #[t15, t16])) w14) R)) [] (fun c d12 w13 => LvW PG d12 (.panicking c) w13 (endV (fun w17 => ldW none t4 w17 fun t18 => ldW none t6 w17 fun t19 => R (.returned (.tuple #[t18, t19])) w17) R)) [] w11) (fun c w => R (.panicked c) w) w7) w5) w3) w
theorem C_eq (R : Ending → World → Prop) (x0 : Value) (w : World) : fnW PG note 400 Tryz.f170 [x0] R w = C R x0 w := by kernel_rfl
theorem ok {R : Ending → World → Prop} {x0 : Value} {w : World} (h : C R x0 w) : Calls PG N.arith_Name #[x0] w R :=
  fnW_sound mixed Tryz.func170 (args := [x0]) (by rw [C_eq]; exact h)
def Rd0 (l : Nat) (R : Value → World → Prop) (v1 v2 v3 a0 a1 : Value) (w : World) : Prop :=
  rBeg l (fun w27 => ldW none v1 w27 fun t29 => pu PG (binV .eql T.t_api_Arith false a0 t29) fun t30 => condV t30 (stW 1 v2 a1 (fun w32 => stW 1 v3 (.int .i64 0) (fun w33 => rEnd l (some .ret) R w33) w32) w27) (rEnd l none R w27)) w
theorem Rd0_eq (l : Nat) (R : Value → World → Prop) (v1 v2 v3 a0 a1 : Value) (w : World) (u : S) : rndW PG note 13 400 l ra0 rb0 (pset [7, 8] [a0, a1] (ovrP [(1, v1), (2, v2), (3, v3)] u)) R w = Rd0 l R v1 v2 v3 a0 a1 w := by kernel_rfl
end arith_Name
namespace slices_Contains_sl_api_Op_api_Op
theorem okf : okFn PG N.slices_Contains_sl_api_Op_api_Op = true := by kernel_rfl
def note : Note := ⟨[], []⟩
def C (R : Ending → World → Prop) (x0 x1 : Value) (w : World) : Prop :=
  callW PG N.slices_Index_sl_api_Op_api_Op [x0, x1] (fun t3 w4 => pu PG (binV .geq T.t_int true t3 (.int .i64 0)) fun t5 => R (.returned t5) w4) (fun c w => R (.panicked c) w) w
theorem C_eq (R : Ending → World → Prop) (x0 x1 : Value) (w : World) : fnW PG note 400 Tryz.f171 [x0, x1] R w = C R x0 x1 w := by kernel_rfl
theorem ok {R : Ending → World → Prop} {x0 x1 : Value} {w : World} (h : C R x0 x1 w) : Calls PG N.slices_Contains_sl_api_Op_api_Op #[x0, x1] w R :=
  fnW_sound mixed Tryz.func171 (args := [x0, x1]) (by rw [C_eq]; exact h)
end slices_Contains_sl_api_Op_api_Op
namespace linesmanref01_ReadFixed
theorem okf : okFn PG N.linesmanref01_ReadFixed = true := by kernel_rfl
def note : Note := ⟨[(0, [6, 7])], []⟩
def C (R : Ending → World → Prop) (x0 x1 : Value) (w : World) : Prop :=
  callW PG N.linesmanref01_right [x1] (fun t4 w5 => pu PG (Op.unary .not t4) fun t6 => condV t6 (R (.returned (.tuple #[(.int .u64 0), (.int .i64 2)])) w5) (lnS x0 fun t10 => pu PG (binV .lss T.t_int false t10 x1) fun t11 => condV t11 (R (.returned (.tuple #[(.int .u64 0), (.int .i64 110)])) w5) (pu PG (binV .sub T.t_int true x1 (.int .i64 1)) fun t16 => LoopW [(.int .u64 0), t16] (fun l18 N19 w20 => ∀ j17 : S, pu PG (binV .geq T.t_int true (gv l18 1) (.int .i64 0)) fun t23 => condV t23 (pu PG (binV .mul T.t_uint64 true (.int .u64 256) (gv l18 0)) fun t25 => ixS 1 x0 (gv l18 1) fun t26 => ldW none t26 w20 fun t27 => pu PG (convert T.t_uint8 T.t_uint64 t27) fun t28 => pu PG (binV .add T.t_uint64 false t25 t28) fun t29 => pu PG (binV .sub T.t_int true (gv l18 1) (.int .i64 1)) fun t30 => N19 [t29, t30] w20) (R (.returned (.tuple #[(gv l18 0), (.int .i64 0)])) w20)) w5))) (fun c w => R (.panicked c) w) w
theorem C_eq (R : Ending → World → Prop) (x0 x1 : Value) (w : World) : fnW PG note 400 Tryz.f172 [x0, x1] R w = C R x0 x1 w := by kernel_rfl
theorem ok {R : Ending → World → Prop} {x0 x1 : Value} {w : World} (h : C R x0 x1 w) : Calls PG N.linesmanref01_ReadFixed #[x0, x1] w R :=
  fnW_sound mixed Tryz.func172 (args := [x0, x1]) (by rw [C_eq]; exact h)
end linesmanref01_ReadFixed
namespace linesmanref08_Read
theorem okf : okFn PG N.linesmanref08_Read = true := by kernel_rfl
def note : Note := ⟨[], []⟩
def C (R : Ending → World → Prop) (x0 : Value) (w : World) : Prop :=
  alW (zc PG T.t_api_Ins) T.t_api_Ins (fun t2 w3 => lnS x0 fun t6 => pu PG (binV .eql T.t_int true t6 (.int .i64 0)) fun t7 => condV t7 (pu PG (Instr.build T.t_api_Ins #[]) fun t9 => stW 5 t2 t9 (fun w10 => ldW (some 5) t2 w10 fun t11 => R (.returned (.tuple #[t11, (.int .i64 0), (.int .i64 110)])) w10) w3) (ixS 1 x0 (.int .i64 0) fun t13 => ldW none t13 w3 fun t14 => pu PG (convert T.t_uint8 T.t_int t14) fun t15 => pu PG (binV .lss T.t_int true t15 (.int .i64 1)) fun t18 => condV t18 (pu PG (Instr.build T.t_api_Ins #[]) fun t21 => stW 5 t2 t21 (fun w22 => ldW (some 5) t2 w22 fun t23 => R (.returned (.tuple #[t23, (.int .i64 0), (.int .i64 180)])) w22) w3) (pu PG (binV .gtr T.t_int true t15 (.int .i64 19)) fun t19 => condV t19 (pu PG (Instr.build T.t_api_Ins #[]) fun t25 => stW 5 t2 t25 (fun w26 => ldW (some 5) t2 w26 fun t27 => R (.returned (.tuple #[t27, (.int .i64 0), (.int .i64 180)])) w26) w3) (pu PG (Instr.build T.t_api_Ins #[(0, t15)]) fun t29 => alW (zc PG T.t_api_Ins) T.t_api_Ins (fun t30 w31 => stW 5 t30 t29 (fun w32 => ldW (some 5) t30 w32 fun t34 => callW PG N.linesmanref08_Bytes [t34] (fun t35 w36 => lnS t35 fun t37 => lnS x0 fun t40 => pu PG (binV .lss T.t_int false t40 t37) fun t41 => condV t41 (pu PG (Instr.build T.t_api_Ins #[]) fun t43 => stW 5 t2 t43 (fun w44 => ldW (some 5) t2 w44 fun t45 => R (.returned (.tuple #[t45, (.int .i64 0), (.int .i64 110)])) w44) w36) (callW PG N.linesmanref08_in [t15, (.int .u8 97)] (fun t49 w50 => condV t49 (ixS 1 x0 (.int .i64 1) fun t52 => ldW none t52 w50 fun t53 => pu PG (convert T.t_uint8 T.t_int t53) fun t54 => faW 1 t30 fun t55 => stW 1 t55 t54 (fun w56 => pu PG (binV .add T.t_int true (.int .i64 1) (.int .i64 1)) fun t57 => callW PG N.linesmanref08_in [t15, (.int .u8 98)] (fun t60 w61 => condV t60 (ixS 1 x0 t57 fun t63 => ldW none t63 w61 fun t64 => pu PG (convert T.t_uint8 T.t_int t64) fun t65 => faW 2 t30 fun t66 => stW 1 t66 t65 (fun w67 => pu PG (binV .add T.t_int true t57 (.int .i64 1)) fun t68 => callW PG N.linesmanref08_in [t15, (.int .u8 110)] (fun t71 w72 => condV t71 (ixS 1 x0 t68 fun t76 => ldW none t76 w72 fun t77 => pu PG (convert T.t_uint8 T.t_int t77) fun t78 => faW 3 t30 fun t79 => stW 1 t79 t78 (fun w80 => pu PG (binV .add T.t_int true t68 (.int .i64 1)) fun t81 => callW PG N.linesmanref08_in [t15, (.int .u8 105)] (fun t91 w92 => condV t91 (pu PG (Instr.sliceAt T.t_sl_uint8 x0 (some t81) none none) fun t98 => callW PG N.linesmanref01_ReadFixed [t98, (.int .i64 4)] (fun t99 w100 => exW 0 t99 fun t101 => exW 1 t99 fun t102 => pu PG (convert T.t_uint64 T.t_uint32 t101) fun t103 => faW 4 t30 fun t104 => stW 1 t104 t103 (fun w105 => ldW (some 5) t30 w105 fun t126 => callW PG N.linesmanref08_Right [t126] (fun t127 w128 => pu PG (Op.unary .not t127) fun t129 => condV t129 (pu PG (Instr.build T.t_api_Ins #[]) fun t131 => stW 5 t2 t131 (fun w132 => ldW (some 5) t2 w132 fun t133 => R (.returned (.tuple #[t133, (.int .i64 0), (.int .i64 180)])) w132) w128) (ldW (some 5) t30 w128 fun t135 => stW 5 t2 t135 (fun w136 => ldW (some 5) t2 w136 fun t137 => R (.returned (.tuple #[t137, t37, (.int .i64 0)])) w136) w128)) (fun c w => R (.panicked c) w) w105) w100) (fun c w => R (.panicked c) w) w92) (callW PG N.linesmanref08_in [t15, (.int .u8 102)] (fun t93 w94 => condV t93 (pu PG (Instr.sliceAt T.t_sl_uint8 x0 (some t81) none none) fun t107 => callW PG N.linesmanref01_ReadFixed [t107, (.int .i64 4)] (fun t108 w109 => exW 0 t108 fun t110 => exW 1 t108 fun t111 => pu PG (convert T.t_uint64 T.t_uint32 t110) fun t112 => faW 4 t30 fun t113 => stW 1 t113 t112 (fun w114 => ldW (some 5) t30 w114 fun t140 => callW PG N.linesmanref08_Right [t140] (fun t141 w142 => pu PG (Op.unary .not t141) fun t143 => condV t143 (pu PG (Instr.build T.t_api_Ins #[]) fun t145 => stW 5 t2 t145 (fun w146 => ldW (some 5) t2 w146 fun t147 => R (.returned (.tuple #[t147, (.int .i64 0), (.int .i64 180)])) w146) w142) (ldW (some 5) t30 w142 fun t149 => stW 5 t2 t149 (fun w150 => ldW (some 5) t2 w150 fun t151 => R (.returned (.tuple #[t151, t37, (.int .i64 0)])) w150) w142)) (fun c w => R (.panicked c) w) w114) w109) (fun c w => R (.panicked c) w) w94) (callW PG N.linesmanref08_in [t15, (.int .u8 107)] (fun t95 w96 => condV t95 (pu PG (Instr.sliceAt T.t_sl_uint8 x0 (some t81) none none) fun t116 => callW PG N.linesmanref01_ReadFixed [t116, (.int .i64 4)] (fun t117 w118 => exW 0 t117 fun t119 => exW 1 t117 fun t120 => pu PG (convert T.t_uint64 T.t_uint32 t119) fun t121 => faW 4 t30 fun t122 => stW 1 t122 t121 (fun w123 => ldW (some 5) t30 w123 fun t154 => callW PG N.linesmanref08_Right [t154] (fun t155 w156 => pu PG (Op.unary .not t155) fun t157 => condV t157 (pu PG (Instr.build T.t_api_Ins #[]) fun t159 => stW 5 t2 t159 (fun w160 => ldW (some 5) t2 w160 fun t161 => R (.returned (.tuple #[t161, (.int .i64 0), (.int .i64 180)])) w160) w156) (ldW (some 5) t30 w156 fun t163 => stW 5 t2 t163 (fun w164 => ldW (some 5) t2 w164 fun t165 => R (.returned (.tuple #[t165, t37, (.int .i64 0)])) w164) w156)) (fun c w => R (.panicked c) w) w123) w118) (fun c w => R (.panicked c) w) w96) (ldW (some 5) t30 w96 fun t168 => callW PG N.linesmanref08_Right [t168] (fun t169 w170 => pu PG (Op.unary .not t169) fun t171 => condV t171 (pu PG (Instr.build T.t_api_Ins #[]) fun t173 => stW 5 t2 t173 (fun w174 => ldW (some 5) t2 w174 fun t175 => R (.returned (.tuple #[t175, (.int .i64 0), (.int .i64 180)])) w174) w170) (ldW (some 5) t30 w170 fun t177 => stW 5 t2 t177 (fun w178 => ldW (some 5) t2 w178 fun t179 => R (.returned (.tuple #[t179, t37, (.int .i64 0)])) w178) w170)) (fun c w => R (.panicked c) w) w96)) (fun c w => R (.panicked c) w) w94)) (fun c w => R (.panicked c) w) w92)) (fun c w => R (.panicked c) w) w80) w72) (callW PG N.linesmanref08_in [t15, (.int .u8 107)] (fun t73 w74 => condV t73 (ixS 1 x0 t68 fun t83 => ldW none t83 w74 fun t84 => pu PG (convert T.t_uint8 T.t_int t84) fun t85 => faW 3 t30 fun t86 => stW 1 t86 t85 (fun w87 => pu PG (binV .add T.t_int true t68 (.int .i64 1)) fun t88 => callW PG N.linesmanref08_in [t15, (.int .u8 105)] (fun t182 w183 => condV t182 (pu PG (Instr.sliceAt T.t_sl_uint8 x0 (some t88) none none) fun t189 => callW PG N.linesmanref01_ReadFixed [t189, (.int .i64 4)] (fun t190 w191 => exW 0 t190 fun t192 => exW 1 t190 fun t193 => pu PG (convert T.t_uint64 T.t_uint32 t192) fun t194 => faW 4 t30 fun t195 => stW 1 t195 t194 (fun w196 => ldW (some 5) t30 w196 fun t217 => callW PG N.linesmanref08_Right [t217] (fun t218 w219 => pu PG (Op.unary .not t218) fun t220 => condV t220 (pu PG (Instr.build T.t_api_Ins #[]) fun t222 => stW 5 t2 t222 (fun w223 => ldW (some 5) t2 w223 fun t224 => R (.returned (.tuple #[t224, (.int .i64 0), (.int .i64 180)])) w223) w219) (ldW (some 5) t30 w219 fun t226 => stW 5 t2 t226 (fun w227 => ldW (some 5) t2 w227 fun t228 => R (.returned (.tuple #[t228, t37, (.int .i64 0)])) w227) w219)) (fun c w => R (.panicked c) w) w196) w191) (fun c w => R (.panicked c) w) w183) (callW PG N.linesmanref08_in [t15, (.int .u8 102)] (fun t184 w185 => condV t184 (pu PG (Instr.sliceAt T.t_sl_uint8 x0 (some t88) none none) fun t198 => callW PG N.linesmanref01_ReadFixed [t198, (.int .i64 4)] (fun t199 w200 => exW 0 t199 fun t201 => exW 1 t199 fun t202 => pu PG (convert T.t_uint64 T.t_uint32 t201) fun t203 => faW 4 t30 fun t204 => stW 1 t204 t203 (fun w205 => ldW (some 5) t30 w205 fun t231 => callW PG N.linesmanref08_Right [t231] (fun t232 w233 => pu PG (Op.unary .not t232) fun t234 => condV t234 (pu PG (Instr.build T.t_api_Ins #[]) fun t236 => stW 5 t2 t236 (fun w237 => ldW (some 5) t2 w237 fun t238 => R (.returned (.tuple #[t238, (.int .i64 0), (.int .i64 180)])) w237) w233) (ldW (some 5) t30 w233 fun t240 => stW 5 t2 t240 (fun w241 => ldW (some 5) t2 w241 fun t242 => R (.returned (.tuple #[t242, t37, (.int .i64 0)])) w241) w233)) (fun c w => R (.panicked c) w) w205) w200) (fun c w => R (.panicked c) w) w185) (callW PG N.linesmanref08_in [t15, (.int .u8 107)] (fun t186 w187 => condV t186 (pu PG (Instr.sliceAt T.t_sl_uint8 x0 (some t88) none none) fun t207 => callW PG N.linesmanref01_ReadFixed [t207, (.int .i64 4)] (fun t208 w209 => exW 0 t208 fun t210 => exW 1 t208 fun t211 => pu PG (convert T.t_uint64 T.t_uint32 t210) fun t212 => faW 4 t30 fun t213 => stW 1 t213 t212 (fun w214 => ldW (some 5) t30 w214 fun t245 => callW PG N.linesmanref08_Right [t245] (fun t246 w247 => pu PG (Op.unary .not t246) fun t248 => condV t248 (pu PG (Instr.build T.t_api_Ins #[]) fun t250 => stW 5 t2 t250 (fun w251 => ldW (some 5) t2 w251 fun t252 => R (.returned (.tuple #[t252, (.int .i64 0), (.int .i64 180)])) w251) w247) (ldW (some 5) t30 w247 fun t254 => stW 5 t2 t254 (fun w255 => ldW (some 5) t2 w255 fun t256 => R (.returned (.tuple #[t256, t37, (.int .i64 0)])) w255) w247)) (fun c w => R (.panicked c) w) w214) w209) (fun c w => R (.panicked c) w) w187) (ldW (some 5) t30 w187 fun t259 => callW PG N.linesmanref08_Right [t259] (fun t260 w261 => pu PG (Op.unary .not t260) fun t262 => condV t262 (pu PG (Instr.build T.t_api_Ins #[]) fun t264 => stW 5 t2 t264 (fun w265 => ldW (some 5) t2 w265 fun t266 => R (.returned (.tuple #[t266, (.int .i64 0), (.int .i64 180)])) w265) w261) (ldW (some 5) t30 w261 fun t268 => stW 5 t2 t268 (fun w269 => ldW (some 5) t2 w269 fun t270 => R (.returned (.tuple #[t270, t37, (.int .i64 0)])) w269) w261)) (fun c w => R (.panicked c) w) w187)) (fun c w => R (.panicked c) w) w185)) (fun c w => R (.panicked c) w) w183)) (fun c w => R (.panicked c) w) w87) w74) (callW PG N.linesmanref08_in [t15, (.int .u8 105)] (fun t273 w274 => condV t273 (pu PG (Instr.sliceAt T.t_sl_uint8 x0 (some t68) none none) fun t280 => callW PG N.linesmanref01_ReadFixed [t280, (.int .i64 4)] (fun t281 w282 => exW 0 t281 fun t283 => exW 1 t281 fun t284 => pu PG (convert T.t_uint64 T.t_uint32 t283) fun t285 => faW 4 t30 fun t286 => stW 1 t286 t285 (fun w287 => ldW (some 5) t30 w287 fun t308 => callW PG N.linesmanref08_Right [t308] (fun t309 w310 => pu PG (Op.unary .not t309) fun t311 => condV t311 (pu PG (Instr.build T.t_api_Ins #[]) fun t313 => stW 5 t2 t313 (fun w314 => ldW (some 5) t2 w314 fun t315 => R (.returned (.tuple #[t315, (.int .i64 0), (.int .i64 180)])) w314) w310) (ldW (some 5) t30 w310 fun t317 => stW 5 t2 t317 (fun w318 => ldW (some 5) t2 w318 fun t319 => R (.returned (.tuple #[t319, t37, (.int .i64 0)])) w318) w310)) (fun c w => R (.panicked c) w) w287) w282) (fun c w => R (.panicked c) w) w274) (callW PG N.linesmanref08_in [t15, (.int .u8 102)] (fun t275 w276 => condV t275 (pu PG (Instr.sliceAt T.t_sl_uint8 x0 (some t68) none none) fun t289 => callW PG N.linesmanref01_ReadFixed [t289, (.int .i64 4)] (fun t290 w291 => exW 0 t290 fun t292 => exW 1 t290 fun t293 => pu PG (convert T.t_uint64 T.t_uint32 t292) fun t294 => faW 4 t30 fun t295 => stW 1 t295 t294 (fun w296 => ldW (some 5) t30 w296 fun t322 => callW PG N.linesmanref08_Right [t322] (fun t323 w324 => pu PG (Op.unary .not t323) fun t325 => condV t325 (pu PG (Instr.build T.t_api_Ins #[]) fun t327 => stW 5 t2 t327 (fun w328 => ldW (some 5) t2 w328 fun t329 => R (.returned (.tuple #[t329, (.int .i64 0), (.int .i64 180)])) w328) w324) (ldW (some 5) t30 w324 fun t331 => stW 5 t2 t331 (fun w332 => ldW (some 5) t2 w332 fun t333 => R (.returned (.tuple #[t333, t37, (.int .i64 0)])) w332) w324)) (fun c w => R (.panicked c) w) w296) w291) (fun c w => R (.panicked c) w) w276) (callW PG N.linesmanref08_in [t15, (.int .u8 107)] (fun t277 w278 => condV t277 (pu PG (Instr.sliceAt T.t_sl_uint8 x0 (some t68) none none) fun t298 => callW PG N.linesmanref01_ReadFixed [t298, (.int .i64 4)] (fun t299 w300 => exW 0 t299 fun t301 => exW 1 t299 fun t302 => pu PG (convert T.t_uint64 T.t_uint32 t301) fun t303 => faW 4 t30 fun t304 => stW 1 t304 t303 (fun w305 => ldW (some 5) t30 w305 fun t336 => callW PG N.linesmanref08_Right [t336] (fun t337 w338 => pu PG (Op.unary .not t337) fun t339 => condV t339 (pu PG (Instr.build T.t_api_Ins #[]) fun t341 => stW 5 t2 t341 (fun w342 => ldW (some 5) t2 w342 fun t343 => R (.returned (.tuple #[t343, (.int .i64 0), (.int .i64 180)])) w342) w338) (ldW (some 5) t30 w338 fun t345 => stW 5 t2 t345 (fun w346 => ldW (some 5) t2 w346 fun t347 => R (.returned (.tuple #[t347, t37, (.int .i64 0)])) w346) w338)) (fun c w => R (.panicked c) w) w305) w300) (fun c w => R (.panicked c) w) w278) (ldW (some 5) t30 w278 fun t350 => callW PG N.linesmanref08_Right [t350] (fun t351 w352 => pu PG (Op.unary .not t351) fun t353 => condV t353 (pu PG (Instr.build T.t_api_Ins #[]) fun t355 => stW 5 t2 t355 (fun w356 => ldW (some 5) t2 w356 fun t357 => R (.returned (.tuple #[t357, (.int .i64 0), (.int .i64 180)])) w356) w352) (ldW (some 5) t30 w352 fun t359 => stW 5 t2 t359 (fun w360 => ldW (some 5) t2 w360 fun t361 => R (.returned (.tuple #[t361, t37, (.int .i64 0)])) w360) w352)) (fun c w => R (.panicked c) w) w278)) (fun c w => R (.panicked c) w) w276)) (fun c w => R (.panicked c) w) w274)) (fun c w => R (.panicked c) w) w74)) (fun c w => R (.panicked c) w) w72)) (fun c w => R (.panicked c) w) w67) w61) (callW PG N.linesmanref08_in [t15, (.int .u8 110)] (fun t364 w365 => condV t364 (ixS 1 x0 t57 fun t369 => ldW none t369 w365 fun t370 => pu PG (convert T.t_uint8 T.t_int t370) fun t371 => faW 3 t30 fun t372 => stW 1 t372 t371 (fun w373 => pu PG (binV .add T.t_int true t57 (.int .i64 1)) fun t374 => callW PG N.linesmanref08_in [t15, (.int .u8 105)] (fun t384 w385 => condV t384 (pu PG (Instr.sliceAt T.t_sl_uint8 x0 (some t374) none none) fun t391 => callW PG N.linesmanref01_ReadFixed [t391, (.int .i64 4)] (fun t392 w393 => exW 0 t392 fun t394 => exW 1 t392 fun t395 => pu PG (convert T.t_uint64 T.t_uint32 t394) fun t396 => faW 4 t30 fun t397 => stW 1 t397 t396 (fun w398 => ldW (some 5) t30 w398 fun t419 => callW PG N.linesmanref08_Right [t419] (fun t420 w421 => pu PG (Op.unary .not t420) fun t422 => condV t422 (pu PG (Instr.build T.t_api_Ins #[]) fun t424 => stW 5 t2 t424 (fun w425 => ldW (some 5) t2 w425 fun t426 => R (.returned (.tuple #[t426, (.int .i64 0), (.int .i64 180)])) w425) w421) (ldW (some 5) t30 w421 fun t428 => stW 5 t2 t428 (fun w429 => ldW (some 5) t2 w429 fun t430 => R (.returned (.tuple #[t430, t37, (.int .i64 0)])) w429) w421)) (fun c w => R (.panicked c) w) w398) w393) (fun c w => R (.panicked c) w) w385) (callW PG N.linesmanref08_in [t15, (.int .u8 102)] (fun t386 w387 => condV t386 (pu PG (Instr.sliceAt T.t_sl_uint8 x0 (some t374) none none) fun t400 => callW PG N.linesmanref01_ReadFixed [t400, (.int .i64 4)] (fun t401 w402 => exW 0 t401 fun t403 => exW 1 t401 fun t404 => pu PG (convert T.t_uint64 T.t_uint32 t403) fun t405 => faW 4 t30 fun t406 => stW 1 t406 t405 (fun w407 => ldW (some 5) t30 w407 fun t433 => callW PG N.linesmanref08_Right [t433] (fun t434 w435 => pu PG (Op.unary .not t434) fun t436 => condV t436 (pu PG (Instr.build T.t_api_Ins #[]) fun t438 => stW 5 t2 t438 (fun w439 => ldW (some 5) t2 w439 fun t440 => R (.returned (.tuple #[t440, (.int .i64 0), (.int .i64 180)])) w439) w435) (ldW (some 5) t30 w435 fun t442 => stW 5 t2 t442 (fun w443 => ldW (some 5) t2 w443 fun t444 => R (.returned (.tuple #[t444, t37, (.int .i64 0)])) w443) w435)) (fun c w => R (.panicked c) w) w407) w402) (fun c w => R (.panicked c) w) w387) (callW PG N.linesmanref08_in [t15, (.int .u8 107)] (fun t388 w389 => condV t388 (pu PG (Instr.sliceAt T.t_sl_uint8 x0 (some t374) none none) fun t409 => callW PG N.linesmanref01_ReadFixed [t409, (.int .i64 4)] (fun t410 w411 => exW 0 t410 fun t412 => exW 1 t410 fun t413 => pu PG (convert T.t_uint64 T.t_uint32 t412) fun t414 => faW 4 t30 fun t415 => stW 1 t415 t414 (fun w416 => ldW (some 5) t30 w416 fun t447 => callW PG N.linesmanref08_Right [t447] (fun t448 w449 => pu PG (Op.unary .not t448) fun t450 => condV t450 (pu PG (Instr.build T.t_api_Ins #[]) fun t452 => stW 5 t2 t452 (fun w453 => ldW (some 5) t2 w453 fun t454 => R (.returned (.tuple #[t454, (.int .i64 0), (.int .i64 180)])) w453) w449) (ldW (some 5) t30 w449 fun t456 => stW 5 t2 t456 (fun w457 => ldW (some 5) t2 w457 fun t458 => R (.returned (.tuple #[t458, t37, (.int .i64 0)])) w457) w449)) (fun c w => R (.panicked c) w) w416) w411) (fun c w => R (.panicked c) w) w389) (ldW (some 5) t30 w389 fun t461 => callW PG N.linesmanref08_Right [t461] (fun t462 w463 => pu PG (Op.unary .not t462) fun t464 => condV t464 (pu PG (Instr.build T.t_api_Ins #[]) fun t466 => stW 5 t2 t466 (fun w467 => ldW (some 5) t2 w467 fun t468 => R (.returned (.tuple #[t468, (.int .i64 0), (.int .i64 180)])) w467) w463) (ldW (some 5) t30 w463 fun t470 => stW 5 t2 t470 (fun w471 => ldW (some 5) t2 w471 fun t472 => R (.returned (.tuple #[t472, t37, (.int .i64 0)])) w471) w463)) (fun c w => R (.panicked c) w) w389)) (fun c w => R (.panicked c) w) w387)) (fun c w => R (.panicked c) w) w385)) (fun c w => R (.panicked c) w) w373) w365) (callW PG N.linesmanref08_in [t15, (.int .u8 107)] (fun t366 w367 => condV t366 (ixS 1 x0 t57 fun t376 => ldW none t376 w367 fun t377 => pu PG (convert T.t_uint8 T.t_int t377) fun t378 => faW 3 t30 fun t379 => stW 1 t379 t378 (fun w380 => pu PG (binV .add T.t_int true t57 (.int .i64 1)) fun t381 => callW PG N.linesmanref08_in [t15, (.int .u8 105)] (fun t475 w476 => condV t475 (pu PG (Instr.sliceAt T.t_sl_uint8 x0 (some t381) none none) fun t482 => callW PG N.linesmanref01_ReadFixed [t482, (.int .i64 4)] (fun t483 w484 => exW 0 t483 fun t485 => exW 1 t483 fun t486 => pu PG (convert T.t_uint64 T.t_uint32 t485) fun t487 => faW 4 t30 fun t488 => stW 1 t488 t487 (fun w489 => ldW (some 5) t30 w489 fun t510 => callW PG N.linesmanref08_Right [t510] (fun t511 w512 => pu PG (Op.unary .not t511) fun t513 => condV t513 (pu PG (Instr.build T.t_api_Ins #[]) fun t515 => stW 5 t2 t515 (fun w516 => ldW (some 5) t2 w516 fun t517 => R (.returned (.tuple #[t517, (.int .i64 0), (.int .i64 180)])) w516) w512) (ldW (some 5) t30 w512 fun t519 => stW 5 t2 t519 (fun w520 => ldW (some 5) t2 w520 fun t521 => R (.returned (.tuple #[t521, t37, (.int .i64 0)])) w520) w512)) (fun c w => R (.panicked c) w) w489) w484) (fun c w => R (.panicked c) w) w476) (callW PG N.linesmanref08_in [t15, (.int .u8 102)] (fun t477 w478 => condV t477 (pu PG (Instr.sliceAt T.t_sl_uint8 x0 (some t381) none none) fun t491 => callW PG N.linesmanref01_ReadFixed [t491, (.int .i64 4)] (fun t492 w493 => exW 0 t492 fun t494 => exW 1 t492 fun t495 => pu PG (convert T.t_uint64 T.t_uint32 t494) fun t496 => faW 4 t30 fun t497 => stW 1 t497 t496 (fun w498 => ldW (some 5) t30 w498 fun t524 => callW PG N.linesmanref08_Right [t524] (fun t525 w526 => pu PG (Op.unary .not t525) fun t527 => condV t527 (pu PG (Instr.build T.t_api_Ins #[]) fun t529 => stW 5 t2 t529 (fun w530 => ldW (some 5) t2 w530 fun t531 => R (.returned (.tuple #[t531, (.int .i64 0), (.int .i64 180)])) w530) w526) (ldW (some 5) t30 w526 fun t533 => stW 5 t2 t533 (fun w534 => ldW (some 5) t2 w534 fun t535 => R (.returned (.tuple #[t535, t37, (.int .i64 0)])) w534) w526)) (fun c w => R (.panicked c) w) w498) w493) (fun c w => R (.panicked c) w) w478) (callW PG N.linesmanref08_in [t15, (.int .u8 107)] (fun t479 w480 => condV t479 (pu PG (Instr.sliceAt T.t_sl_uint8 x0 (some t381) none none) fun t500 => callW PG N.linesmanref01_ReadFixed [t500, (.int .i64 4)] (fun t501 w502 => exW 0 t501 fun t503 => exW 1 t501 fun t504 => pu PG (convert T.t_uint64 T.t_uint32 t503) fun t505 => faW 4 t30 fun t506 => stW 1 t506 t505 (fun w507 => ldW (some 5) t30 w507 fun t538 => callW PG N.linesmanref08_Right [t538] (fun t539 w540 => pu PG (Op.unary .not t539) fun t541 => condV t541 (pu PG (Instr.build T.t_api_Ins #[]) fun t543 => stW 5 t2 t543 (fun w544 => ldW (some 5) t2 w544 fun t545 => R (.returned (.tuple #[t545, (.int .i64 0), (.int .i64 180)])) w544) w540) (ldW (some 5) t30 w540 fun t547 => stW 5 t2 t547 (fun w548 => ldW (some 5) t2 w548 fun t549 => R (.returned (.tuple #[t549, t37, (.int .i64 0)])) w548) w540)) (fun c w => R (.panicked c) w) w507) w502) (fun c w => R (.panicked c) w) w480) (ldW (some 5) t30 w480 fun t552 => callW PG N.linesmanref08_Right [t552] (fun t553 w554 => pu PG (Op.unary .not t553) fun t555 => condV t555 (pu PG (Instr.build T.t_api_Ins #[]) fun t557 => stW 5 t2 t557 (fun w558 => ldW (some 5) t2 w558 fun t559 => R (.returned (.tuple #[t559, (.int .i64 0), (.int .i64 180)])) w558) w554) (ldW (some 5) t30 w554 fun t561 => stW 5 t2 t561 (fun w562 => ldW (some 5) t2 w562 fun t563 => R (.returned (.tuple #[t563, t37, (.int .i64 0)])) w562) w554)) (fun c w => R (.panicked c) w) w480)) (fun c w => R (.panicked c) w) w478)) (fun c w => R (.panicked c) w) w476)) (fun c w => R (.panicked c) w) w380) w367) (callW PG N.linesmanref08_in [t15, (.int .u8 105)] (fun t566 w567 => condV t566 (pu PG (Instr.sliceAt T.t_sl_uint8 x0 (some t57) none none) fun t573 => callW PG N.linesmanref01_ReadFixed [t573, (.int .i64 4)] (fun t574 w575 => exW 0 t574 fun t576 => exW 1 t574 fun t577 => pu PG (convert T.t_uint64 T.t_uint32 t576) fun t578 => faW 4 t30 fun t579 => stW 1 t579 t578 (fun w580 => ldW (some 5) t30 w580 fun t601 => callW PG N.linesmanref08_Right [t601] (fun t602 w603 => pu PG (Op.unary .not t602) fun t604 => condV t604 (pu PG (Instr.build T.t_api_Ins #[]) fun t606 => stW 5 t2 t606 (fun w607 => ldW (some 5) t2 w607 fun t608 => R (.returned (.tuple #[t608, (.int .i64 0), (.int .i64 180)])) w607) w603) (ldW (some 5) t30 w603 fun t610 => stW 5 t2 t610 (fun w611 => ldW (some 5) t2 w611 fun t612 => R (.returned (.tuple #[t612, t37, (.int .i64 0)])) w611) w603)) (fun c w => R (.panicked c) w) w580) w575) (fun c w => R (.panicked c) w) w567) (callW PG N.linesmanref08_in [t15, (.int .u8 102)] (fun t568 w569 => condV t568 (pu PG (Instr.sliceAt T.t_sl_uint8 x0 (some t57) none none) fun t582 => callW PG N.linesmanref01_ReadFixed [t582, (.int .i64 4)] (fun t583 w584 => exW 0 t583 fun t585 => exW 1 t583 fun t586 => pu PG (convert T.t_uint64 T.t_uint32 t585) fun t587 => faW 4 t30 fun t588 => stW 1 t588 t587 (fun w589 => ldW (some 5) t30 w589 fun t615 => callW PG N.linesmanref08_Right [t615] (fun t616 w617 => pu PG (Op.unary .not t616) fun t618 => condV t618 (pu PG (Instr.build T.t_api_Ins #[]) fun t620 => stW 5 t2 t620 (fun w621 => ldW (some 5) t2 w621 fun t622 => R (.returned (.tuple #[t622, (.int .i64 0), (.int .i64 180)])) w621) w617) (ldW (some 5) t30 w617 fun t624 => stW 5 t2 t624 (fun w625 => ldW (some 5) t2 w625 fun t626 => R (.returned (.tuple #[t626, t37, (.int .i64 0)])) w625) w617)) (fun c w => R (.panicked c) w) w589) w584) (fun c w => R (.panicked c) w) w569) (callW PG N.linesmanref08_in [t15, (.int .u8 107)] (fun t570 w571 => condV t570 (pu PG (Instr.sliceAt T.t_sl_uint8 x0 (some t57) none none) fun t591 => callW PG N.linesmanref01_ReadFixed [t591, (.int .i64 4)] (fun t592 w593 => exW 0 t592 fun t594 => exW 1 t592 fun t595 => pu PG (convert T.t_uint64 T.t_uint32 t594) fun t596 => faW 4 t30 fun t597 => stW 1 t597 t596 (fun w598 => ldW (some 5) t30 w598 fun t629 => callW PG N.linesmanref08_Right [t629] (fun t630 w631 => pu PG (Op.unary .not t630) fun t632 => condV t632 (pu PG (Instr.build T.t_api_Ins #[]) fun t634 => stW 5 t2 t634 (fun w635 => ldW (some 5) t2 w635 fun t636 => R (.returned (.tuple #[t636, (.int .i64 0), (.int .i64 180)])) w635) w631) (ldW (some 5) t30 w631 fun t638 => stW 5 t2 t638 (fun w639 => ldW (some 5) t2 w639 fun t640 => R (.returned (.tuple #[t640, t37, (.int .i64 0)])) w639) w631)) (fun c w => R (.panicked c) w) w598) w593) (fun c w => R (.panicked c) w) w571) (ldW (some 5) t30 w571 fun t643 => callW PG N.linesmanref08_Right [t643] (fun t644 w645 => pu PG (Op.unary .not t644) fun t646 => condV t646 (pu PG (Instr.build T.t_api_Ins #[]) fun t648 => stW 5 t2 t648 (fun w649 => ldW (some 5) t2 w649 fun t650 => R (.returned (.tuple #[t650, (.int .i64 0), (.int .i64 180)])) w649) w645) (ldW (some 5) t30 w645 fun t652 => stW 5 t2 t652 (fun w653 => ldW (some 5) t2 w653 fun t654 => R (.returned (.tuple #[t654, t37, (.int .i64 0)])) w653) w645)) (fun c w => R (.panicked c) w) w571)) (fun c w => R (.panicked c) w) w569)) (fun c w => R (.panicked c) w) w567)) (fun c w => R (.panicked c) w) w367)) (fun c w => R (.panicked c) w) w365)) (fun c w => R (.panicked c) w) w61)) (fun c w => R (.panicked c) w) w56) w50) (callW PG N.linesmanref08_in [t15, (.int .u8 98)] (fun t657 w658 => condV t657 (ixS 1 x0 (.int .i64 1) fun t660 => ldW none t660 w658 fun t661 => pu PG (convert T.t_uint8 T.t_int t661) fun t662 => faW 2 t30 fun t663 => stW 1 t663 t662 (fun w664 => pu PG (binV .add T.t_int true (.int .i64 1) (.int .i64 1)) fun t665 => callW PG N.linesmanref08_in [t15, (.int .u8 110)] (fun t668 w669 => condV t668 (ixS 1 x0 t665 fun t673 => ldW none t673 w669 fun t674 => pu PG (convert T.t_uint8 T.t_int t674) fun t675 => faW 3 t30 fun t676 => stW 1 t676 t675 (fun w677 => pu PG (binV .add T.t_int true t665 (.int .i64 1)) fun t678 => callW PG N.linesmanref08_in [t15, (.int .u8 105)] (fun t688 w689 => condV t688 (pu PG (Instr.sliceAt T.t_sl_uint8 x0 (some t678) none none) fun t695 => callW PG N.linesmanref01_ReadFixed [t695, (.int .i64 4)] (fun t696 w697 => exW 0 t696 fun t698 => exW 1 t696 fun t699 => pu PG (convert T.t_uint64 T.t_uint32 t698) fun t700 => faW 4 t30 fun t701 => stW 1 t701 t700 (fun w702 => ldW (some 5) t30 w702 fun t723 => callW PG N.linesmanref08_Right [t723] (fun t724 w725 => pu PG (Op.unary .not t724) fun t726 => condV t726 (pu PG (Instr.build T.t_api_Ins #[]) fun t728 => stW 5 t2 t728 (fun w729 => ldW (some 5) t2 w729 fun t730 => R (.returned (.tuple #[t730, (.int .i64 0), (.int .i64 180)])) w729) w725) (ldW (some 5) t30 w725 fun t732 => stW 5 t2 t732 (fun w733 => ldW (some 5) t2 w733 fun t734 => R (.returned (.tuple #[t734, t37, (.int .i64 0)])) w733) w725)) (fun c w => R (.panicked c) w) w702) w697) (fun c w => R (.panicked c) w) w689) (callW PG N.linesmanref08_in [t15, (.int .u8 102)] (fun t690 w691 => condV t690 (pu PG (Instr.sliceAt T.t_sl_uint8 x0 (some t678) none none) fun t704 => callW PG N.linesmanref01_ReadFixed [t704, (.int .i64 4)] (fun t705 w706 => exW 0 t705 fun t707 => exW 1 t705 fun t708 => pu PG (convert T.t_uint64 T.t_uint32 t707) fun t709 => faW 4 t30 fun t710 => stW 1 t710 t709 (fun w711 => ldW (some 5) t30 w711 fun t737 => callW PG N.linesmanref08_Right [t737] (fun t738 w739 => pu PG (Op.unary .not t738) fun t740 => condV t740 (pu PG (Instr.build T.t_api_Ins #[]) fun t742 => stW 5 t2 t742 (fun w743 => ldW (some 5) t2 w743 fun t744 => R (.returned (.tuple #[t744, (.int .i64 0), (.int .i64 180)])) w743) w739) (ldW (some 5) t30 w739 fun t746 => stW 5 t2 t746 (fun w747 => ldW (some 5) t2 w747 fun t748 => R (.returned (.tuple #[t748, t37, (.int .i64 0)])) w747) w739)) (fun c w => R (.panicked c) w) w711) w706) (fun c w => R (.panicked c) w) w691) (callW PG N.linesmanref08_in [t15, (.int .u8 107)] (fun t692 w693 => condV t692 (pu PG (Instr.sliceAt T.t_sl_uint8 x0 (some t678) none none) fun t713 => callW PG N.linesmanref01_ReadFixed [t713, (.int .i64 4)] (fun t714 w715 => exW 0 t714 fun t716 => exW 1 t714 fun t717 => pu PG (convert T.t_uint64 T.t_uint32 t716) fun t718 => faW 4 t30 fun t719 => stW 1 t719 t718 (fun w720 => ldW (some 5) t30 w720 fun t751 => callW PG N.linesmanref08_Right [t751] (fun t752 w753 => pu PG (Op.unary .not t752) fun t754 => condV t754 (pu PG (Instr.build T.t_api_Ins #[]) fun t756 => stW 5 t2 t756 (fun w757 => ldW (some 5) t2 w757 fun t758 => R (.returned (.tuple #[t758, (.int .i64 0), (.int .i64 180)])) w757) w753) (ldW (some 5) t30 w753 fun t760 => stW 5 t2 t760 (fun w761 => ldW (some 5) t2 w761 fun t762 => R (.returned (.tuple #[t762, t37, (.int .i64 0)])) w761) w753)) (fun c w => R (.panicked c) w) w720) w715) (fun c w => R (.panicked c) w) w693) (ldW (some 5) t30 w693 fun t765 => callW PG N.linesmanref08_Right [t765] (fun t766 w767 => pu PG (Op.unary .not t766) fun t768 => condV t768 (pu PG (Instr.build T.t_api_Ins #[]) fun t770 => stW 5 t2 t770 (fun w771 => ldW (some 5) t2 w771 fun t772 => R (.returned (.tuple #[t772, (.int .i64 0), (.int .i64 180)])) w771) w767) (ldW (some 5) t30 w767 fun t774 => stW 5 t2 t774 (fun w775 => ldW (some 5) t2 w775 fun t776 => R (.returned (.tuple #[t776, t37, (.int .i64 0)])) w775) w767)) (fun c w => R (.panicked c) w) w693)) (fun c w => R (.panicked c) w) w691)) (fun c w => R (.panicked c) w) w689)) (fun c w => R (.panicked c) w) w677) w669) (callW PG N.linesmanref08_in [t15, (.int .u8 107)] (fun t670 w671 => condV t670 (ixS 1 x0 t665 fun t680 => ldW none t680 w671 fun t681 => pu PG (convert T.t_uint8 T.t_int t681) fun t682 => faW 3 t30 fun t683 => stW 1 t683 t682 (fun w684 => pu PG (binV .add T.t_int true t665 (.int .i64 1)) fun t685 => callW PG N.linesmanref08_in [t15, (.int .u8 105)] (fun t779 w780 => condV t779 (pu PG (Instr.sliceAt T.t_sl_uint8 x0 (some t685) none none) fun t786 => callW PG N.linesmanref01_ReadFixed [t786, (.int .i64 4)] (fun t787 w788 => exW 0 t787 fun t789 => exW 1 t787 fun t790 => pu PG (convert T.t_uint64 T.t_uint32 t789) fun t791 => faW 4 t30 fun t792 => stW 1 t792 t791 (fun w793 => ldW (some 5) t30 w793 fun t814 => callW PG N.linesmanref08_Right [t814] (fun t815 w816 => pu PG (Op.unary .not t815) fun t817 => condV t817 (pu PG (Instr.build T.t_api_Ins #[]) fun t819 => stW 5 t2 t819 (fun w820 => ldW (some 5) t2 w820 fun t821 => R (.returned (.tuple #[t821, (.int .i64 0), (.int .i64 180)])) w820) w816) (ldW (some 5) t30 w816 fun t823 => stW 5 t2 t823 (fun w824 => ldW (some 5) t2 w824 fun t825 => R (.returned (.tuple #[t825, t37, (.int .i64 0)])) w824) w816)) (fun c w => R (.panicked c) w) w793) w788) (fun c w => R (.panicked c) w) w780) (callW PG N.linesmanref08_in [t15, (.int .u8 102)] (fun t781 w782 => condV t781 (pu PG (Instr.sliceAt T.t_sl_uint8 x0 (some t685) none none) fun t795 => callW PG N.linesmanref01_ReadFixed [t795, (.int .i64 4)] (fun t796 w797 => exW 0 t796 fun t798 => exW 1 t796 fun t799 => pu PG (convert T.t_uint64 T.t_uint32 t798) fun t800 => faW 4 t30 fun t801 => stW 1 t801 t800 (fun w802 => ldW (some 5) t30 w802 fun t828 => callW PG N.linesmanref08_Right [t828] (fun t829 w830 => pu PG (Op.unary .not t829) fun t831 => condV t831 (pu PG (Instr.build T.t_api_Ins #[]) fun t833 => stW 5 t2 t833 (fun w834 => ldW (some 5) t2 w834 fun t835 => R (.returned (.tuple #[t835, (.int .i64 0), (.int .i64 180)])) w834) w830) (ldW (some 5) t30 w830 fun t837 => stW 5 t2 t837 (fun w838 => ldW (some 5) t2 w838 fun t839 => R (.returned (.tuple #[t839, t37, (.int .i64 0)])) w838) w830)) (fun c w => R (.panicked c) w) w802) w797) (fun c w => R (.panicked c) w) w782) (callW PG N.linesmanref08_in [t15, (.int .u8 107)] (fun t783 w784 => condV t783 (pu PG (Instr.sliceAt T.t_sl_uint8 x0 (some t685) none none) fun t804 => callW PG N.linesmanref01_ReadFixed [t804, (.int .i64 4)] (fun t805 w806 => exW 0 t805 fun t807 => exW 1 t805 fun t808 => pu PG (convert T.t_uint64 T.t_uint32 t807) fun t809 => faW 4 t30 fun t810 => stW 1 t810 t809 (fun w811 => ldW (some 5) t30 w811 fun t842 => callW PG N.linesmanref08_Right [t842] (fun t843 w844 => pu PG (Op.unary .not t843) fun t845 => condV t845 (pu PG (Instr.build T.t_api_Ins #[]) fun t847 => stW 5 t2 t847 (fun w848 => ldW (some 5) t2 w848 fun t849 => R (.returned (.tuple #[t849, (.int .i64 0), (.int .i64 180)])) w848) w844) (ldW (some 5) t30 w844 fun t851 => stW 5 t2 t851 (fun w852 => ldW (some 5) t2 w852 fun t853 => R (.returned (.tuple #[t853, t37, (.int .i64 0)])) w852) w844)) (fun c w => R (.panicked c) w) w811) w806) (fun c w => R (.panicked c) w) w784) (ldW (some 5) t30 w784 fun t856 => callW PG N.linesmanref08_Right [t856] (fun t857 w858 => pu PG (Op.unary .not t857) fun t859 => condV t859 (pu PG (Instr.build T.t_api_Ins #[]) fun t861 => stW 5 t2 t861 (fun w862 => ldW (some 5) t2 w862 fun t863 => R (.returned (.tuple #[t863, (.int .i64 0), (.int .i64 180)])) w862) w858) (ldW (some 5) t30 w858 fun t865 => stW 5 t2 t865 (fun w866 => ldW (some 5) t2 w866 fun t867 => R (.returned (.tuple #[t867, t37, (.int .i64 0)])) w866) w858)) (fun c w => R (.panicked c) w) w784)) (fun c w => R (.panicked c) w) w782)) (fun c w => R (.panicked c) w) w780)) (fun c w => R (.panicked c) w) w684) w671) (callW PG N.linesmanref08_in [t15, (.int .u8 105)] (fun t870 w871 => condV t870 (pu PG (Instr.sliceAt T.t_sl_uint8 x0 (some t665) none none) fun t877 => callW PG N.linesmanref01_ReadFixed [t877, (.int .i64 4)] (fun t878 w879 => exW 0 t878 fun t880 => exW 1 t878 fun t881 => pu PG (convert T.t_uint64 T.t_uint32 t880) fun t882 => faW 4 t30 fun t883 => stW 1 t883 t882 (fun w884 => ldW (some 5) t30 w884 fun t905 => callW PG N.linesmanref08_Right [t905] (fun t906 w907 => pu PG (Op.unary .not t906) fun t908 => condV t908 (pu PG (Instr.build T.t_api_Ins #[]) fun t910 => stW 5 t2 t910 (fun w911 => ldW (some 5) t2 w911 fun t912 => R (.returned (.tuple #[t912, (.int .i64 0), (.int .i64 180)])) w911) w907) (ldW (some 5) t30 w907 fun t914 => stW 5 t2 t914 (fun w915 => ldW (some 5) t2 w915 fun t916 => R (.returned (.tuple #[t916, t37, (.int .i64 0)])) w915) w907)) (fun c w => R (.panicked c) w) w884) w879) (fun c w => R (.panicked c) w) w871) (callW PG N.linesmanref08_in [t15, (.int .u8 102)] (fun t872 w873 => condV t872 (pu PG (Instr.sliceAt T.t_sl_uint8 x0 (some t665) none none) fun t886 => callW PG N.linesmanref01_ReadFixed [t886, (.int .i64 4)] (fun t887 w888 => exW 0 t887 fun t889 => exW 1 t887 fun t890 => pu PG (convert T.t_uint64 T.t_uint32 t889) fun t891 => faW 4 t30 fun t892 => stW 1 t892 t891 (fun w893 => ldW (some 5) t30 w893 fun t919 => callW PG N.linesmanref08_Right [t919] (fun t920 w921 => pu PG (Op.unary .not t920) fun t922 => condV t922 (pu PG (Instr.build T.t_api_Ins #[]) fun t924 => stW 5 t2 t924 (fun w925 => ldW (some 5) t2 w925 fun t926 => R (.returned (.tuple #[t926, (.int .i64 0), (.int .i64 180)])) w925) w921) (ldW (some 5) t30 w921 fun t928 => stW 5 t2 t928 (fun w929 => ldW (some 5) t2 w929 fun t930 => R (.returned (.tuple #[t930, t37, (.int .i64 0)])) w929) w921)) (fun c w => R (.panicked c) w) w893) w888) (fun c w => R (.panicked c) w) w873) (callW PG N.linesmanref08_in [t15, (.int .u8 107)] (fun t874 w875 => condV t874 (pu PG (Instr.sliceAt T.t_sl_uint8 x0 (some t665) none none) fun t895 => callW PG N.linesmanref01_ReadFixed [t895, (.int .i64 4)] (fun t896 w897 => exW 0 t896 fun t898 => exW 1 t896 fun t899 => pu PG (convert T.t_uint64 T.t_uint32 t898) fun t900 => faW 4 t30 fun t901 => stW 1 t901 t900 (fun w902 => ldW (some 5) t30 w902 fun t933 => callW PG N.linesmanref08_Right [t933] (fun t934 w935 => pu PG (Op.unary .not t934) fun t936 => condV t936 (pu PG (Instr.build T.t_api_Ins #[]) fun t938 => stW 5 t2 t938 (fun w939 => ldW (some 5) t2 w939 fun t940 => R (.returned (.tuple #[t940, (.int .i64 0), (.int .i64 180)])) w939) w935) (ldW (some 5) t30 w935 fun t942 => stW 5 t2 t942 (fun w943 => ldW (some 5) t2 w943 fun t944 => R (.returned (.tuple #[t944, t37, (.int .i64 0)])) w943) w935)) (fun c w => R (.panicked c) w) w902) w897) (fun c w => R (.panicked c) w) w875) (ldW (some 5) t30 w875 fun t947 => callW PG N.linesmanref08_Right [t947] (fun t948 w949 => pu PG (Op.unary .not t948) fun t950 => condV t950 (pu PG (Instr.build T.t_api_Ins #[]) fun t952 => stW 5 t2 t952 (fun w953 => ldW (some 5) t2 w953 fun t954 => R (.returned (.tuple #[t954, (.int .i64 0), (.int .i64 180)])) w953) w949) (ldW (some 5) t30 w949 fun t956 => stW 5 t2 t956 (fun w957 => ldW (some 5) t2 w957 fun t958 => R (.returned (.tuple #[t958, t37, (.int .i64 0)])) w957) w949)) (fun c w => R (.panicked c) w) w875)) (fun c w => R (.panicked c) w) w873)) (fun c w => R (.panicked c) w) w871)) (fun c w => R (.panicked c) w) w671)) (fun c w => R (.panicked c) w) w669)) (fun c w => R (.panicked c) w) w664) w658) (callW PG N.linesmanref08_in [t15, (.int .u8 110)] (fun t961 w962 => condV t961 (ixS 1 x0 (.int .i64 1) fun t966 => ldW none t966 w962 fun t967 => pu PG (convert T.t_uint8 T.t_int t967) fun t968 => faW 3 t30 fun t969 => stW 1 t969 t968 (fun w970 => pu PG (binV .add T.t_int true (.int .i64 1) (.int .i64 1)) fun t971 => callW PG N.linesmanref08_in [t15, (.int .u8 105)] (fun t981 w982 => condV t981 (pu PG (Instr.sliceAt T.t_sl_uint8 x0 (some t971) none none) fun t988 => callW PG N.linesmanref01_ReadFixed [t988, (.int .i64 4)] (fun t989 w990 => exW 0 t989 fun t991 => exW 1 t989 fun t992 => pu PG (convert T.t_uint64 T.t_uint32 t991) fun t993 => faW 4 t30 fun t994 => stW 1 t994 t993 (fun w995 => ldW (some 5) t30 w995 fun t1016 => callW PG N.linesmanref08_Right [t1016] (fun t1017 w1018 => pu PG (Op.unary .not t1017) fun t1019 => condV t1019 (pu PG (Instr.build T.t_api_Ins #[]) fun t1021 => stW 5 t2 t1021 (fun w1022 => ldW (some 5) t2 w1022 fun t1023 => R (.returned (.tuple #[t1023, (.int .i64 0), (.int .i64 180)])) w1022) w1018) (ldW (some 5) t30 w1018 fun t1025 => stW 5 t2 t1025 (fun w1026 => ldW (some 5) t2 w1026 fun t1027 => R (.returned (.tuple #[t1027, t37, (.int .i64 0)])) w1026) w1018)) (fun c w => R (.panicked c) w) w995) w990) (fun c w => R (.panicked c) w) w982) (callW PG N.linesmanref08_in [t15, (.int .u8 102)] (fun t983 w984 => condV t983 (pu PG (Instr.sliceAt T.t_sl_uint8 x0 (some t971) none none) fun t997 => callW PG N.linesmanref01_ReadFixed [t997, (.int .i64 4)] (fun t998 w999 => exW 0 t998 fun t1000 => exW 1 t998 fun t1001 => pu PG (convert T.t_uint64 T.t_uint32 t1000) fun t1002 => faW 4 t30 fun t1003 => stW 1 t1003 t1002 (fun w1004 => ldW (some 5) t30 w1004 fun t1030 => callW PG N.linesmanref08_Right [t1030] (fun t1031 w1032 => pu PG (Op.unary .not t1031) fun t1033 => condV t1033 (pu PG (Instr.build T.t_api_Ins #[]) fun t1035 => stW 5 t2 t1035 (fun w1036 => ldW (some 5) t2 w1036 fun t1037 => R (.returned (.tuple #[t1037, (.int .i64 0), (.int .i64 180)])) w1036) w1032) (ldW (some 5) t30 w1032 fun t1039 => stW 5 t2 t1039 (fun w1040 => ldW (some 5) t2 w1040 fun t1041 => R (.returned (.tuple #[t1041, t37, (.int .i64 0)])) w1040) w1032)) (fun c w => R (.panicked c) w) w1004) w999) (fun c w => R (.panicked c) w) w984) (callW PG N.linesmanref08_in [t15, (.int .u8 107)] (fun t985 w986 => condV t985 (pu PG (Instr.sliceAt T.t_sl_uint8 x0 (some t971) none none) fun t1006 => callW PG N.linesmanref01_ReadFixed [t1006, (.int .i64 4)] (fun t1007 w1008 => exW 0 t1007 fun t1009 => exW 1 t1007 fun t1010 => pu PG (convert T.t_uint64 T.t_uint32 t1009) fun t1011 => faW 4 t30 fun t1012 => stW 1 t1012 t1011 (fun w1013 => ldW (some 5) t30 w1013 fun t1044 => callW PG N.linesmanref08_Right [t1044] (fun t1045 w1046 => pu PG (Op.unary .not t1045) fun t1047 => condV t1047 (pu PG (Instr.build T.t_api_Ins #[]) fun t1049 => stW 5 t2 t1049 (fun w1050 => ldW (some 5) t2 w1050 fun t1051 => R (.returned (.tuple #[t1051, (.int .i64 0), (.int .i64 180)])) w1050) w1046) (ldW (some 5) t30 w1046 fun t1053 => stW 5 t2 t1053 (fun w1054 => ldW (some 5) t2 w1054 fun t1055 => R (.returned (.tuple #[t1055, t37, (.int .i64 0)])) w1054) w1046)) (fun c w => R (.panicked c) w) w1013) w1008) (fun c w => R (.panicked c) w) w986) (ldW (some 5) t30 w986 fun t1058 => callW PG N.linesmanref08_Right [t1058] (fun t1059 w1060 => pu PG (Op.unary .not t1059) fun t1061 => condV t1061 (pu PG (Instr.build T.t_api_Ins #[]) fun t1063 => stW 5 t2 t1063 (fun w1064 => ldW (some 5) t2 w1064 fun t1065 => R (.returned (.tuple #[t1065, (.int .i64 0), (.int .i64 180)])) w1064) w1060) (ldW (some 5) t30 w1060 fun t1067 => stW 5 t2 t1067 (fun w1068 => ldW (some 5) t2 w1068 fun t1069 => R (.returned (.tuple #[t1069, t37, (.int .i64 0)])) w1068) w1060)) (fun c w => R (.panicked c) w) w986)) (fun c w => R (.panicked c) w) w984)) (fun c w => R (.panicked c) w) w982)) (fun c w => R (.panicked c) w) w970) w962) (callW PG N.linesmanref08_in [t15, (.int .u8 107)] (fun t963 w964 => condV t963 (ixS 1 x0 (.int .i64 1) fun t973 => ldW none t973 w964 fun t974 => pu PG (convert T.t_uint8 T.t_int t974) fun t975 => faW 3 t30 fun t976 => stW 1 t976 t975 (fun w977 => pu PG (binV .add T.t_int true (.int .i64 1) (.int .i64 1)) fun t978 => callW PG N.linesmanref08_in [t15, (.int .u8 105)] (fun t1072 w1073 => condV t1072 (pu PG (Instr.sliceAt T.t_sl_uint8 x0 (some t978) none none) fun t1079 => callW PG N.linesmanref01_ReadFixed [t1079, (.int .i64 4)] (fun t1080 w1081 => exW 0 t1080 fun t1082 => exW 1 t1080 fun t1083 => pu PG (convert T.t_uint64 T.t_uint32 t1082) fun t1084 => faW 4 t30 fun t1085 => stW 1 t1085 t1084 (fun w1086 => ldW (some 5) t30 w1086 fun t1107 => callW PG N.linesmanref08_Right [t1107] (fun t1108 w1109 => pu PG (Op.unary .not t1108) fun t1110 => condV t1110 (pu PG (Instr.build T.t_api_Ins #[]) fun t1112 => stW 5 t2 t1112 (fun w1113 => ldW (some 5) t2 w1113 fun t1114 => R (.returned (.tuple #[t1114, (.int .i64 0), (.int .i64 180)])) w1113) w1109) (ldW (some 5) t30 w1109 fun t1116 => stW 5 t2 t1116 (fun w1117 => ldW (some 5) t2 w1117 fun t1118 => R (.returned (.tuple #[t1118, t37, (.int .i64 0)])) w1117) w1109)) (fun c w => R (.panicked c) w) w1086) w1081) (fun c w => R (.panicked c) w) w1073) (callW PG N.linesmanref08_in [t15, (.int .u8 102)] (fun t1074 w1075 => condV t1074 (pu PG (Instr.sliceAt T.t_sl_uint8 x0 (some t978) none none) fun t1088 => callW PG N.linesmanref01_ReadFixed [t1088, (.int .i64 4)] (fun t1089 w1090 => exW 0 t1089 fun t1091 => exW 1 t1089 fun t1092 => pu PG (convert T.t_uint64 T.t_uint32 t1091) fun t1093 => faW 4 t30 fun t1094 => stW 1 t1094 t1093 (fun w1095 => ldW (some 5) t30 w1095 fun t1121 => callW PG N.linesmanref08_Right [t1121] (fun t1122 w1123 => pu PG (Op.unary .not t1122) fun t1124 => condV t1124 (pu PG (Instr.build T.t_api_Ins #[]) fun t1126 => stW 5 t2 t1126 (fun w1127 => ldW (some 5) t2 w1127 fun t1128 => R (.returned (.tuple #[t1128, (.int .i64 0), (.int .i64 180)])) w1127) w1123) (ldW (some 5) t30 w1123 fun t1130 => stW 5 t2 t1130 (fun w1131 => ldW (some 5) t2 w1131 fun t1132 => R (.returned (.tuple #[t1132, t37, (.int .i64 0)])) w1131) w1123)) (fun c w => R (.panicked c) w) w1095) w1090) (fun c w => R (.panicked c) w) w1075) (callW PG N.linesmanref08_in [t15, (.int .u8 107)] (fun t1076 w1077 => condV t1076 (pu PG (Instr.sliceAt T.t_sl_uint8 x0 (some t978) none none) fun t1097 => callW PG N.linesmanref01_ReadFixed [t1097, (.int .i64 4)] (fun t1098 w1099 => exW 0 t1098 fun t1100 => exW 1 t1098 fun t1101 => pu PG (convert T.t_uint64 T.t_uint32 t1100) fun t1102 => faW 4 t30 fun t1103 => stW 1 t1103 t1102 (fun w1104 => ldW (some 5) t30 w1104 fun t1135 => callW PG N.linesmanref08_Right [t1135] (fun t1136 w1137 => pu PG (Op.unary .not t1136) fun t1138 => condV t1138 (pu PG (Instr.build T.t_api_Ins #[]) fun t1140 => stW 5 t2 t1140 (fun w1141 => ldW (some 5) t2 w1141 fun t1142 => R (.returned (.tuple #[t1142, (.int .i64 0), (.int .i64 180)])) w1141) w1137) (ldW (some 5) t30 w1137 fun t1144 => stW 5 t2 t1144 (fun w1145 => ldW (some 5) t2 w1145 fun t1146 => R (.returned (.tuple #[t1146, t37, (.int .i64 0)])) w1145) w1137)) (fun c w => R (.panicked c) w) w1104) w1099) (fun c w => R (.panicked c) w) w1077) (ldW (some 5) t30 w1077 fun t1149 => callW PG N.linesmanref08_Right [t1149] (fun t1150 w1151 => pu PG (Op.unary .not t1150) fun t1152 => condV t1152 (pu PG (Instr.build T.t_api_Ins #[]) fun t1154 => stW 5 t2 t1154 (fun w1155 => ldW (some 5) t2 w1155 fun t1156 => R (.returned (.tuple #[t1156, (.int .i64 0), (.int .i64 180)])) w1155) w1151) (ldW (some 5) t30 w1151 fun t1158 => stW 5 t2 t1158 (fun w1159 => ldW (some 5) t2 w1159 fun t1160 => R (.returned (.tuple #[t1160, t37, (.int .i64 0)])) w1159) w1151)) (fun c w => R (.panicked c) w) w1077)) (fun c w => R (.panicked c) w) w1075)) (fun c w => R (.panicked c) w) w1073)) (fun c w => R (.panicked c) w) w977) w964) (callW PG N.linesmanref08_in [t15, (.int .u8 105)] (fun t1163 w1164 => condV t1163 (pu PG (Instr.sliceAt T.t_sl_uint8 x0 (some (.int .i64 1)) none none) fun t1170 => callW PG N.linesmanref01_ReadFixed [t1170, (.int .i64 4)] (fun t1171 w1172 => exW 0 t1171 fun t1173 => exW 1 t1171 fun t1174 => pu PG (convert T.t_uint64 T.t_uint32 t1173) fun t1175 => faW 4 t30 fun t1176 => stW 1 t1176 t1175 (fun w1177 => ldW (some 5) t30 w1177 fun t1198 => callW PG N.linesmanref08_Right [t1198] (fun t1199 w1200 => pu PG (Op.unary .not t1199) fun t1201 => condV t1201 (pu PG (Instr.build T.t_api_Ins #[]) fun t1203 => stW 5 t2 t1203 (fun w1204 => ldW (some 5) t2 w1204 fun t1205 => R (.returned (.tuple #[t1205, (.int .i64 0), (.int .i64 180)])) w1204) w1200) (ldW (some 5) t30 w1200 fun t1207 => stW 5 t2 t1207 (fun w1208 => ldW (some 5) t2 w1208 fun t1209 => R (.returned (.tuple #[t1209, t37, (.int .i64 0)])) w1208) w1200)) (fun c w => R (.panicked c) w) w1177) w1172) (fun c w => R (.panicked c) w) w1164) (callW PG N.linesmanref08_in [t15, (.int .u8 102)] (fun t1165 w1166 => condV t1165 (pu PG (Instr.sliceAt T.t_sl_uint8 x0 (some (.int .i64 1)) none none) fun t1179 => callW PG N.linesmanref01_ReadFixed [t1179, (.int .i64 4)] (fun t1180 w1181 => exW 0 t1180 fun t1182 => exW 1 t1180 fun t1183 => pu PG (convert T.t_uint64 T.t_uint32 t1182) fun t1184 => faW 4 t30 fun t1185 => stW 1 t1185 t1184 (fun w1186 => ldW (some 5) t30 w1186 fun t1212 => callW PG N.linesmanref08_Right [t1212] (fun t1213 w1214 => pu PG (Op.unary .not t1213) fun t1215 => condV t1215 (pu PG (Instr.build T.t_api_Ins #[]) fun t1217 => stW 5 t2 t1217 (fun w1218 => ldW (some 5) t2 w1218 fun t1219 => R (.returned (.tuple #[t1219, (.int .i64 0), (.int .i64 180)])) w1218) w1214) (ldW (some 5) t30 w1214 fun t1221 => stW 5 t2 t1221 (fun w1222 => ldW (some 5) t2 w1222 fun t1223 => R (.returned (.tuple #[t1223, t37, (.int .i64 0)])) w1222) w1214)) (fun c w => R (.panicked c) w) w1186) w1181) (fun c w => R (.panicked c) w) w1166) (callW PG N.linesmanref08_in [t15, (.int .u8 107)] (fun t1167 w1168 => condV t1167 (pu PG (Instr.sliceAt T.t_sl_uint8 x0 (some (.int .i64 1)) none none) fun t1188 => callW PG N.linesmanref01_ReadFixed [t1188, (.int .i64 4)] (fun t1189 w1190 => exW 0 t1189 fun t1191 => exW 1 t1189 fun t1192 => pu PG (convert T.t_uint64 T.t_uint32 t1191) fun t1193 => faW 4 t30 fun t1194 => stW 1 t1194 t1193 (fun w1195 => ldW (some 5) t30 w1195 fun t1226 => callW PG N.linesmanref08_Right [t1226] (fun t1227 w1228 => pu PG (Op.unary .not t1227) fun t1229 => condV t1229 (pu PG (Instr.build T.t_api_Ins #[]) fun t1231 => stW 5 t2 t1231 (fun w1232 => ldW (some 5) t2 w1232 fun t1233 => R (.returned (.tuple #[t1233, (.int .i64 0), (.int .i64 180)])) w1232) w1228) (ldW (some 5) t30 w1228 fun t1235 => stW 5 t2 t1235 (fun w1236 => ldW (some 5) t2 w1236 fun t1237 => R (.returned (.tuple #[t1237, t37, (.int .i64 0)])) w1236) w1228)) (fun c w => R (.panicked c) w) w1195) w1190) (fun c w => R (.panicked c) w) w1168) (ldW (some 5) t30 w1168 fun t1240 => callW PG N.linesmanref08_Right [t1240] (fun t1241 w1242 => pu PG (Op.unary .not t1241) fun t1243 => condV t1243 (pu PG (Instr.build T.t_api_Ins #[]) fun t1245 => stW 5 t2 t1245 (fun w1246 => ldW (some 5) t2 w1246 fun t1247 => R (.returned (.tuple #[t1247, (.int .i64 0), (.int .i64 180)])) w1246) w1242) (ldW (some 5) t30 w1242 fun t1249 => stW 5 t2 t1249 (fun w1250 => ldW (some 5) t2 w1250 fun t1251 => R (.returned (.tuple #[t1251, t37, (.int .i64 0)])) w1250) w1242)) (fun c w => R (.panicked c) w) w1168)) (fun c w => R (.panicked c) w) w1166)) (fun c w => R (.panicked c) w) w1164)) (fun c w => R (.panicked c) w) w964)) (fun c w => R (.panicked c) w) w962)) (fun c w => R (.panicked c) w) w658)) (fun c w => R (.panicked c) w) w50)) (fun c w => R (.panicked c) w) w36)) (fun c w => R (.panicked c) w) w32) w31) w3)))) w
theorem C_eq (R : Ending → World → Prop) (x0 : Value) (w : World) : fnW PG note 400 Tryz.f173 [x0] R w = C R x0 w := by kernel_rfl
theorem ok {R : Ending → World → Prop} {x0 : Value} {w : World} (h : C R x0 w) : Calls PG N.linesmanref08_Read #[x0] w R :=
  fnW_sound mixed Tryz.func173 (args := [x0]) (by rw [C_eq]; exact h)
end linesmanref08_Read
namespace fiber_gathered_uint32
theorem okf : okFn PG N.fiber_gathered_uint32 = true := by kernel_rfl
def note : Note := ⟨[(0, [6, 9])], []⟩
def C (R : Ending → World → Prop) (x0 x1 x2 : Value) (w : World) : Prop :=
  LoopW [(.slice none 0 0), (.int .i64 0)] (fun l5 N6 w7 => ∀ j4 : S, pu PG (binV .lss T.t_int false (gv l5 1) x1) fun t9 => condV t9 (pu PG (binV .add T.t_int false x0 (gv l5 1)) fun t13 => callV PG x2 [t13] (fun t14 w15 => bsW T.t_uint32 1 (bsC PG T.t_uint32 1 [(0, t14)]) (fun t16 w17 => opW PG (Builtin.append_ #[T.t_sl_uint32, T.t_sl_uint32] T.t_sl_uint32 #[(gv l5 0), t16]) (fun t18 w19 => pu PG (binV .add T.t_int true (gv l5 1) (.int .i64 1)) fun t20 => N6 [t18, t20] w19) w17) w15) (fun c w => R (.panicked c) w) w7) (R (.returned (gv l5 0)) w7)) w
theorem C_eq (R : Ending → World → Prop) (x0 x1 x2 : Value) (w : World) : fnW PG note 400 Tryz.f174 [x0, x1, x2] R w = C R x0 x1 x2 w := by kernel_rfl
theorem ok {R : Ending → World → Prop} {x0 x1 x2 : Value} {w : World} (h : C R x0 x1 x2 w) : Calls PG N.fiber_gathered_uint32 #[x0, x1, x2] w R :=
  fnW_sound mixed Tryz.func174 (args := [x0, x1, x2]) (by rw [C_eq]; exact h)
end fiber_gathered_uint32
namespace arith_Signed
theorem okf : okFn PG N.arith_Signed = true := by kernel_rfl
def note : Note := ⟨[], []⟩
def C (R : Ending → World → Prop) (x0 : Value) (w : World) : Prop :=
  pu PG (Instr.build T.t_arith_pair #[(0, x0)]) fun t3 => ptW 0 none t3 fun t4 => callW PG N.arith_word_signed [t4] (fun t5 w6 => R (.returned t5) w6) (fun c w => R (.panicked c) w) w
theorem C_eq (R : Ending → World → Prop) (x0 : Value) (w : World) : fnW PG note 400 Tryz.f175 [x0] R w = C R x0 w := by kernel_rfl
theorem ok {R : Ending → World → Prop} {x0 : Value} {w : World} (h : C R x0 w) : Calls PG N.arith_Signed #[x0] w R :=
  fnW_sound mixed Tryz.func175 (args := [x0]) (by rw [C_eq]; exact h)
end arith_Signed
namespace fiber_shared
theorem okf : okFn PG N.fiber_shared = true := by kernel_rfl
def note : Note := ⟨[], []⟩
def C (R : Ending → World → Prop) (w : World) : Prop :=
  alW (zc PG T.t_8_api_EvKind) T.t_8_api_EvKind (fun t2 w3 => pu PG (Instr.build T.t_8_api_EvKind #[(0, (.int .i64 5)), (1, (.int .i64 6)), (2, (.int .i64 7)), (3, (.int .i64 8)), (4, (.int .i64 9)), (5, (.int .i64 10)), (6, (.int .i64 11)), (7, (.int .i64 12))]) fun t5 => stW 8 t2 t5 (fun w6 => ldW (some 8) t2 w6 fun t7 => R (.returned t7) w6) w3) w
theorem C_eq (R : Ending → World → Prop) (w : World) : fnW PG note 400 Tryz.f176 [] R w = C R  w := by kernel_rfl
theorem ok {R : Ending → World → Prop} {w : World} (h : C R  w) : Calls PG N.fiber_shared #[] w R :=
  fnW_sound mixed Tryz.func176 (args := []) (by rw [C_eq]; exact h)
end fiber_shared
namespace program_all_program_bound
theorem okf : okFn PG N.program_all_program_bound = true := by kernel_rfl
def note : Note := ⟨[], []⟩
def C (R : Ending → World → Prop) (x0 x1 : Value) (w : World) : Prop :=
  alW (Value.cells x0) T.t_func_program_bound_bool_2 (fun t2 w3 => callW PG N.slices_ContainsFunc_sl_program_bound_program_bound [x1, (.func (.func N.program_all_program_bound_1) #[] #[t2])] (fun t5 w6 => pu PG (Op.unary .not t5) fun t7 => R (.returned t7) w6) (fun c w => R (.panicked c) w) w3) w
theorem C_eq (R : Ending → World → Prop) (x0 x1 : Value) (w : World) : fnW PG note 400 Tryz.f177 [x0, x1] R w = C R x0 x1 w := by kernel_rfl
theorem ok {R : Ending → World → Prop} {x0 x1 : Value} {w : World} (h : C R x0 x1 w) : Calls PG N.program_all_program_bound #[x0, x1] w R :=
  fnW_sound mixed Tryz.func177 (args := [x0, x1]) (by rw [C_eq]; exact h)
end program_all_program_bound
namespace program_within_1
theorem okf : okFn PG N.program_within_1 = true := by kernel_rfl
def note : Note := ⟨[], []⟩
def C (R : Ending → World → Prop) (x0 : Value) (w : World) : Prop :=
  alW (Value.cells x0) T.t_program_bound (fun t2 w3 => faW 1 t2 fun t5 => ldW none t5 w3 fun t6 => faW 0 t2 fun t7 => ldW none t7 w3 fun t8 => pu PG (binV .leq T.t_int false t6 t8) fun t9 => condV t9 (faW 0 t2 fun t10 => ldW none t10 w3 fun t11 => faW 2 t2 fun t12 => ldW none t12 w3 fun t13 => pu PG (binV .leq T.t_int false t11 t13) fun t14 => R (.returned t14) w3) (R (.returned (.bool false)) w3)) w
theorem C_eq (R : Ending → World → Prop) (x0 : Value) (w : World) : fnW PG note 400 Tryz.f178 [x0] R w = C R x0 w := by kernel_rfl
theorem ok {R : Ending → World → Prop} {x0 : Value} {w : World} (h : C R x0 w) : Calls PG N.program_within_1 #[x0] w R :=
  fnW_sound mixed Tryz.func178 (args := [x0]) (by rw [C_eq]; exact h)
end program_within_1
namespace program_every_1
theorem okf : okFn PG N.program_every_1 = true := by kernel_rfl
def note : Note := ⟨[(0, [9]), (2, [17])], []⟩
def C (R : Ending → World → Prop) (x0 x1 : Value) (w : World) : Prop :=
  faW 0 x1 fun t2 => ldW none t2 w fun t3 => lnS t3 fun t4 => LoopW [(.int .i64 0)] (fun l6 N7 w8 => ∀ j5 : S, pu PG (binV .lss T.t_int false (gv l6 0) t4) fun t10 => condV t10 (ixS 2 t3 (gv l6 0) fun t14 => ldW (some 2) t14 w8 fun t15 => alW (zc PG T.t_api_Func) T.t_api_Func (fun t16 w17 => stW 2 t16 t15 (fun w18 => faW 1 t16 fun t20 => ldW none t20 w18 fun t21 => lnS t21 fun t22 => LoopW [(.int .i64 0)] (fun l24 N25 w26 => ∀ j23 : S, pu PG (binV .lss T.t_int false (gv l24 0) t22) fun t28 => condV t28 (pu PG (Instr.build T.t_api_Site #[(0, (gv l6 0)), (1, (gv l24 0))]) fun t33 => ldW (some 2) t16 w26 fun t34 => ldW (some 4) x1 w26 fun t35 => pu PG (Instr.build T.t_program_place #[(0, t34), (1, t35), (2, (gv l24 0))]) fun t36 => callV PG x0 [t33, t36] (fun t37 w38 => pu PG (Op.unary .not t37) fun t39 => condV t39 (R (.returned (.tuple #[])) w38) (pu PG (binV .add T.t_int true (gv l24 0) (.int .i64 1)) fun t40 => N25 [t40] w38)) (fun c w => R (.panicked c) w) w26) (pu PG (binV .add T.t_int true (gv l6 0) (.int .i64 1)) fun t41 => N7 [t41] w26)) w18) w17) w8) (R (.returned (.tuple #[])) w8)) w
theorem C_eq (R : Ending → World → Prop) (x0 x1 : Value) (w : World) : fnW PG note 400 Tryz.f179 [x0, x1] R w = C R x0 x1 w := by kernel_rfl
theorem ok {R : Ending → World → Prop} {x0 x1 : Value} {w : World} (h : C R x0 x1 w) : Calls PG N.program_every_1 #[x0, x1] w R :=
  fnW_sound mixed Tryz.func179 (args := [x0, x1]) (by rw [C_eq]; exact h)
end program_every_1
namespace program_place_fits
theorem okf : okFn PG N.program_place_fits = true := by kernel_rfl
def note : Note := ⟨[], []⟩
def C (R : Ending → World → Prop) (x0 : Value) (w : World) : Prop :=
  alW (Value.cells x0) T.t_program_place (fun t2 w3 => ∃ H5 : World → Prop, H5 (World.drew w3) ∧ (ldS (some 7) t2 H5 fun t6 => callW PG N.program_place_ins [t6] (fun t7 w8 => H5 w8 ∧ (callW PG N.instr_Check [t7] (fun t9 w10 => H5 w10 ∧ (pu PG (binV .eql T.t_api_Errno true t9 (.int .i64 0)) fun t11 => condV t11 (ldS (some 7) t2 H5 fun t12 => faW 0 t2 fun t13 => faW 0 t13 fun t14 => ldS none t14 H5 fun t15 => callW PG N.program_place_ins [t12] (fun t16 w17 => H5 w17 ∧ (callW PG N.instr_Regs [t16] (fun t18 w19 => H5 w19 ∧ (pu PG (binV .leq T.t_int false t18 t15) fun t20 => R (.returned t20) w19)) (fun c w => ∀ s21 : S, R (.panicked c) w) w17)) (fun c w => ∀ s22 : S, R (.panicked c) w) w10) (R (.returned (.bool false)) w10))) (fun c w => ∀ s23 : S, R (.panicked c) w) w8)) (fun c w => ∀ s24 : S, R (.panicked c) w) (World.drew w3))) w
theorem C_eq (R : Ending → World → Prop) (x0 : Value) (w : World) : fnW PG note 400 Tryz.f180 [x0] R w = C R x0 w := by kernel_rfl
theorem ok {R : Ending → World → Prop} {x0 : Value} {w : World} (h : C R x0 w) : Calls PG N.program_place_fits #[x0] w R :=
  fnW_sound mixed Tryz.func180 (args := [x0]) (by rw [C_eq]; exact h)
end program_place_fits
namespace program_place_jumps
theorem okf : okFn PG N.program_place_jumps = true := by kernel_rfl
def note : Note := ⟨[], []⟩
def C (R : Ending → World → Prop) (x0 : Value) (w : World) : Prop :=
  alW (Value.cells x0) T.t_program_place (fun t2 w3 => ldW (some 7) t2 w3 fun t5 => callW PG N.program_place_ins [t5] (fun t6 w7 => ptW 0 none t6 fun t8 => ∃ H10 : World → Prop, H10 (World.drew w7) ∧ (pu PG (binV .neq T.t_api_Op true t8 (.int .i64 4)) fun t11 => condV t11 (pu PG (binV .neq T.t_api_Op true t8 (.int .i64 5)) fun t12 => condV t12 (R (.returned (.bool true)) (World.drew w7)) (ldS (some 7) t2 H10 fun t13 => faW 0 t2 fun t14 => faW 1 t14 fun t15 => ldS none t15 H10 fun t16 => lnS t16 fun t17 => callW PG N.program_place_ins [t13] (fun t18 w19 => H10 w19 ∧ (ptW 4 none t18 fun t20 => pu PG (convert T.t_uint32 T.t_int t20) fun t21 => pu PG (binV .lss T.t_int false t21 t17) fun t22 => R (.returned t22) w19)) (fun c w => ∀ s23 : S, R (.panicked c) w) (World.drew w7))) (ldS (some 7) t2 H10 fun t24 => faW 0 t2 fun t25 => faW 1 t25 fun t26 => ldS none t26 H10 fun t27 => lnS t27 fun t28 => callW PG N.program_place_ins [t24] (fun t29 w30 => H10 w30 ∧ (ptW 4 none t29 fun t31 => pu PG (convert T.t_uint32 T.t_int t31) fun t32 => pu PG (binV .lss T.t_int false t32 t28) fun t33 => R (.returned t33) w30)) (fun c w => ∀ s34 : S, R (.panicked c) w) (World.drew w7)))) (fun c w => R (.panicked c) w) w3) w
theorem C_eq (R : Ending → World → Prop) (x0 : Value) (w : World) : fnW PG note 400 Tryz.f181 [x0] R w = C R x0 w := by kernel_rfl
theorem ok {R : Ending → World → Prop} {x0 : Value} {w : World} (h : C R x0 w) : Calls PG N.program_place_jumps #[x0] w R :=
  fnW_sound mixed Tryz.func181 (args := [x0]) (by rw [C_eq]; exact h)
end program_place_jumps
namespace program_place_calls
theorem okf : okFn PG N.program_place_calls = true := by kernel_rfl
def note : Note := ⟨[], []⟩
def C (R : Ending → World → Prop) (x0 : Value) (w : World) : Prop :=
  alW (Value.cells x0) T.t_program_place (fun t2 w3 => ldW (some 7) t2 w3 fun t5 => callW PG N.program_place_ins [t5] (fun t6 w7 => alW (zc PG T.t_api_Ins) T.t_api_Ins (fun t8 w9 => stW 5 t8 t6 (fun w10 => faW 0 t8 fun t13 => ldW none t13 w10 fun t14 => pu PG (binV .neq T.t_api_Op true t14 (.int .i64 8)) fun t15 => condV t15 (faW 0 t8 fun t16 => ldW none t16 w10 fun t17 => pu PG (binV .neq T.t_api_Op true t17 (.int .i64 10)) fun t18 => condV t18 (R (.returned (.bool true)) w10) (∃ H21 : World → Prop, H21 (World.drew w10) ∧ (faW 4 t8 fun t22 => ldS none t22 H21 fun t23 => pu PG (convert T.t_uint32 T.t_int t23) fun t24 => faW 2 t2 fun t25 => faW 0 t25 fun t26 => ldS none t26 H21 fun t27 => lnS t27 fun t28 => pu PG (binV .lss T.t_int false t24 t28) fun t29 => condV t29 (faW 3 t8 fun t30 => ldS none t30 H21 fun t31 => faW 2 t2 fun t32 => faW 0 t32 fun t33 => ldS none t33 H21 fun t34 => faW 4 t8 fun t35 => ldS none t35 H21 fun t36 => ixS 2 t34 t36 fun t37 => faW 0 t37 fun t38 => ldS none t38 H21 fun t39 => pu PG (binV .leq T.t_int false t31 t39) fun t40 => R (.returned t40) (World.drew w10)) (R (.returned (.bool false)) (World.drew w10))))) (∃ H42 : World → Prop, H42 (World.drew w10) ∧ (faW 4 t8 fun t43 => ldS none t43 H42 fun t44 => pu PG (convert T.t_uint32 T.t_int t44) fun t45 => faW 2 t2 fun t46 => faW 0 t46 fun t47 => ldS none t47 H42 fun t48 => lnS t48 fun t49 => pu PG (binV .lss T.t_int false t45 t49) fun t50 => condV t50 (faW 3 t8 fun t51 => ldS none t51 H42 fun t52 => faW 2 t2 fun t53 => faW 0 t53 fun t54 => ldS none t54 H42 fun t55 => faW 4 t8 fun t56 => ldS none t56 H42 fun t57 => ixS 2 t55 t57 fun t58 => faW 0 t58 fun t59 => ldS none t59 H42 fun t60 => pu PG (binV .leq T.t_int false t52 t60) fun t61 => R (.returned t61) (World.drew w10)) (R (.returned (.bool false)) (World.drew w10))))) w9) w7) (fun c w => R (.panicked c) w) w3) w
theorem C_eq (R : Ending → World → Prop) (x0 : Value) (w : World) : fnW PG note 400 Tryz.f182 [x0] R w = C R x0 w := by kernel_rfl
theorem ok {R : Ending → World → Prop} {x0 : Value} {w : World} (h : C R x0 w) : Calls PG N.program_place_calls #[x0] w R :=
  fnW_sound mixed Tryz.func182 (args := [x0]) (by rw [C_eq]; exact h)
end program_place_calls
namespace program_place_ends
theorem okf : okFn PG N.program_place_ends = true := by kernel_rfl
def note : Note := ⟨[], []⟩
def C (R : Ending → World → Prop) (x0 : Value) (w : World) : Prop :=
  alW (Value.cells x0) T.t_program_place (fun t2 w3 => faW 6 t2 fun t5 => ldW none t5 w3 fun t6 => faW 0 t2 fun t7 => faW 1 t7 fun t8 => ldW none t8 w3 fun t9 => lnS t9 fun t10 => pu PG (binV .sub T.t_int true t10 (.int .i64 1)) fun t11 => pu PG (binV .lss T.t_int false t6 t11) fun t12 => condV t12 (R (.returned (.bool true)) w3) (ldW (some 7) t2 w3 fun t13 => callW PG N.program_place_ins [t13] (fun t14 w15 => callW PG N.instr_Leaves [t14] (fun t16 w17 => R (.returned t16) w17) (fun c w => R (.panicked c) w) w15) (fun c w => R (.panicked c) w) w3)) w
theorem C_eq (R : Ending → World → Prop) (x0 : Value) (w : World) : fnW PG note 400 Tryz.f183 [x0] R w = C R x0 w := by kernel_rfl
theorem ok {R : Ending → World → Prop} {x0 : Value} {w : World} (h : C R x0 w) : Calls PG N.program_place_ends #[x0] w R :=
  fnW_sound mixed Tryz.func183 (args := [x0]) (by rw [C_eq]; exact h)
end program_place_ends
namespace octet_ReadFixed
theorem okf : okFn PG N.octet_ReadFixed = true := by kernel_rfl
def note : Note := ⟨[(1, [4, 21])], []⟩
def C (R : Ending → World → Prop) (x0 x1 : Value) (w : World) : Prop :=
  callW PG N.octet_right [x1] (fun t4 w5 => pu PG (Op.unary .not t4) fun t6 => condV t6 (R (.returned (.tuple #[(.int .u64 0), (.int .i64 2)])) w5) (lnS x0 fun t9 => pu PG (binV .lss T.t_int false t9 x1) fun t10 => condV t10 (R (.returned (.tuple #[(.int .u64 0), (.int .i64 110)])) w5) (pu PG (Instr.sliceAt T.t_sl_uint8 x0 none (some x1) none) fun t14 => lnS t14 fun t15 => LoopW [(.int .u64 0), (.int .i64 0)] (fun l17 N18 w19 => ∀ j16 : S, pu PG (binV .lss T.t_int false (gv l17 1) t15) fun t21 => condV t21 (ixS 1 t14 (gv l17 1) fun t25 => ldW none t25 w19 fun t26 => pu PG (convert T.t_uint8 T.t_uint64 t26) fun t27 => pu PG (binV .mul T.t_int true (.int .i64 8) (gv l17 1)) fun t28 => pu PG (binV .shl T.t_uint64 false t27 t28) fun t29 => pu PG (binV .or T.t_uint64 false (gv l17 0) t29) fun t30 => pu PG (binV .add T.t_int true (gv l17 1) (.int .i64 1)) fun t31 => N18 [t30, t31] w19) (R (.returned (.tuple #[(gv l17 0), (.int .i64 0)])) w19)) w5))) (fun c w => R (.panicked c) w) w
theorem C_eq (R : Ending → World → Prop) (x0 x1 : Value) (w : World) : fnW PG note 400 Tryz.f184 [x0, x1] R w = C R x0 x1 w := by kernel_rfl
theorem ok {R : Ending → World → Prop} {x0 x1 : Value} {w : World} (h : C R x0 x1 w) : Calls PG N.octet_ReadFixed #[x0, x1] w R :=
  fnW_sound mixed Tryz.func184 (args := [x0, x1]) (by rw [C_eq]; exact h)
end octet_ReadFixed
namespace image_tape_from
theorem okf : okFn PG N.image_tape_from = true := by kernel_rfl
def note : Note := ⟨[], []⟩
def C (R : Ending → World → Prop) (x0 x1 : Value) (w : World) : Prop :=
  alW (Value.cells x0) T.t_image_tape (fun t2 w3 => faW 0 t2 fun t5 => ldW none t5 w3 fun t6 => faW 0 t2 fun t7 => ldW none t7 w3 fun t8 => lnS t8 fun t9 => faW 0 t2 fun t10 => ldW none t10 w3 fun t11 => lnS t11 fun t12 => pu PG (Instr.sliceAt T.t_sl_uint8 t6 (some x1) (some t9) (some t12)) fun t13 => R (.returned t13) w3) w
theorem C_eq (R : Ending → World → Prop) (x0 x1 : Value) (w : World) : fnW PG note 400 Tryz.f185 [x0, x1] R w = C R x0 x1 w := by kernel_rfl
theorem ok {R : Ending → World → Prop} {x0 x1 : Value} {w : World} (h : C R x0 x1 w) : Calls PG N.image_tape_from #[x0, x1] w R :=
  fnW_sound mixed Tryz.func185 (args := [x0, x1]) (by rw [C_eq]; exact h)
end image_tape_from
namespace instr_Read
theorem okf : okFn PG N.instr_Read = true := by kernel_rfl
def note : Note := ⟨[(0, [25])], []⟩
def C (R : Ending → World → Prop) (x0 : Value) (w : World) : Prop :=
  alW (zc PG T.t_api_Ins) T.t_api_Ins (fun t2 w3 => alW (zc PG T.t_int) T.t_int (fun t4 w5 => alW (zc PG T.t_api_Errno) T.t_api_Errno (fun t6 w7 => pu PG (Instr.build T.t_instr_tape #[(0, x0)]) fun t10 => pu PG (Instr.build T.t_instr_reader #[(0, t10)]) fun t11 => alW (Value.cells t11) T.t_instr_reader (fun t12 w13 => callW PG N.instr_reader_number [t12, (.int .i64 1)] (fun t15 w16 => pu PG (convert T.t_uint64 T.t_api_Op t15) fun t17 => faW 0 t2 fun t18 => stW 1 t18 t17 (fun w19 => faW 0 t2 fun t25 => ldW none t25 w19 fun t26 => callW PG N.instr_is [t26] (fun t27 w28 => callW PG N.instr_must [t27, (.int .i64 180)] (fun t29 w30 => faW 0 t2 fun t41 => ldW none t41 w30 fun t42 => callW PG N.instr_named [t42] (fun t43 w44 => lnS t43 fun t45 => LoopW [(.int .i64 0)] (fun l51 N52 w53 => ∀ j50 : S, pu PG (binV .lss T.t_int false (gv l51 0) t45) fun t55 => condV t55 (ixS 4 t43 (gv l51 0) fun t59 => ldW (some 4) t59 w53 fun t60 => alW (zc PG T.t_instr_part) T.t_instr_part (fun t61 w62 => stW 4 t61 t60 (fun w63 => ∃ H64 : World → Prop, H64 (World.drew w63) ∧ (faW 3 t61 fun t65 => ldS none t65 H64 fun t66 => faW 0 t61 fun t67 => ldS none t67 H64 fun t68 => callW PG N.instr_reader_number [t12, t68] (fun t69 w70 => H64 w70 ∧ (callV PG t66 [t2, t69] (fun t71 w72 => pu PG (binV .add T.t_int true (gv l51 0) (.int .i64 1)) fun t83 => N52 [t83] w72) (fun c w => ∀ s73 : S, LvW PG ({ target := .fn (.func N.instr_caught) #[], args := #[t6, (.func (.func N.instr_Read_1) #[] #[t2, t4])] } :: []) (.panicking c) w (endV (fun w74 => ldW (some 5) (s73 2) w74 fun t75 => ldW none (s73 3) w74 fun t76 => ldW none (s73 4) w74 fun t77 => R (.returned (.tuple #[t75, t76, t77])) w74) R)) w70)) (fun c w => ∀ s78 : S, LvW PG ({ target := .fn (.func N.instr_caught) #[], args := #[t6, (.func (.func N.instr_Read_1) #[] #[t2, t4])] } :: []) (.panicking c) w (endV (fun w79 => ldW (some 5) (s78 2) w79 fun t80 => ldW none (s78 3) w79 fun t81 => ldW none (s78 4) w79 fun t82 => R (.returned (.tuple #[t80, t81, t82])) w79) R)) (World.drew w63))) w62) w53) (ldW (some 5) t2 w53 fun t85 => callW PG N.instr_right [t85] (fun t86 w87 => callW PG N.instr_must [t86, (.int .i64 180)] (fun t88 w89 => ∃ H99 : World → Prop, H99 (World.drew w89) ∧ (ldS (some 5) t2 H99 fun t100 => nlW t12 fun t101 => faW 1 t101 fun t102 => ldS none t102 H99 fun t103 => stW 5 t2 t100 (fun w104 => stW 1 t4 t103 (fun w105 => stW 1 t6 (.int .i64 0) (fun w106 => LvW PG ({ target := .fn (.func N.instr_caught) #[], args := #[t6, (.func (.func N.instr_Read_1) #[] #[t2, t4])] } :: []) .returning w106 (endV (fun w107 => ldW (some 5) t2 w107 fun t108 => ldW none t4 w107 fun t109 => ldW none t6 w107 fun t110 => R (.returned (.tuple #[t108, t109, t110])) w107) R)) w105) w104) (World.drew w89))) (fun c w => LvW PG ({ target := .fn (.func N.instr_caught) #[], args := #[t6, (.func (.func N.instr_Read_1) #[] #[t2, t4])] } :: []) (.panicking c) w (endV (fun w90 => ldW (some 5) t2 w90 fun t91 => ldW none t4 w90 fun t92 => ldW none t6 w90 fun t93 => R (.returned (.tuple #[t91, t92, t93])) w90) R)) w87) (fun c w => LvW PG ({ target := .fn (.func N.instr_caught) #[], args := #[t6, (.func (.func N.instr_Read_1) #[] #[t2, t4])] } :: []) (.panicking c) w (endV (fun w94 => ldW (some 5) t2 w94 fun t95 => ldW none t4 w94 fun t96 => ldW none t6 w94 fun t97 => R (.returned (.tuple #[t95, t96, t97])) w94) R)) w53)) w44) (fun c w => LvW PG ({ target := .fn (.func N.instr_caught) #[], args := #[t6, (.func (.func N.instr_Read_1) #[] #[t2, t4])] } :: []) (.panicking c) w (endV (fun w46 => ldW (some 5) t2 w46 fun t47 => ldW none t4 w46 fun t48 => ldW none t6 w46 fun t49 => R (.returned (.tuple #[t47, t48, t49])) w46) R)) w30) (fun c w => LvW PG ({ target := .fn (.func N.instr_caught) #[], args := #[t6, (.func (.func N.instr_Read_1) #[] #[t2, t4])] } :: []) (.panicking c) w (endV (fun w31 => ldW (some 5) t2 w31 fun t32 => ldW none t4 w31 fun t33 => ldW none t6 w31 fun t34 => R (.returned (.tuple #[t32, t33, t34])) w31) R)) w28) (fun c w => LvW PG ({ target := .fn (.func N.instr_caught) #[], args := #[t6, (.func (.func N.instr_Read_1) #[] #[t2, t4])] } :: []) (.panicking c) w (endV (fun w35 => ldW (some 5) t2 w35 fun t36 => ldW none t4 w35 fun t37 => ldW none t6 w35 fun t38 => R (.returned (.tuple #[t36, t37, t38])) w35) R)) w19) w16) (fun c w => LvW PG ({ target := .fn (.func N.instr_caught) #[], args := #[t6, (.func (.func N.instr_Read_1) #[] #[t2, t4])] } :: []) (.panicking c) w (endV (fun w20 => ldW (some 5) t2 w20 fun t21 => ldW none t4 w20 fun t22 => ldW none t6 w20 fun t23 => R (.returned (.tuple #[t21, t22, t23])) w20) R)) w13) w7) w5) w3) w
theorem C_eq (R : Ending → World → Prop) (x0 : Value) (w : World) : fnW PG note 400 Tryz.f186 [x0] R w = C R x0 w := by kernel_rfl
theorem ok {R : Ending → World → Prop} {x0 : Value} {w : World} (h : C R x0 w) : Calls PG N.instr_Read #[x0] w R :=
  fnW_sound mixed Tryz.func186 (args := [x0]) (by rw [C_eq]; exact h)
end instr_Read
namespace octet_widths
theorem okf : okFn PG N.octet_widths = true := by kernel_rfl
def note : Note := ⟨[], []⟩
def C (R : Ending → World → Prop) (w : World) : Prop :=
  alW (zc PG T.t_4_int) T.t_4_int (fun t2 w3 => pu PG (Instr.build T.t_4_int #[(0, (.int .i64 1)), (1, (.int .i64 2)), (2, (.int .i64 4)), (3, (.int .i64 8))]) fun t5 => stW 4 t2 t5 (fun w6 => ldW (some 4) t2 w6 fun t7 => R (.returned t7) w6) w3) w
theorem C_eq (R : Ending → World → Prop) (w : World) : fnW PG note 400 Tryz.f187 [] R w = C R  w := by kernel_rfl
theorem ok {R : Ending → World → Prop} {w : World} (h : C R  w) : Calls PG N.octet_widths #[] w R :=
  fnW_sound mixed Tryz.func187 (args := []) (by rw [C_eq]; exact h)
end octet_widths
namespace octet_among_int
theorem okf : okFn PG N.octet_among_int = true := by kernel_rfl
def note : Note := ⟨[], []⟩
def C (R : Ending → World → Prop) (x0 x1 : Value) (w : World) : Prop :=
  callW PG N.slices_Contains_sl_int_int [x1, x0] (fun t3 w4 => R (.returned t3) w4) (fun c w => R (.panicked c) w) w
theorem C_eq (R : Ending → World → Prop) (x0 x1 : Value) (w : World) : fnW PG note 400 Tryz.f188 [x0, x1] R w = C R x0 x1 w := by kernel_rfl
theorem ok {R : Ending → World → Prop} {x0 x1 : Value} {w : World} (h : C R x0 x1 w) : Calls PG N.octet_among_int #[x0, x1] w R :=
  fnW_sound mixed Tryz.func188 (args := [x0, x1]) (by rw [C_eq]; exact h)
end octet_among_int
namespace instr_first_1
theorem okf : okFn PG N.instr_first_1 = true := by kernel_rfl
def note : Note := ⟨[], []⟩
def C (R : Ending → World → Prop) (x0 : Value) (w : World) : Prop :=
  alW (Value.cells x0) T.t_api_Ins (fun t2 w3 => faW 1 t2 fun t5 => ldW none t5 w3 fun t6 => pu PG (convert T.t_int T.t_uint64 t6) fun t7 => R (.returned t7) w3) w
theorem C_eq (R : Ending → World → Prop) (x0 : Value) (w : World) : fnW PG note 400 Tryz.f189 [x0] R w = C R x0 w := by kernel_rfl
theorem ok {R : Ending → World → Prop} {x0 : Value} {w : World} (h : C R x0 w) : Calls PG N.instr_first_1 #[x0] w R :=
  fnW_sound mixed Tryz.func189 (args := [x0]) (by rw [C_eq]; exact h)
end instr_first_1
namespace instr_first_2
theorem okf : okFn PG N.instr_first_2 = true := by kernel_rfl
def note : Note := ⟨[], []⟩
def C (R : Ending → World → Prop) (x0 x1 : Value) (w : World) : Prop :=
  pu PG (convert T.t_uint64 T.t_int x1) fun t1 => nlW x0 fun t2 => faW 1 t2 fun t3 => stW 1 t3 t1 (fun w4 => R (.returned (.tuple #[])) w4) w
theorem C_eq (R : Ending → World → Prop) (x0 x1 : Value) (w : World) : fnW PG note 400 Tryz.f190 [x0, x1] R w = C R x0 x1 w := by kernel_rfl
theorem ok {R : Ending → World → Prop} {x0 x1 : Value} {w : World} (h : C R x0 x1 w) : Calls PG N.instr_first_2 #[x0, x1] w R :=
  fnW_sound mixed Tryz.func190 (args := [x0, x1]) (by rw [C_eq]; exact h)
end instr_first_2
namespace instr_second_1
theorem okf : okFn PG N.instr_second_1 = true := by kernel_rfl
def note : Note := ⟨[], []⟩
def C (R : Ending → World → Prop) (x0 : Value) (w : World) : Prop :=
  alW (Value.cells x0) T.t_api_Ins (fun t2 w3 => faW 2 t2 fun t5 => ldW none t5 w3 fun t6 => pu PG (convert T.t_int T.t_uint64 t6) fun t7 => R (.returned t7) w3) w
theorem C_eq (R : Ending → World → Prop) (x0 : Value) (w : World) : fnW PG note 400 Tryz.f191 [x0] R w = C R x0 w := by kernel_rfl
theorem ok {R : Ending → World → Prop} {x0 : Value} {w : World} (h : C R x0 w) : Calls PG N.instr_second_1 #[x0] w R :=
  fnW_sound mixed Tryz.func191 (args := [x0]) (by rw [C_eq]; exact h)
end instr_second_1
namespace instr_second_2
theorem okf : okFn PG N.instr_second_2 = true := by kernel_rfl
def note : Note := ⟨[], []⟩
def C (R : Ending → World → Prop) (x0 x1 : Value) (w : World) : Prop :=
  pu PG (convert T.t_uint64 T.t_int x1) fun t1 => nlW x0 fun t2 => faW 2 t2 fun t3 => stW 1 t3 t1 (fun w4 => R (.returned (.tuple #[])) w4) w
theorem C_eq (R : Ending → World → Prop) (x0 x1 : Value) (w : World) : fnW PG note 400 Tryz.f192 [x0, x1] R w = C R x0 x1 w := by kernel_rfl
theorem ok {R : Ending → World → Prop} {x0 x1 : Value} {w : World} (h : C R x0 x1 w) : Calls PG N.instr_second_2 #[x0, x1] w R :=
  fnW_sound mixed Tryz.func192 (args := [x0, x1]) (by rw [C_eq]; exact h)
end instr_second_2
namespace instr_imm_1
theorem okf : okFn PG N.instr_imm_1 = true := by kernel_rfl
def note : Note := ⟨[], []⟩
def C (R : Ending → World → Prop) (x0 : Value) (w : World) : Prop :=
  alW (Value.cells x0) T.t_api_Ins (fun t2 w3 => faW 4 t2 fun t5 => ldW none t5 w3 fun t6 => pu PG (convert T.t_uint32 T.t_uint64 t6) fun t7 => R (.returned t7) w3) w
theorem C_eq (R : Ending → World → Prop) (x0 : Value) (w : World) : fnW PG note 400 Tryz.f193 [x0] R w = C R x0 w := by kernel_rfl
theorem ok {R : Ending → World → Prop} {x0 : Value} {w : World} (h : C R x0 w) : Calls PG N.instr_imm_1 #[x0] w R :=
  fnW_sound mixed Tryz.func193 (args := [x0]) (by rw [C_eq]; exact h)
end instr_imm_1
namespace instr_imm_2
theorem okf : okFn PG N.instr_imm_2 = true := by kernel_rfl
def note : Note := ⟨[], []⟩
def C (R : Ending → World → Prop) (x0 x1 : Value) (w : World) : Prop :=
  pu PG (convert T.t_uint64 T.t_uint32 x1) fun t1 => nlW x0 fun t2 => faW 4 t2 fun t3 => stW 1 t3 t1 (fun w4 => R (.returned (.tuple #[])) w4) w
theorem C_eq (R : Ending → World → Prop) (x0 x1 : Value) (w : World) : fnW PG note 400 Tryz.f194 [x0, x1] R w = C R x0 x1 w := by kernel_rfl
theorem ok {R : Ending → World → Prop} {x0 x1 : Value} {w : World} (h : C R x0 x1 w) : Calls PG N.instr_imm_2 #[x0, x1] w R :=
  fnW_sound mixed Tryz.func194 (args := [x0, x1]) (by rw [C_eq]; exact h)
end instr_imm_2
namespace instr_third_1
theorem okf : okFn PG N.instr_third_1 = true := by kernel_rfl
def note : Note := ⟨[], []⟩
def C (R : Ending → World → Prop) (x0 : Value) (w : World) : Prop :=
  alW (Value.cells x0) T.t_api_Ins (fun t2 w3 => faW 3 t2 fun t5 => ldW none t5 w3 fun t6 => pu PG (convert T.t_int T.t_uint64 t6) fun t7 => R (.returned t7) w3) w
theorem C_eq (R : Ending → World → Prop) (x0 : Value) (w : World) : fnW PG note 400 Tryz.f195 [x0] R w = C R x0 w := by kernel_rfl
theorem ok {R : Ending → World → Prop} {x0 : Value} {w : World} (h : C R x0 w) : Calls PG N.instr_third_1 #[x0] w R :=
  fnW_sound mixed Tryz.func195 (args := [x0]) (by rw [C_eq]; exact h)
end instr_third_1
namespace instr_third_2
theorem okf : okFn PG N.instr_third_2 = true := by kernel_rfl
def note : Note := ⟨[], []⟩
def C (R : Ending → World → Prop) (x0 x1 : Value) (w : World) : Prop :=
  pu PG (convert T.t_uint64 T.t_int x1) fun t1 => nlW x0 fun t2 => faW 3 t2 fun t3 => stW 1 t3 t1 (fun w4 => R (.returned (.tuple #[])) w4) w
theorem C_eq (R : Ending → World → Prop) (x0 x1 : Value) (w : World) : fnW PG note 400 Tryz.f196 [x0, x1] R w = C R x0 x1 w := by kernel_rfl
theorem ok {R : Ending → World → Prop} {x0 x1 : Value} {w : World} (h : C R x0 x1 w) : Calls PG N.instr_third_2 #[x0, x1] w R :=
  fnW_sound mixed Tryz.func196 (args := [x0, x1]) (by rw [C_eq]; exact h)
end instr_third_2
namespace slices_Values_sl_byte_byte
theorem okf : okFn PG N.slices_Values_sl_byte_byte = true := by kernel_rfl
def note : Note := ⟨[], []⟩
def C (R : Ending → World → Prop) (x0 : Value) (w : World) : Prop :=
  alW (Value.cells x0) T.t_sl_uint8 (fun t2 w3 => R (.returned (.func (.func N.slices_Values_sl_byte_byte_1) #[] #[t2])) w3) w
theorem C_eq (R : Ending → World → Prop) (x0 : Value) (w : World) : fnW PG note 400 Tryz.f197 [x0] R w = C R x0 w := by kernel_rfl
theorem ok {R : Ending → World → Prop} {x0 : Value} {w : World} (h : C R x0 w) : Calls PG N.slices_Values_sl_byte_byte #[x0] w R :=
  fnW_sound mixed Tryz.func197 (args := [x0]) (by rw [C_eq]; exact h)
end slices_Values_sl_byte_byte
namespace linesmanref08_Names
theorem okf : okFn PG N.linesmanref08_Names = true := by kernel_rfl
def note : Note := ⟨[], []⟩
def C (R : Ending → World → Prop) (x0 : Value) (w : World) : Prop :=
  pu PG (binV .lss T.t_int true x0 (.int .i64 1)) fun t4 => condV t4 (R (.returned (.string (bs [45]))) w) (pu PG (binV .gtr T.t_int true x0 (.int .i64 19)) fun t5 => condV t5 (R (.returned (.string (bs [45]))) w) (bsW T.t_string 19 (bsC PG T.t_string 19 [(0, (.string (bs [97, 105]))), (1, (.string (bs [97, 98]))), (2, (.string (bs [97, 98, 99, 107]))), (3, (.string (bs [105]))), (4, (.string (bs [97, 105]))), (5, (.string (bs [97, 98]))), (6, (.string (bs [97, 98]))), (7, (.string (bs [97, 98, 110, 102]))), (8, (.string (bs [97]))), (9, (.string (bs [98, 110, 102]))), (10, (.string (bs [97]))), (11, (.string (bs [97]))), (12, (.string (bs [97]))), (13, (.string (bs [97]))), (14, (.string (bs [97]))), (15, (.string (bs [97]))), (16, (.string (bs [97, 98]))), (17, (.string (bs [97]))), (18, (.string (bs [])))]) (fun t9 w10 => pu PG (binV .sub T.t_int true x0 (.int .i64 1)) fun t11 => ixS 1 t9 t11 fun t12 => ldW none t12 w10 fun t13 => R (.returned t13) w10) w))
theorem C_eq (R : Ending → World → Prop) (x0 : Value) (w : World) : fnW PG note 400 Tryz.f198 [x0] R w = C R x0 w := by kernel_rfl
theorem ok {R : Ending → World → Prop} {x0 : Value} {w : World} (h : C R x0 w) : Calls PG N.linesmanref08_Names #[x0] w R :=
  fnW_sound mixed Tryz.func198 (args := [x0]) (by rw [C_eq]; exact h)
end linesmanref08_Names
namespace linesmanref08_reg
theorem okf : okFn PG N.linesmanref08_reg = true := by kernel_rfl
def note : Note := ⟨[], []⟩
def C (R : Ending → World → Prop) (x0 x1 : Value) (w : World) : Prop :=
  pu PG (binV .eql T.t_int true x0 (.int .i64 0)) fun t3 => condV t3 (R (.returned (.bool true)) w) (condV x1 (pu PG (binV .geq T.t_int true x0 (.int .i64 0)) fun t4 => condV t4 (pu PG (binV .leq T.t_int true x0 (.int .i64 15)) fun t5 => R (.returned t5) w) (R (.returned (.bool false)) w)) (R (.returned (.bool false)) w))
theorem C_eq (R : Ending → World → Prop) (x0 x1 : Value) (w : World) : fnW PG note 400 Tryz.f199 [x0, x1] R w = C R x0 x1 w := by kernel_rfl
theorem ok {R : Ending → World → Prop} {x0 x1 : Value} {w : World} (h : C R x0 x1 w) : Calls PG N.linesmanref08_reg #[x0, x1] w R :=
  fnW_sound mixed Tryz.func199 (args := [x0, x1]) (by rw [C_eq]; exact h)
end linesmanref08_reg
namespace arith_does_1
theorem okf : okFn PG N.arith_does_1 = true := by kernel_rfl
def note : Note := ⟨[], []⟩
def C (R : Ending → World → Prop) (x0 : Value) (w : World) : Prop :=
  alW (Value.cells x0) T.t_arith_pair (fun t2 w3 => faW 0 t2 fun t5 => ldW none t5 w3 fun t6 => faW 1 t2 fun t7 => ldW none t7 w3 fun t8 => pu PG (binV .add T.t_uint32 false t6 t8) fun t9 => R (.returned t9) w3) w
theorem C_eq (R : Ending → World → Prop) (x0 : Value) (w : World) : fnW PG note 400 Tryz.f200 [x0] R w = C R x0 w := by kernel_rfl
theorem ok {R : Ending → World → Prop} {x0 : Value} {w : World} (h : C R x0 w) : Calls PG N.arith_does_1 #[x0] w R :=
  fnW_sound mixed Tryz.func200 (args := [x0]) (by rw [C_eq]; exact h)
end arith_does_1
namespace arith_does_2
theorem okf : okFn PG N.arith_does_2 = true := by kernel_rfl
def note : Note := ⟨[], []⟩
def C (R : Ending → World → Prop) (x0 : Value) (w : World) : Prop :=
  alW (Value.cells x0) T.t_arith_pair (fun t2 w3 => faW 0 t2 fun t5 => ldW none t5 w3 fun t6 => faW 1 t2 fun t7 => ldW none t7 w3 fun t8 => pu PG (binV .sub T.t_uint32 false t6 t8) fun t9 => R (.returned t9) w3) w
theorem C_eq (R : Ending → World → Prop) (x0 : Value) (w : World) : fnW PG note 400 Tryz.f201 [x0] R w = C R x0 w := by kernel_rfl
theorem ok {R : Ending → World → Prop} {x0 : Value} {w : World} (h : C R x0 w) : Calls PG N.arith_does_2 #[x0] w R :=
  fnW_sound mixed Tryz.func201 (args := [x0]) (by rw [C_eq]; exact h)
end arith_does_2
namespace arith_does_3
theorem okf : okFn PG N.arith_does_3 = true := by kernel_rfl
def note : Note := ⟨[], []⟩
def C (R : Ending → World → Prop) (x0 : Value) (w : World) : Prop :=
  alW (Value.cells x0) T.t_arith_pair (fun t2 w3 => faW 0 t2 fun t5 => ldW none t5 w3 fun t6 => faW 1 t2 fun t7 => ldW none t7 w3 fun t8 => pu PG (binV .mul T.t_uint32 false t6 t8) fun t9 => R (.returned t9) w3) w
theorem C_eq (R : Ending → World → Prop) (x0 : Value) (w : World) : fnW PG note 400 Tryz.f202 [x0] R w = C R x0 w := by kernel_rfl
theorem ok {R : Ending → World → Prop} {x0 : Value} {w : World} (h : C R x0 w) : Calls PG N.arith_does_3 #[x0] w R :=
  fnW_sound mixed Tryz.func202 (args := [x0]) (by rw [C_eq]; exact h)
end arith_does_3
namespace arith_does_4
theorem okf : okFn PG N.arith_does_4 = true := by kernel_rfl
def note : Note := ⟨[], []⟩
def C (R : Ending → World → Prop) (x0 : Value) (w : World) : Prop :=
  alW (Value.cells x0) T.t_arith_pair (fun t2 w3 => faW 0 t2 fun t5 => ldW none t5 w3 fun t6 => faW 1 t2 fun t7 => ldW none t7 w3 fun t8 => pu PG (binV .quo T.t_uint32 false t6 t8) fun t9 => R (.returned t9) w3) w
theorem C_eq (R : Ending → World → Prop) (x0 : Value) (w : World) : fnW PG note 400 Tryz.f203 [x0] R w = C R x0 w := by kernel_rfl
theorem ok {R : Ending → World → Prop} {x0 : Value} {w : World} (h : C R x0 w) : Calls PG N.arith_does_4 #[x0] w R :=
  fnW_sound mixed Tryz.func203 (args := [x0]) (by rw [C_eq]; exact h)
end arith_does_4
namespace arith_does_5
theorem okf : okFn PG N.arith_does_5 = true := by kernel_rfl
def note : Note := ⟨[], []⟩
def C (R : Ending → World → Prop) (x0 : Value) (w : World) : Prop :=
  alW (Value.cells x0) T.t_arith_pair (fun t2 w3 => faW 0 t2 fun t5 => ldW none t5 w3 fun t6 => faW 1 t2 fun t7 => ldW none t7 w3 fun t8 => pu PG (binV .rem T.t_uint32 false t6 t8) fun t9 => R (.returned t9) w3) w
theorem C_eq (R : Ending → World → Prop) (x0 : Value) (w : World) : fnW PG note 400 Tryz.f204 [x0] R w = C R x0 w := by kernel_rfl
theorem ok {R : Ending → World → Prop} {x0 : Value} {w : World} (h : C R x0 w) : Calls PG N.arith_does_5 #[x0] w R :=
  fnW_sound mixed Tryz.func204 (args := [x0]) (by rw [C_eq]; exact h)
end arith_does_5
namespace arith_does_6
theorem okf : okFn PG N.arith_does_6 = true := by kernel_rfl
def note : Note := ⟨[], []⟩
def C (R : Ending → World → Prop) (x0 : Value) (w : World) : Prop :=
  alW (Value.cells x0) T.t_arith_pair (fun t2 w3 => faW 0 t2 fun t5 => ldW none t5 w3 fun t6 => faW 1 t2 fun t7 => ldW none t7 w3 fun t8 => pu PG (binV .and T.t_uint32 false t6 t8) fun t9 => R (.returned t9) w3) w
theorem C_eq (R : Ending → World → Prop) (x0 : Value) (w : World) : fnW PG note 400 Tryz.f205 [x0] R w = C R x0 w := by kernel_rfl
theorem ok {R : Ending → World → Prop} {x0 : Value} {w : World} (h : C R x0 w) : Calls PG N.arith_does_6 #[x0] w R :=
  fnW_sound mixed Tryz.func205 (args := [x0]) (by rw [C_eq]; exact h)
end arith_does_6
namespace arith_does_7
theorem okf : okFn PG N.arith_does_7 = true := by kernel_rfl
def note : Note := ⟨[], []⟩
def C (R : Ending → World → Prop) (x0 : Value) (w : World) : Prop :=
  alW (Value.cells x0) T.t_arith_pair (fun t2 w3 => faW 0 t2 fun t5 => ldW none t5 w3 fun t6 => faW 1 t2 fun t7 => ldW none t7 w3 fun t8 => pu PG (binV .or T.t_uint32 false t6 t8) fun t9 => R (.returned t9) w3) w
theorem C_eq (R : Ending → World → Prop) (x0 : Value) (w : World) : fnW PG note 400 Tryz.f206 [x0] R w = C R x0 w := by kernel_rfl
theorem ok {R : Ending → World → Prop} {x0 : Value} {w : World} (h : C R x0 w) : Calls PG N.arith_does_7 #[x0] w R :=
  fnW_sound mixed Tryz.func206 (args := [x0]) (by rw [C_eq]; exact h)
end arith_does_7
namespace arith_does_8
theorem okf : okFn PG N.arith_does_8 = true := by kernel_rfl
def note : Note := ⟨[], []⟩
def C (R : Ending → World → Prop) (x0 : Value) (w : World) : Prop :=
  alW (Value.cells x0) T.t_arith_pair (fun t2 w3 => faW 0 t2 fun t5 => ldW none t5 w3 fun t6 => faW 1 t2 fun t7 => ldW none t7 w3 fun t8 => pu PG (binV .xor T.t_uint32 false t6 t8) fun t9 => R (.returned t9) w3) w
theorem C_eq (R : Ending → World → Prop) (x0 : Value) (w : World) : fnW PG note 400 Tryz.f207 [x0] R w = C R x0 w := by kernel_rfl
theorem ok {R : Ending → World → Prop} {x0 : Value} {w : World} (h : C R x0 w) : Calls PG N.arith_does_8 #[x0] w R :=
  fnW_sound mixed Tryz.func207 (args := [x0]) (by rw [C_eq]; exact h)
end arith_does_8
namespace arith_does_9
theorem okf : okFn PG N.arith_does_9 = true := by kernel_rfl
def note : Note := ⟨[], []⟩
def C (R : Ending → World → Prop) (x0 : Value) (w : World) : Prop :=
  alW (Value.cells x0) T.t_arith_pair (fun t2 w3 => ∃ H5 : World → Prop, H5 (World.drew w3) ∧ (faW 0 t2 fun t6 => ldS none t6 H5 fun t7 => ldS (some 2) t2 H5 fun t8 => callW PG N.arith_pair_at [t8] (fun t9 w10 => H5 w10 ∧ (pu PG (binV .shl T.t_uint32 false t7 t9) fun t11 => R (.returned t11) w10)) (fun c w => ∀ s12 : S, R (.panicked c) w) (World.drew w3))) w
theorem C_eq (R : Ending → World → Prop) (x0 : Value) (w : World) : fnW PG note 400 Tryz.f208 [x0] R w = C R x0 w := by kernel_rfl
theorem ok {R : Ending → World → Prop} {x0 : Value} {w : World} (h : C R x0 w) : Calls PG N.arith_does_9 #[x0] w R :=
  fnW_sound mixed Tryz.func208 (args := [x0]) (by rw [C_eq]; exact h)
end arith_does_9
namespace arith_pair_at
theorem okf : okFn PG N.arith_pair_at = true := by kernel_rfl
def note : Note := ⟨[], []⟩
def C (R : Ending → World → Prop) (x0 : Value) (w : World) : Prop :=
  alW (Value.cells x0) T.t_arith_pair (fun t2 w3 => faW 1 t2 fun t5 => ldW none t5 w3 fun t6 => pu PG (binV .rem T.t_uint32 true t6 (.int .u32 32)) fun t7 => R (.returned t7) w3) w
theorem C_eq (R : Ending → World → Prop) (x0 : Value) (w : World) : fnW PG note 400 Tryz.f209 [x0] R w = C R x0 w := by kernel_rfl
theorem ok {R : Ending → World → Prop} {x0 : Value} {w : World} (h : C R x0 w) : Calls PG N.arith_pair_at #[x0] w R :=
  fnW_sound mixed Tryz.func209 (args := [x0]) (by rw [C_eq]; exact h)
end arith_pair_at
namespace arith_does_10
theorem okf : okFn PG N.arith_does_10 = true := by kernel_rfl
def note : Note := ⟨[], []⟩
def C (R : Ending → World → Prop) (x0 : Value) (w : World) : Prop :=
  alW (Value.cells x0) T.t_arith_pair (fun t2 w3 => ∃ H5 : World → Prop, H5 (World.drew w3) ∧ (faW 0 t2 fun t6 => ldS none t6 H5 fun t7 => ldS (some 2) t2 H5 fun t8 => callW PG N.arith_pair_at [t8] (fun t9 w10 => H5 w10 ∧ (pu PG (binV .shr T.t_uint32 false t7 t9) fun t11 => R (.returned t11) w10)) (fun c w => ∀ s12 : S, R (.panicked c) w) (World.drew w3))) w
theorem C_eq (R : Ending → World → Prop) (x0 : Value) (w : World) : fnW PG note 400 Tryz.f210 [x0] R w = C R x0 w := by kernel_rfl
theorem ok {R : Ending → World → Prop} {x0 : Value} {w : World} (h : C R x0 w) : Calls PG N.arith_does_10 #[x0] w R :=
  fnW_sound mixed Tryz.func210 (args := [x0]) (by rw [C_eq]; exact h)
end arith_does_10
namespace arith_does_11
theorem okf : okFn PG N.arith_does_11 = true := by kernel_rfl
def note : Note := ⟨[], []⟩
def C (R : Ending → World → Prop) (x0 : Value) (w : World) : Prop :=
  alW (Value.cells x0) T.t_arith_pair (fun t2 w3 => faW 0 t2 fun t5 => ldW none t5 w3 fun t6 => faW 1 t2 fun t7 => ldW none t7 w3 fun t8 => pu PG (binV .lss T.t_uint32 false t6 t8) fun t9 => callW PG N.arith_one [t9] (fun t10 w11 => R (.returned t10) w11) (fun c w => R (.panicked c) w) w3) w
theorem C_eq (R : Ending → World → Prop) (x0 : Value) (w : World) : fnW PG note 400 Tryz.f211 [x0] R w = C R x0 w := by kernel_rfl
theorem ok {R : Ending → World → Prop} {x0 : Value} {w : World} (h : C R x0 w) : Calls PG N.arith_does_11 #[x0] w R :=
  fnW_sound mixed Tryz.func211 (args := [x0]) (by rw [C_eq]; exact h)
end arith_does_11
namespace arith_one
theorem okf : okFn PG N.arith_one = true := by kernel_rfl
def note : Note := ⟨[], []⟩
def C (R : Ending → World → Prop) (x0 : Value) (w : World) : Prop :=
  condV x0 (R (.returned (.int .u32 1)) w) (R (.returned (.int .u32 0)) w)
theorem C_eq (R : Ending → World → Prop) (x0 : Value) (w : World) : fnW PG note 400 Tryz.f212 [x0] R w = C R x0 w := by kernel_rfl
theorem ok {R : Ending → World → Prop} {x0 : Value} {w : World} (h : C R x0 w) : Calls PG N.arith_one #[x0] w R :=
  fnW_sound mixed Tryz.func212 (args := [x0]) (by rw [C_eq]; exact h)
end arith_one
namespace arith_does_12
theorem okf : okFn PG N.arith_does_12 = true := by kernel_rfl
def note : Note := ⟨[], []⟩
def C (R : Ending → World → Prop) (x0 : Value) (w : World) : Prop :=
  alW (Value.cells x0) T.t_arith_pair (fun t2 w3 => faW 0 t2 fun t5 => ldW none t5 w3 fun t6 => faW 1 t2 fun t7 => ldW none t7 w3 fun t8 => pu PG (binV .eql T.t_uint32 false t6 t8) fun t9 => callW PG N.arith_one [t9] (fun t10 w11 => R (.returned t10) w11) (fun c w => R (.panicked c) w) w3) w
theorem C_eq (R : Ending → World → Prop) (x0 : Value) (w : World) : fnW PG note 400 Tryz.f213 [x0] R w = C R x0 w := by kernel_rfl
theorem ok {R : Ending → World → Prop} {x0 : Value} {w : World} (h : C R x0 w) : Calls PG N.arith_does_12 #[x0] w R :=
  fnW_sound mixed Tryz.func213 (args := [x0]) (by rw [C_eq]; exact h)
end arith_does_12
namespace arith_every
theorem okf : okFn PG N.arith_every = true := by kernel_rfl
def note : Note := ⟨[], []⟩
def C (R : Ending → World → Prop) (w : World) : Prop :=
  R (.returned (.func (.func N.arith_every_1) #[] #[])) w
theorem C_eq (R : Ending → World → Prop) (w : World) : fnW PG note 400 Tryz.f214 [] R w = C R  w := by kernel_rfl
theorem ok {R : Ending → World → Prop} {w : World} (h : C R  w) : Calls PG N.arith_every #[] w R :=
  fnW_sound mixed Tryz.func214 (args := []) (by rw [C_eq]; exact h)
end arith_every
namespace slices_Index_sl_api_Op_api_Op
theorem okf : okFn PG N.slices_Index_sl_api_Op_api_Op = true := by kernel_rfl
def note : Note := ⟨[(0, [8])], []⟩
def C (R : Ending → World → Prop) (x0 x1 : Value) (w : World) : Prop :=
  lnS x0 fun t4 => LoopW [(.int .i64 0)] (fun l6 N7 w8 => ∀ j5 : S, pu PG (binV .lss T.t_int false (gv l6 0) t4) fun t10 => condV t10 (ixS 1 x0 (gv l6 0) fun t15 => ldW none t15 w8 fun t16 => pu PG (binV .eql T.t_api_Op false x1 t16) fun t17 => condV t17 (R (.returned (gv l6 0)) w8) (pu PG (binV .add T.t_int true (gv l6 0) (.int .i64 1)) fun t19 => N7 [t19] w8)) (R (.returned (.int .i64 (-1))) w8)) w
theorem C_eq (R : Ending → World → Prop) (x0 x1 : Value) (w : World) : fnW PG note 400 Tryz.f215 [x0, x1] R w = C R x0 x1 w := by kernel_rfl
theorem ok {R : Ending → World → Prop} {x0 x1 : Value} {w : World} (h : C R x0 x1 w) : Calls PG N.slices_Index_sl_api_Op_api_Op #[x0, x1] w R :=
  fnW_sound mixed Tryz.func215 (args := [x0, x1]) (by rw [C_eq]; exact h)
end slices_Index_sl_api_Op_api_Op
namespace arith_word_signed
theorem okf : okFn PG N.arith_word_signed = true := by kernel_rfl
def note : Note := ⟨[], []⟩
def C (R : Ending → World → Prop) (x0 : Value) (w : World) : Prop :=
  pu PG (convert T.t_arith_word T.t_int32 x0) fun t3 => pu PG (convert T.t_int32 T.t_int64 t3) fun t4 => R (.returned t4) w
theorem C_eq (R : Ending → World → Prop) (x0 : Value) (w : World) : fnW PG note 400 Tryz.f216 [x0] R w = C R x0 w := by kernel_rfl
theorem ok {R : Ending → World → Prop} {x0 : Value} {w : World} (h : C R x0 w) : Calls PG N.arith_word_signed #[x0] w R :=
  fnW_sound mixed Tryz.func216 (args := [x0]) (by rw [C_eq]; exact h)
end arith_word_signed
namespace slices_ContainsFunc_sl_program_bound_program_bound
theorem okf : okFn PG N.slices_ContainsFunc_sl_program_bound_program_bound = true := by kernel_rfl
def note : Note := ⟨[], []⟩
def C (R : Ending → World → Prop) (x0 x1 : Value) (w : World) : Prop :=
  callW PG N.slices_IndexFunc_sl_program_bound_program_bound [x0, x1] (fun t3 w4 => pu PG (binV .geq T.t_int true t3 (.int .i64 0)) fun t5 => R (.returned t5) w4) (fun c w => R (.panicked c) w) w
theorem C_eq (R : Ending → World → Prop) (x0 x1 : Value) (w : World) : fnW PG note 400 Tryz.f217 [x0, x1] R w = C R x0 x1 w := by kernel_rfl
theorem ok {R : Ending → World → Prop} {x0 x1 : Value} {w : World} (h : C R x0 x1 w) : Calls PG N.slices_ContainsFunc_sl_program_bound_program_bound #[x0, x1] w R :=
  fnW_sound mixed Tryz.func217 (args := [x0, x1]) (by rw [C_eq]; exact h)
end slices_ContainsFunc_sl_program_bound_program_bound
namespace program_all_program_bound_1
theorem okf : okFn PG N.program_all_program_bound_1 = true := by kernel_rfl
def note : Note := ⟨[], []⟩
def C (R : Ending → World → Prop) (x0 x1 : Value) (w : World) : Prop :=
  alW (Value.cells x0) T.t_program_bound (fun t2 w3 => ldW none x1 w3 fun t5 => ldW (some 3) t2 w3 fun t6 => callV PG t5 [t6] (fun t7 w8 => pu PG (Op.unary .not t7) fun t9 => R (.returned t9) w8) (fun c w => R (.panicked c) w) w3) w
theorem C_eq (R : Ending → World → Prop) (x0 x1 : Value) (w : World) : fnW PG note 400 Tryz.f218 [x0, x1] R w = C R x0 x1 w := by kernel_rfl
theorem ok {R : Ending → World → Prop} {x0 x1 : Value} {w : World} (h : C R x0 x1 w) : Calls PG N.program_all_program_bound_1 #[x0, x1] w R :=
  fnW_sound mixed Tryz.func218 (args := [x0, x1]) (by rw [C_eq]; exact h)
end program_all_program_bound_1
namespace program_place_ins
theorem okf : okFn PG N.program_place_ins = true := by kernel_rfl
def note : Note := ⟨[], []⟩
def C (R : Ending → World → Prop) (x0 : Value) (w : World) : Prop :=
  alW (Value.cells x0) T.t_program_place (fun t2 w3 => alW (zc PG T.t_api_Ins) T.t_api_Ins (fun t4 w5 => faW 0 t2 fun t7 => faW 1 t7 fun t8 => ldW none t8 w5 fun t9 => faW 6 t2 fun t10 => ldW none t10 w5 fun t11 => ixS 5 t9 t11 fun t12 => ldW (some 5) t12 w5 fun t13 => stW 5 t4 t13 (fun w14 => ldW (some 5) t4 w14 fun t15 => R (.returned t15) w14) w5) w3) w
theorem C_eq (R : Ending → World → Prop) (x0 : Value) (w : World) : fnW PG note 400 Tryz.f219 [x0] R w = C R x0 w := by kernel_rfl
theorem ok {R : Ending → World → Prop} {x0 : Value} {w : World} (h : C R x0 w) : Calls PG N.program_place_ins #[x0] w R :=
  fnW_sound mixed Tryz.func219 (args := [x0]) (by rw [C_eq]; exact h)
end program_place_ins
namespace instr_Regs
theorem okf : okFn PG N.instr_Regs = true := by kernel_rfl
def note : Note := ⟨[(0, [2, 12])], []⟩
def C (R : Ending → World → Prop) (x0 : Value) (w : World) : Prop :=
  alW (Value.cells x0) T.t_api_Ins (fun t2 w3 => ldW (some 5) t2 w3 fun t6 => callW PG N.instr_right [t6] (fun t7 w8 => pu PG (Op.unary .not t7) fun t9 => condV t9 (R (.returned (.int .i64 0)) w8) (faW 0 t2 fun t13 => ldW none t13 w8 fun t14 => callW PG N.instr_named [t14] (fun t15 w16 => lnS t15 fun t17 => LoopW [(.int .i64 0), (.int .i64 0)] (fun l19 N20 w21 => ∀ j18 : S, pu PG (binV .lss T.t_int false (gv l19 1) t17) fun t23 => condV t23 (ixS 4 t15 (gv l19 1) fun t27 => ldW (some 4) t27 w21 fun t28 => alW (zc PG T.t_instr_part) T.t_instr_part (fun t29 w30 => stW 4 t29 t28 (fun w31 => faW 1 t29 fun t33 => ldW none t33 w31 fun t34 => pu PG (binV .eql T.t_string true t34 (.string (bs [114]))) fun t35 => condV t35 (faW 2 t29 fun t36 => ldW none t36 w31 fun t37 => ldW (some 5) t2 w31 fun t38 => callV PG t37 [t38] (fun t39 w40 => pu PG (convert T.t_uint64 T.t_int t39) fun t41 => pu PG (binV .add T.t_int true t41 (.int .i64 1)) fun t42 => pu PG (Builtin.max_ #[T.t_int, T.t_int] 0 #[(gv l19 0), t42]) fun t43 => pu PG (binV .add T.t_int true (gv l19 1) (.int .i64 1)) fun t44 => N20 [t43, t44] w40) (fun c w => R (.panicked c) w) w31) (pu PG (binV .add T.t_int true (gv l19 1) (.int .i64 1)) fun t45 => N20 [(gv l19 0), t45] w31)) w30) w21) (faW 0 t2 fun t48 => ldW none t48 w21 fun t49 => bsW T.t_api_Op 2 (bsC PG T.t_api_Op 2 [(0, (.int .i64 8)), (1, (.int .i64 10))]) (fun t50 w51 => callW PG N.instr_among_api_Op [t49, t50] (fun t52 w53 => condV t52 (faW 2 t2 fun t54 => ldW none t54 w53 fun t55 => faW 3 t2 fun t56 => ldW none t56 w53 fun t57 => pu PG (binV .add T.t_int false t55 t57) fun t58 => pu PG (Builtin.max_ #[T.t_int, T.t_int] 0 #[(gv l19 0), t58]) fun t59 => R (.returned t59) w53) (R (.returned (gv l19 0)) w53)) (fun c w => R (.panicked c) w) w51) w21)) w16) (fun c w => R (.panicked c) w) w8)) (fun c w => R (.panicked c) w) w3) w
theorem C_eq (R : Ending → World → Prop) (x0 : Value) (w : World) : fnW PG note 400 Tryz.f220 [x0] R w = C R x0 w := by kernel_rfl
theorem ok {R : Ending → World → Prop} {x0 : Value} {w : World} (h : C R x0 w) : Calls PG N.instr_Regs #[x0] w R :=
  fnW_sound mixed Tryz.func220 (args := [x0]) (by rw [C_eq]; exact h)
end instr_Regs
namespace instr_Leaves
theorem okf : okFn PG N.instr_Leaves = true := by kernel_rfl
def note : Note := ⟨[], []⟩
def C (R : Ending → World → Prop) (x0 : Value) (w : World) : Prop :=
  alW (Value.cells x0) T.t_api_Ins (fun t2 w3 => ldW (some 5) t2 w3 fun t5 => callW PG N.instr_right [t5] (fun t6 w7 => condV t6 (faW 0 t2 fun t8 => ldW none t8 w7 fun t9 => bsW T.t_api_Op 2 (bsC PG T.t_api_Op 2 [(0, (.int .i64 4)), (1, (.int .i64 9))]) (fun t10 w11 => callW PG N.instr_among_api_Op [t9, t10] (fun t12 w13 => R (.returned t12) w13) (fun c w => R (.panicked c) w) w11) w7) (R (.returned (.bool false)) w7)) (fun c w => R (.panicked c) w) w3) w
theorem C_eq (R : Ending → World → Prop) (x0 : Value) (w : World) : fnW PG note 400 Tryz.f221 [x0] R w = C R x0 w := by kernel_rfl
theorem ok {R : Ending → World → Prop} {x0 : Value} {w : World} (h : C R x0 w) : Calls PG N.instr_Leaves #[x0] w R :=
  fnW_sound mixed Tryz.func221 (args := [x0]) (by rw [C_eq]; exact h)
end instr_Leaves
namespace instr_Read_1
theorem okf : okFn PG N.instr_Read_1 = true := by kernel_rfl
def note : Note := ⟨[], []⟩
def C (R : Ending → World → Prop) (x0 x1 : Value) (w : World) : Prop :=
  pu PG (Instr.build T.t_api_Ins #[]) fun t1 => stW 5 x0 t1 (fun w2 => stW 1 x1 (.int .i64 0) (fun w3 => R (.returned (.tuple #[])) w3) w2) w
theorem C_eq (R : Ending → World → Prop) (x0 x1 : Value) (w : World) : fnW PG note 400 Tryz.f223 [x0, x1] R w = C R x0 x1 w := by kernel_rfl
theorem ok {R : Ending → World → Prop} {x0 x1 : Value} {w : World} (h : C R x0 x1 w) : Calls PG N.instr_Read_1 #[x0, x1] w R :=
  fnW_sound mixed Tryz.func223 (args := [x0, x1]) (by rw [C_eq]; exact h)
end instr_Read_1
namespace instr_reader_number
theorem okf : okFn PG N.instr_reader_number = true := by kernel_rfl
def note : Note := ⟨[], []⟩
def C (R : Ending → World → Prop) (x0 x1 : Value) (w : World) : Prop :=
  ∃ H3 : World → Prop, H3 (World.drew w) ∧ (nlW x0 fun t4 => faW 0 t4 fun t5 => ldS (some 1) t5 H3 fun t6 => nlW x0 fun t7 => faW 1 t7 fun t8 => ldS none t8 H3 fun t9 => callW PG N.instr_tape_left [t6, t9, x1] (fun t10 w11 => callW PG N.instr_must [t10, (.int .i64 110)] (fun t12 w13 => ∃ H17 : World → Prop, H17 (World.drew w13) ∧ (nlW x0 fun t18 => faW 0 t18 fun t19 => faW 0 t19 fun t20 => ldS none t20 H17 fun t21 => nlW x0 fun t22 => faW 1 t22 fun t23 => ldS none t23 H17 fun t24 => pu PG (Instr.sliceAt T.t_sl_uint8 t21 (some t24) none none) fun t25 => callW PG N.octet_ReadFixed [t25, x1] (fun t26 w27 => exW 0 t26 fun t28 => exW 1 t26 fun t29 => nlW x0 fun t32 => faW 1 t32 fun t33 => ldW none t33 w27 fun t34 => pu PG (binV .add T.t_int false t34 x1) fun t35 => nlW x0 fun t36 => faW 1 t36 fun t37 => stW 1 t37 t35 (fun w38 => R (.returned t28) w38) w27) (fun c w => ∀ s30 : S, R (.panicked c) w) (World.drew w13))) (fun c w => ∀ s14 : S, R (.panicked c) w) w11) (fun c w => ∀ s15 : S, R (.panicked c) w) (World.drew w))
theorem C_eq (R : Ending → World → Prop) (x0 x1 : Value) (w : World) : fnW PG note 400 Tryz.f224 [x0, x1] R w = C R x0 x1 w := by kernel_rfl
theorem ok {R : Ending → World → Prop} {x0 x1 : Value} {w : World} (h : C R x0 x1 w) : Calls PG N.instr_reader_number #[x0, x1] w R :=
  fnW_sound mixed Tryz.func224 (args := [x0, x1]) (by rw [C_eq]; exact h)
end instr_reader_number
namespace instr_must
theorem okf : okFn PG N.instr_must = true := by kernel_rfl
def note : Note := ⟨[], []⟩
def C (R : Ending → World → Prop) (x0 x1 : Value) (w : World) : Prop :=
  pu PG (Op.unary .not x0) fun t2 => condV t2 (R (.panicked [{ v := (.iface T.t_api_Errno x1), recovered := false }]) w) (R (.returned (.tuple #[])) w)
theorem C_eq (R : Ending → World → Prop) (x0 x1 : Value) (w : World) : fnW PG note 400 Tryz.f225 [x0, x1] R w = C R x0 x1 w := by kernel_rfl
theorem ok {R : Ending → World → Prop} {x0 x1 : Value} {w : World} (h : C R x0 x1 w) : Calls PG N.instr_must #[x0, x1] w R :=
  fnW_sound mixed Tryz.func225 (args := [x0, x1]) (by rw [C_eq]; exact h)
end instr_must
namespace slices_Contains_sl_int_int
theorem okf : okFn PG N.slices_Contains_sl_int_int = true := by kernel_rfl
def note : Note := ⟨[], []⟩
def C (R : Ending → World → Prop) (x0 x1 : Value) (w : World) : Prop :=
  callW PG N.slices_Index_sl_int_int [x0, x1] (fun t3 w4 => pu PG (binV .geq T.t_int true t3 (.int .i64 0)) fun t5 => R (.returned t5) w4) (fun c w => R (.panicked c) w) w
theorem C_eq (R : Ending → World → Prop) (x0 x1 : Value) (w : World) : fnW PG note 400 Tryz.f226 [x0, x1] R w = C R x0 x1 w := by kernel_rfl
theorem ok {R : Ending → World → Prop} {x0 x1 : Value} {w : World} (h : C R x0 x1 w) : Calls PG N.slices_Contains_sl_int_int #[x0, x1] w R :=
  fnW_sound mixed Tryz.func226 (args := [x0, x1]) (by rw [C_eq]; exact h)
end slices_Contains_sl_int_int
namespace slices_Values_sl_byte_byte_1
theorem okf : okFn PG N.slices_Values_sl_byte_byte_1 = true := by kernel_rfl
def note : Note := ⟨[(0, [7])], []⟩
def C (R : Ending → World → Prop) (x0 x1 : Value) (w : World) : Prop :=
  ldW none x1 w fun t2 => lnS t2 fun t3 => LoopW [(.int .i64 0)] (fun l5 N6 w7 => ∀ j4 : S, pu PG (binV .lss T.t_int false (gv l5 0) t3) fun t9 => condV t9 (ixS 1 t2 (gv l5 0) fun t13 => ldW none t13 w7 fun t14 => callV PG x0 [t14] (fun t16 w17 => pu PG (Op.unary .not t16) fun t18 => condV t18 (R (.returned (.tuple #[])) w17) (pu PG (binV .add T.t_int true (gv l5 0) (.int .i64 1)) fun t19 => N6 [t19] w17)) (fun c w => R (.panicked c) w) w7) (R (.returned (.tuple #[])) w7)) w
theorem C_eq (R : Ending → World → Prop) (x0 x1 : Value) (w : World) : fnW PG note 400 Tryz.f227 [x0, x1] R w = C R x0 x1 w := by kernel_rfl
theorem ok {R : Ending → World → Prop} {x0 x1 : Value} {w : World} (h : C R x0 x1 w) : Calls PG N.slices_Values_sl_byte_byte_1 #[x0, x1] w R :=
  fnW_sound mixed Tryz.func227 (args := [x0, x1]) (by rw [C_eq]; exact h)
end slices_Values_sl_byte_byte_1
namespace arith_every_1
theorem okf : okFn PG N.arith_every_1 = true := by kernel_rfl
def note : Note := ⟨[(0, [5])], []⟩
def C (R : Ending → World → Prop) (x0 : Value) (w : World) : Prop :=
  callW PG N.arith_names [] (fun t2 w3 => LoopW [(.int .i64 0)] (fun l5 N6 w7 => ∀ j4 : S, pu PG (binV .lss T.t_int true (gv l5 0) (.int .i64 12)) fun t9 => condV t9 (ixV 12 1 false t2 (gv l5 0) fun t13 => pu PG (binV .add T.t_int true (gv l5 0) (.int .i64 1)) fun t15 => callV PG x0 [t15, t13] (fun t16 w17 => pu PG (Op.unary .not t16) fun t18 => condV t18 (R (.returned (.tuple #[])) w17) (pu PG (binV .add T.t_int true (gv l5 0) (.int .i64 1)) fun t19 => N6 [t19] w17)) (fun c w => R (.panicked c) w) w7) (R (.returned (.tuple #[])) w7)) w3) (fun c w => R (.panicked c) w) w
theorem C_eq (R : Ending → World → Prop) (x0 : Value) (w : World) : fnW PG note 400 Tryz.f228 [x0] R w = C R x0 w := by kernel_rfl
theorem ok {R : Ending → World → Prop} {x0 : Value} {w : World} (h : C R x0 w) : Calls PG N.arith_every_1 #[x0] w R :=
  fnW_sound mixed Tryz.func228 (args := [x0]) (by rw [C_eq]; exact h)
end arith_every_1
namespace arith_names
theorem okf : okFn PG N.arith_names = true := by kernel_rfl
def note : Note := ⟨[], []⟩
def C (R : Ending → World → Prop) (w : World) : Prop :=
  alW (zc PG T.t_12_string) T.t_12_string (fun t2 w3 => pu PG (Instr.build T.t_12_string #[(0, (.string (bs [97, 100, 100]))), (1, (.string (bs [115, 117, 98]))), (2, (.string (bs [109, 117, 108]))), (3, (.string (bs [100, 105, 118]))), (4, (.string (bs [109, 111, 100]))), (5, (.string (bs [97, 110, 100]))), (6, (.string (bs [111, 114]))), (7, (.string (bs [120, 111, 114]))), (8, (.string (bs [115, 104, 108]))), (9, (.string (bs [115, 104, 114]))), (10, (.string (bs [108, 101, 115, 115]))), (11, (.string (bs [101, 113, 117, 97, 108])))]) fun t5 => stW 12 t2 t5 (fun w6 => ldW (some 12) t2 w6 fun t7 => R (.returned t7) w6) w3) w
theorem C_eq (R : Ending → World → Prop) (w : World) : fnW PG note 400 Tryz.f229 [] R w = C R  w := by kernel_rfl
theorem ok {R : Ending → World → Prop} {w : World} (h : C R  w) : Calls PG N.arith_names #[] w R :=
  fnW_sound mixed Tryz.func229 (args := []) (by rw [C_eq]; exact h)
end arith_names
namespace slices_IndexFunc_sl_program_bound_program_bound
theorem okf : okFn PG N.slices_IndexFunc_sl_program_bound_program_bound = true := by kernel_rfl
def note : Note := ⟨[(0, [8])], []⟩
def C (R : Ending → World → Prop) (x0 x1 : Value) (w : World) : Prop :=
  lnS x0 fun t4 => LoopW [(.int .i64 0)] (fun l6 N7 w8 => ∀ j5 : S, pu PG (binV .lss T.t_int false (gv l6 0) t4) fun t10 => condV t10 (ixS 3 x0 (gv l6 0) fun t15 => ldW (some 3) t15 w8 fun t16 => callV PG x1 [t16] (fun t17 w18 => condV t17 (R (.returned (gv l6 0)) w18) (pu PG (binV .add T.t_int true (gv l6 0) (.int .i64 1)) fun t20 => N7 [t20] w18)) (fun c w => R (.panicked c) w) w8) (R (.returned (.int .i64 (-1))) w8)) w
theorem C_eq (R : Ending → World → Prop) (x0 x1 : Value) (w : World) : fnW PG note 400 Tryz.f230 [x0, x1] R w = C R x0 x1 w := by kernel_rfl
theorem ok {R : Ending → World → Prop} {x0 x1 : Value} {w : World} (h : C R x0 x1 w) : Calls PG N.slices_IndexFunc_sl_program_bound_program_bound #[x0, x1] w R :=
  fnW_sound mixed Tryz.func230 (args := [x0, x1]) (by rw [C_eq]; exact h)
end slices_IndexFunc_sl_program_bound_program_bound
namespace instr_tape_left
theorem okf : okFn PG N.instr_tape_left = true := by kernel_rfl
def note : Note := ⟨[], []⟩
def C (R : Ending → World → Prop) (x0 x1 x2 : Value) (w : World) : Prop :=
  alW (Value.cells x0) T.t_instr_tape (fun t2 w3 => faW 0 t2 fun t5 => ldW none t5 w3 fun t6 => lnS t6 fun t7 => pu PG (binV .sub T.t_int false t7 x1) fun t8 => pu PG (binV .geq T.t_int false t8 x2) fun t9 => R (.returned t9) w3) w
theorem C_eq (R : Ending → World → Prop) (x0 x1 x2 : Value) (w : World) : fnW PG note 400 Tryz.f231 [x0, x1, x2] R w = C R x0 x1 x2 w := by kernel_rfl
theorem ok {R : Ending → World → Prop} {x0 x1 x2 : Value} {w : World} (h : C R x0 x1 x2 w) : Calls PG N.instr_tape_left #[x0, x1, x2] w R :=
  fnW_sound mixed Tryz.func231 (args := [x0, x1, x2]) (by rw [C_eq]; exact h)
end instr_tape_left
namespace slices_Index_sl_int_int
theorem okf : okFn PG N.slices_Index_sl_int_int = true := by kernel_rfl
def note : Note := ⟨[(0, [8])], []⟩
def C (R : Ending → World → Prop) (x0 x1 : Value) (w : World) : Prop :=
  lnS x0 fun t4 => LoopW [(.int .i64 0)] (fun l6 N7 w8 => ∀ j5 : S, pu PG (binV .lss T.t_int false (gv l6 0) t4) fun t10 => condV t10 (ixS 1 x0 (gv l6 0) fun t15 => ldW none t15 w8 fun t16 => pu PG (binV .eql T.t_int false x1 t16) fun t17 => condV t17 (R (.returned (gv l6 0)) w8) (pu PG (binV .add T.t_int true (gv l6 0) (.int .i64 1)) fun t19 => N7 [t19] w8)) (R (.returned (.int .i64 (-1))) w8)) w
theorem C_eq (R : Ending → World → Prop) (x0 x1 : Value) (w : World) : fnW PG note 400 Tryz.f232 [x0, x1] R w = C R x0 x1 w := by kernel_rfl
theorem ok {R : Ending → World → Prop} {x0 x1 : Value} {w : World} (h : C R x0 x1 w) : Calls PG N.slices_Index_sl_int_int #[x0, x1] w R :=
  fnW_sound mixed Tryz.func232 (args := [x0, x1]) (by rw [C_eq]; exact h)
end slices_Index_sl_int_int
end Go.Proofs.YtkkkcafkepnecaaGreat
