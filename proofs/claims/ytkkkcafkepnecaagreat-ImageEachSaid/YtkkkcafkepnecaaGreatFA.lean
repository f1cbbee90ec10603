/- Conditions of functions, printed by a program of this session (gen.py) and checked by the kernel. -/
import Derived.Test.YtkkkcafkepnecaaGreatZB
set_option linter.unusedVariables false
namespace Go.Proofs.YtkkkcafkepnecaaGreat
open Go Go.RowKit Vc

namespace program_Check
theorem okf : okFn PG N.program_Check = true := by kernel_rfl
def note : Note := ⟨[], []⟩
def C (R : Ending → World → Prop) (x0 : Value) (w : World) : Prop :=
  alW (Value.cells x0) T.t_api_Program (fun t2 w3 => ldW (some 4) t2 w3 fun t6 => callW PG N.program_numbers [t6] (fun t7 w8 => pu PG (Op.unary .not t7) fun t9 => condV t9 (R (.returned (.int .i64 2)) w8) (ldW (some 4) t2 w8 fun t14 => callW PG N.program_Wrong [t14] (fun t15 w16 => exW 0 t15 fun t17 => exW 1 t15 fun t18 => alW (zc PG T.t_api_Site) T.t_api_Site (fun t19 w20 => stW 2 t19 t17 (fun w21 => condV t18 (R (.returned (.int .i64 2)) w21) (R (.returned (.int .i64 0)) w21)) w20) w16) (fun c w => R (.panicked c) w) w8)) (fun c w => R (.panicked c) w) w3) w
theorem C_eq (R : Ending → World → Prop) (x0 : Value) (w : World) : fnW PG note 400 Tryz.f57 [x0] R w = C R x0 w := by kernel_rfl
theorem ok {R : Ending → World → Prop} {x0 : Value} {w : World} (h : C R x0 w) : Calls PG N.program_Check #[x0] w R :=
  fnW_sound mixed Tryz.func57 (args := [x0]) (by rw [C_eq]; exact h)
end program_Check
namespace program_numbers
theorem okf : okFn PG N.program_numbers = true := by kernel_rfl
def note : Note := ⟨[(0, [3, 23])], []⟩
def C (R : Ending → World → Prop) (x0 : Value) (w : World) : Prop :=
  alW (Value.cells x0) T.t_api_Program (fun t2 w3 => faW 0 t2 fun t5 => ldW none t5 w3 fun t6 => lnS t6 fun t7 => pu PG (Instr.build T.t_program_bound #[(0, t7), (1, (.int .i64 1)), (2, (.int .i64 32))]) fun t8 => faW 1 t2 fun t9 => ldW none t9 w3 fun t10 => pu PG (Instr.build T.t_program_bound #[(0, t10), (1, (.int .i64 0)), (2, (.int .i64 64))]) fun t11 => faW 2 t2 fun t12 => ldW none t12 w3 fun t13 => pu PG (Instr.build T.t_program_bound #[(0, t13), (1, (.int .i64 0)), (2, (.int .i64 64))]) fun t14 => faW 3 t2 fun t15 => ldW none t15 w3 fun t16 => pu PG (Instr.build T.t_program_bound #[(0, t16), (1, (.int .i64 0)), (2, (.int .i64 64))]) fun t17 => bsW T.t_program_bound 4 (bsC PG T.t_program_bound 4 [(0, t8), (1, t11), (2, t14), (3, t17)]) (fun t18 w19 => faW 0 t2 fun t22 => ldW none t22 w19 fun t23 => lnS t23 fun t24 => LoopW [t18, (.int .i64 0)] (fun l26 N27 w28 => ∀ j25 : S, pu PG (binV .lss T.t_int false (gv l26 1) t24) fun t30 => condV t30 (ixS 2 t23 (gv l26 1) fun t34 => ldW (some 2) t34 w28 fun t35 => alW (zc PG T.t_api_Func) T.t_api_Func (fun t36 w37 => stW 2 t36 t35 (fun w38 => faW 0 t36 fun t39 => ldW none t39 w38 fun t40 => pu PG (Instr.build T.t_program_bound #[(0, t40), (1, (.int .i64 1)), (2, (.int .i64 16))]) fun t41 => faW 1 t36 fun t42 => ldW none t42 w38 fun t43 => lnS t43 fun t44 => pu PG (Instr.build T.t_program_bound #[(0, t44), (1, (.int .i64 1)), (2, (.int .i64 512))]) fun t45 => bsW T.t_program_bound 2 (bsC PG T.t_program_bound 2 [(0, t41), (1, t45)]) (fun t46 w47 => opW PG (Builtin.append_ #[T.t_sl_program_bound, T.t_sl_program_bound] T.t_sl_program_bound #[(gv l26 0), t46]) (fun t48 w49 => pu PG (binV .add T.t_int true (gv l26 1) (.int .i64 1)) fun t50 => N27 [t48, t50] w49) w47) w38) w37) w28) (callW PG N.program_within [(gv l26 0)] (fun t52 w53 => R (.returned t52) w53) (fun c w => R (.panicked c) w) w28)) w19) w3) w
theorem C_eq (R : Ending → World → Prop) (x0 : Value) (w : World) : fnW PG note 400 Tryz.f105 [x0] R w = C R x0 w := by kernel_rfl
theorem ok {R : Ending → World → Prop} {x0 : Value} {w : World} (h : C R x0 w) : Calls PG N.program_numbers #[x0] w R :=
  fnW_sound mixed Tryz.func105 (args := [x0]) (by rw [C_eq]; exact h)
end program_numbers
namespace program_Wrong
theorem okf : okFn PG N.program_Wrong = true := by kernel_rfl
def note : Note := ⟨[], [(0, [2, 3])]⟩
def rp0 : Array Tmp := #[12, 13]
noncomputable def ra0 : Code := sub [1, 1, 0, 1, 0, 0] (bodyOf Tryz.f106)
noncomputable def rb0 : Code := sub [1, 1, 0, 1, 0, 1] (bodyOf Tryz.f106)
def C (R : Ending → World → Prop) (x0 : Value) (w : World) : Prop :=
  alW (Value.cells x0) T.t_api_Program (fun t2 w3 => alW (zc PG T.t_api_Site) T.t_api_Site (fun t4 w5 => alW (zc PG T.t_bool) T.t_bool (fun t6 w7 => ldW (some 4) t2 w7 fun t10 => callW PG N.program_numbers [t10] (fun t11 w12 => pu PG (Op.unary .not t11) fun t13 => condV t13 (pu PG (Instr.build T.t_api_Site #[]) fun t15 => stW 2 t4 t15 (fun w16 => stW 1 t6 (.bool false) (fun w17 => ldW (some 2) t4 w17 fun t18 => ldW none t6 w17 fun t19 => R (.returned (.tuple #[t18, t19])) w17) w16) w12) (ldW (some 4) t2 w12 fun t22 => callW PG N.program_every [t22] (fun t23 w24 => RangeW PG none 19 [(2, t4), (3, t6)] rp0 ra0 rb0 t23 (fun d25 w26 => pu PG (Instr.build T.t_api_Site #[]) fun t34 => stW 2 t4 t34 (fun w35 => stW 1 t6 (.bool false) (fun w36 => LvW PG d25 .returning w36 (endV (fun w37 => ldW (some 2) t4 w37 fun t38 => ldW none t6 w37 fun t39 => R (.returned (.tuple #[t38, t39])) w37) R)) w35) w26) (fun d25 w26 => LvW PG d25 .returning w26 (endV (fun w27 => ldW (some 2) t4 w27 fun t28 => ldW none t6 w27 fun t29 => R (.returned (.tuple #[t28, t29])) w27) R)) [] (fun c d25 w26 => LvW PG d25 (.panicking c) w26 (endV (fun w30 => ldW (some 2) t4 w30 fun t31 => ldW none t6 w30 fun t32 => R (.returned (.tuple #[t31, t32])) w30) R)) [] w24) (fun c w => R (.panicked c) w) w12)) (fun c w => R (.panicked c) w) w7) w5) w3) w
theorem C_eq (R : Ending → World → Prop) (x0 : Value) (w : World) : fnW PG note 400 Tryz.f106 [x0] R w = C R x0 w := by kernel_rfl
theorem ok {R : Ending → World → Prop} {x0 : Value} {w : World} (h : C R x0 w) : Calls PG N.program_Wrong #[x0] w R :=
  fnW_sound mixed Tryz.func106 (args := [x0]) (by rw [C_eq]; exact h)
def Rd0 (l : Nat) (R : Value → World → Prop) (v2 v3 a0 a1 : Value) (w : World) : Prop :=
  alW (zc PG T.t_api_Site) T.t_api_Site (fun t41 w42 => stW 2 t41 a0 (fun w43 => alW (zc PG T.t_program_place) T.t_program_place (fun t44 w45 => stW 7 t44 a1 (fun w46 => rBeg l (fun w47 => ldW (some 7) t44 w47 fun t49 => callW PG N.program_place_fine [t49] (fun t50 w51 => pu PG (Op.unary .not t50) fun t52 => condV t52 (ldW (some 2) t41 w51 fun t54 => stW 2 v2 t54 (fun w55 => stW 1 v3 (.bool true) (fun w56 => rEnd l (some .ret) R w56) w55) w51) (rEnd l none R w51)) (fun c w => False) w47) w46) w45) w43) w42) w
theorem Rd0_eq (l : Nat) (R : Value → World → Prop) (v2 v3 a0 a1 : Value) (w : World) (u : S) : rndW PG note 19 400 l ra0 rb0 (pset [12, 13] [a0, a1] (ovrP [(2, v2), (3, v3)] u)) R w = Rd0 l R v2 v3 a0 a1 w := by kernel_rfl
end program_Wrong
namespace instr_Check
theorem okf : okFn PG N.instr_Check = true := by kernel_rfl
def note : Note := ⟨[], []⟩
def C (R : Ending → World → Prop) (x0 : Value) (w : World) : Prop :=
  alW (Value.cells x0) T.t_api_Ins (fun t2 w3 => ldW (some 5) t2 w3 fun t6 => callW PG N.instr_right [t6] (fun t7 w8 => pu PG (Op.unary .not t7) fun t9 => condV t9 (R (.returned (.int .i64 2)) w8) (R (.returned (.int .i64 0)) w8)) (fun c w => R (.panicked c) w) w3) w
theorem C_eq (R : Ending → World → Prop) (x0 : Value) (w : World) : fnW PG note 400 Tryz.f114 [x0] R w = C R x0 w := by kernel_rfl
theorem ok {R : Ending → World → Prop} {x0 : Value} {w : World} (h : C R x0 w) : Calls PG N.instr_Check #[x0] w R :=
  fnW_sound mixed Tryz.func114 (args := [x0]) (by rw [C_eq]; exact h)
end instr_Check
namespace instr_named
theorem okf : okFn PG N.instr_named = true := by kernel_rfl
def note : Note := ⟨[], []⟩
def C (R : Ending → World → Prop) (x0 : Value) (w : World) : Prop :=
  callW PG N.instr_first [] (fun t3 w4 => bsW T.t_instr_part 1 (bsC PG T.t_instr_part 1 [(0, t3)]) (fun t5 w6 => callW PG N.instr_first [] (fun t7 w8 => callW PG N.instr_second [] (fun t9 w10 => bsW T.t_instr_part 2 (bsC PG T.t_instr_part 2 [(0, t7), (1, t9)]) (fun t11 w12 => opW PG (Instr.makeMap T.t_map_api_Op_sl_instr_part none) (fun t14 w15 => callW PG N.instr_first [] (fun t16 w17 => callW PG N.instr_imm [(.string (bs []))] (fun t18 w19 => bsW T.t_instr_part 2 (bsC PG T.t_instr_part 2 [(0, t16), (1, t18)]) (fun t20 w21 => opU PG (Instr.mapUpdate T.t_map_api_Op_sl_instr_part t14 (.int .i64 1) t20) (fun w22 => opU PG (Instr.mapUpdate T.t_map_api_Op_sl_instr_part t14 (.int .i64 2) t11) (fun w23 => callW PG N.instr_first [] (fun t24 w25 => callW PG N.instr_second [] (fun t26 w27 => callW PG N.instr_third [] (fun t28 w29 => callW PG N.instr_imm [(.string (bs [45]))] (fun t30 w31 => bsW T.t_instr_part 4 (bsC PG T.t_instr_part 4 [(0, t24), (1, t26), (2, t28), (3, t30)]) (fun t32 w33 => opU PG (Instr.mapUpdate T.t_map_api_Op_sl_instr_part t14 (.int .i64 3) t32) (fun w34 => callW PG N.instr_imm [(.string (bs []))] (fun t35 w36 => bsW T.t_instr_part 1 (bsC PG T.t_instr_part 1 [(0, t35)]) (fun t37 w38 => opU PG (Instr.mapUpdate T.t_map_api_Op_sl_instr_part t14 (.int .i64 4) t37) (fun w39 => callW PG N.instr_first [] (fun t40 w41 => callW PG N.instr_imm [(.string (bs []))] (fun t42 w43 => bsW T.t_instr_part 2 (bsC PG T.t_instr_part 2 [(0, t40), (1, t42)]) (fun t44 w45 => opU PG (Instr.mapUpdate T.t_map_api_Op_sl_instr_part t14 (.int .i64 5) t44) (fun w46 => opU PG (Instr.mapUpdate T.t_map_api_Op_sl_instr_part t14 (.int .i64 6) t11) (fun w47 => opU PG (Instr.mapUpdate T.t_map_api_Op_sl_instr_part t14 (.int .i64 7) t11) (fun w48 => callW PG N.instr_first [] (fun t49 w50 => callW PG N.instr_second [] (fun t51 w52 => callW PG N.instr_many [] (fun t53 w54 => callW PG N.instr_imm [(.string (bs [102]))] (fun t55 w56 => bsW T.t_instr_part 4 (bsC PG T.t_instr_part 4 [(0, t49), (1, t51), (2, t53), (3, t55)]) (fun t57 w58 => opU PG (Instr.mapUpdate T.t_map_api_Op_sl_instr_part t14 (.int .i64 8) t57) (fun w59 => opU PG (Instr.mapUpdate T.t_map_api_Op_sl_instr_part t14 (.int .i64 9) t5) (fun w60 => callW PG N.instr_second [] (fun t61 w62 => callW PG N.instr_many [] (fun t63 w64 => callW PG N.instr_imm [(.string (bs [102]))] (fun t65 w66 => bsW T.t_instr_part 3 (bsC PG T.t_instr_part 3 [(0, t61), (1, t63), (2, t65)]) (fun t67 w68 => opU PG (Instr.mapUpdate T.t_map_api_Op_sl_instr_part t14 (.int .i64 10) t67) (fun w69 => opU PG (Instr.mapUpdate T.t_map_api_Op_sl_instr_part t14 (.int .i64 11) t5) (fun w70 => opU PG (Instr.mapUpdate T.t_map_api_Op_sl_instr_part t14 (.int .i64 12) t5) (fun w71 => opU PG (Instr.mapUpdate T.t_map_api_Op_sl_instr_part t14 (.int .i64 13) t5) (fun w72 => opU PG (Instr.mapUpdate T.t_map_api_Op_sl_instr_part t14 (.int .i64 14) t5) (fun w73 => opU PG (Instr.mapUpdate T.t_map_api_Op_sl_instr_part t14 (.int .i64 15) t5) (fun w74 => opU PG (Instr.mapUpdate T.t_map_api_Op_sl_instr_part t14 (.int .i64 16) t5) (fun w75 => opU PG (Instr.mapUpdate T.t_map_api_Op_sl_instr_part t14 (.int .i64 17) t11) (fun w76 => opU PG (Instr.mapUpdate T.t_map_api_Op_sl_instr_part t14 (.int .i64 18) t5) (fun w77 => bsW T.t_instr_part 0 (bsC PG T.t_instr_part 0 []) (fun t78 w79 => opU PG (Instr.mapUpdate T.t_map_api_Op_sl_instr_part t14 (.int .i64 19) t78) (fun w80 => opW PG (Instr.lookup T.t_map_api_Op_sl_instr_part t14 x0 false) (fun t81 w82 => R (.returned t81) w82) w80) w79) w77) w76) w75) w74) w73) w72) w71) w70) w69) w68) w66) (fun c w => R (.panicked c) w) w64) (fun c w => R (.panicked c) w) w62) (fun c w => R (.panicked c) w) w60) w59) w58) w56) (fun c w => R (.panicked c) w) w54) (fun c w => R (.panicked c) w) w52) (fun c w => R (.panicked c) w) w50) (fun c w => R (.panicked c) w) w48) w47) w46) w45) w43) (fun c w => R (.panicked c) w) w41) (fun c w => R (.panicked c) w) w39) w38) w36) (fun c w => R (.panicked c) w) w34) w33) w31) (fun c w => R (.panicked c) w) w29) (fun c w => R (.panicked c) w) w27) (fun c w => R (.panicked c) w) w25) (fun c w => R (.panicked c) w) w23) w22) w21) w19) (fun c w => R (.panicked c) w) w17) (fun c w => R (.panicked c) w) w15) w12) w10) (fun c w => R (.panicked c) w) w8) (fun c w => R (.panicked c) w) w6) w4) (fun c w => R (.panicked c) w) w
theorem C_eq (R : Ending → World → Prop) (x0 : Value) (w : World) : fnW PG note 400 Tryz.f115 [x0] R w = C R x0 w := by kernel_rfl
theorem ok {R : Ending → World → Prop} {x0 : Value} {w : World} (h : C R x0 w) : Calls PG N.instr_named #[x0] w R :=
  fnW_sound mixed Tryz.func115 (args := [x0]) (by rw [C_eq]; exact h)
end instr_named
namespace instr_right
theorem okf : okFn PG N.instr_right = true := by kernel_rfl
def note : Note := ⟨[(0, [49])], []⟩
def C (R : Ending → World → Prop) (x0 : Value) (w : World) : Prop :=
  alW (Value.cells x0) T.t_api_Ins (fun t2 w3 => faW 0 t2 fun t6 => ldW none t6 w3 fun t7 => callW PG N.instr_is [t7] (fun t8 w9 => pu PG (Op.unary .not t8) fun t10 => condV t10 (R (.returned (.bool false)) w9) (faW 1 t2 fun t11 => ldW none t11 w9 fun t12 => pu PG (binV .lss T.t_int true t12 (.int .i64 0)) fun t13 => condV t13 (R (.returned (.bool false)) w9) (faW 2 t2 fun t14 => ldW none t14 w9 fun t15 => pu PG (binV .lss T.t_int true t15 (.int .i64 0)) fun t16 => condV t16 (R (.returned (.bool false)) w9) (faW 3 t2 fun t17 => ldW none t17 w9 fun t18 => pu PG (binV .lss T.t_int true t18 (.int .i64 0)) fun t19 => condV t19 (R (.returned (.bool false)) w9) (faW 1 t2 fun t20 => ldW none t20 w9 fun t21 => pu PG (binV .geq T.t_int true t21 (.int .i64 16)) fun t22 => condV t22 (R (.returned (.bool false)) w9) (faW 2 t2 fun t23 => ldW none t23 w9 fun t24 => pu PG (binV .geq T.t_int true t24 (.int .i64 16)) fun t25 => condV t25 (R (.returned (.bool false)) w9) (faW 3 t2 fun t26 => ldW none t26 w9 fun t27 => pu PG (binV .gtr T.t_int true t27 (.int .i64 16)) fun t28 => condV t28 (R (.returned (.bool false)) w9) (faW 0 t2 fun t37 => ldW none t37 w9 fun t38 => pu PG (Instr.build T.t_api_Ins #[(0, t38)]) fun t39 => alW (zc PG T.t_api_Ins) T.t_api_Ins (fun t40 w41 => stW 5 t40 t39 (fun w42 => faW 0 t2 fun t45 => ldW none t45 w42 fun t46 => callW PG N.instr_named [t46] (fun t47 w48 => lnS t47 fun t49 => LoopW [(.int .i64 0)] (fun l51 N52 w53 => ∀ j50 : S, pu PG (binV .lss T.t_int false (gv l51 0) t49) fun t55 => condV t55 (ixS 4 t47 (gv l51 0) fun t59 => ldW (some 4) t59 w53 fun t60 => alW (zc PG T.t_instr_part) T.t_instr_part (fun t61 w62 => stW 4 t61 t60 (fun w63 => ∃ H64 : World → Prop, H64 (World.drew w63) ∧ (faW 3 t61 fun t65 => ldS none t65 H64 fun t66 => faW 2 t61 fun t67 => ldS none t67 H64 fun t68 => ldS (some 5) t2 H64 fun t69 => callV PG t68 [t69] (fun t70 w71 => H64 w71 ∧ (callV PG t66 [t40, t70] (fun t72 w73 => pu PG (binV .add T.t_int true (gv l51 0) (.int .i64 1)) fun t76 => N52 [t76] w73) (fun c w => ∀ s74 : S, R (.panicked c) w) w71)) (fun c w => ∀ s75 : S, R (.panicked c) w) (World.drew w63))) w62) w53) (ldW (some 5) t40 w53 fun t79 => ldW (some 5) t2 w53 fun t80 => pu PG (binV .neq T.t_api_Ins false t79 t80) fun t81 => condV t81 (R (.returned (.bool false)) w53) (faW 0 t2 fun t84 => ldW none t84 w53 fun t85 => bsW T.t_api_Op 2 (bsC PG T.t_api_Op 2 [(0, (.int .i64 8)), (1, (.int .i64 10))]) (fun t86 w87 => callW PG N.instr_among_api_Op [t85, t86] (fun t88 w89 => condV t88 (faW 2 t2 fun t91 => ldW none t91 w89 fun t92 => faW 3 t2 fun t93 => ldW none t93 w89 fun t94 => pu PG (binV .add T.t_int false t92 t94) fun t95 => pu PG (binV .leq T.t_int true t95 (.int .i64 16)) fun t96 => condV t96 (faW 4 t2 fun t97 => ldW none t97 w89 fun t98 => pu PG (binV .lss T.t_uint32 true t98 (.int .u32 32)) fun t99 => R (.returned t99) w89) (R (.returned (.bool false)) w89)) (faW 0 t2 fun t101 => ldW none t101 w89 fun t102 => bsW T.t_api_Op 2 (bsC PG T.t_api_Op 2 [(0, (.int .i64 4)), (1, (.int .i64 5))]) (fun t103 w104 => callW PG N.instr_among_api_Op [t102, t103] (fun t105 w106 => condV t105 (faW 4 t2 fun t108 => ldW none t108 w106 fun t109 => pu PG (binV .lss T.t_uint32 true t109 (.int .u32 512)) fun t110 => R (.returned t110) w106) (faW 0 t2 fun t112 => ldW none t112 w106 fun t113 => pu PG (binV .eql T.t_api_Op true t113 (.int .i64 3)) fun t114 => condV t114 (faW 4 t2 fun t116 => ldW none t116 w106 fun t117 => pu PG (convert T.t_uint32 T.t_api_Arith t117) fun t118 => callW PG N.arith_Name [t118] (fun t119 w120 => exW 0 t119 fun t121 => exW 1 t119 fun t122 => pu PG (binV .eql T.t_api_Errno true t122 (.int .i64 0)) fun t124 => condV t124 (faW 3 t2 fun t125 => ldW none t125 w120 fun t126 => pu PG (binV .lss T.t_int true t126 (.int .i64 16)) fun t127 => R (.returned t127) w120) (R (.returned (.bool false)) w120)) (fun c w => R (.panicked c) w) w106) (R (.returned (.bool true)) w106))) (fun c w => R (.panicked c) w) w104) w89)) (fun c w => R (.panicked c) w) w87) w53))) w48) (fun c w => R (.panicked c) w) w42) w41) w9)))))))) (fun c w => R (.panicked c) w) w3) w
theorem C_eq (R : Ending → World → Prop) (x0 : Value) (w : World) : fnW PG note 400 Tryz.f132 [x0] R w = C R x0 w := by kernel_rfl
theorem ok {R : Ending → World → Prop} {x0 : Value} {w : World} (h : C R x0 w) : Calls PG N.instr_right #[x0] w R :=
  fnW_sound mixed Tryz.func132 (args := [x0]) (by rw [C_eq]; exact h)
end instr_right
namespace instr_among_api_Op
theorem okf : okFn PG N.instr_among_api_Op = true := by kernel_rfl
def note : Note := ⟨[], []⟩
def C (R : Ending → World → Prop) (x0 x1 : Value) (w : World) : Prop :=
  callW PG N.slices_Contains_sl_api_Op_api_Op [x1, x0] (fun t3 w4 => R (.returned t3) w4) (fun c w => R (.panicked c) w) w
theorem C_eq (R : Ending → World → Prop) (x0 x1 : Value) (w : World) : fnW PG note 400 Tryz.f133 [x0, x1] R w = C R x0 x1 w := by kernel_rfl
theorem ok {R : Ending → World → Prop} {x0 x1 : Value} {w : World} (h : C R x0 x1 w) : Calls PG N.instr_among_api_Op #[x0, x1] w R :=
  fnW_sound mixed Tryz.func133 (args := [x0, x1]) (by rw [C_eq]; exact h)
end instr_among_api_Op
namespace program_within
theorem okf : okFn PG N.program_within = true := by kernel_rfl
def note : Note := ⟨[], []⟩
def C (R : Ending → World → Prop) (x0 : Value) (w : World) : Prop :=
  callW PG N.program_all_program_bound [(.func (.func N.program_within_1) #[] #[]), x0] (fun t3 w4 => R (.returned t3) w4) (fun c w => R (.panicked c) w) w
theorem C_eq (R : Ending → World → Prop) (x0 : Value) (w : World) : fnW PG note 400 Tryz.f147 [x0] R w = C R x0 w := by kernel_rfl
theorem ok {R : Ending → World → Prop} {x0 : Value} {w : World} (h : C R x0 w) : Calls PG N.program_within #[x0] w R :=
  fnW_sound mixed Tryz.func147 (args := [x0]) (by rw [C_eq]; exact h)
end program_within
namespace program_every
theorem okf : okFn PG N.program_every = true := by kernel_rfl
def note : Note := ⟨[], []⟩
def C (R : Ending → World → Prop) (x0 : Value) (w : World) : Prop :=
  alW (Value.cells x0) T.t_api_Program (fun t2 w3 => R (.returned (.func (.func N.program_every_1) #[] #[t2])) w3) w
theorem C_eq (R : Ending → World → Prop) (x0 : Value) (w : World) : fnW PG note 400 Tryz.f148 [x0] R w = C R x0 w := by kernel_rfl
theorem ok {R : Ending → World → Prop} {x0 : Value} {w : World} (h : C R x0 w) : Calls PG N.program_every #[x0] w R :=
  fnW_sound mixed Tryz.func148 (args := [x0]) (by rw [C_eq]; exact h)
end program_every
namespace program_place_fine
theorem okf : okFn PG N.program_place_fine = true := by kernel_rfl
def note : Note := ⟨[(0, [14])], []⟩
def C (R : Ending → World → Prop) (x0 : Value) (w : World) : Prop :=
  alW (Value.cells x0) T.t_program_place (fun t2 w3 => ldW (some 7) t2 w3 fun t6 => ldW (some 7) t2 w3 fun t7 => ldW (some 7) t2 w3 fun t8 => ldW (some 7) t2 w3 fun t9 => pu PG (Instr.build T.t_4_func_bool #[(0, (.func (.func N.program_place_fits) #[t6] #[])), (1, (.func (.func N.program_place_jumps) #[t7] #[])), (2, (.func (.func N.program_place_calls) #[t8] #[])), (3, (.func (.func N.program_place_ends) #[t9] #[]))]) fun t10 => LoopW [(.int .i64 0)] (fun l12 N13 w14 => ∀ j11 : S, pu PG (binV .lss T.t_int true (gv l12 0) (.int .i64 4)) fun t16 => condV t16 (ixV 4 1 false t10 (gv l12 0) fun t20 => callV PG t20 [] (fun t22 w23 => pu PG (Op.unary .not t22) fun t24 => condV t24 (R (.returned (.bool false)) w23) (pu PG (binV .add T.t_int true (gv l12 0) (.int .i64 1)) fun t26 => N13 [t26] w23)) (fun c w => R (.panicked c) w) w14) (R (.returned (.bool true)) w14)) w3) w
theorem C_eq (R : Ending → World → Prop) (x0 : Value) (w : World) : fnW PG note 400 Tryz.f149 [x0] R w = C R x0 w := by kernel_rfl
theorem ok {R : Ending → World → Prop} {x0 : Value} {w : World} (h : C R x0 w) : Calls PG N.program_place_fine #[x0] w R :=
  fnW_sound mixed Tryz.func149 (args := [x0]) (by rw [C_eq]; exact h)
end program_place_fine
namespace instr_first
theorem okf : okFn PG N.instr_first = true := by kernel_rfl
def note : Note := ⟨[], []⟩
def C (R : Ending → World → Prop) (w : World) : Prop :=
  alW (zc PG T.t_instr_part) T.t_instr_part (fun t2 w3 => pu PG (Instr.build T.t_instr_part #[(0, (.int .i64 1)), (1, (.string (bs [114]))), (2, (.func (.func N.instr_first_1) #[] #[])), (3, (.func (.func N.instr_first_2) #[] #[]))]) fun t5 => stW 4 t2 t5 (fun w6 => ldW (some 4) t2 w6 fun t7 => R (.returned t7) w6) w3) w
theorem C_eq (R : Ending → World → Prop) (w : World) : fnW PG note 400 Tryz.f155 [] R w = C R  w := by kernel_rfl
theorem ok {R : Ending → World → Prop} {w : World} (h : C R  w) : Calls PG N.instr_first #[] w R :=
  fnW_sound mixed Tryz.func155 (args := []) (by rw [C_eq]; exact h)
end instr_first
namespace instr_second
theorem okf : okFn PG N.instr_second = true := by kernel_rfl
def note : Note := ⟨[], []⟩
def C (R : Ending → World → Prop) (w : World) : Prop :=
  alW (zc PG T.t_instr_part) T.t_instr_part (fun t2 w3 => pu PG (Instr.build T.t_instr_part #[(0, (.int .i64 1)), (1, (.string (bs [114]))), (2, (.func (.func N.instr_second_1) #[] #[])), (3, (.func (.func N.instr_second_2) #[] #[]))]) fun t5 => stW 4 t2 t5 (fun w6 => ldW (some 4) t2 w6 fun t7 => R (.returned t7) w6) w3) w
theorem C_eq (R : Ending → World → Prop) (w : World) : fnW PG note 400 Tryz.f156 [] R w = C R  w := by kernel_rfl
theorem ok {R : Ending → World → Prop} {w : World} (h : C R  w) : Calls PG N.instr_second #[] w R :=
  fnW_sound mixed Tryz.func156 (args := []) (by rw [C_eq]; exact h)
end instr_second
namespace instr_imm
theorem okf : okFn PG N.instr_imm = true := by kernel_rfl
def note : Note := ⟨[], []⟩
def C (R : Ending → World → Prop) (x0 : Value) (w : World) : Prop :=
  alW (zc PG T.t_instr_part) T.t_instr_part (fun t2 w3 => pu PG (Instr.build T.t_instr_part #[(0, (.int .i64 4)), (1, x0), (2, (.func (.func N.instr_imm_1) #[] #[])), (3, (.func (.func N.instr_imm_2) #[] #[]))]) fun t5 => stW 4 t2 t5 (fun w6 => ldW (some 4) t2 w6 fun t7 => R (.returned t7) w6) w3) w
theorem C_eq (R : Ending → World → Prop) (x0 : Value) (w : World) : fnW PG note 400 Tryz.f157 [x0] R w = C R x0 w := by kernel_rfl
theorem ok {R : Ending → World → Prop} {x0 : Value} {w : World} (h : C R x0 w) : Calls PG N.instr_imm #[x0] w R :=
  fnW_sound mixed Tryz.func157 (args := [x0]) (by rw [C_eq]; exact h)
end instr_imm
namespace instr_third
theorem okf : okFn PG N.instr_third = true := by kernel_rfl
def note : Note := ⟨[], []⟩
def C (R : Ending → World → Prop) (w : World) : Prop :=
  alW (zc PG T.t_instr_part) T.t_instr_part (fun t2 w3 => pu PG (Instr.build T.t_instr_part #[(0, (.int .i64 1)), (1, (.string (bs [114]))), (2, (.func (.func N.instr_third_1) #[] #[])), (3, (.func (.func N.instr_third_2) #[] #[]))]) fun t5 => stW 4 t2 t5 (fun w6 => ldW (some 4) t2 w6 fun t7 => R (.returned t7) w6) w3) w
theorem C_eq (R : Ending → World → Prop) (w : World) : fnW PG note 400 Tryz.f158 [] R w = C R  w := by kernel_rfl
theorem ok {R : Ending → World → Prop} {w : World} (h : C R  w) : Calls PG N.instr_third #[] w R :=
  fnW_sound mixed Tryz.func158 (args := []) (by rw [C_eq]; exact h)
end instr_third
namespace instr_many
theorem okf : okFn PG N.instr_many = true := by kernel_rfl
def note : Note := ⟨[], []⟩
def C (R : Ending → World → Prop) (w : World) : Prop :=
  alW (zc PG T.t_instr_part) T.t_instr_part (fun t2 w3 => callW PG N.instr_third [] (fun t5 w6 => alW (zc PG T.t_instr_part) T.t_instr_part (fun t7 w8 => stW 4 t7 t5 (fun w9 => faW 1 t7 fun t11 => stW 1 t11 (.string (bs [])) (fun w12 => ldW (some 4) t7 w12 fun t14 => stW 4 t2 t14 (fun w15 => ldW (some 4) t2 w15 fun t16 => R (.returned t16) w15) w12) w9) w8) w6) (fun c w => R (.panicked c) w) w3) w
theorem C_eq (R : Ending → World → Prop) (w : World) : fnW PG note 400 Tryz.f159 [] R w = C R  w := by kernel_rfl
theorem ok {R : Ending → World → Prop} {w : World} (h : C R  w) : Calls PG N.instr_many #[] w R :=
  fnW_sound mixed Tryz.func159 (args := []) (by rw [C_eq]; exact h)
end instr_many
namespace instr_is
theorem okf : okFn PG N.instr_is = true := by kernel_rfl
def note : Note := ⟨[], []⟩
def C (R : Ending → World → Prop) (x0 : Value) (w : World) : Prop :=
  pu PG (binV .geq T.t_api_Op true x0 (.int .i64 1)) fun t3 => condV t3 (pu PG (binV .leq T.t_api_Op true x0 (.int .i64 19)) fun t4 => R (.returned t4) w) (R (.returned (.bool false)) w)
theorem C_eq (R : Ending → World → Prop) (x0 : Value) (w : World) : fnW PG note 400 Tryz.f169 [x0] R w = C R x0 w := by kernel_rfl
theorem ok {R : Ending → World → Prop} {x0 : Value} {w : World} (h : C R x0 w) : Calls PG N.instr_is #[x0] w R :=
  fnW_sound mixed Tryz.func169 (args := [x0]) (by rw [C_eq]; exact h)
end instr_is
namespace arith_Name
theorem okf : okFn PG N.arith_Name = true := by kernel_rfl
def note : Note := ⟨[], [(0, [1, 2, 3])]⟩
def rp0 : Array Tmp := #[7, 8]
noncomputable def ra0 : Code := sub [1, 0, 1, 0, 0] (bodyOf Tryz.f170)
noncomputable def rb0 : Code := sub [1, 0, 1, 0, 1] (bodyOf Tryz.f170)
def C (R : Ending → World → Prop) (x0 : Value) (w : World) : Prop :=
  alW (Value.cells x0) T.t_api_Arith (fun t2 w3 => alW (zc PG T.t_string) T.t_string (fun t4 w5 => alW (zc PG T.t_api_Errno) T.t_api_Errno (fun t6 w7 => callW PG N.arith_every [] (fun t10 w11 => RangeW PG none 13 [(1, t2), (2, t4), (3, t6)] rp0 ra0 rb0 t10 (fun d12 w13 => stW 1 t4 (.string (bs [])) (fun w21 => stW 1 t6 (.int .i64 2) (fun w22 => LvW PG d12 .returning w22 (endV (fun w23 => ldW none t4 w23 fun t24 => ldW none t6 w23 fun t25 => R (.returned (.tuple #[t24, t25])) w23) R)) w21) w13) (fun d12 w13 => LvW PG d12 .returning w13 (endV (fun w14 => ldW none t4 w14 fun t15 => ldW none t6 w14 fun t16 => R (.returned (.tuple #[t15, t16])) w14) R)) [] (fun c d12 w13 => LvW PG d12 (.panicking c) w13 (endV (fun w17 => ldW none t4 w17 fun t18 => ldW none t6 w17 fun t19 => R (.returned (.tuple #[t18, t19])) w17) R)) [] w11) (fun c w => R (.panicked c) w) w7) w5) w3) w
theorem C_eq (R : Ending → World → Prop) (x0 : Value) (w : World) : fnW PG note 400 Tryz.f170 [x0] R w = C R x0 w := by kernel_rfl
theorem ok {R : Ending → World → Prop} {x0 : Value} {w : World} (h : C R x0 w) : Calls PG N.arith_Name #[x0] w R :=
  fnW_sound mixed Tryz.func170 (args := [x0]) (by rw [C_eq]; exact h)
def Rd0 (l : Nat) (R : Value → World → Prop) (v1 v2 v3 a0 a1 : Value) (w : World) : Prop :=
  rBeg l (fun w27 => ldW none v1 w27 fun t29 => pu PG (binV .eql T.t_api_Arith false a0 t29) fun t30 => condV t30 (stW 1 v2 a1 (fun w32 => stW 1 v3 (.int .i64 0) (fun w33 => rEnd l (some .ret) R w33) w32) w27) (rEnd l none R w27)) w
theorem Rd0_eq (l : Nat) (R : Value → World → Prop) (v1 v2 v3 a0 a1 : Value) (w : World) (u : S) : rndW PG note 13 400 l ra0 rb0 (pset [7, 8] [a0, a1] (ovrP [(1, v1), (2, v2), (3, v3)] u)) R w = Rd0 l R v1 v2 v3 a0 a1 w := by kernel_rfl
end arith_Name
namespace slices_Contains_sl_api_Op_api_Op
theorem okf : okFn PG N.slices_Contains_sl_api_Op_api_Op = true := by kernel_rfl
def note : Note := ⟨[], []⟩
def C (R : Ending → World → Prop) (x0 x1 : Value) (w : World) : Prop :=
  callW PG N.slices_Index_sl_api_Op_api_Op [x0, x1] (fun t3 w4 => pu PG (binV .geq T.t_int true t3 (.int .i64 0)) fun t5 => R (.returned t5) w4) (fun c w => R (.panicked c) w) w
theorem C_eq (R : Ending → World → Prop) (x0 x1 : Value) (w : World) : fnW PG note 400 Tryz.f171 [x0, x1] R w = C R x0 x1 w := by kernel_rfl
theorem ok {R : Ending → World → Prop} {x0 x1 : Value} {w : World} (h : C R x0 x1 w) : Calls PG N.slices_Contains_sl_api_Op_api_Op #[x0, x1] w R :=
  fnW_sound mixed Tryz.func171 (args := [x0, x1]) (by rw [C_eq]; exact h)
end slices_Contains_sl_api_Op_api_Op
namespace program_all_program_bound
theorem okf : okFn PG N.program_all_program_bound = true := by kernel_rfl
def note : Note := ⟨[], []⟩
def C (R : Ending → World → Prop) (x0 x1 : Value) (w : World) : Prop :=
  alW (Value.cells x0) T.t_func_program_bound_bool_2 (fun t2 w3 => callW PG N.slices_ContainsFunc_sl_program_bound_program_bound [x1, (.func (.func N.program_all_program_bound_1) #[] #[t2])] (fun t5 w6 => pu PG (Op.unary .not t5) fun t7 => R (.returned t7) w6) (fun c w => R (.panicked c) w) w3) w
theorem C_eq (R : Ending → World → Prop) (x0 x1 : Value) (w : World) : fnW PG note 400 Tryz.f177 [x0, x1] R w = C R x0 x1 w := by kernel_rfl
theorem ok {R : Ending → World → Prop} {x0 x1 : Value} {w : World} (h : C R x0 x1 w) : Calls PG N.program_all_program_bound #[x0, x1] w R :=
  fnW_sound mixed Tryz.func177 (args := [x0, x1]) (by rw [C_eq]; exact h)
end program_all_program_bound
namespace program_within_1
theorem okf : okFn PG N.program_within_1 = true := by kernel_rfl
def note : Note := ⟨[], []⟩
def C (R : Ending → World → Prop) (x0 : Value) (w : World) : Prop :=
  alW (Value.cells x0) T.t_program_bound (fun t2 w3 => faW 1 t2 fun t5 => ldW none t5 w3 fun t6 => faW 0 t2 fun t7 => ldW none t7 w3 fun t8 => pu PG (binV .leq T.t_int false t6 t8) fun t9 => condV t9 (faW 0 t2 fun t10 => ldW none t10 w3 fun t11 => faW 2 t2 fun t12 => ldW none t12 w3 fun t13 => pu PG (binV .leq T.t_int false t11 t13) fun t14 => R (.returned t14) w3) (R (.returned (.bool false)) w3)) w
theorem C_eq (R : Ending → World → Prop) (x0 : Value) (w : World) : fnW PG note 400 Tryz.f178 [x0] R w = C R x0 w := by kernel_rfl
theorem ok {R : Ending → World → Prop} {x0 : Value} {w : World} (h : C R x0 w) : Calls PG N.program_within_1 #[x0] w R :=
  fnW_sound mixed Tryz.func178 (args := [x0]) (by rw [C_eq]; exact h)
end program_within_1
namespace program_every_1
theorem okf : okFn PG N.program_every_1 = true := by kernel_rfl
def note : Note := ⟨[(0, [9]), (2, [17])], []⟩
def C (R : Ending → World → Prop) (x0 x1 : Value) (w : World) : Prop :=
  faW 0 x1 fun t2 => ldW none t2 w fun t3 => lnS t3 fun t4 => LoopW [(.int .i64 0)] (fun l6 N7 w8 => ∀ j5 : S, pu PG (binV .lss T.t_int false (gv l6 0) t4) fun t10 => condV t10 (ixS 2 t3 (gv l6 0) fun t14 => ldW (some 2) t14 w8 fun t15 => alW (zc PG T.t_api_Func) T.t_api_Func (fun t16 w17 => stW 2 t16 t15 (fun w18 => faW 1 t16 fun t20 => ldW none t20 w18 fun t21 => lnS t21 fun t22 => LoopW [(.int .i64 0)] (fun l24 N25 w26 => ∀ j23 : S, pu PG (binV .lss T.t_int false (gv l24 0) t22) fun t28 => condV t28 (pu PG (Instr.build T.t_api_Site #[(0, (gv l6 0)), (1, (gv l24 0))]) fun t33 => ldW (some 2) t16 w26 fun t34 => ldW (some 4) x1 w26 fun t35 => pu PG (Instr.build T.t_program_place #[(0, t34), (1, t35), (2, (gv l24 0))]) fun t36 => callV PG x0 [t33, t36] (fun t37 w38 => pu PG (Op.unary .not t37) fun t39 => condV t39 (R (.returned (.tuple #[])) w38) (pu PG (binV .add T.t_int true (gv l24 0) (.int .i64 1)) fun t40 => N25 [t40] w38)) (fun c w => R (.panicked c) w) w26) (pu PG (binV .add T.t_int true (gv l6 0) (.int .i64 1)) fun t41 => N7 [t41] w26)) w18) w17) w8) (R (.returned (.tuple #[])) w8)) w
theorem C_eq (R : Ending → World → Prop) (x0 x1 : Value) (w : World) : fnW PG note 400 Tryz.f179 [x0, x1] R w = C R x0 x1 w := by kernel_rfl
theorem ok {R : Ending → World → Prop} {x0 x1 : Value} {w : World} (h : C R x0 x1 w) : Calls PG N.program_every_1 #[x0, x1] w R :=
  fnW_sound mixed Tryz.func179 (args := [x0, x1]) (by rw [C_eq]; exact h)
end program_every_1
namespace program_place_fits
theorem okf : okFn PG N.program_place_fits = true := by kernel_rfl
def note : Note := ⟨[], []⟩
def C (R : Ending → World → Prop) (x0 : Value) (w : World) : Prop :=
  alW (Value.cells x0) T.t_program_place (fun t2 w3 => ∃ H5 : World → Prop, H5 (World.drew w3) ∧ (ldS (some 7) t2 H5 fun t6 => callW PG N.program_place_ins [t6] (fun t7 w8 => H5 w8 ∧ (callW PG N.instr_Check [t7] (fun t9 w10 => H5 w10 ∧ (pu PG (binV .eql T.t_api_Errno true t9 (.int .i64 0)) fun t11 => condV t11 (ldS (some 7) t2 H5 fun t12 => faW 0 t2 fun t13 => faW 0 t13 fun t14 => ldS none t14 H5 fun t15 => callW PG N.program_place_ins [t12] (fun t16 w17 => H5 w17 ∧ (callW PG N.instr_Regs [t16] (fun t18 w19 => H5 w19 ∧ (pu PG (binV .leq T.t_int false t18 t15) fun t20 => R (.returned t20) w19)) (fun c w => ∀ s21 : S, R (.panicked c) w) w17)) (fun c w => ∀ s22 : S, R (.panicked c) w) w10) (R (.returned (.bool false)) w10))) (fun c w => ∀ s23 : S, R (.panicked c) w) w8)) (fun c w => ∀ s24 : S, R (.panicked c) w) (World.drew w3))) w
theorem C_eq (R : Ending → World → Prop) (x0 : Value) (w : World) : fnW PG note 400 Tryz.f180 [x0] R w = C R x0 w := by kernel_rfl
theorem ok {R : Ending → World → Prop} {x0 : Value} {w : World} (h : C R x0 w) : Calls PG N.program_place_fits #[x0] w R :=
  fnW_sound mixed Tryz.func180 (args := [x0]) (by rw [C_eq]; exact h)
end program_place_fits
namespace program_place_jumps
theorem okf : okFn PG N.program_place_jumps = true := by kernel_rfl
def note : Note := ⟨[], []⟩
def C (R : Ending → World → Prop) (x0 : Value) (w : World) : Prop :=
  alW (Value.cells x0) T.t_program_place (fun t2 w3 => ldW (some 7) t2 w3 fun t5 => callW PG N.program_place_ins [t5] (fun t6 w7 => ptW 0 none t6 fun t8 => ∃ H10 : World → Prop, H10 (World.drew w7) ∧ (pu PG (binV .neq T.t_api_Op true t8 (.int .i64 4)) fun t11 => condV t11 (pu PG (binV .neq T.t_api_Op true t8 (.int .i64 5)) fun t12 => condV t12 (R (.returned (.bool true)) (World.drew w7)) (ldS (some 7) t2 H10 fun t13 => faW 0 t2 fun t14 => faW 1 t14 fun t15 => ldS none t15 H10 fun t16 => lnS t16 fun t17 => callW PG N.program_place_ins [t13] (fun t18 w19 => H10 w19 ∧ (ptW 4 none t18 fun t20 => pu PG (convert T.t_uint32 T.t_int t20) fun t21 => pu PG (binV .lss T.t_int false t21 t17) fun t22 => R (.returned t22) w19)) (fun c w => ∀ s23 : S, R (.panicked c) w) (World.drew w7))) (ldS (some 7) t2 H10 fun t24 => faW 0 t2 fun t25 => faW 1 t25 fun t26 => ldS none t26 H10 fun t27 => lnS t27 fun t28 => callW PG N.program_place_ins [t24] (fun t29 w30 => H10 w30 ∧ (ptW 4 none t29 fun t31 => pu PG (convert T.t_uint32 T.t_int t31) fun t32 => pu PG (binV .lss T.t_int false t32 t28) fun t33 => R (.returned t33) w30)) (fun c w => ∀ s34 : S, R (.panicked c) w) (World.drew w7)))) (fun c w => R (.panicked c) w) w3) w
theorem C_eq (R : Ending → World → Prop) (x0 : Value) (w : World) : fnW PG note 400 Tryz.f181 [x0] R w = C R x0 w := by kernel_rfl
theorem ok {R : Ending → World → Prop} {x0 : Value} {w : World} (h : C R x0 w) : Calls PG N.program_place_jumps #[x0] w R :=
  fnW_sound mixed Tryz.func181 (args := [x0]) (by rw [C_eq]; exact h)
end program_place_jumps
namespace program_place_calls
theorem okf : okFn PG N.program_place_calls = true := by kernel_rfl
def note : Note := ⟨[], []⟩
def C (R : Ending → World → Prop) (x0 : Value) (w : World) : Prop :=
  alW (Value.cells x0) T.t_program_place (fun t2 w3 => ldW (some 7) t2 w3 fun t5 => callW PG N.program_place_ins [t5] (fun t6 w7 => alW (zc PG T.t_api_Ins) T.t_api_Ins (fun t8 w9 => stW 5 t8 t6 (fun w10 => faW 0 t8 fun t13 => ldW none t13 w10 fun t14 => pu PG (binV .neq T.t_api_Op true t14 (.int .i64 8)) fun t15 => condV t15 (faW 0 t8 fun t16 => ldW none t16 w10 fun t17 => pu PG (binV .neq T.t_api_Op true t17 (.int .i64 10)) fun t18 => condV t18 (R (.returned (.bool true)) w10) (∃ H21 : World → Prop, H21 (World.drew w10) ∧ (faW 4 t8 fun t22 => ldS none t22 H21 fun t23 => pu PG (convert T.t_uint32 T.t_int t23) fun t24 => faW 2 t2 fun t25 => faW 0 t25 fun t26 => ldS none t26 H21 fun t27 => lnS t27 fun t28 => pu PG (binV .lss T.t_int false t24 t28) fun t29 => condV t29 (faW 3 t8 fun t30 => ldS none t30 H21 fun t31 => faW 2 t2 fun t32 => faW 0 t32 fun t33 => ldS none t33 H21 fun t34 => faW 4 t8 fun t35 => ldS none t35 H21 fun t36 => ixS 2 t34 t36 fun t37 => faW 0 t37 fun t38 => ldS none t38 H21 fun t39 => pu PG (binV .leq T.t_int false t31 t39) fun t40 => R (.returned t40) (World.drew w10)) (R (.returned (.bool false)) (World.drew w10))))) (∃ H42 : World → Prop, H42 (World.drew w10) ∧ (faW 4 t8 fun t43 => ldS none t43 H42 fun t44 => pu PG (convert T.t_uint32 T.t_int t44) fun t45 => faW 2 t2 fun t46 => faW 0 t46 fun t47 => ldS none t47 H42 fun t48 => lnS t48 fun t49 => pu PG (binV .lss T.t_int false t45 t49) fun t50 => condV t50 (faW 3 t8 fun t51 => ldS none t51 H42 fun t52 => faW 2 t2 fun t53 => faW 0 t53 fun t54 => ldS none t54 H42 fun t55 => faW 4 t8 fun t56 => ldS none t56 H42 fun t57 => ixS 2 t55 t57 fun t58 => faW 0 t58 fun t59 => ldS none t59 H42 fun t60 => pu PG (binV .leq T.t_int false t52 t60) fun t61 => R (.returned t61) (World.drew w10)) (R (.returned (.bool false)) (World.drew w10))))) w9) w7) (fun c w => R (.panicked c) w) w3) w
theorem C_eq (R : Ending → World → Prop) (x0 : Value) (w : World) : fnW PG note 400 Tryz.f182 [x0] R w = C R x0 w := by kernel_rfl
theorem ok {R : Ending → World → Prop} {x0 : Value} {w : World} (h : C R x0 w) : Calls PG N.program_place_calls #[x0] w R :=
  fnW_sound mixed Tryz.func182 (args := [x0]) (by rw [C_eq]; exact h)
end program_place_calls
namespace program_place_ends
theorem okf : okFn PG N.program_place_ends = true := by kernel_rfl
def note : Note := ⟨[], []⟩
def C (R : Ending → World → Prop) (x0 : Value) (w : World) : Prop :=
  alW (Value.cells x0) T.t_program_place (fun t2 w3 => faW 6 t2 fun t5 => ldW none t5 w3 fun t6 => faW 0 t2 fun t7 => faW 1 t7 fun t8 => ldW none t8 w3 fun t9 => lnS t9 fun t10 => pu PG (binV .sub T.t_int true t10 (.int .i64 1)) fun t11 => pu PG (binV .lss T.t_int false t6 t11) fun t12 => condV t12 (R (.returned (.bool true)) w3) (ldW (some 7) t2 w3 fun t13 => callW PG N.program_place_ins [t13] (fun t14 w15 => callW PG N.instr_Leaves [t14] (fun t16 w17 => R (.returned t16) w17) (fun c w => R (.panicked c) w) w15) (fun c w => R (.panicked c) w) w3)) w
theorem C_eq (R : Ending → World → Prop) (x0 : Value) (w : World) : fnW PG note 400 Tryz.f183 [x0] R w = C R x0 w := by kernel_rfl
theorem ok {R : Ending → World → Prop} {x0 : Value} {w : World} (h : C R x0 w) : Calls PG N.program_place_ends #[x0] w R :=
  fnW_sound mixed Tryz.func183 (args := [x0]) (by rw [C_eq]; exact h)
end program_place_ends
namespace instr_first_1
theorem okf : okFn PG N.instr_first_1 = true := by kernel_rfl
def note : Note := ⟨[], []⟩
def C (R : Ending → World → Prop) (x0 : Value) (w : World) : Prop :=
  alW (Value.cells x0) T.t_api_Ins (fun t2 w3 => faW 1 t2 fun t5 => ldW none t5 w3 fun t6 => pu PG (convert T.t_int T.t_uint64 t6) fun t7 => R (.returned t7) w3) w
theorem C_eq (R : Ending → World → Prop) (x0 : Value) (w : World) : fnW PG note 400 Tryz.f189 [x0] R w = C R x0 w := by kernel_rfl
theorem ok {R : Ending → World → Prop} {x0 : Value} {w : World} (h : C R x0 w) : Calls PG N.instr_first_1 #[x0] w R :=
  fnW_sound mixed Tryz.func189 (args := [x0]) (by rw [C_eq]; exact h)
end instr_first_1
namespace instr_first_2
theorem okf : okFn PG N.instr_first_2 = true := by kernel_rfl
def note : Note := ⟨[], []⟩
def C (R : Ending → World → Prop) (x0 x1 : Value) (w : World) : Prop :=
  pu PG (convert T.t_uint64 T.t_int x1) fun t1 => nlW x0 fun t2 => faW 1 t2 fun t3 => stW 1 t3 t1 (fun w4 => R (.returned (.tuple #[])) w4) w
theorem C_eq (R : Ending → World → Prop) (x0 x1 : Value) (w : World) : fnW PG note 400 Tryz.f190 [x0, x1] R w = C R x0 x1 w := by kernel_rfl
theorem ok {R : Ending → World → Prop} {x0 x1 : Value} {w : World} (h : C R x0 x1 w) : Calls PG N.instr_first_2 #[x0, x1] w R :=
  fnW_sound mixed Tryz.func190 (args := [x0, x1]) (by rw [C_eq]; exact h)
end instr_first_2
namespace instr_second_1
theorem okf : okFn PG N.instr_second_1 = true := by kernel_rfl
def note : Note := ⟨[], []⟩
def C (R : Ending → World → Prop) (x0 : Value) (w : World) : Prop :=
  alW (Value.cells x0) T.t_api_Ins (fun t2 w3 => faW 2 t2 fun t5 => ldW none t5 w3 fun t6 => pu PG (convert T.t_int T.t_uint64 t6) fun t7 => R (.returned t7) w3) w
theorem C_eq (R : Ending → World → Prop) (x0 : Value) (w : World) : fnW PG note 400 Tryz.f191 [x0] R w = C R x0 w := by kernel_rfl
theorem ok {R : Ending → World → Prop} {x0 : Value} {w : World} (h : C R x0 w) : Calls PG N.instr_second_1 #[x0] w R :=
  fnW_sound mixed Tryz.func191 (args := [x0]) (by rw [C_eq]; exact h)
end instr_second_1
namespace instr_second_2
theorem okf : okFn PG N.instr_second_2 = true := by kernel_rfl
def note : Note := ⟨[], []⟩
def C (R : Ending → World → Prop) (x0 x1 : Value) (w : World) : Prop :=
  pu PG (convert T.t_uint64 T.t_int x1) fun t1 => nlW x0 fun t2 => faW 2 t2 fun t3 => stW 1 t3 t1 (fun w4 => R (.returned (.tuple #[])) w4) w
theorem C_eq (R : Ending → World → Prop) (x0 x1 : Value) (w : World) : fnW PG note 400 Tryz.f192 [x0, x1] R w = C R x0 x1 w := by kernel_rfl
theorem ok {R : Ending → World → Prop} {x0 x1 : Value} {w : World} (h : C R x0 x1 w) : Calls PG N.instr_second_2 #[x0, x1] w R :=
  fnW_sound mixed Tryz.func192 (args := [x0, x1]) (by rw [C_eq]; exact h)
end instr_second_2
namespace instr_imm_1
theorem okf : okFn PG N.instr_imm_1 = true := by kernel_rfl
def note : Note := ⟨[], []⟩
def C (R : Ending → World → Prop) (x0 : Value) (w : World) : Prop :=
  alW (Value.cells x0) T.t_api_Ins (fun t2 w3 => faW 4 t2 fun t5 => ldW none t5 w3 fun t6 => pu PG (convert T.t_uint32 T.t_uint64 t6) fun t7 => R (.returned t7) w3) w
theorem C_eq (R : Ending → World → Prop) (x0 : Value) (w : World) : fnW PG note 400 Tryz.f193 [x0] R w = C R x0 w := by kernel_rfl
theorem ok {R : Ending → World → Prop} {x0 : Value} {w : World} (h : C R x0 w) : Calls PG N.instr_imm_1 #[x0] w R :=
  fnW_sound mixed Tryz.func193 (args := [x0]) (by rw [C_eq]; exact h)
end instr_imm_1
namespace instr_imm_2
theorem okf : okFn PG N.instr_imm_2 = true := by kernel_rfl
def note : Note := ⟨[], []⟩
def C (R : Ending → World → Prop) (x0 x1 : Value) (w : World) : Prop :=
  pu PG (convert T.t_uint64 T.t_uint32 x1) fun t1 => nlW x0 fun t2 => faW 4 t2 fun t3 => stW 1 t3 t1 (fun w4 => R (.returned (.tuple #[])) w4) w
theorem C_eq (R : Ending → World → Prop) (x0 x1 : Value) (w : World) : fnW PG note 400 Tryz.f194 [x0, x1] R w = C R x0 x1 w := by kernel_rfl
theorem ok {R : Ending → World → Prop} {x0 x1 : Value} {w : World} (h : C R x0 x1 w) : Calls PG N.instr_imm_2 #[x0, x1] w R :=
  fnW_sound mixed Tryz.func194 (args := [x0, x1]) (by rw [C_eq]; exact h)
end instr_imm_2
namespace instr_third_1
theorem okf : okFn PG N.instr_third_1 = true := by kernel_rfl
def note : Note := ⟨[], []⟩
def C (R : Ending → World → Prop) (x0 : Value) (w : World) : Prop :=
  alW (Value.cells x0) T.t_api_Ins (fun t2 w3 => faW 3 t2 fun t5 => ldW none t5 w3 fun t6 => pu PG (convert T.t_int T.t_uint64 t6) fun t7 => R (.returned t7) w3) w
theorem C_eq (R : Ending → World → Prop) (x0 : Value) (w : World) : fnW PG note 400 Tryz.f195 [x0] R w = C R x0 w := by kernel_rfl
theorem ok {R : Ending → World → Prop} {x0 : Value} {w : World} (h : C R x0 w) : Calls PG N.instr_third_1 #[x0] w R :=
  fnW_sound mixed Tryz.func195 (args := [x0]) (by rw [C_eq]; exact h)
end instr_third_1
namespace instr_third_2
theorem okf : okFn PG N.instr_third_2 = true := by kernel_rfl
def note : Note := ⟨[], []⟩
def C (R : Ending → World → Prop) (x0 x1 : Value) (w : World) : Prop :=
  pu PG (convert T.t_uint64 T.t_int x1) fun t1 => nlW x0 fun t2 => faW 3 t2 fun t3 => stW 1 t3 t1 (fun w4 => R (.returned (.tuple #[])) w4) w
theorem C_eq (R : Ending → World → Prop) (x0 x1 : Value) (w : World) : fnW PG note 400 Tryz.f196 [x0, x1] R w = C R x0 x1 w := by kernel_rfl
theorem ok {R : Ending → World → Prop} {x0 x1 : Value} {w : World} (h : C R x0 x1 w) : Calls PG N.instr_third_2 #[x0, x1] w R :=
  fnW_sound mixed Tryz.func196 (args := [x0, x1]) (by rw [C_eq]; exact h)
end instr_third_2
namespace arith_every
theorem okf : okFn PG N.arith_every = true := by kernel_rfl
def note : Note := ⟨[], []⟩
def C (R : Ending → World → Prop) (w : World) : Prop :=
  R (.returned (.func (.func N.arith_every_1) #[] #[])) w
theorem C_eq (R : Ending → World → Prop) (w : World) : fnW PG note 400 Tryz.f214 [] R w = C R  w := by kernel_rfl
theorem ok {R : Ending → World → Prop} {w : World} (h : C R  w) : Calls PG N.arith_every #[] w R :=
  fnW_sound mixed Tryz.func214 (args := []) (by rw [C_eq]; exact h)
end arith_every
namespace slices_Index_sl_api_Op_api_Op
theorem okf : okFn PG N.slices_Index_sl_api_Op_api_Op = true := by kernel_rfl
def note : Note := ⟨[(0, [8])], []⟩
def C (R : Ending → World → Prop) (x0 x1 : Value) (w : World) : Prop :=
  lnS x0 fun t4 => LoopW [(.int .i64 0)] (fun l6 N7 w8 => ∀ j5 : S, pu PG (binV .lss T.t_int false (gv l6 0) t4) fun t10 => condV t10 (ixS 1 x0 (gv l6 0) fun t15 => ldW none t15 w8 fun t16 => pu PG (binV .eql T.t_api_Op false x1 t16) fun t17 => condV t17 (R (.returned (gv l6 0)) w8) (pu PG (binV .add T.t_int true (gv l6 0) (.int .i64 1)) fun t19 => N7 [t19] w8)) (R (.returned (.int .i64 (-1))) w8)) w
theorem C_eq (R : Ending → World → Prop) (x0 x1 : Value) (w : World) : fnW PG note 400 Tryz.f215 [x0, x1] R w = C R x0 x1 w := by kernel_rfl
theorem ok {R : Ending → World → Prop} {x0 x1 : Value} {w : World} (h : C R x0 x1 w) : Calls PG N.slices_Index_sl_api_Op_api_Op #[x0, x1] w R :=
  fnW_sound mixed Tryz.func215 (args := [x0, x1]) (by rw [C_eq]; exact h)
end slices_Index_sl_api_Op_api_Op
namespace slices_ContainsFunc_sl_program_bound_program_bound
theorem okf : okFn PG N.slices_ContainsFunc_sl_program_bound_program_bound = true := by kernel_rfl
def note : Note := ⟨[], []⟩
def C (R : Ending → World → Prop) (x0 x1 : Value) (w : World) : Prop :=
  callW PG N.slices_IndexFunc_sl_program_bound_program_bound [x0, x1] (fun t3 w4 => pu PG (binV .geq T.t_int true t3 (.int .i64 0)) fun t5 => R (.returned t5) w4) (fun c w => R (.panicked c) w) w
theorem C_eq (R : Ending → World → Prop) (x0 x1 : Value) (w : World) : fnW PG note 400 Tryz.f217 [x0, x1] R w = C R x0 x1 w := by kernel_rfl
theorem ok {R : Ending → World → Prop} {x0 x1 : Value} {w : World} (h : C R x0 x1 w) : Calls PG N.slices_ContainsFunc_sl_program_bound_program_bound #[x0, x1] w R :=
  fnW_sound mixed Tryz.func217 (args := [x0, x1]) (by rw [C_eq]; exact h)
end slices_ContainsFunc_sl_program_bound_program_bound
namespace program_all_program_bound_1
theorem okf : okFn PG N.program_all_program_bound_1 = true := by kernel_rfl
def note : Note := ⟨[], []⟩
def C (R : Ending → World → Prop) (x0 x1 : Value) (w : World) : Prop :=
  alW (Value.cells x0) T.t_program_bound (fun t2 w3 => ldW none x1 w3 fun t5 => ldW (some 3) t2 w3 fun t6 => callV PG t5 [t6] (fun t7 w8 => pu PG (Op.unary .not t7) fun t9 => R (.returned t9) w8) (fun c w => R (.panicked c) w) w3) w
theorem C_eq (R : Ending → World → Prop) (x0 x1 : Value) (w : World) : fnW PG note 400 Tryz.f218 [x0, x1] R w = C R x0 x1 w := by kernel_rfl
theorem ok {R : Ending → World → Prop} {x0 x1 : Value} {w : World} (h : C R x0 x1 w) : Calls PG N.program_all_program_bound_1 #[x0, x1] w R :=
  fnW_sound mixed Tryz.func218 (args := [x0, x1]) (by rw [C_eq]; exact h)
end program_all_program_bound_1
namespace program_place_ins
theorem okf : okFn PG N.program_place_ins = true := by kernel_rfl
def note : Note := ⟨[], []⟩
def C (R : Ending → World → Prop) (x0 : Value) (w : World) : Prop :=
  alW (Value.cells x0) T.t_program_place (fun t2 w3 => alW (zc PG T.t_api_Ins) T.t_api_Ins (fun t4 w5 => faW 0 t2 fun t7 => faW 1 t7 fun t8 => ldW none t8 w5 fun t9 => faW 6 t2 fun t10 => ldW none t10 w5 fun t11 => ixS 5 t9 t11 fun t12 => ldW (some 5) t12 w5 fun t13 => stW 5 t4 t13 (fun w14 => ldW (some 5) t4 w14 fun t15 => R (.returned t15) w14) w5) w3) w
theorem C_eq (R : Ending → World → Prop) (x0 : Value) (w : World) : fnW PG note 400 Tryz.f219 [x0] R w = C R x0 w := by kernel_rfl
theorem ok {R : Ending → World → Prop} {x0 : Value} {w : World} (h : C R x0 w) : Calls PG N.program_place_ins #[x0] w R :=
  fnW_sound mixed Tryz.func219 (args := [x0]) (by rw [C_eq]; exact h)
end program_place_ins
namespace instr_Regs
theorem okf : okFn PG N.instr_Regs = true := by kernel_rfl
def note : Note := ⟨[(0, [2, 12])], []⟩
def C (R : Ending → World → Prop) (x0 : Value) (w : World) : Prop :=
  alW (Value.cells x0) T.t_api_Ins (fun t2 w3 => ldW (some 5) t2 w3 fun t6 => callW PG N.instr_right [t6] (fun t7 w8 => pu PG (Op.unary .not t7) fun t9 => condV t9 (R (.returned (.int .i64 0)) w8) (faW 0 t2 fun t13 => ldW none t13 w8 fun t14 => callW PG N.instr_named [t14] (fun t15 w16 => lnS t15 fun t17 => LoopW [(.int .i64 0), (.int .i64 0)] (fun l19 N20 w21 => ∀ j18 : S, pu PG (binV .lss T.t_int false (gv l19 1) t17) fun t23 => condV t23 (ixS 4 t15 (gv l19 1) fun t27 => ldW (some 4) t27 w21 fun t28 => alW (zc PG T.t_instr_part) T.t_instr_part (fun t29 w30 => stW 4 t29 t28 (fun w31 => faW 1 t29 fun t33 => ldW none t33 w31 fun t34 => pu PG (binV .eql T.t_string true t34 (.string (bs [114]))) fun t35 => condV t35 (faW 2 t29 fun t36 => ldW none t36 w31 fun t37 => ldW (some 5) t2 w31 fun t38 => callV PG t37 [t38] (fun t39 w40 => pu PG (convert T.t_uint64 T.t_int t39) fun t41 => pu PG (binV .add T.t_int true t41 (.int .i64 1)) fun t42 => pu PG (Builtin.max_ #[T.t_int, T.t_int] 0 #[(gv l19 0), t42]) fun t43 => pu PG (binV .add T.t_int true (gv l19 1) (.int .i64 1)) fun t44 => N20 [t43, t44] w40) (fun c w => R (.panicked c) w) w31) (pu PG (binV .add T.t_int true (gv l19 1) (.int .i64 1)) fun t45 => N20 [(gv l19 0), t45] w31)) w30) w21) (faW 0 t2 fun t48 => ldW none t48 w21 fun t49 => bsW T.t_api_Op 2 (bsC PG T.t_api_Op 2 [(0, (.int .i64 8)), (1, (.int .i64 10))]) (fun t50 w51 => callW PG N.instr_among_api_Op [t49, t50] (fun t52 w53 => condV t52 (faW 2 t2 fun t54 => ldW none t54 w53 fun t55 => faW 3 t2 fun t56 => ldW none t56 w53 fun t57 => pu PG (binV .add T.t_int false t55 t57) fun t58 => pu PG (Builtin.max_ #[T.t_int, T.t_int] 0 #[(gv l19 0), t58]) fun t59 => R (.returned t59) w53) (R (.returned (gv l19 0)) w53)) (fun c w => R (.panicked c) w) w51) w21)) w16) (fun c w => R (.panicked c) w) w8)) (fun c w => R (.panicked c) w) w3) w
theorem C_eq (R : Ending → World → Prop) (x0 : Value) (w : World) : fnW PG note 400 Tryz.f220 [x0] R w = C R x0 w := by kernel_rfl
theorem ok {R : Ending → World → Prop} {x0 : Value} {w : World} (h : C R x0 w) : Calls PG N.instr_Regs #[x0] w R :=
  fnW_sound mixed Tryz.func220 (args := [x0]) (by rw [C_eq]; exact h)
end instr_Regs
namespace instr_Leaves
theorem okf : okFn PG N.instr_Leaves = true := by kernel_rfl
def note : Note := ⟨[], []⟩
def C (R : Ending → World → Prop) (x0 : Value) (w : World) : Prop :=
  alW (Value.cells x0) T.t_api_Ins (fun t2 w3 => ldW (some 5) t2 w3 fun t5 => callW PG N.instr_right [t5] (fun t6 w7 => condV t6 (faW 0 t2 fun t8 => ldW none t8 w7 fun t9 => bsW T.t_api_Op 2 (bsC PG T.t_api_Op 2 [(0, (.int .i64 4)), (1, (.int .i64 9))]) (fun t10 w11 => callW PG N.instr_among_api_Op [t9, t10] (fun t12 w13 => R (.returned t12) w13) (fun c w => R (.panicked c) w) w11) w7) (R (.returned (.bool false)) w7)) (fun c w => R (.panicked c) w) w3) w
theorem C_eq (R : Ending → World → Prop) (x0 : Value) (w : World) : fnW PG note 400 Tryz.f221 [x0] R w = C R x0 w := by kernel_rfl
theorem ok {R : Ending → World → Prop} {x0 : Value} {w : World} (h : C R x0 w) : Calls PG N.instr_Leaves #[x0] w R :=
  fnW_sound mixed Tryz.func221 (args := [x0]) (by rw [C_eq]; exact h)
end instr_Leaves
namespace arith_every_1
theorem okf : okFn PG N.arith_every_1 = true := by kernel_rfl
def note : Note := ⟨[(0, [5])], []⟩
def C (R : Ending → World → Prop) (x0 : Value) (w : World) : Prop :=
  callW PG N.arith_names [] (fun t2 w3 => LoopW [(.int .i64 0)] (fun l5 N6 w7 => ∀ j4 : S, pu PG (binV .lss T.t_int true (gv l5 0) (.int .i64 12)) fun t9 => condV t9 (ixV 12 1 false t2 (gv l5 0) fun t13 => pu PG (binV .add T.t_int true (gv l5 0) (.int .i64 1)) fun t15 => callV PG x0 [t15, t13] (fun t16 w17 => pu PG (Op.unary .not t16) fun t18 => condV t18 (R (.returned (.tuple #[])) w17) (pu PG (binV .add T.t_int true (gv l5 0) (.int .i64 1)) fun t19 => N6 [t19] w17)) (fun c w => R (.panicked c) w) w7) (R (.returned (.tuple #[])) w7)) w3) (fun c w => R (.panicked c) w) w
theorem C_eq (R : Ending → World → Prop) (x0 : Value) (w : World) : fnW PG note 400 Tryz.f228 [x0] R w = C R x0 w := by kernel_rfl
theorem ok {R : Ending → World → Prop} {x0 : Value} {w : World} (h : C R x0 w) : Calls PG N.arith_every_1 #[x0] w R :=
  fnW_sound mixed Tryz.func228 (args := [x0]) (by rw [C_eq]; exact h)
end arith_every_1
namespace arith_names
theorem okf : okFn PG N.arith_names = true := by kernel_rfl
def note : Note := ⟨[], []⟩
def C (R : Ending → World → Prop) (w : World) : Prop :=
  alW (zc PG T.t_12_string) T.t_12_string (fun t2 w3 => pu PG (Instr.build T.t_12_string #[(0, (.string (bs [97, 100, 100]))), (1, (.string (bs [115, 117, 98]))), (2, (.string (bs [109, 117, 108]))), (3, (.string (bs [100, 105, 118]))), (4, (.string (bs [109, 111, 100]))), (5, (.string (bs [97, 110, 100]))), (6, (.string (bs [111, 114]))), (7, (.string (bs [120, 111, 114]))), (8, (.string (bs [115, 104, 108]))), (9, (.string (bs [115, 104, 114]))), (10, (.string (bs [108, 101, 115, 115]))), (11, (.string (bs [101, 113, 117, 97, 108])))]) fun t5 => stW 12 t2 t5 (fun w6 => ldW (some 12) t2 w6 fun t7 => R (.returned t7) w6) w3) w
theorem C_eq (R : Ending → World → Prop) (w : World) : fnW PG note 400 Tryz.f229 [] R w = C R  w := by kernel_rfl
theorem ok {R : Ending → World → Prop} {w : World} (h : C R  w) : Calls PG N.arith_names #[] w R :=
  fnW_sound mixed Tryz.func229 (args := []) (by rw [C_eq]; exact h)
end arith_names
namespace slices_IndexFunc_sl_program_bound_program_bound
theorem okf : okFn PG N.slices_IndexFunc_sl_program_bound_program_bound = true := by kernel_rfl
def note : Note := ⟨[(0, [8])], []⟩
def C (R : Ending → World → Prop) (x0 x1 : Value) (w : World) : Prop :=
  lnS x0 fun t4 => LoopW [(.int .i64 0)] (fun l6 N7 w8 => ∀ j5 : S, pu PG (binV .lss T.t_int false (gv l6 0) t4) fun t10 => condV t10 (ixS 3 x0 (gv l6 0) fun t15 => ldW (some 3) t15 w8 fun t16 => callV PG x1 [t16] (fun t17 w18 => condV t17 (R (.returned (gv l6 0)) w18) (pu PG (binV .add T.t_int true (gv l6 0) (.int .i64 1)) fun t20 => N7 [t20] w18)) (fun c w => R (.panicked c) w) w8) (R (.returned (.int .i64 (-1))) w8)) w
theorem C_eq (R : Ending → World → Prop) (x0 x1 : Value) (w : World) : fnW PG note 400 Tryz.f230 [x0, x1] R w = C R x0 x1 w := by kernel_rfl
theorem ok {R : Ending → World → Prop} {x0 x1 : Value} {w : World} (h : C R x0 x1 w) : Calls PG N.slices_IndexFunc_sl_program_bound_program_bound #[x0, x1] w R :=
  fnW_sound mixed Tryz.func230 (args := [x0, x1]) (by rw [C_eq]; exact h)
end slices_IndexFunc_sl_program_bound_program_bound
end Go.Proofs.YtkkkcafkepnecaaGreat
