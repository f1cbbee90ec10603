/- Conditions of functions, printed by a program of this session (gen.py) and checked by the kernel. -/
import Derived.Test.YtkkkcafkepnecaaVnN
set_option linter.unusedVariables false
namespace Go.Proofs.Ytkkkcafkepnecaa
open Go Go.RowKit Vc
namespace linesmanlaw09_ProgramAt
theorem okf : okFn PG N.linesmanlaw09_ProgramAt = true := by kernel_rfl
def note : Note := ⟨[], []⟩
def C (R : Ending → World → Prop) (x0 x1 : Value) (w : World) : Prop :=
  alW (Value.cells x0) T.t_api_Program (fun t2 w3 => alW (Value.cells x1) T.t_api_Site (fun t4 w5 => ldW (some 4) t2 w5 fun t8 => callW PG N.linesmanlaw09_few [t8] (fun t9 w10 => pu PG (Op.unary .not t9) fun t11 => condV t11 (callW PG N.linesmanlaw09_works [] (fun t13 w14 => R (.returned t13) w14) (fun c w => R (.panicked c) w) w10) (ldW (some 4) t2 w10 fun t16 => ldW (some 2) t4 w10 fun t17 => callW PG N.program_At [t16, t17] (fun t18 w19 => exW 0 t18 fun t20 => exW 1 t18 fun t21 => alW (zc PG T.t_api_Ins) T.t_api_Ins (fun t22 w23 => stW 5 t22 t20 (fun w24 => ldW (some 4) t2 w24 fun t26 => ldW (some 2) t4 w24 fun t27 => callW PG N.linesmanref09_At [t26, t27] (fun t28 w29 => exW 0 t28 fun t30 => exW 1 t28 fun t31 => alW (zc PG T.t_api_Ins) T.t_api_Ins (fun t32 w33 => stW 5 t32 t30 (fun w34 => ldW (some 5) t22 w34 fun t36 => ldW (some 5) t32 w34 fun t37 => pu PG (binV .eql T.t_api_Ins false t36 t37) fun t38 => condV t38 (callW PG N.linesmanlaw09_num [t21] (fun t39 w40 => pu PG (binV .eql T.t_int false t39 t31) fun t41 => condV t41 (callW PG N.linesmanlaw09_works [] (fun t42 w43 => R (.returned t42) w43) (fun c w => R (.panicked c) w) w40) (R (.returned (.bool false)) w40)) (fun c w => R (.panicked c) w) w34) (R (.returned (.bool false)) w34)) w33) w29) (fun c w => R (.panicked c) w) w24) w23) w19) (fun c w => R (.panicked c) w) w10)) (fun c w => R (.panicked c) w) w5) w3) w
theorem C_eq (R : Ending → World → Prop) (x0 x1 : Value) (w : World) : fnW PG note 400 Try.f3 [x0, x1] R w = C R x0 x1 w := by kernel_rfl
theorem ok {R : Ending → World → Prop} {x0 x1 : Value} {w : World} (h : C R x0 x1 w) : Calls PG N.linesmanlaw09_ProgramAt #[x0, x1] w R :=
  fnW_sound mixed Try.func3 (args := [x0, x1]) (by rw [C_eq]; exact h)
end linesmanlaw09_ProgramAt
namespace linesmanlaw09_ProgramSame
theorem okf : okFn PG N.linesmanlaw09_ProgramSame = true := by kernel_rfl
def note : Note := ⟨[(0, [7]), (2, [8])], []⟩
def C (R : Ending → World → Prop) (x0 x1 : Value) (w : World) : Prop :=
  alW (Value.cells x0) T.t_api_Program (fun t2 w3 => alW (Value.cells x1) T.t_api_Program (fun t4 w5 => ldW (some 4) t2 w5 fun t8 => callW PG N.linesmanlaw09_few [t8] (fun t9 w10 => pu PG (Op.unary .not t9) fun t11 => condV t11 (callW PG N.linesmanlaw09_works [] (fun t17 w18 => R (.returned t17) w18) (fun c w => R (.panicked c) w) w10) (ldW (some 4) t4 w10 fun t12 => callW PG N.linesmanlaw09_few [t12] (fun t13 w14 => pu PG (Op.unary .not t13) fun t15 => condV t15 (callW PG N.linesmanlaw09_works [] (fun t20 w21 => R (.returned t20) w21) (fun c w => R (.panicked c) w) w14) (ldW (some 4) t2 w14 fun t23 => ldW (some 4) t4 w14 fun t24 => callW PG N.linesmanref09_Same [t23, t24] (fun t25 w26 => ldW (some 4) t2 w26 fun t28 => callW PG N.program_Copy [t28] (fun t29 w30 => alW (zc PG T.t_api_Program) T.t_api_Program (fun t31 w32 => stW 4 t31 t29 (fun w33 => ldW (some 4) t2 w33 fun t36 => ldW (some 4) t4 w33 fun t37 => callW PG N.program_Same [t36, t37] (fun t38 w39 => pu PG (binV .neq T.t_bool false t38 t25) fun t40 => condV t40 (R (.returned (.bool false)) w39) (ldW (some 4) t4 w39 fun t41 => ldW (some 4) t2 w39 fun t42 => callW PG N.program_Same [t41, t42] (fun t43 w44 => pu PG (binV .neq T.t_bool false t43 t25) fun t45 => condV t45 (R (.returned (.bool false)) w44) (ldW (some 4) t2 w44 fun t46 => ldW (some 4) t2 w44 fun t47 => callW PG N.program_Same [t46, t47] (fun t48 w49 => pu PG (Op.unary .not t48) fun t50 => condV t50 (R (.returned (.bool false)) w49) (ldW (some 4) t2 w49 fun t51 => ldW (some 4) t31 w49 fun t52 => callW PG N.linesmanref09_Same [t51, t52] (fun t53 w54 => pu PG (Op.unary .not t53) fun t55 => condV t55 (R (.returned (.bool false)) w54) (LoopW [(.int .i64 0)] (fun l63 N64 w65 => ∀ j62 : S, faW 0 t31 fun t68 => ldW none t68 w65 fun t69 => lnS t69 fun t70 => pu PG (binV .lss T.t_int false (gv l63 0) t70) fun t71 => condV t71 (faW 0 t31 fun t74 => ldW none t74 w65 fun t75 => ixS 2 t75 (gv l63 0) fun t76 => faW 0 t76 fun t77 => stW 1 t77 (.int .i64 77) (fun w78 => LoopW [(.int .i64 0)] (fun l81 N82 w83 => ∀ j80 : S, faW 0 t31 fun t86 => ldW none t86 w83 fun t87 => ixS 2 t87 (gv l63 0) fun t88 => faW 1 t88 fun t89 => ldW none t89 w83 fun t90 => lnS t90 fun t91 => pu PG (binV .lss T.t_int false (gv l81 0) t91) fun t92 => condV t92 (faW 0 t31 fun t94 => ldW none t94 w83 fun t95 => ixS 2 t95 (gv l63 0) fun t96 => faW 1 t96 fun t97 => ldW none t97 w83 fun t98 => ixS 5 t98 (gv l81 0) fun t99 => faW 1 t99 fun t100 => stW 1 t100 (.int .i64 77) (fun w101 => pu PG (binV .add T.t_int true (gv l81 0) (.int .i64 1)) fun t102 => N82 [t102] w101) w83) (pu PG (binV .add T.t_int true (gv l63 0) (.int .i64 1)) fun t103 => N64 [t103] w83)) w78) w65) (ldW (some 4) t2 w65 fun t105 => callW PG N.program_Copy [t105] (fun t106 w107 => alW (zc PG T.t_api_Program) T.t_api_Program (fun t108 w109 => stW 4 t108 t106 (fun w110 => ldW (some 4) t2 w110 fun t112 => ldW (some 4) t108 w110 fun t113 => callW PG N.linesmanref09_Same [t112, t113] (fun t114 w115 => condV t114 (ldW (some 4) t2 w115 fun t116 => ldW (some 4) t108 w115 fun t117 => callW PG N.program_Same [t116, t117] (fun t118 w119 => condV t118 (callW PG N.linesmanlaw09_works [] (fun t120 w121 => R (.returned t120) w121) (fun c w => R (.panicked c) w) w119) (R (.returned (.bool false)) w119)) (fun c w => R (.panicked c) w) w115) (R (.returned (.bool false)) w115)) (fun c w => R (.panicked c) w) w110) w109) w107) (fun c w => R (.panicked c) w) w65)) w54)) (fun c w => R (.panicked c) w) w49)) (fun c w => R (.panicked c) w) w44)) (fun c w => R (.panicked c) w) w39)) (fun c w => R (.panicked c) w) w33) w32) w30) (fun c w => R (.panicked c) w) w26) (fun c w => R (.panicked c) w) w14)) (fun c w => R (.panicked c) w) w10)) (fun c w => R (.panicked c) w) w5) w3) w
theorem C_eq (R : Ending → World → Prop) (x0 x1 : Value) (w : World) : fnW PG note 400 Try.f4 [x0, x1] R w = C R x0 x1 w := by kernel_rfl
theorem ok {R : Ending → World → Prop} {x0 x1 : Value} {w : World} (h : C R x0 x1 w) : Calls PG N.linesmanlaw09_ProgramSame #[x0, x1] w R :=
  fnW_sound mixed Try.func4 (args := [x0, x1]) (by rw [C_eq]; exact h)
end linesmanlaw09_ProgramSame
namespace linesmanlaw10_ImageHolds
theorem okf : okFn PG N.linesmanlaw10_ImageHolds = true := by kernel_rfl
def note : Note := ⟨[], []⟩
def C (R : Ending → World → Prop) (x0 x1 : Value) (w : World) : Prop :=
  alW (Value.cells x0) T.t_api_Program (fun t2 w3 => ldW (some 4) t2 w3 fun t6 => callW PG N.linesmanlaw10_few [t6] (fun t7 w8 => pu PG (Op.unary .not t7) fun t9 => condV t9 (callW PG N.linesmanlaw10_works [] (fun t11 w12 => R (.returned t11) w12) (fun c w => R (.panicked c) w) w8) (ldW (some 4) t2 w8 fun t14 => callW PG N.image_Encode [t14] (fun t15 w16 => exW 0 t15 fun t17 => exW 1 t15 fun t18 => callW PG N.linesmanlaw10_num [t18] (fun t21 w22 => pu PG (binV .neq T.t_int true t21 (.int .i64 0)) fun t23 => condV t23 (lnS t17 fun t25 => pu PG (binV .eql T.t_int true t25 (.int .i64 0)) fun t26 => condV t26 (callW PG N.linesmanlaw10_works [] (fun t27 w28 => R (.returned t27) w28) (fun c w => R (.panicked c) w) w22) (R (.returned (.bool false)) w22)) (lnS t17 fun t31 => pu PG (binV .eql T.t_int true t31 (.int .i64 0)) fun t32 => condV t32 (R (.returned (.bool false)) w22) (pu PG (binV .lss T.t_int true x1 (.int .i64 0)) fun t36 => condV t36 (callW PG N.linesmanlaw10_works [] (fun t41 w42 => R (.returned t41) w42) (fun c w => R (.panicked c) w) w22) (pu PG (binV .quo T.t_int true x1 (.int .i64 8)) fun t37 => lnS t17 fun t38 => pu PG (binV .geq T.t_int false t37 t38) fun t39 => condV t39 (callW PG N.linesmanlaw10_works [] (fun t44 w45 => R (.returned t44) w45) (fun c w => R (.panicked c) w) w22) (bsW T.t_uint8 0 (bsC PG T.t_uint8 0 []) (fun t47 w48 => opW PG (Builtin.append_ #[T.t_sl_uint8, T.t_sl_uint8] T.t_sl_uint8 #[t47, t17]) (fun t49 w50 => pu PG (binV .quo T.t_int true x1 (.int .i64 8)) fun t52 => pu PG (binV .quo T.t_int true x1 (.int .i64 8)) fun t53 => ixS 1 t49 t53 fun t54 => ldW none t54 w50 fun t55 => pu PG (binV .rem T.t_int true x1 (.int .i64 8)) fun t56 => pu PG (convert T.t_int T.t_uint t56) fun t57 => pu PG (binV .shl T.t_uint8 true (.int .u8 1) t57) fun t58 => pu PG (binV .xor T.t_uint8 false t55 t58) fun t59 => ixS 1 t49 t52 fun t60 => stW 1 t60 t59 (fun w61 => callW PG N.image_Decode [t49] (fun t63 w64 => exW 0 t63 fun t65 => exW 1 t63 fun t66 => alW (zc PG T.t_api_Program) T.t_api_Program (fun t67 w68 => stW 4 t67 t65 (fun w69 => callW PG N.image_Is [t17] (fun t71 w72 => condV t71 (callW PG N.image_Is [t49] (fun t73 w74 => pu PG (Op.unary .not t73) fun t75 => condV t75 (callW PG N.linesmanlaw10_num [t66] (fun t76 w77 => pu PG (binV .eql T.t_int true t76 (.int .i64 110)) fun t78 => condV t78 (callW PG N.linesmanlaw10_works [] (fun t79 w80 => R (.returned t79) w80) (fun c w => R (.panicked c) w) w77) (callW PG N.linesmanlaw10_num [t66] (fun t81 w82 => pu PG (binV .eql T.t_int true t81 (.int .i64 200)) fun t83 => condV t83 (callW PG N.linesmanlaw10_works [] (fun t84 w85 => R (.returned t84) w85) (fun c w => R (.panicked c) w) w82) (R (.returned (.bool false)) w82)) (fun c w => R (.panicked c) w) w77)) (fun c w => R (.panicked c) w) w74) (R (.returned (.bool false)) w74)) (fun c w => R (.panicked c) w) w72) (R (.returned (.bool false)) w72)) (fun c w => R (.panicked c) w) w69) w68) w64) (fun c w => R (.panicked c) w) w61) w50) w48) w22))))) (fun c w => R (.panicked c) w) w16) (fun c w => R (.panicked c) w) w8)) (fun c w => R (.panicked c) w) w3) w
theorem C_eq (R : Ending → World → Prop) (x0 x1 : Value) (w : World) : fnW PG note 400 Try.f5 [x0, x1] R w = C R x0 x1 w := by kernel_rfl
theorem ok {R : Ending → World → Prop} {x0 x1 : Value} {w : World} (h : C R x0 x1 w) : Calls PG N.linesmanlaw10_ImageHolds #[x0, x1] w R :=
  fnW_sound mixed Try.func5 (args := [x0, x1]) (by rw [C_eq]; exact h)
end linesmanlaw10_ImageHolds
namespace linesmanlaw09_few
theorem okf : okFn PG N.linesmanlaw09_few = true := by kernel_rfl
def note : Note := ⟨[(0, [3, 4])], []⟩
def C (R : Ending → World → Prop) (x0 : Value) (w : World) : Prop :=
  alW (Value.cells x0) T.t_api_Program (fun t2 w3 => LoopW [(.int .i64 0), (.int .i64 0)] (fun l8 N9 w10 => ∀ j7 : S, faW 0 t2 fun t13 => ldW none t13 w10 fun t14 => lnS t14 fun t15 => pu PG (binV .lss T.t_int false (gv l8 1) t15) fun t16 => condV t16 (pu PG (binV .lss T.t_int true (gv l8 1) (.int .i64 40)) fun t17 => condV t17 (faW 0 t2 fun t19 => ldW none t19 w10 fun t20 => ixS 2 t20 (gv l8 1) fun t21 => faW 1 t21 fun t22 => ldW none t22 w10 fun t23 => lnS t23 fun t24 => pu PG (binV .add T.t_int false (gv l8 0) t24) fun t25 => pu PG (binV .add T.t_int true (gv l8 1) (.int .i64 1)) fun t26 => N9 [t25, t26] w10) (faW 0 t2 fun t28 => ldW none t28 w10 fun t29 => lnS t29 fun t30 => pu PG (binV .leq T.t_int true t30 (.int .i64 40)) fun t31 => condV t31 (pu PG (binV .leq T.t_int true (gv l8 0) (.int .i64 1600)) fun t32 => R (.returned t32) w10) (R (.returned (.bool false)) w10))) (faW 0 t2 fun t34 => ldW none t34 w10 fun t35 => lnS t35 fun t36 => pu PG (binV .leq T.t_int true t36 (.int .i64 40)) fun t37 => condV t37 (pu PG (binV .leq T.t_int true (gv l8 0) (.int .i64 1600)) fun t38 => R (.returned t38) w10) (R (.returned (.bool false)) w10))) w3) w
theorem C_eq (R : Ending → World → Prop) (x0 : Value) (w : World) : fnW PG note 400 Try.f6 [x0] R w = C R x0 w := by kernel_rfl
theorem ok {R : Ending → World → Prop} {x0 : Value} {w : World} (h : C R x0 w) : Calls PG N.linesmanlaw09_few #[x0] w R :=
  fnW_sound mixed Try.func6 (args := [x0]) (by rw [C_eq]; exact h)
end linesmanlaw09_few
namespace linesmanlaw09_works
theorem okf : okFn PG N.linesmanlaw09_works = true := by kernel_rfl
def note : Note := ⟨[], []⟩
def C (R : Ending → World → Prop) (w : World) : Prop :=
  pu PG (Instr.build T.t_api_Ins #[(0, (.int .i64 6)), (2, (.int .i64 1))]) fun t3 => pu PG (Instr.build T.t_api_Ins #[(0, (.int .i64 9))]) fun t4 => pu PG (Instr.build T.t_api_Ins #[(0, (.int .i64 19))]) fun t5 => alW (zc PG T.t_api_Ins) T.t_api_Ins (fun t6 w7 => alW (zc PG T.t_api_Ins) T.t_api_Ins (fun t8 w9 => alW (zc PG T.t_api_Ins) T.t_api_Ins (fun t10 w11 => stW 5 t6 t3 (fun w12 => stW 5 t8 t4 (fun w13 => stW 5 t10 t5 (fun w14 => ldW (some 5) t6 w14 fun t16 => ldW (some 5) t8 w14 fun t17 => bsW T.t_api_Ins 2 (bsC PG T.t_api_Ins 2 [(0, t16), (1, t17)]) (fun t18 w19 => callW PG N.linesmanlaw09_of [(.int .i64 1), t18] (fun t20 w21 => callW PG N.program_Wrong [t20] (fun t22 w23 => exW 0 t22 fun t24 => exW 1 t22 fun t25 => alW (zc PG T.t_api_Site) T.t_api_Site (fun t26 w27 => stW 2 t26 t24 (fun w28 => ldW (some 5) t8 w28 fun t30 => ldW (some 5) t10 w28 fun t31 => bsW T.t_api_Ins 2 (bsC PG T.t_api_Ins 2 [(0, t30), (1, t31)]) (fun t32 w33 => callW PG N.linesmanlaw09_of [(.int .i64 1), t32] (fun t34 w35 => callW PG N.program_Wrong [t34] (fun t36 w37 => exW 0 t36 fun t38 => exW 1 t36 fun t39 => alW (zc PG T.t_api_Site) T.t_api_Site (fun t40 w41 => stW 2 t40 t38 (fun w42 => ldW (some 5) t6 w42 fun t44 => ldW (some 5) t8 w42 fun t45 => bsW T.t_api_Ins 2 (bsC PG T.t_api_Ins 2 [(0, t44), (1, t45)]) (fun t46 w47 => callW PG N.linesmanlaw09_of [(.int .i64 2), t46] (fun t48 w49 => callW PG N.program_Check [t48] (fun t50 w51 => callW PG N.linesmanlaw09_num [t50] (fun t52 w53 => pu PG (binV .eql T.t_int true t52 (.int .i64 0)) fun t54 => condV t54 (ldW (some 5) t6 w53 fun t55 => ldW (some 5) t8 w53 fun t56 => bsW T.t_api_Ins 2 (bsC PG T.t_api_Ins 2 [(0, t55), (1, t56)]) (fun t57 w58 => callW PG N.linesmanlaw09_of [(.int .i64 1), t57] (fun t59 w60 => callW PG N.program_Check [t59] (fun t61 w62 => callW PG N.linesmanlaw09_num [t61] (fun t63 w64 => pu PG (binV .eql T.t_int true t63 (.int .i64 2)) fun t65 => condV t65 (ldW (some 2) t26 w64 fun t66 => pu PG (Instr.build T.t_api_Site #[]) fun t67 => pu PG (binV .eql T.t_api_Site false t66 t67) fun t68 => condV t68 (condV t25 (ldW (some 5) t8 w64 fun t69 => ldW (some 5) t10 w64 fun t70 => bsW T.t_api_Ins 2 (bsC PG T.t_api_Ins 2 [(0, t69), (1, t70)]) (fun t71 w72 => callW PG N.linesmanlaw09_of [(.int .i64 1), t71] (fun t73 w74 => callW PG N.program_Check [t73] (fun t75 w76 => callW PG N.linesmanlaw09_num [t75] (fun t77 w78 => pu PG (binV .eql T.t_int true t77 (.int .i64 2)) fun t79 => condV t79 (ldW (some 2) t40 w78 fun t80 => pu PG (Instr.build T.t_api_Site #[(1, (.int .i64 1))]) fun t81 => pu PG (binV .eql T.t_api_Site false t80 t81) fun t82 => condV t82 (R (.returned t39) w78) (R (.returned (.bool false)) w78)) (R (.returned (.bool false)) w78)) (fun c w => R (.panicked c) w) w76) (fun c w => R (.panicked c) w) w74) (fun c w => R (.panicked c) w) w72) w64) (R (.returned (.bool false)) w64)) (R (.returned (.bool false)) w64)) (R (.returned (.bool false)) w64)) (fun c w => R (.panicked c) w) w62) (fun c w => R (.panicked c) w) w60) (fun c w => R (.panicked c) w) w58) w53) (R (.returned (.bool false)) w53)) (fun c w => R (.panicked c) w) w51) (fun c w => R (.panicked c) w) w49) (fun c w => R (.panicked c) w) w47) w42) w41) w37) (fun c w => R (.panicked c) w) w35) (fun c w => R (.panicked c) w) w33) w28) w27) w23) (fun c w => R (.panicked c) w) w21) (fun c w => R (.panicked c) w) w19) w14) w13) w12) w11) w9) w7) w
theorem C_eq (R : Ending → World → Prop) (w : World) : fnW PG note 400 Try.f7 [] R w = C R  w := by kernel_rfl
theorem ok {R : Ending → World → Prop} {w : World} (h : C R  w) : Calls PG N.linesmanlaw09_works #[] w R :=
  fnW_sound mixed Try.func7 (args := []) (by rw [C_eq]; exact h)
end linesmanlaw09_works
namespace program_At
theorem okf : okFn PG N.program_At = true := by kernel_rfl
def note : Note := ⟨[], []⟩
def C (R : Ending → World → Prop) (x0 x1 : Value) (w : World) : Prop :=
  alW (Value.cells x0) T.t_api_Program (fun t2 w3 => alW (Value.cells x1) T.t_api_Site (fun t4 w5 => alW (zc PG T.t_api_Ins) T.t_api_Ins (fun t6 w7 => ∃ H10 : World → Prop, H10 (World.drew w7) ∧ (faW 0 t4 fun t11 => ldS none t11 H10 fun t12 => pu PG (binV .lss T.t_int true t12 (.int .i64 0)) fun t13 => condV t13 (pu PG (Instr.build T.t_api_Ins #[]) fun t35 => stW 5 t6 t35 (fun w36 => ldW (some 5) t6 w36 fun t37 => R (.returned (.tuple #[t37, (.int .i64 4)])) w36) (World.drew w7)) (faW 0 t4 fun t14 => ldS none t14 H10 fun t15 => faW 0 t2 fun t16 => ldS none t16 H10 fun t17 => lnS t17 fun t18 => pu PG (binV .geq T.t_int false t15 t18) fun t19 => condV t19 (pu PG (Instr.build T.t_api_Ins #[]) fun t39 => stW 5 t6 t39 (fun w40 => ldW (some 5) t6 w40 fun t41 => R (.returned (.tuple #[t41, (.int .i64 4)])) w40) (World.drew w7)) (faW 1 t4 fun t20 => ldS none t20 H10 fun t21 => pu PG (binV .lss T.t_int true t21 (.int .i64 0)) fun t22 => condV t22 (pu PG (Instr.build T.t_api_Ins #[]) fun t43 => stW 5 t6 t43 (fun w44 => ldW (some 5) t6 w44 fun t45 => R (.returned (.tuple #[t45, (.int .i64 4)])) w44) (World.drew w7)) (faW 1 t4 fun t23 => ldS none t23 H10 fun t24 => faW 0 t2 fun t25 => ldS none t25 H10 fun t26 => faW 0 t4 fun t27 => ldS none t27 H10 fun t28 => ixS 2 t26 t28 fun t29 => faW 1 t29 fun t30 => ldS none t30 H10 fun t31 => lnS t31 fun t32 => pu PG (binV .geq T.t_int false t24 t32) fun t33 => condV t33 (pu PG (Instr.build T.t_api_Ins #[]) fun t47 => stW 5 t6 t47 (fun w48 => ldW (some 5) t6 w48 fun t49 => R (.returned (.tuple #[t49, (.int .i64 4)])) w48) (World.drew w7)) (∃ H51 : World → Prop, H51 (World.drew (World.drew w7)) ∧ (faW 0 t2 fun t52 => ldS none t52 H51 fun t53 => faW 0 t4 fun t54 => ldS none t54 H51 fun t55 => ixS 2 t53 t55 fun t56 => faW 1 t56 fun t57 => ldS none t57 H51 fun t58 => faW 1 t4 fun t59 => ldS none t59 H51 fun t60 => ixS 5 t58 t60 fun t61 => ldS (some 5) t61 H51 fun t62 => stW 5 t6 t62 (fun w63 => ldW (some 5) t6 w63 fun t64 => R (.returned (.tuple #[t64, (.int .i64 0)])) w63) (World.drew (World.drew w7))))))))) w5) w3) w
theorem C_eq (R : Ending → World → Prop) (x0 x1 : Value) (w : World) : fnW PG note 400 Try.f8 [x0, x1] R w = C R x0 x1 w := by kernel_rfl
theorem ok {R : Ending → World → Prop} {x0 x1 : Value} {w : World} (h : C R x0 x1 w) : Calls PG N.program_At #[x0, x1] w R :=
  fnW_sound mixed Try.func8 (args := [x0, x1]) (by rw [C_eq]; exact h)
end program_At
namespace linesmanref09_At
theorem okf : okFn PG N.linesmanref09_At = true := by kernel_rfl
def note : Note := ⟨[], []⟩
def C (R : Ending → World → Prop) (x0 x1 : Value) (w : World) : Prop :=
  alW (Value.cells x0) T.t_api_Program (fun t2 w3 => alW (Value.cells x1) T.t_api_Site (fun t4 w5 => alW (zc PG T.t_api_Ins) T.t_api_Ins (fun t6 w7 => ∃ H10 : World → Prop, H10 (World.drew w7) ∧ (faW 0 t4 fun t11 => ldS none t11 H10 fun t12 => pu PG (binV .lss T.t_int true t12 (.int .i64 0)) fun t13 => condV t13 (pu PG (Instr.build T.t_api_Ins #[]) fun t35 => stW 5 t6 t35 (fun w36 => ldW (some 5) t6 w36 fun t37 => R (.returned (.tuple #[t37, (.int .i64 4)])) w36) (World.drew w7)) (faW 0 t4 fun t14 => ldS none t14 H10 fun t15 => faW 0 t2 fun t16 => ldS none t16 H10 fun t17 => lnS t17 fun t18 => pu PG (binV .geq T.t_int false t15 t18) fun t19 => condV t19 (pu PG (Instr.build T.t_api_Ins #[]) fun t39 => stW 5 t6 t39 (fun w40 => ldW (some 5) t6 w40 fun t41 => R (.returned (.tuple #[t41, (.int .i64 4)])) w40) (World.drew w7)) (faW 1 t4 fun t20 => ldS none t20 H10 fun t21 => pu PG (binV .lss T.t_int true t21 (.int .i64 0)) fun t22 => condV t22 (pu PG (Instr.build T.t_api_Ins #[]) fun t43 => stW 5 t6 t43 (fun w44 => ldW (some 5) t6 w44 fun t45 => R (.returned (.tuple #[t45, (.int .i64 4)])) w44) (World.drew w7)) (faW 1 t4 fun t23 => ldS none t23 H10 fun t24 => faW 0 t2 fun t25 => ldS none t25 H10 fun t26 => faW 0 t4 fun t27 => ldS none t27 H10 fun t28 => ixS 2 t26 t28 fun t29 => faW 1 t29 fun t30 => ldS none t30 H10 fun t31 => lnS t31 fun t32 => pu PG (binV .geq T.t_int false t24 t32) fun t33 => condV t33 (pu PG (Instr.build T.t_api_Ins #[]) fun t47 => stW 5 t6 t47 (fun w48 => ldW (some 5) t6 w48 fun t49 => R (.returned (.tuple #[t49, (.int .i64 4)])) w48) (World.drew w7)) (∃ H51 : World → Prop, H51 (World.drew (World.drew w7)) ∧ (faW 0 t2 fun t52 => ldS none t52 H51 fun t53 => faW 0 t4 fun t54 => ldS none t54 H51 fun t55 => ixS 2 t53 t55 fun t56 => faW 1 t56 fun t57 => ldS none t57 H51 fun t58 => faW 1 t4 fun t59 => ldS none t59 H51 fun t60 => ixS 5 t58 t60 fun t61 => ldS (some 5) t61 H51 fun t62 => stW 5 t6 t62 (fun w63 => ldW (some 5) t6 w63 fun t64 => R (.returned (.tuple #[t64, (.int .i64 0)])) w63) (World.drew (World.drew w7))))))))) w5) w3) w
theorem C_eq (R : Ending → World → Prop) (x0 x1 : Value) (w : World) : fnW PG note 400 Try.f9 [x0, x1] R w = C R x0 x1 w := by kernel_rfl
theorem ok {R : Ending → World → Prop} {x0 x1 : Value} {w : World} (h : C R x0 x1 w) : Calls PG N.linesmanref09_At #[x0, x1] w R :=
  fnW_sound mixed Try.func9 (args := [x0, x1]) (by rw [C_eq]; exact h)
end linesmanref09_At
namespace linesmanlaw09_num
theorem okf : okFn PG N.linesmanlaw09_num = true := by kernel_rfl
def note : Note := ⟨[], []⟩
def C (R : Ending → World → Prop) (x0 : Value) (w : World) : Prop :=
  R (.returned x0) w
theorem C_eq (R : Ending → World → Prop) (x0 : Value) (w : World) : fnW PG note 400 Try.f10 [x0] R w = C R x0 w := by kernel_rfl
theorem ok {R : Ending → World → Prop} {x0 : Value} {w : World} (h : C R x0 w) : Calls PG N.linesmanlaw09_num #[x0] w R :=
  fnW_sound mixed Try.func10 (args := [x0]) (by rw [C_eq]; exact h)
end linesmanlaw09_num
namespace linesmanref09_Same
theorem okf : okFn PG N.linesmanref09_Same = true := by kernel_rfl
def note : Note := ⟨[(0, [5]), (2, [8])], []⟩
def C (R : Ending → World → Prop) (x0 x1 : Value) (w : World) : Prop :=
  alW (Value.cells x0) T.t_api_Program (fun t2 w3 => alW (Value.cells x1) T.t_api_Program (fun t4 w5 => faW 1 t2 fun t8 => ldW none t8 w5 fun t9 => faW 1 t4 fun t10 => ldW none t10 w5 fun t11 => pu PG (binV .neq T.t_int false t9 t11) fun t12 => condV t12 (R (.returned (.bool false)) w5) (faW 2 t2 fun t13 => ldW none t13 w5 fun t14 => faW 2 t4 fun t15 => ldW none t15 w5 fun t16 => pu PG (binV .neq T.t_int false t14 t16) fun t17 => condV t17 (R (.returned (.bool false)) w5) (faW 3 t2 fun t18 => ldW none t18 w5 fun t19 => faW 3 t4 fun t20 => ldW none t20 w5 fun t21 => pu PG (binV .neq T.t_int false t19 t21) fun t22 => condV t22 (R (.returned (.bool false)) w5) (faW 0 t2 fun t23 => ldW none t23 w5 fun t24 => lnS t24 fun t25 => faW 0 t4 fun t26 => ldW none t26 w5 fun t27 => lnS t27 fun t28 => pu PG (binV .neq T.t_int false t25 t28) fun t29 => condV t29 (R (.returned (.bool false)) w5) (LoopW [(.int .i64 0)] (fun l37 N38 w39 => ∀ j36 : S, faW 0 t2 fun t42 => ldW none t42 w39 fun t43 => lnS t43 fun t44 => pu PG (binV .lss T.t_int false (gv l37 0) t44) fun t45 => condV t45 (∃ H48 : World → Prop, H48 (World.drew w39) ∧ (faW 0 t2 fun t49 => ldS none t49 H48 fun t50 => ixS 2 t50 (gv l37 0) fun t51 => ldS (some 2) t51 H48 fun t52 => faW 0 t4 fun t53 => ldS none t53 H48 fun t54 => ixS 2 t54 (gv l37 0) fun t55 => ldS (some 2) t55 H48 fun t56 => (alW (zc PG T.t_api_Func) T.t_api_Func (fun t57 w58 => H48 w58 ∧ (alW (zc PG T.t_api_Func) T.t_api_Func (fun t59 w60 => H48 w60 ∧ (stW 2 t57 t52 (fun w61 => H48 w61 ∧ (stW 2 t59 t56 (fun w62 => faW 0 t57 fun t71 => ldW none t71 w62 fun t72 => faW 0 t59 fun t73 => ldW none t73 w62 fun t74 => pu PG (binV .neq T.t_int false t72 t74) fun t75 => condV t75 (R (.returned (.bool false)) w62) (faW 1 t57 fun t76 => ldW none t76 w62 fun t77 => lnS t77 fun t78 => faW 1 t59 fun t79 => ldW none t79 w62 fun t80 => lnS t80 fun t81 => pu PG (binV .neq T.t_int false t78 t81) fun t82 => condV t82 (R (.returned (.bool false)) w62) (LoopW [(.int .i64 0)] (fun l87 N88 w89 => ∀ j86 : S, faW 1 t57 fun t92 => ldW none t92 w89 fun t93 => lnS t93 fun t94 => pu PG (binV .lss T.t_int false (gv l87 0) t94) fun t95 => condV t95 (∃ H98 : World → Prop, H98 (World.drew w89) ∧ (faW 1 t57 fun t99 => ldS none t99 H98 fun t100 => ixS 5 t100 (gv l87 0) fun t101 => ldS (some 5) t101 H98 fun t102 => faW 1 t59 fun t103 => ldS none t103 H98 fun t104 => ixS 5 t104 (gv l87 0) fun t105 => ldS (some 5) t105 H98 fun t106 => pu PG (binV .neq T.t_api_Ins false t102 t106) fun t107 => condV t107 (R (.returned (.bool false)) (World.drew w89)) (pu PG (binV .add T.t_int true (gv l87 0) (.int .i64 1)) fun t109 => N88 [t109] (World.drew w89)))) (pu PG (binV .add T.t_int true (gv l37 0) (.int .i64 1)) fun t151 => N38 [t151] w89)) w62))) w61)) w60)) w58)) (World.drew w39)) ∧ (alW (zc PG T.t_api_Func) T.t_api_Func (fun t63 w64 => H48 w64 ∧ (alW (zc PG T.t_api_Func) T.t_api_Func (fun t65 w66 => H48 w66 ∧ (stW 2 t65 t52 (fun w67 => H48 w67 ∧ (stW 2 t63 t56 (fun w68 => faW 0 t65 fun t112 => ldW none t112 w68 fun t113 => faW 0 t63 fun t114 => ldW none t114 w68 fun t115 => pu PG (binV .neq T.t_int false t113 t115) fun t116 => condV t116 (R (.returned (.bool false)) w68) (faW 1 t65 fun t117 => ldW none t117 w68 fun t118 => lnS t118 fun t119 => faW 1 t63 fun t120 => ldW none t120 w68 fun t121 => lnS t121 fun t122 => pu PG (binV .neq T.t_int false t119 t122) fun t123 => condV t123 (R (.returned (.bool false)) w68) (LoopW [(.int .i64 0)] (fun l128 N129 w130 => ∀ j127 : S, faW 1 t65 fun t133 => ldW none t133 w130 fun t134 => lnS t134 fun t135 => pu PG (binV .lss T.t_int false (gv l128 0) t135) fun t136 => condV t136 (∃ H139 : World → Prop, H139 (World.drew w130) ∧ (faW 1 t65 fun t140 => ldS none t140 H139 fun t141 => ixS 5 t141 (gv l128 0) fun t142 => ldS (some 5) t142 H139 fun t143 => faW 1 t63 fun t144 => ldS none t144 H139 fun t145 => ixS 5 t145 (gv l128 0) fun t146 => ldS (some 5) t146 H139 fun t147 => pu PG (binV .neq T.t_api_Ins false t143 t147) fun t148 => condV t148 (R (.returned (.bool false)) (World.drew w130)) (pu PG (binV .add T.t_int true (gv l128 0) (.int .i64 1)) fun t150 => N129 [t150] (World.drew w130)))) (pu PG (binV .add T.t_int true (gv l37 0) (.int .i64 1)) fun t152 => N38 [t152] w130)) w68))) w67)) w66)) w64)) (World.drew w39)))) (R (.returned (.bool true)) w39)) w5))))) w3) w
theorem C_eq (R : Ending → World → Prop) (x0 x1 : Value) (w : World) : fnW PG note 400 Try.f11 [x0, x1] R w = C R x0 x1 w := by kernel_rfl
theorem ok {R : Ending → World → Prop} {x0 x1 : Value} {w : World} (h : C R x0 x1 w) : Calls PG N.linesmanref09_Same #[x0, x1] w R :=
  fnW_sound mixed Try.func11 (args := [x0, x1]) (by rw [C_eq]; exact h)
end linesmanref09_Same
namespace program_Copy
theorem okf : okFn PG N.program_Copy = true := by kernel_rfl
def note : Note := ⟨[(0, [12])], []⟩
def C (R : Ending → World → Prop) (x0 : Value) (w : World) : Prop :=
  alW (Value.cells x0) T.t_api_Program (fun t2 w3 => alW (zc PG T.t_api_Program) T.t_api_Program (fun t4 w5 => faW 0 t2 fun t7 => ldW none t7 w5 fun t8 => callW PG N.slices_Clone_sl_api_Func_api_Func [t8] (fun t9 w10 => faW 0 t2 fun t11 => stW 1 t11 t9 (fun w12 => faW 0 t2 fun t15 => ldW none t15 w12 fun t16 => lnS t16 fun t17 => LoopW [(.int .i64 0)] (fun l19 N20 w21 => ∀ j18 : S, pu PG (binV .lss T.t_int false (gv l19 0) t17) fun t23 => condV t23 (ixS 2 t16 (gv l19 0) fun t27 => ldW (some 2) t27 w21 fun t28 => alW (zc PG T.t_api_Func) T.t_api_Func (fun t29 w30 => stW 2 t29 t28 (fun w31 => ∃ H32 : World → Prop, H32 (World.drew w31) ∧ (faW 0 t2 fun t33 => ldS none t33 H32 fun t34 => faW 1 t29 fun t35 => ldS none t35 H32 fun t36 => callW PG N.slices_Clone_sl_api_Ins_api_Ins [t36] (fun t37 w38 => H32 w38 ∧ (ixS 2 t34 (gv l19 0) fun t39 => faW 1 t39 fun t40 => stW 1 t40 t37 (fun w41 => pu PG (binV .add T.t_int true (gv l19 0) (.int .i64 1)) fun t43 => N20 [t43] w41) w38)) (fun c w => ∀ s42 : S, R (.panicked c) w) (World.drew w31))) w30) w21) (ldW (some 4) t2 w21 fun t45 => stW 4 t4 t45 (fun w46 => ldW (some 4) t4 w46 fun t47 => R (.returned t47) w46) w21)) w12) w10) (fun c w => R (.panicked c) w) w5) w3) w
theorem C_eq (R : Ending → World → Prop) (x0 : Value) (w : World) : fnW PG note 400 Try.f12 [x0] R w = C R x0 w := by kernel_rfl
theorem ok {R : Ending → World → Prop} {x0 : Value} {w : World} (h : C R x0 w) : Calls PG N.program_Copy #[x0] w R :=
  fnW_sound mixed Try.func12 (args := [x0]) (by rw [C_eq]; exact h)
end program_Copy
namespace program_Same
theorem okf : okFn PG N.program_Same = true := by kernel_rfl
def note : Note := ⟨[], []⟩
def C (R : Ending → World → Prop) (x0 x1 : Value) (w : World) : Prop :=
  alW (Value.cells x0) T.t_api_Program (fun t2 w3 => alW (Value.cells x1) T.t_api_Program (fun t4 w5 => faW 1 t2 fun t7 => ldW none t7 w5 fun t8 => faW 1 t4 fun t9 => ldW none t9 w5 fun t10 => pu PG (binV .eql T.t_int false t8 t10) fun t11 => condV t11 (faW 2 t2 fun t12 => ldW none t12 w5 fun t13 => faW 2 t4 fun t14 => ldW none t14 w5 fun t15 => pu PG (binV .eql T.t_int false t13 t15) fun t16 => condV t16 (faW 3 t2 fun t17 => ldW none t17 w5 fun t18 => faW 3 t4 fun t19 => ldW none t19 w5 fun t20 => pu PG (binV .eql T.t_int false t18 t20) fun t21 => condV t21 (faW 0 t2 fun t22 => ldW none t22 w5 fun t23 => faW 0 t4 fun t24 => ldW none t24 w5 fun t25 => callW PG N.slices_EqualFunc_sl_api_Func_sl_api_Func_api_Func_api_Func [t23, t25, (.func (.func N.program_Same_1) #[] #[])] (fun t26 w27 => R (.returned t26) w27) (fun c w => R (.panicked c) w) w5) (R (.returned (.bool false)) w5)) (R (.returned (.bool false)) w5)) (R (.returned (.bool false)) w5)) w3) w
theorem C_eq (R : Ending → World → Prop) (x0 x1 : Value) (w : World) : fnW PG note 400 Try.f13 [x0, x1] R w = C R x0 x1 w := by kernel_rfl
theorem ok {R : Ending → World → Prop} {x0 x1 : Value} {w : World} (h : C R x0 x1 w) : Calls PG N.program_Same #[x0, x1] w R :=
  fnW_sound mixed Try.func13 (args := [x0, x1]) (by rw [C_eq]; exact h)
end program_Same
namespace linesmanlaw10_few
theorem okf : okFn PG N.linesmanlaw10_few = true := by kernel_rfl
def note : Note := ⟨[(0, [3, 4])], []⟩
def C (R : Ending → World → Prop) (x0 : Value) (w : World) : Prop :=
  alW (Value.cells x0) T.t_api_Program (fun t2 w3 => LoopW [(.int .i64 0), (.int .i64 0)] (fun l8 N9 w10 => ∀ j7 : S, faW 0 t2 fun t13 => ldW none t13 w10 fun t14 => lnS t14 fun t15 => pu PG (binV .lss T.t_int false (gv l8 1) t15) fun t16 => condV t16 (pu PG (binV .lss T.t_int true (gv l8 1) (.int .i64 40)) fun t17 => condV t17 (faW 0 t2 fun t19 => ldW none t19 w10 fun t20 => ixS 2 t20 (gv l8 1) fun t21 => faW 1 t21 fun t22 => ldW none t22 w10 fun t23 => lnS t23 fun t24 => pu PG (binV .add T.t_int false (gv l8 0) t24) fun t25 => pu PG (binV .add T.t_int true (gv l8 1) (.int .i64 1)) fun t26 => N9 [t25, t26] w10) (faW 0 t2 fun t28 => ldW none t28 w10 fun t29 => lnS t29 fun t30 => pu PG (binV .leq T.t_int true t30 (.int .i64 40)) fun t31 => condV t31 (pu PG (binV .leq T.t_int true (gv l8 0) (.int .i64 1600)) fun t32 => R (.returned t32) w10) (R (.returned (.bool false)) w10))) (faW 0 t2 fun t34 => ldW none t34 w10 fun t35 => lnS t35 fun t36 => pu PG (binV .leq T.t_int true t36 (.int .i64 40)) fun t37 => condV t37 (pu PG (binV .leq T.t_int true (gv l8 0) (.int .i64 1600)) fun t38 => R (.returned t38) w10) (R (.returned (.bool false)) w10))) w3) w
theorem C_eq (R : Ending → World → Prop) (x0 : Value) (w : World) : fnW PG note 400 Try.f14 [x0] R w = C R x0 w := by kernel_rfl
theorem ok {R : Ending → World → Prop} {x0 : Value} {w : World} (h : C R x0 w) : Calls PG N.linesmanlaw10_few #[x0] w R :=
  fnW_sound mixed Try.func14 (args := [x0]) (by rw [C_eq]; exact h)
end linesmanlaw10_few
namespace linesmanlaw10_works
theorem okf : okFn PG N.linesmanlaw10_works = true := by kernel_rfl
def note : Note := ⟨[], []⟩
def C (R : Ending → World → Prop) (w : World) : Prop :=
  pu PG (Instr.build T.t_api_Ins #[(0, (.int .i64 9))]) fun t3 => bsW T.t_api_Ins 1 (bsC PG T.t_api_Ins 1 [(0, t3)]) (fun t4 w5 => pu PG (Instr.build T.t_api_Func #[(0, (.int .i64 1)), (1, t4)]) fun t6 => bsW T.t_api_Func 1 (bsC PG T.t_api_Func 1 [(0, t6)]) (fun t7 w8 => pu PG (Instr.build T.t_api_Program #[(1, (.int .i64 1)), (0, t7)]) fun t9 => alW (zc PG T.t_api_Program) T.t_api_Program (fun t10 w11 => stW 4 t10 t9 (fun w12 => ldW (some 4) t10 w12 fun t14 => callW PG N.image_Encode [t14] (fun t15 w16 => exW 0 t15 fun t17 => exW 1 t15 fun t18 => opW PG (convert T.t_string T.t_sl_uint8 (.string (bs [108, 105, 110, 101, 1, 0, 0, 1, 1, 1, 0, 9, 0]))) (fun t21 w22 => callW PG N.image_Decode [t21] (fun t23 w24 => exW 0 t23 fun t25 => exW 1 t23 fun t26 => alW (zc PG T.t_api_Program) T.t_api_Program (fun t27 w28 => stW 4 t27 t25 (fun w29 => pu PG (binV .add T.t_string true (.string (bs [108, 105, 110, 101, 1, 0, 0, 1, 1, 1, 0, 9, 0])) (.string (bs [0, 0, 0, 0, 0, 0, 0, 0]))) fun t31 => opW PG (convert T.t_string T.t_sl_uint8 t31) (fun t32 w33 => callW PG N.image_Decode [t32] (fun t34 w35 => exW 0 t34 fun t36 => exW 1 t34 fun t37 => alW (zc PG T.t_api_Program) T.t_api_Program (fun t38 w39 => stW 4 t38 t36 (fun w40 => bsW T.t_uint8 4 (bsC PG T.t_uint8 4 [(0, (.int .u8 108)), (1, (.int .u8 105)), (2, (.int .u8 110)), (3, (.int .u8 102))]) (fun t42 w43 => opW PG (convert T.t_sl_uint8 T.t_sl_uint8 t42) (fun t44 w45 => callW PG N.image_Decode [t44] (fun t46 w47 => exW 0 t46 fun t48 => exW 1 t46 fun t49 => alW (zc PG T.t_api_Program) T.t_api_Program (fun t50 w51 => stW 4 t50 t48 (fun w52 => callW PG N.linesmanlaw10_num [t18] (fun t54 w55 => pu PG (binV .eql T.t_int true t54 (.int .i64 0)) fun t56 => condV t56 (lnS t17 fun t57 => pu PG (binV .eql T.t_int true t57 (.int .i64 21)) fun t58 => condV t58 (pu PG (Instr.sliceAt T.t_sl_uint8 t17 none (some (.int .i64 13)) none) fun t59 => opW PG (convert T.t_sl_uint8 T.t_string t59) (fun t60 w61 => pu PG (binV .eql T.t_string false t60 (.string (bs [108, 105, 110, 101, 1, 0, 0, 1, 1, 1, 0, 9, 0]))) fun t62 => condV t62 (callW PG N.linesmanlaw10_num [t26] (fun t63 w64 => pu PG (binV .eql T.t_int true t63 (.int .i64 110)) fun t65 => condV t65 (callW PG N.linesmanlaw10_num [t37] (fun t66 w67 => pu PG (binV .eql T.t_int true t66 (.int .i64 200)) fun t68 => condV t68 (callW PG N.linesmanlaw10_num [t49] (fun t69 w70 => pu PG (binV .eql T.t_int true t69 (.int .i64 200)) fun t71 => R (.returned t71) w70) (fun c w => R (.panicked c) w) w67) (R (.returned (.bool false)) w67)) (fun c w => R (.panicked c) w) w64) (R (.returned (.bool false)) w64)) (fun c w => R (.panicked c) w) w61) (R (.returned (.bool false)) w61)) w55) (R (.returned (.bool false)) w55)) (R (.returned (.bool false)) w55)) (fun c w => R (.panicked c) w) w52) w51) w47) (fun c w => R (.panicked c) w) w45) w43) w40) w39) w35) (fun c w => R (.panicked c) w) w33) w29) w28) w24) (fun c w => R (.panicked c) w) w22) w16) (fun c w => R (.panicked c) w) w12) w11) w8) w5) w
theorem C_eq (R : Ending → World → Prop) (w : World) : fnW PG note 400 Try.f15 [] R w = C R  w := by kernel_rfl
theorem ok {R : Ending → World → Prop} {w : World} (h : C R  w) : Calls PG N.linesmanlaw10_works #[] w R :=
  fnW_sound mixed Try.func15 (args := []) (by rw [C_eq]; exact h)
end linesmanlaw10_works
namespace image_Encode
theorem okf : okFn PG N.image_Encode = true := by kernel_rfl
def note : Note := ⟨[(0, [22]), (2, [46]), (4, [63])], []⟩
def C (R : Ending → World → Prop) (x0 : Value) (w : World) : Prop :=
  alW (Value.cells x0) T.t_api_Program (fun t2 w3 => ldW (some 4) t2 w3 fun t6 => callW PG N.program_Check [t6] (fun t7 w8 => pu PG (binV .neq T.t_api_Errno true t7 (.int .i64 0)) fun t10 => condV t10 (R (.returned (.tuple #[(.slice none 0 0), t7])) w8) (pu PG (Instr.build T.t_image_writer #[]) fun t13 => alW (Value.cells t13) T.t_image_writer (fun t14 w15 => callW PG N.image_begins [] (fun t18 w19 => LoopW [(.int .i64 0)] (fun l21 N22 w23 => ∀ j20 : S, pu PG (binV .lss T.t_int true (gv l21 0) (.int .i64 4)) fun t25 => condV t25 (ixV 4 1 false t18 (gv l21 0) fun t29 => pu PG (convert T.t_uint8 T.t_int t29) fun t30 => callW PG N.image_writer_byte [t14, t30] (fun t31 w32 => pu PG (binV .add T.t_int true (gv l21 0) (.int .i64 1)) fun t33 => N22 [t33] w32) (fun c w => R (.panicked c) w) w23) (faW 1 t2 fun t35 => ldW none t35 w23 fun t36 => faW 2 t2 fun t37 => ldW none t37 w23 fun t38 => faW 3 t2 fun t39 => ldW none t39 w23 fun t40 => faW 0 t2 fun t41 => ldW none t41 w23 fun t42 => lnS t42 fun t43 => bsW T.t_int 4 (bsC PG T.t_int 4 [(0, t36), (1, t38), (2, t40), (3, t43)]) (fun t44 w45 => callW PG N.image_each_int [(.func (.func N.image_writer_byte) #[t14] #[]), t44] (fun t46 w47 => faW 0 t2 fun t50 => ldW none t50 w47 fun t51 => lnS t51 fun t52 => LoopW [(.int .i64 0)] (fun l54 N55 w56 => ∀ j53 : S, pu PG (binV .lss T.t_int false (gv l54 0) t52) fun t58 => condV t58 (ixS 2 t51 (gv l54 0) fun t62 => ldW (some 2) t62 w56 fun t63 => alW (zc PG T.t_api_Func) T.t_api_Func (fun t64 w65 => stW 2 t64 t63 (fun w66 => faW 0 t64 fun t68 => ldW none t68 w66 fun t69 => callW PG N.image_writer_byte [t14, t69] (fun t70 w71 => faW 1 t64 fun t73 => ldW none t73 w71 fun t74 => lnS t74 fun t75 => pu PG (convert T.t_int T.t_uint64 t75) fun t76 => callW PG N.image_writer_number [t14, t76, (.int .i64 2)] (fun t77 w78 => faW 1 t64 fun t80 => ldW none t80 w78 fun t81 => lnS t81 fun t82 => LoopW [(.int .i64 0)] (fun l84 N85 w86 => ∀ j83 : S, pu PG (binV .lss T.t_int false (gv l84 0) t82) fun t88 => condV t88 (ixS 5 t81 (gv l84 0) fun t92 => ldW (some 5) t92 w86 fun t93 => alW (zc PG T.t_api_Ins) T.t_api_Ins (fun t94 w95 => stW 5 t94 t93 (fun w96 => ldW (some 5) t94 w96 fun t98 => callW PG N.instr_Bytes [t98] (fun t99 w100 => exW 0 t99 fun t101 => exW 1 t99 fun t102 => nlW t14 fun t103 => faW 0 t103 fun t104 => ldW none t104 w100 fun t105 => opW PG (Builtin.append_ #[T.t_sl_uint8, T.t_sl_uint8] T.t_sl_uint8 #[t105, t101]) (fun t106 w107 => nlW t14 fun t108 => faW 0 t108 fun t109 => stW 1 t109 t106 (fun w110 => pu PG (binV .add T.t_int true (gv l84 0) (.int .i64 1)) fun t111 => N85 [t111] w110) w107) w100) (fun c w => R (.panicked c) w) w96) w95) w86) (pu PG (binV .add T.t_int true (gv l54 0) (.int .i64 1)) fun t112 => N55 [t112] w86)) w78) (fun c w => R (.panicked c) w) w71) (fun c w => R (.panicked c) w) w66) w65) w56) (nlW t14 fun t114 => faW 0 t114 fun t115 => ldW none t115 w56 fun t116 => bsW T.t_sl_uint8 1 (bsC PG T.t_sl_uint8 1 [(0, t116)]) (fun t117 w118 => callW PG N.digest_Of [t117] (fun t119 w120 => callW PG N.image_writer_number [t14, t119, (.int .i64 8)] (fun t121 w122 => nlW t14 fun t124 => faW 0 t124 fun t125 => ldW none t125 w122 fun t126 => R (.returned (.tuple #[t126, (.int .i64 0)])) w122) (fun c w => R (.panicked c) w) w120) (fun c w => R (.panicked c) w) w118) w56)) w47) (fun c w => R (.panicked c) w) w45) w23)) w19) (fun c w => R (.panicked c) w) w15) w8)) (fun c w => R (.panicked c) w) w3) w
theorem C_eq (R : Ending → World → Prop) (x0 : Value) (w : World) : fnW PG note 400 Try.f16 [x0] R w = C R x0 w := by kernel_rfl
theorem ok {R : Ending → World → Prop} {x0 : Value} {w : World} (h : C R x0 w) : Calls PG N.image_Encode #[x0] w R :=
  fnW_sound mixed Try.func16 (args := [x0]) (by rw [C_eq]; exact h)
end image_Encode
namespace linesmanlaw10_num
theorem okf : okFn PG N.linesmanlaw10_num = true := by kernel_rfl
def note : Note := ⟨[], []⟩
def C (R : Ending → World → Prop) (x0 : Value) (w : World) : Prop :=
  R (.returned x0) w
theorem C_eq (R : Ending → World → Prop) (x0 : Value) (w : World) : fnW PG note 400 Try.f17 [x0] R w = C R x0 w := by kernel_rfl
theorem ok {R : Ending → World → Prop} {x0 : Value} {w : World} (h : C R x0 w) : Calls PG N.linesmanlaw10_num #[x0] w R :=
  fnW_sound mixed Try.func17 (args := [x0]) (by rw [C_eq]; exact h)
end linesmanlaw10_num
namespace image_Decode
theorem okf : okFn PG N.image_Decode = true := by kernel_rfl
def note : Note := ⟨[], []⟩
def C (R : Ending → World → Prop) (x0 : Value) (w : World) : Prop :=
  alW (zc PG T.t_api_Program) T.t_api_Program (fun t2 w3 => callW PG N.image_first [x0] (fun t5 w6 => exW 0 t5 fun t7 => exW 1 t5 fun t8 => exW 2 t5 fun t9 => stW 4 t2 t7 (fun w10 => pu PG (binV .eql T.t_api_Errno true t9 (.int .i64 0)) fun t13 => condV t13 (lnS x0 fun t14 => pu PG (binV .lss T.t_int false t8 t14) fun t15 => condV t15 (pu PG (Instr.build T.t_api_Program #[]) fun t17 => stW 4 t2 t17 (fun w18 => ldW (some 4) t2 w18 fun t19 => R (.returned (.tuple #[t19, (.int .i64 200)])) w18) w10) (ldW (some 4) t2 w10 fun t21 => stW 4 t2 t21 (fun w22 => ldW (some 4) t2 w22 fun t23 => R (.returned (.tuple #[t23, t9])) w22) w10)) (ldW (some 4) t2 w10 fun t25 => stW 4 t2 t25 (fun w26 => ldW (some 4) t2 w26 fun t27 => R (.returned (.tuple #[t27, t9])) w26) w10)) w6) (fun c w => R (.panicked c) w) w3) w
theorem C_eq (R : Ending → World → Prop) (x0 : Value) (w : World) : fnW PG note 400 Try.f18 [x0] R w = C R x0 w := by kernel_rfl
theorem ok {R : Ending → World → Prop} {x0 : Value} {w : World} (h : C R x0 w) : Calls PG N.image_Decode #[x0] w R :=
  fnW_sound mixed Try.func18 (args := [x0]) (by rw [C_eq]; exact h)
end image_Decode
namespace image_Is
theorem okf : okFn PG N.image_Is = true := by kernel_rfl
def note : Note := ⟨[], []⟩
def C (R : Ending → World → Prop) (x0 : Value) (w : World) : Prop :=
  callW PG N.image_Decode [x0] (fun t3 w4 => exW 0 t3 fun t5 => exW 1 t3 fun t6 => alW (zc PG T.t_api_Program) T.t_api_Program (fun t7 w8 => stW 4 t7 t5 (fun w9 => pu PG (binV .eql T.t_api_Errno true t6 (.int .i64 0)) fun t11 => R (.returned t11) w9) w8) w4) (fun c w => R (.panicked c) w) w
theorem C_eq (R : Ending → World → Prop) (x0 : Value) (w : World) : fnW PG note 400 Try.f19 [x0] R w = C R x0 w := by kernel_rfl
theorem ok {R : Ending → World → Prop} {x0 : Value} {w : World} (h : C R x0 w) : Calls PG N.image_Is #[x0] w R :=
  fnW_sound mixed Try.func19 (args := [x0]) (by rw [C_eq]; exact h)
end image_Is
namespace program_Wrong
theorem okf : okFn PG N.program_Wrong = true := by kernel_rfl
def note : Note := ⟨[], [(0, [2, 3])]⟩
def rp0 : Array Tmp := #[12, 13]
noncomputable def ra0 : Code := sub [1, 1, 0, 1, 0, 0] (bodyOf Try.f20)
noncomputable def rb0 : Code := sub [1, 1, 0, 1, 0, 1] (bodyOf Try.f20)
def C (R : Ending → World → Prop) (x0 : Value) (w : World) : Prop :=
  alW (Value.cells x0) T.t_api_Program (fun t2 w3 => alW (zc PG T.t_api_Site) T.t_api_Site (fun t4 w5 => alW (zc PG T.t_bool) T.t_bool (fun t6 w7 => ldW (some 4) t2 w7 fun t10 => callW PG N.program_numbers [t10] (fun t11 w12 => pu PG (Op.unary .not t11) fun t13 => condV t13 (pu PG (Instr.build T.t_api_Site #[]) fun t15 => stW 2 t4 t15 (fun w16 => stW 1 t6 (.bool false) (fun w17 => ldW (some 2) t4 w17 fun t18 => ldW none t6 w17 fun t19 => R (.returned (.tuple #[t18, t19])) w17) w16) w12) (ldW (some 4) t2 w12 fun t22 => callW PG N.program_every [t22] (fun t23 w24 => RangeW PG none 19 [(2, t4), (3, t6)] rp0 ra0 rb0 t23 (fun d25 w26 => pu PG (Instr.build T.t_api_Site #[]) fun t34 => stW 2 t4 t34 (fun w35 => stW 1 t6 (.bool false) (fun w36 => LvW PG d25 .returning w36 (endV (fun w37 => ldW (some 2) t4 w37 fun t38 => ldW none t6 w37 fun t39 => R (.returned (.tuple #[t38, t39])) w37) R)) w35) w26) (fun d25 w26 => LvW PG d25 .returning w26 (endV (fun w27 => ldW (some 2) t4 w27 fun t28 => ldW none t6 w27 fun t29 => R (.returned (.tuple #[t28, t29])) w27) R)) [] (fun c d25 w26 => LvW PG d25 (.panicking c) w26 (endV (fun w30 => ldW (some 2) t4 w30 fun t31 => ldW none t6 w30 fun t32 => R (.returned (.tuple #[t31, t32])) w30) R)) [] w24) (fun c w => R (.panicked c) w) w12)) (fun c w => R (.panicked c) w) w7) w5) w3) w
theorem C_eq (R : Ending → World → Prop) (x0 : Value) (w : World) : fnW PG note 400 Try.f20 [x0] R w = C R x0 w := by kernel_rfl
theorem ok {R : Ending → World → Prop} {x0 : Value} {w : World} (h : C R x0 w) : Calls PG N.program_Wrong #[x0] w R :=
  fnW_sound mixed Try.func20 (args := [x0]) (by rw [C_eq]; exact h)
def Rd0 (l : Nat) (R : Value → World → Prop) (v2 v3 a0 a1 : Value) (w : World) : Prop :=
  alW (zc PG T.t_api_Site) T.t_api_Site (fun t41 w42 => stW 2 t41 a0 (fun w43 => alW (zc PG T.t_program_place) T.t_program_place (fun t44 w45 => stW 7 t44 a1 (fun w46 => rBeg l (fun w47 => ldW (some 7) t44 w47 fun t49 => callW PG N.program_place_fine [t49] (fun t50 w51 => pu PG (Op.unary .not t50) fun t52 => condV t52 (ldW (some 2) t41 w51 fun t54 => stW 2 v2 t54 (fun w55 => stW 1 v3 (.bool true) (fun w56 => rEnd l (some .ret) R w56) w55) w51) (rEnd l none R w51)) (fun c w => False) w47) w46) w45) w43) w42) w
theorem Rd0_eq (l : Nat) (R : Value → World → Prop) (v2 v3 a0 a1 : Value) (w : World) (u : S) : rndW PG note 19 400 l ra0 rb0 (pset [12, 13] [a0, a1] (ovrP [(2, v2), (3, v3)] u)) R w = Rd0 l R v2 v3 a0 a1 w := by kernel_rfl
end program_Wrong
namespace linesmanlaw09_of
theorem okf : okFn PG N.linesmanlaw09_of = true := by kernel_rfl
def note : Note := ⟨[], []⟩
def C (R : Ending → World → Prop) (x0 x1 : Value) (w : World) : Prop :=
  alW (zc PG T.t_api_Program) T.t_api_Program (fun t2 w3 => pu PG (Instr.build T.t_api_Func #[(0, x0), (1, x1)]) fun t5 => bsW T.t_api_Func 1 (bsC PG T.t_api_Func 1 [(0, t5)]) (fun t6 w7 => pu PG (Instr.build T.t_api_Program #[(0, t6)]) fun t8 => stW 4 t2 t8 (fun w9 => ldW (some 4) t2 w9 fun t10 => R (.returned t10) w9) w7) w3) w
theorem C_eq (R : Ending → World → Prop) (x0 x1 : Value) (w : World) : fnW PG note 400 Try.f21 [x0, x1] R w = C R x0 x1 w := by kernel_rfl
theorem ok {R : Ending → World → Prop} {x0 x1 : Value} {w : World} (h : C R x0 x1 w) : Calls PG N.linesmanlaw09_of #[x0, x1] w R :=
  fnW_sound mixed Try.func21 (args := [x0, x1]) (by rw [C_eq]; exact h)
end linesmanlaw09_of
namespace program_Check
theorem okf : okFn PG N.program_Check = true := by kernel_rfl
def note : Note := ⟨[], []⟩
def C (R : Ending → World → Prop) (x0 : Value) (w : World) : Prop :=
  alW (Value.cells x0) T.t_api_Program (fun t2 w3 => ldW (some 4) t2 w3 fun t6 => callW PG N.program_numbers [t6] (fun t7 w8 => pu PG (Op.unary .not t7) fun t9 => condV t9 (R (.returned (.int .i64 2)) w8) (ldW (some 4) t2 w8 fun t14 => callW PG N.program_Wrong [t14] (fun t15 w16 => exW 0 t15 fun t17 => exW 1 t15 fun t18 => alW (zc PG T.t_api_Site) T.t_api_Site (fun t19 w20 => stW 2 t19 t17 (fun w21 => condV t18 (R (.returned (.int .i64 2)) w21) (R (.returned (.int .i64 0)) w21)) w20) w16) (fun c w => R (.panicked c) w) w8)) (fun c w => R (.panicked c) w) w3) w
theorem C_eq (R : Ending → World → Prop) (x0 : Value) (w : World) : fnW PG note 400 Try.f22 [x0] R w = C R x0 w := by kernel_rfl
theorem ok {R : Ending → World → Prop} {x0 : Value} {w : World} (h : C R x0 w) : Calls PG N.program_Check #[x0] w R :=
  fnW_sound mixed Try.func22 (args := [x0]) (by rw [C_eq]; exact h)
end program_Check
namespace slices_Clone_sl_api_Func_api_Func
theorem okf : okFn PG N.slices_Clone_sl_api_Func_api_Func = true := by kernel_rfl
def note : Note := ⟨[], []⟩
def C (R : Ending → World → Prop) (x0 : Value) (w : World) : Prop :=
  pu PG (binV .eql T.t_sl_api_Func true x0 (.slice none 0 0)) fun t4 => condV t4 (R (.returned (.slice none 0 0)) w) (bsW T.t_api_Func 0 (bsC PG T.t_api_Func 0 []) (fun t7 w8 => opW PG (Builtin.append_ #[T.t_sl_api_Func, T.t_sl_api_Func] T.t_sl_api_Func #[t7, x0]) (fun t9 w10 => R (.returned t9) w10) w8) w)
theorem C_eq (R : Ending → World → Prop) (x0 : Value) (w : World) : fnW PG note 400 Try.f23 [x0] R w = C R x0 w := by kernel_rfl
theorem ok {R : Ending → World → Prop} {x0 : Value} {w : World} (h : C R x0 w) : Calls PG N.slices_Clone_sl_api_Func_api_Func #[x0] w R :=
  fnW_sound mixed Try.func23 (args := [x0]) (by rw [C_eq]; exact h)
end slices_Clone_sl_api_Func_api_Func
namespace slices_Clone_sl_api_Ins_api_Ins
theorem okf : okFn PG N.slices_Clone_sl_api_Ins_api_Ins = true := by kernel_rfl
def note : Note := ⟨[], []⟩
def C (R : Ending → World → Prop) (x0 : Value) (w : World) : Prop :=
  pu PG (binV .eql T.t_sl_api_Ins true x0 (.slice none 0 0)) fun t4 => condV t4 (R (.returned (.slice none 0 0)) w) (bsW T.t_api_Ins 0 (bsC PG T.t_api_Ins 0 []) (fun t7 w8 => opW PG (Builtin.append_ #[T.t_sl_api_Ins, T.t_sl_api_Ins] T.t_sl_api_Ins #[t7, x0]) (fun t9 w10 => R (.returned t9) w10) w8) w)
theorem C_eq (R : Ending → World → Prop) (x0 : Value) (w : World) : fnW PG note 400 Try.f24 [x0] R w = C R x0 w := by kernel_rfl
theorem ok {R : Ending → World → Prop} {x0 : Value} {w : World} (h : C R x0 w) : Calls PG N.slices_Clone_sl_api_Ins_api_Ins #[x0] w R :=
  fnW_sound mixed Try.func24 (args := [x0]) (by rw [C_eq]; exact h)
end slices_Clone_sl_api_Ins_api_Ins
namespace slices_EqualFunc_sl_api_Func_sl_api_Func_api_Func_api_Func
theorem okf : okFn PG N.slices_EqualFunc_sl_api_Func_sl_api_Func_api_Func_api_Func = true := by kernel_rfl
def note : Note := ⟨[(0, [17])], []⟩
def C (R : Ending → World → Prop) (x0 x1 x2 : Value) (w : World) : Prop :=
  lnS x0 fun t4 => lnS x1 fun t5 => pu PG (binV .neq T.t_int false t4 t5) fun t6 => condV t6 (R (.returned (.bool false)) w) (lnS x0 fun t10 => LoopW [(.int .i64 0)] (fun l12 N13 w14 => ∀ j11 : S, pu PG (binV .lss T.t_int false (gv l12 0) t10) fun t16 => condV t16 (ixS 2 x0 (gv l12 0) fun t20 => ldW (some 2) t20 w14 fun t21 => alW (zc PG T.t_api_Func) T.t_api_Func (fun t22 w23 => stW 2 t22 t21 (fun w24 => ixS 2 x1 (gv l12 0) fun t26 => ldW (some 2) t26 w24 fun t27 => alW (zc PG T.t_api_Func) T.t_api_Func (fun t28 w29 => stW 2 t28 t27 (fun w30 => ldW (some 2) t22 w30 fun t32 => ldW (some 2) t28 w30 fun t33 => callV PG x2 [t32, t33] (fun t34 w35 => pu PG (Op.unary .not t34) fun t36 => condV t36 (R (.returned (.bool false)) w35) (pu PG (binV .add T.t_int true (gv l12 0) (.int .i64 1)) fun t38 => N13 [t38] w35)) (fun c w => R (.panicked c) w) w30) w29) w24) w23) w14) (R (.returned (.bool true)) w14)) w)
theorem C_eq (R : Ending → World → Prop) (x0 x1 x2 : Value) (w : World) : fnW PG note 400 Try.f25 [x0, x1, x2] R w = C R x0 x1 x2 w := by kernel_rfl
theorem ok {R : Ending → World → Prop} {x0 x1 x2 : Value} {w : World} (h : C R x0 x1 x2 w) : Calls PG N.slices_EqualFunc_sl_api_Func_sl_api_Func_api_Func_api_Func #[x0, x1, x2] w R :=
  fnW_sound mixed Try.func25 (args := [x0, x1, x2]) (by rw [C_eq]; exact h)
end slices_EqualFunc_sl_api_Func_sl_api_Func_api_Func_api_Func
namespace program_Same_1
theorem okf : okFn PG N.program_Same_1 = true := by kernel_rfl
def note : Note := ⟨[], []⟩
def C (R : Ending → World → Prop) (x0 x1 : Value) (w : World) : Prop :=
  alW (Value.cells x0) T.t_api_Func (fun t2 w3 => alW (Value.cells x1) T.t_api_Func (fun t4 w5 => faW 0 t2 fun t7 => ldW none t7 w5 fun t8 => faW 0 t4 fun t9 => ldW none t9 w5 fun t10 => pu PG (binV .eql T.t_int false t8 t10) fun t11 => condV t11 (faW 1 t2 fun t12 => ldW none t12 w5 fun t13 => faW 1 t4 fun t14 => ldW none t14 w5 fun t15 => callW PG N.slices_Equal_sl_api_Ins_api_Ins [t13, t15] (fun t16 w17 => R (.returned t16) w17) (fun c w => R (.panicked c) w) w5) (R (.returned (.bool false)) w5)) w3) w
theorem C_eq (R : Ending → World → Prop) (x0 x1 : Value) (w : World) : fnW PG note 400 Try.f26 [x0, x1] R w = C R x0 x1 w := by kernel_rfl
theorem ok {R : Ending → World → Prop} {x0 x1 : Value} {w : World} (h : C R x0 x1 w) : Calls PG N.program_Same_1 #[x0, x1] w R :=
  fnW_sound mixed Try.func26 (args := [x0, x1]) (by rw [C_eq]; exact h)
end program_Same_1
namespace slices_Equal_sl_api_Ins_api_Ins
theorem okf : okFn PG N.slices_Equal_sl_api_Ins_api_Ins = true := by kernel_rfl
def note : Note := ⟨[(0, [13])], []⟩
def C (R : Ending → World → Prop) (x0 x1 : Value) (w : World) : Prop :=
  lnS x0 fun t4 => lnS x1 fun t5 => pu PG (binV .neq T.t_int false t4 t5) fun t6 => condV t6 (R (.returned (.bool false)) w) (lnS x0 fun t10 => LoopW [(.int .i64 0)] (fun l12 N13 w14 => ∀ j11 : S, pu PG (binV .lss T.t_int false (gv l12 0) t10) fun t16 => condV t16 (∃ H21 : World → Prop, H21 (World.drew w14) ∧ (ixS 5 x0 (gv l12 0) fun t22 => ldS (some 5) t22 H21 fun t23 => ixS 5 x1 (gv l12 0) fun t24 => ldS (some 5) t24 H21 fun t25 => pu PG (binV .neq T.t_api_Ins false t23 t25) fun t26 => condV t26 (R (.returned (.bool false)) (World.drew w14)) (pu PG (binV .add T.t_int true (gv l12 0) (.int .i64 1)) fun t28 => N13 [t28] (World.drew w14)))) (R (.returned (.bool true)) w14)) w)
theorem C_eq (R : Ending → World → Prop) (x0 x1 : Value) (w : World) : fnW PG note 400 Try.f27 [x0, x1] R w = C R x0 x1 w := by kernel_rfl
theorem ok {R : Ending → World → Prop} {x0 x1 : Value} {w : World} (h : C R x0 x1 w) : Calls PG N.slices_Equal_sl_api_Ins_api_Ins #[x0, x1] w R :=
  fnW_sound mixed Try.func27 (args := [x0, x1]) (by rw [C_eq]; exact h)
end slices_Equal_sl_api_Ins_api_Ins
namespace image_begins
theorem okf : okFn PG N.image_begins = true := by kernel_rfl
def note : Note := ⟨[], []⟩
def C (R : Ending → World → Prop) (w : World) : Prop :=
  alW (zc PG T.t_4_uint8) T.t_4_uint8 (fun t2 w3 => pu PG (Instr.build T.t_4_uint8 #[(0, (.int .u8 108)), (1, (.int .u8 105)), (2, (.int .u8 110)), (3, (.int .u8 101))]) fun t5 => stW 4 t2 t5 (fun w6 => ldW (some 4) t2 w6 fun t7 => R (.returned t7) w6) w3) w
theorem C_eq (R : Ending → World → Prop) (w : World) : fnW PG note 400 Try.f28 [] R w = C R  w := by kernel_rfl
theorem ok {R : Ending → World → Prop} {w : World} (h : C R  w) : Calls PG N.image_begins #[] w R :=
  fnW_sound mixed Try.func28 (args := []) (by rw [C_eq]; exact h)
end image_begins
namespace image_writer_byte
theorem okf : okFn PG N.image_writer_byte = true := by kernel_rfl
def note : Note := ⟨[], []⟩
def C (R : Ending → World → Prop) (x0 x1 : Value) (w : World) : Prop :=
  pu PG (convert T.t_int T.t_uint64 x1) fun t1 => callW PG N.image_writer_number [x0, t1, (.int .i64 1)] (fun t2 w3 => R (.returned (.tuple #[])) w3) (fun c w => R (.panicked c) w) w
theorem C_eq (R : Ending → World → Prop) (x0 x1 : Value) (w : World) : fnW PG note 400 Try.f29 [x0, x1] R w = C R x0 x1 w := by kernel_rfl
theorem ok {R : Ending → World → Prop} {x0 x1 : Value} {w : World} (h : C R x0 x1 w) : Calls PG N.image_writer_byte #[x0, x1] w R :=
  fnW_sound mixed Try.func29 (args := [x0, x1]) (by rw [C_eq]; exact h)
end image_writer_byte
namespace image_each_int
theorem okf : okFn PG N.image_each_int = true := by kernel_rfl
def note : Note := ⟨[(0, [8])], []⟩
def C (R : Ending → World → Prop) (x0 x1 : Value) (w : World) : Prop :=
  lnS x1 fun t2 => LoopW [(.int .i64 0)] (fun l4 N5 w6 => ∀ j3 : S, pu PG (binV .lss T.t_int false (gv l4 0) t2) fun t8 => condV t8 (ixS 1 x1 (gv l4 0) fun t12 => ldW none t12 w6 fun t13 => callV PG x0 [t13] (fun t14 w15 => pu PG (binV .add T.t_int true (gv l4 0) (.int .i64 1)) fun t16 => N5 [t16] w15) (fun c w => R (.panicked c) w) w6) (R (.returned (.tuple #[])) w6)) w
theorem C_eq (R : Ending → World → Prop) (x0 x1 : Value) (w : World) : fnW PG note 400 Try.f30 [x0, x1] R w = C R x0 x1 w := by kernel_rfl
theorem ok {R : Ending → World → Prop} {x0 x1 : Value} {w : World} (h : C R x0 x1 w) : Calls PG N.image_each_int #[x0, x1] w R :=
  fnW_sound mixed Try.func30 (args := [x0, x1]) (by rw [C_eq]; exact h)
end image_each_int
namespace image_writer_number
theorem okf : okFn PG N.image_writer_number = true := by kernel_rfl
def note : Note := ⟨[], []⟩
def C (R : Ending → World → Prop) (x0 x1 x2 : Value) (w : World) : Prop :=
  callW PG N.octet_Fixed [x1, x2] (fun t2 w3 => exW 0 t2 fun t4 => exW 1 t2 fun t5 => nlW x0 fun t6 => faW 0 t6 fun t7 => ldW none t7 w3 fun t8 => opW PG (Builtin.append_ #[T.t_sl_uint8, T.t_sl_uint8] T.t_sl_uint8 #[t8, t4]) (fun t9 w10 => nlW x0 fun t11 => faW 0 t11 fun t12 => stW 1 t12 t9 (fun w13 => R (.returned (.tuple #[])) w13) w10) w3) (fun c w => R (.panicked c) w) w
theorem C_eq (R : Ending → World → Prop) (x0 x1 x2 : Value) (w : World) : fnW PG note 400 Try.f31 [x0, x1, x2] R w = C R x0 x1 x2 w := by kernel_rfl
theorem ok {R : Ending → World → Prop} {x0 x1 x2 : Value} {w : World} (h : C R x0 x1 x2 w) : Calls PG N.image_writer_number #[x0, x1, x2] w R :=
  fnW_sound mixed Try.func31 (args := [x0, x1, x2]) (by rw [C_eq]; exact h)
end image_writer_number
namespace instr_Bytes
theorem okf : okFn PG N.instr_Bytes = true := by kernel_rfl
def note : Note := ⟨[(0, [5, 23])], []⟩
def C (R : Ending → World → Prop) (x0 : Value) (w : World) : Prop :=
  alW (Value.cells x0) T.t_api_Ins (fun t2 w3 => ldW (some 5) t2 w3 fun t6 => callW PG N.instr_Check [t6] (fun t7 w8 => pu PG (binV .neq T.t_api_Errno true t7 (.int .i64 0)) fun t10 => condV t10 (R (.returned (.tuple #[(.slice none 0 0), t7])) w8) (faW 0 t2 fun t13 => ldW none t13 w8 fun t14 => pu PG (convert T.t_api_Op T.t_uint8 t14) fun t15 => bsW T.t_uint8 1 (bsC PG T.t_uint8 1 [(0, t15)]) (fun t16 w17 => faW 0 t2 fun t20 => ldW none t20 w17 fun t21 => callW PG N.instr_named [t21] (fun t22 w23 => lnS t22 fun t24 => LoopW [t16, (.int .i64 0)] (fun l26 N27 w28 => ∀ j25 : S, pu PG (binV .lss T.t_int false (gv l26 1) t24) fun t30 => condV t30 (ixS 4 t22 (gv l26 1) fun t34 => ldW (some 4) t34 w28 fun t35 => alW (zc PG T.t_instr_part) T.t_instr_part (fun t36 w37 => stW 4 t36 t35 (fun w38 => ∃ H40 : World → Prop, H40 (World.drew w38) ∧ (faW 2 t36 fun t41 => ldS none t41 H40 fun t42 => ldS (some 5) t2 H40 fun t43 => faW 0 t36 fun t44 => ldS none t44 H40 fun t45 => callV PG t42 [t43] (fun t46 w47 => H40 w47 ∧ (callW PG N.octet_Fixed [t46, t45] (fun t48 w49 => exW 0 t48 fun t50 => exW 1 t48 fun t51 => opW PG (Builtin.append_ #[T.t_sl_uint8, T.t_sl_uint8] T.t_sl_uint8 #[(gv l26 0), t50]) (fun t54 w55 => pu PG (binV .add T.t_int true (gv l26 1) (.int .i64 1)) fun t56 => N27 [t54, t56] w55) w49) (fun c w => ∀ s52 : S, R (.panicked c) w) w47)) (fun c w => ∀ s53 : S, R (.panicked c) w) (World.drew w38))) w37) w28) (R (.returned (.tuple #[(gv l26 0), (.int .i64 0)])) w28)) w23) (fun c w => R (.panicked c) w) w17) w8)) (fun c w => R (.panicked c) w) w3) w
theorem C_eq (R : Ending → World → Prop) (x0 : Value) (w : World) : fnW PG note 400 Try.f32 [x0] R w = C R x0 w := by kernel_rfl
theorem ok {R : Ending → World → Prop} {x0 : Value} {w : World} (h : C R x0 w) : Calls PG N.instr_Bytes #[x0] w R :=
  fnW_sound mixed Try.func32 (args := [x0]) (by rw [C_eq]; exact h)
end instr_Bytes
namespace digest_Of
theorem okf : okFn PG N.digest_Of = true := by kernel_rfl
def note : Note := ⟨[], []⟩
def C (R : Ending → World → Prop) (x0 : Value) (w : World) : Prop :=
  callW PG N.digest_New [] (fun t3 w4 => callW PG N.digest_Digest_Write [t3, x0] (fun t6 w7 => callW PG N.digest_Digest_Sum [t3] (fun t9 w10 => R (.returned t9) w10) (fun c w => R (.panicked c) w) w7) (fun c w => R (.panicked c) w) w4) (fun c w => R (.panicked c) w) w
theorem C_eq (R : Ending → World → Prop) (x0 : Value) (w : World) : fnW PG note 400 Try.f33 [x0] R w = C R x0 w := by kernel_rfl
theorem ok {R : Ending → World → Prop} {x0 : Value} {w : World} (h : C R x0 w) : Calls PG N.digest_Of #[x0] w R :=
  fnW_sound mixed Try.func33 (args := [x0]) (by rw [C_eq]; exact h)
end digest_Of
namespace image_first
theorem okf : okFn PG N.image_first = true := by kernel_rfl
def note : Note := ⟨[], []⟩
def C (R : Ending → World → Prop) (x0 : Value) (w : World) : Prop :=
  alW (zc PG T.t_api_Program) T.t_api_Program (fun t2 w3 => alW (zc PG T.t_int) T.t_int (fun t4 w5 => alW (zc PG T.t_api_Errno) T.t_api_Errno (fun t6 w7 => pu PG (Instr.build T.t_image_tape #[(0, x0)]) fun t10 => pu PG (Instr.build T.t_image_reader #[(0, t10)]) fun t11 => alW (Value.cells t11) T.t_image_reader (fun t12 w13 => callW PG N.image_reader_program [t12] (fun t15 w16 => stW 4 t2 t15 (fun w17 => ∃ H23 : World → Prop, H23 (World.drew w17) ∧ (ldS (some 4) t2 H23 fun t24 => nlW t12 fun t25 => faW 1 t25 fun t26 => ldS none t26 H23 fun t27 => stW 4 t2 t24 (fun w28 => H23 w28 ∧ (stW 1 t4 t27 (fun w29 => stW 1 t6 (.int .i64 0) (fun w30 => LvW PG ({ target := .fn (.func N.image_caught) #[], args := #[t6, (.func (.func N.image_first_1) #[] #[t2, t4])] } :: []) .returning w30 (endV (fun w31 => ldW (some 4) t2 w31 fun t32 => ldW none t4 w31 fun t33 => ldW none t6 w31 fun t34 => R (.returned (.tuple #[t32, t33, t34])) w31) R)) w29) w28)) (World.drew w17))) w16) (fun c w => LvW PG ({ target := .fn (.func N.image_caught) #[], args := #[t6, (.func (.func N.image_first_1) #[] #[t2, t4])] } :: []) (.panicking c) w (endV (fun w18 => ldW (some 4) t2 w18 fun t19 => ldW none t4 w18 fun t20 => ldW none t6 w18 fun t21 => R (.returned (.tuple #[t19, t20, t21])) w18) R)) w13) w7) w5) w3) w
theorem C_eq (R : Ending → World → Prop) (x0 : Value) (w : World) : fnW PG note 400 Try.f34 [x0] R w = C R x0 w := by kernel_rfl
theorem ok {R : Ending → World → Prop} {x0 : Value} {w : World} (h : C R x0 w) : Calls PG N.image_first #[x0] w R :=
  fnW_sound mixed Try.func34 (args := [x0]) (by rw [C_eq]; exact h)
end image_first
namespace program_numbers
theorem okf : okFn PG N.program_numbers = true := by kernel_rfl
def note : Note := ⟨[(0, [3, 23])], []⟩
def C (R : Ending → World → Prop) (x0 : Value) (w : World) : Prop :=
  alW (Value.cells x0) T.t_api_Program (fun t2 w3 => faW 0 t2 fun t5 => ldW none t5 w3 fun t6 => lnS t6 fun t7 => pu PG (Instr.build T.t_program_bound #[(0, t7), (1, (.int .i64 1)), (2, (.int .i64 32))]) fun t8 => faW 1 t2 fun t9 => ldW none t9 w3 fun t10 => pu PG (Instr.build T.t_program_bound #[(0, t10), (1, (.int .i64 0)), (2, (.int .i64 64))]) fun t11 => faW 2 t2 fun t12 => ldW none t12 w3 fun t13 => pu PG (Instr.build T.t_program_bound #[(0, t13), (1, (.int .i64 0)), (2, (.int .i64 64))]) fun t14 => faW 3 t2 fun t15 => ldW none t15 w3 fun t16 => pu PG (Instr.build T.t_program_bound #[(0, t16), (1, (.int .i64 0)), (2, (.int .i64 64))]) fun t17 => bsW T.t_program_bound 4 (bsC PG T.t_program_bound 4 [(0, t8), (1, t11), (2, t14), (3, t17)]) (fun t18 w19 => faW 0 t2 fun t22 => ldW none t22 w19 fun t23 => lnS t23 fun t24 => LoopW [t18, (.int .i64 0)] (fun l26 N27 w28 => ∀ j25 : S, pu PG (binV .lss T.t_int false (gv l26 1) t24) fun t30 => condV t30 (ixS 2 t23 (gv l26 1) fun t34 => ldW (some 2) t34 w28 fun t35 => alW (zc PG T.t_api_Func) T.t_api_Func (fun t36 w37 => stW 2 t36 t35 (fun w38 => faW 0 t36 fun t39 => ldW none t39 w38 fun t40 => pu PG (Instr.build T.t_program_bound #[(0, t40), (1, (.int .i64 1)), (2, (.int .i64 16))]) fun t41 => faW 1 t36 fun t42 => ldW none t42 w38 fun t43 => lnS t43 fun t44 => pu PG (Instr.build T.t_program_bound #[(0, t44), (1, (.int .i64 1)), (2, (.int .i64 512))]) fun t45 => bsW T.t_program_bound 2 (bsC PG T.t_program_bound 2 [(0, t41), (1, t45)]) (fun t46 w47 => opW PG (Builtin.append_ #[T.t_sl_program_bound, T.t_sl_program_bound] T.t_sl_program_bound #[(gv l26 0), t46]) (fun t48 w49 => pu PG (binV .add T.t_int true (gv l26 1) (.int .i64 1)) fun t50 => N27 [t48, t50] w49) w47) w38) w37) w28) (callW PG N.program_within [(gv l26 0)] (fun t52 w53 => R (.returned t52) w53) (fun c w => R (.panicked c) w) w28)) w19) w3) w
theorem C_eq (R : Ending → World → Prop) (x0 : Value) (w : World) : fnW PG note 400 Try.f35 [x0] R w = C R x0 w := by kernel_rfl
theorem ok {R : Ending → World → Prop} {x0 : Value} {w : World} (h : C R x0 w) : Calls PG N.program_numbers #[x0] w R :=
  fnW_sound mixed Try.func35 (args := [x0]) (by rw [C_eq]; exact h)
end program_numbers
namespace program_every
theorem okf : okFn PG N.program_every = true := by kernel_rfl
def note : Note := ⟨[], []⟩
def C (R : Ending → World → Prop) (x0 : Value) (w : World) : Prop :=
  alW (Value.cells x0) T.t_api_Program (fun t2 w3 => R (.returned (.func (.func N.program_every_1) #[] #[t2])) w3) w
theorem C_eq (R : Ending → World → Prop) (x0 : Value) (w : World) : fnW PG note 400 Try.f36 [x0] R w = C R x0 w := by kernel_rfl
theorem ok {R : Ending → World → Prop} {x0 : Value} {w : World} (h : C R x0 w) : Calls PG N.program_every #[x0] w R :=
  fnW_sound mixed Try.func36 (args := [x0]) (by rw [C_eq]; exact h)
end program_every
namespace program_place_fine
theorem okf : okFn PG N.program_place_fine = true := by kernel_rfl
def note : Note := ⟨[(0, [14])], []⟩
def C (R : Ending → World → Prop) (x0 : Value) (w : World) : Prop :=
  alW (Value.cells x0) T.t_program_place (fun t2 w3 => ldW (some 7) t2 w3 fun t6 => ldW (some 7) t2 w3 fun t7 => ldW (some 7) t2 w3 fun t8 => ldW (some 7) t2 w3 fun t9 => pu PG (Instr.build T.t_4_func_bool #[(0, (.func (.func N.program_place_fits) #[t6] #[])), (1, (.func (.func N.program_place_jumps) #[t7] #[])), (2, (.func (.func N.program_place_calls) #[t8] #[])), (3, (.func (.func N.program_place_ends) #[t9] #[]))]) fun t10 => LoopW [(.int .i64 0)] (fun l12 N13 w14 => ∀ j11 : S, pu PG (binV .lss T.t_int true (gv l12 0) (.int .i64 4)) fun t16 => condV t16 (ixV 4 1 false t10 (gv l12 0) fun t20 => callV PG t20 [] (fun t22 w23 => pu PG (Op.unary .not t22) fun t24 => condV t24 (R (.returned (.bool false)) w23) (pu PG (binV .add T.t_int true (gv l12 0) (.int .i64 1)) fun t26 => N13 [t26] w23)) (fun c w => R (.panicked c) w) w14) (R (.returned (.bool true)) w14)) w3) w
theorem C_eq (R : Ending → World → Prop) (x0 : Value) (w : World) : fnW PG note 400 Try.f37 [x0] R w = C R x0 w := by kernel_rfl
theorem ok {R : Ending → World → Prop} {x0 : Value} {w : World} (h : C R x0 w) : Calls PG N.program_place_fine #[x0] w R :=
  fnW_sound mixed Try.func37 (args := [x0]) (by rw [C_eq]; exact h)
end program_place_fine
namespace octet_Fixed
theorem okf : okFn PG N.octet_Fixed = true := by kernel_rfl
def note : Note := ⟨[(0, [4, 20])], []⟩
def C (R : Ending → World → Prop) (x0 x1 : Value) (w : World) : Prop :=
  callW PG N.octet_right [x1] (fun t5 w6 => pu PG (Op.unary .not t5) fun t7 => condV t7 (R (.returned (.tuple #[(.slice none 0 0), (.int .i64 2)])) w6) (pu PG (binV .lss T.t_int true x1 (.int .i64 8)) fun t13 => condV t13 (pu PG (binV .mul T.t_int true (.int .i64 8) x1) fun t14 => pu PG (binV .shr T.t_uint64 false x0 t14) fun t15 => pu PG (binV .gtr T.t_uint64 true t15 (.int .u64 0)) fun t16 => condV t16 (R (.returned (.tuple #[(.slice none 0 0), (.int .i64 4)])) w6) (LoopW [(.slice none 0 0), (.int .i64 0)] (fun l22 N23 w24 => ∀ j21 : S, pu PG (binV .lss T.t_int false (gv l22 1) x1) fun t26 => condV t26 (pu PG (binV .mul T.t_int true (.int .i64 8) (gv l22 1)) fun t30 => pu PG (binV .shr T.t_uint64 false x0 t30) fun t31 => pu PG (convert T.t_uint64 T.t_uint8 t31) fun t32 => bsW T.t_uint8 1 (bsC PG T.t_uint8 1 [(0, t32)]) (fun t33 w34 => opW PG (Builtin.append_ #[T.t_sl_uint8, T.t_sl_uint8] T.t_sl_uint8 #[(gv l22 0), t33]) (fun t35 w36 => pu PG (binV .add T.t_int true (gv l22 1) (.int .i64 1)) fun t37 => N23 [t35, t37] w36) w34) w24) (R (.returned (.tuple #[(gv l22 0), (.int .i64 0)])) w24)) w6)) (LoopW [(.slice none 0 0), (.int .i64 0)] (fun l43 N44 w45 => ∀ j42 : S, pu PG (binV .lss T.t_int false (gv l43 1) x1) fun t47 => condV t47 (pu PG (binV .mul T.t_int true (.int .i64 8) (gv l43 1)) fun t51 => pu PG (binV .shr T.t_uint64 false x0 t51) fun t52 => pu PG (convert T.t_uint64 T.t_uint8 t52) fun t53 => bsW T.t_uint8 1 (bsC PG T.t_uint8 1 [(0, t53)]) (fun t54 w55 => opW PG (Builtin.append_ #[T.t_sl_uint8, T.t_sl_uint8] T.t_sl_uint8 #[(gv l43 0), t54]) (fun t56 w57 => pu PG (binV .add T.t_int true (gv l43 1) (.int .i64 1)) fun t58 => N44 [t56, t58] w57) w55) w45) (R (.returned (.tuple #[(gv l43 0), (.int .i64 0)])) w45)) w6))) (fun c w => R (.panicked c) w) w
theorem C_eq (R : Ending → World → Prop) (x0 x1 : Value) (w : World) : fnW PG note 400 Try.f38 [x0, x1] R w = C R x0 x1 w := by kernel_rfl
theorem ok {R : Ending → World → Prop} {x0 x1 : Value} {w : World} (h : C R x0 x1 w) : Calls PG N.octet_Fixed #[x0, x1] w R :=
  fnW_sound mixed Try.func38 (args := [x0, x1]) (by rw [C_eq]; exact h)
end octet_Fixed
namespace instr_Check
theorem okf : okFn PG N.instr_Check = true := by kernel_rfl
def note : Note := ⟨[], []⟩
def C (R : Ending → World → Prop) (x0 : Value) (w : World) : Prop :=
  alW (Value.cells x0) T.t_api_Ins (fun t2 w3 => ldW (some 5) t2 w3 fun t6 => callW PG N.instr_right [t6] (fun t7 w8 => pu PG (Op.unary .not t7) fun t9 => condV t9 (R (.returned (.int .i64 2)) w8) (R (.returned (.int .i64 0)) w8)) (fun c w => R (.panicked c) w) w3) w
theorem C_eq (R : Ending → World → Prop) (x0 : Value) (w : World) : fnW PG note 400 Try.f39 [x0] R w = C R x0 w := by kernel_rfl
theorem ok {R : Ending → World → Prop} {x0 : Value} {w : World} (h : C R x0 w) : Calls PG N.instr_Check #[x0] w R :=
  fnW_sound mixed Try.func39 (args := [x0]) (by rw [C_eq]; exact h)
end instr_Check
namespace instr_named
theorem okf : okFn PG N.instr_named = true := by kernel_rfl
def note : Note := ⟨[], []⟩
def C (R : Ending → World → Prop) (x0 : Value) (w : World) : Prop :=
  callW PG N.instr_first [] (fun t3 w4 => bsW T.t_instr_part 1 (bsC PG T.t_instr_part 1 [(0, t3)]) (fun t5 w6 => callW PG N.instr_first [] (fun t7 w8 => callW PG N.instr_second [] (fun t9 w10 => bsW T.t_instr_part 2 (bsC PG T.t_instr_part 2 [(0, t7), (1, t9)]) (fun t11 w12 => opW PG (Instr.makeMap T.t_map_api_Op_sl_instr_part none) (fun t14 w15 => callW PG N.instr_first [] (fun t16 w17 => callW PG N.instr_imm [(.string (bs []))] (fun t18 w19 => bsW T.t_instr_part 2 (bsC PG T.t_instr_part 2 [(0, t16), (1, t18)]) (fun t20 w21 => opU PG (Instr.mapUpdate T.t_map_api_Op_sl_instr_part t14 (.int .i64 1) t20) (fun w22 => opU PG (Instr.mapUpdate T.t_map_api_Op_sl_instr_part t14 (.int .i64 2) t11) (fun w23 => callW PG N.instr_first [] (fun t24 w25 => callW PG N.instr_second [] (fun t26 w27 => callW PG N.instr_third [] (fun t28 w29 => callW PG N.instr_imm [(.string (bs [45]))] (fun t30 w31 => bsW T.t_instr_part 4 (bsC PG T.t_instr_part 4 [(0, t24), (1, t26), (2, t28), (3, t30)]) (fun t32 w33 => opU PG (Instr.mapUpdate T.t_map_api_Op_sl_instr_part t14 (.int .i64 3) t32) (fun w34 => callW PG N.instr_imm [(.string (bs []))] (fun t35 w36 => bsW T.t_instr_part 1 (bsC PG T.t_instr_part 1 [(0, t35)]) (fun t37 w38 => opU PG (Instr.mapUpdate T.t_map_api_Op_sl_instr_part t14 (.int .i64 4) t37) (fun w39 => callW PG N.instr_first [] (fun t40 w41 => callW PG N.instr_imm [(.string (bs []))] (fun t42 w43 => bsW T.t_instr_part 2 (bsC PG T.t_instr_part 2 [(0, t40), (1, t42)]) (fun t44 w45 => opU PG (Instr.mapUpdate T.t_map_api_Op_sl_instr_part t14 (.int .i64 5) t44) (fun w46 => opU PG (Instr.mapUpdate T.t_map_api_Op_sl_instr_part t14 (.int .i64 6) t11) (fun w47 => opU PG (Instr.mapUpdate T.t_map_api_Op_sl_instr_part t14 (.int .i64 7) t11) (fun w48 => callW PG N.instr_first [] (fun t49 w50 => callW PG N.instr_second [] (fun t51 w52 => callW PG N.instr_many [] (fun t53 w54 => callW PG N.instr_imm [(.string (bs [102]))] (fun t55 w56 => bsW T.t_instr_part 4 (bsC PG T.t_instr_part 4 [(0, t49), (1, t51), (2, t53), (3, t55)]) (fun t57 w58 => opU PG (Instr.mapUpdate T.t_map_api_Op_sl_instr_part t14 (.int .i64 8) t57) (fun w59 => opU PG (Instr.mapUpdate T.t_map_api_Op_sl_instr_part t14 (.int .i64 9) t5) (fun w60 => callW PG N.instr_second [] (fun t61 w62 => callW PG N.instr_many [] (fun t63 w64 => callW PG N.instr_imm [(.string (bs [102]))] (fun t65 w66 => bsW T.t_instr_part 3 (bsC PG T.t_instr_part 3 [(0, t61), (1, t63), (2, t65)]) (fun t67 w68 => opU PG (Instr.mapUpdate T.t_map_api_Op_sl_instr_part t14 (.int .i64 10) t67) (fun w69 => opU PG (Instr.mapUpdate T.t_map_api_Op_sl_instr_part t14 (.int .i64 11) t5) (fun w70 => opU PG (Instr.mapUpdate T.t_map_api_Op_sl_instr_part t14 (.int .i64 12) t5) (fun w71 => opU PG (Instr.mapUpdate T.t_map_api_Op_sl_instr_part t14 (.int .i64 13) t5) (fun w72 => opU PG (Instr.mapUpdate T.t_map_api_Op_sl_instr_part t14 (.int .i64 14) t5) (fun w73 => opU PG (Instr.mapUpdate T.t_map_api_Op_sl_instr_part t14 (.int .i64 15) t5) (fun w74 => opU PG (Instr.mapUpdate T.t_map_api_Op_sl_instr_part t14 (.int .i64 16) t5) (fun w75 => opU PG (Instr.mapUpdate T.t_map_api_Op_sl_instr_part t14 (.int .i64 17) t11) (fun w76 => opU PG (Instr.mapUpdate T.t_map_api_Op_sl_instr_part t14 (.int .i64 18) t5) (fun w77 => bsW T.t_instr_part 0 (bsC PG T.t_instr_part 0 []) (fun t78 w79 => opU PG (Instr.mapUpdate T.t_map_api_Op_sl_instr_part t14 (.int .i64 19) t78) (fun w80 => opW PG (Instr.lookup T.t_map_api_Op_sl_instr_part t14 x0 false) (fun t81 w82 => R (.returned t81) w82) w80) w79) w77) w76) w75) w74) w73) w72) w71) w70) w69) w68) w66) (fun c w => R (.panicked c) w) w64) (fun c w => R (.panicked c) w) w62) (fun c w => R (.panicked c) w) w60) w59) w58) w56) (fun c w => R (.panicked c) w) w54) (fun c w => R (.panicked c) w) w52) (fun c w => R (.panicked c) w) w50) (fun c w => R (.panicked c) w) w48) w47) w46) w45) w43) (fun c w => R (.panicked c) w) w41) (fun c w => R (.panicked c) w) w39) w38) w36) (fun c w => R (.panicked c) w) w34) w33) w31) (fun c w => R (.panicked c) w) w29) (fun c w => R (.panicked c) w) w27) (fun c w => R (.panicked c) w) w25) (fun c w => R (.panicked c) w) w23) w22) w21) w19) (fun c w => R (.panicked c) w) w17) (fun c w => R (.panicked c) w) w15) w12) w10) (fun c w => R (.panicked c) w) w8) (fun c w => R (.panicked c) w) w6) w4) (fun c w => R (.panicked c) w) w
theorem C_eq (R : Ending → World → Prop) (x0 : Value) (w : World) : fnW PG note 400 Try.f40 [x0] R w = C R x0 w := by kernel_rfl
theorem ok {R : Ending → World → Prop} {x0 : Value} {w : World} (h : C R x0 w) : Calls PG N.instr_named #[x0] w R :=
  fnW_sound mixed Try.func40 (args := [x0]) (by rw [C_eq]; exact h)
end instr_named
namespace digest_New
theorem okf : okFn PG N.digest_New = true := by kernel_rfl
def note : Note := ⟨[], []⟩
def C (R : Ending → World → Prop) (w : World) : Prop :=
  pu PG (Instr.build T.t_digest_Digest #[(1, (.int .u64 18446744073709551615)), (3, (.bool true))]) fun t3 => alW (Value.cells t3) T.t_digest_Digest (fun t4 w5 => nlW t4 fun t7 => faW 0 t7 fun t8 => callW PG N.digest_table_fill [t8] (fun t9 w10 => R (.returned t4) w10) (fun c w => R (.panicked c) w) w5) w
theorem C_eq (R : Ending → World → Prop) (w : World) : fnW PG note 400 Try.f41 [] R w = C R  w := by kernel_rfl
theorem ok {R : Ending → World → Prop} {w : World} (h : C R  w) : Calls PG N.digest_New #[] w R :=
  fnW_sound mixed Try.func41 (args := []) (by rw [C_eq]; exact h)
end digest_New
namespace digest_Digest_Write
theorem okf : okFn PG N.digest_Digest_Write = true := by kernel_rfl
def note : Note := ⟨[(0, [11])], []⟩
def C (R : Ending → World → Prop) (x0 x1 : Value) (w : World) : Prop :=
  callW PG N.digest_Digest_none [x0] (fun t4 w5 => condV t4 (R (.returned (.int .i64 1)) w5) (lnS x1 fun t9 => LoopW [(.int .i64 0)] (fun l11 N12 w13 => ∀ j10 : S, pu PG (binV .lss T.t_int false (gv l11 0) t9) fun t15 => condV t15 (ixS 1 x1 (gv l11 0) fun t19 => ldW none t19 w13 fun t20 => ∃ H21 : World → Prop, H21 (World.drew w13) ∧ (nlW x0 fun t22 => faW 256 t22 fun t23 => ldS none t23 H21 fun t24 => nlW x0 fun t25 => faW 0 t25 fun t26 => nlW x0 fun t27 => faW 257 t27 fun t28 => ldS none t28 H21 fun t29 => lnS t20 fun t30 => pu PG (binV .add T.t_int false t29 t30) fun t31 => callW PG N.digest_folded_uint64_byte [t24, t20, (.func (.func N.digest_table_step) #[t26] #[])] (fun t32 w33 => H21 w33 ∧ (nlW x0 fun t34 => faW 256 t34 fun t35 => stW 1 t35 t32 (fun w36 => nlW x0 fun t37 => faW 257 t37 fun t38 => stW 1 t38 t31 (fun w39 => pu PG (binV .add T.t_int true (gv l11 0) (.int .i64 1)) fun t41 => N12 [t41] w39) w36) w33)) (fun c w => ∀ s40 : S, R (.panicked c) w) (World.drew w13))) (R (.returned (.int .i64 0)) w13)) w5)) (fun c w => R (.panicked c) w) w
theorem C_eq (R : Ending → World → Prop) (x0 x1 : Value) (w : World) : fnW PG note 400 Try.f42 [x0, x1] R w = C R x0 x1 w := by kernel_rfl
theorem ok {R : Ending → World → Prop} {x0 x1 : Value} {w : World} (h : C R x0 x1 w) : Calls PG N.digest_Digest_Write #[x0, x1] w R :=
  fnW_sound mixed Try.func42 (args := [x0, x1]) (by rw [C_eq]; exact h)
end digest_Digest_Write
namespace digest_Digest_Sum
theorem okf : okFn PG N.digest_Digest_Sum = true := by kernel_rfl
def note : Note := ⟨[], []⟩
def C (R : Ending → World → Prop) (x0 : Value) (w : World) : Prop :=
  callW PG N.digest_Digest_none [x0] (fun t4 w5 => condV t4 (R (.returned (.int .u64 0)) w5) (nlW x0 fun t8 => faW 256 t8 fun t9 => ldW none t9 w5 fun t10 => pu PG (Op.unary .xor t10) fun t11 => R (.returned t11) w5)) (fun c w => R (.panicked c) w) w
theorem C_eq (R : Ending → World → Prop) (x0 : Value) (w : World) : fnW PG note 400 Try.f43 [x0] R w = C R x0 w := by kernel_rfl
theorem ok {R : Ending → World → Prop} {x0 : Value} {w : World} (h : C R x0 w) : Calls PG N.digest_Digest_Sum #[x0] w R :=
  fnW_sound mixed Try.func43 (args := [x0]) (by rw [C_eq]; exact h)
end digest_Digest_Sum
namespace image_first_1
theorem okf : okFn PG N.image_first_1 = true := by kernel_rfl
def note : Note := ⟨[], []⟩
def C (R : Ending → World → Prop) (x0 x1 : Value) (w : World) : Prop :=
  pu PG (Instr.build T.t_api_Program #[]) fun t1 => stW 4 x0 t1 (fun w2 => stW 1 x1 (.int .i64 0) (fun w3 => R (.returned (.tuple #[])) w3) w2) w
theorem C_eq (R : Ending → World → Prop) (x0 x1 : Value) (w : World) : fnW PG note 400 Try.f45 [x0, x1] R w = C R x0 x1 w := by kernel_rfl
theorem ok {R : Ending → World → Prop} {x0 x1 : Value} {w : World} (h : C R x0 x1 w) : Calls PG N.image_first_1 #[x0, x1] w R :=
  fnW_sound mixed Try.func45 (args := [x0, x1]) (by rw [C_eq]; exact h)
end image_first_1
namespace image_reader_program
theorem okf : okFn PG N.image_reader_program = true := by kernel_rfl
def note : Note := ⟨[(0, [10]), (2, [29]), (4, [36])], []⟩
def C (R : Ending → World → Prop) (x0 : Value) (w : World) : Prop :=
  alW (zc PG T.t_api_Program) T.t_api_Program (fun t2 w3 => callW PG N.image_begins [] (fun t6 w7 => LoopW [(.int .i64 0)] (fun l9 N10 w11 => ∀ j8 : S, pu PG (binV .lss T.t_int true (gv l9 0) (.int .i64 4)) fun t13 => condV t13 (ixV 4 1 false t6 (gv l9 0) fun t17 => callW PG N.image_reader_byte [x0] (fun t18 w19 => pu PG (convert T.t_uint8 T.t_int t17) fun t20 => pu PG (binV .eql T.t_int false t18 t20) fun t21 => callW PG N.image_must [t21, (.int .i64 200)] (fun t22 w23 => pu PG (binV .add T.t_int true (gv l9 0) (.int .i64 1)) fun t24 => N10 [t24] w23) (fun c w => R (.panicked c) w) w19) (fun c w => R (.panicked c) w) w11) (callW PG N.image_reader_byte [x0] (fun t26 w27 => callW PG N.image_reader_byte [x0] (fun t28 w29 => callW PG N.image_reader_byte [x0] (fun t30 w31 => pu PG (Instr.build T.t_api_Program #[(1, t26), (2, t28), (3, t30)]) fun t32 => alW (zc PG T.t_api_Program) T.t_api_Program (fun t33 w34 => stW 4 t33 t32 (fun w35 => callW PG N.image_reader_byte [x0] (fun t38 w39 => LoopW [(.int .i64 0)] (fun l41 N42 w43 => ∀ j40 : S, pu PG (binV .lss T.t_int false (gv l41 0) t38) fun t45 => condV t45 (callW PG N.image_reader_byte [x0] (fun t49 w50 => pu PG (Instr.build T.t_api_Func #[(0, t49)]) fun t51 => alW (zc PG T.t_api_Func) T.t_api_Func (fun t52 w53 => stW 2 t52 t51 (fun w54 => callW PG N.image_reader_number [x0, (.int .i64 2)] (fun t57 w58 => LoopW [(.int .u64 0)] (fun l60 N61 w62 => ∀ j59 : S, pu PG (binV .lss T.t_uint64 false (gv l60 0) t57) fun t64 => condV t64 (∃ H67 : World → Prop, H67 (World.drew w62) ∧ (faW 1 t52 fun t68 => ldS none t68 H67 fun t69 => callW PG N.image_reader_ins [x0] (fun t70 w71 => H67 w71 ∧ (bsW T.t_api_Ins 1 (bsC PG T.t_api_Ins 1 [(0, t70)]) (fun t72 w73 => H67 w73 ∧ (opW PG (Builtin.append_ #[T.t_sl_api_Ins, T.t_sl_api_Ins] T.t_sl_api_Ins #[t69, t72]) (fun t74 w75 => faW 1 t52 fun t76 => stW 1 t76 t74 (fun w77 => pu PG (binV .add T.t_uint64 true (gv l60 0) (.int .u64 1)) fun t79 => N61 [t79] w77) w75) w73)) w71)) (fun c w => ∀ s78 : S, R (.panicked c) w) (World.drew w62))) (faW 0 t33 fun t80 => ldW none t80 w62 fun t81 => ldW (some 2) t52 w62 fun t82 => bsW T.t_api_Func 1 (bsC PG T.t_api_Func 1 [(0, t82)]) (fun t83 w84 => opW PG (Builtin.append_ #[T.t_sl_api_Func, T.t_sl_api_Func] T.t_sl_api_Func #[t81, t83]) (fun t85 w86 => faW 0 t33 fun t87 => stW 1 t87 t85 (fun w88 => pu PG (binV .add T.t_int true (gv l41 0) (.int .i64 1)) fun t89 => N42 [t89] w88) w86) w84) w62)) w58) (fun c w => R (.panicked c) w) w54) w53) w50) (fun c w => R (.panicked c) w) w43) (nlW x0 fun t91 => faW 1 t91 fun t92 => ldW none t92 w43 fun t93 => callW PG N.image_reader_number [x0, (.int .i64 8)] (fun t95 w96 => nlW x0 fun t98 => faW 0 t98 fun t99 => faW 0 t99 fun t100 => ldW none t100 w96 fun t101 => pu PG (Instr.sliceAt T.t_sl_uint8 t101 none (some t93) none) fun t102 => bsW T.t_sl_uint8 1 (bsC PG T.t_sl_uint8 1 [(0, t102)]) (fun t103 w104 => callW PG N.digest_Of [t103] (fun t105 w106 => pu PG (binV .eql T.t_uint64 false t95 t105) fun t107 => condV t107 (ldW (some 4) t33 w106 fun t108 => callW PG N.program_Check [t108] (fun t109 w110 => pu PG (binV .eql T.t_api_Errno true t109 (.int .i64 0)) fun t111 => callW PG N.image_must [t111, (.int .i64 200)] (fun t112 w113 => ldW (some 4) t33 w113 fun t117 => stW 4 t2 t117 (fun w118 => ldW (some 4) t2 w118 fun t119 => R (.returned t119) w118) w113) (fun c w => R (.panicked c) w) w110) (fun c w => R (.panicked c) w) w106) (callW PG N.image_must [(.bool false), (.int .i64 200)] (fun t114 w115 => ldW (some 4) t33 w115 fun t121 => stW 4 t2 t121 (fun w122 => ldW (some 4) t2 w122 fun t123 => R (.returned t123) w122) w115) (fun c w => R (.panicked c) w) w106)) (fun c w => R (.panicked c) w) w104) w96) (fun c w => R (.panicked c) w) w43)) w39) (fun c w => R (.panicked c) w) w35) w34) w31) (fun c w => R (.panicked c) w) w29) (fun c w => R (.panicked c) w) w27) (fun c w => R (.panicked c) w) w11)) w7) (fun c w => R (.panicked c) w) w3) w
theorem C_eq (R : Ending → World → Prop) (x0 : Value) (w : World) : fnW PG note 400 Try.f46 [x0] R w = C R x0 w := by kernel_rfl
theorem ok {R : Ending → World → Prop} {x0 : Value} {w : World} (h : C R x0 w) : Calls PG N.image_reader_program #[x0] w R :=
  fnW_sound mixed Try.func46 (args := [x0]) (by rw [C_eq]; exact h)
end image_reader_program
namespace program_within
theorem okf : okFn PG N.program_within = true := by kernel_rfl
def note : Note := ⟨[], []⟩
def C (R : Ending → World → Prop) (x0 : Value) (w : World) : Prop :=
  callW PG N.program_all_program_bound [(.func (.func N.program_within_1) #[] #[]), x0] (fun t3 w4 => R (.returned t3) w4) (fun c w => R (.panicked c) w) w
theorem C_eq (R : Ending → World → Prop) (x0 : Value) (w : World) : fnW PG note 400 Try.f47 [x0] R w = C R x0 w := by kernel_rfl
theorem ok {R : Ending → World → Prop} {x0 : Value} {w : World} (h : C R x0 w) : Calls PG N.program_within #[x0] w R :=
  fnW_sound mixed Try.func47 (args := [x0]) (by rw [C_eq]; exact h)
end program_within
namespace program_every_1
theorem okf : okFn PG N.program_every_1 = true := by kernel_rfl
def note : Note := ⟨[(0, [9]), (2, [17])], []⟩
def C (R : Ending → World → Prop) (x0 x1 : Value) (w : World) : Prop :=
  faW 0 x1 fun t2 => ldW none t2 w fun t3 => lnS t3 fun t4 => LoopW [(.int .i64 0)] (fun l6 N7 w8 => ∀ j5 : S, pu PG (binV .lss T.t_int false (gv l6 0) t4) fun t10 => condV t10 (ixS 2 t3 (gv l6 0) fun t14 => ldW (some 2) t14 w8 fun t15 => alW (zc PG T.t_api_Func) T.t_api_Func (fun t16 w17 => stW 2 t16 t15 (fun w18 => faW 1 t16 fun t20 => ldW none t20 w18 fun t21 => lnS t21 fun t22 => LoopW [(.int .i64 0)] (fun l24 N25 w26 => ∀ j23 : S, pu PG (binV .lss T.t_int false (gv l24 0) t22) fun t28 => condV t28 (pu PG (Instr.build T.t_api_Site #[(0, (gv l6 0)), (1, (gv l24 0))]) fun t33 => ldW (some 2) t16 w26 fun t34 => ldW (some 4) x1 w26 fun t35 => pu PG (Instr.build T.t_program_place #[(0, t34), (1, t35), (2, (gv l24 0))]) fun t36 => callV PG x0 [t33, t36] (fun t37 w38 => pu PG (Op.unary .not t37) fun t39 => condV t39 (R (.returned (.tuple #[])) w38) (pu PG (binV .add T.t_int true (gv l24 0) (.int .i64 1)) fun t40 => N25 [t40] w38)) (fun c w => R (.panicked c) w) w26) (pu PG (binV .add T.t_int true (gv l6 0) (.int .i64 1)) fun t41 => N7 [t41] w26)) w18) w17) w8) (R (.returned (.tuple #[])) w8)) w
theorem C_eq (R : Ending → World → Prop) (x0 x1 : Value) (w : World) : fnW PG note 400 Try.f48 [x0, x1] R w = C R x0 x1 w := by kernel_rfl
theorem ok {R : Ending → World → Prop} {x0 x1 : Value} {w : World} (h : C R x0 x1 w) : Calls PG N.program_every_1 #[x0, x1] w R :=
  fnW_sound mixed Try.func48 (args := [x0, x1]) (by rw [C_eq]; exact h)
end program_every_1
namespace program_place_fits
theorem okf : okFn PG N.program_place_fits = true := by kernel_rfl
def note : Note := ⟨[], []⟩
def C (R : Ending → World → Prop) (x0 : Value) (w : World) : Prop :=
  alW (Value.cells x0) T.t_program_place (fun t2 w3 => ∃ H5 : World → Prop, H5 (World.drew w3) ∧ (ldS (some 7) t2 H5 fun t6 => callW PG N.program_place_ins [t6] (fun t7 w8 => H5 w8 ∧ (callW PG N.instr_Check [t7] (fun t9 w10 => H5 w10 ∧ (pu PG (binV .eql T.t_api_Errno true t9 (.int .i64 0)) fun t11 => condV t11 (ldS (some 7) t2 H5 fun t12 => faW 0 t2 fun t13 => faW 0 t13 fun t14 => ldS none t14 H5 fun t15 => callW PG N.program_place_ins [t12] (fun t16 w17 => H5 w17 ∧ (callW PG N.instr_Regs [t16] (fun t18 w19 => H5 w19 ∧ (pu PG (binV .leq T.t_int false t18 t15) fun t20 => R (.returned t20) w19)) (fun c w => ∀ s21 : S, R (.panicked c) w) w17)) (fun c w => ∀ s22 : S, R (.panicked c) w) w10) (R (.returned (.bool false)) w10))) (fun c w => ∀ s23 : S, R (.panicked c) w) w8)) (fun c w => ∀ s24 : S, R (.panicked c) w) (World.drew w3))) w
theorem C_eq (R : Ending → World → Prop) (x0 : Value) (w : World) : fnW PG note 400 Try.f49 [x0] R w = C R x0 w := by kernel_rfl
theorem ok {R : Ending → World → Prop} {x0 : Value} {w : World} (h : C R x0 w) : Calls PG N.program_place_fits #[x0] w R :=
  fnW_sound mixed Try.func49 (args := [x0]) (by rw [C_eq]; exact h)
end program_place_fits
namespace program_place_jumps
theorem okf : okFn PG N.program_place_jumps = true := by kernel_rfl
def note : Note := ⟨[], []⟩
def C (R : Ending → World → Prop) (x0 : Value) (w : World) : Prop :=
  alW (Value.cells x0) T.t_program_place (fun t2 w3 => ldW (some 7) t2 w3 fun t5 => callW PG N.program_place_ins [t5] (fun t6 w7 => ptW 0 none t6 fun t8 => ∃ H10 : World → Prop, H10 (World.drew w7) ∧ (pu PG (binV .neq T.t_api_Op true t8 (.int .i64 4)) fun t11 => condV t11 (pu PG (binV .neq T.t_api_Op true t8 (.int .i64 5)) fun t12 => condV t12 (R (.returned (.bool true)) (World.drew w7)) (ldS (some 7) t2 H10 fun t13 => faW 0 t2 fun t14 => faW 1 t14 fun t15 => ldS none t15 H10 fun t16 => lnS t16 fun t17 => callW PG N.program_place_ins [t13] (fun t18 w19 => H10 w19 ∧ (ptW 4 none t18 fun t20 => pu PG (convert T.t_uint32 T.t_int t20) fun t21 => pu PG (binV .lss T.t_int false t21 t17) fun t22 => R (.returned t22) w19)) (fun c w => ∀ s23 : S, R (.panicked c) w) (World.drew w7))) (ldS (some 7) t2 H10 fun t24 => faW 0 t2 fun t25 => faW 1 t25 fun t26 => ldS none t26 H10 fun t27 => lnS t27 fun t28 => callW PG N.program_place_ins [t24] (fun t29 w30 => H10 w30 ∧ (ptW 4 none t29 fun t31 => pu PG (convert T.t_uint32 T.t_int t31) fun t32 => pu PG (binV .lss T.t_int false t32 t28) fun t33 => R (.returned t33) w30)) (fun c w => ∀ s34 : S, R (.panicked c) w) (World.drew w7)))) (fun c w => R (.panicked c) w) w3) w
theorem C_eq (R : Ending → World → Prop) (x0 : Value) (w : World) : fnW PG note 400 Try.f50 [x0] R w = C R x0 w := by kernel_rfl
theorem ok {R : Ending → World → Prop} {x0 : Value} {w : World} (h : C R x0 w) : Calls PG N.program_place_jumps #[x0] w R :=
  fnW_sound mixed Try.func50 (args := [x0]) (by rw [C_eq]; exact h)
end program_place_jumps
namespace program_place_calls
theorem okf : okFn PG N.program_place_calls = true := by kernel_rfl
def note : Note := ⟨[], []⟩
def C (R : Ending → World → Prop) (x0 : Value) (w : World) : Prop :=
  alW (Value.cells x0) T.t_program_place (fun t2 w3 => ldW (some 7) t2 w3 fun t5 => callW PG N.program_place_ins [t5] (fun t6 w7 => alW (zc PG T.t_api_Ins) T.t_api_Ins (fun t8 w9 => stW 5 t8 t6 (fun w10 => faW 0 t8 fun t13 => ldW none t13 w10 fun t14 => pu PG (binV .neq T.t_api_Op true t14 (.int .i64 8)) fun t15 => condV t15 (faW 0 t8 fun t16 => ldW none t16 w10 fun t17 => pu PG (binV .neq T.t_api_Op true t17 (.int .i64 10)) fun t18 => condV t18 (R (.returned (.bool true)) w10) (∃ H21 : World → Prop, H21 (World.drew w10) ∧ (faW 4 t8 fun t22 => ldS none t22 H21 fun t23 => pu PG (convert T.t_uint32 T.t_int t23) fun t24 => faW 2 t2 fun t25 => faW 0 t25 fun t26 => ldS none t26 H21 fun t27 => lnS t27 fun t28 => pu PG (binV .lss T.t_int false t24 t28) fun t29 => condV t29 (faW 3 t8 fun t30 => ldS none t30 H21 fun t31 => faW 2 t2 fun t32 => faW 0 t32 fun t33 => ldS none t33 H21 fun t34 => faW 4 t8 fun t35 => ldS none t35 H21 fun t36 => ixS 2 t34 t36 fun t37 => faW 0 t37 fun t38 => ldS none t38 H21 fun t39 => pu PG (binV .leq T.t_int false t31 t39) fun t40 => R (.returned t40) (World.drew w10)) (R (.returned (.bool false)) (World.drew w10))))) (∃ H42 : World → Prop, H42 (World.drew w10) ∧ (faW 4 t8 fun t43 => ldS none t43 H42 fun t44 => pu PG (convert T.t_uint32 T.t_int t44) fun t45 => faW 2 t2 fun t46 => faW 0 t46 fun t47 => ldS none t47 H42 fun t48 => lnS t48 fun t49 => pu PG (binV .lss T.t_int false t45 t49) fun t50 => condV t50 (faW 3 t8 fun t51 => ldS none t51 H42 fun t52 => faW 2 t2 fun t53 => faW 0 t53 fun t54 => ldS none t54 H42 fun t55 => faW 4 t8 fun t56 => ldS none t56 H42 fun t57 => ixS 2 t55 t57 fun t58 => faW 0 t58 fun t59 => ldS none t59 H42 fun t60 => pu PG (binV .leq T.t_int false t52 t60) fun t61 => R (.returned t61) (World.drew w10)) (R (.returned (.bool false)) (World.drew w10))))) w9) w7) (fun c w => R (.panicked c) w) w3) w
theorem C_eq (R : Ending → World → Prop) (x0 : Value) (w : World) : fnW PG note 400 Try.f51 [x0] R w = C R x0 w := by kernel_rfl
theorem ok {R : Ending → World → Prop} {x0 : Value} {w : World} (h : C R x0 w) : Calls PG N.program_place_calls #[x0] w R :=
  fnW_sound mixed Try.func51 (args := [x0]) (by rw [C_eq]; exact h)
end program_place_calls
namespace program_place_ends
theorem okf : okFn PG N.program_place_ends = true := by kernel_rfl
def note : Note := ⟨[], []⟩
def C (R : Ending → World → Prop) (x0 : Value) (w : World) : Prop :=
  alW (Value.cells x0) T.t_program_place (fun t2 w3 => faW 6 t2 fun t5 => ldW none t5 w3 fun t6 => faW 0 t2 fun t7 => faW 1 t7 fun t8 => ldW none t8 w3 fun t9 => lnS t9 fun t10 => pu PG (binV .sub T.t_int true t10 (.int .i64 1)) fun t11 => pu PG (binV .lss T.t_int false t6 t11) fun t12 => condV t12 (R (.returned (.bool true)) w3) (ldW (some 7) t2 w3 fun t13 => callW PG N.program_place_ins [t13] (fun t14 w15 => callW PG N.instr_Leaves [t14] (fun t16 w17 => R (.returned t16) w17) (fun c w => R (.panicked c) w) w15) (fun c w => R (.panicked c) w) w3)) w
theorem C_eq (R : Ending → World → Prop) (x0 : Value) (w : World) : fnW PG note 400 Try.f52 [x0] R w = C R x0 w := by kernel_rfl
theorem ok {R : Ending → World → Prop} {x0 : Value} {w : World} (h : C R x0 w) : Calls PG N.program_place_ends #[x0] w R :=
  fnW_sound mixed Try.func52 (args := [x0]) (by rw [C_eq]; exact h)
end program_place_ends
namespace octet_right
theorem okf : okFn PG N.octet_right = true := by kernel_rfl
def note : Note := ⟨[], []⟩
def C (R : Ending → World → Prop) (x0 : Value) (w : World) : Prop :=
  callW PG N.octet_widths [] (fun t3 w4 => alW (zc PG T.t_4_int) T.t_4_int (fun t5 w6 => stW 4 t5 t3 (fun w7 => pu PG (Instr.sliceAt T.t_4_int t5 none none none) fun t9 => callW PG N.octet_among_int [x0, t9] (fun t10 w11 => R (.returned t10) w11) (fun c w => R (.panicked c) w) w7) w6) w4) (fun c w => R (.panicked c) w) w
theorem C_eq (R : Ending → World → Prop) (x0 : Value) (w : World) : fnW PG note 400 Try.f53 [x0] R w = C R x0 w := by kernel_rfl
theorem ok {R : Ending → World → Prop} {x0 : Value} {w : World} (h : C R x0 w) : Calls PG N.octet_right #[x0] w R :=
  fnW_sound mixed Try.func53 (args := [x0]) (by rw [C_eq]; exact h)
end octet_right
namespace instr_right
theorem okf : okFn PG N.instr_right = true := by kernel_rfl
def note : Note := ⟨[(0, [49])], []⟩
def C (R : Ending → World → Prop) (x0 : Value) (w : World) : Prop :=
  alW (Value.cells x0) T.t_api_Ins (fun t2 w3 => faW 0 t2 fun t6 => ldW none t6 w3 fun t7 => callW PG N.instr_is [t7] (fun t8 w9 => pu PG (Op.unary .not t8) fun t10 => condV t10 (R (.returned (.bool false)) w9) (faW 1 t2 fun t11 => ldW none t11 w9 fun t12 => pu PG (binV .lss T.t_int true t12 (.int .i64 0)) fun t13 => condV t13 (R (.returned (.bool false)) w9) (faW 2 t2 fun t14 => ldW none t14 w9 fun t15 => pu PG (binV .lss T.t_int true t15 (.int .i64 0)) fun t16 => condV t16 (R (.returned (.bool false)) w9) (faW 3 t2 fun t17 => ldW none t17 w9 fun t18 => pu PG (binV .lss T.t_int true t18 (.int .i64 0)) fun t19 => condV t19 (R (.returned (.bool false)) w9) (faW 1 t2 fun t20 => ldW none t20 w9 fun t21 => pu PG (binV .geq T.t_int true t21 (.int .i64 16)) fun t22 => condV t22 (R (.returned (.bool false)) w9) (faW 2 t2 fun t23 => ldW none t23 w9 fun t24 => pu PG (binV .geq T.t_int true t24 (.int .i64 16)) fun t25 => condV t25 (R (.returned (.bool false)) w9) (faW 3 t2 fun t26 => ldW none t26 w9 fun t27 => pu PG (binV .gtr T.t_int true t27 (.int .i64 16)) fun t28 => condV t28 (R (.returned (.bool false)) w9) (faW 0 t2 fun t37 => ldW none t37 w9 fun t38 => pu PG (Instr.build T.t_api_Ins #[(0, t38)]) fun t39 => alW (zc PG T.t_api_Ins) T.t_api_Ins (fun t40 w41 => stW 5 t40 t39 (fun w42 => faW 0 t2 fun t45 => ldW none t45 w42 fun t46 => callW PG N.instr_named [t46] (fun t47 w48 => lnS t47 fun t49 => LoopW [(.int .i64 0)] (fun l51 N52 w53 => ∀ j50 : S, pu PG (binV .lss T.t_int false (gv l51 0) t49) fun t55 => condV t55 (ixS 4 t47 (gv l51 0) fun t59 => ldW (some 4) t59 w53 fun t60 => alW (zc PG T.t_instr_part) T.t_instr_part (fun t61 w62 => stW 4 t61 t60 (fun w63 => ∃ H64 : World → Prop, H64 (World.drew w63) ∧ (faW 3 t61 fun t65 => ldS none t65 H64 fun t66 => faW 2 t61 fun t67 => ldS none t67 H64 fun t68 => ldS (some 5) t2 H64 fun t69 => callV PG t68 [t69] (fun t70 w71 => H64 w71 ∧ (callV PG t66 [t40, t70] (fun t72 w73 => pu PG (binV .add T.t_int true (gv l51 0) (.int .i64 1)) fun t76 => N52 [t76] w73) (fun c w => ∀ s74 : S, R (.panicked c) w) w71)) (fun c w => ∀ s75 : S, R (.panicked c) w) (World.drew w63))) w62) w53) (ldW (some 5) t40 w53 fun t79 => ldW (some 5) t2 w53 fun t80 => pu PG (binV .neq T.t_api_Ins false t79 t80) fun t81 => condV t81 (R (.returned (.bool false)) w53) (faW 0 t2 fun t84 => ldW none t84 w53 fun t85 => bsW T.t_api_Op 2 (bsC PG T.t_api_Op 2 [(0, (.int .i64 8)), (1, (.int .i64 10))]) (fun t86 w87 => callW PG N.instr_among_api_Op [t85, t86] (fun t88 w89 => condV t88 (faW 2 t2 fun t91 => ldW none t91 w89 fun t92 => faW 3 t2 fun t93 => ldW none t93 w89 fun t94 => pu PG (binV .add T.t_int false t92 t94) fun t95 => pu PG (binV .leq T.t_int true t95 (.int .i64 16)) fun t96 => condV t96 (faW 4 t2 fun t97 => ldW none t97 w89 fun t98 => pu PG (binV .lss T.t_uint32 true t98 (.int .u32 32)) fun t99 => R (.returned t99) w89) (R (.returned (.bool false)) w89)) (faW 0 t2 fun t101 => ldW none t101 w89 fun t102 => bsW T.t_api_Op 2 (bsC PG T.t_api_Op 2 [(0, (.int .i64 4)), (1, (.int .i64 5))]) (fun t103 w104 => callW PG N.instr_among_api_Op [t102, t103] (fun t105 w106 => condV t105 (faW 4 t2 fun t108 => ldW none t108 w106 fun t109 => pu PG (binV .lss T.t_uint32 true t109 (.int .u32 512)) fun t110 => R (.returned t110) w106) (faW 0 t2 fun t112 => ldW none t112 w106 fun t113 => pu PG (binV .eql T.t_api_Op true t113 (.int .i64 3)) fun t114 => condV t114 (faW 4 t2 fun t116 => ldW none t116 w106 fun t117 => pu PG (convert T.t_uint32 T.t_api_Arith t117) fun t118 => callW PG N.arith_Name [t118] (fun t119 w120 => exW 0 t119 fun t121 => exW 1 t119 fun t122 => pu PG (binV .eql T.t_api_Errno true t122 (.int .i64 0)) fun t124 => condV t124 (faW 3 t2 fun t125 => ldW none t125 w120 fun t126 => pu PG (binV .lss T.t_int true t126 (.int .i64 16)) fun t127 => R (.returned t127) w120) (R (.returned (.bool false)) w120)) (fun c w => R (.panicked c) w) w106) (R (.returned (.bool true)) w106))) (fun c w => R (.panicked c) w) w104) w89)) (fun c w => R (.panicked c) w) w87) w53))) w48) (fun c w => R (.panicked c) w) w42) w41) w9)))))))) (fun c w => R (.panicked c) w) w3) w
theorem C_eq (R : Ending → World → Prop) (x0 : Value) (w : World) : fnW PG note 400 Try.f54 [x0] R w = C R x0 w := by kernel_rfl
theorem ok {R : Ending → World → Prop} {x0 : Value} {w : World} (h : C R x0 w) : Calls PG N.instr_right #[x0] w R :=
  fnW_sound mixed Try.func54 (args := [x0]) (by rw [C_eq]; exact h)
end instr_right
namespace instr_first
theorem okf : okFn PG N.instr_first = true := by kernel_rfl
def note : Note := ⟨[], []⟩
def C (R : Ending → World → Prop) (w : World) : Prop :=
  alW (zc PG T.t_instr_part) T.t_instr_part (fun t2 w3 => pu PG (Instr.build T.t_instr_part #[(0, (.int .i64 1)), (1, (.string (bs [114]))), (2, (.func (.func N.instr_first_1) #[] #[])), (3, (.func (.func N.instr_first_2) #[] #[]))]) fun t5 => stW 4 t2 t5 (fun w6 => ldW (some 4) t2 w6 fun t7 => R (.returned t7) w6) w3) w
theorem C_eq (R : Ending → World → Prop) (w : World) : fnW PG note 400 Try.f55 [] R w = C R  w := by kernel_rfl
theorem ok {R : Ending → World → Prop} {w : World} (h : C R  w) : Calls PG N.instr_first #[] w R :=
  fnW_sound mixed Try.func55 (args := []) (by rw [C_eq]; exact h)
end instr_first
namespace instr_second
theorem okf : okFn PG N.instr_second = true := by kernel_rfl
def note : Note := ⟨[], []⟩
def C (R : Ending → World → Prop) (w : World) : Prop :=
  alW (zc PG T.t_instr_part) T.t_instr_part (fun t2 w3 => pu PG (Instr.build T.t_instr_part #[(0, (.int .i64 1)), (1, (.string (bs [114]))), (2, (.func (.func N.instr_second_1) #[] #[])), (3, (.func (.func N.instr_second_2) #[] #[]))]) fun t5 => stW 4 t2 t5 (fun w6 => ldW (some 4) t2 w6 fun t7 => R (.returned t7) w6) w3) w
theorem C_eq (R : Ending → World → Prop) (w : World) : fnW PG note 400 Try.f56 [] R w = C R  w := by kernel_rfl
theorem ok {R : Ending → World → Prop} {w : World} (h : C R  w) : Calls PG N.instr_second #[] w R :=
  fnW_sound mixed Try.func56 (args := []) (by rw [C_eq]; exact h)
end instr_second
namespace instr_imm
theorem okf : okFn PG N.instr_imm = true := by kernel_rfl
def note : Note := ⟨[], []⟩
def C (R : Ending → World → Prop) (x0 : Value) (w : World) : Prop :=
  alW (zc PG T.t_instr_part) T.t_instr_part (fun t2 w3 => pu PG (Instr.build T.t_instr_part #[(0, (.int .i64 4)), (1, x0), (2, (.func (.func N.instr_imm_1) #[] #[])), (3, (.func (.func N.instr_imm_2) #[] #[]))]) fun t5 => stW 4 t2 t5 (fun w6 => ldW (some 4) t2 w6 fun t7 => R (.returned t7) w6) w3) w
theorem C_eq (R : Ending → World → Prop) (x0 : Value) (w : World) : fnW PG note 400 Try.f57 [x0] R w = C R x0 w := by kernel_rfl
theorem ok {R : Ending → World → Prop} {x0 : Value} {w : World} (h : C R x0 w) : Calls PG N.instr_imm #[x0] w R :=
  fnW_sound mixed Try.func57 (args := [x0]) (by rw [C_eq]; exact h)
end instr_imm
namespace instr_third
theorem okf : okFn PG N.instr_third = true := by kernel_rfl
def note : Note := ⟨[], []⟩
def C (R : Ending → World → Prop) (w : World) : Prop :=
  alW (zc PG T.t_instr_part) T.t_instr_part (fun t2 w3 => pu PG (Instr.build T.t_instr_part #[(0, (.int .i64 1)), (1, (.string (bs [114]))), (2, (.func (.func N.instr_third_1) #[] #[])), (3, (.func (.func N.instr_third_2) #[] #[]))]) fun t5 => stW 4 t2 t5 (fun w6 => ldW (some 4) t2 w6 fun t7 => R (.returned t7) w6) w3) w
theorem C_eq (R : Ending → World → Prop) (w : World) : fnW PG note 400 Try.f58 [] R w = C R  w := by kernel_rfl
theorem ok {R : Ending → World → Prop} {w : World} (h : C R  w) : Calls PG N.instr_third #[] w R :=
  fnW_sound mixed Try.func58 (args := []) (by rw [C_eq]; exact h)
end instr_third
namespace instr_many
theorem okf : okFn PG N.instr_many = true := by kernel_rfl
def note : Note := ⟨[], []⟩
def C (R : Ending → World → Prop) (w : World) : Prop :=
  alW (zc PG T.t_instr_part) T.t_instr_part (fun t2 w3 => callW PG N.instr_third [] (fun t5 w6 => alW (zc PG T.t_instr_part) T.t_instr_part (fun t7 w8 => stW 4 t7 t5 (fun w9 => faW 1 t7 fun t11 => stW 1 t11 (.string (bs [])) (fun w12 => ldW (some 4) t7 w12 fun t14 => stW 4 t2 t14 (fun w15 => ldW (some 4) t2 w15 fun t16 => R (.returned t16) w15) w12) w9) w8) w6) (fun c w => R (.panicked c) w) w3) w
theorem C_eq (R : Ending → World → Prop) (w : World) : fnW PG note 400 Try.f59 [] R w = C R  w := by kernel_rfl
theorem ok {R : Ending → World → Prop} {w : World} (h : C R  w) : Calls PG N.instr_many #[] w R :=
  fnW_sound mixed Try.func59 (args := []) (by rw [C_eq]; exact h)
end instr_many
namespace digest_table_fill
theorem okf : okFn PG N.digest_table_fill = true := by kernel_rfl
def note : Note := ⟨[(0, [5]), (2, [3, 10])], []⟩
def C (R : Ending → World → Prop) (x0 : Value) (w : World) : Prop :=
  LoopW [(.int .i64 0)] (fun l3 N4 w5 => ∀ j2 : S, pu PG (binV .lss T.t_int true (gv l3 0) (.int .i64 256)) fun t7 => condV t7 (pu PG (convert T.t_int T.t_uint64 (gv l3 0)) fun t12 => LoopW [t12, (.int .i64 0)] (fun l16 N17 w18 => ∀ j15 : S, pu PG (binV .lss T.t_int true (gv l16 1) (.int .i64 8)) fun t20 => condV t20 (pu PG (binV .and T.t_uint64 true (gv l16 0) (.int .u64 1)) fun t24 => pu PG (binV .shr T.t_uint64 true (gv l16 0) (.int .u64 1)) fun t26 => pu PG (binV .eql T.t_uint64 true t24 (.int .u64 1)) fun t28 => condV t28 (pu PG (binV .xor T.t_uint64 true t26 (.int .u64 14514072000185962306)) fun t29 => pu PG (binV .add T.t_int true (gv l16 1) (.int .i64 1)) fun t30 => N17 [t29, t30] w18) (pu PG (binV .add T.t_int true (gv l16 1) (.int .i64 1)) fun t31 => N17 [t26, t31] w18)) (nlW x0 fun t32 => ixA 256 1 t32 (gv l3 0) fun t33 => stW 1 t33 (gv l16 0) (fun w34 => pu PG (binV .add T.t_int true (gv l3 0) (.int .i64 1)) fun t35 => N4 [t35] w34) w18)) w5) (R (.returned (.tuple #[])) w5)) w
theorem C_eq (R : Ending → World → Prop) (x0 : Value) (w : World) : fnW PG note 400 Try.f60 [x0] R w = C R x0 w := by kernel_rfl
theorem ok {R : Ending → World → Prop} {x0 : Value} {w : World} (h : C R x0 w) : Calls PG N.digest_table_fill #[x0] w R :=
  fnW_sound mixed Try.func60 (args := [x0]) (by rw [C_eq]; exact h)
end digest_table_fill
namespace digest_Digest_none
theorem okf : okFn PG N.digest_Digest_none = true := by kernel_rfl
def note : Note := ⟨[], []⟩
def C (R : Ending → World → Prop) (x0 : Value) (w : World) : Prop :=
  pu PG (binV .eql T.t_ptr_digest_Digest true x0 (.pointer none)) fun t3 => condV t3 (R (.returned (.bool true)) w) (nlW x0 fun t4 => faW 258 t4 fun t5 => ldW none t5 w fun t6 => pu PG (Op.unary .not t6) fun t7 => R (.returned t7) w)
theorem C_eq (R : Ending → World → Prop) (x0 : Value) (w : World) : fnW PG note 400 Try.f61 [x0] R w = C R x0 w := by kernel_rfl
theorem ok {R : Ending → World → Prop} {x0 : Value} {w : World} (h : C R x0 w) : Calls PG N.digest_Digest_none #[x0] w R :=
  fnW_sound mixed Try.func61 (args := [x0]) (by rw [C_eq]; exact h)
end digest_Digest_none
namespace digest_folded_uint64_byte
theorem okf : okFn PG N.digest_folded_uint64_byte = true := by kernel_rfl
def note : Note := ⟨[], [(0, [3, 5])]⟩
def rp0 : Array Tmp := #[10]
noncomputable def ra0 : Code := sub [1, 0, 1, 0, 0] (bodyOf Try.f62)
noncomputable def rb0 : Code := sub [1, 0, 1, 0, 1] (bodyOf Try.f62)
def C (R : Ending → World → Prop) (x0 x1 x2 : Value) (w : World) : Prop :=
  alW (Value.cells x0) T.t_uint64 (fun t2 w3 => alW (Value.cells x2) T.t_func_uint64_uint8_uint64 (fun t4 w5 => callW PG N.slices_Values_sl_byte_byte [x1] (fun t8 w9 => RangeW PG none 16 [(3, t2), (5, t4)] rp0 ra0 rb0 t8 (fun d10 w11 => ldW none t2 w11 fun t15 => LvW PG d10 .returning w11 (endV (fun w16 => R (.returned t15) w16) R)) (fun d10 w11 => LvW PG d10 .returning w11 (endV (fun w12 => R (.returned (.int .u64 0)) w12) R)) [] (fun c d10 w11 => LvW PG d10 (.panicking c) w11 (endV (fun w13 => R (.returned (.int .u64 0)) w13) R)) [] w9) (fun c w => R (.panicked c) w) w5) w3) w
theorem C_eq (R : Ending → World → Prop) (x0 x1 x2 : Value) (w : World) : fnW PG note 400 Try.f62 [x0, x1, x2] R w = C R x0 x1 x2 w := by kernel_rfl
theorem ok {R : Ending → World → Prop} {x0 x1 x2 : Value} {w : World} (h : C R x0 x1 x2 w) : Calls PG N.digest_folded_uint64_byte #[x0, x1, x2] w R :=
  fnW_sound mixed Try.func62 (args := [x0, x1, x2]) (by rw [C_eq]; exact h)
def Rd0 (l : Nat) (R : Value → World → Prop) (v3 v5 a0 : Value) (w : World) : Prop :=
  rBeg l (fun w17 => ldW none v5 w17 fun t18 => ldW none v3 w17 fun t19 => callV PG t18 [t19, a0] (fun t20 w21 => stW 1 v3 t20 (fun w22 => rEnd l none R w22) w21) (fun c w => False) w17) w
theorem Rd0_eq (l : Nat) (R : Value → World → Prop) (v3 v5 a0 : Value) (w : World) (u : S) : rndW PG note 16 400 l ra0 rb0 (pset [10] [a0] (ovrP [(3, v3), (5, v5)] u)) R w = Rd0 l R v3 v5 a0 w := by kernel_rfl
end digest_folded_uint64_byte
namespace digest_table_step
theorem okf : okFn PG N.digest_table_step = true := by kernel_rfl
def note : Note := ⟨[], []⟩
def C (R : Ending → World → Prop) (x0 x1 x2 : Value) (w : World) : Prop :=
  pu PG (convert T.t_uint64 T.t_uint8 x1) fun t3 => pu PG (binV .xor T.t_uint8 false t3 x2) fun t4 => nlW x0 fun t5 => ixA 256 1 t5 t4 fun t6 => ldW none t6 w fun t7 => pu PG (binV .shr T.t_uint64 true x1 (.int .u64 8)) fun t8 => pu PG (binV .xor T.t_uint64 false t7 t8) fun t9 => R (.returned t9) w
theorem C_eq (R : Ending → World → Prop) (x0 x1 x2 : Value) (w : World) : fnW PG note 400 Try.f63 [x0, x1, x2] R w = C R x0 x1 x2 w := by kernel_rfl
theorem ok {R : Ending → World → Prop} {x0 x1 x2 : Value} {w : World} (h : C R x0 x1 x2 w) : Calls PG N.digest_table_step #[x0, x1, x2] w R :=
  fnW_sound mixed Try.func63 (args := [x0, x1, x2]) (by rw [C_eq]; exact h)
end digest_table_step
namespace image_must
theorem okf : okFn PG N.image_must = true := by kernel_rfl
def note : Note := ⟨[], []⟩
def C (R : Ending → World → Prop) (x0 x1 : Value) (w : World) : Prop :=
  pu PG (Op.unary .not x0) fun t2 => condV t2 (R (.panicked [{ v := (.iface T.t_api_Errno x1), recovered := false }]) w) (R (.returned (.tuple #[])) w)
theorem C_eq (R : Ending → World → Prop) (x0 x1 : Value) (w : World) : fnW PG note 400 Try.f64 [x0, x1] R w = C R x0 x1 w := by kernel_rfl
theorem ok {R : Ending → World → Prop} {x0 x1 : Value} {w : World} (h : C R x0 x1 w) : Calls PG N.image_must #[x0, x1] w R :=
  fnW_sound mixed Try.func64 (args := [x0, x1]) (by rw [C_eq]; exact h)
end image_must
namespace image_reader_byte
theorem okf : okFn PG N.image_reader_byte = true := by kernel_rfl
def note : Note := ⟨[], []⟩
def C (R : Ending → World → Prop) (x0 : Value) (w : World) : Prop :=
  callW PG N.image_reader_number [x0, (.int .i64 1)] (fun t3 w4 => pu PG (convert T.t_uint64 T.t_int t3) fun t5 => R (.returned t5) w4) (fun c w => R (.panicked c) w) w
theorem C_eq (R : Ending → World → Prop) (x0 : Value) (w : World) : fnW PG note 400 Try.f65 [x0] R w = C R x0 w := by kernel_rfl
theorem ok {R : Ending → World → Prop} {x0 : Value} {w : World} (h : C R x0 w) : Calls PG N.image_reader_byte #[x0] w R :=
  fnW_sound mixed Try.func65 (args := [x0]) (by rw [C_eq]; exact h)
end image_reader_byte
namespace image_reader_number
theorem okf : okFn PG N.image_reader_number = true := by kernel_rfl
def note : Note := ⟨[], []⟩
def C (R : Ending → World → Prop) (x0 x1 : Value) (w : World) : Prop :=
  ∃ H3 : World → Prop, H3 (World.drew w) ∧ (nlW x0 fun t4 => faW 0 t4 fun t5 => ldS (some 1) t5 H3 fun t6 => nlW x0 fun t7 => faW 1 t7 fun t8 => ldS none t8 H3 fun t9 => callW PG N.image_tape_from [t6, t9] (fun t10 w11 => callW PG N.octet_ReadFixed [t10, x1] (fun t12 w13 => exW 0 t12 fun t14 => exW 1 t12 fun t15 => pu PG (binV .eql T.t_api_Errno true t15 (.int .i64 0)) fun t19 => callW PG N.image_must [t19, t15] (fun t20 w21 => nlW x0 fun t23 => faW 1 t23 fun t24 => ldW none t24 w21 fun t25 => pu PG (binV .add T.t_int false t25 x1) fun t26 => nlW x0 fun t27 => faW 1 t27 fun t28 => stW 1 t28 t26 (fun w29 => R (.returned t14) w29) w21) (fun c w => R (.panicked c) w) w13) (fun c w => ∀ s16 : S, R (.panicked c) w) w11) (fun c w => ∀ s17 : S, R (.panicked c) w) (World.drew w))
theorem C_eq (R : Ending → World → Prop) (x0 x1 : Value) (w : World) : fnW PG note 400 Try.f66 [x0, x1] R w = C R x0 x1 w := by kernel_rfl
theorem ok {R : Ending → World → Prop} {x0 x1 : Value} {w : World} (h : C R x0 x1 w) : Calls PG N.image_reader_number #[x0, x1] w R :=
  fnW_sound mixed Try.func66 (args := [x0, x1]) (by rw [C_eq]; exact h)
end image_reader_number
namespace image_reader_ins
theorem okf : okFn PG N.image_reader_ins = true := by kernel_rfl
def note : Note := ⟨[], []⟩
def C (R : Ending → World → Prop) (x0 : Value) (w : World) : Prop :=
  alW (zc PG T.t_api_Ins) T.t_api_Ins (fun t2 w3 => ∃ H5 : World → Prop, H5 (World.drew w3) ∧ (nlW x0 fun t6 => faW 0 t6 fun t7 => ldS (some 1) t7 H5 fun t8 => nlW x0 fun t9 => faW 1 t9 fun t10 => ldS none t10 H5 fun t11 => (callW PG N.image_tape_from [t8, t11] (fun t12 w13 => (callW PG N.instr_Read [t12] (fun t14 w15 => exW 0 t14 fun t16 => exW 1 t14 fun t17 => exW 2 t14 fun t18 => alW (zc PG T.t_api_Ins) T.t_api_Ins (fun t19 w20 => H5 w20 ∧ (stW 5 t19 t16 (fun w21 => pu PG (binV .neq T.t_api_Errno true t18 (.int .i64 180)) fun t46 => callW PG N.image_must [t46, (.int .i64 200)] (fun t47 w48 => pu PG (binV .eql T.t_api_Errno true t18 (.int .i64 0)) fun t50 => callW PG N.image_must [t50, t18] (fun t51 w52 => nlW x0 fun t54 => faW 1 t54 fun t55 => ldW none t55 w52 fun t56 => pu PG (binV .add T.t_int false t56 t17) fun t57 => nlW x0 fun t58 => faW 1 t58 fun t59 => stW 1 t59 t57 (fun w60 => ldW (some 5) t19 w60 fun t62 => stW 5 t2 t62 (fun w63 => ldW (some 5) t2 w63 fun t64 => R (.returned t64) w63) w60) w52) (fun c w => R (.panicked c) w) w48) (fun c w => R (.panicked c) w) w21) w20)) w15) (fun c w => ∀ s22 : S, R (.panicked c) w) w13) ∧ (alW (zc PG T.t_api_Ins) T.t_api_Ins (fun t23 w24 => H5 w24 ∧ (callW PG N.instr_Read [t12] (fun t25 w26 => exW 0 t25 fun t27 => exW 1 t25 fun t28 => exW 2 t25 fun t29 => stW 5 t23 t27 (fun w30 => pu PG (binV .neq T.t_api_Errno true t29 (.int .i64 180)) fun t66 => callW PG N.image_must [t66, (.int .i64 200)] (fun t67 w68 => pu PG (binV .eql T.t_api_Errno true t29 (.int .i64 0)) fun t70 => callW PG N.image_must [t70, t29] (fun t71 w72 => nlW x0 fun t74 => faW 1 t74 fun t75 => ldW none t75 w72 fun t76 => pu PG (binV .add T.t_int false t76 t28) fun t77 => nlW x0 fun t78 => faW 1 t78 fun t79 => stW 1 t79 t77 (fun w80 => ldW (some 5) t23 w80 fun t82 => stW 5 t2 t82 (fun w83 => ldW (some 5) t2 w83 fun t84 => R (.returned t84) w83) w80) w72) (fun c w => R (.panicked c) w) w68) (fun c w => R (.panicked c) w) w30) w26) (fun c w => ∀ s31 : S, R (.panicked c) w) w24)) w13)) (fun c w => ∀ s32 : S, R (.panicked c) w) (World.drew w3)) ∧ (alW (zc PG T.t_api_Ins) T.t_api_Ins (fun t33 w34 => H5 w34 ∧ (callW PG N.image_tape_from [t8, t11] (fun t35 w36 => callW PG N.instr_Read [t35] (fun t37 w38 => exW 0 t37 fun t39 => exW 1 t37 fun t40 => exW 2 t37 fun t41 => stW 5 t33 t39 (fun w42 => pu PG (binV .neq T.t_api_Errno true t41 (.int .i64 180)) fun t86 => callW PG N.image_must [t86, (.int .i64 200)] (fun t87 w88 => pu PG (binV .eql T.t_api_Errno true t41 (.int .i64 0)) fun t90 => callW PG N.image_must [t90, t41] (fun t91 w92 => nlW x0 fun t94 => faW 1 t94 fun t95 => ldW none t95 w92 fun t96 => pu PG (binV .add T.t_int false t96 t40) fun t97 => nlW x0 fun t98 => faW 1 t98 fun t99 => stW 1 t99 t97 (fun w100 => ldW (some 5) t33 w100 fun t102 => stW 5 t2 t102 (fun w103 => ldW (some 5) t2 w103 fun t104 => R (.returned t104) w103) w100) w92) (fun c w => R (.panicked c) w) w88) (fun c w => R (.panicked c) w) w42) w38) (fun c w => ∀ s43 : S, R (.panicked c) w) w36) (fun c w => ∀ s44 : S, R (.panicked c) w) w34)) (World.drew w3)))) w
theorem C_eq (R : Ending → World → Prop) (x0 : Value) (w : World) : fnW PG note 400 Try.f67 [x0] R w = C R x0 w := by kernel_rfl
theorem ok {R : Ending → World → Prop} {x0 : Value} {w : World} (h : C R x0 w) : Calls PG N.image_reader_ins #[x0] w R :=
  fnW_sound mixed Try.func67 (args := [x0]) (by rw [C_eq]; exact h)
end image_reader_ins
namespace program_all_program_bound
theorem okf : okFn PG N.program_all_program_bound = true := by kernel_rfl
def note : Note := ⟨[], []⟩
def C (R : Ending → World → Prop) (x0 x1 : Value) (w : World) : Prop :=
  alW (Value.cells x0) T.t_func_program_bound_bool_2 (fun t2 w3 => callW PG N.slices_ContainsFunc_sl_program_bound_program_bound [x1, (.func (.func N.program_all_program_bound_1) #[] #[t2])] (fun t5 w6 => pu PG (Op.unary .not t5) fun t7 => R (.returned t7) w6) (fun c w => R (.panicked c) w) w3) w
theorem C_eq (R : Ending → World → Prop) (x0 x1 : Value) (w : World) : fnW PG note 400 Try.f68 [x0, x1] R w = C R x0 x1 w := by kernel_rfl
theorem ok {R : Ending → World → Prop} {x0 x1 : Value} {w : World} (h : C R x0 x1 w) : Calls PG N.program_all_program_bound #[x0, x1] w R :=
  fnW_sound mixed Try.func68 (args := [x0, x1]) (by rw [C_eq]; exact h)
end program_all_program_bound
namespace program_within_1
theorem okf : okFn PG N.program_within_1 = true := by kernel_rfl
def note : Note := ⟨[], []⟩
def C (R : Ending → World → Prop) (x0 : Value) (w : World) : Prop :=
  alW (Value.cells x0) T.t_program_bound (fun t2 w3 => faW 1 t2 fun t5 => ldW none t5 w3 fun t6 => faW 0 t2 fun t7 => ldW none t7 w3 fun t8 => pu PG (binV .leq T.t_int false t6 t8) fun t9 => condV t9 (faW 0 t2 fun t10 => ldW none t10 w3 fun t11 => faW 2 t2 fun t12 => ldW none t12 w3 fun t13 => pu PG (binV .leq T.t_int false t11 t13) fun t14 => R (.returned t14) w3) (R (.returned (.bool false)) w3)) w
theorem C_eq (R : Ending → World → Prop) (x0 : Value) (w : World) : fnW PG note 400 Try.f69 [x0] R w = C R x0 w := by kernel_rfl
theorem ok {R : Ending → World → Prop} {x0 : Value} {w : World} (h : C R x0 w) : Calls PG N.program_within_1 #[x0] w R :=
  fnW_sound mixed Try.func69 (args := [x0]) (by rw [C_eq]; exact h)
end program_within_1
namespace program_place_ins
theorem okf : okFn PG N.program_place_ins = true := by kernel_rfl
def note : Note := ⟨[], []⟩
def C (R : Ending → World → Prop) (x0 : Value) (w : World) : Prop :=
  alW (Value.cells x0) T.t_program_place (fun t2 w3 => alW (zc PG T.t_api_Ins) T.t_api_Ins (fun t4 w5 => faW 0 t2 fun t7 => faW 1 t7 fun t8 => ldW none t8 w5 fun t9 => faW 6 t2 fun t10 => ldW none t10 w5 fun t11 => ixS 5 t9 t11 fun t12 => ldW (some 5) t12 w5 fun t13 => stW 5 t4 t13 (fun w14 => ldW (some 5) t4 w14 fun t15 => R (.returned t15) w14) w5) w3) w
theorem C_eq (R : Ending → World → Prop) (x0 : Value) (w : World) : fnW PG note 400 Try.f70 [x0] R w = C R x0 w := by kernel_rfl
theorem ok {R : Ending → World → Prop} {x0 : Value} {w : World} (h : C R x0 w) : Calls PG N.program_place_ins #[x0] w R :=
  fnW_sound mixed Try.func70 (args := [x0]) (by rw [C_eq]; exact h)
end program_place_ins
namespace instr_Regs
theorem okf : okFn PG N.instr_Regs = true := by kernel_rfl
def note : Note := ⟨[(0, [2, 12])], []⟩
def C (R : Ending → World → Prop) (x0 : Value) (w : World) : Prop :=
  alW (Value.cells x0) T.t_api_Ins (fun t2 w3 => ldW (some 5) t2 w3 fun t6 => callW PG N.instr_right [t6] (fun t7 w8 => pu PG (Op.unary .not t7) fun t9 => condV t9 (R (.returned (.int .i64 0)) w8) (faW 0 t2 fun t13 => ldW none t13 w8 fun t14 => callW PG N.instr_named [t14] (fun t15 w16 => lnS t15 fun t17 => LoopW [(.int .i64 0), (.int .i64 0)] (fun l19 N20 w21 => ∀ j18 : S, pu PG (binV .lss T.t_int false (gv l19 1) t17) fun t23 => condV t23 (ixS 4 t15 (gv l19 1) fun t27 => ldW (some 4) t27 w21 fun t28 => alW (zc PG T.t_instr_part) T.t_instr_part (fun t29 w30 => stW 4 t29 t28 (fun w31 => faW 1 t29 fun t33 => ldW none t33 w31 fun t34 => pu PG (binV .eql T.t_string true t34 (.string (bs [114]))) fun t35 => condV t35 (faW 2 t29 fun t36 => ldW none t36 w31 fun t37 => ldW (some 5) t2 w31 fun t38 => callV PG t37 [t38] (fun t39 w40 => pu PG (convert T.t_uint64 T.t_int t39) fun t41 => pu PG (binV .add T.t_int true t41 (.int .i64 1)) fun t42 => pu PG (Builtin.max_ #[T.t_int, T.t_int] 0 #[(gv l19 0), t42]) fun t43 => pu PG (binV .add T.t_int true (gv l19 1) (.int .i64 1)) fun t44 => N20 [t43, t44] w40) (fun c w => R (.panicked c) w) w31) (pu PG (binV .add T.t_int true (gv l19 1) (.int .i64 1)) fun t45 => N20 [(gv l19 0), t45] w31)) w30) w21) (faW 0 t2 fun t48 => ldW none t48 w21 fun t49 => bsW T.t_api_Op 2 (bsC PG T.t_api_Op 2 [(0, (.int .i64 8)), (1, (.int .i64 10))]) (fun t50 w51 => callW PG N.instr_among_api_Op [t49, t50] (fun t52 w53 => condV t52 (faW 2 t2 fun t54 => ldW none t54 w53 fun t55 => faW 3 t2 fun t56 => ldW none t56 w53 fun t57 => pu PG (binV .add T.t_int false t55 t57) fun t58 => pu PG (Builtin.max_ #[T.t_int, T.t_int] 0 #[(gv l19 0), t58]) fun t59 => R (.returned t59) w53) (R (.returned (gv l19 0)) w53)) (fun c w => R (.panicked c) w) w51) w21)) w16) (fun c w => R (.panicked c) w) w8)) (fun c w => R (.panicked c) w) w3) w
theorem C_eq (R : Ending → World → Prop) (x0 : Value) (w : World) : fnW PG note 400 Try.f71 [x0] R w = C R x0 w := by kernel_rfl
theorem ok {R : Ending → World → Prop} {x0 : Value} {w : World} (h : C R x0 w) : Calls PG N.instr_Regs #[x0] w R :=
  fnW_sound mixed Try.func71 (args := [x0]) (by rw [C_eq]; exact h)
end instr_Regs
namespace instr_Leaves
theorem okf : okFn PG N.instr_Leaves = true := by kernel_rfl
def note : Note := ⟨[], []⟩
def C (R : Ending → World → Prop) (x0 : Value) (w : World) : Prop :=
  alW (Value.cells x0) T.t_api_Ins (fun t2 w3 => ldW (some 5) t2 w3 fun t5 => callW PG N.instr_right [t5] (fun t6 w7 => condV t6 (faW 0 t2 fun t8 => ldW none t8 w7 fun t9 => bsW T.t_api_Op 2 (bsC PG T.t_api_Op 2 [(0, (.int .i64 4)), (1, (.int .i64 9))]) (fun t10 w11 => callW PG N.instr_among_api_Op [t9, t10] (fun t12 w13 => R (.returned t12) w13) (fun c w => R (.panicked c) w) w11) w7) (R (.returned (.bool false)) w7)) (fun c w => R (.panicked c) w) w3) w
theorem C_eq (R : Ending → World → Prop) (x0 : Value) (w : World) : fnW PG note 400 Try.f72 [x0] R w = C R x0 w := by kernel_rfl
theorem ok {R : Ending → World → Prop} {x0 : Value} {w : World} (h : C R x0 w) : Calls PG N.instr_Leaves #[x0] w R :=
  fnW_sound mixed Try.func72 (args := [x0]) (by rw [C_eq]; exact h)
end instr_Leaves
namespace octet_widths
theorem okf : okFn PG N.octet_widths = true := by kernel_rfl
def note : Note := ⟨[], []⟩
def C (R : Ending → World → Prop) (w : World) : Prop :=
  alW (zc PG T.t_4_int) T.t_4_int (fun t2 w3 => pu PG (Instr.build T.t_4_int #[(0, (.int .i64 1)), (1, (.int .i64 2)), (2, (.int .i64 4)), (3, (.int .i64 8))]) fun t5 => stW 4 t2 t5 (fun w6 => ldW (some 4) t2 w6 fun t7 => R (.returned t7) w6) w3) w
theorem C_eq (R : Ending → World → Prop) (w : World) : fnW PG note 400 Try.f73 [] R w = C R  w := by kernel_rfl
theorem ok {R : Ending → World → Prop} {w : World} (h : C R  w) : Calls PG N.octet_widths #[] w R :=
  fnW_sound mixed Try.func73 (args := []) (by rw [C_eq]; exact h)
end octet_widths
namespace octet_among_int
theorem okf : okFn PG N.octet_among_int = true := by kernel_rfl
def note : Note := ⟨[], []⟩
def C (R : Ending → World → Prop) (x0 x1 : Value) (w : World) : Prop :=
  callW PG N.slices_Contains_sl_int_int [x1, x0] (fun t3 w4 => R (.returned t3) w4) (fun c w => R (.panicked c) w) w
theorem C_eq (R : Ending → World → Prop) (x0 x1 : Value) (w : World) : fnW PG note 400 Try.f74 [x0, x1] R w = C R x0 x1 w := by kernel_rfl
theorem ok {R : Ending → World → Prop} {x0 x1 : Value} {w : World} (h : C R x0 x1 w) : Calls PG N.octet_among_int #[x0, x1] w R :=
  fnW_sound mixed Try.func74 (args := [x0, x1]) (by rw [C_eq]; exact h)
end octet_among_int
namespace instr_is
theorem okf : okFn PG N.instr_is = true := by kernel_rfl
def note : Note := ⟨[], []⟩
def C (R : Ending → World → Prop) (x0 : Value) (w : World) : Prop :=
  pu PG (binV .geq T.t_api_Op true x0 (.int .i64 1)) fun t3 => condV t3 (pu PG (binV .leq T.t_api_Op true x0 (.int .i64 19)) fun t4 => R (.returned t4) w) (R (.returned (.bool false)) w)
theorem C_eq (R : Ending → World → Prop) (x0 : Value) (w : World) : fnW PG note 400 Try.f75 [x0] R w = C R x0 w := by kernel_rfl
theorem ok {R : Ending → World → Prop} {x0 : Value} {w : World} (h : C R x0 w) : Calls PG N.instr_is #[x0] w R :=
  fnW_sound mixed Try.func75 (args := [x0]) (by rw [C_eq]; exact h)
end instr_is
namespace instr_among_api_Op
theorem okf : okFn PG N.instr_among_api_Op = true := by kernel_rfl
def note : Note := ⟨[], []⟩
def C (R : Ending → World → Prop) (x0 x1 : Value) (w : World) : Prop :=
  callW PG N.slices_Contains_sl_api_Op_api_Op [x1, x0] (fun t3 w4 => R (.returned t3) w4) (fun c w => R (.panicked c) w) w
theorem C_eq (R : Ending → World → Prop) (x0 x1 : Value) (w : World) : fnW PG note 400 Try.f76 [x0, x1] R w = C R x0 x1 w := by kernel_rfl
theorem ok {R : Ending → World → Prop} {x0 x1 : Value} {w : World} (h : C R x0 x1 w) : Calls PG N.instr_among_api_Op #[x0, x1] w R :=
  fnW_sound mixed Try.func76 (args := [x0, x1]) (by rw [C_eq]; exact h)
end instr_among_api_Op
namespace arith_Name
theorem okf : okFn PG N.arith_Name = true := by kernel_rfl
def note : Note := ⟨[], [(0, [1, 2, 3])]⟩
def rp0 : Array Tmp := #[7, 8]
noncomputable def ra0 : Code := sub [1, 0, 1, 0, 0] (bodyOf Try.f77)
noncomputable def rb0 : Code := sub [1, 0, 1, 0, 1] (bodyOf Try.f77)
def C (R : Ending → World → Prop) (x0 : Value) (w : World) : Prop :=
  alW (Value.cells x0) T.t_api_Arith (fun t2 w3 => alW (zc PG T.t_string) T.t_string (fun t4 w5 => alW (zc PG T.t_api_Errno) T.t_api_Errno (fun t6 w7 => callW PG N.arith_every [] (fun t10 w11 => RangeW PG none 13 [(1, t2), (2, t4), (3, t6)] rp0 ra0 rb0 t10 (fun d12 w13 => stW 1 t4 (.string (bs [])) (fun w21 => stW 1 t6 (.int .i64 2) (fun w22 => LvW PG d12 .returning w22 (endV (fun w23 => ldW none t4 w23 fun t24 => ldW none t6 w23 fun t25 => R (.returned (.tuple #[t24, t25])) w23) R)) w21) w13) (fun d12 w13 => LvW PG d12 .returning w13 (endV (fun w14 => ldW none t4 w14 fun t15 => ldW none t6 w14 fun t16 => R (.returned (.tuple #[t15, t16])) w14) R)) [] (fun c d12 w13 => LvW PG d12 (.panicking c) w13 (endV (fun w17 => ldW none t4 w17 fun t18 => ldW none t6 w17 fun t19 => R (.returned (.tuple #[t18, t19])) w17) R)) [] w11) (fun c w => R (.panicked c) w) w7) w5) w3) w
theorem C_eq (R : Ending → World → Prop) (x0 : Value) (w : World) : fnW PG note 400 Try.f77 [x0] R w = C R x0 w := by kernel_rfl
theorem ok {R : Ending → World → Prop} {x0 : Value} {w : World} (h : C R x0 w) : Calls PG N.arith_Name #[x0] w R :=
  fnW_sound mixed Try.func77 (args := [x0]) (by rw [C_eq]; exact h)
def Rd0 (l : Nat) (R : Value → World → Prop) (v1 v2 v3 a0 a1 : Value) (w : World) : Prop :=
  rBeg l (fun w27 => ldW none v1 w27 fun t29 => pu PG (binV .eql T.t_api_Arith false a0 t29) fun t30 => condV t30 (stW 1 v2 a1 (fun w32 => stW 1 v3 (.int .i64 0) (fun w33 => rEnd l (some .ret) R w33) w32) w27) (rEnd l none R w27)) w
theorem Rd0_eq (l : Nat) (R : Value → World → Prop) (v1 v2 v3 a0 a1 : Value) (w : World) (u : S) : rndW PG note 13 400 l ra0 rb0 (pset [7, 8] [a0, a1] (ovrP [(1, v1), (2, v2), (3, v3)] u)) R w = Rd0 l R v1 v2 v3 a0 a1 w := by kernel_rfl
end arith_Name
namespace instr_first_1
theorem okf : okFn PG N.instr_first_1 = true := by kernel_rfl
def note : Note := ⟨[], []⟩
def C (R : Ending → World → Prop) (x0 : Value) (w : World) : Prop :=
  alW (Value.cells x0) T.t_api_Ins (fun t2 w3 => faW 1 t2 fun t5 => ldW none t5 w3 fun t6 => pu PG (convert T.t_int T.t_uint64 t6) fun t7 => R (.returned t7) w3) w
theorem C_eq (R : Ending → World → Prop) (x0 : Value) (w : World) : fnW PG note 400 Try.f78 [x0] R w = C R x0 w := by kernel_rfl
theorem ok {R : Ending → World → Prop} {x0 : Value} {w : World} (h : C R x0 w) : Calls PG N.instr_first_1 #[x0] w R :=
  fnW_sound mixed Try.func78 (args := [x0]) (by rw [C_eq]; exact h)
end instr_first_1
namespace instr_first_2
theorem okf : okFn PG N.instr_first_2 = true := by kernel_rfl
def note : Note := ⟨[], []⟩
def C (R : Ending → World → Prop) (x0 x1 : Value) (w : World) : Prop :=
  pu PG (convert T.t_uint64 T.t_int x1) fun t1 => nlW x0 fun t2 => faW 1 t2 fun t3 => stW 1 t3 t1 (fun w4 => R (.returned (.tuple #[])) w4) w
theorem C_eq (R : Ending → World → Prop) (x0 x1 : Value) (w : World) : fnW PG note 400 Try.f79 [x0, x1] R w = C R x0 x1 w := by kernel_rfl
theorem ok {R : Ending → World → Prop} {x0 x1 : Value} {w : World} (h : C R x0 x1 w) : Calls PG N.instr_first_2 #[x0, x1] w R :=
  fnW_sound mixed Try.func79 (args := [x0, x1]) (by rw [C_eq]; exact h)
end instr_first_2
namespace instr_second_1
theorem okf : okFn PG N.instr_second_1 = true := by kernel_rfl
def note : Note := ⟨[], []⟩
def C (R : Ending → World → Prop) (x0 : Value) (w : World) : Prop :=
  alW (Value.cells x0) T.t_api_Ins (fun t2 w3 => faW 2 t2 fun t5 => ldW none t5 w3 fun t6 => pu PG (convert T.t_int T.t_uint64 t6) fun t7 => R (.returned t7) w3) w
theorem C_eq (R : Ending → World → Prop) (x0 : Value) (w : World) : fnW PG note 400 Try.f80 [x0] R w = C R x0 w := by kernel_rfl
theorem ok {R : Ending → World → Prop} {x0 : Value} {w : World} (h : C R x0 w) : Calls PG N.instr_second_1 #[x0] w R :=
  fnW_sound mixed Try.func80 (args := [x0]) (by rw [C_eq]; exact h)
end instr_second_1
namespace instr_second_2
theorem okf : okFn PG N.instr_second_2 = true := by kernel_rfl
def note : Note := ⟨[], []⟩
def C (R : Ending → World → Prop) (x0 x1 : Value) (w : World) : Prop :=
  pu PG (convert T.t_uint64 T.t_int x1) fun t1 => nlW x0 fun t2 => faW 2 t2 fun t3 => stW 1 t3 t1 (fun w4 => R (.returned (.tuple #[])) w4) w
theorem C_eq (R : Ending → World → Prop) (x0 x1 : Value) (w : World) : fnW PG note 400 Try.f81 [x0, x1] R w = C R x0 x1 w := by kernel_rfl
theorem ok {R : Ending → World → Prop} {x0 x1 : Value} {w : World} (h : C R x0 x1 w) : Calls PG N.instr_second_2 #[x0, x1] w R :=
  fnW_sound mixed Try.func81 (args := [x0, x1]) (by rw [C_eq]; exact h)
end instr_second_2
namespace instr_imm_1
theorem okf : okFn PG N.instr_imm_1 = true := by kernel_rfl
def note : Note := ⟨[], []⟩
def C (R : Ending → World → Prop) (x0 : Value) (w : World) : Prop :=
  alW (Value.cells x0) T.t_api_Ins (fun t2 w3 => faW 4 t2 fun t5 => ldW none t5 w3 fun t6 => pu PG (convert T.t_uint32 T.t_uint64 t6) fun t7 => R (.returned t7) w3) w
theorem C_eq (R : Ending → World → Prop) (x0 : Value) (w : World) : fnW PG note 400 Try.f82 [x0] R w = C R x0 w := by kernel_rfl
theorem ok {R : Ending → World → Prop} {x0 : Value} {w : World} (h : C R x0 w) : Calls PG N.instr_imm_1 #[x0] w R :=
  fnW_sound mixed Try.func82 (args := [x0]) (by rw [C_eq]; exact h)
end instr_imm_1
namespace instr_imm_2
theorem okf : okFn PG N.instr_imm_2 = true := by kernel_rfl
def note : Note := ⟨[], []⟩
def C (R : Ending → World → Prop) (x0 x1 : Value) (w : World) : Prop :=
  pu PG (convert T.t_uint64 T.t_uint32 x1) fun t1 => nlW x0 fun t2 => faW 4 t2 fun t3 => stW 1 t3 t1 (fun w4 => R (.returned (.tuple #[])) w4) w
theorem C_eq (R : Ending → World → Prop) (x0 x1 : Value) (w : World) : fnW PG note 400 Try.f83 [x0, x1] R w = C R x0 x1 w := by kernel_rfl
theorem ok {R : Ending → World → Prop} {x0 x1 : Value} {w : World} (h : C R x0 x1 w) : Calls PG N.instr_imm_2 #[x0, x1] w R :=
  fnW_sound mixed Try.func83 (args := [x0, x1]) (by rw [C_eq]; exact h)
end instr_imm_2
namespace instr_third_1
theorem okf : okFn PG N.instr_third_1 = true := by kernel_rfl
def note : Note := ⟨[], []⟩
def C (R : Ending → World → Prop) (x0 : Value) (w : World) : Prop :=
  alW (Value.cells x0) T.t_api_Ins (fun t2 w3 => faW 3 t2 fun t5 => ldW none t5 w3 fun t6 => pu PG (convert T.t_int T.t_uint64 t6) fun t7 => R (.returned t7) w3) w
theorem C_eq (R : Ending → World → Prop) (x0 : Value) (w : World) : fnW PG note 400 Try.f84 [x0] R w = C R x0 w := by kernel_rfl
theorem ok {R : Ending → World → Prop} {x0 : Value} {w : World} (h : C R x0 w) : Calls PG N.instr_third_1 #[x0] w R :=
  fnW_sound mixed Try.func84 (args := [x0]) (by rw [C_eq]; exact h)
end instr_third_1
namespace instr_third_2
theorem okf : okFn PG N.instr_third_2 = true := by kernel_rfl
def note : Note := ⟨[], []⟩
def C (R : Ending → World → Prop) (x0 x1 : Value) (w : World) : Prop :=
  pu PG (convert T.t_uint64 T.t_int x1) fun t1 => nlW x0 fun t2 => faW 3 t2 fun t3 => stW 1 t3 t1 (fun w4 => R (.returned (.tuple #[])) w4) w
theorem C_eq (R : Ending → World → Prop) (x0 x1 : Value) (w : World) : fnW PG note 400 Try.f85 [x0, x1] R w = C R x0 x1 w := by kernel_rfl
theorem ok {R : Ending → World → Prop} {x0 x1 : Value} {w : World} (h : C R x0 x1 w) : Calls PG N.instr_third_2 #[x0, x1] w R :=
  fnW_sound mixed Try.func85 (args := [x0, x1]) (by rw [C_eq]; exact h)
end instr_third_2
namespace slices_Values_sl_byte_byte
theorem okf : okFn PG N.slices_Values_sl_byte_byte = true := by kernel_rfl
def note : Note := ⟨[], []⟩
def C (R : Ending → World → Prop) (x0 : Value) (w : World) : Prop :=
  alW (Value.cells x0) T.t_sl_uint8 (fun t2 w3 => R (.returned (.func (.func N.slices_Values_sl_byte_byte_1) #[] #[t2])) w3) w
theorem C_eq (R : Ending → World → Prop) (x0 : Value) (w : World) : fnW PG note 400 Try.f86 [x0] R w = C R x0 w := by kernel_rfl
theorem ok {R : Ending → World → Prop} {x0 : Value} {w : World} (h : C R x0 w) : Calls PG N.slices_Values_sl_byte_byte #[x0] w R :=
  fnW_sound mixed Try.func86 (args := [x0]) (by rw [C_eq]; exact h)
end slices_Values_sl_byte_byte
namespace octet_ReadFixed
theorem okf : okFn PG N.octet_ReadFixed = true := by kernel_rfl
def note : Note := ⟨[(1, [4, 21])], []⟩
def C (R : Ending → World → Prop) (x0 x1 : Value) (w : World) : Prop :=
  callW PG N.octet_right [x1] (fun t4 w5 => pu PG (Op.unary .not t4) fun t6 => condV t6 (R (.returned (.tuple #[(.int .u64 0), (.int .i64 2)])) w5) (lnS x0 fun t9 => pu PG (binV .lss T.t_int false t9 x1) fun t10 => condV t10 (R (.returned (.tuple #[(.int .u64 0), (.int .i64 110)])) w5) (pu PG (Instr.sliceAt T.t_sl_uint8 x0 none (some x1) none) fun t14 => lnS t14 fun t15 => LoopW [(.int .u64 0), (.int .i64 0)] (fun l17 N18 w19 => ∀ j16 : S, pu PG (binV .lss T.t_int false (gv l17 1) t15) fun t21 => condV t21 (ixS 1 t14 (gv l17 1) fun t25 => ldW none t25 w19 fun t26 => pu PG (convert T.t_uint8 T.t_uint64 t26) fun t27 => pu PG (binV .mul T.t_int true (.int .i64 8) (gv l17 1)) fun t28 => pu PG (binV .shl T.t_uint64 false t27 t28) fun t29 => pu PG (binV .or T.t_uint64 false (gv l17 0) t29) fun t30 => pu PG (binV .add T.t_int true (gv l17 1) (.int .i64 1)) fun t31 => N18 [t30, t31] w19) (R (.returned (.tuple #[(gv l17 0), (.int .i64 0)])) w19)) w5))) (fun c w => R (.panicked c) w) w
theorem C_eq (R : Ending → World → Prop) (x0 x1 : Value) (w : World) : fnW PG note 400 Try.f87 [x0, x1] R w = C R x0 x1 w := by kernel_rfl
theorem ok {R : Ending → World → Prop} {x0 x1 : Value} {w : World} (h : C R x0 x1 w) : Calls PG N.octet_ReadFixed #[x0, x1] w R :=
  fnW_sound mixed Try.func87 (args := [x0, x1]) (by rw [C_eq]; exact h)
end octet_ReadFixed
namespace image_tape_from
theorem okf : okFn PG N.image_tape_from = true := by kernel_rfl
def note : Note := ⟨[], []⟩
def C (R : Ending → World → Prop) (x0 x1 : Value) (w : World) : Prop :=
  alW (Value.cells x0) T.t_image_tape (fun t2 w3 => faW 0 t2 fun t5 => ldW none t5 w3 fun t6 => faW 0 t2 fun t7 => ldW none t7 w3 fun t8 => lnS t8 fun t9 => faW 0 t2 fun t10 => ldW none t10 w3 fun t11 => lnS t11 fun t12 => pu PG (Instr.sliceAt T.t_sl_uint8 t6 (some x1) (some t9) (some t12)) fun t13 => R (.returned t13) w3) w
theorem C_eq (R : Ending → World → Prop) (x0 x1 : Value) (w : World) : fnW PG note 400 Try.f88 [x0, x1] R w = C R x0 x1 w := by kernel_rfl
theorem ok {R : Ending → World → Prop} {x0 x1 : Value} {w : World} (h : C R x0 x1 w) : Calls PG N.image_tape_from #[x0, x1] w R :=
  fnW_sound mixed Try.func88 (args := [x0, x1]) (by rw [C_eq]; exact h)
end image_tape_from
namespace instr_Read
theorem okf : okFn PG N.instr_Read = true := by kernel_rfl
def note : Note := ⟨[(0, [25])], []⟩
def C (R : Ending → World → Prop) (x0 : Value) (w : World) : Prop :=
  alW (zc PG T.t_api_Ins) T.t_api_Ins (fun t2 w3 => alW (zc PG T.t_int) T.t_int (fun t4 w5 => alW (zc PG T.t_api_Errno) T.t_api_Errno (fun t6 w7 => pu PG (Instr.build T.t_instr_tape #[(0, x0)]) fun t10 => pu PG (Instr.build T.t_instr_reader #[(0, t10)]) fun t11 => alW (Value.cells t11) T.t_instr_reader (fun t12 w13 => callW PG N.instr_reader_number [t12, (.int .i64 1)] (fun t15 w16 => pu PG (convert T.t_uint64 T.t_api_Op t15) fun t17 => faW 0 t2 fun t18 => stW 1 t18 t17 (fun w19 => faW 0 t2 fun t25 => ldW none t25 w19 fun t26 => callW PG N.instr_is [t26] (fun t27 w28 => callW PG N.instr_must [t27, (.int .i64 180)] (fun t29 w30 => faW 0 t2 fun t41 => ldW none t41 w30 fun t42 => callW PG N.instr_named [t42] (fun t43 w44 => lnS t43 fun t45 => LoopW [(.int .i64 0)] (fun l51 N52 w53 => ∀ j50 : S, pu PG (binV .lss T.t_int false (gv l51 0) t45) fun t55 => condV t55 (ixS 4 t43 (gv l51 0) fun t59 => ldW (some 4) t59 w53 fun t60 => alW (zc PG T.t_instr_part) T.t_instr_part (fun t61 w62 => stW 4 t61 t60 (fun w63 => ∃ H64 : World → Prop, H64 (World.drew w63) ∧ (faW 3 t61 fun t65 => ldS none t65 H64 fun t66 => faW 0 t61 fun t67 => ldS none t67 H64 fun t68 => callW PG N.instr_reader_number [t12, t68] (fun t69 w70 => H64 w70 ∧ (callV PG t66 [t2, t69] (fun t71 w72 => pu PG (binV .add T.t_int true (gv l51 0) (.int .i64 1)) fun t83 => N52 [t83] w72) (fun c w => ∀ s73 : S, LvW PG ({ target := .fn (.func N.instr_caught) #[], args := #[t6, (.func (.func N.instr_Read_1) #[] #[t2, t4])] } :: []) (.panicking c) w (endV (fun w74 => ldW (some 5) (s73 2) w74 fun t75 => ldW none (s73 3) w74 fun t76 => ldW none (s73 4) w74 fun t77 => R (.returned (.tuple #[t75, t76, t77])) w74) R)) w70)) (fun c w => ∀ s78 : S, LvW PG ({ target := .fn (.func N.instr_caught) #[], args := #[t6, (.func (.func N.instr_Read_1) #[] #[t2, t4])] } :: []) (.panicking c) w (endV (fun w79 => ldW (some 5) (s78 2) w79 fun t80 => ldW none (s78 3) w79 fun t81 => ldW none (s78 4) w79 fun t82 => R (.returned (.tuple #[t80, t81, t82])) w79) R)) (World.drew w63))) w62) w53) (ldW (some 5) t2 w53 fun t85 => callW PG N.instr_right [t85] (fun t86 w87 => callW PG N.instr_must [t86, (.int .i64 180)] (fun t88 w89 => ∃ H99 : World → Prop, H99 (World.drew w89) ∧ (ldS (some 5) t2 H99 fun t100 => nlW t12 fun t101 => faW 1 t101 fun t102 => ldS none t102 H99 fun t103 => stW 5 t2 t100 (fun w104 => stW 1 t4 t103 (fun w105 => stW 1 t6 (.int .i64 0) (fun w106 => LvW PG ({ target := .fn (.func N.instr_caught) #[], args := #[t6, (.func (.func N.instr_Read_1) #[] #[t2, t4])] } :: []) .returning w106 (endV (fun w107 => ldW (some 5) t2 w107 fun t108 => ldW none t4 w107 fun t109 => ldW none t6 w107 fun t110 => R (.returned (.tuple #[t108, t109, t110])) w107) R)) w105) w104) (World.drew w89))) (fun c w => LvW PG ({ target := .fn (.func N.instr_caught) #[], args := #[t6, (.func (.func N.instr_Read_1) #[] #[t2, t4])] } :: []) (.panicking c) w (endV (fun w90 => ldW (some 5) t2 w90 fun t91 => ldW none t4 w90 fun t92 => ldW none t6 w90 fun t93 => R (.returned (.tuple #[t91, t92, t93])) w90) R)) w87) (fun c w => LvW PG ({ target := .fn (.func N.instr_caught) #[], args := #[t6, (.func (.func N.instr_Read_1) #[] #[t2, t4])] } :: []) (.panicking c) w (endV (fun w94 => ldW (some 5) t2 w94 fun t95 => ldW none t4 w94 fun t96 => ldW none t6 w94 fun t97 => R (.returned (.tuple #[t95, t96, t97])) w94) R)) w53)) w44) (fun c w => LvW PG ({ target := .fn (.func N.instr_caught) #[], args := #[t6, (.func (.func N.instr_Read_1) #[] #[t2, t4])] } :: []) (.panicking c) w (endV (fun w46 => ldW (some 5) t2 w46 fun t47 => ldW none t4 w46 fun t48 => ldW none t6 w46 fun t49 => R (.returned (.tuple #[t47, t48, t49])) w46) R)) w30) (fun c w => LvW PG ({ target := .fn (.func N.instr_caught) #[], args := #[t6, (.func (.func N.instr_Read_1) #[] #[t2, t4])] } :: []) (.panicking c) w (endV (fun w31 => ldW (some 5) t2 w31 fun t32 => ldW none t4 w31 fun t33 => ldW none t6 w31 fun t34 => R (.returned (.tuple #[t32, t33, t34])) w31) R)) w28) (fun c w => LvW PG ({ target := .fn (.func N.instr_caught) #[], args := #[t6, (.func (.func N.instr_Read_1) #[] #[t2, t4])] } :: []) (.panicking c) w (endV (fun w35 => ldW (some 5) t2 w35 fun t36 => ldW none t4 w35 fun t37 => ldW none t6 w35 fun t38 => R (.returned (.tuple #[t36, t37, t38])) w35) R)) w19) w16) (fun c w => LvW PG ({ target := .fn (.func N.instr_caught) #[], args := #[t6, (.func (.func N.instr_Read_1) #[] #[t2, t4])] } :: []) (.panicking c) w (endV (fun w20 => ldW (some 5) t2 w20 fun t21 => ldW none t4 w20 fun t22 => ldW none t6 w20 fun t23 => R (.returned (.tuple #[t21, t22, t23])) w20) R)) w13) w7) w5) w3) w
theorem C_eq (R : Ending → World → Prop) (x0 : Value) (w : World) : fnW PG note 400 Try.f89 [x0] R w = C R x0 w := by kernel_rfl
theorem ok {R : Ending → World → Prop} {x0 : Value} {w : World} (h : C R x0 w) : Calls PG N.instr_Read #[x0] w R :=
  fnW_sound mixed Try.func89 (args := [x0]) (by rw [C_eq]; exact h)
end instr_Read
namespace slices_ContainsFunc_sl_program_bound_program_bound
theorem okf : okFn PG N.slices_ContainsFunc_sl_program_bound_program_bound = true := by kernel_rfl
def note : Note := ⟨[], []⟩
def C (R : Ending → World → Prop) (x0 x1 : Value) (w : World) : Prop :=
  callW PG N.slices_IndexFunc_sl_program_bound_program_bound [x0, x1] (fun t3 w4 => pu PG (binV .geq T.t_int true t3 (.int .i64 0)) fun t5 => R (.returned t5) w4) (fun c w => R (.panicked c) w) w
theorem C_eq (R : Ending → World → Prop) (x0 x1 : Value) (w : World) : fnW PG note 400 Try.f90 [x0, x1] R w = C R x0 x1 w := by kernel_rfl
theorem ok {R : Ending → World → Prop} {x0 x1 : Value} {w : World} (h : C R x0 x1 w) : Calls PG N.slices_ContainsFunc_sl_program_bound_program_bound #[x0, x1] w R :=
  fnW_sound mixed Try.func90 (args := [x0, x1]) (by rw [C_eq]; exact h)
end slices_ContainsFunc_sl_program_bound_program_bound
namespace program_all_program_bound_1
theorem okf : okFn PG N.program_all_program_bound_1 = true := by kernel_rfl
def note : Note := ⟨[], []⟩
def C (R : Ending → World → Prop) (x0 x1 : Value) (w : World) : Prop :=
  alW (Value.cells x0) T.t_program_bound (fun t2 w3 => ldW none x1 w3 fun t5 => ldW (some 3) t2 w3 fun t6 => callV PG t5 [t6] (fun t7 w8 => pu PG (Op.unary .not t7) fun t9 => R (.returned t9) w8) (fun c w => R (.panicked c) w) w3) w
theorem C_eq (R : Ending → World → Prop) (x0 x1 : Value) (w : World) : fnW PG note 400 Try.f91 [x0, x1] R w = C R x0 x1 w := by kernel_rfl
theorem ok {R : Ending → World → Prop} {x0 x1 : Value} {w : World} (h : C R x0 x1 w) : Calls PG N.program_all_program_bound_1 #[x0, x1] w R :=
  fnW_sound mixed Try.func91 (args := [x0, x1]) (by rw [C_eq]; exact h)
end program_all_program_bound_1
namespace slices_Contains_sl_int_int
theorem okf : okFn PG N.slices_Contains_sl_int_int = true := by kernel_rfl
def note : Note := ⟨[], []⟩
def C (R : Ending → World → Prop) (x0 x1 : Value) (w : World) : Prop :=
  callW PG N.slices_Index_sl_int_int [x0, x1] (fun t3 w4 => pu PG (binV .geq T.t_int true t3 (.int .i64 0)) fun t5 => R (.returned t5) w4) (fun c w => R (.panicked c) w) w
theorem C_eq (R : Ending → World → Prop) (x0 x1 : Value) (w : World) : fnW PG note 400 Try.f92 [x0, x1] R w = C R x0 x1 w := by kernel_rfl
theorem ok {R : Ending → World → Prop} {x0 x1 : Value} {w : World} (h : C R x0 x1 w) : Calls PG N.slices_Contains_sl_int_int #[x0, x1] w R :=
  fnW_sound mixed Try.func92 (args := [x0, x1]) (by rw [C_eq]; exact h)
end slices_Contains_sl_int_int
namespace slices_Contains_sl_api_Op_api_Op
theorem okf : okFn PG N.slices_Contains_sl_api_Op_api_Op = true := by kernel_rfl
def note : Note := ⟨[], []⟩
def C (R : Ending → World → Prop) (x0 x1 : Value) (w : World) : Prop :=
  callW PG N.slices_Index_sl_api_Op_api_Op [x0, x1] (fun t3 w4 => pu PG (binV .geq T.t_int true t3 (.int .i64 0)) fun t5 => R (.returned t5) w4) (fun c w => R (.panicked c) w) w
theorem C_eq (R : Ending → World → Prop) (x0 x1 : Value) (w : World) : fnW PG note 400 Try.f93 [x0, x1] R w = C R x0 x1 w := by kernel_rfl
theorem ok {R : Ending → World → Prop} {x0 x1 : Value} {w : World} (h : C R x0 x1 w) : Calls PG N.slices_Contains_sl_api_Op_api_Op #[x0, x1] w R :=
  fnW_sound mixed Try.func93 (args := [x0, x1]) (by rw [C_eq]; exact h)
end slices_Contains_sl_api_Op_api_Op
namespace arith_every
theorem okf : okFn PG N.arith_every = true := by kernel_rfl
def note : Note := ⟨[], []⟩
def C (R : Ending → World → Prop) (w : World) : Prop :=
  R (.returned (.func (.func N.arith_every_1) #[] #[])) w
theorem C_eq (R : Ending → World → Prop) (w : World) : fnW PG note 400 Try.f94 [] R w = C R  w := by kernel_rfl
theorem ok {R : Ending → World → Prop} {w : World} (h : C R  w) : Calls PG N.arith_every #[] w R :=
  fnW_sound mixed Try.func94 (args := []) (by rw [C_eq]; exact h)
end arith_every
namespace slices_Values_sl_byte_byte_1
theorem okf : okFn PG N.slices_Values_sl_byte_byte_1 = true := by kernel_rfl
def note : Note := ⟨[(0, [7])], []⟩
def C (R : Ending → World → Prop) (x0 x1 : Value) (w : World) : Prop :=
  ldW none x1 w fun t2 => lnS t2 fun t3 => LoopW [(.int .i64 0)] (fun l5 N6 w7 => ∀ j4 : S, pu PG (binV .lss T.t_int false (gv l5 0) t3) fun t9 => condV t9 (ixS 1 t2 (gv l5 0) fun t13 => ldW none t13 w7 fun t14 => callV PG x0 [t14] (fun t16 w17 => pu PG (Op.unary .not t16) fun t18 => condV t18 (R (.returned (.tuple #[])) w17) (pu PG (binV .add T.t_int true (gv l5 0) (.int .i64 1)) fun t19 => N6 [t19] w17)) (fun c w => R (.panicked c) w) w7) (R (.returned (.tuple #[])) w7)) w
theorem C_eq (R : Ending → World → Prop) (x0 x1 : Value) (w : World) : fnW PG note 400 Try.f95 [x0, x1] R w = C R x0 x1 w := by kernel_rfl
theorem ok {R : Ending → World → Prop} {x0 x1 : Value} {w : World} (h : C R x0 x1 w) : Calls PG N.slices_Values_sl_byte_byte_1 #[x0, x1] w R :=
  fnW_sound mixed Try.func95 (args := [x0, x1]) (by rw [C_eq]; exact h)
end slices_Values_sl_byte_byte_1
namespace instr_Read_1
theorem okf : okFn PG N.instr_Read_1 = true := by kernel_rfl
def note : Note := ⟨[], []⟩
def C (R : Ending → World → Prop) (x0 x1 : Value) (w : World) : Prop :=
  pu PG (Instr.build T.t_api_Ins #[]) fun t1 => stW 5 x0 t1 (fun w2 => stW 1 x1 (.int .i64 0) (fun w3 => R (.returned (.tuple #[])) w3) w2) w
theorem C_eq (R : Ending → World → Prop) (x0 x1 : Value) (w : World) : fnW PG note 400 Try.f97 [x0, x1] R w = C R x0 x1 w := by kernel_rfl
theorem ok {R : Ending → World → Prop} {x0 x1 : Value} {w : World} (h : C R x0 x1 w) : Calls PG N.instr_Read_1 #[x0, x1] w R :=
  fnW_sound mixed Try.func97 (args := [x0, x1]) (by rw [C_eq]; exact h)
end instr_Read_1
namespace instr_reader_number
theorem okf : okFn PG N.instr_reader_number = true := by kernel_rfl
def note : Note := ⟨[], []⟩
def C (R : Ending → World → Prop) (x0 x1 : Value) (w : World) : Prop :=
  ∃ H3 : World → Prop, H3 (World.drew w) ∧ (nlW x0 fun t4 => faW 0 t4 fun t5 => ldS (some 1) t5 H3 fun t6 => nlW x0 fun t7 => faW 1 t7 fun t8 => ldS none t8 H3 fun t9 => callW PG N.instr_tape_left [t6, t9, x1] (fun t10 w11 => callW PG N.instr_must [t10, (.int .i64 110)] (fun t12 w13 => ∃ H17 : World → Prop, H17 (World.drew w13) ∧ (nlW x0 fun t18 => faW 0 t18 fun t19 => faW 0 t19 fun t20 => ldS none t20 H17 fun t21 => nlW x0 fun t22 => faW 1 t22 fun t23 => ldS none t23 H17 fun t24 => pu PG (Instr.sliceAt T.t_sl_uint8 t21 (some t24) none none) fun t25 => callW PG N.octet_ReadFixed [t25, x1] (fun t26 w27 => exW 0 t26 fun t28 => exW 1 t26 fun t29 => nlW x0 fun t32 => faW 1 t32 fun t33 => ldW none t33 w27 fun t34 => pu PG (binV .add T.t_int false t34 x1) fun t35 => nlW x0 fun t36 => faW 1 t36 fun t37 => stW 1 t37 t35 (fun w38 => R (.returned t28) w38) w27) (fun c w => ∀ s30 : S, R (.panicked c) w) (World.drew w13))) (fun c w => ∀ s14 : S, R (.panicked c) w) w11) (fun c w => ∀ s15 : S, R (.panicked c) w) (World.drew w))
theorem C_eq (R : Ending → World → Prop) (x0 x1 : Value) (w : World) : fnW PG note 400 Try.f98 [x0, x1] R w = C R x0 x1 w := by kernel_rfl
theorem ok {R : Ending → World → Prop} {x0 x1 : Value} {w : World} (h : C R x0 x1 w) : Calls PG N.instr_reader_number #[x0, x1] w R :=
  fnW_sound mixed Try.func98 (args := [x0, x1]) (by rw [C_eq]; exact h)
end instr_reader_number
namespace instr_must
theorem okf : okFn PG N.instr_must = true := by kernel_rfl
def note : Note := ⟨[], []⟩
def C (R : Ending → World → Prop) (x0 x1 : Value) (w : World) : Prop :=
  pu PG (Op.unary .not x0) fun t2 => condV t2 (R (.panicked [{ v := (.iface T.t_api_Errno x1), recovered := false }]) w) (R (.returned (.tuple #[])) w)
theorem C_eq (R : Ending → World → Prop) (x0 x1 : Value) (w : World) : fnW PG note 400 Try.f99 [x0, x1] R w = C R x0 x1 w := by kernel_rfl
theorem ok {R : Ending → World → Prop} {x0 x1 : Value} {w : World} (h : C R x0 x1 w) : Calls PG N.instr_must #[x0, x1] w R :=
  fnW_sound mixed Try.func99 (args := [x0, x1]) (by rw [C_eq]; exact h)
end instr_must
namespace slices_IndexFunc_sl_program_bound_program_bound
theorem okf : okFn PG N.slices_IndexFunc_sl_program_bound_program_bound = true := by kernel_rfl
def note : Note := ⟨[(0, [8])], []⟩
def C (R : Ending → World → Prop) (x0 x1 : Value) (w : World) : Prop :=
  lnS x0 fun t4 => LoopW [(.int .i64 0)] (fun l6 N7 w8 => ∀ j5 : S, pu PG (binV .lss T.t_int false (gv l6 0) t4) fun t10 => condV t10 (ixS 3 x0 (gv l6 0) fun t15 => ldW (some 3) t15 w8 fun t16 => callV PG x1 [t16] (fun t17 w18 => condV t17 (R (.returned (gv l6 0)) w18) (pu PG (binV .add T.t_int true (gv l6 0) (.int .i64 1)) fun t20 => N7 [t20] w18)) (fun c w => R (.panicked c) w) w8) (R (.returned (.int .i64 (-1))) w8)) w
theorem C_eq (R : Ending → World → Prop) (x0 x1 : Value) (w : World) : fnW PG note 400 Try.f100 [x0, x1] R w = C R x0 x1 w := by kernel_rfl
theorem ok {R : Ending → World → Prop} {x0 x1 : Value} {w : World} (h : C R x0 x1 w) : Calls PG N.slices_IndexFunc_sl_program_bound_program_bound #[x0, x1] w R :=
  fnW_sound mixed Try.func100 (args := [x0, x1]) (by rw [C_eq]; exact h)
end slices_IndexFunc_sl_program_bound_program_bound
namespace slices_Index_sl_int_int
theorem okf : okFn PG N.slices_Index_sl_int_int = true := by kernel_rfl
def note : Note := ⟨[(0, [8])], []⟩
def C (R : Ending → World → Prop) (x0 x1 : Value) (w : World) : Prop :=
  lnS x0 fun t4 => LoopW [(.int .i64 0)] (fun l6 N7 w8 => ∀ j5 : S, pu PG (binV .lss T.t_int false (gv l6 0) t4) fun t10 => condV t10 (ixS 1 x0 (gv l6 0) fun t15 => ldW none t15 w8 fun t16 => pu PG (binV .eql T.t_int false x1 t16) fun t17 => condV t17 (R (.returned (gv l6 0)) w8) (pu PG (binV .add T.t_int true (gv l6 0) (.int .i64 1)) fun t19 => N7 [t19] w8)) (R (.returned (.int .i64 (-1))) w8)) w
theorem C_eq (R : Ending → World → Prop) (x0 x1 : Value) (w : World) : fnW PG note 400 Try.f101 [x0, x1] R w = C R x0 x1 w := by kernel_rfl
theorem ok {R : Ending → World → Prop} {x0 x1 : Value} {w : World} (h : C R x0 x1 w) : Calls PG N.slices_Index_sl_int_int #[x0, x1] w R :=
  fnW_sound mixed Try.func101 (args := [x0, x1]) (by rw [C_eq]; exact h)
end slices_Index_sl_int_int
namespace slices_Index_sl_api_Op_api_Op
theorem okf : okFn PG N.slices_Index_sl_api_Op_api_Op = true := by kernel_rfl
def note : Note := ⟨[(0, [8])], []⟩
def C (R : Ending → World → Prop) (x0 x1 : Value) (w : World) : Prop :=
  lnS x0 fun t4 => LoopW [(.int .i64 0)] (fun l6 N7 w8 => ∀ j5 : S, pu PG (binV .lss T.t_int false (gv l6 0) t4) fun t10 => condV t10 (ixS 1 x0 (gv l6 0) fun t15 => ldW none t15 w8 fun t16 => pu PG (binV .eql T.t_api_Op false x1 t16) fun t17 => condV t17 (R (.returned (gv l6 0)) w8) (pu PG (binV .add T.t_int true (gv l6 0) (.int .i64 1)) fun t19 => N7 [t19] w8)) (R (.returned (.int .i64 (-1))) w8)) w
theorem C_eq (R : Ending → World → Prop) (x0 x1 : Value) (w : World) : fnW PG note 400 Try.f102 [x0, x1] R w = C R x0 x1 w := by kernel_rfl
theorem ok {R : Ending → World → Prop} {x0 x1 : Value} {w : World} (h : C R x0 x1 w) : Calls PG N.slices_Index_sl_api_Op_api_Op #[x0, x1] w R :=
  fnW_sound mixed Try.func102 (args := [x0, x1]) (by rw [C_eq]; exact h)
end slices_Index_sl_api_Op_api_Op
namespace arith_every_1
theorem okf : okFn PG N.arith_every_1 = true := by kernel_rfl
def note : Note := ⟨[(0, [5])], []⟩
def C (R : Ending → World → Prop) (x0 : Value) (w : World) : Prop :=
  callW PG N.arith_names [] (fun t2 w3 => LoopW [(.int .i64 0)] (fun l5 N6 w7 => ∀ j4 : S, pu PG (binV .lss T.t_int true (gv l5 0) (.int .i64 12)) fun t9 => condV t9 (ixV 12 1 false t2 (gv l5 0) fun t13 => pu PG (binV .add T.t_int true (gv l5 0) (.int .i64 1)) fun t15 => callV PG x0 [t15, t13] (fun t16 w17 => pu PG (Op.unary .not t16) fun t18 => condV t18 (R (.returned (.tuple #[])) w17) (pu PG (binV .add T.t_int true (gv l5 0) (.int .i64 1)) fun t19 => N6 [t19] w17)) (fun c w => R (.panicked c) w) w7) (R (.returned (.tuple #[])) w7)) w3) (fun c w => R (.panicked c) w) w
theorem C_eq (R : Ending → World → Prop) (x0 : Value) (w : World) : fnW PG note 400 Try.f103 [x0] R w = C R x0 w := by kernel_rfl
theorem ok {R : Ending → World → Prop} {x0 : Value} {w : World} (h : C R x0 w) : Calls PG N.arith_every_1 #[x0] w R :=
  fnW_sound mixed Try.func103 (args := [x0]) (by rw [C_eq]; exact h)
end arith_every_1
namespace arith_names
theorem okf : okFn PG N.arith_names = true := by kernel_rfl
def note : Note := ⟨[], []⟩
def C (R : Ending → World → Prop) (w : World) : Prop :=
  alW (zc PG T.t_12_string) T.t_12_string (fun t2 w3 => pu PG (Instr.build T.t_12_string #[(0, (.string (bs [97, 100, 100]))), (1, (.string (bs [115, 117, 98]))), (2, (.string (bs [109, 117, 108]))), (3, (.string (bs [100, 105, 118]))), (4, (.string (bs [109, 111, 100]))), (5, (.string (bs [97, 110, 100]))), (6, (.string (bs [111, 114]))), (7, (.string (bs [120, 111, 114]))), (8, (.string (bs [115, 104, 108]))), (9, (.string (bs [115, 104, 114]))), (10, (.string (bs [108, 101, 115, 115]))), (11, (.string (bs [101, 113, 117, 97, 108])))]) fun t5 => stW 12 t2 t5 (fun w6 => ldW (some 12) t2 w6 fun t7 => R (.returned t7) w6) w3) w
theorem C_eq (R : Ending → World → Prop) (w : World) : fnW PG note 400 Try.f104 [] R w = C R  w := by kernel_rfl
theorem ok {R : Ending → World → Prop} {w : World} (h : C R  w) : Calls PG N.arith_names #[] w R :=
  fnW_sound mixed Try.func104 (args := []) (by rw [C_eq]; exact h)
end arith_names
namespace instr_tape_left
theorem okf : okFn PG N.instr_tape_left = true := by kernel_rfl
def note : Note := ⟨[], []⟩
def C (R : Ending → World → Prop) (x0 x1 x2 : Value) (w : World) : Prop :=
  alW (Value.cells x0) T.t_instr_tape (fun t2 w3 => faW 0 t2 fun t5 => ldW none t5 w3 fun t6 => lnS t6 fun t7 => pu PG (binV .sub T.t_int false t7 x1) fun t8 => pu PG (binV .geq T.t_int false t8 x2) fun t9 => R (.returned t9) w3) w
theorem C_eq (R : Ending → World → Prop) (x0 x1 x2 : Value) (w : World) : fnW PG note 400 Try.f105 [x0, x1, x2] R w = C R x0 x1 x2 w := by kernel_rfl
theorem ok {R : Ending → World → Prop} {x0 x1 x2 : Value} {w : World} (h : C R x0 x1 x2 w) : Calls PG N.instr_tape_left #[x0, x1, x2] w R :=
  fnW_sound mixed Try.func105 (args := [x0, x1, x2]) (by rw [C_eq]; exact h)
end instr_tape_left
end Go.Proofs.Ytkkkcafkepnecaa
