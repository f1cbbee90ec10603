/- What an Op names: the table. -/
import Derived.Test.YtkkkcafkepnecaaGreatVpA
set_option linter.unusedVariables false
set_option linter.unusedSimpArgs false
namespace Go.Proofs.YtkkkcafkepnecaaGreat
open Go Go.RowKit Vc
attribute [local irreducible] binV Op.unary convert nlW faW ldS ldW ixS ixA ixV ixT exW lnS lnT pu stW alW opW opU bsW mkW

section
variable {B w : World} {H : Hp} {K : Value → World → Prop} {PK : List PanicEntry → World → Prop}
theorem sls_none (X : Hp) : Sls X (.slice none 0 0) 4 (prow []) := ⟨none, 0, rfl, Nat.le_refl _, Nat.zero_le _, by simp [prow], by simp [prow]⟩
theorem nmd_lk {X : Hp} {v5 v11 v20 v32 v37 v44 v57 v67 v78 : Value} (h5 : Sls X v5 4 (prow [.a])) (h11 : Sls X v11 4 (prow [.a, .b])) (h20 : Sls X v20 4 (prow [.a, .i []])) (h32 : Sls X v32 4 (prow [.a, .b, .c, .i [45]])) (h37 : Sls X v37 4 (prow [.i []])) (h44 : Sls X v44 4 (prow [.a, .i []])) (h57 : Sls X v57 4 (prow [.a, .b, .n, .i [102]])) (h67 : Sls X v67 4 (prow [.b, .n, .i [102]])) (h78 : Sls X v78 4 (prow [])) (op : Int) :
    Sls X ((lk [(1, v20), (2, v11), (3, v32), (4, v37), (5, v44), (6, v11), (7, v11), (8, v57), (9, v5), (10, v67), (11, v5), (12, v5), (13, v5), (14, v5), (15, v5), (16, v5), (17, v11), (18, v5), (19, v78)] op).getD (.slice none 0 0)) 4 (prow (nmd op)) := by
  by_cases q1 : op = 1
  · subst q1; exact h20
  by_cases q2 : op = 2
  · subst q2; exact h11
  by_cases q3 : op = 3
  · subst q3; exact h32
  by_cases q4 : op = 4
  · subst q4; exact h37
  by_cases q5 : op = 5
  · subst q5; exact h44
  by_cases q6 : op = 6
  · subst q6; exact h11
  by_cases q7 : op = 7
  · subst q7; exact h11
  by_cases q8 : op = 8
  · subst q8; exact h57
  by_cases q9 : op = 9
  · subst q9; exact h5
  by_cases q10 : op = 10
  · subst q10; exact h67
  by_cases q11 : op = 11
  · subst q11; exact h5
  by_cases q12 : op = 12
  · subst q12; exact h5
  by_cases q13 : op = 13
  · subst q13; exact h5
  by_cases q14 : op = 14
  · subst q14; exact h5
  by_cases q15 : op = 15
  · subst q15; exact h5
  by_cases q16 : op = 16
  · subst q16; exact h5
  by_cases q17 : op = 17
  · subst q17; exact h11
  by_cases q18 : op = 18
  · subst q18; exact h5
  by_cases q19 : op = 19
  · subst q19; exact h78
  have e1 : lk [(1, v20), (2, v11), (3, v32), (4, v37), (5, v44), (6, v11), (7, v11), (8, v57), (9, v5), (10, v67), (11, v5), (12, v5), (13, v5), (14, v5), (15, v5), (16, v5), (17, v11), (18, v5), (19, v78)] op = none := by simp [lk, q1, q2, q3, q4, q5, q6, q7, q8, q9, q10, q11, q12, q13, q14, q15, q16, q17, q18, q19]
  have e2 : nmd op = [] := by simp [nmd, q1, q2, q3, q4, q5, q6, q7, q8, q9, q10, q11, q12, q13, q14, q15, q16, q17, q18, q19]
  rw [e1, e2]
  exact sls_none X
theorem und_map : PG.underlying T.t_map_api_Op_sl_instr_part = some (.map T.t_api_Op T.t_sl_instr_part) := by kernel_rfl
set_option maxHeartbeats 4000000 in
theorem named_spec {op : Int} (h : Ow B w H) (k : ∀ S v w', Ow B w' (S ++ H) → Sls S v 4 (prow (nmd op)) → K v w') : callW PG N.instr_named [vI op] K PK w := by
  refine instr_named.ok ?_
  unfold instr_named.C
  refine first_spec h (fun w h => ?_)
  refine bs_rule h (prow [.a]).flatten (by kernel_rfl) (fun b5 w h => ?_)
  refine first_spec h (fun w h => ?_)
  refine second_spec h (fun w h => ?_)
  refine bs_rule h (prow [.a, .b]).flatten (by kernel_rfl) (fun b11 w h => ?_)
  refine mk_rule (kd := .i64) h (fun bm w h => ?_)
  refine first_spec h (fun w h => ?_)
  refine imm_spec h (fun w h => ?_)
  refine bs_rule h (prow [.a, .i []]).flatten (by kernel_rfl) (fun b20 w h => ?_)
  refine mu_rule (A := [_]) h und_map und_op rfl (fun w h => ?_)
  refine mu_rule (A := [_]) h und_map und_op rfl (fun w h => ?_)
  refine first_spec h (fun w h => ?_)
  refine second_spec h (fun w h => ?_)
  refine third_spec h (fun w h => ?_)
  refine imm_spec h (fun w h => ?_)
  refine bs_rule h (prow [.a, .b, .c, .i [45]]).flatten (by kernel_rfl) (fun b32 w h => ?_)
  refine mu_rule (A := [_, _]) h und_map und_op rfl (fun w h => ?_)
  refine imm_spec h (fun w h => ?_)
  refine bs_rule h (prow [.i []]).flatten (by kernel_rfl) (fun b37 w h => ?_)
  refine mu_rule (A := [_, _, _]) h und_map und_op rfl (fun w h => ?_)
  refine first_spec h (fun w h => ?_)
  refine imm_spec h (fun w h => ?_)
  refine bs_rule h (prow [.a, .i []]).flatten (by kernel_rfl) (fun b44 w h => ?_)
  refine mu_rule (A := [_, _, _, _]) h und_map und_op rfl (fun w h => ?_)
  refine mu_rule (A := [_, _, _, _]) h und_map und_op rfl (fun w h => ?_)
  refine mu_rule (A := [_, _, _, _]) h und_map und_op rfl (fun w h => ?_)
  refine first_spec h (fun w h => ?_)
  refine second_spec h (fun w h => ?_)
  refine many_spec h (fun w h => ?_)
  refine imm_spec h (fun w h => ?_)
  refine bs_rule h (prow [.a, .b, .n, .i [102]]).flatten (by kernel_rfl) (fun b57 w h => ?_)
  refine mu_rule (A := [_, _, _, _, _]) h und_map und_op rfl (fun w h => ?_)
  refine mu_rule (A := [_, _, _, _, _]) h und_map und_op rfl (fun w h => ?_)
  refine second_spec h (fun w h => ?_)
  refine many_spec h (fun w h => ?_)
  refine imm_spec h (fun w h => ?_)
  refine bs_rule h (prow [.b, .n, .i [102]]).flatten (by kernel_rfl) (fun b67 w h => ?_)
  refine mu_rule (A := [_, _, _, _, _, _]) h und_map und_op rfl (fun w h => ?_)
  refine mu_rule (A := [_, _, _, _, _, _]) h und_map und_op rfl (fun w h => ?_)
  refine mu_rule (A := [_, _, _, _, _, _]) h und_map und_op rfl (fun w h => ?_)
  refine mu_rule (A := [_, _, _, _, _, _]) h und_map und_op rfl (fun w h => ?_)
  refine mu_rule (A := [_, _, _, _, _, _]) h und_map und_op rfl (fun w h => ?_)
  refine mu_rule (A := [_, _, _, _, _, _]) h und_map und_op rfl (fun w h => ?_)
  refine mu_rule (A := [_, _, _, _, _, _]) h und_map und_op rfl (fun w h => ?_)
  refine mu_rule (A := [_, _, _, _, _, _]) h und_map und_op rfl (fun w h => ?_)
  refine mu_rule (A := [_, _, _, _, _, _]) h und_map und_op rfl (fun w h => ?_)
  refine bs_rule h (prow []).flatten (by kernel_rfl) (fun b78 w h => ?_)
  refine mu_rule (A := [_, _, _, _, _, _, _]) h und_map und_op rfl (fun w h => ?_)
  refine lkf_rule (z := .slice none 0 0) h (List.mem_append_right _ (.head _)) und_map und_op (by kernel_rfl) ?_
  refine k [(b78, _), (b67, _), (b57, _), (b44, _), (b37, _), (b32, _), (b20, _), (bm, _), (b11, _), (b5, _)] _ _ h ?_
  exact nmd_lk (sls_blk (prow_four _) (by simp [prow, maxLen]) (.tail _ (.tail _ (.tail _ (.tail _ (.tail _ (.tail _ (.tail _ (.tail _ (.tail _ (.head _))))))))))) (sls_blk (prow_four _) (by simp [prow, maxLen]) (.tail _ (.tail _ (.tail _ (.tail _ (.tail _ (.tail _ (.tail _ (.tail _ (.head _)))))))))) (sls_blk (prow_four _) (by simp [prow, maxLen]) (.tail _ (.tail _ (.tail _ (.tail _ (.tail _ (.tail _ (.head _)))))))) (sls_blk (prow_four _) (by simp [prow, maxLen]) (.tail _ (.tail _ (.tail _ (.tail _ (.tail _ (.head _))))))) (sls_blk (prow_four _) (by simp [prow, maxLen]) (.tail _ (.tail _ (.tail _ (.tail _ (.head _)))))) (sls_blk (prow_four _) (by simp [prow, maxLen]) (.tail _ (.tail _ (.tail _ (.head _))))) (sls_blk (prow_four _) (by simp [prow, maxLen]) (.tail _ (.tail _ (.head _)))) (sls_blk (prow_four _) (by simp [prow, maxLen]) (.tail _ (.head _))) (sls_blk (prow_four _) (by simp [prow, maxLen]) (.head _)) op
end
end Go.Proofs.YtkkkcafkepnecaaGreat
