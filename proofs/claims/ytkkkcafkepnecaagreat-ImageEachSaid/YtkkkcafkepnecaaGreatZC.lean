/- Instructions: the plain law; parts; what an Op names. -/
import Derived.Test.YtkkkcafkepnecaaGreatZT
import Derived.Test.YtkkkcafkepnecaaGreatZB
import Derived.Test.YtkkkcafkepnecaaGreatZA
import Derived.Test.YtkkkcafkepnecaaGreatFA

set_option linter.unusedVariables false
set_option linter.unusedSimpArgs false
namespace Go.Proofs.YtkkkcafkepnecaaGreat.Vc
open Go Go.RowKit
section
variable {P : Program} {B w : World} {KW : Value → World → Prop} {t kt et : TypeId} {H : Hp} {kd : IntKind}
theorem lkf_rule {b : Nat} {l : List (Int × Value)} {x : Int} {z : Value} (h : Ow B w H) (hm : (b, mpo kd l) ∈ H) (ht : P.underlying t = some (.map kt et)) (hk : P.underlying kt = some (.int kd)) (hz : zo P et = some z)
    (k : KW ((lk l x).getD z) w) : opW P (Instr.lookup t (.map (some b)) (.int kd x) false) KW w := by
  have hb := h.mem b _ hm
  obtain ⟨j, hj⟩ := findKey_mp hk x l 0 w
  refine ⟨_, w, ?_, k⟩
  simp only [Instr.lookup, Sem.run_bind, run_und ht, Result.andThen, get_map hb, checkKey_int hk, Sem.run_pure, hj]
  cases lk l x <;> simp [Sem.run_bind, run_zero hz, Result.andThen, Sem.run_pure]
theorem flatten_at {size : Nat} {y : Value} {x : List Value} {j : Nat} (hj : x[j]? = some y) : ∀ (rows : List (List Value)) (i : Nat), (∀ x ∈ rows, x.length = size) → rows[i]? = some x → rows.flatten[i * size + j]? = some y
  | [], i, _, h => by simp at h
  | z :: rows, 0, hz, h => by
    simp only [List.getElem?_cons_zero, Option.some.injEq] at h
    subst h
    have hl := (List.getElem?_eq_some_iff.1 hj).1
    rw [List.flatten_cons, List.getElem?_append_left (by omega)]
    simpa using hj
  | z :: rows, i + 1, hz, h => by
    have hzl := hz z (.head _)
    have e : (i + 1) * size + j = size + (i * size + j) := by rw [Nat.add_mul, Nat.one_mul]; omega
    rw [List.flatten_cons, List.getElem?_append_right (by omega), hzl, e, Nat.add_sub_cancel_left]
    exact flatten_at hj rows i (fun x hx => hz x (.tail _ hx)) (by simpa using h)
theorem sls_blk {b size : Nat} {e : TypeId} {rows : List (List Value)} (hl : ∀ x ∈ rows, x.length = size) (hm : rows.length ≤ maxLen) (hb : (b, cel rows.flatten e) ∈ H) : Sls H (.slice (some ⟨b, 0, none⟩) rows.length rows.length) size rows :=
  ⟨some ⟨b, 0, none⟩, rows.length, rfl, Nat.le_refl _, hm, hl, fun i x hi => ⟨_, rfl, fun j y hj => by
    rw [add_mk]
    refine cell_here hb ?_
    rw [Nat.zero_add]
    exact flatten_at hj rows i hl hi⟩⟩
end
end Go.Proofs.YtkkkcafkepnecaaGreat.Vc
namespace Go.Proofs.YtkkkcafkepnecaaGreat
open Go Go.RowKit Vc
attribute [local irreducible] binV Op.unary convert nlW faW ldS ldW ixS ixA ixV ixT exW lnS lnT pu stW alW opW opU bsW mkW

section
variable {B w : World} {H : Hp} {K : Value → World → Prop} {PK : List PanicEntry → World → Prop}
abbrev fnc (f : FuncId) (cap : Array Value) : Value := .func (.func f) #[] cap
theorem und_int : PG.underlying T.t_int = some (.int .i64) := by kernel_rfl
theorem und_u64 : PG.underlying T.t_uint64 = some (.int .u64) := by kernel_rfl
theorem und_u32 : PG.underlying T.t_uint32 = some (.int .u32) := by kernel_rfl
theorem und_op : PG.underlying T.t_api_Op = some (.int .i64) := by kernel_rfl
/-- An instruction. -/
structure Ins where
  op : Int
  a : Int
  b : Int
  c : Int
  imm : Int
deriving DecidableEq
def Ins.cells (i : Ins) : List Value := [vI i.op, vI i.a, vI i.b, vI i.c, .int .u32 i.imm]
/-- Parts that an Op names. -/
inductive Pk
  | a
  | b
  | c
  | n
  | i (mark : List Nat)
def Pk.cells : Pk → List Value
  | .a => [vI 1, .string (bs [114]), fnc N.instr_first_1 #[], fnc N.instr_first_2 #[]]
  | .b => [vI 1, .string (bs [114]), fnc N.instr_second_1 #[], fnc N.instr_second_2 #[]]
  | .c => [vI 1, .string (bs [114]), fnc N.instr_third_1 #[], fnc N.instr_third_2 #[]]
  | .n => [vI 1, .string (bs []), fnc N.instr_third_1 #[], fnc N.instr_third_2 #[]]
  | .i m => [vI 4, .string (bs m), fnc N.instr_imm_1 #[], fnc N.instr_imm_2 #[]]
def Pk.get : Pk → Ins → Int
  | .a, x => x.a
  | .b, x => x.b
  | .c, x => x.c
  | .n, x => x.c
  | .i _, x => x.imm
def Pk.put : Pk → Ins → Int → Ins
  | .a, x, v => { x with a := v }
  | .b, x, v => { x with b := v }
  | .c, x, v => { x with c := v }
  | .n, x, v => { x with c := v }
  | .i _, x, v => { x with imm := v }
/-- What an Op names. -/
def nmd (op : Int) : List Pk :=
  if op = 1 then [.a, .i []] else if op = 2 then [.a, .b] else if op = 3 then [.a, .b, .c, .i [45]] else if op = 4 then [.i []] else if op = 5 then [.a, .i []] else if op = 6 then [.a, .b] else if op = 7 then [.a, .b]
  else if op = 8 then [.a, .b, .n, .i [102]] else if op = 9 then [.a] else if op = 10 then [.b, .n, .i [102]] else if op = 11 then [.a] else if op = 12 then [.a] else if op = 13 then [.a] else if op = 14 then [.a] else if op = 15 then [.a] else if op = 16 then [.a]
  else if op = 17 then [.a, .b] else if op = 18 then [.a] else []
def prow (l : List Pk) : List (List Value) := l.map Pk.cells
theorem prow_four (l : List Pk) : ∀ x ∈ prow l, x.length = 4 := fun x hx => by
  obtain ⟨p, _, rfl⟩ := List.mem_map.1 hx
  cases p <;> rfl
theorem pk_plain (p : Pk) : p.cells.all plainV = true := by cases p <;> rfl
abbrev zpart : List Value := [vI 0, .string ByteArray.empty, .nilFunc, .nilFunc]
theorem first_spec (h : Ow B w H) (k : ∀ w', Ow B w' H → K (.agg (Pk.cells .a).toArray) w') : callW PG N.instr_first [] K PK w := by
  refine instr_first.ok ?_
  unfold instr_first.C
  refine al_rule h (l := zpart) (by kernel_rfl) (fun b w1 h1 => ?_)
  refine pu_build (Pk.cells .a) (by kernel_rfl) ?_
  refine st_here (A := []) h1 (Pk.cells .a) rfl rfl (pk_plain _) (by simp) (fun w2 h2 => ?_)
  simp only [List.take_zero, List.nil_append, Nat.zero_add, List.drop_succ_cons, List.drop_zero, List.drop_nil, List.append_nil] at h2
  refine ldn_here h2 (.head _) (vs := Pk.cells .a) (by rw [List.drop_zero]; rfl) rfl ?_
  exact k _ h2.drop
theorem second_spec (h : Ow B w H) (k : ∀ w', Ow B w' H → K (.agg (Pk.cells .b).toArray) w') : callW PG N.instr_second [] K PK w := by
  refine instr_second.ok ?_
  unfold instr_second.C
  refine al_rule h (l := zpart) (by kernel_rfl) (fun b w1 h1 => ?_)
  refine pu_build (Pk.cells .b) (by kernel_rfl) ?_
  refine st_here (A := []) h1 (Pk.cells .b) rfl rfl (pk_plain _) (by simp) (fun w2 h2 => ?_)
  simp only [List.take_zero, List.nil_append, Nat.zero_add, List.drop_succ_cons, List.drop_zero, List.drop_nil, List.append_nil] at h2
  refine ldn_here h2 (.head _) (vs := Pk.cells .b) (by rw [List.drop_zero]; rfl) rfl ?_
  exact k _ h2.drop
theorem third_spec (h : Ow B w H) (k : ∀ w', Ow B w' H → K (.agg (Pk.cells .c).toArray) w') : callW PG N.instr_third [] K PK w := by
  refine instr_third.ok ?_
  unfold instr_third.C
  refine al_rule h (l := zpart) (by kernel_rfl) (fun b w1 h1 => ?_)
  refine pu_build (Pk.cells .c) (by kernel_rfl) ?_
  refine st_here (A := []) h1 (Pk.cells .c) rfl rfl (pk_plain _) (by simp) (fun w2 h2 => ?_)
  simp only [List.take_zero, List.nil_append, Nat.zero_add, List.drop_succ_cons, List.drop_zero, List.drop_nil, List.append_nil] at h2
  refine ldn_here h2 (.head _) (vs := Pk.cells .c) (by rw [List.drop_zero]; rfl) rfl ?_
  exact k _ h2.drop
theorem imm_spec {m : List Nat} (h : Ow B w H) (k : ∀ w', Ow B w' H → K (.agg (Pk.cells (.i m)).toArray) w') : callW PG N.instr_imm [.string (bs m)] K PK w := by
  refine instr_imm.ok ?_
  unfold instr_imm.C
  refine al_rule h (l := zpart) (by kernel_rfl) (fun b w1 h1 => ?_)
  refine pu_build (Pk.cells (.i m)) (by kernel_rfl) ?_
  refine st_here (A := []) h1 (Pk.cells (.i m)) rfl rfl (pk_plain _) (by simp) (fun w2 h2 => ?_)
  simp only [List.take_zero, List.nil_append, Nat.zero_add, List.drop_succ_cons, List.drop_zero, List.drop_nil, List.append_nil] at h2
  refine ldn_here h2 (.head _) (vs := Pk.cells (.i m)) (by rw [List.drop_zero]; rfl) rfl ?_
  exact k _ h2.drop
theorem many_spec (h : Ow B w H) (k : ∀ w', Ow B w' H → K (.agg (Pk.cells .n).toArray) w') : callW PG N.instr_many [] K PK w := by
  refine instr_many.ok ?_
  unfold instr_many.C
  refine al_rule h (l := zpart) (by kernel_rfl) (fun b w1 h1 => ?_)
  refine third_spec h1 (fun w2 h2 => ?_)
  refine al_rule h2 (l := zpart) (by kernel_rfl) (fun b2 w3 h3 => ?_)
  refine st_here (A := []) h3 (Pk.cells .c) rfl rfl (pk_plain _) (by simp) (fun w4 h4 => ?_)
  simp only [List.take_zero, List.nil_append, Nat.zero_add, List.drop_succ_cons, List.drop_zero, List.drop_nil, List.append_nil] at h4
  repeat (first | refine pu_not ?_ | refine pu_eql ?_ | refine pu_neq ?_ | refine pu_lss ?_ | refine pu_leq ?_ | refine pu_gtr ?_ | refine pu_geq ?_ | refine pu_add ?_ | refine pu_sub ?_ | refine pu_mul ?_ | refine pu_neg ?_ | refine fa_at ?_ | refine nl_ptr ?_ | refine ex20 ?_ | refine ex21 ?_ | refine ex30 ?_ | refine ex31 ?_ | refine ex32 ?_ | refine ln_rule ?_ | refine lnT_rule ?_ | refine pu_and ?_ | refine pu_or ?_ | refine pu_xor ?_ | refine pu_seq ?_ | refine pu_sne ?_)
  refine st1_here (A := []) h4 rfl rfl (by simp [Pk.cells]) (fun w5 h5 => ?_)
  have e : (Pk.cells .c).set (0 + 1) (.string (bs [])) = Pk.cells .n := rfl
  rw [e] at h5
  refine ldn_here h5 (.head _) (vs := Pk.cells .n) (by rw [List.drop_zero]; rfl) rfl ?_
  refine st_here (A := [_]) h5 (Pk.cells .n) rfl rfl (pk_plain _) (by simp) (fun w6 h6 => ?_)
  simp only [List.take_zero, List.nil_append, Nat.zero_add, List.drop_succ_cons, List.drop_zero, List.drop_nil, List.append_nil] at h6
  refine ldn_here h6 (.tail _ (.head _)) (vs := Pk.cells .n) (by rw [List.drop_zero]; rfl) rfl ?_
  exact k _ h6.drop.drop
end
end Go.Proofs.YtkkkcafkepnecaaGreat

/-! What an Op names: the table. -/
set_option linter.unusedVariables false
set_option linter.unusedSimpArgs false
namespace Go.Proofs.YtkkkcafkepnecaaGreat
open Go Go.RowKit Vc
attribute [local irreducible] binV Op.unary convert nlW faW ldS ldW ixS ixA ixV ixT exW lnS lnT pu stW alW opW opU bsW mkW

section
variable {B w : World} {H : Hp} {K : Value → World → Prop} {PK : List PanicEntry → World → Prop}
theorem sls_none (X : Hp) : Sls X (.slice none 0 0) 4 (prow []) := ⟨none, 0, rfl, Nat.le_refl _, Nat.zero_le _, by simp [prow], by simp [prow]⟩
theorem nmd_lk {X : Hp} {v5 v11 v20 v32 v37 v44 v57 v67 v78 : Value} (h5 : Sls X v5 4 (prow [.a])) (h11 : Sls X v11 4 (prow [.a, .b])) (h20 : Sls X v20 4 (prow [.a, .i []])) (h32 : Sls X v32 4 (prow [.a, .b, .c, .i [45]])) (h37 : Sls X v37 4 (prow [.i []])) (h44 : Sls X v44 4 (prow [.a, .i []])) (h57 : Sls X v57 4 (prow [.a, .b, .n, .i [102]])) (h67 : Sls X v67 4 (prow [.b, .n, .i [102]])) (h78 : Sls X v78 4 (prow [])) (op : Int) :
    Sls X ((lk [(1, v20), (2, v11), (3, v32), (4, v37), (5, v44), (6, v11), (7, v11), (8, v57), (9, v5), (10, v67), (11, v5), (12, v5), (13, v5), (14, v5), (15, v5), (16, v5), (17, v11), (18, v5), (19, v78)] op).getD (.slice none 0 0)) 4 (prow (nmd op)) := by
  by_cases q1 : op = 1
  · subst q1; exact h20
  by_cases q2 : op = 2
  · subst q2; exact h11
  by_cases q3 : op = 3
  · subst q3; exact h32
  by_cases q4 : op = 4
  · subst q4; exact h37
  by_cases q5 : op = 5
  · subst q5; exact h44
  by_cases q6 : op = 6
  · subst q6; exact h11
  by_cases q7 : op = 7
  · subst q7; exact h11
  by_cases q8 : op = 8
  · subst q8; exact h57
  by_cases q9 : op = 9
  · subst q9; exact h5
  by_cases q10 : op = 10
  · subst q10; exact h67
  by_cases q11 : op = 11
  · subst q11; exact h5
  by_cases q12 : op = 12
  · subst q12; exact h5
  by_cases q13 : op = 13
  · subst q13; exact h5
  by_cases q14 : op = 14
  · subst q14; exact h5
  by_cases q15 : op = 15
  · subst q15; exact h5
  by_cases q16 : op = 16
  · subst q16; exact h5
  by_cases q17 : op = 17
  · subst q17; exact h11
  by_cases q18 : op = 18
  · subst q18; exact h5
  by_cases q19 : op = 19
  · subst q19; exact h78
  have e1 : lk [(1, v20), (2, v11), (3, v32), (4, v37), (5, v44), (6, v11), (7, v11), (8, v57), (9, v5), (10, v67), (11, v5), (12, v5), (13, v5), (14, v5), (15, v5), (16, v5), (17, v11), (18, v5), (19, v78)] op = none := by simp [lk, q1, q2, q3, q4, q5, q6, q7, q8, q9, q10, q11, q12, q13, q14, q15, q16, q17, q18, q19]
  have e2 : nmd op = [] := by simp [nmd, q1, q2, q3, q4, q5, q6, q7, q8, q9, q10, q11, q12, q13, q14, q15, q16, q17, q18, q19]
  rw [e1, e2]
  exact sls_none X
theorem und_map : PG.underlying T.t_map_api_Op_sl_instr_part = some (.map T.t_api_Op T.t_sl_instr_part) := by kernel_rfl
set_option maxHeartbeats 4000000 in
theorem named_spec {op : Int} (h : Ow B w H) (k : ∀ S v w', Ow B w' (S ++ H) → Sls S v 4 (prow (nmd op)) → K v w') : callW PG N.instr_named [vI op] K PK w := by
  refine instr_named.ok ?_
  unfold instr_named.C
  refine first_spec h (fun w h => ?_)
  refine bs_rule h (prow [.a]).flatten (by kernel_rfl) (fun b5 w h => ?_)
  refine first_spec h (fun w h => ?_)
  refine second_spec h (fun w h => ?_)
  refine bs_rule h (prow [.a, .b]).flatten (by kernel_rfl) (fun b11 w h => ?_)
  refine mk_rule (kd := .i64) h (fun bm w h => ?_)
  refine first_spec h (fun w h => ?_)
  refine imm_spec h (fun w h => ?_)
  refine bs_rule h (prow [.a, .i []]).flatten (by kernel_rfl) (fun b20 w h => ?_)
  refine mu_rule (A := [_]) h und_map und_op rfl (fun w h => ?_)
  refine mu_rule (A := [_]) h und_map und_op rfl (fun w h => ?_)
  refine first_spec h (fun w h => ?_)
  refine second_spec h (fun w h => ?_)
  refine third_spec h (fun w h => ?_)
  refine imm_spec h (fun w h => ?_)
  refine bs_rule h (prow [.a, .b, .c, .i [45]]).flatten (by kernel_rfl) (fun b32 w h => ?_)
  refine mu_rule (A := [_, _]) h und_map und_op rfl (fun w h => ?_)
  refine imm_spec h (fun w h => ?_)
  refine bs_rule h (prow [.i []]).flatten (by kernel_rfl) (fun b37 w h => ?_)
  refine mu_rule (A := [_, _, _]) h und_map und_op rfl (fun w h => ?_)
  refine first_spec h (fun w h => ?_)
  refine imm_spec h (fun w h => ?_)
  refine bs_rule h (prow [.a, .i []]).flatten (by kernel_rfl) (fun b44 w h => ?_)
  refine mu_rule (A := [_, _, _, _]) h und_map und_op rfl (fun w h => ?_)
  refine mu_rule (A := [_, _, _, _]) h und_map und_op rfl (fun w h => ?_)
  refine mu_rule (A := [_, _, _, _]) h und_map und_op rfl (fun w h => ?_)
  refine first_spec h (fun w h => ?_)
  refine second_spec h (fun w h => ?_)
  refine many_spec h (fun w h => ?_)
  refine imm_spec h (fun w h => ?_)
  refine bs_rule h (prow [.a, .b, .n, .i [102]]).flatten (by kernel_rfl) (fun b57 w h => ?_)
  refine mu_rule (A := [_, _, _, _, _]) h und_map und_op rfl (fun w h => ?_)
  refine mu_rule (A := [_, _, _, _, _]) h und_map und_op rfl (fun w h => ?_)
  refine second_spec h (fun w h => ?_)
  refine many_spec h (fun w h => ?_)
  refine imm_spec h (fun w h => ?_)
  refine bs_rule h (prow [.b, .n, .i [102]]).flatten (by kernel_rfl) (fun b67 w h => ?_)
  refine mu_rule (A := [_, _, _, _, _, _]) h und_map und_op rfl (fun w h => ?_)
  refine mu_rule (A := [_, _, _, _, _, _]) h und_map und_op rfl (fun w h => ?_)
  refine mu_rule (A := [_, _, _, _, _, _]) h und_map und_op rfl (fun w h => ?_)
  refine mu_rule (A := [_, _, _, _, _, _]) h und_map und_op rfl (fun w h => ?_)
  refine mu_rule (A := [_, _, _, _, _, _]) h und_map und_op rfl (fun w h => ?_)
  refine mu_rule (A := [_, _, _, _, _, _]) h und_map und_op rfl (fun w h => ?_)
  refine mu_rule (A := [_, _, _, _, _, _]) h und_map und_op rfl (fun w h => ?_)
  refine mu_rule (A := [_, _, _, _, _, _]) h und_map und_op rfl (fun w h => ?_)
  refine mu_rule (A := [_, _, _, _, _, _]) h und_map und_op rfl (fun w h => ?_)
  refine bs_rule h (prow []).flatten (by kernel_rfl) (fun b78 w h => ?_)
  refine mu_rule (A := [_, _, _, _, _, _, _]) h und_map und_op rfl (fun w h => ?_)
  refine lkf_rule (z := .slice none 0 0) h (List.mem_append_right _ (.head _)) und_map und_op (by kernel_rfl) ?_
  refine k [(b78, _), (b67, _), (b57, _), (b44, _), (b37, _), (b32, _), (b20, _), (bm, _), (b11, _), (b5, _)] _ _ h ?_
  exact nmd_lk (sls_blk (prow_four _) (by simp [prow, maxLen]) (.tail _ (.tail _ (.tail _ (.tail _ (.tail _ (.tail _ (.tail _ (.tail _ (.tail _ (.head _))))))))))) (sls_blk (prow_four _) (by simp [prow, maxLen]) (.tail _ (.tail _ (.tail _ (.tail _ (.tail _ (.tail _ (.tail _ (.tail _ (.head _)))))))))) (sls_blk (prow_four _) (by simp [prow, maxLen]) (.tail _ (.tail _ (.tail _ (.tail _ (.tail _ (.tail _ (.head _)))))))) (sls_blk (prow_four _) (by simp [prow, maxLen]) (.tail _ (.tail _ (.tail _ (.tail _ (.tail _ (.head _))))))) (sls_blk (prow_four _) (by simp [prow, maxLen]) (.tail _ (.tail _ (.tail _ (.tail _ (.head _)))))) (sls_blk (prow_four _) (by simp [prow, maxLen]) (.tail _ (.tail _ (.tail _ (.head _))))) (sls_blk (prow_four _) (by simp [prow, maxLen]) (.tail _ (.tail _ (.head _)))) (sls_blk (prow_four _) (by simp [prow, maxLen]) (.tail _ (.head _))) (sls_blk (prow_four _) (by simp [prow, maxLen]) (.head _)) op
end
end Go.Proofs.YtkkkcafkepnecaaGreat

/-! Names of kinds; lists of Ops. -/
set_option linter.unusedVariables false
set_option linter.unusedSimpArgs false
namespace Go.Proofs.YtkkkcafkepnecaaGreat
open Go Go.RowKit Vc
attribute [local irreducible] binV Op.unary convert nlW faW ldS ldW ixS ixA ixV ixT exW lnS lnT pu stW alW opW opU bsW mkW

section
variable {B w : World} {H : Hp} {K : Value → World → Prop} {PK : List PanicEntry → World → Prop}
/-! ### Names -/
def namesL : List ByteArray := [bs [97, 100, 100], bs [115, 117, 98], bs [109, 117, 108], bs [100, 105, 118], bs [109, 111, 100], bs [97, 110, 100], bs [111, 114], bs [120, 111, 114], bs [115, 104, 108], bs [115, 104, 114],
  bs [108, 101, 115, 115], bs [101, 113, 117, 97, 108]]
def nm (i : Nat) : ByteArray := namesL.getD i ByteArray.empty
theorem nm_at {i : Nat} (hi : i < 12) : (namesL.map Value.string)[i]? = some (.string (nm i)) := by
  have : i < namesL.length := hi
  simp [nm, List.getD, this]
def everyL : List (List Value) := (List.range 12).map fun (i : Nat) => [vI ((i : Int) + 1), .string (nm i)]
theorem every_at {i : Nat} (hi : i < 12) : everyL[i]? = some [vI ((i : Int) + 1), .string (nm i)] := by simp [everyL, hi]
theorem every_of {i : Nat} {args : List Value} (h : everyL[i]? = some args) : i < 12 ∧ args = [vI ((i : Int) + 1), .string (nm i)] := by
  simp only [everyL, List.getElem?_map, Option.map_eq_some_iff] at h
  obtain ⟨j, hj, rfl⟩ := h
  obtain ⟨hlt, rfl⟩ := List.getElem?_eq_some_iff.1 hj
  simp at hlt
  simp [hlt]
theorem every_len : everyL.length = 12 := rfl
theorem every_two : ∀ args ∈ everyL, args.length = 2 := by
  intro args h
  simp only [everyL, List.mem_map] at h
  obtain ⟨i, _, rfl⟩ := h
  rfl
theorem names_spec (h : Ow B w H) (k : ∀ w', Ow B w' H → K (.agg (namesL.map Value.string).toArray) w') : callW PG N.arith_names [] K PK w := by
  refine arith_names.ok ?_
  unfold arith_names.C
  refine al_rule h (l := List.replicate 12 (.string ByteArray.empty)) (by kernel_rfl) (fun b w1 h1 => ?_)
  refine pu_build (namesL.map Value.string) (by kernel_rfl) ?_
  refine st_here (A := []) h1 (namesL.map Value.string) rfl rfl rfl (by simp) (fun w2 h2 => ?_)
  refine ldn_here h2 (.head _) (vs := namesL.map Value.string) rfl rfl ?_
  exact k _ h2.drop
theorem every_seq : Seq PG B H (fnc N.arith_every_1 #[]) everyL := by
  refine Seq.fn arith_every_1.okf ?_
  intro y J Z K PK w X hy hw j0 hr he
  refine arith_every_1.ok ?_
  unfold arith_every_1.C
  refine names_spec hw (fun w1 h1 => ?_)
  refine ⟨fun l w => ∃ (i : Nat) (X : Hp), l = [vI i] ∧ i ≤ 12 ∧ J i X ∧ Ow B w (X ++ H), fun l _ => match l with | [.int _ n] => 12 - n.toNat | _ => 0, ⟨0, X, rfl, by omega, j0, h1⟩, ?_⟩
  rintro l w2 ⟨i, X, rfl, hi, hj, h2⟩ j1
  repeat (first | refine pu_not ?_ | refine pu_eql ?_ | refine pu_neq ?_ | refine pu_lss ?_ | refine pu_leq ?_ | refine pu_gtr ?_ | refine pu_geq ?_ | refine pu_add ?_ | refine pu_sub ?_ | refine pu_mul ?_ | refine pu_neg ?_ | refine fa_at ?_ | refine nl_ptr ?_ | refine ex20 ?_ | refine ex21 ?_ | refine ex30 ?_ | refine ex31 ?_ | refine ex32 ?_ | refine ln_rule ?_ | refine lnT_rule ?_ | refine pu_and ?_ | refine pu_or ?_ | refine pu_xor ?_ | refine pu_seq ?_ | refine pu_sne ?_)
  refine cnd (fun hlt => ?_) (fun hlt => ?_)
  · have hlt : i < 12 := by simp at hlt; omega
    refine ixV_rule (by omega) (by simp; omega) (by rw [Int.toNat_natCast]; exact nm_at hlt) ?_
    repeat (first | refine pu_not ?_ | refine pu_eql ?_ | refine pu_neq ?_ | refine pu_lss ?_ | refine pu_leq ?_ | refine pu_gtr ?_ | refine pu_geq ?_ | refine pu_add ?_ | refine pu_sub ?_ | refine pu_mul ?_ | refine pu_neg ?_ | refine fa_at ?_ | refine nl_ptr ?_ | refine ex20 ?_ | refine ex21 ?_ | refine ex30 ?_ | refine ex31 ?_ | refine ex32 ?_ | refine ln_rule ?_ | refine lnT_rule ?_ | refine pu_and ?_ | refine pu_or ?_ | refine pu_xor ?_ | refine pu_seq ?_ | refine pu_sne ?_)
    rw [wrap64_in (by omega) (by omega)]
    refine hr i _ X H _ _ w2 (every_at hlt) hj (fun x hx => hx) h2 (fun X' w3 h3 hj3 => ?_) (fun X' w3 h3 hz3 => ?_)
    · repeat (first | refine pu_not ?_ | refine pu_eql ?_ | refine pu_neq ?_ | refine pu_lss ?_ | refine pu_leq ?_ | refine pu_gtr ?_ | refine pu_geq ?_ | refine pu_add ?_ | refine pu_sub ?_ | refine pu_mul ?_ | refine pu_neg ?_ | refine fa_at ?_ | refine nl_ptr ?_ | refine ex20 ?_ | refine ex21 ?_ | refine ex30 ?_ | refine ex31 ?_ | refine ex32 ?_ | refine ln_rule ?_ | refine lnT_rule ?_ | refine pu_and ?_ | refine pu_or ?_ | refine pu_xor ?_ | refine pu_seq ?_ | refine pu_sne ?_)
      refine cnd_f rfl ?_
      repeat (first | refine pu_not ?_ | refine pu_eql ?_ | refine pu_neq ?_ | refine pu_lss ?_ | refine pu_leq ?_ | refine pu_gtr ?_ | refine pu_geq ?_ | refine pu_add ?_ | refine pu_sub ?_ | refine pu_mul ?_ | refine pu_neg ?_ | refine fa_at ?_ | refine nl_ptr ?_ | refine ex20 ?_ | refine ex21 ?_ | refine ex30 ?_ | refine ex31 ?_ | refine ex32 ?_ | refine ln_rule ?_ | refine lnT_rule ?_ | refine pu_and ?_ | refine pu_or ?_ | refine pu_xor ?_ | refine pu_seq ?_ | refine pu_sne ?_)
      rw [wrap64_in (by omega) (by omega)]
      exact ⟨⟨i + 1, X', rfl, hlt, hj3, h3⟩, by simp; omega⟩
    · repeat (first | refine pu_not ?_ | refine pu_eql ?_ | refine pu_neq ?_ | refine pu_lss ?_ | refine pu_leq ?_ | refine pu_gtr ?_ | refine pu_geq ?_ | refine pu_add ?_ | refine pu_sub ?_ | refine pu_mul ?_ | refine pu_neg ?_ | refine fa_at ?_ | refine nl_ptr ?_ | refine ex20 ?_ | refine ex21 ?_ | refine ex30 ?_ | refine ex31 ?_ | refine ex32 ?_ | refine ln_rule ?_ | refine lnT_rule ?_ | refine pu_and ?_ | refine pu_or ?_ | refine pu_xor ?_ | refine pu_seq ?_ | refine pu_sne ?_)
      refine cnd_t rfl ?_
      exact he _ X' w3 h3 (.inr hz3)
  · obtain rfl : i = 12 := by simp at hlt; omega
    exact he _ X w2 h2 (.inl hj)
theorem every_spec (h : Ow B w H) (k : K (fnc N.arith_every_1 #[]) w) : callW PG N.arith_every [] K PK w := by
  refine arith_every.ok ?_
  unfold arith_every.C
  exact k
def nameOf (k : Int) : ByteArray × Int := if 1 ≤ k ∧ k ≤ 12 then (nm (k - 1).toNat, 0) else (ByteArray.empty, 2)
theorem name_spec {i : Int} (h : Ow B w H) (k : ∀ w', Ow B w' H → K (.tuple #[.string (nameOf i).1, vI (nameOf i).2]) w') : callW PG N.arith_Name [vI i] K PK w := by
  refine arith_Name.ok ?_
  unfold arith_Name.C
  refine al_rule h (l := [vI i]) rfl (fun b1 w1 h1 => ?_)
  refine al_rule h1 (l := [.string ByteArray.empty]) (by kernel_rfl) (fun b2 w2 h2 => ?_)
  refine al_rule h2 (l := [vI 0]) (by kernel_rfl) (fun b3 w3 h3 => ?_)
  refine every_spec h3 ?_
  refine range_fn (X := [(b3, cel [vI 0] T.t_api_Errno), (b2, cel [.string ByteArray.empty] T.t_string), (b1, cel [vI i] T.t_api_Arith)]) (H := H) (A := arith_Name.note) (fuel := 400) mixed every_seq (by simp) every_two h3
    (fun n Y => Y = [(b3, cel [vI 0] T.t_api_Errno), (b2, cel [.string ByteArray.empty] T.t_string), (b1, cel [vI i] T.t_api_Arith)] ∧ ¬ (1 ≤ i ∧ i ≤ n))
    (fun j Y => j = .ret ∧ Y = [(b3, cel [vI 0] T.t_api_Errno), (b2, cel [.string (nameOf i).1] T.t_string), (b1, cel [vI i] T.t_api_Arith)] ∧ (nameOf i).2 = 0) ⟨rfl, by omega⟩ ?_ ?_ ?_
  · rintro l r n args Y F R w4 hL ⟨rfl, hn⟩ hF h4 k1 k2 u
    obtain ⟨hlt, rfl⟩ := every_of hL
    refine Eq.mpr (arith_Name.Rd0_eq l R _ _ _ _ _ w4 u) ?_
    unfold arith_Name.Rd0
    refine rbeg h4 (fun w5 h5 => ?_)
    refine ld_here h5 (.tail _ (.tail _ (.tail _ (.head _)))) rfl ?_
    repeat (first | refine pu_not ?_ | refine pu_eql ?_ | refine pu_neq ?_ | refine pu_lss ?_ | refine pu_leq ?_ | refine pu_gtr ?_ | refine pu_geq ?_ | refine pu_add ?_ | refine pu_sub ?_ | refine pu_mul ?_ | refine pu_neg ?_ | refine fa_at ?_ | refine nl_ptr ?_ | refine ex20 ?_ | refine ex21 ?_ | refine ex30 ?_ | refine ex31 ?_ | refine ex32 ?_ | refine ln_rule ?_ | refine lnT_rule ?_ | refine pu_and ?_ | refine pu_or ?_ | refine pu_xor ?_ | refine pu_seq ?_ | refine pu_sne ?_)
    refine cnd (fun heq => ?_) (fun heq => ?_)
    · have heq : (n : Int) + 1 = i := by simpa using heq
      have e : nameOf i = (nm n, 0) := by
        unfold nameOf
        rw [if_pos (by omega)]
        congr 2; omega
      refine st1_here (A := [_, _]) h5 rfl rfl (by simp) (fun w6 h6 => ?_)
      refine st1_here (A := [_]) h6 rfl rfl (by simp) (fun w7 h7 => ?_)
      refine rend_stop h7 (fun w8 h8 => ?_)
      exact k2 _ _ w8 ⟨rfl, rfl, by rw [e]⟩ (by rw [e]; exact h8)
    · have heq : ¬ (n : Int) + 1 = i := by simpa using heq
      exact rend_go h5 (fun w6 h6 => k1 _ w6 ⟨rfl, by omega⟩ h6)
  · rintro b Y w4 ⟨rfl, hn⟩ h4
    rw [every_len] at hn
    have e : nameOf i = (ByteArray.empty, 2) := by
      unfold nameOf
      rw [if_neg (by omega)]
    refine st1_here (A := [_, _]) h4 rfl rfl (by simp) (fun w6 h6 => ?_)
    refine st1_here (A := [_]) h6 rfl rfl (by simp) (fun w7 h7 => ?_)
    refine lv_ret h7 (fun w8 h8 => ?_)
    refine ld_here h8 (.tail _ (.head _)) rfl ?_
    refine ld_here h8 (.head _) rfl ?_
    have := k w8 h8.drop.drop.drop
    rw [e] at this
    exact this
  · rintro b j Y w4 ⟨rfl, rfl, he⟩ h4
    refine lv_ret h4 (fun w8 h8 => ?_)
    refine ld_here h8 (.tail _ (.head _)) rfl ?_
    refine ld_here h8 (.head _) rfl ?_
    have := k w8 h8.drop.drop.drop
    rw [he] at this
    exact this

theorem iv_at {xs : List Int} {i : Nat} (h : i < xs.length) : (xs.map vI)[i]? = some (vI xs[i]) := by simp [h]
/-- Is it one of some? -/
theorem index_spec {s : Value} {xs : List Int} {x : Int} (h : Ow B w H) (hs : Sl H s (xs.map vI)) (hlen : xs.length < 1000) (k : ∀ w' (i : Int), (0 ≤ i ↔ x ∈ xs) → Ow B w' H → K (vI i) w') : callW PG N.slices_Index_sl_api_Op_api_Op [s, vI x] K PK w := by
  refine slices_Index_sl_api_Op_api_Op.ok ?_
  unfold slices_Index_sl_api_Op_api_Op.C
  refine sl_ln hs ?_
  rw [List.length_map]
  refine ⟨fun l w => ∃ i : Nat, l = [vI i] ∧ i ≤ xs.length ∧ (∀ (j : Nat) y, j < i → xs[j]? = some y → y ≠ x) ∧ Ow B w H, fun l _ => match l with | [.int _ n] => xs.length - n.toNat | _ => 0, ⟨0, rfl, Nat.zero_le _, fun j y hj => absurd hj (by omega), h⟩, ?_⟩
  rintro l w1 ⟨i, rfl, hi, hno, h1⟩ j
  repeat (first | refine pu_not ?_ | refine pu_eql ?_ | refine pu_neq ?_ | refine pu_lss ?_ | refine pu_leq ?_ | refine pu_gtr ?_ | refine pu_geq ?_ | refine pu_add ?_ | refine pu_sub ?_ | refine pu_mul ?_ | refine pu_neg ?_ | refine fa_at ?_ | refine nl_ptr ?_ | refine ex20 ?_ | refine ex21 ?_ | refine ex30 ?_ | refine ex31 ?_ | refine ex32 ?_ | refine ln_rule ?_ | refine lnT_rule ?_ | refine pu_and ?_ | refine pu_or ?_ | refine pu_xor ?_ | refine pu_seq ?_ | refine pu_sne ?_)
  refine cnd (fun hlt => ?_) (fun hlt => ?_)
  · have hlt : i < xs.length := by simpa using hlt
    refine sl_ld h1 hs (by omega) (by rw [Int.toNat_natCast]; exact iv_at hlt) ?_
    repeat (first | refine pu_not ?_ | refine pu_eql ?_ | refine pu_neq ?_ | refine pu_lss ?_ | refine pu_leq ?_ | refine pu_gtr ?_ | refine pu_geq ?_ | refine pu_add ?_ | refine pu_sub ?_ | refine pu_mul ?_ | refine pu_neg ?_ | refine fa_at ?_ | refine nl_ptr ?_ | refine ex20 ?_ | refine ex21 ?_ | refine ex30 ?_ | refine ex31 ?_ | refine ex32 ?_ | refine ln_rule ?_ | refine lnT_rule ?_ | refine pu_and ?_ | refine pu_or ?_ | refine pu_xor ?_ | refine pu_seq ?_ | refine pu_sne ?_)
    refine cnd (fun hp => ?_) (fun hp => ?_)
    · have hp : x = xs[i] := by simpa using hp
      exact k _ _ ⟨fun _ => by rw [hp]; exact List.getElem_mem hlt, fun _ => by omega⟩ h1
    · have hp : ¬ x = xs[i] := by simpa using hp
      repeat (first | refine pu_not ?_ | refine pu_eql ?_ | refine pu_neq ?_ | refine pu_lss ?_ | refine pu_leq ?_ | refine pu_gtr ?_ | refine pu_geq ?_ | refine pu_add ?_ | refine pu_sub ?_ | refine pu_mul ?_ | refine pu_neg ?_ | refine fa_at ?_ | refine nl_ptr ?_ | refine ex20 ?_ | refine ex21 ?_ | refine ex30 ?_ | refine ex31 ?_ | refine ex32 ?_ | refine ln_rule ?_ | refine lnT_rule ?_ | refine pu_and ?_ | refine pu_or ?_ | refine pu_xor ?_ | refine pu_seq ?_ | refine pu_sne ?_)
      rw [wrap64_in (by omega) (by omega)]
      refine ⟨⟨i + 1, rfl, hlt, fun j y hj hx => ?_, h1⟩, by simp; omega⟩
      rcases Nat.lt_succ_iff_lt_or_eq.1 hj with hj | rfl
      · exact hno j y hj hx
      · rw [List.getElem?_eq_getElem hlt] at hx; cases hx; exact fun h => hp h.symm
  · obtain rfl : i = xs.length := by simp at hlt; omega
    refine k _ _ ⟨fun h => by omega, fun hm => ?_⟩ h1
    obtain ⟨j, hj, rfl⟩ := List.getElem_of_mem hm
    exact absurd rfl (hno j _ hj (List.getElem?_eq_getElem hj))
theorem among_spec {s : Value} {xs : List Int} {x : Int} (h : Ow B w H) (hs : Sl H s (xs.map vI)) (hlen : xs.length < 1000) (k : ∀ w', Ow B w' H → K (vB (decide (x ∈ xs))) w') : callW PG N.instr_among_api_Op [vI x, s] K PK w := by
  refine instr_among_api_Op.ok ?_
  unfold instr_among_api_Op.C
  refine slices_Contains_sl_api_Op_api_Op.ok ?_
  unfold slices_Contains_sl_api_Op_api_Op.C
  refine index_spec h hs hlen (fun w1 i hi h1 => ?_)
  refine pu_geq ?_
  have : decide (i ≥ 0) = decide (x ∈ xs) := by simp only [decide_eq_decide]; exact hi
  rw [this]
  exact k _ h1
end
end Go.Proofs.YtkkkcafkepnecaaGreat

/-! Instructions: may they be? -/
set_option linter.unusedVariables false
set_option linter.unusedSimpArgs false
namespace Go.Proofs.YtkkkcafkepnecaaGreat
open Go Go.RowKit Vc
attribute [local irreducible] binV Op.unary convert nlW faW ldS ldW ixS ixA ixV ixT exW lnS lnT pu stW alW opW opU bsW mkW

section
variable {B w : World} {H : Hp} {Q : World → Prop} {KK : Value → Prop} {s : Value} {size : Nat} {xs : List (List Value)} {x : List Value} {v : Value} {j : Nat} {n : Int} {kd : IntKind}
theorem sls_fld (h : Ow B w H) (hs : Sls H s size xs) (h0 : 0 ≤ n) (hv : xs[n.toNat]? = some x) (hj : x[j]? = some v) (k : KK v) : ixS size s (.int kd n) fun p => faW j p fun q => ldW none q w KK := by
  obtain ⟨a, cap, rfl, h1, h2, h3, h4⟩ := hs
  obtain ⟨p, rfl, hc⟩ := h4 _ _ hv
  have hlt := (List.getElem?_eq_some_iff.1 hv).1
  refine ixS_rule h0 (by omega) ?_
  refine fa_rule ?_
  rw [Go.Deep.add_add]
  exact ld_cell h (hc j v hj) k
theorem sls_flds (h : ∀ w, Q w → Ow B w H) (hs : Sls H s size xs) (h0 : 0 ≤ n) (hv : xs[n.toNat]? = some x) (hj : x[j]? = some v) (k : KK v) : ixS size s (.int kd n) fun p => faW j p fun q => ldS none q Q KK := by
  obtain ⟨a, cap, rfl, h1, h2, h3, h4⟩ := hs
  obtain ⟨p, rfl, hc⟩ := h4 _ _ hv
  have hlt := (List.getElem?_eq_some_iff.1 hv).1
  refine ixS_rule h0 (by omega) ?_
  refine fa_rule ?_
  rw [Go.Deep.add_add]
  exact lds_cell h (hc j v hj) k
end
section
variable {B w : World} {H : Hp} {K : Value → World → Prop} {PK : List PanicEntry → World → Prop} {KK : Value → Prop}
theorem cvt {s t : TypeId} {kd kd' : IntKind} (hs : (PG.underlying s).isSome = true) (ht : PG.underlying t = some (.int kd')) {n m : Int} (hm : kd'.wrap n = m) (k : KK (.int kd' m)) : pu PG (convert s t (.int kd n)) KK := by
  subst hm
  obtain ⟨d, hd⟩ := Option.isSome_iff_exists.1 hs
  exact pu_cvt ⟨d, hd⟩ ht k
/-- Its numbers are small. -/
structure Ins.Sm (i : Ins) : Prop where
  a : 0 ≤ i.a ∧ i.a < 16
  b : 0 ≤ i.b ∧ i.b < 16
  c : 0 ≤ i.c ∧ i.c ≤ 16
  imm : 0 ≤ i.imm ∧ i.imm < 4294967296
abbrev iO (i : Ins) : Obj := cel i.cells T.t_api_Ins
theorem ins_plain (i : Ins) : i.cells.all plainV = true := rfl
def Pk.fg : Pk → FuncId
  | .a => N.instr_first_1
  | .b => N.instr_second_1
  | .c => N.instr_third_1
  | .n => N.instr_third_1
  | .i _ => N.instr_imm_1
def Pk.fp : Pk → FuncId
  | .a => N.instr_first_2
  | .b => N.instr_second_2
  | .c => N.instr_third_2
  | .n => N.instr_third_2
  | .i _ => N.instr_imm_2
theorem get_pf {i : Ins} (hi : i.Sm) (p : Pk) : PF PG B H (fnc p.fg #[]) [.agg i.cells.toArray] (.int .u64 (p.get i)) := fun X K PK w hw k => by
  obtain ⟨⟨a0, a1⟩, ⟨b0, b1⟩, ⟨c0, c1⟩, ⟨d0, d1⟩⟩ := hi
  cases p with
  | a =>
    refine callV_fn instr_first_1.okf (instr_first_1.ok ?_)
    unfold instr_first_1.C
    refine al_rule hw (l := i.cells) rfl (fun b w1 h1 => ?_)
    repeat (first | refine pu_not ?_ | refine pu_eql ?_ | refine pu_neq ?_ | refine pu_lss ?_ | refine pu_leq ?_ | refine pu_gtr ?_ | refine pu_geq ?_ | refine pu_add ?_ | refine pu_sub ?_ | refine pu_mul ?_ | refine pu_neg ?_ | refine fa_at ?_ | refine nl_ptr ?_ | refine ex20 ?_ | refine ex21 ?_ | refine ex30 ?_ | refine ex31 ?_ | refine ex32 ?_ | refine ln_rule ?_ | refine lnT_rule ?_ | refine pu_and ?_ | refine pu_or ?_ | refine pu_xor ?_ | refine pu_seq ?_ | refine pu_sne ?_)
    refine ld_here h1 (.head _) (v := vI i.a) rfl ?_
    refine cvt (by kernel_rfl) und_u64 (m := i.a) (by rw [wrapu64]; omega) ?_
    exact k _ h1.drop
  | b =>
    refine callV_fn instr_second_1.okf (instr_second_1.ok ?_)
    unfold instr_second_1.C
    refine al_rule hw (l := i.cells) rfl (fun b w1 h1 => ?_)
    repeat (first | refine pu_not ?_ | refine pu_eql ?_ | refine pu_neq ?_ | refine pu_lss ?_ | refine pu_leq ?_ | refine pu_gtr ?_ | refine pu_geq ?_ | refine pu_add ?_ | refine pu_sub ?_ | refine pu_mul ?_ | refine pu_neg ?_ | refine fa_at ?_ | refine nl_ptr ?_ | refine ex20 ?_ | refine ex21 ?_ | refine ex30 ?_ | refine ex31 ?_ | refine ex32 ?_ | refine ln_rule ?_ | refine lnT_rule ?_ | refine pu_and ?_ | refine pu_or ?_ | refine pu_xor ?_ | refine pu_seq ?_ | refine pu_sne ?_)
    refine ld_here h1 (.head _) (v := vI i.b) rfl ?_
    refine cvt (by kernel_rfl) und_u64 (m := i.b) (by rw [wrapu64]; omega) ?_
    exact k _ h1.drop
  | c =>
    refine callV_fn instr_third_1.okf (instr_third_1.ok ?_)
    unfold instr_third_1.C
    refine al_rule hw (l := i.cells) rfl (fun b w1 h1 => ?_)
    repeat (first | refine pu_not ?_ | refine pu_eql ?_ | refine pu_neq ?_ | refine pu_lss ?_ | refine pu_leq ?_ | refine pu_gtr ?_ | refine pu_geq ?_ | refine pu_add ?_ | refine pu_sub ?_ | refine pu_mul ?_ | refine pu_neg ?_ | refine fa_at ?_ | refine nl_ptr ?_ | refine ex20 ?_ | refine ex21 ?_ | refine ex30 ?_ | refine ex31 ?_ | refine ex32 ?_ | refine ln_rule ?_ | refine lnT_rule ?_ | refine pu_and ?_ | refine pu_or ?_ | refine pu_xor ?_ | refine pu_seq ?_ | refine pu_sne ?_)
    refine ld_here h1 (.head _) (v := vI i.c) rfl ?_
    refine cvt (by kernel_rfl) und_u64 (m := i.c) (by rw [wrapu64]; omega) ?_
    exact k _ h1.drop
  | n =>
    refine callV_fn instr_third_1.okf (instr_third_1.ok ?_)
    unfold instr_third_1.C
    refine al_rule hw (l := i.cells) rfl (fun b w1 h1 => ?_)
    repeat (first | refine pu_not ?_ | refine pu_eql ?_ | refine pu_neq ?_ | refine pu_lss ?_ | refine pu_leq ?_ | refine pu_gtr ?_ | refine pu_geq ?_ | refine pu_add ?_ | refine pu_sub ?_ | refine pu_mul ?_ | refine pu_neg ?_ | refine fa_at ?_ | refine nl_ptr ?_ | refine ex20 ?_ | refine ex21 ?_ | refine ex30 ?_ | refine ex31 ?_ | refine ex32 ?_ | refine ln_rule ?_ | refine lnT_rule ?_ | refine pu_and ?_ | refine pu_or ?_ | refine pu_xor ?_ | refine pu_seq ?_ | refine pu_sne ?_)
    refine ld_here h1 (.head _) (v := vI i.c) rfl ?_
    refine cvt (by kernel_rfl) und_u64 (m := i.c) (by rw [wrapu64]; omega) ?_
    exact k _ h1.drop
  | i m =>
    refine callV_fn instr_imm_1.okf (instr_imm_1.ok ?_)
    unfold instr_imm_1.C
    refine al_rule hw (l := i.cells) rfl (fun b w1 h1 => ?_)
    repeat (first | refine pu_not ?_ | refine pu_eql ?_ | refine pu_neq ?_ | refine pu_lss ?_ | refine pu_leq ?_ | refine pu_gtr ?_ | refine pu_geq ?_ | refine pu_add ?_ | refine pu_sub ?_ | refine pu_mul ?_ | refine pu_neg ?_ | refine fa_at ?_ | refine nl_ptr ?_ | refine ex20 ?_ | refine ex21 ?_ | refine ex30 ?_ | refine ex31 ?_ | refine ex32 ?_ | refine ln_rule ?_ | refine lnT_rule ?_ | refine pu_and ?_ | refine pu_or ?_ | refine pu_xor ?_ | refine pu_seq ?_ | refine pu_sne ?_)
    refine ld_here h1 (.head _) (v := .int .u32 i.imm) rfl ?_
    refine cvt (by kernel_rfl) und_u64 (m := i.imm) (by rw [wrapu64]; omega) ?_
    exact k _ h1.drop
theorem get_small {i : Ins} (hi : i.Sm) (p : Pk) : 0 ≤ p.get i ∧ p.get i < 4294967296 := by
  obtain ⟨⟨a0, a1⟩, ⟨b0, b1⟩, ⟨c0, c1⟩, ⟨d0, d1⟩⟩ := hi
  cases p <;> simp only [Pk.get] <;> omega
/-- A part is put. -/
theorem put_call {A C : Hp} {b : Nat} {x : Ins} {v : Int} (p : Pk) (h0 : 0 ≤ v) (h1 : v < 4294967296) (h : Ow B w (A ++ (b, iO x) :: C)) (k : ∀ w' r, Ow B w' (A ++ (b, iO (p.put x v)) :: C) → K r w') : callV PG (fnc p.fp #[]) [ptr b, .int .u64 v] K PK w := by
  cases p with
  | a =>
    refine callV_fn instr_first_2.okf (instr_first_2.ok ?_)
    unfold instr_first_2.C
    refine cvt (by kernel_rfl) und_int (m := v) (by rw [wrap64_in (by omega) (by omega)]) ?_
    repeat (first | refine pu_not ?_ | refine pu_eql ?_ | refine pu_neq ?_ | refine pu_lss ?_ | refine pu_leq ?_ | refine pu_gtr ?_ | refine pu_geq ?_ | refine pu_add ?_ | refine pu_sub ?_ | refine pu_mul ?_ | refine pu_neg ?_ | refine fa_at ?_ | refine nl_ptr ?_ | refine ex20 ?_ | refine ex21 ?_ | refine ex30 ?_ | refine ex31 ?_ | refine ex32 ?_ | refine ln_rule ?_ | refine lnT_rule ?_ | refine pu_and ?_ | refine pu_or ?_ | refine pu_xor ?_ | refine pu_seq ?_ | refine pu_sne ?_)
    refine st1_here h rfl rfl (by simp [Ins.cells]) (fun w1 h1 => ?_)
    exact k _ _ h1
  | b =>
    refine callV_fn instr_second_2.okf (instr_second_2.ok ?_)
    unfold instr_second_2.C
    refine cvt (by kernel_rfl) und_int (m := v) (by rw [wrap64_in (by omega) (by omega)]) ?_
    repeat (first | refine pu_not ?_ | refine pu_eql ?_ | refine pu_neq ?_ | refine pu_lss ?_ | refine pu_leq ?_ | refine pu_gtr ?_ | refine pu_geq ?_ | refine pu_add ?_ | refine pu_sub ?_ | refine pu_mul ?_ | refine pu_neg ?_ | refine fa_at ?_ | refine nl_ptr ?_ | refine ex20 ?_ | refine ex21 ?_ | refine ex30 ?_ | refine ex31 ?_ | refine ex32 ?_ | refine ln_rule ?_ | refine lnT_rule ?_ | refine pu_and ?_ | refine pu_or ?_ | refine pu_xor ?_ | refine pu_seq ?_ | refine pu_sne ?_)
    refine st1_here h rfl rfl (by simp [Ins.cells]) (fun w1 h1 => ?_)
    exact k _ _ h1
  | c =>
    refine callV_fn instr_third_2.okf (instr_third_2.ok ?_)
    unfold instr_third_2.C
    refine cvt (by kernel_rfl) und_int (m := v) (by rw [wrap64_in (by omega) (by omega)]) ?_
    repeat (first | refine pu_not ?_ | refine pu_eql ?_ | refine pu_neq ?_ | refine pu_lss ?_ | refine pu_leq ?_ | refine pu_gtr ?_ | refine pu_geq ?_ | refine pu_add ?_ | refine pu_sub ?_ | refine pu_mul ?_ | refine pu_neg ?_ | refine fa_at ?_ | refine nl_ptr ?_ | refine ex20 ?_ | refine ex21 ?_ | refine ex30 ?_ | refine ex31 ?_ | refine ex32 ?_ | refine ln_rule ?_ | refine lnT_rule ?_ | refine pu_and ?_ | refine pu_or ?_ | refine pu_xor ?_ | refine pu_seq ?_ | refine pu_sne ?_)
    refine st1_here h rfl rfl (by simp [Ins.cells]) (fun w1 h1 => ?_)
    exact k _ _ h1
  | n =>
    refine callV_fn instr_third_2.okf (instr_third_2.ok ?_)
    unfold instr_third_2.C
    refine cvt (by kernel_rfl) und_int (m := v) (by rw [wrap64_in (by omega) (by omega)]) ?_
    repeat (first | refine pu_not ?_ | refine pu_eql ?_ | refine pu_neq ?_ | refine pu_lss ?_ | refine pu_leq ?_ | refine pu_gtr ?_ | refine pu_geq ?_ | refine pu_add ?_ | refine pu_sub ?_ | refine pu_mul ?_ | refine pu_neg ?_ | refine fa_at ?_ | refine nl_ptr ?_ | refine ex20 ?_ | refine ex21 ?_ | refine ex30 ?_ | refine ex31 ?_ | refine ex32 ?_ | refine ln_rule ?_ | refine lnT_rule ?_ | refine pu_and ?_ | refine pu_or ?_ | refine pu_xor ?_ | refine pu_seq ?_ | refine pu_sne ?_)
    refine st1_here h rfl rfl (by simp [Ins.cells]) (fun w1 h1 => ?_)
    exact k _ _ h1
  | i m =>
    refine callV_fn instr_imm_2.okf (instr_imm_2.ok ?_)
    unfold instr_imm_2.C
    refine cvt (by kernel_rfl) und_u32 (m := v) (by rw [wrapu32]; omega) ?_
    repeat (first | refine pu_not ?_ | refine pu_eql ?_ | refine pu_neq ?_ | refine pu_lss ?_ | refine pu_leq ?_ | refine pu_gtr ?_ | refine pu_geq ?_ | refine pu_add ?_ | refine pu_sub ?_ | refine pu_mul ?_ | refine pu_neg ?_ | refine fa_at ?_ | refine nl_ptr ?_ | refine ex20 ?_ | refine ex21 ?_ | refine ex30 ?_ | refine ex31 ?_ | refine ex32 ?_ | refine ln_rule ?_ | refine lnT_rule ?_ | refine pu_and ?_ | refine pu_or ?_ | refine pu_xor ?_ | refine pu_seq ?_ | refine pu_sne ?_)
    refine st1_here h rfl rfl (by simp [Ins.cells]) (fun w1 h1 => ?_)
    exact k _ _ h1
def puts (i : Ins) : List Pk → Ins → Ins
  | [], x => x
  | p :: l, x => puts i l (p.put x (p.get i))
theorem puts_snoc (i : Ins) (p : Pk) : ∀ (l : List Pk) (x : Ins), puts i (l ++ [p]) x = p.put (puts i l x) (p.get i)
  | [], x => rfl
  | q :: l, x => puts_snoc i p l (q.put x (q.get i))
def bare (op : Int) : Ins := ⟨op, 0, 0, 0, 0⟩
/-- May it be? -/
def okI (i : Ins) : Bool := decide (1 ≤ i.op ∧ i.op ≤ 19 ∧ 0 ≤ i.a ∧ 0 ≤ i.b ∧ 0 ≤ i.c ∧ i.a < 16 ∧ i.b < 16 ∧ i.c ≤ 16) && decide (puts i (nmd i.op) (bare i.op) = i) &&
  (if i.op = 8 ∨ i.op = 10 then decide (i.b + i.c ≤ 16) && decide (i.imm < 32) else if i.op = 4 ∨ i.op = 5 then decide (i.imm < 512) else if i.op = 3 then decide (1 ≤ i.imm ∧ i.imm ≤ 12) && decide (i.c < 16) else true)
set_option maxRecDepth 100000 in
theorem eq_ins (i j : Ins) : EqR PG 10000 T.t_api_Ins (.agg i.cells.toArray) (.agg j.cells.toArray) (decide (i = j)) := by
  have h : EqR PG 10000 T.t_api_Ins (.agg i.cells.toArray) (.agg j.cells.toArray) ((i.op == j.op) && ((i.a == j.a) && ((i.b == j.b) && ((i.c == j.c) && ((i.imm == j.imm) && true))))) := by
    refine eqr_struct (d := 9999) (by kernel_rfl) (by kernel_rfl) rfl ?_
    refine eqf_cons (z := none) (by simp) (by kernel_rfl) (pt_at (v := vI i.op) rfl rfl) (pt_at (v := vI j.op) rfl rfl) (eqr_int (d := 9998) und_op _ _) ?_
    refine eqf_cons (z := none) (by simp) (by kernel_rfl) (pt_at (v := vI i.a) rfl rfl) (pt_at (v := vI j.a) rfl rfl) (eqr_int (d := 9998) und_int _ _) ?_
    refine eqf_cons (z := none) (by simp) (by kernel_rfl) (pt_at (v := vI i.b) rfl rfl) (pt_at (v := vI j.b) rfl rfl) (eqr_int (d := 9998) und_int _ _) ?_
    refine eqf_cons (z := none) (by simp) (by kernel_rfl) (pt_at (v := vI i.c) rfl rfl) (pt_at (v := vI j.c) rfl rfl) (eqr_int (d := 9998) und_int _ _) ?_
    exact eqf_cons (z := none) (by simp) (by kernel_rfl) (pt_at (v := .int .u32 i.imm) rfl rfl) (pt_at (v := .int .u32 j.imm) rfl rfl) (eqr_int (d := 9998) und_u32 _ _) eqf_nil
  have e : ((i.op == j.op) && ((i.a == j.a) && ((i.b == j.b) && ((i.c == j.c) && ((i.imm == j.imm) && true))))) = decide (i = j) := by
    cases i; cases j
    simp [ibeq, Bool.decide_and]
  rw [e] at h
  exact h
theorem pk_at {l : List Pk} {i : Nat} (h : i < l.length) : (prow l)[i]? = some (l[i]).cells := by simp [prow, h]
theorem ite_len {p : Prop} [Decidable p] {a b : List Pk} (ha : a.length ≤ 4) (hb : b.length ≤ 4) : (if p then a else b).length ≤ 4 := by
  by_cases h : p
  · rw [if_pos h]; exact ha
  · rw [if_neg h]; exact hb
theorem nmd_len (op : Int) : (nmd op).length ≤ 4 := by
  unfold nmd
  iterate 18 refine ite_len (by simp) ?_
  simp
theorem right_spec {i : Ins} (hu : 0 ≤ i.imm ∧ i.imm < 4294967296) (h : Ow B w H) (k : ∀ w', Ow B w' H → K (vB (okI i)) w') : callW PG N.instr_right [.agg i.cells.toArray] K PK w := by
  refine instr_right.ok ?_
  unfold instr_right.C
  refine al_rule h (l := i.cells) rfl (fun b w1 h1 => ?_)
  have no : (¬ (1 ≤ i.op ∧ i.op ≤ 19 ∧ 0 ≤ i.a ∧ 0 ≤ i.b ∧ 0 ≤ i.c ∧ i.a < 16 ∧ i.b < 16 ∧ i.c ≤ 16)) → okI i = false := fun hn => by
    unfold okI
    rw [decide_eq_false hn]; rfl
  repeat (first | refine pu_not ?_ | refine pu_eql ?_ | refine pu_neq ?_ | refine pu_lss ?_ | refine pu_leq ?_ | refine pu_gtr ?_ | refine pu_geq ?_ | refine pu_add ?_ | refine pu_sub ?_ | refine pu_mul ?_ | refine pu_neg ?_ | refine fa_at ?_ | refine nl_ptr ?_ | refine ex20 ?_ | refine ex21 ?_ | refine ex30 ?_ | refine ex31 ?_ | refine ex32 ?_ | refine ln_rule ?_ | refine lnT_rule ?_ | refine pu_and ?_ | refine pu_or ?_ | refine pu_xor ?_ | refine pu_seq ?_ | refine pu_sne ?_)
  refine ld_here h1 (.head _) (v := vI i.op) rfl ?_
  refine instr_is.ok ?_
  unfold instr_is.C
  repeat (first | refine pu_not ?_ | refine pu_eql ?_ | refine pu_neq ?_ | refine pu_lss ?_ | refine pu_leq ?_ | refine pu_gtr ?_ | refine pu_geq ?_ | refine pu_add ?_ | refine pu_sub ?_ | refine pu_mul ?_ | refine pu_neg ?_ | refine fa_at ?_ | refine nl_ptr ?_ | refine ex20 ?_ | refine ex21 ?_ | refine ex30 ?_ | refine ex31 ?_ | refine ex32 ?_ | refine ln_rule ?_ | refine lnT_rule ?_ | refine pu_and ?_ | refine pu_or ?_ | refine pu_xor ?_ | refine pu_seq ?_ | refine pu_sne ?_)
  have isop : ∀ KK : Value → World → Prop, KK (vB (decide (1 ≤ i.op ∧ i.op ≤ 19))) w1 → condV (vB (decide (i.op ≥ 1))) (pu PG (binV .leq T.t_api_Op true (vI i.op) (.int .i64 19)) fun t4 => KK t4 w1) (KK (.bool false) w1) := fun KK kk => by
    refine cnd (fun hq => ?_) (fun hq => ?_)
    · refine pu_leq ?_
      have : decide (i.op ≤ 19) = decide (1 ≤ i.op ∧ i.op ≤ 19) := by simp at hq; simp [hq]
      rw [this]; exact kk
    · have : decide (1 ≤ i.op ∧ i.op ≤ 19) = false := by simp at hq; simp; omega
      rw [this] at kk; exact kk
  refine isop (fun v w => pu PG (Op.unary .not v) _) ?_
  repeat (first | refine pu_not ?_ | refine pu_eql ?_ | refine pu_neq ?_ | refine pu_lss ?_ | refine pu_leq ?_ | refine pu_gtr ?_ | refine pu_geq ?_ | refine pu_add ?_ | refine pu_sub ?_ | refine pu_mul ?_ | refine pu_neg ?_ | refine fa_at ?_ | refine nl_ptr ?_ | refine ex20 ?_ | refine ex21 ?_ | refine ex30 ?_ | refine ex31 ?_ | refine ex32 ?_ | refine ln_rule ?_ | refine lnT_rule ?_ | refine pu_and ?_ | refine pu_or ?_ | refine pu_xor ?_ | refine pu_seq ?_ | refine pu_sne ?_)
  refine cnd (fun hq => ?_) (fun hq => ?_)
  · rw [no (by simp at hq; omega)] at k
    exact k _ h1.drop
  have c0 : 1 ≤ i.op ∧ i.op ≤ 19 := by simp at hq; omega
  clear hq
  repeat (first | refine pu_not ?_ | refine pu_eql ?_ | refine pu_neq ?_ | refine pu_lss ?_ | refine pu_leq ?_ | refine pu_gtr ?_ | refine pu_geq ?_ | refine pu_add ?_ | refine pu_sub ?_ | refine pu_mul ?_ | refine pu_neg ?_ | refine fa_at ?_ | refine nl_ptr ?_ | refine ex20 ?_ | refine ex21 ?_ | refine ex30 ?_ | refine ex31 ?_ | refine ex32 ?_ | refine ln_rule ?_ | refine lnT_rule ?_ | refine pu_and ?_ | refine pu_or ?_ | refine pu_xor ?_ | refine pu_seq ?_ | refine pu_sne ?_)
  refine ld_here h1 (.head _) (v := vI i.a) rfl ?_
  repeat (first | refine pu_not ?_ | refine pu_eql ?_ | refine pu_neq ?_ | refine pu_lss ?_ | refine pu_leq ?_ | refine pu_gtr ?_ | refine pu_geq ?_ | refine pu_add ?_ | refine pu_sub ?_ | refine pu_mul ?_ | refine pu_neg ?_ | refine fa_at ?_ | refine nl_ptr ?_ | refine ex20 ?_ | refine ex21 ?_ | refine ex30 ?_ | refine ex31 ?_ | refine ex32 ?_ | refine ln_rule ?_ | refine lnT_rule ?_ | refine pu_and ?_ | refine pu_or ?_ | refine pu_xor ?_ | refine pu_seq ?_ | refine pu_sne ?_)
  refine cnd (fun hq => ?_) (fun hq => ?_)
  · rw [no (by simp at hq; omega)] at k
    exact k _ h1.drop
  have c1 : 0 ≤ i.a := by simp at hq; omega
  clear hq
  repeat (first | refine pu_not ?_ | refine pu_eql ?_ | refine pu_neq ?_ | refine pu_lss ?_ | refine pu_leq ?_ | refine pu_gtr ?_ | refine pu_geq ?_ | refine pu_add ?_ | refine pu_sub ?_ | refine pu_mul ?_ | refine pu_neg ?_ | refine fa_at ?_ | refine nl_ptr ?_ | refine ex20 ?_ | refine ex21 ?_ | refine ex30 ?_ | refine ex31 ?_ | refine ex32 ?_ | refine ln_rule ?_ | refine lnT_rule ?_ | refine pu_and ?_ | refine pu_or ?_ | refine pu_xor ?_ | refine pu_seq ?_ | refine pu_sne ?_)
  refine ld_here h1 (.head _) (v := vI i.b) rfl ?_
  repeat (first | refine pu_not ?_ | refine pu_eql ?_ | refine pu_neq ?_ | refine pu_lss ?_ | refine pu_leq ?_ | refine pu_gtr ?_ | refine pu_geq ?_ | refine pu_add ?_ | refine pu_sub ?_ | refine pu_mul ?_ | refine pu_neg ?_ | refine fa_at ?_ | refine nl_ptr ?_ | refine ex20 ?_ | refine ex21 ?_ | refine ex30 ?_ | refine ex31 ?_ | refine ex32 ?_ | refine ln_rule ?_ | refine lnT_rule ?_ | refine pu_and ?_ | refine pu_or ?_ | refine pu_xor ?_ | refine pu_seq ?_ | refine pu_sne ?_)
  refine cnd (fun hq => ?_) (fun hq => ?_)
  · rw [no (by simp at hq; omega)] at k
    exact k _ h1.drop
  have c2 : 0 ≤ i.b := by simp at hq; omega
  clear hq
  repeat (first | refine pu_not ?_ | refine pu_eql ?_ | refine pu_neq ?_ | refine pu_lss ?_ | refine pu_leq ?_ | refine pu_gtr ?_ | refine pu_geq ?_ | refine pu_add ?_ | refine pu_sub ?_ | refine pu_mul ?_ | refine pu_neg ?_ | refine fa_at ?_ | refine nl_ptr ?_ | refine ex20 ?_ | refine ex21 ?_ | refine ex30 ?_ | refine ex31 ?_ | refine ex32 ?_ | refine ln_rule ?_ | refine lnT_rule ?_ | refine pu_and ?_ | refine pu_or ?_ | refine pu_xor ?_ | refine pu_seq ?_ | refine pu_sne ?_)
  refine ld_here h1 (.head _) (v := vI i.c) rfl ?_
  repeat (first | refine pu_not ?_ | refine pu_eql ?_ | refine pu_neq ?_ | refine pu_lss ?_ | refine pu_leq ?_ | refine pu_gtr ?_ | refine pu_geq ?_ | refine pu_add ?_ | refine pu_sub ?_ | refine pu_mul ?_ | refine pu_neg ?_ | refine fa_at ?_ | refine nl_ptr ?_ | refine ex20 ?_ | refine ex21 ?_ | refine ex30 ?_ | refine ex31 ?_ | refine ex32 ?_ | refine ln_rule ?_ | refine lnT_rule ?_ | refine pu_and ?_ | refine pu_or ?_ | refine pu_xor ?_ | refine pu_seq ?_ | refine pu_sne ?_)
  refine cnd (fun hq => ?_) (fun hq => ?_)
  · rw [no (by simp at hq; omega)] at k
    exact k _ h1.drop
  have c3 : 0 ≤ i.c := by simp at hq; omega
  clear hq
  repeat (first | refine pu_not ?_ | refine pu_eql ?_ | refine pu_neq ?_ | refine pu_lss ?_ | refine pu_leq ?_ | refine pu_gtr ?_ | refine pu_geq ?_ | refine pu_add ?_ | refine pu_sub ?_ | refine pu_mul ?_ | refine pu_neg ?_ | refine fa_at ?_ | refine nl_ptr ?_ | refine ex20 ?_ | refine ex21 ?_ | refine ex30 ?_ | refine ex31 ?_ | refine ex32 ?_ | refine ln_rule ?_ | refine lnT_rule ?_ | refine pu_and ?_ | refine pu_or ?_ | refine pu_xor ?_ | refine pu_seq ?_ | refine pu_sne ?_)
  refine ld_here h1 (.head _) (v := vI i.a) rfl ?_
  repeat (first | refine pu_not ?_ | refine pu_eql ?_ | refine pu_neq ?_ | refine pu_lss ?_ | refine pu_leq ?_ | refine pu_gtr ?_ | refine pu_geq ?_ | refine pu_add ?_ | refine pu_sub ?_ | refine pu_mul ?_ | refine pu_neg ?_ | refine fa_at ?_ | refine nl_ptr ?_ | refine ex20 ?_ | refine ex21 ?_ | refine ex30 ?_ | refine ex31 ?_ | refine ex32 ?_ | refine ln_rule ?_ | refine lnT_rule ?_ | refine pu_and ?_ | refine pu_or ?_ | refine pu_xor ?_ | refine pu_seq ?_ | refine pu_sne ?_)
  refine cnd (fun hq => ?_) (fun hq => ?_)
  · rw [no (by simp at hq; omega)] at k
    exact k _ h1.drop
  have c4 : i.a < 16 := by simp at hq; omega
  clear hq
  repeat (first | refine pu_not ?_ | refine pu_eql ?_ | refine pu_neq ?_ | refine pu_lss ?_ | refine pu_leq ?_ | refine pu_gtr ?_ | refine pu_geq ?_ | refine pu_add ?_ | refine pu_sub ?_ | refine pu_mul ?_ | refine pu_neg ?_ | refine fa_at ?_ | refine nl_ptr ?_ | refine ex20 ?_ | refine ex21 ?_ | refine ex30 ?_ | refine ex31 ?_ | refine ex32 ?_ | refine ln_rule ?_ | refine lnT_rule ?_ | refine pu_and ?_ | refine pu_or ?_ | refine pu_xor ?_ | refine pu_seq ?_ | refine pu_sne ?_)
  refine ld_here h1 (.head _) (v := vI i.b) rfl ?_
  repeat (first | refine pu_not ?_ | refine pu_eql ?_ | refine pu_neq ?_ | refine pu_lss ?_ | refine pu_leq ?_ | refine pu_gtr ?_ | refine pu_geq ?_ | refine pu_add ?_ | refine pu_sub ?_ | refine pu_mul ?_ | refine pu_neg ?_ | refine fa_at ?_ | refine nl_ptr ?_ | refine ex20 ?_ | refine ex21 ?_ | refine ex30 ?_ | refine ex31 ?_ | refine ex32 ?_ | refine ln_rule ?_ | refine lnT_rule ?_ | refine pu_and ?_ | refine pu_or ?_ | refine pu_xor ?_ | refine pu_seq ?_ | refine pu_sne ?_)
  refine cnd (fun hq => ?_) (fun hq => ?_)
  · rw [no (by simp at hq; omega)] at k
    exact k _ h1.drop
  have c5 : i.b < 16 := by simp at hq; omega
  clear hq
  repeat (first | refine pu_not ?_ | refine pu_eql ?_ | refine pu_neq ?_ | refine pu_lss ?_ | refine pu_leq ?_ | refine pu_gtr ?_ | refine pu_geq ?_ | refine pu_add ?_ | refine pu_sub ?_ | refine pu_mul ?_ | refine pu_neg ?_ | refine fa_at ?_ | refine nl_ptr ?_ | refine ex20 ?_ | refine ex21 ?_ | refine ex30 ?_ | refine ex31 ?_ | refine ex32 ?_ | refine ln_rule ?_ | refine lnT_rule ?_ | refine pu_and ?_ | refine pu_or ?_ | refine pu_xor ?_ | refine pu_seq ?_ | refine pu_sne ?_)
  refine ld_here h1 (.head _) (v := vI i.c) rfl ?_
  repeat (first | refine pu_not ?_ | refine pu_eql ?_ | refine pu_neq ?_ | refine pu_lss ?_ | refine pu_leq ?_ | refine pu_gtr ?_ | refine pu_geq ?_ | refine pu_add ?_ | refine pu_sub ?_ | refine pu_mul ?_ | refine pu_neg ?_ | refine fa_at ?_ | refine nl_ptr ?_ | refine ex20 ?_ | refine ex21 ?_ | refine ex30 ?_ | refine ex31 ?_ | refine ex32 ?_ | refine ln_rule ?_ | refine lnT_rule ?_ | refine pu_and ?_ | refine pu_or ?_ | refine pu_xor ?_ | refine pu_seq ?_ | refine pu_sne ?_)
  refine cnd (fun hq => ?_) (fun hq => ?_)
  · rw [no (by simp at hq; omega)] at k
    exact k _ h1.drop
  have c6 : i.c ≤ 16 := by simp at hq; omega
  clear hq no isop
  have hsm : i.Sm := ⟨⟨c1, c4⟩, ⟨c2, c5⟩, ⟨c3, c6⟩, hu⟩
  have hok : okI i = (decide (puts i (nmd i.op) (bare i.op) = i) &&
      (if i.op = 8 ∨ i.op = 10 then decide (i.b + i.c ≤ 16) && decide (i.imm < 32) else if i.op = 4 ∨ i.op = 5 then decide (i.imm < 512) else if i.op = 3 then decide (1 ≤ i.imm ∧ i.imm ≤ 12) && decide (i.c < 16) else true)) := by
    unfold okI
    rw [decide_eq_true (show 1 ≤ i.op ∧ i.op ≤ 19 ∧ 0 ≤ i.a ∧ 0 ≤ i.b ∧ 0 ≤ i.c ∧ i.a < 16 ∧ i.b < 16 ∧ i.c ≤ 16 from ⟨c0.1, c0.2, c1, c2, c3, c4, c5, c6⟩), Bool.true_and]
  rw [hok] at k
  clear hok
  repeat (first | refine pu_not ?_ | refine pu_eql ?_ | refine pu_neq ?_ | refine pu_lss ?_ | refine pu_leq ?_ | refine pu_gtr ?_ | refine pu_geq ?_ | refine pu_add ?_ | refine pu_sub ?_ | refine pu_mul ?_ | refine pu_neg ?_ | refine fa_at ?_ | refine nl_ptr ?_ | refine ex20 ?_ | refine ex21 ?_ | refine ex30 ?_ | refine ex31 ?_ | refine ex32 ?_ | refine ln_rule ?_ | refine lnT_rule ?_ | refine pu_and ?_ | refine pu_or ?_ | refine pu_xor ?_ | refine pu_seq ?_ | refine pu_sne ?_)
  refine ld_here h1 (.head _) (v := vI i.op) rfl ?_
  refine pu_build (bare i.op).cells (by kernel_rfl) ?_
  refine al_rule h1 (l := (bare 0).cells) (by kernel_rfl) (fun b2 w2 h2 => ?_)
  refine st_here (A := []) h2 (bare i.op).cells rfl rfl (ins_plain _) (by simp [Ins.cells]) (fun w3 h3 => ?_)
  have e3 : (bare 0).cells.take 0 ++ (bare i.op).cells ++ (bare 0).cells.drop (0 + 5) = (bare i.op).cells := rfl
  rw [e3] at h3
  repeat (first | refine pu_not ?_ | refine pu_eql ?_ | refine pu_neq ?_ | refine pu_lss ?_ | refine pu_leq ?_ | refine pu_gtr ?_ | refine pu_geq ?_ | refine pu_add ?_ | refine pu_sub ?_ | refine pu_mul ?_ | refine pu_neg ?_ | refine fa_at ?_ | refine nl_ptr ?_ | refine ex20 ?_ | refine ex21 ?_ | refine ex30 ?_ | refine ex31 ?_ | refine ex32 ?_ | refine ln_rule ?_ | refine lnT_rule ?_ | refine pu_and ?_ | refine pu_or ?_ | refine pu_xor ?_ | refine pu_seq ?_ | refine pu_sne ?_)
  refine ld_here h3 (.tail _ (.head _)) (v := vI i.op) rfl ?_
  refine named_spec h3 (fun S v w4 h4 hs => ?_)
  have hln : (prow (nmd i.op)).length = (nmd i.op).length := by simp [prow]
  have hl4 := nmd_len i.op
  refine sls_ln hs ?_
  rw [hln]
  refine ⟨fun l w => ∃ n : Nat, l = [vI n] ∧ n ≤ (nmd i.op).length ∧ Ow B w (S ++ (b2, iO (puts i ((nmd i.op).take n) (bare i.op))) :: (b, iO i) :: H), fun l _ => match l with | [.int _ q] => (nmd i.op).length - q.toNat | _ => 0, ⟨0, rfl, Nat.zero_le _, h4⟩, ?_⟩
  clear h4 h3 h2 h1
  rintro l w5 ⟨n, rfl, hn, h5⟩ j
  repeat (first | refine pu_not ?_ | refine pu_eql ?_ | refine pu_neq ?_ | refine pu_lss ?_ | refine pu_leq ?_ | refine pu_gtr ?_ | refine pu_geq ?_ | refine pu_add ?_ | refine pu_sub ?_ | refine pu_mul ?_ | refine pu_neg ?_ | refine fa_at ?_ | refine nl_ptr ?_ | refine ex20 ?_ | refine ex21 ?_ | refine ex30 ?_ | refine ex31 ?_ | refine ex32 ?_ | refine ln_rule ?_ | refine lnT_rule ?_ | refine pu_and ?_ | refine pu_or ?_ | refine pu_xor ?_ | refine pu_seq ?_ | refine pu_sne ?_)
  refine cnd (fun hlt => ?_) (fun hlt => ?_)
  · have hlt : n < (nmd i.op).length := by simpa using hlt
    refine sls_ld h5 (hs.mono fun x hx => List.mem_append_left _ hx) (by omega) (by rw [Int.toNat_natCast]; exact pk_at hlt) ?_
    have htk : (nmd i.op).take (n + 1) = (nmd i.op).take n ++ [(nmd i.op)[n]] := by rw [List.take_add_one, List.getElem?_eq_getElem hlt]; rfl
    generalize (nmd i.op)[n] = p at htk
    refine al_rule h5 (l := zpart) (by kernel_rfl) (fun b3 w6 h6 => ?_)
    refine st_here (A := []) h6 p.cells rfl (by cases p <;> rfl) (pk_plain _) (by simp) (fun w7 h7 => ?_)
    simp only [List.take_zero, List.nil_append, Nat.zero_add, List.drop_succ_cons, List.drop_zero, List.drop_nil, List.append_nil] at h7
    refine ⟨fun w => Ow B w ((b3, cel p.cells T.t_instr_part) :: (S ++ (b2, iO (puts i ((nmd i.op).take n) (bare i.op))) :: (b, iO i) :: H)), h7.drew, ?_⟩
    repeat (first | refine pu_not ?_ | refine pu_eql ?_ | refine pu_neq ?_ | refine pu_lss ?_ | refine pu_leq ?_ | refine pu_gtr ?_ | refine pu_geq ?_ | refine pu_add ?_ | refine pu_sub ?_ | refine pu_mul ?_ | refine pu_neg ?_ | refine fa_at ?_ | refine nl_ptr ?_ | refine ex20 ?_ | refine ex21 ?_ | refine ex30 ?_ | refine ex31 ?_ | refine ex32 ?_ | refine ln_rule ?_ | refine lnT_rule ?_ | refine pu_and ?_ | refine pu_or ?_ | refine pu_xor ?_ | refine pu_seq ?_ | refine pu_sne ?_)
    refine lds_here (fun w h => h) (.head _) (v := fnc p.fp #[]) (by cases p <;> rfl) ?_
    repeat (first | refine pu_not ?_ | refine pu_eql ?_ | refine pu_neq ?_ | refine pu_lss ?_ | refine pu_leq ?_ | refine pu_gtr ?_ | refine pu_geq ?_ | refine pu_add ?_ | refine pu_sub ?_ | refine pu_mul ?_ | refine pu_neg ?_ | refine fa_at ?_ | refine nl_ptr ?_ | refine ex20 ?_ | refine ex21 ?_ | refine ex30 ?_ | refine ex31 ?_ | refine ex32 ?_ | refine ln_rule ?_ | refine lnT_rule ?_ | refine pu_and ?_ | refine pu_or ?_ | refine pu_xor ?_ | refine pu_seq ?_ | refine pu_sne ?_)
    refine lds_here (fun w h => h) (.head _) (v := fnc p.fg #[]) (by cases p <;> rfl) ?_
    refine ldsn_here (fun w h => h) (.tail _ (List.mem_append_right _ (.tail _ (.head _)))) (vs := i.cells) rfl rfl ?_
    refine get_pf hsm p [] _ _ _ h7.drew (fun w8 h8 => ?_)
    refine ⟨h8, ?_⟩
    have hg := get_small hsm p
    refine put_call (A := (b3, cel p.cells T.t_instr_part) :: S) p hg.1 hg.2 h8 (fun w9 r h9 => ?_)
    repeat (first | refine pu_not ?_ | refine pu_eql ?_ | refine pu_neq ?_ | refine pu_lss ?_ | refine pu_leq ?_ | refine pu_gtr ?_ | refine pu_geq ?_ | refine pu_add ?_ | refine pu_sub ?_ | refine pu_mul ?_ | refine pu_neg ?_ | refine fa_at ?_ | refine nl_ptr ?_ | refine ex20 ?_ | refine ex21 ?_ | refine ex30 ?_ | refine ex31 ?_ | refine ex32 ?_ | refine ln_rule ?_ | refine lnT_rule ?_ | refine pu_and ?_ | refine pu_or ?_ | refine pu_xor ?_ | refine pu_seq ?_ | refine pu_sne ?_)
    rw [wrap64_in (by omega) (by omega)]
    refine ⟨⟨n + 1, rfl, hlt, ?_⟩, by simp; omega⟩
    rw [htk, puts_snoc]
    exact Ow.drop (p := (b3, cel p.cells T.t_instr_part)) h9
  · obtain rfl : n = (nmd i.op).length := by simp at hlt; omega
    rw [List.take_length] at h5
    generalize puts i (nmd i.op) (bare i.op) = q at h5 k
    refine ldn_here h5 (List.mem_append_right _ (.head _)) (vs := q.cells) rfl rfl ?_
    refine ldn_here h5 (List.mem_append_right _ (.tail _ (.head _))) (vs := i.cells) rfl rfl ?_
    refine pu_aneq (by kernel_rfl) (eq_ins q i) ?_
    have h6 : Ow B w5 ((b, iO i) :: H) := h5.sub (((List.Sublist.refl _).cons _).trans (List.sublist_append_right S _))
    refine cnd (fun hq => ?_) (fun hq => ?_)
    · have hq : ¬ q = i := by simpa using hq
      rw [decide_eq_false hq] at k
      exact k _ h6.drop
    have hq : q = i := by simpa using hq
    rw [decide_eq_true hq, Bool.true_and] at k
    clear hq h5
    repeat (first | refine pu_not ?_ | refine pu_eql ?_ | refine pu_neq ?_ | refine pu_lss ?_ | refine pu_leq ?_ | refine pu_gtr ?_ | refine pu_geq ?_ | refine pu_add ?_ | refine pu_sub ?_ | refine pu_mul ?_ | refine pu_neg ?_ | refine fa_at ?_ | refine nl_ptr ?_ | refine ex20 ?_ | refine ex21 ?_ | refine ex30 ?_ | refine ex31 ?_ | refine ex32 ?_ | refine ln_rule ?_ | refine lnT_rule ?_ | refine pu_and ?_ | refine pu_or ?_ | refine pu_xor ?_ | refine pu_seq ?_ | refine pu_sne ?_)
    refine ld_here h6 (.head _) (v := vI i.op) rfl ?_
    refine bs_rule h6 [vI 8, vI 10] (by kernel_rfl) (fun b7 w7 h7 => ?_)
    refine among_spec (xs := [8, 10]) h7 (sl_here (l := [vI 8, vI 10]) (.head _)) (by simp) (fun w8 h8 => ?_)
    have h8 := h8.drop
    refine cnd (fun hq => ?_) (fun hq => ?_)
    · have hq : i.op = 8 ∨ i.op = 10 := by simpa using hq
      rw [if_pos hq] at k
      repeat (first | refine pu_not ?_ | refine pu_eql ?_ | refine pu_neq ?_ | refine pu_lss ?_ | refine pu_leq ?_ | refine pu_gtr ?_ | refine pu_geq ?_ | refine pu_add ?_ | refine pu_sub ?_ | refine pu_mul ?_ | refine pu_neg ?_ | refine fa_at ?_ | refine nl_ptr ?_ | refine ex20 ?_ | refine ex21 ?_ | refine ex30 ?_ | refine ex31 ?_ | refine ex32 ?_ | refine ln_rule ?_ | refine lnT_rule ?_ | refine pu_and ?_ | refine pu_or ?_ | refine pu_xor ?_ | refine pu_seq ?_ | refine pu_sne ?_)
      refine ld_here h8 (.head _) (v := vI i.b) rfl ?_
      repeat (first | refine pu_not ?_ | refine pu_eql ?_ | refine pu_neq ?_ | refine pu_lss ?_ | refine pu_leq ?_ | refine pu_gtr ?_ | refine pu_geq ?_ | refine pu_add ?_ | refine pu_sub ?_ | refine pu_mul ?_ | refine pu_neg ?_ | refine fa_at ?_ | refine nl_ptr ?_ | refine ex20 ?_ | refine ex21 ?_ | refine ex30 ?_ | refine ex31 ?_ | refine ex32 ?_ | refine ln_rule ?_ | refine lnT_rule ?_ | refine pu_and ?_ | refine pu_or ?_ | refine pu_xor ?_ | refine pu_seq ?_ | refine pu_sne ?_)
      refine ld_here h8 (.head _) (v := vI i.c) rfl ?_
      repeat (first | refine pu_not ?_ | refine pu_eql ?_ | refine pu_neq ?_ | refine pu_lss ?_ | refine pu_leq ?_ | refine pu_gtr ?_ | refine pu_geq ?_ | refine pu_add ?_ | refine pu_sub ?_ | refine pu_mul ?_ | refine pu_neg ?_ | refine fa_at ?_ | refine nl_ptr ?_ | refine ex20 ?_ | refine ex21 ?_ | refine ex30 ?_ | refine ex31 ?_ | refine ex32 ?_ | refine ln_rule ?_ | refine lnT_rule ?_ | refine pu_and ?_ | refine pu_or ?_ | refine pu_xor ?_ | refine pu_seq ?_ | refine pu_sne ?_)
      rw [wrap64_in (by omega) (by omega)]
      refine cnd (fun hq => ?_) (fun hq => ?_)
      · have hq : i.b + i.c ≤ 16 := by simpa using hq
        rw [decide_eq_true hq, Bool.true_and] at k
        repeat (first | refine pu_not ?_ | refine pu_eql ?_ | refine pu_neq ?_ | refine pu_lss ?_ | refine pu_leq ?_ | refine pu_gtr ?_ | refine pu_geq ?_ | refine pu_add ?_ | refine pu_sub ?_ | refine pu_mul ?_ | refine pu_neg ?_ | refine fa_at ?_ | refine nl_ptr ?_ | refine ex20 ?_ | refine ex21 ?_ | refine ex30 ?_ | refine ex31 ?_ | refine ex32 ?_ | refine ln_rule ?_ | refine lnT_rule ?_ | refine pu_and ?_ | refine pu_or ?_ | refine pu_xor ?_ | refine pu_seq ?_ | refine pu_sne ?_)
        refine ld_here h8 (.head _) (v := .int .u32 i.imm) rfl ?_
        repeat (first | refine pu_not ?_ | refine pu_eql ?_ | refine pu_neq ?_ | refine pu_lss ?_ | refine pu_leq ?_ | refine pu_gtr ?_ | refine pu_geq ?_ | refine pu_add ?_ | refine pu_sub ?_ | refine pu_mul ?_ | refine pu_neg ?_ | refine fa_at ?_ | refine nl_ptr ?_ | refine ex20 ?_ | refine ex21 ?_ | refine ex30 ?_ | refine ex31 ?_ | refine ex32 ?_ | refine ln_rule ?_ | refine lnT_rule ?_ | refine pu_and ?_ | refine pu_or ?_ | refine pu_xor ?_ | refine pu_seq ?_ | refine pu_sne ?_)
        exact k _ h8.drop
      · have hq : ¬ i.b + i.c ≤ 16 := by simpa using hq
        rw [decide_eq_false hq, Bool.false_and] at k
        exact k _ h8.drop
    have hq : ¬ (i.op = 8 ∨ i.op = 10) := by simpa using hq
    rw [if_neg hq] at k
    clear hq
    repeat (first | refine pu_not ?_ | refine pu_eql ?_ | refine pu_neq ?_ | refine pu_lss ?_ | refine pu_leq ?_ | refine pu_gtr ?_ | refine pu_geq ?_ | refine pu_add ?_ | refine pu_sub ?_ | refine pu_mul ?_ | refine pu_neg ?_ | refine fa_at ?_ | refine nl_ptr ?_ | refine ex20 ?_ | refine ex21 ?_ | refine ex30 ?_ | refine ex31 ?_ | refine ex32 ?_ | refine ln_rule ?_ | refine lnT_rule ?_ | refine pu_and ?_ | refine pu_or ?_ | refine pu_xor ?_ | refine pu_seq ?_ | refine pu_sne ?_)
    refine ld_here h8 (.head _) (v := vI i.op) rfl ?_
    refine bs_rule h8 [vI 4, vI 5] (by kernel_rfl) (fun b9 w9 h9 => ?_)
    refine among_spec (xs := [4, 5]) h9 (sl_here (l := [vI 4, vI 5]) (.head _)) (by simp) (fun w10 h10 => ?_)
    have h10 := h10.drop
    refine cnd (fun hq => ?_) (fun hq => ?_)
    · have hq : i.op = 4 ∨ i.op = 5 := by simpa using hq
      rw [if_pos hq] at k
      repeat (first | refine pu_not ?_ | refine pu_eql ?_ | refine pu_neq ?_ | refine pu_lss ?_ | refine pu_leq ?_ | refine pu_gtr ?_ | refine pu_geq ?_ | refine pu_add ?_ | refine pu_sub ?_ | refine pu_mul ?_ | refine pu_neg ?_ | refine fa_at ?_ | refine nl_ptr ?_ | refine ex20 ?_ | refine ex21 ?_ | refine ex30 ?_ | refine ex31 ?_ | refine ex32 ?_ | refine ln_rule ?_ | refine lnT_rule ?_ | refine pu_and ?_ | refine pu_or ?_ | refine pu_xor ?_ | refine pu_seq ?_ | refine pu_sne ?_)
      refine ld_here h10 (.head _) (v := .int .u32 i.imm) rfl ?_
      repeat (first | refine pu_not ?_ | refine pu_eql ?_ | refine pu_neq ?_ | refine pu_lss ?_ | refine pu_leq ?_ | refine pu_gtr ?_ | refine pu_geq ?_ | refine pu_add ?_ | refine pu_sub ?_ | refine pu_mul ?_ | refine pu_neg ?_ | refine fa_at ?_ | refine nl_ptr ?_ | refine ex20 ?_ | refine ex21 ?_ | refine ex30 ?_ | refine ex31 ?_ | refine ex32 ?_ | refine ln_rule ?_ | refine lnT_rule ?_ | refine pu_and ?_ | refine pu_or ?_ | refine pu_xor ?_ | refine pu_seq ?_ | refine pu_sne ?_)
      exact k _ h10.drop
    have hq : ¬ (i.op = 4 ∨ i.op = 5) := by simpa using hq
    rw [if_neg hq] at k
    clear hq
    repeat (first | refine pu_not ?_ | refine pu_eql ?_ | refine pu_neq ?_ | refine pu_lss ?_ | refine pu_leq ?_ | refine pu_gtr ?_ | refine pu_geq ?_ | refine pu_add ?_ | refine pu_sub ?_ | refine pu_mul ?_ | refine pu_neg ?_ | refine fa_at ?_ | refine nl_ptr ?_ | refine ex20 ?_ | refine ex21 ?_ | refine ex30 ?_ | refine ex31 ?_ | refine ex32 ?_ | refine ln_rule ?_ | refine lnT_rule ?_ | refine pu_and ?_ | refine pu_or ?_ | refine pu_xor ?_ | refine pu_seq ?_ | refine pu_sne ?_)
    refine ld_here h10 (.head _) (v := vI i.op) rfl ?_
    repeat (first | refine pu_not ?_ | refine pu_eql ?_ | refine pu_neq ?_ | refine pu_lss ?_ | refine pu_leq ?_ | refine pu_gtr ?_ | refine pu_geq ?_ | refine pu_add ?_ | refine pu_sub ?_ | refine pu_mul ?_ | refine pu_neg ?_ | refine fa_at ?_ | refine nl_ptr ?_ | refine ex20 ?_ | refine ex21 ?_ | refine ex30 ?_ | refine ex31 ?_ | refine ex32 ?_ | refine ln_rule ?_ | refine lnT_rule ?_ | refine pu_and ?_ | refine pu_or ?_ | refine pu_xor ?_ | refine pu_seq ?_ | refine pu_sne ?_)
    refine cnd (fun hq => ?_) (fun hq => ?_)
    · have hq : i.op = 3 := by simpa using hq
      rw [if_pos hq] at k
      repeat (first | refine pu_not ?_ | refine pu_eql ?_ | refine pu_neq ?_ | refine pu_lss ?_ | refine pu_leq ?_ | refine pu_gtr ?_ | refine pu_geq ?_ | refine pu_add ?_ | refine pu_sub ?_ | refine pu_mul ?_ | refine pu_neg ?_ | refine fa_at ?_ | refine nl_ptr ?_ | refine ex20 ?_ | refine ex21 ?_ | refine ex30 ?_ | refine ex31 ?_ | refine ex32 ?_ | refine ln_rule ?_ | refine lnT_rule ?_ | refine pu_and ?_ | refine pu_or ?_ | refine pu_xor ?_ | refine pu_seq ?_ | refine pu_sne ?_)
      refine ld_here h10 (.head _) (v := .int .u32 i.imm) rfl ?_
      refine cvt (by kernel_rfl) (by kernel_rfl) (m := i.imm) (by rw [wrap64_in (by omega) (by omega)]) ?_
      refine name_spec h10 (fun w11 h11 => ?_)
      repeat (first | refine pu_not ?_ | refine pu_eql ?_ | refine pu_neq ?_ | refine pu_lss ?_ | refine pu_leq ?_ | refine pu_gtr ?_ | refine pu_geq ?_ | refine pu_add ?_ | refine pu_sub ?_ | refine pu_mul ?_ | refine pu_neg ?_ | refine fa_at ?_ | refine nl_ptr ?_ | refine ex20 ?_ | refine ex21 ?_ | refine ex30 ?_ | refine ex31 ?_ | refine ex32 ?_ | refine ln_rule ?_ | refine lnT_rule ?_ | refine pu_and ?_ | refine pu_or ?_ | refine pu_xor ?_ | refine pu_seq ?_ | refine pu_sne ?_)
      unfold nameOf
      refine cnd (fun hq => ?_) (fun hq => ?_)
      · have hq : 1 ≤ i.imm ∧ i.imm ≤ 12 := by
          false_or_by_contra
          rename_i hn
          rw [if_neg hn] at hq
          simp at hq
        rw [decide_eq_true hq, Bool.true_and] at k
        repeat (first | refine pu_not ?_ | refine pu_eql ?_ | refine pu_neq ?_ | refine pu_lss ?_ | refine pu_leq ?_ | refine pu_gtr ?_ | refine pu_geq ?_ | refine pu_add ?_ | refine pu_sub ?_ | refine pu_mul ?_ | refine pu_neg ?_ | refine fa_at ?_ | refine nl_ptr ?_ | refine ex20 ?_ | refine ex21 ?_ | refine ex30 ?_ | refine ex31 ?_ | refine ex32 ?_ | refine ln_rule ?_ | refine lnT_rule ?_ | refine pu_and ?_ | refine pu_or ?_ | refine pu_xor ?_ | refine pu_seq ?_ | refine pu_sne ?_)
        refine ld_here h11 (.head _) (v := vI i.c) rfl ?_
        repeat (first | refine pu_not ?_ | refine pu_eql ?_ | refine pu_neq ?_ | refine pu_lss ?_ | refine pu_leq ?_ | refine pu_gtr ?_ | refine pu_geq ?_ | refine pu_add ?_ | refine pu_sub ?_ | refine pu_mul ?_ | refine pu_neg ?_ | refine fa_at ?_ | refine nl_ptr ?_ | refine ex20 ?_ | refine ex21 ?_ | refine ex30 ?_ | refine ex31 ?_ | refine ex32 ?_ | refine ln_rule ?_ | refine lnT_rule ?_ | refine pu_and ?_ | refine pu_or ?_ | refine pu_xor ?_ | refine pu_seq ?_ | refine pu_sne ?_)
        exact k _ h11.drop
      · have hq : ¬ (1 ≤ i.imm ∧ i.imm ≤ 12) := by
          intro hn
          rw [if_pos hn] at hq
          simp at hq
        rw [decide_eq_false hq, Bool.false_and] at k
        exact k _ h11.drop
    · have hq : ¬ i.op = 3 := by simpa using hq
      rw [if_neg hq] at k
      exact k _ h10.drop
end
end Go.Proofs.YtkkkcafkepnecaaGreat

/-! Instructions: registers; places. -/
set_option linter.unusedVariables false
set_option linter.unusedSimpArgs false
namespace Go.Proofs.YtkkkcafkepnecaaGreat
open Go Go.RowKit Vc
attribute [local irreducible] binV Op.unary convert nlW faW ldS ldW ixS ixA ixV ixT exW lnS lnT pu stW alW opW opU bsW mkW

section
variable {B w : World} {H X : Hp} {K : Value → World → Prop} {PK : List PanicEntry → World → Prop} {KK : Value → Prop}
theorem icheck_spec {i : Ins} (hu : 0 ≤ i.imm ∧ i.imm < 4294967296) (h : Ow B w H) (k : ∀ w', Ow B w' H → K (vI (if okI i = true then 0 else 2)) w') : callW PG N.instr_Check [.agg i.cells.toArray] K PK w := by
  refine instr_Check.ok ?_
  unfold instr_Check.C
  refine al_rule h (l := i.cells) rfl (fun b w1 h1 => ?_)
  refine ldn_here h1 (.head _) (vs := i.cells) rfl rfl ?_
  refine right_spec hu h1 (fun w2 h2 => ?_)
  repeat (first | refine pu_not ?_ | refine pu_eql ?_ | refine pu_neq ?_ | refine pu_lss ?_ | refine pu_leq ?_ | refine pu_gtr ?_ | refine pu_geq ?_ | refine pu_add ?_ | refine pu_sub ?_ | refine pu_mul ?_ | refine pu_neg ?_ | refine fa_at ?_ | refine nl_ptr ?_ | refine ex20 ?_ | refine ex21 ?_ | refine ex30 ?_ | refine ex31 ?_ | refine ex32 ?_ | refine ln_rule ?_ | refine lnT_rule ?_ | refine pu_and ?_ | refine pu_or ?_ | refine pu_xor ?_ | refine pu_seq ?_ | refine pu_sne ?_)
  refine cnd (fun hq => ?_) (fun hq => ?_)
  · rw [if_neg (by simpa using hq)] at k
    exact k _ h2.drop
  · rw [if_pos (by simpa using hq)] at k
    exact k _ h2.drop
def Pk.isR : Pk → Bool
  | .a => true
  | .b => true
  | .c => true
  | _ => false
def Pk.mark : Pk → List Nat
  | .a => [114]
  | .b => [114]
  | .c => [114]
  | .n => []
  | .i m => m
theorem mark_cell (p : Pk) : p.cells[1]? = some (.string (bs p.mark)) := by cases p <;> rfl
def okP (l : List Pk) : Prop := ∀ p ∈ l, ((bs p.mark).toList == (bs [114]).toList) = p.isR
theorem mk_ne (m : List Nat) (hb : Byt m) (hm : m ≠ [114]) : ((bs m).toList == (bs [114]).toList) = false := by
  rw [bytes_eq]
  exact decide_eq_false fun h => hm ((bs_inj hb (fun x hx => by simp at hx; omega)).1 h)
theorem pk_r : ∀ p : Pk, (p = .a ∨ p = .b ∨ p = .c ∨ p = .n ∨ p = .i [] ∨ p = .i [45] ∨ p = .i [102]) → ((bs p.mark).toList == (bs [114]).toList) = p.isR := by
  intro p hp
  rcases hp with rfl | rfl | rfl | rfl | rfl | rfl | rfl
  · exact beq_self_eq_true _
  · exact beq_self_eq_true _
  · exact beq_self_eq_true _
  · exact mk_ne [] (fun x hx => by simp at hx) (by simp)
  · exact mk_ne [] (fun x hx => by simp at hx) (by simp)
  · exact mk_ne [45] (fun x hx => by simp at hx; omega) (by simp)
  · exact mk_ne [102] (fun x hx => by simp at hx; omega) (by simp)
theorem ite_okP {p : Prop} [Decidable p] {a b : List Pk} (ha : okP a) (hb : okP b) : okP (if p then a else b) := by
  by_cases h : p
  · rw [if_pos h]; exact ha
  · rw [if_neg h]; exact hb
theorem nmd_okP (op : Int) : okP (nmd op) := by
  unfold nmd
  iterate 18 refine ite_okP (fun p hp => pk_r p (by simp at hp; rcases hp with rfl | rfl | rfl | rfl <;> simp)) ?_
  intro p hp
  simp at hp
def regF (i : Ins) (n : Int) (p : Pk) : Int := if p.isR = true then (if p.get i + 1 > n then p.get i + 1 else n) else n
def regsI (i : Ins) : Int := if okI i = true then (if i.op = 8 ∨ i.op = 10 then (if i.b + i.c > (nmd i.op).foldl (regF i) 0 then i.b + i.c else (nmd i.op).foldl (regF i) 0) else (nmd i.op).foldl (regF i) 0) else 0
theorem ok_sm {i : Ins} (hu : 0 ≤ i.imm ∧ i.imm < 4294967296) (h : okI i = true) : i.Sm := by
  unfold okI at h
  rw [Bool.and_eq_true, Bool.and_eq_true] at h
  have := of_decide_eq_true h.1.1
  exact ⟨⟨this.2.2.1, this.2.2.2.2.2.1⟩, ⟨this.2.2.2.1, this.2.2.2.2.2.2.1⟩, ⟨this.2.2.2.2.1, this.2.2.2.2.2.2.2⟩, hu⟩
theorem regs_spec {i : Ins} (hu : 0 ≤ i.imm ∧ i.imm < 4294967296) (h : Ow B w H) (k : ∀ w', Ow B w' H → K (vI (regsI i)) w') : callW PG N.instr_Regs [.agg i.cells.toArray] K PK w := by
  refine instr_Regs.ok ?_
  unfold instr_Regs.C
  refine al_rule h (l := i.cells) rfl (fun b w1 h1 => ?_)
  refine ldn_here h1 (.head _) (vs := i.cells) rfl rfl ?_
  refine right_spec hu h1 (fun w2 h2 => ?_)
  repeat (first | refine pu_not ?_ | refine pu_eql ?_ | refine pu_neq ?_ | refine pu_lss ?_ | refine pu_leq ?_ | refine pu_gtr ?_ | refine pu_geq ?_ | refine pu_add ?_ | refine pu_sub ?_ | refine pu_mul ?_ | refine pu_neg ?_ | refine fa_at ?_ | refine nl_ptr ?_ | refine ex20 ?_ | refine ex21 ?_ | refine ex30 ?_ | refine ex31 ?_ | refine ex32 ?_ | refine ln_rule ?_ | refine lnT_rule ?_ | refine pu_and ?_ | refine pu_or ?_ | refine pu_xor ?_ | refine pu_seq ?_ | refine pu_sne ?_)
  refine cnd (fun hq => ?_) (fun hq => ?_)
  · have hq : ¬ okI i = true := by simpa using hq
    unfold regsI at k
    rw [if_neg hq] at k
    exact k _ h2.drop
  have hq : okI i = true := by simpa using hq
  unfold regsI at k
  rw [if_pos hq] at k
  have hsm := ok_sm hu hq
  repeat (first | refine pu_not ?_ | refine pu_eql ?_ | refine pu_neq ?_ | refine pu_lss ?_ | refine pu_leq ?_ | refine pu_gtr ?_ | refine pu_geq ?_ | refine pu_add ?_ | refine pu_sub ?_ | refine pu_mul ?_ | refine pu_neg ?_ | refine fa_at ?_ | refine nl_ptr ?_ | refine ex20 ?_ | refine ex21 ?_ | refine ex30 ?_ | refine ex31 ?_ | refine ex32 ?_ | refine ln_rule ?_ | refine lnT_rule ?_ | refine pu_and ?_ | refine pu_or ?_ | refine pu_xor ?_ | refine pu_seq ?_ | refine pu_sne ?_)
  refine ld_here h2 (.head _) (v := vI i.op) rfl ?_
  refine named_spec h2 (fun S v w4 h4 hs => ?_)
  have hln : (prow (nmd i.op)).length = (nmd i.op).length := by simp [prow]
  have hl4 := nmd_len i.op
  have hokp := nmd_okP i.op
  refine sls_ln hs ?_
  rw [hln]
  refine ⟨fun l w => ∃ n : Nat, l = [vI (((nmd i.op).take n).foldl (regF i) 0), vI n] ∧ n ≤ (nmd i.op).length ∧ Ow B w (S ++ (b, iO i) :: H), fun l _ => match l with | [_, .int _ q] => (nmd i.op).length - q.toNat | _ => 0, ⟨0, rfl, Nat.zero_le _, h4⟩, ?_⟩
  rintro l w5 ⟨n, rfl, hn, h5⟩ j
  repeat (first | refine pu_not ?_ | refine pu_eql ?_ | refine pu_neq ?_ | refine pu_lss ?_ | refine pu_leq ?_ | refine pu_gtr ?_ | refine pu_geq ?_ | refine pu_add ?_ | refine pu_sub ?_ | refine pu_mul ?_ | refine pu_neg ?_ | refine fa_at ?_ | refine nl_ptr ?_ | refine ex20 ?_ | refine ex21 ?_ | refine ex30 ?_ | refine ex31 ?_ | refine ex32 ?_ | refine ln_rule ?_ | refine lnT_rule ?_ | refine pu_and ?_ | refine pu_or ?_ | refine pu_xor ?_ | refine pu_seq ?_ | refine pu_sne ?_)
  refine cnd (fun hlt => ?_) (fun hlt => ?_)
  · have hlt : n < (nmd i.op).length := by simpa using hlt
    refine sls_ld h5 (hs.mono fun x hx => List.mem_append_left _ hx) (by omega) (by rw [Int.toNat_natCast]; exact pk_at hlt) ?_
    have hpm := hokp _ (List.getElem_mem hlt)
    have htk : (nmd i.op).take (n + 1) = (nmd i.op).take n ++ [(nmd i.op)[n]] := by rw [List.take_add_one, List.getElem?_eq_getElem hlt]; rfl
    generalize (nmd i.op)[n] = p at htk hpm
    have hfo : ((nmd i.op).take (n + 1)).foldl (regF i) 0 = regF i (((nmd i.op).take n).foldl (regF i) 0) p := by rw [htk, List.foldl_append]; rfl
    refine al_rule h5 (l := zpart) (by kernel_rfl) (fun b3 w6 h6 => ?_)
    refine st_here (A := []) h6 p.cells rfl (by cases p <;> rfl) (pk_plain _) (by simp) (fun w7 h7 => ?_)
    simp only [List.take_zero, List.nil_append, Nat.zero_add, List.drop_succ_cons, List.drop_zero, List.drop_nil, List.append_nil] at h7
    repeat (first | refine pu_not ?_ | refine pu_eql ?_ | refine pu_neq ?_ | refine pu_lss ?_ | refine pu_leq ?_ | refine pu_gtr ?_ | refine pu_geq ?_ | refine pu_add ?_ | refine pu_sub ?_ | refine pu_mul ?_ | refine pu_neg ?_ | refine fa_at ?_ | refine nl_ptr ?_ | refine ex20 ?_ | refine ex21 ?_ | refine ex30 ?_ | refine ex31 ?_ | refine ex32 ?_ | refine ln_rule ?_ | refine lnT_rule ?_ | refine pu_and ?_ | refine pu_or ?_ | refine pu_xor ?_ | refine pu_seq ?_ | refine pu_sne ?_)
    refine ld_here h7 (.head _) (by rw [Nat.zero_add]; exact mark_cell p) ?_
    refine pu_seq ?_
    rw [hpm]
    refine cnd (fun hr => ?_) (fun hr => ?_)
    · repeat (first | refine pu_not ?_ | refine pu_eql ?_ | refine pu_neq ?_ | refine pu_lss ?_ | refine pu_leq ?_ | refine pu_gtr ?_ | refine pu_geq ?_ | refine pu_add ?_ | refine pu_sub ?_ | refine pu_mul ?_ | refine pu_neg ?_ | refine fa_at ?_ | refine nl_ptr ?_ | refine ex20 ?_ | refine ex21 ?_ | refine ex30 ?_ | refine ex31 ?_ | refine ex32 ?_ | refine ln_rule ?_ | refine lnT_rule ?_ | refine pu_and ?_ | refine pu_or ?_ | refine pu_xor ?_ | refine pu_seq ?_ | refine pu_sne ?_)
      refine ld_here h7 (.head _) (v := fnc p.fg #[]) (by cases p <;> rfl) ?_
      refine ldn_here h7 (.tail _ (List.mem_append_right _ (.head _))) (vs := i.cells) rfl rfl ?_
      refine get_pf hsm p [] _ _ _ h7 (fun w8 h8 => ?_)
      have hg := get_small hsm p
      refine cvt (by kernel_rfl) und_int (m := p.get i) (by rw [wrap64_in (by omega) (by omega)]) ?_
      repeat (first | refine pu_not ?_ | refine pu_eql ?_ | refine pu_neq ?_ | refine pu_lss ?_ | refine pu_leq ?_ | refine pu_gtr ?_ | refine pu_geq ?_ | refine pu_add ?_ | refine pu_sub ?_ | refine pu_mul ?_ | refine pu_neg ?_ | refine fa_at ?_ | refine nl_ptr ?_ | refine ex20 ?_ | refine ex21 ?_ | refine ex30 ?_ | refine ex31 ?_ | refine ex32 ?_ | refine ln_rule ?_ | refine lnT_rule ?_ | refine pu_and ?_ | refine pu_or ?_ | refine pu_xor ?_ | refine pu_seq ?_ | refine pu_sne ?_)
      rw [wrap64_in (by omega) (by omega)]
      refine pu_max2 ?_
      repeat (first | refine pu_not ?_ | refine pu_eql ?_ | refine pu_neq ?_ | refine pu_lss ?_ | refine pu_leq ?_ | refine pu_gtr ?_ | refine pu_geq ?_ | refine pu_add ?_ | refine pu_sub ?_ | refine pu_mul ?_ | refine pu_neg ?_ | refine fa_at ?_ | refine nl_ptr ?_ | refine ex20 ?_ | refine ex21 ?_ | refine ex30 ?_ | refine ex31 ?_ | refine ex32 ?_ | refine ln_rule ?_ | refine lnT_rule ?_ | refine pu_and ?_ | refine pu_or ?_ | refine pu_xor ?_ | refine pu_seq ?_ | refine pu_sne ?_)
      rw [wrap64_in (by omega) (by omega)]
      refine ⟨⟨n + 1, ?_, hlt, Ow.drop (p := (b3, cel p.cells T.t_instr_part)) h8⟩, by simp; omega⟩
      rw [hfo]
      unfold regF
      rw [if_pos hr]; rfl
    · repeat (first | refine pu_not ?_ | refine pu_eql ?_ | refine pu_neq ?_ | refine pu_lss ?_ | refine pu_leq ?_ | refine pu_gtr ?_ | refine pu_geq ?_ | refine pu_add ?_ | refine pu_sub ?_ | refine pu_mul ?_ | refine pu_neg ?_ | refine fa_at ?_ | refine nl_ptr ?_ | refine ex20 ?_ | refine ex21 ?_ | refine ex30 ?_ | refine ex31 ?_ | refine ex32 ?_ | refine ln_rule ?_ | refine lnT_rule ?_ | refine pu_and ?_ | refine pu_or ?_ | refine pu_xor ?_ | refine pu_seq ?_ | refine pu_sne ?_)
      rw [wrap64_in (by omega) (by omega)]
      refine ⟨⟨n + 1, ?_, hlt, h7.drop⟩, by simp; omega⟩
      rw [hfo]
      unfold regF
      rw [if_neg (by simp [hr])]; rfl
  · obtain rfl : n = (nmd i.op).length := by simp at hlt; omega
    rw [List.take_length]
    have h6 : Ow B w5 ((b, iO i) :: H) := h5.sub (List.sublist_append_right S _)
    repeat (first | refine pu_not ?_ | refine pu_eql ?_ | refine pu_neq ?_ | refine pu_lss ?_ | refine pu_leq ?_ | refine pu_gtr ?_ | refine pu_geq ?_ | refine pu_add ?_ | refine pu_sub ?_ | refine pu_mul ?_ | refine pu_neg ?_ | refine fa_at ?_ | refine nl_ptr ?_ | refine ex20 ?_ | refine ex21 ?_ | refine ex30 ?_ | refine ex31 ?_ | refine ex32 ?_ | refine ln_rule ?_ | refine lnT_rule ?_ | refine pu_and ?_ | refine pu_or ?_ | refine pu_xor ?_ | refine pu_seq ?_ | refine pu_sne ?_)
    refine ld_here h6 (.head _) (v := vI i.op) rfl ?_
    refine bs_rule h6 [vI 8, vI 10] (by kernel_rfl) (fun b7 w7 h7 => ?_)
    refine among_spec (xs := [8, 10]) h7 (sl_here (l := [vI 8, vI 10]) (.head _)) (by simp) (fun w8 h8 => ?_)
    have h8 := h8.drop
    refine cnd (fun hz => ?_) (fun hz => ?_)
    · have hz : i.op = 8 ∨ i.op = 10 := by simpa using hz
      rw [if_pos hz] at k
      obtain ⟨⟨a0, a1⟩, ⟨b0, b1⟩, ⟨c0, c1⟩, ⟨d0, d1⟩⟩ := hsm
      repeat (first | refine pu_not ?_ | refine pu_eql ?_ | refine pu_neq ?_ | refine pu_lss ?_ | refine pu_leq ?_ | refine pu_gtr ?_ | refine pu_geq ?_ | refine pu_add ?_ | refine pu_sub ?_ | refine pu_mul ?_ | refine pu_neg ?_ | refine fa_at ?_ | refine nl_ptr ?_ | refine ex20 ?_ | refine ex21 ?_ | refine ex30 ?_ | refine ex31 ?_ | refine ex32 ?_ | refine ln_rule ?_ | refine lnT_rule ?_ | refine pu_and ?_ | refine pu_or ?_ | refine pu_xor ?_ | refine pu_seq ?_ | refine pu_sne ?_)
      refine ld_here h8 (.head _) (v := vI i.b) rfl ?_
      repeat (first | refine pu_not ?_ | refine pu_eql ?_ | refine pu_neq ?_ | refine pu_lss ?_ | refine pu_leq ?_ | refine pu_gtr ?_ | refine pu_geq ?_ | refine pu_add ?_ | refine pu_sub ?_ | refine pu_mul ?_ | refine pu_neg ?_ | refine fa_at ?_ | refine nl_ptr ?_ | refine ex20 ?_ | refine ex21 ?_ | refine ex30 ?_ | refine ex31 ?_ | refine ex32 ?_ | refine ln_rule ?_ | refine lnT_rule ?_ | refine pu_and ?_ | refine pu_or ?_ | refine pu_xor ?_ | refine pu_seq ?_ | refine pu_sne ?_)
      refine ld_here h8 (.head _) (v := vI i.c) rfl ?_
      repeat (first | refine pu_not ?_ | refine pu_eql ?_ | refine pu_neq ?_ | refine pu_lss ?_ | refine pu_leq ?_ | refine pu_gtr ?_ | refine pu_geq ?_ | refine pu_add ?_ | refine pu_sub ?_ | refine pu_mul ?_ | refine pu_neg ?_ | refine fa_at ?_ | refine nl_ptr ?_ | refine ex20 ?_ | refine ex21 ?_ | refine ex30 ?_ | refine ex31 ?_ | refine ex32 ?_ | refine ln_rule ?_ | refine lnT_rule ?_ | refine pu_and ?_ | refine pu_or ?_ | refine pu_xor ?_ | refine pu_seq ?_ | refine pu_sne ?_)
      rw [wrap64_in (by omega) (by omega)]
      refine pu_max2 ?_
      exact k _ h8.drop
    · have hz : ¬ (i.op = 8 ∨ i.op = 10) := by simpa using hz
      rw [if_neg hz] at k
      exact k _ h8.drop
def lvI (i : Ins) : Bool := okI i && decide (i.op = 4 ∨ i.op = 9)
theorem leaves_spec {i : Ins} (hu : 0 ≤ i.imm ∧ i.imm < 4294967296) (h : Ow B w H) (k : ∀ w', Ow B w' H → K (vB (lvI i)) w') : callW PG N.instr_Leaves [.agg i.cells.toArray] K PK w := by
  refine instr_Leaves.ok ?_
  unfold instr_Leaves.C
  refine al_rule h (l := i.cells) rfl (fun b w1 h1 => ?_)
  refine ldn_here h1 (.head _) (vs := i.cells) rfl rfl ?_
  refine right_spec hu h1 (fun w2 h2 => ?_)
  unfold lvI at k
  refine cnd (fun hq => ?_) (fun hq => ?_)
  · rw [hq, Bool.true_and] at k
    repeat (first | refine pu_not ?_ | refine pu_eql ?_ | refine pu_neq ?_ | refine pu_lss ?_ | refine pu_leq ?_ | refine pu_gtr ?_ | refine pu_geq ?_ | refine pu_add ?_ | refine pu_sub ?_ | refine pu_mul ?_ | refine pu_neg ?_ | refine fa_at ?_ | refine nl_ptr ?_ | refine ex20 ?_ | refine ex21 ?_ | refine ex30 ?_ | refine ex31 ?_ | refine ex32 ?_ | refine ln_rule ?_ | refine lnT_rule ?_ | refine pu_and ?_ | refine pu_or ?_ | refine pu_xor ?_ | refine pu_seq ?_ | refine pu_sne ?_)
    refine ld_here h2 (.head _) (v := vI i.op) rfl ?_
    refine bs_rule h2 [vI 4, vI 9] (by kernel_rfl) (fun b7 w7 h7 => ?_)
    refine among_spec (xs := [4, 9]) h7 (sl_here (l := [vI 4, vI 9]) (.head _)) (by simp) (fun w8 h8 => ?_)
    have e : decide (i.op ∈ [4, 9]) = decide (i.op = 4 ∨ i.op = 9) := by simp
    rw [e]
    exact k _ h8.drop.drop
  · rw [hq, Bool.false_and] at k
    exact k _ h2.drop

/-! ### Programs -/
structure Fun where
  regs : Int
  code : List Ins
structure Pr where
  fs : List Fun
  mu : Int
  rw : Int
  gr : Int
abbrev icode (l : List Ins) : List (List Value) := l.map Ins.cells
def frows (ps : List (Value × Fun)) : List (List Value) := ps.map fun q => [vI q.2.regs, q.1]
def immOk (l : List Ins) : Prop := ∀ i ∈ l, 0 ≤ i.imm ∧ i.imm < 4294967296
/-- Functions as they lie in memory. -/
def fsIn (X : Hp) (v : Value) (fs : List Fun) : Prop := ∃ ps : List (Value × Fun), ps.map Prod.snd = fs ∧ Sls X v 2 (frows ps) ∧ ∀ q ∈ ps, Sls X q.1 5 (icode q.2.code) ∧ immOk q.2.code
theorem fsIn.mono {Y : Hp} {v : Value} {fs : List Fun} (h : fsIn X v fs) (hs : ∀ x, x ∈ X → x ∈ Y) : fsIn Y v fs := by
  obtain ⟨ps, h1, h2, h3⟩ := h
  exact ⟨ps, h1, h2.mono hs, fun q hq => ⟨(h3 q hq).1.mono hs, (h3 q hq).2⟩⟩
theorem fsIn.ln {v : Value} {fs : List Fun} (h : fsIn X v fs) (k : KK (vI fs.length)) : lnS v KK := by
  obtain ⟨ps, h1, h2, h3⟩ := h
  refine sls_ln h2 ?_
  have : (frows ps).length = fs.length := by rw [← h1]; simp [frows]
  rw [this]; exact k
theorem fsIn.at {v : Value} {fs : List Fun} {n : Int} (h : fsIn X v fs) (h0 : 0 ≤ n) (h1 : n < fs.length) : ∃ (ps : List (Value × Fun)) (c : Value) (f : Fun), fs[n.toNat]? = some f ∧ Sls X v 2 (frows ps) ∧ (frows ps)[n.toNat]? = some [vI f.regs, c] ∧ Sls X c 5 (icode f.code) ∧ immOk f.code := by
  obtain ⟨ps, e1, e2, e3⟩ := h
  have hl : ps.length = fs.length := by rw [← e1]; simp
  have hlt : n.toNat < ps.length := by omega
  refine ⟨ps, ps[n.toNat].1, ps[n.toNat].2, ?_, e2, ?_, (e3 _ (List.getElem_mem hlt)).1, (e3 _ (List.getElem_mem hlt)).2⟩
  · rw [← e1, List.getElem?_map, List.getElem?_eq_getElem hlt]; rfl
  · rw [frows, List.getElem?_map, List.getElem?_eq_getElem hlt]; rfl
theorem fsIn.cells {v : Value} {fs : List Fun} (h : fsIn X v fs) : v.cells = #[v] := by
  obtain ⟨ps, h1, ⟨a, cap, rfl, _⟩, h3⟩ := h
  rfl
theorem fsIn.plain {v : Value} {fs : List Fun} (h : fsIn X v fs) : plainV v = true := by
  obtain ⟨ps, h1, ⟨a, cap, rfl, _⟩, h3⟩ := h
  rfl
theorem sls_plain {v : Value} {size : Nat} {xs : List (List Value)} (h : Sls X v size xs) : plainV v = true := by
  obtain ⟨a, cap, rfl, _⟩ := h
  rfl
def Pr.cells (p : Pr) (v : Value) : List Value := [v, vI p.mu, vI p.rw, vI p.gr]
/-- A place: the function, the program, the number. -/
def plc (f : Fun) (c : Value) (p : Pr) (v : Value) (pc : Int) : List Value := [vI f.regs, c, v, vI p.mu, vI p.rw, vI p.gr, vI pc]
abbrev plO (f : Fun) (c : Value) (p : Pr) (v : Value) (pc : Int) : Obj := cel (plc f c p v pc) T.t_program_place
variable {f : Fun} {c v : Value} {p : Pr} {pc : Nat} {i : Ins}
theorem code_at (h : f.code[pc]? = some i) : (icode f.code)[(pc : Int).toNat]? = some i.cells := by rw [Int.toNat_natCast, List.getElem?_map, h]; rfl
theorem zins : (zc PG T.t_api_Ins) = (bare 0).cells.toArray := by kernel_rfl
theorem ins_spec (hc : Sls X c 5 (icode f.code)) (hX : ∀ x, x ∈ X → x ∈ H) (hi : f.code[pc]? = some i) (h : Ow B w H) (k : ∀ w', Ow B w' H → K (.agg i.cells.toArray) w') : callW PG N.program_place_ins [.agg (plc f c p v pc).toArray] K PK w := by
  refine program_place_ins.ok ?_
  unfold program_place_ins.C
  refine al_rule h (l := plc f c p v pc) rfl (fun b w1 h1 => ?_)
  refine al_rule h1 (l := (bare 0).cells) zins (fun b2 w2 h2 => ?_)
  repeat (first | refine pu_not ?_ | refine pu_eql ?_ | refine pu_neq ?_ | refine pu_lss ?_ | refine pu_leq ?_ | refine pu_gtr ?_ | refine pu_geq ?_ | refine pu_add ?_ | refine pu_sub ?_ | refine pu_mul ?_ | refine pu_neg ?_ | refine fa_at ?_ | refine nl_ptr ?_ | refine ex20 ?_ | refine ex21 ?_ | refine ex30 ?_ | refine ex31 ?_ | refine ex32 ?_ | refine ln_rule ?_ | refine lnT_rule ?_ | refine pu_and ?_ | refine pu_or ?_ | refine pu_xor ?_ | refine pu_seq ?_ | refine pu_sne ?_)
  refine ld_here h2 (.tail _ (.head _)) (v := c) rfl ?_
  repeat (first | refine pu_not ?_ | refine pu_eql ?_ | refine pu_neq ?_ | refine pu_lss ?_ | refine pu_leq ?_ | refine pu_gtr ?_ | refine pu_geq ?_ | refine pu_add ?_ | refine pu_sub ?_ | refine pu_mul ?_ | refine pu_neg ?_ | refine fa_at ?_ | refine nl_ptr ?_ | refine ex20 ?_ | refine ex21 ?_ | refine ex30 ?_ | refine ex31 ?_ | refine ex32 ?_ | refine ln_rule ?_ | refine lnT_rule ?_ | refine pu_and ?_ | refine pu_or ?_ | refine pu_xor ?_ | refine pu_seq ?_ | refine pu_sne ?_)
  refine ld_here h2 (.tail _ (.head _)) (v := vI pc) rfl ?_
  refine sls_ld h2 (hc.mono fun x hx => .tail _ (.tail _ (hX x hx))) (by omega) (code_at hi) ?_
  refine st_here (A := []) h2 i.cells rfl rfl (ins_plain _) (by simp [Ins.cells]) (fun w3 h3 => ?_)
  have e3 : (bare 0).cells.take 0 ++ i.cells ++ (bare 0).cells.drop (0 + 5) = i.cells := rfl
  rw [e3] at h3
  refine ldn_here h3 (.head _) (vs := i.cells) rfl rfl ?_
  exact k _ h3.drop.drop
def fitsI (f : Fun) (i : Ins) : Bool := okI i && decide (regsI i ≤ f.regs)
theorem fits_pf (hc : Sls X c 5 (icode f.code)) (hX : ∀ x, x ∈ X → x ∈ H) (hi : f.code[pc]? = some i) (hm : immOk f.code) : PF PG B H (.func (.func N.program_place_fits) #[.agg (plc f c p v pc).toArray] #[]) [] (vB (fitsI f i)) := fun Z K PK w hw k => by
  have hu := hm i (List.mem_of_getElem? hi)
  refine callV_fn program_place_fits.okf (program_place_fits.ok ?_)
  unfold program_place_fits.C
  refine al_rule hw (l := plc f c p v pc) rfl (fun b w1 h1 => ?_)
  have hXX : ∀ x, x ∈ X → x ∈ (b, plO f c p v pc) :: (Z ++ H) := fun x hx => .tail _ (List.mem_append_right _ (hX x hx))
  refine ⟨fun w => Ow B w ((b, plO f c p v pc) :: (Z ++ H)), h1.drew, ?_⟩
  refine ldsn_here (fun w h => h) (.head _) (vs := plc f c p v pc) rfl rfl ?_
  refine ins_spec hc hXX hi h1.drew (fun w2 h2 => ?_)
  refine ⟨h2, ?_⟩
  refine icheck_spec hu h2 (fun w3 h3 => ?_)
  refine ⟨h3, ?_⟩
  repeat (first | refine pu_not ?_ | refine pu_eql ?_ | refine pu_neq ?_ | refine pu_lss ?_ | refine pu_leq ?_ | refine pu_gtr ?_ | refine pu_geq ?_ | refine pu_add ?_ | refine pu_sub ?_ | refine pu_mul ?_ | refine pu_neg ?_ | refine fa_at ?_ | refine nl_ptr ?_ | refine ex20 ?_ | refine ex21 ?_ | refine ex30 ?_ | refine ex31 ?_ | refine ex32 ?_ | refine ln_rule ?_ | refine lnT_rule ?_ | refine pu_and ?_ | refine pu_or ?_ | refine pu_xor ?_ | refine pu_seq ?_ | refine pu_sne ?_)
  unfold fitsI at k
  refine cnd (fun hq => ?_) (fun hq => ?_)
  · have hq : okI i = true := by
      false_or_by_contra
      rename_i hn
      rw [if_neg hn] at hq
      simp at hq
    rw [hq, Bool.true_and] at k
    refine ldsn_here (fun w h => h) (.head _) (vs := plc f c p v pc) rfl rfl ?_
    repeat (first | refine pu_not ?_ | refine pu_eql ?_ | refine pu_neq ?_ | refine pu_lss ?_ | refine pu_leq ?_ | refine pu_gtr ?_ | refine pu_geq ?_ | refine pu_add ?_ | refine pu_sub ?_ | refine pu_mul ?_ | refine pu_neg ?_ | refine fa_at ?_ | refine nl_ptr ?_ | refine ex20 ?_ | refine ex21 ?_ | refine ex30 ?_ | refine ex31 ?_ | refine ex32 ?_ | refine ln_rule ?_ | refine lnT_rule ?_ | refine pu_and ?_ | refine pu_or ?_ | refine pu_xor ?_ | refine pu_seq ?_ | refine pu_sne ?_)
    refine lds_here (fun w h => h) (.head _) (v := vI f.regs) rfl ?_
    refine ins_spec hc hXX hi h3 (fun w4 h4 => ?_)
    refine ⟨h4, ?_⟩
    refine regs_spec hu h4 (fun w5 h5 => ?_)
    refine ⟨h5, ?_⟩
    repeat (first | refine pu_not ?_ | refine pu_eql ?_ | refine pu_neq ?_ | refine pu_lss ?_ | refine pu_leq ?_ | refine pu_gtr ?_ | refine pu_geq ?_ | refine pu_add ?_ | refine pu_sub ?_ | refine pu_mul ?_ | refine pu_neg ?_ | refine fa_at ?_ | refine nl_ptr ?_ | refine ex20 ?_ | refine ex21 ?_ | refine ex30 ?_ | refine ex31 ?_ | refine ex32 ?_ | refine ln_rule ?_ | refine lnT_rule ?_ | refine pu_and ?_ | refine pu_or ?_ | refine pu_xor ?_ | refine pu_seq ?_ | refine pu_sne ?_)
    exact k _ h5.drop
  · have hq : okI i = false := by
      cases ho : okI i
      · rfl
      · rw [if_pos ho] at hq
        simp at hq
    rw [hq, Bool.false_and] at k
    exact k _ h3.drop
def jumpsI (f : Fun) (i : Ins) : Bool := decide ((i.op ≠ 4 ∧ i.op ≠ 5) ∨ i.imm < f.code.length)
theorem icode_len : (icode f.code).length = f.code.length := List.length_map _
theorem jumps_pf (hc : Sls X c 5 (icode f.code)) (hX : ∀ x, x ∈ X → x ∈ H) (hi : f.code[pc]? = some i) (hm : immOk f.code) : PF PG B H (.func (.func N.program_place_jumps) #[.agg (plc f c p v pc).toArray] #[]) [] (vB (jumpsI f i)) := fun Z K PK w hw k => by
  have hu := hm i (List.mem_of_getElem? hi)
  refine callV_fn program_place_jumps.okf (program_place_jumps.ok ?_)
  unfold program_place_jumps.C
  refine al_rule hw (l := plc f c p v pc) rfl (fun b w1 h1 => ?_)
  have hXX : ∀ x, x ∈ X → x ∈ (b, plO f c p v pc) :: (Z ++ H) := fun x hx => .tail _ (List.mem_append_right _ (hX x hx))
  refine ldn_here h1 (.head _) (vs := plc f c p v pc) rfl rfl ?_
  refine ins_spec hc hXX hi h1 (fun w2 h2 => ?_)
  refine pt_at (v := vI i.op) rfl ?_
  refine ⟨fun w => Ow B w ((b, plO f c p v pc) :: (Z ++ H)), h2.drew, ?_⟩
  repeat (first | refine pu_not ?_ | refine pu_eql ?_ | refine pu_neq ?_ | refine pu_lss ?_ | refine pu_leq ?_ | refine pu_gtr ?_ | refine pu_geq ?_ | refine pu_add ?_ | refine pu_sub ?_ | refine pu_mul ?_ | refine pu_neg ?_ | refine fa_at ?_ | refine nl_ptr ?_ | refine ex20 ?_ | refine ex21 ?_ | refine ex30 ?_ | refine ex31 ?_ | refine ex32 ?_ | refine ln_rule ?_ | refine lnT_rule ?_ | refine pu_and ?_ | refine pu_or ?_ | refine pu_xor ?_ | refine pu_seq ?_ | refine pu_sne ?_)
  refine cnd (fun hq => ?_) (fun hq => ?_)
  · have hq : i.op ≠ 4 := by simpa using hq
    repeat (first | refine pu_not ?_ | refine pu_eql ?_ | refine pu_neq ?_ | refine pu_lss ?_ | refine pu_leq ?_ | refine pu_gtr ?_ | refine pu_geq ?_ | refine pu_add ?_ | refine pu_sub ?_ | refine pu_mul ?_ | refine pu_neg ?_ | refine fa_at ?_ | refine nl_ptr ?_ | refine ex20 ?_ | refine ex21 ?_ | refine ex30 ?_ | refine ex31 ?_ | refine ex32 ?_ | refine ln_rule ?_ | refine lnT_rule ?_ | refine pu_and ?_ | refine pu_or ?_ | refine pu_xor ?_ | refine pu_seq ?_ | refine pu_sne ?_)
    refine cnd (fun hz => ?_) (fun hz => ?_)
    · have hz : i.op ≠ 5 := by simpa using hz
      have e : jumpsI f i = true := by unfold jumpsI; exact decide_eq_true (.inl ⟨hq, hz⟩)
      rw [e] at k
      exact k _ h2.drew.drop
    · have hz : i.op = 5 := by simpa using hz
      refine ldsn_here (fun w h => h) (.head _) (vs := plc f c p v pc) rfl rfl ?_
      repeat (first | refine pu_not ?_ | refine pu_eql ?_ | refine pu_neq ?_ | refine pu_lss ?_ | refine pu_leq ?_ | refine pu_gtr ?_ | refine pu_geq ?_ | refine pu_add ?_ | refine pu_sub ?_ | refine pu_mul ?_ | refine pu_neg ?_ | refine fa_at ?_ | refine nl_ptr ?_ | refine ex20 ?_ | refine ex21 ?_ | refine ex30 ?_ | refine ex31 ?_ | refine ex32 ?_ | refine ln_rule ?_ | refine lnT_rule ?_ | refine pu_and ?_ | refine pu_or ?_ | refine pu_xor ?_ | refine pu_seq ?_ | refine pu_sne ?_)
      refine lds_here (fun w h => h) (.head _) (v := c) rfl ?_
      refine sls_ln hc ?_
      rw [icode_len]
      refine ins_spec hc hXX hi h2.drew (fun w3 h3 => ?_)
      refine ⟨h3, ?_⟩
      refine pt_at (v := .int .u32 i.imm) rfl ?_
      refine cvt (by kernel_rfl) und_int (m := i.imm) (by rw [wrap64_in (by omega) (by omega)]) ?_
      repeat (first | refine pu_not ?_ | refine pu_eql ?_ | refine pu_neq ?_ | refine pu_lss ?_ | refine pu_leq ?_ | refine pu_gtr ?_ | refine pu_geq ?_ | refine pu_add ?_ | refine pu_sub ?_ | refine pu_mul ?_ | refine pu_neg ?_ | refine fa_at ?_ | refine nl_ptr ?_ | refine ex20 ?_ | refine ex21 ?_ | refine ex30 ?_ | refine ex31 ?_ | refine ex32 ?_ | refine ln_rule ?_ | refine lnT_rule ?_ | refine pu_and ?_ | refine pu_or ?_ | refine pu_xor ?_ | refine pu_seq ?_ | refine pu_sne ?_)
      have e : jumpsI f i = decide (i.imm < f.code.length) := by
        unfold jumpsI
        simp only [decide_eq_decide]
        constructor
        · rintro (h | h)
          · omega
          · exact h
        · exact fun h => .inr h
      rw [e] at k
      exact k _ h3.drop
  · have hz : i.op = 4 := by simpa using hq
    refine ldsn_here (fun w h => h) (.head _) (vs := plc f c p v pc) rfl rfl ?_
    repeat (first | refine pu_not ?_ | refine pu_eql ?_ | refine pu_neq ?_ | refine pu_lss ?_ | refine pu_leq ?_ | refine pu_gtr ?_ | refine pu_geq ?_ | refine pu_add ?_ | refine pu_sub ?_ | refine pu_mul ?_ | refine pu_neg ?_ | refine fa_at ?_ | refine nl_ptr ?_ | refine ex20 ?_ | refine ex21 ?_ | refine ex30 ?_ | refine ex31 ?_ | refine ex32 ?_ | refine ln_rule ?_ | refine lnT_rule ?_ | refine pu_and ?_ | refine pu_or ?_ | refine pu_xor ?_ | refine pu_seq ?_ | refine pu_sne ?_)
    refine lds_here (fun w h => h) (.head _) (v := c) rfl ?_
    refine sls_ln hc ?_
    rw [icode_len]
    refine ins_spec hc hXX hi h2.drew (fun w3 h3 => ?_)
    refine ⟨h3, ?_⟩
    refine pt_at (v := .int .u32 i.imm) rfl ?_
    refine cvt (by kernel_rfl) und_int (m := i.imm) (by rw [wrap64_in (by omega) (by omega)]) ?_
    repeat (first | refine pu_not ?_ | refine pu_eql ?_ | refine pu_neq ?_ | refine pu_lss ?_ | refine pu_leq ?_ | refine pu_gtr ?_ | refine pu_geq ?_ | refine pu_add ?_ | refine pu_sub ?_ | refine pu_mul ?_ | refine pu_neg ?_ | refine fa_at ?_ | refine nl_ptr ?_ | refine ex20 ?_ | refine ex21 ?_ | refine ex30 ?_ | refine ex31 ?_ | refine ex32 ?_ | refine ln_rule ?_ | refine lnT_rule ?_ | refine pu_and ?_ | refine pu_or ?_ | refine pu_xor ?_ | refine pu_seq ?_ | refine pu_sne ?_)
    have e : jumpsI f i = decide (i.imm < f.code.length) := by
      unfold jumpsI
      simp only [decide_eq_decide]
      constructor
      · rintro (h | h)
        · omega
        · exact h
      · exact fun h => .inr h
    rw [e] at k
    exact k _ h3.drop
def callsI (fs : List Fun) (i : Ins) : Bool := decide (i.op ≠ 8 ∧ i.op ≠ 10) || match fs[i.imm.toNat]? with
  | some g => decide (i.c ≤ g.regs)
  | none => false
theorem calls_pf (hc : Sls X c 5 (icode f.code)) (hv : fsIn X v p.fs) (hX : ∀ x, x ∈ X → x ∈ H) (hi : f.code[pc]? = some i) (hm : immOk f.code) : PF PG B H (.func (.func N.program_place_calls) #[.agg (plc f c p v pc).toArray] #[]) [] (vB (callsI p.fs i)) := fun Z K PK w hw k => by
  have hu := hm i (List.mem_of_getElem? hi)
  refine callV_fn program_place_calls.okf (program_place_calls.ok ?_)
  unfold program_place_calls.C
  refine al_rule hw (l := plc f c p v pc) rfl (fun b w1 h1 => ?_)
  have hXX : ∀ x, x ∈ X → x ∈ (b, plO f c p v pc) :: (Z ++ H) := fun x hx => .tail _ (List.mem_append_right _ (hX x hx))
  refine ldn_here h1 (.head _) (vs := plc f c p v pc) rfl rfl ?_
  refine ins_spec hc hXX hi h1 (fun w2 h2 => ?_)
  refine al_rule h2 (l := (bare 0).cells) zins (fun b2 w3 h3 => ?_)
  refine st_here (A := []) h3 i.cells rfl rfl (ins_plain _) (by simp [Ins.cells]) (fun w4 h4 => ?_)
  have e3 : (bare 0).cells.take 0 ++ i.cells ++ (bare 0).cells.drop (0 + 5) = i.cells := rfl
  rw [e3] at h4
  repeat (first | refine pu_not ?_ | refine pu_eql ?_ | refine pu_neq ?_ | refine pu_lss ?_ | refine pu_leq ?_ | refine pu_gtr ?_ | refine pu_geq ?_ | refine pu_add ?_ | refine pu_sub ?_ | refine pu_mul ?_ | refine pu_neg ?_ | refine fa_at ?_ | refine nl_ptr ?_ | refine ex20 ?_ | refine ex21 ?_ | refine ex30 ?_ | refine ex31 ?_ | refine ex32 ?_ | refine ln_rule ?_ | refine lnT_rule ?_ | refine pu_and ?_ | refine pu_or ?_ | refine pu_xor ?_ | refine pu_seq ?_ | refine pu_sne ?_)
  refine ld_here h4 (.head _) (v := vI i.op) rfl ?_
  repeat (first | refine pu_not ?_ | refine pu_eql ?_ | refine pu_neq ?_ | refine pu_lss ?_ | refine pu_leq ?_ | refine pu_gtr ?_ | refine pu_geq ?_ | refine pu_add ?_ | refine pu_sub ?_ | refine pu_mul ?_ | refine pu_neg ?_ | refine fa_at ?_ | refine nl_ptr ?_ | refine ex20 ?_ | refine ex21 ?_ | refine ex30 ?_ | refine ex31 ?_ | refine ex32 ?_ | refine ln_rule ?_ | refine lnT_rule ?_ | refine pu_and ?_ | refine pu_or ?_ | refine pu_xor ?_ | refine pu_seq ?_ | refine pu_sne ?_)
  refine cnd (fun hq => ?_) (fun hq => ?_)
  · have hq : i.op ≠ 8 := by simpa using hq
    repeat (first | refine pu_not ?_ | refine pu_eql ?_ | refine pu_neq ?_ | refine pu_lss ?_ | refine pu_leq ?_ | refine pu_gtr ?_ | refine pu_geq ?_ | refine pu_add ?_ | refine pu_sub ?_ | refine pu_mul ?_ | refine pu_neg ?_ | refine fa_at ?_ | refine nl_ptr ?_ | refine ex20 ?_ | refine ex21 ?_ | refine ex30 ?_ | refine ex31 ?_ | refine ex32 ?_ | refine ln_rule ?_ | refine lnT_rule ?_ | refine pu_and ?_ | refine pu_or ?_ | refine pu_xor ?_ | refine pu_seq ?_ | refine pu_sne ?_)
    refine ld_here h4 (.head _) (v := vI i.op) rfl ?_
    repeat (first | refine pu_not ?_ | refine pu_eql ?_ | refine pu_neq ?_ | refine pu_lss ?_ | refine pu_leq ?_ | refine pu_gtr ?_ | refine pu_geq ?_ | refine pu_add ?_ | refine pu_sub ?_ | refine pu_mul ?_ | refine pu_neg ?_ | refine fa_at ?_ | refine nl_ptr ?_ | refine ex20 ?_ | refine ex21 ?_ | refine ex30 ?_ | refine ex31 ?_ | refine ex32 ?_ | refine ln_rule ?_ | refine lnT_rule ?_ | refine pu_and ?_ | refine pu_or ?_ | refine pu_xor ?_ | refine pu_seq ?_ | refine pu_sne ?_)
    refine cnd (fun hz => ?_) (fun hz => ?_)
    · have hz : i.op ≠ 10 := by simpa using hz
      have e : callsI p.fs i = true := by unfold callsI; rw [decide_eq_true ⟨hq, hz⟩]; rfl
      rw [e] at k
      exact k _ h4.drop.drop
    · have hz : i.op = 10 := by simpa using hz
      refine ⟨fun w => Ow B w ((b2, iO i) :: (b, plO f c p v pc) :: (Z ++ H)), h4.drew, ?_⟩
      have h5 := h4.drew
      have hvv : fsIn ((b2, iO i) :: (b, plO f c p v pc) :: (Z ++ H)) v p.fs := hv.mono fun x hx => .tail _ (hXX x hx)
      repeat (first | refine pu_not ?_ | refine pu_eql ?_ | refine pu_neq ?_ | refine pu_lss ?_ | refine pu_leq ?_ | refine pu_gtr ?_ | refine pu_geq ?_ | refine pu_add ?_ | refine pu_sub ?_ | refine pu_mul ?_ | refine pu_neg ?_ | refine fa_at ?_ | refine nl_ptr ?_ | refine ex20 ?_ | refine ex21 ?_ | refine ex30 ?_ | refine ex31 ?_ | refine ex32 ?_ | refine ln_rule ?_ | refine lnT_rule ?_ | refine pu_and ?_ | refine pu_or ?_ | refine pu_xor ?_ | refine pu_seq ?_ | refine pu_sne ?_)
      refine lds_here (fun w h => h) (.head _) (v := .int .u32 i.imm) rfl ?_
      refine cvt (by kernel_rfl) und_int (m := i.imm) (by rw [wrap64_in (by omega) (by omega)]) ?_
      repeat (first | refine pu_not ?_ | refine pu_eql ?_ | refine pu_neq ?_ | refine pu_lss ?_ | refine pu_leq ?_ | refine pu_gtr ?_ | refine pu_geq ?_ | refine pu_add ?_ | refine pu_sub ?_ | refine pu_mul ?_ | refine pu_neg ?_ | refine fa_at ?_ | refine nl_ptr ?_ | refine ex20 ?_ | refine ex21 ?_ | refine ex30 ?_ | refine ex31 ?_ | refine ex32 ?_ | refine ln_rule ?_ | refine lnT_rule ?_ | refine pu_and ?_ | refine pu_or ?_ | refine pu_xor ?_ | refine pu_seq ?_ | refine pu_sne ?_)
      refine lds_here (fun w h => h) (.tail _ (.head _)) (v := v) rfl ?_
      refine hvv.ln ?_
      repeat (first | refine pu_not ?_ | refine pu_eql ?_ | refine pu_neq ?_ | refine pu_lss ?_ | refine pu_leq ?_ | refine pu_gtr ?_ | refine pu_geq ?_ | refine pu_add ?_ | refine pu_sub ?_ | refine pu_mul ?_ | refine pu_neg ?_ | refine fa_at ?_ | refine nl_ptr ?_ | refine ex20 ?_ | refine ex21 ?_ | refine ex30 ?_ | refine ex31 ?_ | refine ex32 ?_ | refine ln_rule ?_ | refine lnT_rule ?_ | refine pu_and ?_ | refine pu_or ?_ | refine pu_xor ?_ | refine pu_seq ?_ | refine pu_sne ?_)
      refine cnd (fun hlt => ?_) (fun hlt => ?_)
      · have hlt : i.imm < p.fs.length := by simpa using hlt
        obtain ⟨ps, cc, g, g1, g2, g3, g4, g5⟩ := hvv.at hu.1 hlt
        repeat (first | refine pu_not ?_ | refine pu_eql ?_ | refine pu_neq ?_ | refine pu_lss ?_ | refine pu_leq ?_ | refine pu_gtr ?_ | refine pu_geq ?_ | refine pu_add ?_ | refine pu_sub ?_ | refine pu_mul ?_ | refine pu_neg ?_ | refine fa_at ?_ | refine nl_ptr ?_ | refine ex20 ?_ | refine ex21 ?_ | refine ex30 ?_ | refine ex31 ?_ | refine ex32 ?_ | refine ln_rule ?_ | refine lnT_rule ?_ | refine pu_and ?_ | refine pu_or ?_ | refine pu_xor ?_ | refine pu_seq ?_ | refine pu_sne ?_)
        refine lds_here (fun w h => h) (.head _) (v := vI i.c) rfl ?_
        repeat (first | refine pu_not ?_ | refine pu_eql ?_ | refine pu_neq ?_ | refine pu_lss ?_ | refine pu_leq ?_ | refine pu_gtr ?_ | refine pu_geq ?_ | refine pu_add ?_ | refine pu_sub ?_ | refine pu_mul ?_ | refine pu_neg ?_ | refine fa_at ?_ | refine nl_ptr ?_ | refine ex20 ?_ | refine ex21 ?_ | refine ex30 ?_ | refine ex31 ?_ | refine ex32 ?_ | refine ln_rule ?_ | refine lnT_rule ?_ | refine pu_and ?_ | refine pu_or ?_ | refine pu_xor ?_ | refine pu_seq ?_ | refine pu_sne ?_)
        refine lds_here (fun w h => h) (.tail _ (.head _)) (v := v) rfl ?_
        repeat (first | refine pu_not ?_ | refine pu_eql ?_ | refine pu_neq ?_ | refine pu_lss ?_ | refine pu_leq ?_ | refine pu_gtr ?_ | refine pu_geq ?_ | refine pu_add ?_ | refine pu_sub ?_ | refine pu_mul ?_ | refine pu_neg ?_ | refine fa_at ?_ | refine nl_ptr ?_ | refine ex20 ?_ | refine ex21 ?_ | refine ex30 ?_ | refine ex31 ?_ | refine ex32 ?_ | refine ln_rule ?_ | refine lnT_rule ?_ | refine pu_and ?_ | refine pu_or ?_ | refine pu_xor ?_ | refine pu_seq ?_ | refine pu_sne ?_)
        refine lds_here (fun w h => h) (.head _) (v := .int .u32 i.imm) rfl ?_
        refine sls_flds (fun w h => h) g2 hu.1 g3 (v := vI g.regs) rfl ?_
        repeat (first | refine pu_not ?_ | refine pu_eql ?_ | refine pu_neq ?_ | refine pu_lss ?_ | refine pu_leq ?_ | refine pu_gtr ?_ | refine pu_geq ?_ | refine pu_add ?_ | refine pu_sub ?_ | refine pu_mul ?_ | refine pu_neg ?_ | refine fa_at ?_ | refine nl_ptr ?_ | refine ex20 ?_ | refine ex21 ?_ | refine ex30 ?_ | refine ex31 ?_ | refine ex32 ?_ | refine ln_rule ?_ | refine lnT_rule ?_ | refine pu_and ?_ | refine pu_or ?_ | refine pu_xor ?_ | refine pu_seq ?_ | refine pu_sne ?_)
        have e : callsI p.fs i = decide (i.c ≤ g.regs) := by
          unfold callsI
          rw [decide_eq_false (by omega), Bool.false_or, g1]
        rw [e] at k
        exact k _ h5.drop.drop
      · have hlt : ¬ i.imm < p.fs.length := by simpa using hlt
        have e : callsI p.fs i = false := by
          unfold callsI
          rw [decide_eq_false (by omega), Bool.false_or, List.getElem?_eq_none (by omega)]
        rw [e] at k
        exact k _ h5.drop.drop
  · have hz : i.op = 8 := by simpa using hq
    refine ⟨fun w => Ow B w ((b2, iO i) :: (b, plO f c p v pc) :: (Z ++ H)), h4.drew, ?_⟩
    have h5 := h4.drew
    have hvv : fsIn ((b2, iO i) :: (b, plO f c p v pc) :: (Z ++ H)) v p.fs := hv.mono fun x hx => .tail _ (hXX x hx)
    repeat (first | refine pu_not ?_ | refine pu_eql ?_ | refine pu_neq ?_ | refine pu_lss ?_ | refine pu_leq ?_ | refine pu_gtr ?_ | refine pu_geq ?_ | refine pu_add ?_ | refine pu_sub ?_ | refine pu_mul ?_ | refine pu_neg ?_ | refine fa_at ?_ | refine nl_ptr ?_ | refine ex20 ?_ | refine ex21 ?_ | refine ex30 ?_ | refine ex31 ?_ | refine ex32 ?_ | refine ln_rule ?_ | refine lnT_rule ?_ | refine pu_and ?_ | refine pu_or ?_ | refine pu_xor ?_ | refine pu_seq ?_ | refine pu_sne ?_)
    refine lds_here (fun w h => h) (.head _) (v := .int .u32 i.imm) rfl ?_
    refine cvt (by kernel_rfl) und_int (m := i.imm) (by rw [wrap64_in (by omega) (by omega)]) ?_
    repeat (first | refine pu_not ?_ | refine pu_eql ?_ | refine pu_neq ?_ | refine pu_lss ?_ | refine pu_leq ?_ | refine pu_gtr ?_ | refine pu_geq ?_ | refine pu_add ?_ | refine pu_sub ?_ | refine pu_mul ?_ | refine pu_neg ?_ | refine fa_at ?_ | refine nl_ptr ?_ | refine ex20 ?_ | refine ex21 ?_ | refine ex30 ?_ | refine ex31 ?_ | refine ex32 ?_ | refine ln_rule ?_ | refine lnT_rule ?_ | refine pu_and ?_ | refine pu_or ?_ | refine pu_xor ?_ | refine pu_seq ?_ | refine pu_sne ?_)
    refine lds_here (fun w h => h) (.tail _ (.head _)) (v := v) rfl ?_
    refine hvv.ln ?_
    repeat (first | refine pu_not ?_ | refine pu_eql ?_ | refine pu_neq ?_ | refine pu_lss ?_ | refine pu_leq ?_ | refine pu_gtr ?_ | refine pu_geq ?_ | refine pu_add ?_ | refine pu_sub ?_ | refine pu_mul ?_ | refine pu_neg ?_ | refine fa_at ?_ | refine nl_ptr ?_ | refine ex20 ?_ | refine ex21 ?_ | refine ex30 ?_ | refine ex31 ?_ | refine ex32 ?_ | refine ln_rule ?_ | refine lnT_rule ?_ | refine pu_and ?_ | refine pu_or ?_ | refine pu_xor ?_ | refine pu_seq ?_ | refine pu_sne ?_)
    refine cnd (fun hlt => ?_) (fun hlt => ?_)
    · have hlt : i.imm < p.fs.length := by simpa using hlt
      obtain ⟨ps, cc, g, g1, g2, g3, g4, g5⟩ := hvv.at hu.1 hlt
      repeat (first | refine pu_not ?_ | refine pu_eql ?_ | refine pu_neq ?_ | refine pu_lss ?_ | refine pu_leq ?_ | refine pu_gtr ?_ | refine pu_geq ?_ | refine pu_add ?_ | refine pu_sub ?_ | refine pu_mul ?_ | refine pu_neg ?_ | refine fa_at ?_ | refine nl_ptr ?_ | refine ex20 ?_ | refine ex21 ?_ | refine ex30 ?_ | refine ex31 ?_ | refine ex32 ?_ | refine ln_rule ?_ | refine lnT_rule ?_ | refine pu_and ?_ | refine pu_or ?_ | refine pu_xor ?_ | refine pu_seq ?_ | refine pu_sne ?_)
      refine lds_here (fun w h => h) (.head _) (v := vI i.c) rfl ?_
      repeat (first | refine pu_not ?_ | refine pu_eql ?_ | refine pu_neq ?_ | refine pu_lss ?_ | refine pu_leq ?_ | refine pu_gtr ?_ | refine pu_geq ?_ | refine pu_add ?_ | refine pu_sub ?_ | refine pu_mul ?_ | refine pu_neg ?_ | refine fa_at ?_ | refine nl_ptr ?_ | refine ex20 ?_ | refine ex21 ?_ | refine ex30 ?_ | refine ex31 ?_ | refine ex32 ?_ | refine ln_rule ?_ | refine lnT_rule ?_ | refine pu_and ?_ | refine pu_or ?_ | refine pu_xor ?_ | refine pu_seq ?_ | refine pu_sne ?_)
      refine lds_here (fun w h => h) (.tail _ (.head _)) (v := v) rfl ?_
      repeat (first | refine pu_not ?_ | refine pu_eql ?_ | refine pu_neq ?_ | refine pu_lss ?_ | refine pu_leq ?_ | refine pu_gtr ?_ | refine pu_geq ?_ | refine pu_add ?_ | refine pu_sub ?_ | refine pu_mul ?_ | refine pu_neg ?_ | refine fa_at ?_ | refine nl_ptr ?_ | refine ex20 ?_ | refine ex21 ?_ | refine ex30 ?_ | refine ex31 ?_ | refine ex32 ?_ | refine ln_rule ?_ | refine lnT_rule ?_ | refine pu_and ?_ | refine pu_or ?_ | refine pu_xor ?_ | refine pu_seq ?_ | refine pu_sne ?_)
      refine lds_here (fun w h => h) (.head _) (v := .int .u32 i.imm) rfl ?_
      refine sls_flds (fun w h => h) g2 hu.1 g3 (v := vI g.regs) rfl ?_
      repeat (first | refine pu_not ?_ | refine pu_eql ?_ | refine pu_neq ?_ | refine pu_lss ?_ | refine pu_leq ?_ | refine pu_gtr ?_ | refine pu_geq ?_ | refine pu_add ?_ | refine pu_sub ?_ | refine pu_mul ?_ | refine pu_neg ?_ | refine fa_at ?_ | refine nl_ptr ?_ | refine ex20 ?_ | refine ex21 ?_ | refine ex30 ?_ | refine ex31 ?_ | refine ex32 ?_ | refine ln_rule ?_ | refine lnT_rule ?_ | refine pu_and ?_ | refine pu_or ?_ | refine pu_xor ?_ | refine pu_seq ?_ | refine pu_sne ?_)
      have e : callsI p.fs i = decide (i.c ≤ g.regs) := by
        unfold callsI
        rw [decide_eq_false (by omega), Bool.false_or, g1]
      rw [e] at k
      exact k _ h5.drop.drop
    · have hlt : ¬ i.imm < p.fs.length := by simpa using hlt
      have e : callsI p.fs i = false := by
        unfold callsI
        rw [decide_eq_false (by omega), Bool.false_or, List.getElem?_eq_none (by omega)]
      rw [e] at k
      exact k _ h5.drop.drop
def endsI (f : Fun) (pc : Nat) (i : Ins) : Bool := decide (pc + 1 < f.code.length) || lvI i
theorem ends_pf (hc : Sls X c 5 (icode f.code)) (hX : ∀ x, x ∈ X → x ∈ H) (hi : f.code[pc]? = some i) (hm : immOk f.code) : PF PG B H (.func (.func N.program_place_ends) #[.agg (plc f c p v pc).toArray] #[]) [] (vB (endsI f pc i)) := fun Z K PK w hw k => by
  have hu := hm i (List.mem_of_getElem? hi)
  have hpl := (List.getElem?_eq_some_iff.1 hi).1
  have hmax := hc.max
  rw [icode_len] at hmax
  simp only [maxLen] at hmax
  refine callV_fn program_place_ends.okf (program_place_ends.ok ?_)
  unfold program_place_ends.C
  refine al_rule hw (l := plc f c p v pc) rfl (fun b w1 h1 => ?_)
  have hXX : ∀ x, x ∈ X → x ∈ (b, plO f c p v pc) :: (Z ++ H) := fun x hx => .tail _ (List.mem_append_right _ (hX x hx))
  repeat (first | refine pu_not ?_ | refine pu_eql ?_ | refine pu_neq ?_ | refine pu_lss ?_ | refine pu_leq ?_ | refine pu_gtr ?_ | refine pu_geq ?_ | refine pu_add ?_ | refine pu_sub ?_ | refine pu_mul ?_ | refine pu_neg ?_ | refine fa_at ?_ | refine nl_ptr ?_ | refine ex20 ?_ | refine ex21 ?_ | refine ex30 ?_ | refine ex31 ?_ | refine ex32 ?_ | refine ln_rule ?_ | refine lnT_rule ?_ | refine pu_and ?_ | refine pu_or ?_ | refine pu_xor ?_ | refine pu_seq ?_ | refine pu_sne ?_)
  refine ld_here h1 (.head _) (v := vI pc) rfl ?_
  repeat (first | refine pu_not ?_ | refine pu_eql ?_ | refine pu_neq ?_ | refine pu_lss ?_ | refine pu_leq ?_ | refine pu_gtr ?_ | refine pu_geq ?_ | refine pu_add ?_ | refine pu_sub ?_ | refine pu_mul ?_ | refine pu_neg ?_ | refine fa_at ?_ | refine nl_ptr ?_ | refine ex20 ?_ | refine ex21 ?_ | refine ex30 ?_ | refine ex31 ?_ | refine ex32 ?_ | refine ln_rule ?_ | refine lnT_rule ?_ | refine pu_and ?_ | refine pu_or ?_ | refine pu_xor ?_ | refine pu_seq ?_ | refine pu_sne ?_)
  refine ld_here h1 (.head _) (v := c) rfl ?_
  refine sls_ln hc ?_
  rw [icode_len]
  repeat (first | refine pu_not ?_ | refine pu_eql ?_ | refine pu_neq ?_ | refine pu_lss ?_ | refine pu_leq ?_ | refine pu_gtr ?_ | refine pu_geq ?_ | refine pu_add ?_ | refine pu_sub ?_ | refine pu_mul ?_ | refine pu_neg ?_ | refine fa_at ?_ | refine nl_ptr ?_ | refine ex20 ?_ | refine ex21 ?_ | refine ex30 ?_ | refine ex31 ?_ | refine ex32 ?_ | refine ln_rule ?_ | refine lnT_rule ?_ | refine pu_and ?_ | refine pu_or ?_ | refine pu_xor ?_ | refine pu_seq ?_ | refine pu_sne ?_)
  rw [wrap64_in (by omega) (by omega)]
  unfold endsI at k
  refine cnd (fun hq => ?_) (fun hq => ?_)
  · have hq : pc + 1 < f.code.length := by simp at hq; omega
    rw [decide_eq_true hq, Bool.true_or] at k
    exact k _ h1.drop
  · have hq : ¬ pc + 1 < f.code.length := by simp at hq; omega
    rw [decide_eq_false hq, Bool.false_or] at k
    refine ldn_here h1 (.head _) (vs := plc f c p v pc) rfl rfl ?_
    refine ins_spec hc hXX hi h1 (fun w2 h2 => ?_)
    refine leaves_spec hu h2 (fun w3 h3 => ?_)
    exact k _ h3.drop
end
end Go.Proofs.YtkkkcafkepnecaaGreat

/-! Programs: a place; their numbers. -/
set_option linter.unusedVariables false
set_option linter.unusedSimpArgs false
namespace Go.Proofs.YtkkkcafkepnecaaGreat
open Go Go.RowKit Vc
attribute [local irreducible] binV Op.unary convert nlW faW ldS ldW ixS ixA ixV ixT exW lnS lnT pu stW alW opW opU bsW mkW

section
variable {B w : World} {H X : Hp} {K : Value → World → Prop} {PK : List PanicEntry → World → Prop} {KK : Value → Prop} {f : Fun} {c v : Value} {p : Pr} {pc : Nat} {i : Ins}
def fineL (p : Pr) (f : Fun) (pc : Nat) (i : Ins) : List Bool := [fitsI f i, jumpsI f i, callsI p.fs i, endsI f pc i]
def fineI (p : Pr) (f : Fun) (pc : Nat) (i : Ins) : Bool := (fineL p f pc i).all id
def askV (pl : Value) : List Value := [.func (.func N.program_place_fits) #[pl] #[], .func (.func N.program_place_jumps) #[pl] #[], .func (.func N.program_place_calls) #[pl] #[], .func (.func N.program_place_ends) #[pl] #[]]
theorem ask_pf (hc : Sls X c 5 (icode f.code)) (hv : fsIn X v p.fs) (hX : ∀ x, x ∈ X → x ∈ H) (hi : f.code[pc]? = some i) (hm : immOk f.code) {n : Nat} (hn : n < 4) :
    ∃ (a : Value) (r : Bool), (askV (.agg (plc f c p v pc).toArray))[n]? = some a ∧ (fineL p f pc i)[n]? = some r ∧ PF PG B H a [] (vB r) := by
  match n, hn with
  | 0, _ => exact ⟨_, _, rfl, rfl, fits_pf hc hX hi hm⟩
  | 1, _ => exact ⟨_, _, rfl, rfl, jumps_pf hc hX hi hm⟩
  | 2, _ => exact ⟨_, _, rfl, rfl, calls_pf hc hv hX hi hm⟩
  | 3, _ => exact ⟨_, _, rfl, rfl, ends_pf hc hX hi hm⟩
theorem fine_spec (hc : Sls X c 5 (icode f.code)) (hv : fsIn X v p.fs) (hX : ∀ x, x ∈ X → x ∈ H) (hi : f.code[pc]? = some i) (hm : immOk f.code) (h : Ow B w H) (k : ∀ w', Ow B w' H → K (vB (fineI p f pc i)) w') : callW PG N.program_place_fine [.agg (plc f c p v pc).toArray] K PK w := by
  refine program_place_fine.ok ?_
  unfold program_place_fine.C
  refine al_rule h (l := plc f c p v pc) rfl (fun b w1 h1 => ?_)
  have g : ∀ KK : Value → Prop, KK (.agg (plc f c p v pc).toArray) → ldW (some 7) (ptr b) w1 KK := fun KK kk => ldn_here h1 (.head _) (vs := plc f c p v pc) rfl rfl kk
  refine g _ (g _ (g _ (g _ ?_)))
  refine pu_build (askV (.agg (plc f c p v pc).toArray)) (by kernel_rfl) ?_
  refine ⟨fun l w => ∃ n : Nat, l = [vI n] ∧ n ≤ 4 ∧ ((fineL p f pc i).take n).all id = true ∧ Ow B w ((b, plO f c p v pc) :: H), fun l _ => match l with | [.int _ q] => 4 - q.toNat | _ => 0, ⟨0, rfl, Nat.zero_le _, rfl, h1⟩, ?_⟩
  rintro l w5 ⟨n, rfl, hn, hall, h5⟩ j
  repeat (first | refine pu_not ?_ | refine pu_eql ?_ | refine pu_neq ?_ | refine pu_lss ?_ | refine pu_leq ?_ | refine pu_gtr ?_ | refine pu_geq ?_ | refine pu_add ?_ | refine pu_sub ?_ | refine pu_mul ?_ | refine pu_neg ?_ | refine fa_at ?_ | refine nl_ptr ?_ | refine ex20 ?_ | refine ex21 ?_ | refine ex30 ?_ | refine ex31 ?_ | refine ex32 ?_ | refine ln_rule ?_ | refine lnT_rule ?_ | refine pu_and ?_ | refine pu_or ?_ | refine pu_xor ?_ | refine pu_seq ?_ | refine pu_sne ?_)
  refine cnd (fun hlt => ?_) (fun hlt => ?_)
  · have hlt : n < 4 := by simp at hlt; omega
    obtain ⟨a, r, e1, e2, hpf⟩ := ask_pf (B := B) hc hv (fun x hx => List.Mem.tail (b, plO f c p v pc) (hX x hx)) hi hm hlt
    refine ixV_rule (by omega) (by omega) (by rw [Int.toNat_natCast]; exact e1) ?_
    refine hpf [] _ _ _ h5 (fun w6 h6 => ?_)
    repeat (first | refine pu_not ?_ | refine pu_eql ?_ | refine pu_neq ?_ | refine pu_lss ?_ | refine pu_leq ?_ | refine pu_gtr ?_ | refine pu_geq ?_ | refine pu_add ?_ | refine pu_sub ?_ | refine pu_mul ?_ | refine pu_neg ?_ | refine fa_at ?_ | refine nl_ptr ?_ | refine ex20 ?_ | refine ex21 ?_ | refine ex30 ?_ | refine ex31 ?_ | refine ex32 ?_ | refine ln_rule ?_ | refine lnT_rule ?_ | refine pu_and ?_ | refine pu_or ?_ | refine pu_xor ?_ | refine pu_seq ?_ | refine pu_sne ?_)
    refine cnd (fun hq => ?_) (fun hq => ?_)
    · have hq : r = false := by simpa using hq
      have e : fineI p f pc i = false := by
        unfold fineI
        rw [List.all_eq_false]
        exact ⟨r, List.mem_of_getElem? e2, by simp [hq]⟩
      rw [e] at k
      exact k _ h6.drop
    · have hq : r = true := by simpa using hq
      repeat (first | refine pu_not ?_ | refine pu_eql ?_ | refine pu_neq ?_ | refine pu_lss ?_ | refine pu_leq ?_ | refine pu_gtr ?_ | refine pu_geq ?_ | refine pu_add ?_ | refine pu_sub ?_ | refine pu_mul ?_ | refine pu_neg ?_ | refine fa_at ?_ | refine nl_ptr ?_ | refine ex20 ?_ | refine ex21 ?_ | refine ex30 ?_ | refine ex31 ?_ | refine ex32 ?_ | refine ln_rule ?_ | refine lnT_rule ?_ | refine pu_and ?_ | refine pu_or ?_ | refine pu_xor ?_ | refine pu_seq ?_ | refine pu_sne ?_)
      rw [wrap64_in (by omega) (by omega)]
      refine ⟨⟨n + 1, rfl, hlt, ?_, h6⟩, by simp; omega⟩
      rw [List.take_add_one, e2, List.all_append, hall, hq]; rfl
  · obtain rfl : n = 4 := by simp at hlt; omega
    have e : fineI p f pc i = true := by
      unfold fineI
      rw [show fineL p f pc i = (fineL p f pc i).take 4 from rfl]; exact hall
    rw [e] at k
    exact k _ h5.drop

/-! ### Numbers within bounds -/
abbrev brow (b : Int × Int × Int) : List Value := [vI b.1, vI b.2.1, vI b.2.2]
def brows (l : List (Int × Int × Int)) : List (List Value) := l.map brow
theorem brows_three (l : List (Int × Int × Int)) : ∀ x ∈ brows l, x.length = 3 := fun x hx => by
  obtain ⟨p, _, rfl⟩ := List.mem_map.1 hx
  rfl
theorem own_sls {S : Hp} {e : TypeId} {size : Nat} {rows : List (List Value)} (hl : ∀ x ∈ rows, x.length = size) (h : Vc.Own S e size v rows.length rows.flatten) : Sls S v size rows := by
  obtain ⟨h1, ⟨rfl, rfl, h0⟩ | ⟨g, cap, l, rfl, rfl, hc, hm, hlen, hx⟩⟩ := h
  · have : rows = [] := List.eq_nil_of_length_eq_zero h0
    subst this
    exact ⟨none, 0, rfl, Nat.zero_le _, Nat.zero_le _, by simp, by simp⟩
  · refine ⟨some ⟨g, 0, none⟩, cap, rfl, hc, hm, hl, fun i x hi => ⟨_, rfl, fun j y hj => ?_⟩⟩
    rw [add_mk]
    refine cell_here (.head _) ?_
    have := flatten_at hj rows i hl hi
    rw [← hx, List.getElem?_take] at this
    split at this
    · simpa using this
    · cases this
def inB (b : Int × Int × Int) : Bool := decide (b.2.1 ≤ b.1) && decide (b.1 ≤ b.2.2)
theorem within1_pf (b : Int × Int × Int) : PF PG B H (fnc N.program_within_1 #[]) [.agg (brow b).toArray] (vB (inB b)) := fun Z K PK w hw k => by
  refine callV_fn program_within_1.okf (program_within_1.ok ?_)
  unfold program_within_1.C
  refine al_rule hw (l := brow b) rfl (fun b2 w1 h1 => ?_)
  unfold inB at k
  repeat (first | refine pu_not ?_ | refine pu_eql ?_ | refine pu_neq ?_ | refine pu_lss ?_ | refine pu_leq ?_ | refine pu_gtr ?_ | refine pu_geq ?_ | refine pu_add ?_ | refine pu_sub ?_ | refine pu_mul ?_ | refine pu_neg ?_ | refine fa_at ?_ | refine nl_ptr ?_ | refine ex20 ?_ | refine ex21 ?_ | refine ex30 ?_ | refine ex31 ?_ | refine ex32 ?_ | refine ln_rule ?_ | refine lnT_rule ?_ | refine pu_and ?_ | refine pu_or ?_ | refine pu_xor ?_ | refine pu_seq ?_ | refine pu_sne ?_)
  refine ld_here h1 (.head _) (v := vI b.2.1) rfl ?_
  repeat (first | refine pu_not ?_ | refine pu_eql ?_ | refine pu_neq ?_ | refine pu_lss ?_ | refine pu_leq ?_ | refine pu_gtr ?_ | refine pu_geq ?_ | refine pu_add ?_ | refine pu_sub ?_ | refine pu_mul ?_ | refine pu_neg ?_ | refine fa_at ?_ | refine nl_ptr ?_ | refine ex20 ?_ | refine ex21 ?_ | refine ex30 ?_ | refine ex31 ?_ | refine ex32 ?_ | refine ln_rule ?_ | refine lnT_rule ?_ | refine pu_and ?_ | refine pu_or ?_ | refine pu_xor ?_ | refine pu_seq ?_ | refine pu_sne ?_)
  refine ld_here h1 (.head _) (v := vI b.1) rfl ?_
  repeat (first | refine pu_not ?_ | refine pu_eql ?_ | refine pu_neq ?_ | refine pu_lss ?_ | refine pu_leq ?_ | refine pu_gtr ?_ | refine pu_geq ?_ | refine pu_add ?_ | refine pu_sub ?_ | refine pu_mul ?_ | refine pu_neg ?_ | refine fa_at ?_ | refine nl_ptr ?_ | refine ex20 ?_ | refine ex21 ?_ | refine ex30 ?_ | refine ex31 ?_ | refine ex32 ?_ | refine ln_rule ?_ | refine lnT_rule ?_ | refine pu_and ?_ | refine pu_or ?_ | refine pu_xor ?_ | refine pu_seq ?_ | refine pu_sne ?_)
  refine cnd (fun hq => ?_) (fun hq => ?_)
  · rw [hq, Bool.true_and] at k
    repeat (first | refine pu_not ?_ | refine pu_eql ?_ | refine pu_neq ?_ | refine pu_lss ?_ | refine pu_leq ?_ | refine pu_gtr ?_ | refine pu_geq ?_ | refine pu_add ?_ | refine pu_sub ?_ | refine pu_mul ?_ | refine pu_neg ?_ | refine fa_at ?_ | refine nl_ptr ?_ | refine ex20 ?_ | refine ex21 ?_ | refine ex30 ?_ | refine ex31 ?_ | refine ex32 ?_ | refine ln_rule ?_ | refine lnT_rule ?_ | refine pu_and ?_ | refine pu_or ?_ | refine pu_xor ?_ | refine pu_seq ?_ | refine pu_sne ?_)
    refine ld_here h1 (.head _) (v := vI b.1) rfl ?_
    repeat (first | refine pu_not ?_ | refine pu_eql ?_ | refine pu_neq ?_ | refine pu_lss ?_ | refine pu_leq ?_ | refine pu_gtr ?_ | refine pu_geq ?_ | refine pu_add ?_ | refine pu_sub ?_ | refine pu_mul ?_ | refine pu_neg ?_ | refine fa_at ?_ | refine nl_ptr ?_ | refine ex20 ?_ | refine ex21 ?_ | refine ex30 ?_ | refine ex31 ?_ | refine ex32 ?_ | refine ln_rule ?_ | refine lnT_rule ?_ | refine pu_and ?_ | refine pu_or ?_ | refine pu_xor ?_ | refine pu_seq ?_ | refine pu_sne ?_)
    refine ld_here h1 (.head _) (v := vI b.2.2) rfl ?_
    repeat (first | refine pu_not ?_ | refine pu_eql ?_ | refine pu_neq ?_ | refine pu_lss ?_ | refine pu_leq ?_ | refine pu_gtr ?_ | refine pu_geq ?_ | refine pu_add ?_ | refine pu_sub ?_ | refine pu_mul ?_ | refine pu_neg ?_ | refine fa_at ?_ | refine nl_ptr ?_ | refine ex20 ?_ | refine ex21 ?_ | refine ex30 ?_ | refine ex31 ?_ | refine ex32 ?_ | refine ln_rule ?_ | refine lnT_rule ?_ | refine pu_and ?_ | refine pu_or ?_ | refine pu_xor ?_ | refine pu_seq ?_ | refine pu_sne ?_)
    exact k _ h1.drop
  · rw [hq, Bool.false_and] at k
    exact k _ h1.drop
theorem indexB_spec {s g : Value} {l : List (Int × Int × Int)} {q : Int × Int × Int → Bool} (h : Ow B w H) (hs : Sls H s 3 (brows l)) (hlen : l.length < 2 ^ 62) (hf : ∀ b, PF PG B H g [.agg (brow b).toArray] (vB (q b)))
    (k : ∀ w' (n : Int), (0 ≤ n ↔ l.any q = true) → Ow B w' H → K (vI n) w') : callW PG N.slices_IndexFunc_sl_program_bound_program_bound [s, g] K PK w := by
  refine slices_IndexFunc_sl_program_bound_program_bound.ok ?_
  unfold slices_IndexFunc_sl_program_bound_program_bound.C
  have hbl : (brows l).length = l.length := by simp [brows]
  refine sls_ln hs ?_
  rw [hbl]
  refine ⟨fun l' w => ∃ i : Nat, l' = [vI i] ∧ i ≤ l.length ∧ (l.take i).any q = false ∧ Ow B w H, fun l' _ => match l' with | [.int _ n] => l.length - n.toNat | _ => 0, ⟨0, rfl, Nat.zero_le _, rfl, h⟩, ?_⟩
  rintro l' w1 ⟨i, rfl, hi, hno, h1⟩ j
  repeat (first | refine pu_not ?_ | refine pu_eql ?_ | refine pu_neq ?_ | refine pu_lss ?_ | refine pu_leq ?_ | refine pu_gtr ?_ | refine pu_geq ?_ | refine pu_add ?_ | refine pu_sub ?_ | refine pu_mul ?_ | refine pu_neg ?_ | refine fa_at ?_ | refine nl_ptr ?_ | refine ex20 ?_ | refine ex21 ?_ | refine ex30 ?_ | refine ex31 ?_ | refine ex32 ?_ | refine ln_rule ?_ | refine lnT_rule ?_ | refine pu_and ?_ | refine pu_or ?_ | refine pu_xor ?_ | refine pu_seq ?_ | refine pu_sne ?_)
  refine cnd (fun hlt => ?_) (fun hlt => ?_)
  · have hlt : i < l.length := by simpa using hlt
    refine sls_ld h1 hs (x := brow l[i]) (by omega) (by rw [Int.toNat_natCast]; simp [brows, hlt]) ?_
    refine hf l[i] [] _ _ _ h1 (fun w2 h2 => ?_)
    refine cnd (fun hp => ?_) (fun hp => ?_)
    · exact k _ _ ⟨fun _ => List.any_eq_true.2 ⟨_, List.getElem_mem hlt, hp⟩, fun _ => by omega⟩ h2
    · repeat (first | refine pu_not ?_ | refine pu_eql ?_ | refine pu_neq ?_ | refine pu_lss ?_ | refine pu_leq ?_ | refine pu_gtr ?_ | refine pu_geq ?_ | refine pu_add ?_ | refine pu_sub ?_ | refine pu_mul ?_ | refine pu_neg ?_ | refine fa_at ?_ | refine nl_ptr ?_ | refine ex20 ?_ | refine ex21 ?_ | refine ex30 ?_ | refine ex31 ?_ | refine ex32 ?_ | refine ln_rule ?_ | refine lnT_rule ?_ | refine pu_and ?_ | refine pu_or ?_ | refine pu_xor ?_ | refine pu_seq ?_ | refine pu_sne ?_)
      rw [wrap64_in (by omega) (by omega)]
      refine ⟨⟨i + 1, rfl, hlt, ?_, h2⟩, by simp; omega⟩
      rw [List.take_add_one, List.getElem?_eq_getElem hlt, List.any_append, hno]
      simpa using hp
  · obtain rfl : i = l.length := by simp at hlt; omega
    rw [List.take_length] at hno
    exact k _ _ ⟨fun h => by omega, fun h => by rw [hno] at h; cases h⟩ h1
theorem within_spec {s : Value} {l : List (Int × Int × Int)} (h : Ow B w H) (hs : Sls H s 3 (brows l)) (hlen : l.length < 2 ^ 62) (k : ∀ w', Ow B w' H → K (vB (l.all inB)) w') : callW PG N.program_within [s] K PK w := by
  refine program_within.ok ?_
  unfold program_within.C
  refine program_all_program_bound.ok ?_
  unfold program_all_program_bound.C
  refine al_rule h (l := [fnc N.program_within_1 #[]]) rfl (fun b2 w1 h1 => ?_)
  refine slices_ContainsFunc_sl_program_bound_program_bound.ok ?_
  unfold slices_ContainsFunc_sl_program_bound_program_bound.C
  refine indexB_spec (q := fun b => !inB b) h1 (hs.mono fun x hx => .tail _ hx) hlen (fun b => ?_) (fun w2 n hn h2 => ?_)
  · intro Z K PK w hw k
    refine callV_fn program_all_program_bound_1.okf (program_all_program_bound_1.ok ?_)
    unfold program_all_program_bound_1.C
    refine al_rule hw (l := brow b) rfl (fun b3 w3 h3 => ?_)
    refine ld_here h3 (.tail _ (List.mem_append_right _ (.head _))) rfl ?_
    refine ldn_here h3 (.head _) (vs := brow b) rfl rfl ?_
    refine within1_pf (H := (b3, cel (brow b) T.t_program_bound) :: (Z ++ (b2, cel [fnc N.program_within_1 #[]] T.t_func_program_bound_bool_2) :: H)) b [] _ _ _ h3 (fun w4 h4 => ?_)
    repeat (first | refine pu_not ?_ | refine pu_eql ?_ | refine pu_neq ?_ | refine pu_lss ?_ | refine pu_leq ?_ | refine pu_gtr ?_ | refine pu_geq ?_ | refine pu_add ?_ | refine pu_sub ?_ | refine pu_mul ?_ | refine pu_neg ?_ | refine fa_at ?_ | refine nl_ptr ?_ | refine ex20 ?_ | refine ex21 ?_ | refine ex30 ?_ | refine ex31 ?_ | refine ex32 ?_ | refine ln_rule ?_ | refine lnT_rule ?_ | refine pu_and ?_ | refine pu_or ?_ | refine pu_xor ?_ | refine pu_seq ?_ | refine pu_sne ?_)
    exact k _ h4.drop
  · refine pu_geq ?_
    repeat (first | refine pu_not ?_ | refine pu_eql ?_ | refine pu_neq ?_ | refine pu_lss ?_ | refine pu_leq ?_ | refine pu_gtr ?_ | refine pu_geq ?_ | refine pu_add ?_ | refine pu_sub ?_ | refine pu_mul ?_ | refine pu_neg ?_ | refine fa_at ?_ | refine nl_ptr ?_ | refine ex20 ?_ | refine ex21 ?_ | refine ex30 ?_ | refine ex31 ?_ | refine ex32 ?_ | refine ln_rule ?_ | refine lnT_rule ?_ | refine pu_and ?_ | refine pu_or ?_ | refine pu_xor ?_ | refine pu_seq ?_ | refine pu_sne ?_)
    have e : (!decide (n ≥ 0)) = l.all inB := by
      have h1 : decide (n ≥ 0) = l.any (fun b => !inB b) := by
        cases ha : l.any (fun b => !inB b)
        · rw [ha] at hn; simp at hn; simp; omega
        · rw [ha] at hn; simp at hn; simp; omega
      rw [h1, List.all_eq_not_any_not]
    rw [e]
    exact k _ h2.drop
def fnum (f : Fun) : List (Int × Int × Int) := [(f.regs, 1, 16), (f.code.length, 1, 512)]
def numL (p : Pr) : List (Int × Int × Int) := [((p.fs.length : Int), 1, 32), (p.mu, 0, 64), (p.rw, 0, 64), (p.gr, 0, 64)] ++ p.fs.flatMap fnum
def numI (p : Pr) : Bool := (numL p).all inB
theorem brows_app (a b : List (Int × Int × Int)) : brows (a ++ b) = brows a ++ brows b := List.map_append
theorem brows_plain (l : List (Int × Int × Int)) : (brows l).flatten.all plainV = true := by
  refine List.all_eq_true.2 fun u hu => ?_
  obtain ⟨x, hx, hu⟩ := List.mem_flatten.1 hu
  obtain ⟨b, _, rfl⟩ := List.mem_map.1 hx
  rcases List.mem_cons.1 hu with rfl | hu
  · rfl
  · rcases List.mem_cons.1 hu with rfl | hu
    · rfl
    · rw [List.mem_singleton.1 hu]; rfl
theorem info_bound : (PG.info? T.t_program_bound).map (fun i => (i.zero, i.size, i.bytes)) = some (some (.agg #[vI 0, vI 0, vI 0]), 3, 24) := by kernel_rfl
theorem und_slbound : PG.underlying T.t_sl_program_bound = some (.slice T.t_program_bound) := by kernel_rfl
theorem brows_flat_len (l : List (Int × Int × Int)) : (brows l).flatten.length = l.length * 3 := by
  induction l with
  | nil => rfl
  | cons x l ih =>
    rw [show brows (x :: l) = brow x :: brows l from rfl, List.flatten_cons, List.length_append, ih, List.length_cons]
    simp; omega
theorem numbers_spec (hv : fsIn X v p.fs) (hX : ∀ x, x ∈ X → x ∈ H) (hlen : p.fs.length ≤ 1000) (h : Ow B w H) (k : ∀ w', Ow B w' H → K (vB (numI p)) w') : callW PG N.program_numbers [.agg (p.cells v).toArray] K PK w := by
  refine program_numbers.ok ?_
  unfold program_numbers.C
  refine al_rule h (l := p.cells v) rfl (fun b2 w1 h1 => ?_)
  repeat (first | refine pu_not ?_ | refine pu_eql ?_ | refine pu_neq ?_ | refine pu_lss ?_ | refine pu_leq ?_ | refine pu_gtr ?_ | refine pu_geq ?_ | refine pu_add ?_ | refine pu_sub ?_ | refine pu_mul ?_ | refine pu_neg ?_ | refine fa_at ?_ | refine nl_ptr ?_ | refine ex20 ?_ | refine ex21 ?_ | refine ex30 ?_ | refine ex31 ?_ | refine ex32 ?_ | refine ln_rule ?_ | refine lnT_rule ?_ | refine pu_and ?_ | refine pu_or ?_ | refine pu_xor ?_ | refine pu_seq ?_ | refine pu_sne ?_)
  refine ld_here h1 (.head _) (v := v) rfl ?_
  refine hv.ln ?_
  refine pu_build (brow (p.fs.length, 1, 32)) (by kernel_rfl) ?_
  repeat (first | refine pu_not ?_ | refine pu_eql ?_ | refine pu_neq ?_ | refine pu_lss ?_ | refine pu_leq ?_ | refine pu_gtr ?_ | refine pu_geq ?_ | refine pu_add ?_ | refine pu_sub ?_ | refine pu_mul ?_ | refine pu_neg ?_ | refine fa_at ?_ | refine nl_ptr ?_ | refine ex20 ?_ | refine ex21 ?_ | refine ex30 ?_ | refine ex31 ?_ | refine ex32 ?_ | refine ln_rule ?_ | refine lnT_rule ?_ | refine pu_and ?_ | refine pu_or ?_ | refine pu_xor ?_ | refine pu_seq ?_ | refine pu_sne ?_)
  refine ld_here h1 (.head _) (v := vI p.mu) rfl ?_
  refine pu_build (brow (p.mu, 0, 64)) (by kernel_rfl) ?_
  repeat (first | refine pu_not ?_ | refine pu_eql ?_ | refine pu_neq ?_ | refine pu_lss ?_ | refine pu_leq ?_ | refine pu_gtr ?_ | refine pu_geq ?_ | refine pu_add ?_ | refine pu_sub ?_ | refine pu_mul ?_ | refine pu_neg ?_ | refine fa_at ?_ | refine nl_ptr ?_ | refine ex20 ?_ | refine ex21 ?_ | refine ex30 ?_ | refine ex31 ?_ | refine ex32 ?_ | refine ln_rule ?_ | refine lnT_rule ?_ | refine pu_and ?_ | refine pu_or ?_ | refine pu_xor ?_ | refine pu_seq ?_ | refine pu_sne ?_)
  refine ld_here h1 (.head _) (v := vI p.rw) rfl ?_
  refine pu_build (brow (p.rw, 0, 64)) (by kernel_rfl) ?_
  repeat (first | refine pu_not ?_ | refine pu_eql ?_ | refine pu_neq ?_ | refine pu_lss ?_ | refine pu_leq ?_ | refine pu_gtr ?_ | refine pu_geq ?_ | refine pu_add ?_ | refine pu_sub ?_ | refine pu_mul ?_ | refine pu_neg ?_ | refine fa_at ?_ | refine nl_ptr ?_ | refine ex20 ?_ | refine ex21 ?_ | refine ex30 ?_ | refine ex31 ?_ | refine ex32 ?_ | refine ln_rule ?_ | refine lnT_rule ?_ | refine pu_and ?_ | refine pu_or ?_ | refine pu_xor ?_ | refine pu_seq ?_ | refine pu_sne ?_)
  refine ld_here h1 (.head _) (v := vI p.gr) rfl ?_
  refine pu_build (brow (p.gr, 0, 64)) (by kernel_rfl) ?_
  refine bs_rule h1 (brows [((p.fs.length : Int), 1, 32), (p.mu, 0, 64), (p.rw, 0, 64), (p.gr, 0, 64)]).flatten (by kernel_rfl) (fun b3 w2 h2 => ?_)
  repeat (first | refine pu_not ?_ | refine pu_eql ?_ | refine pu_neq ?_ | refine pu_lss ?_ | refine pu_leq ?_ | refine pu_gtr ?_ | refine pu_geq ?_ | refine pu_add ?_ | refine pu_sub ?_ | refine pu_mul ?_ | refine pu_neg ?_ | refine fa_at ?_ | refine nl_ptr ?_ | refine ex20 ?_ | refine ex21 ?_ | refine ex30 ?_ | refine ex31 ?_ | refine ex32 ?_ | refine ln_rule ?_ | refine lnT_rule ?_ | refine pu_and ?_ | refine pu_or ?_ | refine pu_xor ?_ | refine pu_seq ?_ | refine pu_sne ?_)
  refine ld_here h2 (.tail _ (.head _)) (v := v) rfl ?_
  refine hv.ln ?_
  refine ⟨fun l w => ∃ (n : Nat) (S : Hp) (s : Value), l = [s, vI n] ∧ n ≤ p.fs.length ∧ Vc.Own S T.t_program_bound 3 s (4 + 2 * n) (brows ([((p.fs.length : Int), 1, 32), (p.mu, 0, 64), (p.rw, 0, 64), (p.gr, 0, 64)] ++ (p.fs.take n).flatMap fnum)).flatten ∧ Ow B w (S ++ (b2, cel (p.cells v) T.t_api_Program) :: H),
    fun l _ => match l with | [_, .int _ q] => p.fs.length - q.toNat | _ => 0, ⟨0, [(b3, cel (brows [((p.fs.length : Int), 1, 32), (p.mu, 0, 64), (p.rw, 0, 64), (p.gr, 0, 64)]).flatten T.t_program_bound)], _, rfl, Nat.zero_le _, Own.mk (Nat.le_refl _) (by simp [maxLen]) (by rw [brows_flat_len]; rfl) (by rw [List.take_of_length_le (by rw [brows_flat_len]; simp)]; rfl), h2⟩, ?_⟩
  rintro l w5 ⟨n, S, s, rfl, hn, ho, h5⟩ j
  repeat (first | refine pu_not ?_ | refine pu_eql ?_ | refine pu_neq ?_ | refine pu_lss ?_ | refine pu_leq ?_ | refine pu_gtr ?_ | refine pu_geq ?_ | refine pu_add ?_ | refine pu_sub ?_ | refine pu_mul ?_ | refine pu_neg ?_ | refine fa_at ?_ | refine nl_ptr ?_ | refine ex20 ?_ | refine ex21 ?_ | refine ex30 ?_ | refine ex31 ?_ | refine ex32 ?_ | refine ln_rule ?_ | refine lnT_rule ?_ | refine pu_and ?_ | refine pu_or ?_ | refine pu_xor ?_ | refine pu_seq ?_ | refine pu_sne ?_)
  refine cnd (fun hlt => ?_) (fun hlt => ?_)
  · have hlt : n < p.fs.length := by simpa using hlt
    obtain ⟨ps, cc, g, g1, g2, g3, g4, g5⟩ := hv.at (n := (n : Int)) (by omega) (by omega)
    have g1 : p.fs[n]? = some g := by rwa [Int.toNat_natCast] at g1
    have hfm : (p.fs.take (n + 1)).flatMap fnum = (p.fs.take n).flatMap fnum ++ fnum g := by rw [List.take_add_one, g1]; simp
    refine sls_ld h5 (g2.mono fun x hx => List.mem_append_right _ (.tail _ (hX x hx))) (by omega) g3 ?_
    refine al_rule h5 (l := [vI 0, .slice none 0 0]) (by kernel_rfl) (fun b6 w6 h6 => ?_)
    refine st_here (A := []) h6 [vI g.regs, cc] rfl rfl (by simp only [List.all_cons, sls_plain g4]; rfl) (by simp) (fun w7 h7 => ?_)
    simp only [List.take_zero, List.nil_append, Nat.zero_add, List.drop_succ_cons, List.drop_zero, List.drop_nil, List.append_nil] at h7
    repeat (first | refine pu_not ?_ | refine pu_eql ?_ | refine pu_neq ?_ | refine pu_lss ?_ | refine pu_leq ?_ | refine pu_gtr ?_ | refine pu_geq ?_ | refine pu_add ?_ | refine pu_sub ?_ | refine pu_mul ?_ | refine pu_neg ?_ | refine fa_at ?_ | refine nl_ptr ?_ | refine ex20 ?_ | refine ex21 ?_ | refine ex30 ?_ | refine ex31 ?_ | refine ex32 ?_ | refine ln_rule ?_ | refine lnT_rule ?_ | refine pu_and ?_ | refine pu_or ?_ | refine pu_xor ?_ | refine pu_seq ?_ | refine pu_sne ?_)
    refine ld_here h7 (.head _) (v := vI g.regs) rfl ?_
    refine pu_build (brow (g.regs, 1, 16)) (by kernel_rfl) ?_
    repeat (first | refine pu_not ?_ | refine pu_eql ?_ | refine pu_neq ?_ | refine pu_lss ?_ | refine pu_leq ?_ | refine pu_gtr ?_ | refine pu_geq ?_ | refine pu_add ?_ | refine pu_sub ?_ | refine pu_mul ?_ | refine pu_neg ?_ | refine fa_at ?_ | refine nl_ptr ?_ | refine ex20 ?_ | refine ex21 ?_ | refine ex30 ?_ | refine ex31 ?_ | refine ex32 ?_ | refine ln_rule ?_ | refine lnT_rule ?_ | refine pu_and ?_ | refine pu_or ?_ | refine pu_xor ?_ | refine pu_seq ?_ | refine pu_sne ?_)
    refine ld_here h7 (.head _) (v := cc) rfl ?_
    refine sls_ln g4 ?_
    rw [icode_len]
    refine pu_build (brow (g.code.length, 1, 512)) (by kernel_rfl) ?_
    refine bs_rule h7 (brows (fnum g)).flatten (by kernel_rfl) (fun b8 w8 h8 => ?_)
    obtain ⟨inf, i1, i2, i3, i4⟩ := info_of info_bound
    refine app_rule (A := [_, _]) (H := [(b8, cel (brows (fnum g)).flatten T.t_program_bound)]) (m := 2) (ys := (brows (fnum g)).flatten) h8 ho (src_here (.head _) rfl) (fun y hy => by rw [List.mem_singleton.1 hy]; exact .head _) (brows_plain _) und_slbound i1 i2 i3 i4 rfl (by omega) (by simp [maxLen]; omega) (by omega) (fun S' s' w9 h9 ho' => ?_)
    repeat (first | refine pu_not ?_ | refine pu_eql ?_ | refine pu_neq ?_ | refine pu_lss ?_ | refine pu_leq ?_ | refine pu_gtr ?_ | refine pu_geq ?_ | refine pu_add ?_ | refine pu_sub ?_ | refine pu_mul ?_ | refine pu_neg ?_ | refine fa_at ?_ | refine nl_ptr ?_ | refine ex20 ?_ | refine ex21 ?_ | refine ex30 ?_ | refine ex31 ?_ | refine ex32 ?_ | refine ln_rule ?_ | refine lnT_rule ?_ | refine pu_and ?_ | refine pu_or ?_ | refine pu_xor ?_ | refine pu_seq ?_ | refine pu_sne ?_)
    rw [wrap64_in (by omega) (by omega)]
    refine ⟨⟨n + 1, S', s', rfl, hlt, ?_, Ow.drop (Ow.drop h9)⟩, by simp; omega⟩
    rw [hfm, ← List.append_assoc, brows_app, List.flatten_append, show 4 + 2 * (n + 1) = 4 + 2 * n + 2 by omega]
    exact ho'
  · obtain rfl : n = p.fs.length := by simp at hlt; omega
    rw [List.take_length] at ho
    have hcnt : (brows (numL p)).length = 4 + 2 * p.fs.length := by
      have := brows_flat_len (numL p)
      have h2 := ho.1
      have h3 : (brows (numL p)).length = (numL p).length := by simp [brows]
      have h4 : (brows (numL p)).flatten.length = (4 + 2 * p.fs.length) * 3 := h2
      omega
    have hsl : Sls S s 3 (brows (numL p)) := own_sls (brows_three _) (by rw [hcnt]; exact ho)
    have hnl : (numL p).length = 4 + 2 * p.fs.length := by rw [← hcnt]; simp [brows]
    refine within_spec h5 (hsl.mono fun x hx => List.mem_append_left _ hx) (by rw [hnl]; omega) (fun w6 h6 => ?_)
    exact k _ (h6.sub (((List.Sublist.refl H).cons _).trans (List.sublist_append_right S _)))
end
end Go.Proofs.YtkkkcafkepnecaaGreat

/-! Programs: all places; may a program be? -/
set_option linter.unusedVariables false
set_option linter.unusedSimpArgs false
namespace Go.Proofs.YtkkkcafkepnecaaGreat
open Go Go.RowKit Vc
attribute [local irreducible] binV Op.unary convert nlW faW ldS ldW ixS ixA ixV ixT exW lnS lnT pu stW alW opW opU bsW mkW

section
variable {B w : World} {H X : Hp} {K : Value → World → Prop} {PK : List PanicEntry → World → Prop} {KK : Value → Prop} {v : Value} {p : Pr}
/-- How much code. -/
def clen (fs : List Fun) (n : Nat) : Nat := match fs[n]? with
  | some f => f.code.length
  | none => 0
def row1 (n m : Nat) : List (Nat × Nat) := (List.range m).map fun x => (n, x)
def upto (fs : List Fun) (n m : Nat) : List (Nat × Nat) := ((List.range n).flatMap fun x => row1 x (clen fs x)) ++ row1 n m
def siteL (fs : List Fun) : List (Nat × Nat) := upto fs fs.length 0
theorem row1_succ (n m : Nat) : row1 n (m + 1) = row1 n m ++ [(n, m)] := by unfold row1; rw [List.range_succ, List.map_append]; rfl
theorem upto_succ (fs : List Fun) (n m : Nat) : upto fs n (m + 1) = upto fs n m ++ [(n, m)] := by unfold upto; rw [row1_succ, List.append_assoc]
theorem upto_next (fs : List Fun) (n : Nat) : upto fs (n + 1) 0 = upto fs n (clen fs n) := by
  unfold upto
  rw [List.range_succ, List.flatMap_append]
  simp [row1]
theorem upto_pre0 (fs : List Fun) (n : Nat) : ∀ d m : Nat, upto fs n m <+: upto fs n (m + d)
  | 0, m => List.prefix_refl _
  | d + 1, m => (upto_pre0 fs n d m).trans (by rw [show m + (d + 1) = (m + d) + 1 by omega, upto_succ]; exact List.prefix_append _ _)
theorem upto_pre1 (fs : List Fun) : ∀ d n : Nat, upto fs n 0 <+: upto fs (n + d) 0
  | 0, n => List.prefix_refl _
  | d + 1, n => (upto_pre1 fs d n).trans (by rw [show n + (d + 1) = (n + d) + 1 by omega, upto_next]; have := upto_pre0 fs (n + d) (clen fs (n + d)) 0; rwa [Nat.zero_add] at this)
theorem upto_pre {fs : List Fun} {n m : Nat} (hn : n < fs.length) (hm : m ≤ clen fs n) : upto fs n m <+: siteL fs := by
  have h1 := upto_pre0 fs n (clen fs n - m) m
  rw [show m + (clen fs n - m) = clen fs n by omega, ← upto_next] at h1
  have h2 := upto_pre1 fs (fs.length - (n + 1)) (n + 1)
  rw [show n + 1 + (fs.length - (n + 1)) = fs.length by omega] at h2
  exact h1.trans h2
theorem site_at {fs : List Fun} {n m : Nat} (hn : n < fs.length) (hm : m < clen fs n) : (siteL fs)[(upto fs n m).length]? = some (n, m) := by
  obtain ⟨t, ht⟩ := upto_pre (m := m + 1) hn hm
  rw [← ht, upto_succ, List.append_assoc, List.getElem?_append_right (Nat.le_refl _), Nat.sub_self]
  rfl
theorem row1_mem {n m : Nat} {s : Nat × Nat} (h : s ∈ row1 n m) : s.1 = n ∧ s.2 < m := by
  obtain ⟨x, hx, rfl⟩ := List.mem_map.1 h
  exact ⟨rfl, List.mem_range.1 hx⟩
theorem site_mem {fs : List Fun} {s : Nat × Nat} (h : s ∈ siteL fs) : ∃ (f : Fun) (i : Ins), fs[s.1]? = some f ∧ f.code[s.2]? = some i := by
  unfold siteL upto at h
  rcases List.mem_append.1 h with h | h
  · obtain ⟨x, hx, h⟩ := List.mem_flatMap.1 h
    obtain ⟨h1, h2⟩ := row1_mem h
    have hlt := List.mem_range.1 hx
    have hf : fs[x]? = some fs[x] := List.getElem?_eq_getElem hlt
    unfold clen at h2
    rw [hf] at h2
    exact ⟨fs[x], fs[x].code[s.2], by rw [h1]; exact hf, List.getElem?_eq_getElem h2⟩
  · have := row1_mem h; omega
/-- What is handed out at a site. -/
def sargs (ps : List (Value × Fun)) (p : Pr) (v : Value) (s : Nat × Nat) : List Value := match ps[s.1]? with
  | some q => [.agg #[vI s.1, vI s.2], .agg (plc q.2 q.1 p v s.2).toArray]
  | none => [.agg #[], .agg #[]]
theorem sargs_two (ps : List (Value × Fun)) (p : Pr) (v : Value) (s : Nat × Nat) : (sargs ps p v s).length = 2 := by
  unfold sargs
  split <;> rfl
theorem places_seq {b : Nat} {ps : List (Value × Fun)} (hb : (b, cel (p.cells v) T.t_api_Program) ∈ H) (e1 : ps.map Prod.snd = p.fs) (e2 : Sls H v 2 (frows ps)) (e3 : ∀ q ∈ ps, Sls H q.1 5 (icode q.2.code) ∧ immOk q.2.code) (hlen : p.fs.length ≤ 1000) :
    Seq PG B H (fnc N.program_every_1 #[ptr b]) ((siteL p.fs).map (sargs ps p v)) := by
  have hpl : ps.length = p.fs.length := by rw [← e1]; simp
  refine Seq.fn program_every_1.okf ?_
  intro y J Z K PK w X hy hw j0 hr he
  refine program_every_1.ok ?_
  unfold program_every_1.C
  repeat (first | refine pu_not ?_ | refine pu_eql ?_ | refine pu_neq ?_ | refine pu_lss ?_ | refine pu_leq ?_ | refine pu_gtr ?_ | refine pu_geq ?_ | refine pu_add ?_ | refine pu_sub ?_ | refine pu_mul ?_ | refine pu_neg ?_ | refine fa_at ?_ | refine nl_ptr ?_ | refine ex20 ?_ | refine ex21 ?_ | refine ex30 ?_ | refine ex31 ?_ | refine ex32 ?_ | refine ln_rule ?_ | refine lnT_rule ?_ | refine pu_and ?_ | refine pu_or ?_ | refine pu_xor ?_ | refine pu_seq ?_ | refine pu_sne ?_)
  refine ld_here hw (List.mem_append_right _ hb) (v := v) rfl ?_
  refine sls_ln e2 ?_
  have hfl : (frows ps).length = p.fs.length := by simp [frows, hpl]
  rw [hfl]
  refine ⟨fun l w => ∃ (n : Nat) (X : Hp), l = [vI n] ∧ n ≤ p.fs.length ∧ J (upto p.fs n 0).length X ∧ Ow B w (X ++ H), fun l _ => match l with | [.int _ q] => p.fs.length - q.toNat | _ => 0, ⟨0, X, rfl, Nat.zero_le _, j0, hw⟩, ?_⟩
  rintro l w2 ⟨n, X, rfl, hn, hj, h2⟩ j1
  repeat (first | refine pu_not ?_ | refine pu_eql ?_ | refine pu_neq ?_ | refine pu_lss ?_ | refine pu_leq ?_ | refine pu_gtr ?_ | refine pu_geq ?_ | refine pu_add ?_ | refine pu_sub ?_ | refine pu_mul ?_ | refine pu_neg ?_ | refine fa_at ?_ | refine nl_ptr ?_ | refine ex20 ?_ | refine ex21 ?_ | refine ex30 ?_ | refine ex31 ?_ | refine ex32 ?_ | refine ln_rule ?_ | refine lnT_rule ?_ | refine pu_and ?_ | refine pu_or ?_ | refine pu_xor ?_ | refine pu_seq ?_ | refine pu_sne ?_)
  refine cnd (fun hlt => ?_) (fun hlt => ?_)
  · have hlt : n < p.fs.length := by simpa using hlt
    obtain ⟨⟨c, f⟩, hq⟩ : ∃ q, ps[n]? = some q := ⟨_, List.getElem?_eq_getElem (by omega)⟩
    have hf : p.fs[n]? = some f := by rw [← e1, List.getElem?_map, hq]; rfl
    have hcl : clen p.fs n = f.code.length := by unfold clen; rw [hf]
    obtain ⟨q1, q2⟩ := e3 _ (List.mem_of_getElem? hq)
    refine sls_ld h2 (e2.mono fun x hx => List.mem_append_right _ hx) (x := [vI f.regs, c]) (by omega) (by rw [Int.toNat_natCast, frows, List.getElem?_map, hq]; rfl) ?_
    refine al_rule h2 (l := [vI 0, .slice none 0 0]) (by kernel_rfl) (fun b6 w6 h6 => ?_)
    refine st_here (A := []) h6 [vI f.regs, c] rfl rfl (by simp only [List.all_cons, sls_plain q1]; rfl) (by simp) (fun w7 h7 => ?_)
    simp only [List.take_zero, List.nil_append, Nat.zero_add, List.drop_succ_cons, List.drop_zero, List.drop_nil, List.append_nil] at h7
    have h7 : Ow B w7 (X ++ ((b6, cel [vI f.regs, c] T.t_api_Func) :: H)) := h7.perm List.perm_middle.symm
    repeat (first | refine pu_not ?_ | refine pu_eql ?_ | refine pu_neq ?_ | refine pu_lss ?_ | refine pu_leq ?_ | refine pu_gtr ?_ | refine pu_geq ?_ | refine pu_add ?_ | refine pu_sub ?_ | refine pu_mul ?_ | refine pu_neg ?_ | refine fa_at ?_ | refine nl_ptr ?_ | refine ex20 ?_ | refine ex21 ?_ | refine ex30 ?_ | refine ex31 ?_ | refine ex32 ?_ | refine ln_rule ?_ | refine lnT_rule ?_ | refine pu_and ?_ | refine pu_or ?_ | refine pu_xor ?_ | refine pu_seq ?_ | refine pu_sne ?_)
    refine ld_here h7 (List.mem_append_right _ (.head _)) (v := c) rfl ?_
    refine sls_ln q1 ?_
    have hmax := q1.max
    rw [icode_len] at hmax
    rw [icode_len]
    have hml : f.code.length ≤ 9223372036854775807 := by simp only [maxLen] at hmax; omega
    refine ⟨fun l w => ∃ (m : Nat) (X : Hp), l = [vI m] ∧ m ≤ f.code.length ∧ J (upto p.fs n m).length X ∧ Ow B w (X ++ ((b6, cel [vI f.regs, c] T.t_api_Func) :: H)), fun l _ => match l with | [.int _ q] => f.code.length - q.toNat | _ => 0, ⟨0, X, rfl, Nat.zero_le _, hj, h7⟩, ?_⟩
    rintro l w8 ⟨m, X, rfl, hm, hj, h8⟩ j2
    repeat (first | refine pu_not ?_ | refine pu_eql ?_ | refine pu_neq ?_ | refine pu_lss ?_ | refine pu_leq ?_ | refine pu_gtr ?_ | refine pu_geq ?_ | refine pu_add ?_ | refine pu_sub ?_ | refine pu_mul ?_ | refine pu_neg ?_ | refine fa_at ?_ | refine nl_ptr ?_ | refine ex20 ?_ | refine ex21 ?_ | refine ex30 ?_ | refine ex31 ?_ | refine ex32 ?_ | refine ln_rule ?_ | refine lnT_rule ?_ | refine pu_and ?_ | refine pu_or ?_ | refine pu_xor ?_ | refine pu_seq ?_ | refine pu_sne ?_)
    refine cnd (fun hlt2 => ?_) (fun hlt2 => ?_)
    · have hlt2 : m < f.code.length := by simpa using hlt2
      refine pu_build [vI n, vI m] (by kernel_rfl) ?_
      refine ldn_here h8 (List.mem_append_right _ (.head _)) (vs := [vI f.regs, c]) rfl rfl ?_
      refine ldn_here h8 (List.mem_append_right _ (.tail _ hb)) (vs := p.cells v) rfl rfl ?_
      refine pu_build (plc f c p v m) (by kernel_rfl) ?_
      have hat : ((siteL p.fs).map (sargs ps p v))[(upto p.fs n m).length]? = some [.agg #[vI n, vI m], .agg (plc f c p v m).toArray] := by
        rw [List.getElem?_map, site_at hlt (by omega)]
        simp only [Option.map_some, sargs, hq]
      refine hr _ _ X ((b6, cel [vI f.regs, c] T.t_api_Func) :: H) _ _ w8 hat hj (fun x hx => .tail _ hx) h8 (fun X' w9 h9 hj9 => ?_) (fun X' w9 h9 hz9 => ?_)
      · repeat (first | refine pu_not ?_ | refine pu_eql ?_ | refine pu_neq ?_ | refine pu_lss ?_ | refine pu_leq ?_ | refine pu_gtr ?_ | refine pu_geq ?_ | refine pu_add ?_ | refine pu_sub ?_ | refine pu_mul ?_ | refine pu_neg ?_ | refine fa_at ?_ | refine nl_ptr ?_ | refine ex20 ?_ | refine ex21 ?_ | refine ex30 ?_ | refine ex31 ?_ | refine ex32 ?_ | refine ln_rule ?_ | refine lnT_rule ?_ | refine pu_and ?_ | refine pu_or ?_ | refine pu_xor ?_ | refine pu_seq ?_ | refine pu_sne ?_)
        refine cnd_f rfl ?_
        repeat (first | refine pu_not ?_ | refine pu_eql ?_ | refine pu_neq ?_ | refine pu_lss ?_ | refine pu_leq ?_ | refine pu_gtr ?_ | refine pu_geq ?_ | refine pu_add ?_ | refine pu_sub ?_ | refine pu_mul ?_ | refine pu_neg ?_ | refine fa_at ?_ | refine nl_ptr ?_ | refine ex20 ?_ | refine ex21 ?_ | refine ex30 ?_ | refine ex31 ?_ | refine ex32 ?_ | refine ln_rule ?_ | refine lnT_rule ?_ | refine pu_and ?_ | refine pu_or ?_ | refine pu_xor ?_ | refine pu_seq ?_ | refine pu_sne ?_)
        rw [wrap64_in (by omega) (by omega)]
        refine ⟨⟨m + 1, X', rfl, hlt2, ?_, h9⟩, by simp; omega⟩
        rw [upto_succ, List.length_append]
        exact hj9
      · repeat (first | refine pu_not ?_ | refine pu_eql ?_ | refine pu_neq ?_ | refine pu_lss ?_ | refine pu_leq ?_ | refine pu_gtr ?_ | refine pu_geq ?_ | refine pu_add ?_ | refine pu_sub ?_ | refine pu_mul ?_ | refine pu_neg ?_ | refine fa_at ?_ | refine nl_ptr ?_ | refine ex20 ?_ | refine ex21 ?_ | refine ex30 ?_ | refine ex31 ?_ | refine ex32 ?_ | refine ln_rule ?_ | refine lnT_rule ?_ | refine pu_and ?_ | refine pu_or ?_ | refine pu_xor ?_ | refine pu_seq ?_ | refine pu_sne ?_)
        refine cnd_t rfl ?_
        exact he _ X' w9 (h9.sub ((List.Sublist.refl _).append (.cons _ (.refl _)))) (.inr hz9)
    · obtain rfl : m = f.code.length := by simp at hlt2; omega
      repeat (first | refine pu_not ?_ | refine pu_eql ?_ | refine pu_neq ?_ | refine pu_lss ?_ | refine pu_leq ?_ | refine pu_gtr ?_ | refine pu_geq ?_ | refine pu_add ?_ | refine pu_sub ?_ | refine pu_mul ?_ | refine pu_neg ?_ | refine fa_at ?_ | refine nl_ptr ?_ | refine ex20 ?_ | refine ex21 ?_ | refine ex30 ?_ | refine ex31 ?_ | refine ex32 ?_ | refine ln_rule ?_ | refine lnT_rule ?_ | refine pu_and ?_ | refine pu_or ?_ | refine pu_xor ?_ | refine pu_seq ?_ | refine pu_sne ?_)
      rw [wrap64_in (by omega) (by omega)]
      refine ⟨⟨n + 1, X, rfl, hlt, ?_, h8.sub ((List.Sublist.refl _).append (.cons _ (.refl _)))⟩, by simp; omega⟩
      rw [upto_next, hcl]
      exact hj
  · obtain rfl : n = p.fs.length := by simp at hlt; omega
    refine he _ X w2 h2 (.inl ?_)
    rw [List.length_map]
    exact hj
def fineS (p : Pr) (s : Nat × Nat) : Bool := match p.fs[s.1]? with
  | some f => match f.code[s.2]? with
    | some i => fineI p f s.2 i
    | none => true
  | none => true
/-- The first site that may not be. -/
def badS (p : Pr) : Option (Nat × Nat) := (siteL p.fs).find? fun s => !fineS p s
def wrongR (p : Pr) : (Nat × Nat) × Bool := if numI p = true then (match badS p with | some s => (s, true) | none => ((0, 0), false)) else ((0, 0), false)
set_option maxRecDepth 20000 in
theorem wrong_spec (hv : fsIn X v p.fs) (hX : ∀ x, x ∈ X → x ∈ H) (hlen : p.fs.length ≤ 1000) (h : Ow B w H) (k : ∀ w', Ow B w' H → K (.tuple #[.agg #[vI (wrongR p).1.1, vI (wrongR p).1.2], vB (wrongR p).2]) w') : callW PG N.program_Wrong [.agg (p.cells v).toArray] K PK w := by
  refine program_Wrong.ok ?_
  unfold program_Wrong.C
  refine al_rule h (l := p.cells v) rfl (fun b2 w1 h1 => ?_)
  refine al_rule h1 (l := [vI 0, vI 0]) (by kernel_rfl) (fun b4 w2 h2 => ?_)
  refine al_rule h2 (l := [vB false]) (by kernel_rfl) (fun b6 w3 h3 => ?_)
  have hp4 : ∀ {C : Hp} {w : World}, Ow B w ((b6, cel [vB false] T.t_bool) :: (b4, cel [vI 0, vI 0] T.t_api_Site) :: C) → True := fun _ => trivial
  refine ldn_here h3 (.tail _ (.tail _ (.head _))) (vs := p.cells v) rfl rfl ?_
  refine numbers_spec hv (fun x hx => .tail _ (.tail _ (.tail _ (hX x hx)))) hlen h3 (fun w4 h4 => ?_)
  unfold wrongR at k
  repeat (first | refine pu_not ?_ | refine pu_eql ?_ | refine pu_neq ?_ | refine pu_lss ?_ | refine pu_leq ?_ | refine pu_gtr ?_ | refine pu_geq ?_ | refine pu_add ?_ | refine pu_sub ?_ | refine pu_mul ?_ | refine pu_neg ?_ | refine fa_at ?_ | refine nl_ptr ?_ | refine ex20 ?_ | refine ex21 ?_ | refine ex30 ?_ | refine ex31 ?_ | refine ex32 ?_ | refine ln_rule ?_ | refine lnT_rule ?_ | refine pu_and ?_ | refine pu_or ?_ | refine pu_xor ?_ | refine pu_seq ?_ | refine pu_sne ?_)
  refine cnd (fun hq => ?_) (fun hq => ?_)
  · rw [if_neg (by simpa using hq)] at k
    refine pu_build [vI 0, vI 0] (by kernel_rfl) ?_
    refine st_here (A := [_]) h4 [vI 0, vI 0] rfl rfl rfl (by simp) (fun w5 h5 => ?_)
    refine st1_here (A := []) h5 rfl rfl (by simp) (fun w6 h6 => ?_)
    refine ldn_here h6 (.tail _ (.head _)) (vs := [vI 0, vI 0]) rfl rfl ?_
    refine ld_here h6 (.head _) rfl ?_
    exact k _ h6.drop.drop.drop
  rw [if_pos (by simpa using hq)] at k
  refine ldn_here h4 (.tail _ (.tail _ (.head _))) (vs := p.cells v) rfl rfl ?_
  refine program_every.ok ?_
  unfold program_every.C
  refine al_rule h4 (l := p.cells v) rfl (fun b7 w5 h5 => ?_)
  obtain ⟨ps, e1, e2, e3⟩ := hv
  have h5 : Ow B w5 ([(b6, cel [vB false] T.t_bool), (b4, cel [vI 0, vI 0] T.t_api_Site)] ++ ((b7, cel (p.cells v) T.t_api_Program) :: (b2, cel (p.cells v) T.t_api_Program) :: H)) := h5.perm (List.perm_middle (l₁ := [_, _])).symm
  have hXX : ∀ x, x ∈ X → x ∈ (b7, cel (p.cells v) T.t_api_Program) :: (b2, cel (p.cells v) T.t_api_Program) :: H := fun x hx => .tail _ (.tail _ (hX x hx))
  refine range_fn (X := [(b6, cel [vB false] T.t_bool), (b4, cel [vI 0, vI 0] T.t_api_Site)]) (H := (b7, cel (p.cells v) T.t_api_Program) :: (b2, cel (p.cells v) T.t_api_Program) :: H) (A := program_Wrong.note) (fuel := 400) mixed
    (places_seq (.head _) e1 (e2.mono hXX) (fun q hq => ⟨(e3 q hq).1.mono hXX, (e3 q hq).2⟩) hlen) (by simp) (fun a ha => ?_) h5
    (fun n Y => Y = [(b6, cel [vB false] T.t_bool), (b4, cel [vI 0, vI 0] T.t_api_Site)] ∧ ∀ (m : Nat) s, m < n → (siteL p.fs)[m]? = some s → fineS p s = true)
    (fun j Y => j = .ret ∧ ∃ s, badS p = some s ∧ Y = [(b6, cel [vB true] T.t_bool), (b4, cel [vI s.1, vI s.2] T.t_api_Site)]) ⟨rfl, fun m s hm => absurd hm (by omega)⟩ ?_ ?_ ?_
  · obtain ⟨s, _, rfl⟩ := List.mem_map.1 ha
    exact sargs_two _ _ _ _
  · rintro lp r n args Y F R w6 hL ⟨rfl, hall⟩ hF h6 k1 k2 u
    rw [List.getElem?_map, Option.map_eq_some_iff] at hL
    obtain ⟨s, hs, hsa0⟩ := hL
    subst hsa0
    obtain ⟨f, i, hf, hi⟩ := site_mem (List.mem_of_getElem? hs)
    obtain ⟨⟨c, f'⟩, hq⟩ : ∃ q, ps[s.1]? = some q := ⟨_, List.getElem?_eq_getElem (by
      have h1 : ps.length = p.fs.length := by rw [← e1]; simp
      have h2 := (List.getElem?_eq_some_iff.1 hf).1
      omega)⟩
    have : f' = f := by rw [← e1, List.getElem?_map, hq] at hf; exact Option.some.inj hf
    subst this
    obtain ⟨q1, q2⟩ := e3 _ (List.mem_of_getElem? hq)
    have hsa : sargs ps p v s = [.agg #[vI s.1, vI s.2], .agg (plc f' c p v s.2).toArray] := by simp only [sargs, hq]
    have hfs : fineS p s = fineI p f' s.2 i := by simp only [fineS, hf, hi]
    rw [hsa]
    refine Eq.mpr (program_Wrong.Rd0_eq lp R _ _ _ _ w6 u) ?_
    unfold program_Wrong.Rd0
    refine al_rule h6 (l := [vI 0, vI 0]) (by kernel_rfl) (fun bs w7 h7 => ?_)
    refine st_here (A := []) h7 [vI s.1, vI s.2] rfl rfl rfl (by simp) (fun w8 h8 => ?_)
    simp only [List.take_zero, List.nil_append, Nat.zero_add, List.drop_succ_cons, List.drop_zero, List.drop_nil, List.append_nil] at h8
    refine al_rule h8 (l := plc ⟨0, []⟩ (.slice none 0 0) ⟨[], 0, 0, 0⟩ (.slice none 0 0) 0) (by kernel_rfl) (fun bp w9 h9 => ?_)
    refine st_here (A := []) h9 (plc f' c p v s.2) rfl rfl ?_ (by simp [plc]) (fun w10 h10 => ?_)
    · have hpl : plainV v = true := sls_plain e2
      simp only [plc, List.all_cons, sls_plain q1, hpl]; rfl
    have e10 : (plc ⟨0, []⟩ (.slice none 0 0) ⟨[], 0, 0, 0⟩ (.slice none 0 0) 0).take 0 ++ plc f' c p v s.2 ++ (plc ⟨0, []⟩ (.slice none 0 0) ⟨[], 0, 0, 0⟩ (.slice none 0 0) 0).drop (0 + 7) = plc f' c p v s.2 := rfl
    rw [e10] at h10
    have h10 : Ow B w10 ((lp, recR r) :: (bp, plO f' c p v s.2) :: (bs, cel [vI s.1, vI s.2] T.t_api_Site) :: ([(b6, cel [vB false] T.t_bool), (b4, cel [vI 0, vI 0] T.t_api_Site)] ++ F)) := h10.perm ((List.Perm.cons _ (.swap _ _ _)).trans (.swap _ _ _))
    refine rbeg h10 (fun w11 h11 => ?_)
    refine ldn_here h11 (.tail _ (.head _)) (vs := plc f' c p v s.2) rfl rfl ?_
    have hin : ∀ x, x ∈ X → x ∈ (lp, recB r) :: (bp, plO f' c p v s.2) :: (bs, cel [vI s.1, vI s.2] T.t_api_Site) :: ([(b6, cel [vB false] T.t_bool), (b4, cel [vI 0, vI 0] T.t_api_Site)] ++ F) := fun x hx => .tail _ (.tail _ (.tail _ (List.mem_append_right _ (hF _ (hXX x hx)))))
    refine fine_spec (X := X) q1 ⟨ps, e1, e2, e3⟩ hin hi q2 h11 (fun w12 h12 => ?_)
    repeat (first | refine pu_not ?_ | refine pu_eql ?_ | refine pu_neq ?_ | refine pu_lss ?_ | refine pu_leq ?_ | refine pu_gtr ?_ | refine pu_geq ?_ | refine pu_add ?_ | refine pu_sub ?_ | refine pu_mul ?_ | refine pu_neg ?_ | refine fa_at ?_ | refine nl_ptr ?_ | refine ex20 ?_ | refine ex21 ?_ | refine ex30 ?_ | refine ex31 ?_ | refine ex32 ?_ | refine ln_rule ?_ | refine lnT_rule ?_ | refine pu_and ?_ | refine pu_or ?_ | refine pu_xor ?_ | refine pu_seq ?_ | refine pu_sne ?_)
    refine cnd (fun hb => ?_) (fun hb => ?_)
    · have hb : fineS p s = false := by rw [hfs]; simpa using hb
      refine ldn_here h12 (.tail _ (.tail _ (.head _))) (vs := [vI s.1, vI s.2]) rfl rfl ?_
      refine st_here (A := [_, _, _, _]) h12 [vI s.1, vI s.2] rfl rfl rfl (by simp) (fun w13 h13 => ?_)
      simp only [List.take_zero, List.nil_append, Nat.zero_add, List.drop_succ_cons, List.drop_zero, List.drop_nil, List.append_nil] at h13
      refine st1_here (A := [_, _, _]) h13 rfl rfl (by simp) (fun w14 h14 => ?_)
      simp only [List.set_cons_zero] at h14
      refine rend_stop h14 (fun w15 h15 => ?_)
      have hbad : badS p = some s := by
        unfold badS
        have hlt := (List.getElem?_eq_some_iff.1 hs).1
        rw [List.find?_eq_some_iff_getElem]
        refine ⟨by rw [hb]; rfl, n, hlt, (List.getElem?_eq_some_iff.1 hs).2, fun m hm => ?_⟩
        have := hall m _ hm (List.getElem?_eq_getElem (by omega))
        rw [this]; rfl
      exact k2 _ _ w15 ⟨rfl, s, hbad, rfl⟩ (h15.sub (.cons_cons _ (.cons _ (.cons _ (.refl _)))))
    · have hb : fineS p s = true := by rw [hfs]; simpa using hb
      refine rend_go h12 (fun w13 h13 => k1 _ w13 ⟨rfl, fun m s' hm hs' => ?_⟩ (h13.sub (.cons_cons _ (.cons _ (.cons _ (.refl _))))))
      rcases Nat.lt_succ_iff_lt_or_eq.1 hm with hm | rfl
      · exact hall m s' hm hs'
      · rw [hs] at hs'
        cases hs'
        exact hb
  · rintro mk Y w6 ⟨rfl, hall⟩ h6
    have hbad : badS p = none := by
      unfold badS
      rw [List.find?_eq_none]
      intro s hs
      obtain ⟨m, hm, rfl⟩ := List.getElem_of_mem hs
      have := hall m _ (by rw [List.length_map]; exact hm) (List.getElem?_eq_getElem hm)
      rw [this]; simp
    rw [hbad] at k
    refine pu_build [vI 0, vI 0] (by kernel_rfl) ?_
    refine st_here (A := [_, _]) h6 [vI 0, vI 0] rfl rfl rfl (by simp) (fun w7 h7 => ?_)
    simp only [List.take_zero, List.nil_append, Nat.zero_add, List.drop_succ_cons, List.drop_zero, List.drop_nil, List.append_nil] at h7
    refine st1_here (A := [_]) h7 rfl rfl (by simp) (fun w8 h8 => ?_)
    refine lv_ret h8 (fun w9 h9 => ?_)
    refine ldn_here h9 (.tail _ (.head _)) (vs := [vI 0, vI 0]) rfl rfl ?_
    refine ld_here h9 (.head _) rfl ?_
    exact k _ h9.drop.drop.drop.drop
  · rintro mk j Y w6 ⟨rfl, s, hbad, rfl⟩ h6
    rw [hbad] at k
    refine lv_ret h6 (fun w9 h9 => ?_)
    refine ldn_here h9 (.tail _ (.head _)) (vs := [vI s.1, vI s.2]) rfl rfl ?_
    refine ld_here h9 (.head _) rfl ?_
    exact k _ h9.drop.drop.drop.drop
def okP' (p : Pr) : Bool := numI p && (badS p).isNone
theorem check_spec (hv : fsIn X v p.fs) (hX : ∀ x, x ∈ X → x ∈ H) (hlen : p.fs.length ≤ 1000) (h : Ow B w H) (k : ∀ w', Ow B w' H → K (vI (if okP' p = true then 0 else 2)) w') : callW PG N.program_Check [.agg (p.cells v).toArray] K PK w := by
  refine program_Check.ok ?_
  unfold program_Check.C
  refine al_rule h (l := p.cells v) rfl (fun b2 w1 h1 => ?_)
  refine ldn_here h1 (.head _) (vs := p.cells v) rfl rfl ?_
  refine numbers_spec hv (fun x hx => .tail _ (hX x hx)) hlen h1 (fun w2 h2 => ?_)
  unfold okP' at k
  repeat (first | refine pu_not ?_ | refine pu_eql ?_ | refine pu_neq ?_ | refine pu_lss ?_ | refine pu_leq ?_ | refine pu_gtr ?_ | refine pu_geq ?_ | refine pu_add ?_ | refine pu_sub ?_ | refine pu_mul ?_ | refine pu_neg ?_ | refine fa_at ?_ | refine nl_ptr ?_ | refine ex20 ?_ | refine ex21 ?_ | refine ex30 ?_ | refine ex31 ?_ | refine ex32 ?_ | refine ln_rule ?_ | refine lnT_rule ?_ | refine pu_and ?_ | refine pu_or ?_ | refine pu_xor ?_ | refine pu_seq ?_ | refine pu_sne ?_)
  refine cnd (fun hq => ?_) (fun hq => ?_)
  · have hq : numI p = false := by simpa using hq
    rw [hq, Bool.false_and, if_neg (by simp)] at k
    exact k _ h2.drop
  have hq : numI p = true := by simpa using hq
  rw [hq, Bool.true_and] at k
  refine ldn_here h2 (.head _) (vs := p.cells v) rfl rfl ?_
  refine wrong_spec hv (fun x hx => .tail _ (hX x hx)) hlen h2 (fun w3 h3 => ?_)
  repeat (first | refine pu_not ?_ | refine pu_eql ?_ | refine pu_neq ?_ | refine pu_lss ?_ | refine pu_leq ?_ | refine pu_gtr ?_ | refine pu_geq ?_ | refine pu_add ?_ | refine pu_sub ?_ | refine pu_mul ?_ | refine pu_neg ?_ | refine fa_at ?_ | refine nl_ptr ?_ | refine ex20 ?_ | refine ex21 ?_ | refine ex30 ?_ | refine ex31 ?_ | refine ex32 ?_ | refine ln_rule ?_ | refine lnT_rule ?_ | refine pu_and ?_ | refine pu_or ?_ | refine pu_xor ?_ | refine pu_seq ?_ | refine pu_sne ?_)
  refine al_rule h3 (l := [vI 0, vI 0]) (by kernel_rfl) (fun b4 w4 h4 => ?_)
  refine st_here (A := []) h4 [vI (wrongR p).1.1, vI (wrongR p).1.2] rfl rfl rfl (by simp) (fun w5 h5 => ?_)
  have hw2 : (wrongR p).2 = (badS p).isSome := by
    unfold wrongR
    rw [if_pos hq]
    cases badS p <;> rfl
  rw [hw2]
  refine cnd (fun hb => ?_) (fun hb => ?_)
  · rw [if_neg (by cases hbs : badS p <;> simp_all)] at k
    exact k _ (Ow.drop (Ow.drop h5))
  · rw [if_pos (by cases hbs : badS p <;> simp_all)] at k
    exact k _ (Ow.drop (Ow.drop h5))
end
end Go.Proofs.YtkkkcafkepnecaaGreat

