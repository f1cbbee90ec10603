/- Instructions: may they be? -/
import Derived.Test.YtkkkcafkepnecaaGreatVpB
import Derived.Test.YtkkkcafkepnecaaGreatVpC
set_option linter.unusedVariables false
set_option linter.unusedSimpArgs false
namespace Go.Proofs.YtkkkcafkepnecaaGreat
open Go Go.RowKit Vc
attribute [local irreducible] binV Op.unary convert nlW faW ldS ldW ixS ixA ixV ixT exW lnS lnT pu stW alW opW opU bsW mkW

section
variable {B w : World} {H : Hp} {Q : World → Prop} {KK : Value → Prop} {s : Value} {size : Nat} {xs : List (List Value)} {x : List Value} {v : Value} {j : Nat} {n : Int} {kd : IntKind}
theorem sls_fld (h : Ow B w H) (hs : Sls H s size xs) (h0 : 0 ≤ n) (hv : xs[n.toNat]? = some x) (hj : x[j]? = some v) (k : KK v) : ixS size s (.int kd n) fun p => faW j p fun q => ldW none q w KK := by
  obtain ⟨a, cap, rfl, h1, h2, h3, h4⟩ := hs
  obtain ⟨p, rfl, hc⟩ := h4 _ _ hv
  have hlt := (List.getElem?_eq_some_iff.1 hv).1
  refine ixS_rule h0 (by omega) ?_
  refine fa_rule ?_
  rw [Go.Deep.add_add]
  exact ld_cell h (hc j v hj) k
theorem sls_flds (h : ∀ w, Q w → Ow B w H) (hs : Sls H s size xs) (h0 : 0 ≤ n) (hv : xs[n.toNat]? = some x) (hj : x[j]? = some v) (k : KK v) : ixS size s (.int kd n) fun p => faW j p fun q => ldS none q Q KK := by
  obtain ⟨a, cap, rfl, h1, h2, h3, h4⟩ := hs
  obtain ⟨p, rfl, hc⟩ := h4 _ _ hv
  have hlt := (List.getElem?_eq_some_iff.1 hv).1
  refine ixS_rule h0 (by omega) ?_
  refine fa_rule ?_
  rw [Go.Deep.add_add]
  exact lds_cell h (hc j v hj) k
end
section
variable {B w : World} {H : Hp} {K : Value → World → Prop} {PK : List PanicEntry → World → Prop} {KK : Value → Prop}
theorem cvt {s t : TypeId} {kd kd' : IntKind} (hs : (PG.underlying s).isSome = true) (ht : PG.underlying t = some (.int kd')) {n m : Int} (hm : kd'.wrap n = m) (k : KK (.int kd' m)) : pu PG (convert s t (.int kd n)) KK := by
  subst hm
  obtain ⟨d, hd⟩ := Option.isSome_iff_exists.1 hs
  exact pu_cvt ⟨d, hd⟩ ht k
/-- Its numbers are small. -/
structure Ins.Sm (i : Ins) : Prop where
  a : 0 ≤ i.a ∧ i.a < 16
  b : 0 ≤ i.b ∧ i.b < 16
  c : 0 ≤ i.c ∧ i.c ≤ 16
  imm : 0 ≤ i.imm ∧ i.imm < 4294967296
abbrev iO (i : Ins) : Obj := cel i.cells T.t_api_Ins
theorem ins_plain (i : Ins) : i.cells.all plainV = true := rfl
def Pk.fg : Pk → FuncId
  | .a => N.instr_first_1
  | .b => N.instr_second_1
  | .c => N.instr_third_1
  | .n => N.instr_third_1
  | .i _ => N.instr_imm_1
def Pk.fp : Pk → FuncId
  | .a => N.instr_first_2
  | .b => N.instr_second_2
  | .c => N.instr_third_2
  | .n => N.instr_third_2
  | .i _ => N.instr_imm_2
theorem get_pf {i : Ins} (hi : i.Sm) (p : Pk) : PF PG B H (fnc p.fg #[]) [.agg i.cells.toArray] (.int .u64 (p.get i)) := fun X K PK w hw k => by
  obtain ⟨⟨a0, a1⟩, ⟨b0, b1⟩, ⟨c0, c1⟩, ⟨d0, d1⟩⟩ := hi
  cases p with
  | a =>
    refine callV_fn instr_first_1.okf (instr_first_1.ok ?_)
    unfold instr_first_1.C
    refine al_rule hw (l := i.cells) rfl (fun b w1 h1 => ?_)
    repeat (first | refine pu_not ?_ | refine pu_eql ?_ | refine pu_neq ?_ | refine pu_lss ?_ | refine pu_leq ?_ | refine pu_gtr ?_ | refine pu_geq ?_ | refine pu_add ?_ | refine pu_sub ?_ | refine pu_mul ?_ | refine pu_neg ?_ | refine fa_at ?_ | refine nl_ptr ?_ | refine ex20 ?_ | refine ex21 ?_ | refine ex30 ?_ | refine ex31 ?_ | refine ex32 ?_ | refine ln_rule ?_ | refine lnT_rule ?_ | refine pu_and ?_ | refine pu_or ?_ | refine pu_xor ?_ | refine pu_seq ?_ | refine pu_sne ?_)
    refine ld_here h1 (.head _) (v := vI i.a) rfl ?_
    refine cvt (by kernel_rfl) und_u64 (m := i.a) (by rw [wrapu64]; omega) ?_
    exact k _ h1.drop
  | b =>
    refine callV_fn instr_second_1.okf (instr_second_1.ok ?_)
    unfold instr_second_1.C
    refine al_rule hw (l := i.cells) rfl (fun b w1 h1 => ?_)
    repeat (first | refine pu_not ?_ | refine pu_eql ?_ | refine pu_neq ?_ | refine pu_lss ?_ | refine pu_leq ?_ | refine pu_gtr ?_ | refine pu_geq ?_ | refine pu_add ?_ | refine pu_sub ?_ | refine pu_mul ?_ | refine pu_neg ?_ | refine fa_at ?_ | refine nl_ptr ?_ | refine ex20 ?_ | refine ex21 ?_ | refine ex30 ?_ | refine ex31 ?_ | refine ex32 ?_ | refine ln_rule ?_ | refine lnT_rule ?_ | refine pu_and ?_ | refine pu_or ?_ | refine pu_xor ?_ | refine pu_seq ?_ | refine pu_sne ?_)
    refine ld_here h1 (.head _) (v := vI i.b) rfl ?_
    refine cvt (by kernel_rfl) und_u64 (m := i.b) (by rw [wrapu64]; omega) ?_
    exact k _ h1.drop
  | c =>
    refine callV_fn instr_third_1.okf (instr_third_1.ok ?_)
    unfold instr_third_1.C
    refine al_rule hw (l := i.cells) rfl (fun b w1 h1 => ?_)
    repeat (first | refine pu_not ?_ | refine pu_eql ?_ | refine pu_neq ?_ | refine pu_lss ?_ | refine pu_leq ?_ | refine pu_gtr ?_ | refine pu_geq ?_ | refine pu_add ?_ | refine pu_sub ?_ | refine pu_mul ?_ | refine pu_neg ?_ | refine fa_at ?_ | refine nl_ptr ?_ | refine ex20 ?_ | refine ex21 ?_ | refine ex30 ?_ | refine ex31 ?_ | refine ex32 ?_ | refine ln_rule ?_ | refine lnT_rule ?_ | refine pu_and ?_ | refine pu_or ?_ | refine pu_xor ?_ | refine pu_seq ?_ | refine pu_sne ?_)
    refine ld_here h1 (.head _) (v := vI i.c) rfl ?_
    refine cvt (by kernel_rfl) und_u64 (m := i.c) (by rw [wrapu64]; omega) ?_
    exact k _ h1.drop
  | n =>
    refine callV_fn instr_third_1.okf (instr_third_1.ok ?_)
    unfold instr_third_1.C
    refine al_rule hw (l := i.cells) rfl (fun b w1 h1 => ?_)
    repeat (first | refine pu_not ?_ | refine pu_eql ?_ | refine pu_neq ?_ | refine pu_lss ?_ | refine pu_leq ?_ | refine pu_gtr ?_ | refine pu_geq ?_ | refine pu_add ?_ | refine pu_sub ?_ | refine pu_mul ?_ | refine pu_neg ?_ | refine fa_at ?_ | refine nl_ptr ?_ | refine ex20 ?_ | refine ex21 ?_ | refine ex30 ?_ | refine ex31 ?_ | refine ex32 ?_ | refine ln_rule ?_ | refine lnT_rule ?_ | refine pu_and ?_ | refine pu_or ?_ | refine pu_xor ?_ | refine pu_seq ?_ | refine pu_sne ?_)
    refine ld_here h1 (.head _) (v := vI i.c) rfl ?_
    refine cvt (by kernel_rfl) und_u64 (m := i.c) (by rw [wrapu64]; omega) ?_
    exact k _ h1.drop
  | i m =>
    refine callV_fn instr_imm_1.okf (instr_imm_1.ok ?_)
    unfold instr_imm_1.C
    refine al_rule hw (l := i.cells) rfl (fun b w1 h1 => ?_)
    repeat (first | refine pu_not ?_ | refine pu_eql ?_ | refine pu_neq ?_ | refine pu_lss ?_ | refine pu_leq ?_ | refine pu_gtr ?_ | refine pu_geq ?_ | refine pu_add ?_ | refine pu_sub ?_ | refine pu_mul ?_ | refine pu_neg ?_ | refine fa_at ?_ | refine nl_ptr ?_ | refine ex20 ?_ | refine ex21 ?_ | refine ex30 ?_ | refine ex31 ?_ | refine ex32 ?_ | refine ln_rule ?_ | refine lnT_rule ?_ | refine pu_and ?_ | refine pu_or ?_ | refine pu_xor ?_ | refine pu_seq ?_ | refine pu_sne ?_)
    refine ld_here h1 (.head _) (v := .int .u32 i.imm) rfl ?_
    refine cvt (by kernel_rfl) und_u64 (m := i.imm) (by rw [wrapu64]; omega) ?_
    exact k _ h1.drop
theorem get_small {i : Ins} (hi : i.Sm) (p : Pk) : 0 ≤ p.get i ∧ p.get i < 4294967296 := by
  obtain ⟨⟨a0, a1⟩, ⟨b0, b1⟩, ⟨c0, c1⟩, ⟨d0, d1⟩⟩ := hi
  cases p <;> simp only [Pk.get] <;> omega
/-- A part is put. -/
theorem put_call {A C : Hp} {b : Nat} {x : Ins} {v : Int} (p : Pk) (h0 : 0 ≤ v) (h1 : v < 4294967296) (h : Ow B w (A ++ (b, iO x) :: C)) (k : ∀ w' r, Ow B w' (A ++ (b, iO (p.put x v)) :: C) → K r w') : callV PG (fnc p.fp #[]) [ptr b, .int .u64 v] K PK w := by
  cases p with
  | a =>
    refine callV_fn instr_first_2.okf (instr_first_2.ok ?_)
    unfold instr_first_2.C
    refine cvt (by kernel_rfl) und_int (m := v) (by rw [wrap64_in (by omega) (by omega)]) ?_
    repeat (first | refine pu_not ?_ | refine pu_eql ?_ | refine pu_neq ?_ | refine pu_lss ?_ | refine pu_leq ?_ | refine pu_gtr ?_ | refine pu_geq ?_ | refine pu_add ?_ | refine pu_sub ?_ | refine pu_mul ?_ | refine pu_neg ?_ | refine fa_at ?_ | refine nl_ptr ?_ | refine ex20 ?_ | refine ex21 ?_ | refine ex30 ?_ | refine ex31 ?_ | refine ex32 ?_ | refine ln_rule ?_ | refine lnT_rule ?_ | refine pu_and ?_ | refine pu_or ?_ | refine pu_xor ?_ | refine pu_seq ?_ | refine pu_sne ?_)
    refine st1_here h rfl rfl (by simp [Ins.cells]) (fun w1 h1 => ?_)
    exact k _ _ h1
  | b =>
    refine callV_fn instr_second_2.okf (instr_second_2.ok ?_)
    unfold instr_second_2.C
    refine cvt (by kernel_rfl) und_int (m := v) (by rw [wrap64_in (by omega) (by omega)]) ?_
    repeat (first | refine pu_not ?_ | refine pu_eql ?_ | refine pu_neq ?_ | refine pu_lss ?_ | refine pu_leq ?_ | refine pu_gtr ?_ | refine pu_geq ?_ | refine pu_add ?_ | refine pu_sub ?_ | refine pu_mul ?_ | refine pu_neg ?_ | refine fa_at ?_ | refine nl_ptr ?_ | refine ex20 ?_ | refine ex21 ?_ | refine ex30 ?_ | refine ex31 ?_ | refine ex32 ?_ | refine ln_rule ?_ | refine lnT_rule ?_ | refine pu_and ?_ | refine pu_or ?_ | refine pu_xor ?_ | refine pu_seq ?_ | refine pu_sne ?_)
    refine st1_here h rfl rfl (by simp [Ins.cells]) (fun w1 h1 => ?_)
    exact k _ _ h1
  | c =>
    refine callV_fn instr_third_2.okf (instr_third_2.ok ?_)
    unfold instr_third_2.C
    refine cvt (by kernel_rfl) und_int (m := v) (by rw [wrap64_in (by omega) (by omega)]) ?_
    repeat (first | refine pu_not ?_ | refine pu_eql ?_ | refine pu_neq ?_ | refine pu_lss ?_ | refine pu_leq ?_ | refine pu_gtr ?_ | refine pu_geq ?_ | refine pu_add ?_ | refine pu_sub ?_ | refine pu_mul ?_ | refine pu_neg ?_ | refine fa_at ?_ | refine nl_ptr ?_ | refine ex20 ?_ | refine ex21 ?_ | refine ex30 ?_ | refine ex31 ?_ | refine ex32 ?_ | refine ln_rule ?_ | refine lnT_rule ?_ | refine pu_and ?_ | refine pu_or ?_ | refine pu_xor ?_ | refine pu_seq ?_ | refine pu_sne ?_)
    refine st1_here h rfl rfl (by simp [Ins.cells]) (fun w1 h1 => ?_)
    exact k _ _ h1
  | n =>
    refine callV_fn instr_third_2.okf (instr_third_2.ok ?_)
    unfold instr_third_2.C
    refine cvt (by kernel_rfl) und_int (m := v) (by rw [wrap64_in (by omega) (by omega)]) ?_
    repeat (first | refine pu_not ?_ | refine pu_eql ?_ | refine pu_neq ?_ | refine pu_lss ?_ | refine pu_leq ?_ | refine pu_gtr ?_ | refine pu_geq ?_ | refine pu_add ?_ | refine pu_sub ?_ | refine pu_mul ?_ | refine pu_neg ?_ | refine fa_at ?_ | refine nl_ptr ?_ | refine ex20 ?_ | refine ex21 ?_ | refine ex30 ?_ | refine ex31 ?_ | refine ex32 ?_ | refine ln_rule ?_ | refine lnT_rule ?_ | refine pu_and ?_ | refine pu_or ?_ | refine pu_xor ?_ | refine pu_seq ?_ | refine pu_sne ?_)
    refine st1_here h rfl rfl (by simp [Ins.cells]) (fun w1 h1 => ?_)
    exact k _ _ h1
  | i m =>
    refine callV_fn instr_imm_2.okf (instr_imm_2.ok ?_)
    unfold instr_imm_2.C
    refine cvt (by kernel_rfl) und_u32 (m := v) (by rw [wrapu32]; omega) ?_
    repeat (first | refine pu_not ?_ | refine pu_eql ?_ | refine pu_neq ?_ | refine pu_lss ?_ | refine pu_leq ?_ | refine pu_gtr ?_ | refine pu_geq ?_ | refine pu_add ?_ | refine pu_sub ?_ | refine pu_mul ?_ | refine pu_neg ?_ | refine fa_at ?_ | refine nl_ptr ?_ | refine ex20 ?_ | refine ex21 ?_ | refine ex30 ?_ | refine ex31 ?_ | refine ex32 ?_ | refine ln_rule ?_ | refine lnT_rule ?_ | refine pu_and ?_ | refine pu_or ?_ | refine pu_xor ?_ | refine pu_seq ?_ | refine pu_sne ?_)
    refine st1_here h rfl rfl (by simp [Ins.cells]) (fun w1 h1 => ?_)
    exact k _ _ h1
def puts (i : Ins) : List Pk → Ins → Ins
  | [], x => x
  | p :: l, x => puts i l (p.put x (p.get i))
theorem puts_snoc (i : Ins) (p : Pk) : ∀ (l : List Pk) (x : Ins), puts i (l ++ [p]) x = p.put (puts i l x) (p.get i)
  | [], x => rfl
  | q :: l, x => puts_snoc i p l (q.put x (q.get i))
def bare (op : Int) : Ins := ⟨op, 0, 0, 0, 0⟩
/-- May it be? -/
def okI (i : Ins) : Bool := decide (1 ≤ i.op ∧ i.op ≤ 19 ∧ 0 ≤ i.a ∧ 0 ≤ i.b ∧ 0 ≤ i.c ∧ i.a < 16 ∧ i.b < 16 ∧ i.c ≤ 16) && decide (puts i (nmd i.op) (bare i.op) = i) &&
  (if i.op = 8 ∨ i.op = 10 then decide (i.b + i.c ≤ 16) && decide (i.imm < 32) else if i.op = 4 ∨ i.op = 5 then decide (i.imm < 512) else if i.op = 3 then decide (1 ≤ i.imm ∧ i.imm ≤ 12) && decide (i.c < 16) else true)
set_option maxRecDepth 100000 in
theorem eq_ins (i j : Ins) : EqR PG 10000 T.t_api_Ins (.agg i.cells.toArray) (.agg j.cells.toArray) (decide (i = j)) := by
  have h : EqR PG 10000 T.t_api_Ins (.agg i.cells.toArray) (.agg j.cells.toArray) ((i.op == j.op) && ((i.a == j.a) && ((i.b == j.b) && ((i.c == j.c) && ((i.imm == j.imm) && true))))) := by
    refine eqr_struct (d := 9999) (by kernel_rfl) (by kernel_rfl) rfl ?_
    refine eqf_cons (z := none) (by simp) (by kernel_rfl) (pt_at (v := vI i.op) rfl rfl) (pt_at (v := vI j.op) rfl rfl) (eqr_int (d := 9998) und_op _ _) ?_
    refine eqf_cons (z := none) (by simp) (by kernel_rfl) (pt_at (v := vI i.a) rfl rfl) (pt_at (v := vI j.a) rfl rfl) (eqr_int (d := 9998) und_int _ _) ?_
    refine eqf_cons (z := none) (by simp) (by kernel_rfl) (pt_at (v := vI i.b) rfl rfl) (pt_at (v := vI j.b) rfl rfl) (eqr_int (d := 9998) und_int _ _) ?_
    refine eqf_cons (z := none) (by simp) (by kernel_rfl) (pt_at (v := vI i.c) rfl rfl) (pt_at (v := vI j.c) rfl rfl) (eqr_int (d := 9998) und_int _ _) ?_
    exact eqf_cons (z := none) (by simp) (by kernel_rfl) (pt_at (v := .int .u32 i.imm) rfl rfl) (pt_at (v := .int .u32 j.imm) rfl rfl) (eqr_int (d := 9998) und_u32 _ _) eqf_nil
  have e : ((i.op == j.op) && ((i.a == j.a) && ((i.b == j.b) && ((i.c == j.c) && ((i.imm == j.imm) && true))))) = decide (i = j) := by
    cases i; cases j
    simp [ibeq, Bool.decide_and]
  rw [e] at h
  exact h
theorem pk_at {l : List Pk} {i : Nat} (h : i < l.length) : (prow l)[i]? = some (l[i]).cells := by simp [prow, h]
theorem ite_len {p : Prop} [Decidable p] {a b : List Pk} (ha : a.length ≤ 4) (hb : b.length ≤ 4) : (if p then a else b).length ≤ 4 := by
  by_cases h : p
  · rw [if_pos h]; exact ha
  · rw [if_neg h]; exact hb
theorem nmd_len (op : Int) : (nmd op).length ≤ 4 := by
  unfold nmd
  iterate 18 refine ite_len (by simp) ?_
  simp
theorem right_spec {i : Ins} (hu : 0 ≤ i.imm ∧ i.imm < 4294967296) (h : Ow B w H) (k : ∀ w', Ow B w' H → K (vB (okI i)) w') : callW PG N.instr_right [.agg i.cells.toArray] K PK w := by
  refine instr_right.ok ?_
  unfold instr_right.C
  refine al_rule h (l := i.cells) rfl (fun b w1 h1 => ?_)
  have no : (¬ (1 ≤ i.op ∧ i.op ≤ 19 ∧ 0 ≤ i.a ∧ 0 ≤ i.b ∧ 0 ≤ i.c ∧ i.a < 16 ∧ i.b < 16 ∧ i.c ≤ 16)) → okI i = false := fun hn => by
    unfold okI
    rw [decide_eq_false hn]; rfl
  repeat (first | refine pu_not ?_ | refine pu_eql ?_ | refine pu_neq ?_ | refine pu_lss ?_ | refine pu_leq ?_ | refine pu_gtr ?_ | refine pu_geq ?_ | refine pu_add ?_ | refine pu_sub ?_ | refine pu_mul ?_ | refine pu_neg ?_ | refine fa_at ?_ | refine nl_ptr ?_ | refine ex20 ?_ | refine ex21 ?_ | refine ex30 ?_ | refine ex31 ?_ | refine ex32 ?_ | refine ln_rule ?_ | refine lnT_rule ?_ | refine pu_and ?_ | refine pu_or ?_ | refine pu_xor ?_ | refine pu_seq ?_ | refine pu_sne ?_)
  refine ld_here h1 (.head _) (v := vI i.op) rfl ?_
  refine instr_is.ok ?_
  unfold instr_is.C
  repeat (first | refine pu_not ?_ | refine pu_eql ?_ | refine pu_neq ?_ | refine pu_lss ?_ | refine pu_leq ?_ | refine pu_gtr ?_ | refine pu_geq ?_ | refine pu_add ?_ | refine pu_sub ?_ | refine pu_mul ?_ | refine pu_neg ?_ | refine fa_at ?_ | refine nl_ptr ?_ | refine ex20 ?_ | refine ex21 ?_ | refine ex30 ?_ | refine ex31 ?_ | refine ex32 ?_ | refine ln_rule ?_ | refine lnT_rule ?_ | refine pu_and ?_ | refine pu_or ?_ | refine pu_xor ?_ | refine pu_seq ?_ | refine pu_sne ?_)
  have isop : ∀ KK : Value → World → Prop, KK (vB (decide (1 ≤ i.op ∧ i.op ≤ 19))) w1 → condV (vB (decide (i.op ≥ 1))) (pu PG (binV .leq T.t_api_Op true (vI i.op) (.int .i64 19)) fun t4 => KK t4 w1) (KK (.bool false) w1) := fun KK kk => by
    refine cnd (fun hq => ?_) (fun hq => ?_)
    · refine pu_leq ?_
      have : decide (i.op ≤ 19) = decide (1 ≤ i.op ∧ i.op ≤ 19) := by simp at hq; simp [hq]
      rw [this]; exact kk
    · have : decide (1 ≤ i.op ∧ i.op ≤ 19) = false := by simp at hq; simp; omega
      rw [this] at kk; exact kk
  refine isop (fun v w => pu PG (Op.unary .not v) _) ?_
  repeat (first | refine pu_not ?_ | refine pu_eql ?_ | refine pu_neq ?_ | refine pu_lss ?_ | refine pu_leq ?_ | refine pu_gtr ?_ | refine pu_geq ?_ | refine pu_add ?_ | refine pu_sub ?_ | refine pu_mul ?_ | refine pu_neg ?_ | refine fa_at ?_ | refine nl_ptr ?_ | refine ex20 ?_ | refine ex21 ?_ | refine ex30 ?_ | refine ex31 ?_ | refine ex32 ?_ | refine ln_rule ?_ | refine lnT_rule ?_ | refine pu_and ?_ | refine pu_or ?_ | refine pu_xor ?_ | refine pu_seq ?_ | refine pu_sne ?_)
  refine cnd (fun hq => ?_) (fun hq => ?_)
  · rw [no (by simp at hq; omega)] at k
    exact k _ h1.drop
  have c0 : 1 ≤ i.op ∧ i.op ≤ 19 := by simp at hq; omega
  clear hq
  repeat (first | refine pu_not ?_ | refine pu_eql ?_ | refine pu_neq ?_ | refine pu_lss ?_ | refine pu_leq ?_ | refine pu_gtr ?_ | refine pu_geq ?_ | refine pu_add ?_ | refine pu_sub ?_ | refine pu_mul ?_ | refine pu_neg ?_ | refine fa_at ?_ | refine nl_ptr ?_ | refine ex20 ?_ | refine ex21 ?_ | refine ex30 ?_ | refine ex31 ?_ | refine ex32 ?_ | refine ln_rule ?_ | refine lnT_rule ?_ | refine pu_and ?_ | refine pu_or ?_ | refine pu_xor ?_ | refine pu_seq ?_ | refine pu_sne ?_)
  refine ld_here h1 (.head _) (v := vI i.a) rfl ?_
  repeat (first | refine pu_not ?_ | refine pu_eql ?_ | refine pu_neq ?_ | refine pu_lss ?_ | refine pu_leq ?_ | refine pu_gtr ?_ | refine pu_geq ?_ | refine pu_add ?_ | refine pu_sub ?_ | refine pu_mul ?_ | refine pu_neg ?_ | refine fa_at ?_ | refine nl_ptr ?_ | refine ex20 ?_ | refine ex21 ?_ | refine ex30 ?_ | refine ex31 ?_ | refine ex32 ?_ | refine ln_rule ?_ | refine lnT_rule ?_ | refine pu_and ?_ | refine pu_or ?_ | refine pu_xor ?_ | refine pu_seq ?_ | refine pu_sne ?_)
  refine cnd (fun hq => ?_) (fun hq => ?_)
  · rw [no (by simp at hq; omega)] at k
    exact k _ h1.drop
  have c1 : 0 ≤ i.a := by simp at hq; omega
  clear hq
  repeat (first | refine pu_not ?_ | refine pu_eql ?_ | refine pu_neq ?_ | refine pu_lss ?_ | refine pu_leq ?_ | refine pu_gtr ?_ | refine pu_geq ?_ | refine pu_add ?_ | refine pu_sub ?_ | refine pu_mul ?_ | refine pu_neg ?_ | refine fa_at ?_ | refine nl_ptr ?_ | refine ex20 ?_ | refine ex21 ?_ | refine ex30 ?_ | refine ex31 ?_ | refine ex32 ?_ | refine ln_rule ?_ | refine lnT_rule ?_ | refine pu_and ?_ | refine pu_or ?_ | refine pu_xor ?_ | refine pu_seq ?_ | refine pu_sne ?_)
  refine ld_here h1 (.head _) (v := vI i.b) rfl ?_
  repeat (first | refine pu_not ?_ | refine pu_eql ?_ | refine pu_neq ?_ | refine pu_lss ?_ | refine pu_leq ?_ | refine pu_gtr ?_ | refine pu_geq ?_ | refine pu_add ?_ | refine pu_sub ?_ | refine pu_mul ?_ | refine pu_neg ?_ | refine fa_at ?_ | refine nl_ptr ?_ | refine ex20 ?_ | refine ex21 ?_ | refine ex30 ?_ | refine ex31 ?_ | refine ex32 ?_ | refine ln_rule ?_ | refine lnT_rule ?_ | refine pu_and ?_ | refine pu_or ?_ | refine pu_xor ?_ | refine pu_seq ?_ | refine pu_sne ?_)
  refine cnd (fun hq => ?_) (fun hq => ?_)
  · rw [no (by simp at hq; omega)] at k
    exact k _ h1.drop
  have c2 : 0 ≤ i.b := by simp at hq; omega
  clear hq
  repeat (first | refine pu_not ?_ | refine pu_eql ?_ | refine pu_neq ?_ | refine pu_lss ?_ | refine pu_leq ?_ | refine pu_gtr ?_ | refine pu_geq ?_ | refine pu_add ?_ | refine pu_sub ?_ | refine pu_mul ?_ | refine pu_neg ?_ | refine fa_at ?_ | refine nl_ptr ?_ | refine ex20 ?_ | refine ex21 ?_ | refine ex30 ?_ | refine ex31 ?_ | refine ex32 ?_ | refine ln_rule ?_ | refine lnT_rule ?_ | refine pu_and ?_ | refine pu_or ?_ | refine pu_xor ?_ | refine pu_seq ?_ | refine pu_sne ?_)
  refine ld_here h1 (.head _) (v := vI i.c) rfl ?_
  repeat (first | refine pu_not ?_ | refine pu_eql ?_ | refine pu_neq ?_ | refine pu_lss ?_ | refine pu_leq ?_ | refine pu_gtr ?_ | refine pu_geq ?_ | refine pu_add ?_ | refine pu_sub ?_ | refine pu_mul ?_ | refine pu_neg ?_ | refine fa_at ?_ | refine nl_ptr ?_ | refine ex20 ?_ | refine ex21 ?_ | refine ex30 ?_ | refine ex31 ?_ | refine ex32 ?_ | refine ln_rule ?_ | refine lnT_rule ?_ | refine pu_and ?_ | refine pu_or ?_ | refine pu_xor ?_ | refine pu_seq ?_ | refine pu_sne ?_)
  refine cnd (fun hq => ?_) (fun hq => ?_)
  · rw [no (by simp at hq; omega)] at k
    exact k _ h1.drop
  have c3 : 0 ≤ i.c := by simp at hq; omega
  clear hq
  repeat (first | refine pu_not ?_ | refine pu_eql ?_ | refine pu_neq ?_ | refine pu_lss ?_ | refine pu_leq ?_ | refine pu_gtr ?_ | refine pu_geq ?_ | refine pu_add ?_ | refine pu_sub ?_ | refine pu_mul ?_ | refine pu_neg ?_ | refine fa_at ?_ | refine nl_ptr ?_ | refine ex20 ?_ | refine ex21 ?_ | refine ex30 ?_ | refine ex31 ?_ | refine ex32 ?_ | refine ln_rule ?_ | refine lnT_rule ?_ | refine pu_and ?_ | refine pu_or ?_ | refine pu_xor ?_ | refine pu_seq ?_ | refine pu_sne ?_)
  refine ld_here h1 (.head _) (v := vI i.a) rfl ?_
  repeat (first | refine pu_not ?_ | refine pu_eql ?_ | refine pu_neq ?_ | refine pu_lss ?_ | refine pu_leq ?_ | refine pu_gtr ?_ | refine pu_geq ?_ | refine pu_add ?_ | refine pu_sub ?_ | refine pu_mul ?_ | refine pu_neg ?_ | refine fa_at ?_ | refine nl_ptr ?_ | refine ex20 ?_ | refine ex21 ?_ | refine ex30 ?_ | refine ex31 ?_ | refine ex32 ?_ | refine ln_rule ?_ | refine lnT_rule ?_ | refine pu_and ?_ | refine pu_or ?_ | refine pu_xor ?_ | refine pu_seq ?_ | refine pu_sne ?_)
  refine cnd (fun hq => ?_) (fun hq => ?_)
  · rw [no (by simp at hq; omega)] at k
    exact k _ h1.drop
  have c4 : i.a < 16 := by simp at hq; omega
  clear hq
  repeat (first | refine pu_not ?_ | refine pu_eql ?_ | refine pu_neq ?_ | refine pu_lss ?_ | refine pu_leq ?_ | refine pu_gtr ?_ | refine pu_geq ?_ | refine pu_add ?_ | refine pu_sub ?_ | refine pu_mul ?_ | refine pu_neg ?_ | refine fa_at ?_ | refine nl_ptr ?_ | refine ex20 ?_ | refine ex21 ?_ | refine ex30 ?_ | refine ex31 ?_ | refine ex32 ?_ | refine ln_rule ?_ | refine lnT_rule ?_ | refine pu_and ?_ | refine pu_or ?_ | refine pu_xor ?_ | refine pu_seq ?_ | refine pu_sne ?_)
  refine ld_here h1 (.head _) (v := vI i.b) rfl ?_
  repeat (first | refine pu_not ?_ | refine pu_eql ?_ | refine pu_neq ?_ | refine pu_lss ?_ | refine pu_leq ?_ | refine pu_gtr ?_ | refine pu_geq ?_ | refine pu_add ?_ | refine pu_sub ?_ | refine pu_mul ?_ | refine pu_neg ?_ | refine fa_at ?_ | refine nl_ptr ?_ | refine ex20 ?_ | refine ex21 ?_ | refine ex30 ?_ | refine ex31 ?_ | refine ex32 ?_ | refine ln_rule ?_ | refine lnT_rule ?_ | refine pu_and ?_ | refine pu_or ?_ | refine pu_xor ?_ | refine pu_seq ?_ | refine pu_sne ?_)
  refine cnd (fun hq => ?_) (fun hq => ?_)
  · rw [no (by simp at hq; omega)] at k
    exact k _ h1.drop
  have c5 : i.b < 16 := by simp at hq; omega
  clear hq
  repeat (first | refine pu_not ?_ | refine pu_eql ?_ | refine pu_neq ?_ | refine pu_lss ?_ | refine pu_leq ?_ | refine pu_gtr ?_ | refine pu_geq ?_ | refine pu_add ?_ | refine pu_sub ?_ | refine pu_mul ?_ | refine pu_neg ?_ | refine fa_at ?_ | refine nl_ptr ?_ | refine ex20 ?_ | refine ex21 ?_ | refine ex30 ?_ | refine ex31 ?_ | refine ex32 ?_ | refine ln_rule ?_ | refine lnT_rule ?_ | refine pu_and ?_ | refine pu_or ?_ | refine pu_xor ?_ | refine pu_seq ?_ | refine pu_sne ?_)
  refine ld_here h1 (.head _) (v := vI i.c) rfl ?_
  repeat (first | refine pu_not ?_ | refine pu_eql ?_ | refine pu_neq ?_ | refine pu_lss ?_ | refine pu_leq ?_ | refine pu_gtr ?_ | refine pu_geq ?_ | refine pu_add ?_ | refine pu_sub ?_ | refine pu_mul ?_ | refine pu_neg ?_ | refine fa_at ?_ | refine nl_ptr ?_ | refine ex20 ?_ | refine ex21 ?_ | refine ex30 ?_ | refine ex31 ?_ | refine ex32 ?_ | refine ln_rule ?_ | refine lnT_rule ?_ | refine pu_and ?_ | refine pu_or ?_ | refine pu_xor ?_ | refine pu_seq ?_ | refine pu_sne ?_)
  refine cnd (fun hq => ?_) (fun hq => ?_)
  · rw [no (by simp at hq; omega)] at k
    exact k _ h1.drop
  have c6 : i.c ≤ 16 := by simp at hq; omega
  clear hq no isop
  have hsm : i.Sm := ⟨⟨c1, c4⟩, ⟨c2, c5⟩, ⟨c3, c6⟩, hu⟩
  have hok : okI i = (decide (puts i (nmd i.op) (bare i.op) = i) &&
      (if i.op = 8 ∨ i.op = 10 then decide (i.b + i.c ≤ 16) && decide (i.imm < 32) else if i.op = 4 ∨ i.op = 5 then decide (i.imm < 512) else if i.op = 3 then decide (1 ≤ i.imm ∧ i.imm ≤ 12) && decide (i.c < 16) else true)) := by
    unfold okI
    rw [decide_eq_true (show 1 ≤ i.op ∧ i.op ≤ 19 ∧ 0 ≤ i.a ∧ 0 ≤ i.b ∧ 0 ≤ i.c ∧ i.a < 16 ∧ i.b < 16 ∧ i.c ≤ 16 from ⟨c0.1, c0.2, c1, c2, c3, c4, c5, c6⟩), Bool.true_and]
  rw [hok] at k
  clear hok
  repeat (first | refine pu_not ?_ | refine pu_eql ?_ | refine pu_neq ?_ | refine pu_lss ?_ | refine pu_leq ?_ | refine pu_gtr ?_ | refine pu_geq ?_ | refine pu_add ?_ | refine pu_sub ?_ | refine pu_mul ?_ | refine pu_neg ?_ | refine fa_at ?_ | refine nl_ptr ?_ | refine ex20 ?_ | refine ex21 ?_ | refine ex30 ?_ | refine ex31 ?_ | refine ex32 ?_ | refine ln_rule ?_ | refine lnT_rule ?_ | refine pu_and ?_ | refine pu_or ?_ | refine pu_xor ?_ | refine pu_seq ?_ | refine pu_sne ?_)
  refine ld_here h1 (.head _) (v := vI i.op) rfl ?_
  refine pu_build (bare i.op).cells (by kernel_rfl) ?_
  refine al_rule h1 (l := (bare 0).cells) (by kernel_rfl) (fun b2 w2 h2 => ?_)
  refine st_here (A := []) h2 (bare i.op).cells rfl rfl (ins_plain _) (by simp [Ins.cells]) (fun w3 h3 => ?_)
  have e3 : (bare 0).cells.take 0 ++ (bare i.op).cells ++ (bare 0).cells.drop (0 + 5) = (bare i.op).cells := rfl
  rw [e3] at h3
  repeat (first | refine pu_not ?_ | refine pu_eql ?_ | refine pu_neq ?_ | refine pu_lss ?_ | refine pu_leq ?_ | refine pu_gtr ?_ | refine pu_geq ?_ | refine pu_add ?_ | refine pu_sub ?_ | refine pu_mul ?_ | refine pu_neg ?_ | refine fa_at ?_ | refine nl_ptr ?_ | refine ex20 ?_ | refine ex21 ?_ | refine ex30 ?_ | refine ex31 ?_ | refine ex32 ?_ | refine ln_rule ?_ | refine lnT_rule ?_ | refine pu_and ?_ | refine pu_or ?_ | refine pu_xor ?_ | refine pu_seq ?_ | refine pu_sne ?_)
  refine ld_here h3 (.tail _ (.head _)) (v := vI i.op) rfl ?_
  refine named_spec h3 (fun S v w4 h4 hs => ?_)
  have hln : (prow (nmd i.op)).length = (nmd i.op).length := by simp [prow]
  have hl4 := nmd_len i.op
  refine sls_ln hs ?_
  rw [hln]
  refine ⟨fun l w => ∃ n : Nat, l = [vI n] ∧ n ≤ (nmd i.op).length ∧ Ow B w (S ++ (b2, iO (puts i ((nmd i.op).take n) (bare i.op))) :: (b, iO i) :: H), fun l _ => match l with | [.int _ q] => (nmd i.op).length - q.toNat | _ => 0, ⟨0, rfl, Nat.zero_le _, h4⟩, ?_⟩
  clear h4 h3 h2 h1
  rintro l w5 ⟨n, rfl, hn, h5⟩ j
  repeat (first | refine pu_not ?_ | refine pu_eql ?_ | refine pu_neq ?_ | refine pu_lss ?_ | refine pu_leq ?_ | refine pu_gtr ?_ | refine pu_geq ?_ | refine pu_add ?_ | refine pu_sub ?_ | refine pu_mul ?_ | refine pu_neg ?_ | refine fa_at ?_ | refine nl_ptr ?_ | refine ex20 ?_ | refine ex21 ?_ | refine ex30 ?_ | refine ex31 ?_ | refine ex32 ?_ | refine ln_rule ?_ | refine lnT_rule ?_ | refine pu_and ?_ | refine pu_or ?_ | refine pu_xor ?_ | refine pu_seq ?_ | refine pu_sne ?_)
  refine cnd (fun hlt => ?_) (fun hlt => ?_)
  · have hlt : n < (nmd i.op).length := by simpa using hlt
    refine sls_ld h5 (hs.mono fun x hx => List.mem_append_left _ hx) (by omega) (by rw [Int.toNat_natCast]; exact pk_at hlt) ?_
    have htk : (nmd i.op).take (n + 1) = (nmd i.op).take n ++ [(nmd i.op)[n]] := by rw [List.take_add_one, List.getElem?_eq_getElem hlt]; rfl
    generalize (nmd i.op)[n] = p at htk
    refine al_rule h5 (l := zpart) (by kernel_rfl) (fun b3 w6 h6 => ?_)
    refine st_here (A := []) h6 p.cells rfl (by cases p <;> rfl) (pk_plain _) (by simp) (fun w7 h7 => ?_)
    simp only [List.take_zero, List.nil_append, Nat.zero_add, List.drop_succ_cons, List.drop_zero, List.drop_nil, List.append_nil] at h7
    refine ⟨fun w => Ow B w ((b3, cel p.cells T.t_instr_part) :: (S ++ (b2, iO (puts i ((nmd i.op).take n) (bare i.op))) :: (b, iO i) :: H)), h7.drew, ?_⟩
    repeat (first | refine pu_not ?_ | refine pu_eql ?_ | refine pu_neq ?_ | refine pu_lss ?_ | refine pu_leq ?_ | refine pu_gtr ?_ | refine pu_geq ?_ | refine pu_add ?_ | refine pu_sub ?_ | refine pu_mul ?_ | refine pu_neg ?_ | refine fa_at ?_ | refine nl_ptr ?_ | refine ex20 ?_ | refine ex21 ?_ | refine ex30 ?_ | refine ex31 ?_ | refine ex32 ?_ | refine ln_rule ?_ | refine lnT_rule ?_ | refine pu_and ?_ | refine pu_or ?_ | refine pu_xor ?_ | refine pu_seq ?_ | refine pu_sne ?_)
    refine lds_here (fun w h => h) (.head _) (v := fnc p.fp #[]) (by cases p <;> rfl) ?_
    repeat (first | refine pu_not ?_ | refine pu_eql ?_ | refine pu_neq ?_ | refine pu_lss ?_ | refine pu_leq ?_ | refine pu_gtr ?_ | refine pu_geq ?_ | refine pu_add ?_ | refine pu_sub ?_ | refine pu_mul ?_ | refine pu_neg ?_ | refine fa_at ?_ | refine nl_ptr ?_ | refine ex20 ?_ | refine ex21 ?_ | refine ex30 ?_ | refine ex31 ?_ | refine ex32 ?_ | refine ln_rule ?_ | refine lnT_rule ?_ | refine pu_and ?_ | refine pu_or ?_ | refine pu_xor ?_ | refine pu_seq ?_ | refine pu_sne ?_)
    refine lds_here (fun w h => h) (.head _) (v := fnc p.fg #[]) (by cases p <;> rfl) ?_
    refine ldsn_here (fun w h => h) (.tail _ (List.mem_append_right _ (.tail _ (.head _)))) (vs := i.cells) rfl rfl ?_
    refine get_pf hsm p [] _ _ _ h7.drew (fun w8 h8 => ?_)
    refine ⟨h8, ?_⟩
    have hg := get_small hsm p
    refine put_call (A := (b3, cel p.cells T.t_instr_part) :: S) p hg.1 hg.2 h8 (fun w9 r h9 => ?_)
    repeat (first | refine pu_not ?_ | refine pu_eql ?_ | refine pu_neq ?_ | refine pu_lss ?_ | refine pu_leq ?_ | refine pu_gtr ?_ | refine pu_geq ?_ | refine pu_add ?_ | refine pu_sub ?_ | refine pu_mul ?_ | refine pu_neg ?_ | refine fa_at ?_ | refine nl_ptr ?_ | refine ex20 ?_ | refine ex21 ?_ | refine ex30 ?_ | refine ex31 ?_ | refine ex32 ?_ | refine ln_rule ?_ | refine lnT_rule ?_ | refine pu_and ?_ | refine pu_or ?_ | refine pu_xor ?_ | refine pu_seq ?_ | refine pu_sne ?_)
    rw [wrap64_in (by omega) (by omega)]
    refine ⟨⟨n + 1, rfl, hlt, ?_⟩, by simp; omega⟩
    rw [htk, puts_snoc]
    exact Ow.drop (p := (b3, cel p.cells T.t_instr_part)) h9
  · obtain rfl : n = (nmd i.op).length := by simp at hlt; omega
    rw [List.take_length] at h5
    generalize puts i (nmd i.op) (bare i.op) = q at h5 k
    refine ldn_here h5 (List.mem_append_right _ (.head _)) (vs := q.cells) rfl rfl ?_
    refine ldn_here h5 (List.mem_append_right _ (.tail _ (.head _))) (vs := i.cells) rfl rfl ?_
    refine pu_aneq (by kernel_rfl) (eq_ins q i) ?_
    have h6 : Ow B w5 ((b, iO i) :: H) := h5.sub (((List.Sublist.refl _).cons _).trans (List.sublist_append_right S _))
    refine cnd (fun hq => ?_) (fun hq => ?_)
    · have hq : ¬ q = i := by simpa using hq
      rw [decide_eq_false hq] at k
      exact k _ h6.drop
    have hq : q = i := by simpa using hq
    rw [decide_eq_true hq, Bool.true_and] at k
    clear hq h5
    repeat (first | refine pu_not ?_ | refine pu_eql ?_ | refine pu_neq ?_ | refine pu_lss ?_ | refine pu_leq ?_ | refine pu_gtr ?_ | refine pu_geq ?_ | refine pu_add ?_ | refine pu_sub ?_ | refine pu_mul ?_ | refine pu_neg ?_ | refine fa_at ?_ | refine nl_ptr ?_ | refine ex20 ?_ | refine ex21 ?_ | refine ex30 ?_ | refine ex31 ?_ | refine ex32 ?_ | refine ln_rule ?_ | refine lnT_rule ?_ | refine pu_and ?_ | refine pu_or ?_ | refine pu_xor ?_ | refine pu_seq ?_ | refine pu_sne ?_)
    refine ld_here h6 (.head _) (v := vI i.op) rfl ?_
    refine bs_rule h6 [vI 8, vI 10] (by kernel_rfl) (fun b7 w7 h7 => ?_)
    refine among_spec (xs := [8, 10]) h7 (sl_here (l := [vI 8, vI 10]) (.head _)) (by simp) (fun w8 h8 => ?_)
    have h8 := h8.drop
    refine cnd (fun hq => ?_) (fun hq => ?_)
    · have hq : i.op = 8 ∨ i.op = 10 := by simpa using hq
      rw [if_pos hq] at k
      repeat (first | refine pu_not ?_ | refine pu_eql ?_ | refine pu_neq ?_ | refine pu_lss ?_ | refine pu_leq ?_ | refine pu_gtr ?_ | refine pu_geq ?_ | refine pu_add ?_ | refine pu_sub ?_ | refine pu_mul ?_ | refine pu_neg ?_ | refine fa_at ?_ | refine nl_ptr ?_ | refine ex20 ?_ | refine ex21 ?_ | refine ex30 ?_ | refine ex31 ?_ | refine ex32 ?_ | refine ln_rule ?_ | refine lnT_rule ?_ | refine pu_and ?_ | refine pu_or ?_ | refine pu_xor ?_ | refine pu_seq ?_ | refine pu_sne ?_)
      refine ld_here h8 (.head _) (v := vI i.b) rfl ?_
      repeat (first | refine pu_not ?_ | refine pu_eql ?_ | refine pu_neq ?_ | refine pu_lss ?_ | refine pu_leq ?_ | refine pu_gtr ?_ | refine pu_geq ?_ | refine pu_add ?_ | refine pu_sub ?_ | refine pu_mul ?_ | refine pu_neg ?_ | refine fa_at ?_ | refine nl_ptr ?_ | refine ex20 ?_ | refine ex21 ?_ | refine ex30 ?_ | refine ex31 ?_ | refine ex32 ?_ | refine ln_rule ?_ | refine lnT_rule ?_ | refine pu_and ?_ | refine pu_or ?_ | refine pu_xor ?_ | refine pu_seq ?_ | refine pu_sne ?_)
      refine ld_here h8 (.head _) (v := vI i.c) rfl ?_
      repeat (first | refine pu_not ?_ | refine pu_eql ?_ | refine pu_neq ?_ | refine pu_lss ?_ | refine pu_leq ?_ | refine pu_gtr ?_ | refine pu_geq ?_ | refine pu_add ?_ | refine pu_sub ?_ | refine pu_mul ?_ | refine pu_neg ?_ | refine fa_at ?_ | refine nl_ptr ?_ | refine ex20 ?_ | refine ex21 ?_ | refine ex30 ?_ | refine ex31 ?_ | refine ex32 ?_ | refine ln_rule ?_ | refine lnT_rule ?_ | refine pu_and ?_ | refine pu_or ?_ | refine pu_xor ?_ | refine pu_seq ?_ | refine pu_sne ?_)
      rw [wrap64_in (by omega) (by omega)]
      refine cnd (fun hq => ?_) (fun hq => ?_)
      · have hq : i.b + i.c ≤ 16 := by simpa using hq
        rw [decide_eq_true hq, Bool.true_and] at k
        repeat (first | refine pu_not ?_ | refine pu_eql ?_ | refine pu_neq ?_ | refine pu_lss ?_ | refine pu_leq ?_ | refine pu_gtr ?_ | refine pu_geq ?_ | refine pu_add ?_ | refine pu_sub ?_ | refine pu_mul ?_ | refine pu_neg ?_ | refine fa_at ?_ | refine nl_ptr ?_ | refine ex20 ?_ | refine ex21 ?_ | refine ex30 ?_ | refine ex31 ?_ | refine ex32 ?_ | refine ln_rule ?_ | refine lnT_rule ?_ | refine pu_and ?_ | refine pu_or ?_ | refine pu_xor ?_ | refine pu_seq ?_ | refine pu_sne ?_)
        refine ld_here h8 (.head _) (v := .int .u32 i.imm) rfl ?_
        repeat (first | refine pu_not ?_ | refine pu_eql ?_ | refine pu_neq ?_ | refine pu_lss ?_ | refine pu_leq ?_ | refine pu_gtr ?_ | refine pu_geq ?_ | refine pu_add ?_ | refine pu_sub ?_ | refine pu_mul ?_ | refine pu_neg ?_ | refine fa_at ?_ | refine nl_ptr ?_ | refine ex20 ?_ | refine ex21 ?_ | refine ex30 ?_ | refine ex31 ?_ | refine ex32 ?_ | refine ln_rule ?_ | refine lnT_rule ?_ | refine pu_and ?_ | refine pu_or ?_ | refine pu_xor ?_ | refine pu_seq ?_ | refine pu_sne ?_)
        exact k _ h8.drop
      · have hq : ¬ i.b + i.c ≤ 16 := by simpa using hq
        rw [decide_eq_false hq, Bool.false_and] at k
        exact k _ h8.drop
    have hq : ¬ (i.op = 8 ∨ i.op = 10) := by simpa using hq
    rw [if_neg hq] at k
    clear hq
    repeat (first | refine pu_not ?_ | refine pu_eql ?_ | refine pu_neq ?_ | refine pu_lss ?_ | refine pu_leq ?_ | refine pu_gtr ?_ | refine pu_geq ?_ | refine pu_add ?_ | refine pu_sub ?_ | refine pu_mul ?_ | refine pu_neg ?_ | refine fa_at ?_ | refine nl_ptr ?_ | refine ex20 ?_ | refine ex21 ?_ | refine ex30 ?_ | refine ex31 ?_ | refine ex32 ?_ | refine ln_rule ?_ | refine lnT_rule ?_ | refine pu_and ?_ | refine pu_or ?_ | refine pu_xor ?_ | refine pu_seq ?_ | refine pu_sne ?_)
    refine ld_here h8 (.head _) (v := vI i.op) rfl ?_
    refine bs_rule h8 [vI 4, vI 5] (by kernel_rfl) (fun b9 w9 h9 => ?_)
    refine among_spec (xs := [4, 5]) h9 (sl_here (l := [vI 4, vI 5]) (.head _)) (by simp) (fun w10 h10 => ?_)
    have h10 := h10.drop
    refine cnd (fun hq => ?_) (fun hq => ?_)
    · have hq : i.op = 4 ∨ i.op = 5 := by simpa using hq
      rw [if_pos hq] at k
      repeat (first | refine pu_not ?_ | refine pu_eql ?_ | refine pu_neq ?_ | refine pu_lss ?_ | refine pu_leq ?_ | refine pu_gtr ?_ | refine pu_geq ?_ | refine pu_add ?_ | refine pu_sub ?_ | refine pu_mul ?_ | refine pu_neg ?_ | refine fa_at ?_ | refine nl_ptr ?_ | refine ex20 ?_ | refine ex21 ?_ | refine ex30 ?_ | refine ex31 ?_ | refine ex32 ?_ | refine ln_rule ?_ | refine lnT_rule ?_ | refine pu_and ?_ | refine pu_or ?_ | refine pu_xor ?_ | refine pu_seq ?_ | refine pu_sne ?_)
      refine ld_here h10 (.head _) (v := .int .u32 i.imm) rfl ?_
      repeat (first | refine pu_not ?_ | refine pu_eql ?_ | refine pu_neq ?_ | refine pu_lss ?_ | refine pu_leq ?_ | refine pu_gtr ?_ | refine pu_geq ?_ | refine pu_add ?_ | refine pu_sub ?_ | refine pu_mul ?_ | refine pu_neg ?_ | refine fa_at ?_ | refine nl_ptr ?_ | refine ex20 ?_ | refine ex21 ?_ | refine ex30 ?_ | refine ex31 ?_ | refine ex32 ?_ | refine ln_rule ?_ | refine lnT_rule ?_ | refine pu_and ?_ | refine pu_or ?_ | refine pu_xor ?_ | refine pu_seq ?_ | refine pu_sne ?_)
      exact k _ h10.drop
    have hq : ¬ (i.op = 4 ∨ i.op = 5) := by simpa using hq
    rw [if_neg hq] at k
    clear hq
    repeat (first | refine pu_not ?_ | refine pu_eql ?_ | refine pu_neq ?_ | refine pu_lss ?_ | refine pu_leq ?_ | refine pu_gtr ?_ | refine pu_geq ?_ | refine pu_add ?_ | refine pu_sub ?_ | refine pu_mul ?_ | refine pu_neg ?_ | refine fa_at ?_ | refine nl_ptr ?_ | refine ex20 ?_ | refine ex21 ?_ | refine ex30 ?_ | refine ex31 ?_ | refine ex32 ?_ | refine ln_rule ?_ | refine lnT_rule ?_ | refine pu_and ?_ | refine pu_or ?_ | refine pu_xor ?_ | refine pu_seq ?_ | refine pu_sne ?_)
    refine ld_here h10 (.head _) (v := vI i.op) rfl ?_
    repeat (first | refine pu_not ?_ | refine pu_eql ?_ | refine pu_neq ?_ | refine pu_lss ?_ | refine pu_leq ?_ | refine pu_gtr ?_ | refine pu_geq ?_ | refine pu_add ?_ | refine pu_sub ?_ | refine pu_mul ?_ | refine pu_neg ?_ | refine fa_at ?_ | refine nl_ptr ?_ | refine ex20 ?_ | refine ex21 ?_ | refine ex30 ?_ | refine ex31 ?_ | refine ex32 ?_ | refine ln_rule ?_ | refine lnT_rule ?_ | refine pu_and ?_ | refine pu_or ?_ | refine pu_xor ?_ | refine pu_seq ?_ | refine pu_sne ?_)
    refine cnd (fun hq => ?_) (fun hq => ?_)
    · have hq : i.op = 3 := by simpa using hq
      rw [if_pos hq] at k
      repeat (first | refine pu_not ?_ | refine pu_eql ?_ | refine pu_neq ?_ | refine pu_lss ?_ | refine pu_leq ?_ | refine pu_gtr ?_ | refine pu_geq ?_ | refine pu_add ?_ | refine pu_sub ?_ | refine pu_mul ?_ | refine pu_neg ?_ | refine fa_at ?_ | refine nl_ptr ?_ | refine ex20 ?_ | refine ex21 ?_ | refine ex30 ?_ | refine ex31 ?_ | refine ex32 ?_ | refine ln_rule ?_ | refine lnT_rule ?_ | refine pu_and ?_ | refine pu_or ?_ | refine pu_xor ?_ | refine pu_seq ?_ | refine pu_sne ?_)
      refine ld_here h10 (.head _) (v := .int .u32 i.imm) rfl ?_
      refine cvt (by kernel_rfl) (by kernel_rfl) (m := i.imm) (by rw [wrap64_in (by omega) (by omega)]) ?_
      refine name_spec h10 (fun w11 h11 => ?_)
      repeat (first | refine pu_not ?_ | refine pu_eql ?_ | refine pu_neq ?_ | refine pu_lss ?_ | refine pu_leq ?_ | refine pu_gtr ?_ | refine pu_geq ?_ | refine pu_add ?_ | refine pu_sub ?_ | refine pu_mul ?_ | refine pu_neg ?_ | refine fa_at ?_ | refine nl_ptr ?_ | refine ex20 ?_ | refine ex21 ?_ | refine ex30 ?_ | refine ex31 ?_ | refine ex32 ?_ | refine ln_rule ?_ | refine lnT_rule ?_ | refine pu_and ?_ | refine pu_or ?_ | refine pu_xor ?_ | refine pu_seq ?_ | refine pu_sne ?_)
      unfold nameOf
      refine cnd (fun hq => ?_) (fun hq => ?_)
      · have hq : 1 ≤ i.imm ∧ i.imm ≤ 12 := by
          false_or_by_contra
          rename_i hn
          rw [if_neg hn] at hq
          simp at hq
        rw [decide_eq_true hq, Bool.true_and] at k
        repeat (first | refine pu_not ?_ | refine pu_eql ?_ | refine pu_neq ?_ | refine pu_lss ?_ | refine pu_leq ?_ | refine pu_gtr ?_ | refine pu_geq ?_ | refine pu_add ?_ | refine pu_sub ?_ | refine pu_mul ?_ | refine pu_neg ?_ | refine fa_at ?_ | refine nl_ptr ?_ | refine ex20 ?_ | refine ex21 ?_ | refine ex30 ?_ | refine ex31 ?_ | refine ex32 ?_ | refine ln_rule ?_ | refine lnT_rule ?_ | refine pu_and ?_ | refine pu_or ?_ | refine pu_xor ?_ | refine pu_seq ?_ | refine pu_sne ?_)
        refine ld_here h11 (.head _) (v := vI i.c) rfl ?_
        repeat (first | refine pu_not ?_ | refine pu_eql ?_ | refine pu_neq ?_ | refine pu_lss ?_ | refine pu_leq ?_ | refine pu_gtr ?_ | refine pu_geq ?_ | refine pu_add ?_ | refine pu_sub ?_ | refine pu_mul ?_ | refine pu_neg ?_ | refine fa_at ?_ | refine nl_ptr ?_ | refine ex20 ?_ | refine ex21 ?_ | refine ex30 ?_ | refine ex31 ?_ | refine ex32 ?_ | refine ln_rule ?_ | refine lnT_rule ?_ | refine pu_and ?_ | refine pu_or ?_ | refine pu_xor ?_ | refine pu_seq ?_ | refine pu_sne ?_)
        exact k _ h11.drop
      · have hq : ¬ (1 ≤ i.imm ∧ i.imm ≤ 12) := by
          intro hn
          rw [if_pos hn] at hq
          simp at hq
        rw [decide_eq_false hq, Bool.false_and] at k
        exact k _ h11.drop
    · have hq : ¬ i.op = 3 := by simpa using hq
      rw [if_neg hq] at k
      exact k _ h10.drop
end
end Go.Proofs.YtkkkcafkepnecaaGreat
