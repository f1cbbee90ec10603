/- Instructions: registers; places. -/
import Derived.Test.YtkkkcafkepnecaaGreatVpD
set_option linter.unusedVariables false
set_option linter.unusedSimpArgs false
namespace Go.Proofs.YtkkkcafkepnecaaGreat
open Go Go.RowKit Vc
attribute [local irreducible] binV Op.unary convert nlW faW ldS ldW ixS ixA ixV ixT exW lnS lnT pu stW alW opW opU bsW mkW

section
variable {B w : World} {H X : Hp} {K : Value → World → Prop} {PK : List PanicEntry → World → Prop} {KK : Value → Prop}
theorem icheck_spec {i : Ins} (hu : 0 ≤ i.imm ∧ i.imm < 4294967296) (h : Ow B w H) (k : ∀ w', Ow B w' H → K (vI (if okI i = true then 0 else 2)) w') : callW PG N.instr_Check [.agg i.cells.toArray] K PK w := by
  refine instr_Check.ok ?_
  unfold instr_Check.C
  refine al_rule h (l := i.cells) rfl (fun b w1 h1 => ?_)
  refine ldn_here h1 (.head _) (vs := i.cells) rfl rfl ?_
  refine right_spec hu h1 (fun w2 h2 => ?_)
  repeat (first | refine pu_not ?_ | refine pu_eql ?_ | refine pu_neq ?_ | refine pu_lss ?_ | refine pu_leq ?_ | refine pu_gtr ?_ | refine pu_geq ?_ | refine pu_add ?_ | refine pu_sub ?_ | refine pu_mul ?_ | refine pu_neg ?_ | refine fa_at ?_ | refine nl_ptr ?_ | refine ex20 ?_ | refine ex21 ?_ | refine ex30 ?_ | refine ex31 ?_ | refine ex32 ?_ | refine ln_rule ?_ | refine lnT_rule ?_ | refine pu_and ?_ | refine pu_or ?_ | refine pu_xor ?_ | refine pu_seq ?_ | refine pu_sne ?_)
  refine cnd (fun hq => ?_) (fun hq => ?_)
  · rw [if_neg (by simpa using hq)] at k
    exact k _ h2.drop
  · rw [if_pos (by simpa using hq)] at k
    exact k _ h2.drop
def Pk.isR : Pk → Bool
  | .a => true
  | .b => true
  | .c => true
  | _ => false
def Pk.mark : Pk → List Nat
  | .a => [114]
  | .b => [114]
  | .c => [114]
  | .n => []
  | .i m => m
theorem mark_cell (p : Pk) : p.cells[1]? = some (.string (bs p.mark)) := by cases p <;> rfl
def okP (l : List Pk) : Prop := ∀ p ∈ l, ((bs p.mark).toList == (bs [114]).toList) = p.isR
theorem mk_ne (m : List Nat) (hb : Byt m) (hm : m ≠ [114]) : ((bs m).toList == (bs [114]).toList) = false := by
  rw [bytes_eq]
  exact decide_eq_false fun h => hm ((bs_inj hb (fun x hx => by simp at hx; omega)).1 h)
theorem pk_r : ∀ p : Pk, (p = .a ∨ p = .b ∨ p = .c ∨ p = .n ∨ p = .i [] ∨ p = .i [45] ∨ p = .i [102]) → ((bs p.mark).toList == (bs [114]).toList) = p.isR := by
  intro p hp
  rcases hp with rfl | rfl | rfl | rfl | rfl | rfl | rfl
  · exact beq_self_eq_true _
  · exact beq_self_eq_true _
  · exact beq_self_eq_true _
  · exact mk_ne [] (fun x hx => by simp at hx) (by simp)
  · exact mk_ne [] (fun x hx => by simp at hx) (by simp)
  · exact mk_ne [45] (fun x hx => by simp at hx; omega) (by simp)
  · exact mk_ne [102] (fun x hx => by simp at hx; omega) (by simp)
theorem ite_okP {p : Prop} [Decidable p] {a b : List Pk} (ha : okP a) (hb : okP b) : okP (if p then a else b) := by
  by_cases h : p
  · rw [if_pos h]; exact ha
  · rw [if_neg h]; exact hb
theorem nmd_okP (op : Int) : okP (nmd op) := by
  unfold nmd
  iterate 18 refine ite_okP (fun p hp => pk_r p (by simp at hp; rcases hp with rfl | rfl | rfl | rfl <;> simp)) ?_
  intro p hp
  simp at hp
def regF (i : Ins) (n : Int) (p : Pk) : Int := if p.isR = true then (if p.get i + 1 > n then p.get i + 1 else n) else n
def regsI (i : Ins) : Int := if okI i = true then (if i.op = 8 ∨ i.op = 10 then (if i.b + i.c > (nmd i.op).foldl (regF i) 0 then i.b + i.c else (nmd i.op).foldl (regF i) 0) else (nmd i.op).foldl (regF i) 0) else 0
theorem ok_sm {i : Ins} (hu : 0 ≤ i.imm ∧ i.imm < 4294967296) (h : okI i = true) : i.Sm := by
  unfold okI at h
  rw [Bool.and_eq_true, Bool.and_eq_true] at h
  have := of_decide_eq_true h.1.1
  exact ⟨⟨this.2.2.1, this.2.2.2.2.2.1⟩, ⟨this.2.2.2.1, this.2.2.2.2.2.2.1⟩, ⟨this.2.2.2.2.1, this.2.2.2.2.2.2.2⟩, hu⟩
theorem regs_spec {i : Ins} (hu : 0 ≤ i.imm ∧ i.imm < 4294967296) (h : Ow B w H) (k : ∀ w', Ow B w' H → K (vI (regsI i)) w') : callW PG N.instr_Regs [.agg i.cells.toArray] K PK w := by
  refine instr_Regs.ok ?_
  unfold instr_Regs.C
  refine al_rule h (l := i.cells) rfl (fun b w1 h1 => ?_)
  refine ldn_here h1 (.head _) (vs := i.cells) rfl rfl ?_
  refine right_spec hu h1 (fun w2 h2 => ?_)
  repeat (first | refine pu_not ?_ | refine pu_eql ?_ | refine pu_neq ?_ | refine pu_lss ?_ | refine pu_leq ?_ | refine pu_gtr ?_ | refine pu_geq ?_ | refine pu_add ?_ | refine pu_sub ?_ | refine pu_mul ?_ | refine pu_neg ?_ | refine fa_at ?_ | refine nl_ptr ?_ | refine ex20 ?_ | refine ex21 ?_ | refine ex30 ?_ | refine ex31 ?_ | refine ex32 ?_ | refine ln_rule ?_ | refine lnT_rule ?_ | refine pu_and ?_ | refine pu_or ?_ | refine pu_xor ?_ | refine pu_seq ?_ | refine pu_sne ?_)
  refine cnd (fun hq => ?_) (fun hq => ?_)
  · have hq : ¬ okI i = true := by simpa using hq
    unfold regsI at k
    rw [if_neg hq] at k
    exact k _ h2.drop
  have hq : okI i = true := by simpa using hq
  unfold regsI at k
  rw [if_pos hq] at k
  have hsm := ok_sm hu hq
  repeat (first | refine pu_not ?_ | refine pu_eql ?_ | refine pu_neq ?_ | refine pu_lss ?_ | refine pu_leq ?_ | refine pu_gtr ?_ | refine pu_geq ?_ | refine pu_add ?_ | refine pu_sub ?_ | refine pu_mul ?_ | refine pu_neg ?_ | refine fa_at ?_ | refine nl_ptr ?_ | refine ex20 ?_ | refine ex21 ?_ | refine ex30 ?_ | refine ex31 ?_ | refine ex32 ?_ | refine ln_rule ?_ | refine lnT_rule ?_ | refine pu_and ?_ | refine pu_or ?_ | refine pu_xor ?_ | refine pu_seq ?_ | refine pu_sne ?_)
  refine ld_here h2 (.head _) (v := vI i.op) rfl ?_
  refine named_spec h2 (fun S v w4 h4 hs => ?_)
  have hln : (prow (nmd i.op)).length = (nmd i.op).length := by simp [prow]
  have hl4 := nmd_len i.op
  have hokp := nmd_okP i.op
  refine sls_ln hs ?_
  rw [hln]
  refine ⟨fun l w => ∃ n : Nat, l = [vI (((nmd i.op).take n).foldl (regF i) 0), vI n] ∧ n ≤ (nmd i.op).length ∧ Ow B w (S ++ (b, iO i) :: H), fun l _ => match l with | [_, .int _ q] => (nmd i.op).length - q.toNat | _ => 0, ⟨0, rfl, Nat.zero_le _, h4⟩, ?_⟩
  rintro l w5 ⟨n, rfl, hn, h5⟩ j
  repeat (first | refine pu_not ?_ | refine pu_eql ?_ | refine pu_neq ?_ | refine pu_lss ?_ | refine pu_leq ?_ | refine pu_gtr ?_ | refine pu_geq ?_ | refine pu_add ?_ | refine pu_sub ?_ | refine pu_mul ?_ | refine pu_neg ?_ | refine fa_at ?_ | refine nl_ptr ?_ | refine ex20 ?_ | refine ex21 ?_ | refine ex30 ?_ | refine ex31 ?_ | refine ex32 ?_ | refine ln_rule ?_ | refine lnT_rule ?_ | refine pu_and ?_ | refine pu_or ?_ | refine pu_xor ?_ | refine pu_seq ?_ | refine pu_sne ?_)
  refine cnd (fun hlt => ?_) (fun hlt => ?_)
  · have hlt : n < (nmd i.op).length := by simpa using hlt
    refine sls_ld h5 (hs.mono fun x hx => List.mem_append_left _ hx) (by omega) (by rw [Int.toNat_natCast]; exact pk_at hlt) ?_
    have hpm := hokp _ (List.getElem_mem hlt)
    have htk : (nmd i.op).take (n + 1) = (nmd i.op).take n ++ [(nmd i.op)[n]] := by rw [List.take_add_one, List.getElem?_eq_getElem hlt]; rfl
    generalize (nmd i.op)[n] = p at htk hpm
    have hfo : ((nmd i.op).take (n + 1)).foldl (regF i) 0 = regF i (((nmd i.op).take n).foldl (regF i) 0) p := by rw [htk, List.foldl_append]; rfl
    refine al_rule h5 (l := zpart) (by kernel_rfl) (fun b3 w6 h6 => ?_)
    refine st_here (A := []) h6 p.cells rfl (by cases p <;> rfl) (pk_plain _) (by simp) (fun w7 h7 => ?_)
    simp only [List.take_zero, List.nil_append, Nat.zero_add, List.drop_succ_cons, List.drop_zero, List.drop_nil, List.append_nil] at h7
    repeat (first | refine pu_not ?_ | refine pu_eql ?_ | refine pu_neq ?_ | refine pu_lss ?_ | refine pu_leq ?_ | refine pu_gtr ?_ | refine pu_geq ?_ | refine pu_add ?_ | refine pu_sub ?_ | refine pu_mul ?_ | refine pu_neg ?_ | refine fa_at ?_ | refine nl_ptr ?_ | refine ex20 ?_ | refine ex21 ?_ | refine ex30 ?_ | refine ex31 ?_ | refine ex32 ?_ | refine ln_rule ?_ | refine lnT_rule ?_ | refine pu_and ?_ | refine pu_or ?_ | refine pu_xor ?_ | refine pu_seq ?_ | refine pu_sne ?_)
    refine ld_here h7 (.head _) (by rw [Nat.zero_add]; exact mark_cell p) ?_
    refine pu_seq ?_
    rw [hpm]
    refine cnd (fun hr => ?_) (fun hr => ?_)
    · repeat (first | refine pu_not ?_ | refine pu_eql ?_ | refine pu_neq ?_ | refine pu_lss ?_ | refine pu_leq ?_ | refine pu_gtr ?_ | refine pu_geq ?_ | refine pu_add ?_ | refine pu_sub ?_ | refine pu_mul ?_ | refine pu_neg ?_ | refine fa_at ?_ | refine nl_ptr ?_ | refine ex20 ?_ | refine ex21 ?_ | refine ex30 ?_ | refine ex31 ?_ | refine ex32 ?_ | refine ln_rule ?_ | refine lnT_rule ?_ | refine pu_and ?_ | refine pu_or ?_ | refine pu_xor ?_ | refine pu_seq ?_ | refine pu_sne ?_)
      refine ld_here h7 (.head _) (v := fnc p.fg #[]) (by cases p <;> rfl) ?_
      refine ldn_here h7 (.tail _ (List.mem_append_right _ (.head _))) (vs := i.cells) rfl rfl ?_
      refine get_pf hsm p [] _ _ _ h7 (fun w8 h8 => ?_)
      have hg := get_small hsm p
      refine cvt (by kernel_rfl) und_int (m := p.get i) (by rw [wrap64_in (by omega) (by omega)]) ?_
      repeat (first | refine pu_not ?_ | refine pu_eql ?_ | refine pu_neq ?_ | refine pu_lss ?_ | refine pu_leq ?_ | refine pu_gtr ?_ | refine pu_geq ?_ | refine pu_add ?_ | refine pu_sub ?_ | refine pu_mul ?_ | refine pu_neg ?_ | refine fa_at ?_ | refine nl_ptr ?_ | refine ex20 ?_ | refine ex21 ?_ | refine ex30 ?_ | refine ex31 ?_ | refine ex32 ?_ | refine ln_rule ?_ | refine lnT_rule ?_ | refine pu_and ?_ | refine pu_or ?_ | refine pu_xor ?_ | refine pu_seq ?_ | refine pu_sne ?_)
      rw [wrap64_in (by omega) (by omega)]
      refine pu_max2 ?_
      repeat (first | refine pu_not ?_ | refine pu_eql ?_ | refine pu_neq ?_ | refine pu_lss ?_ | refine pu_leq ?_ | refine pu_gtr ?_ | refine pu_geq ?_ | refine pu_add ?_ | refine pu_sub ?_ | refine pu_mul ?_ | refine pu_neg ?_ | refine fa_at ?_ | refine nl_ptr ?_ | refine ex20 ?_ | refine ex21 ?_ | refine ex30 ?_ | refine ex31 ?_ | refine ex32 ?_ | refine ln_rule ?_ | refine lnT_rule ?_ | refine pu_and ?_ | refine pu_or ?_ | refine pu_xor ?_ | refine pu_seq ?_ | refine pu_sne ?_)
      rw [wrap64_in (by omega) (by omega)]
      refine ⟨⟨n + 1, ?_, hlt, Ow.drop (p := (b3, cel p.cells T.t_instr_part)) h8⟩, by simp; omega⟩
      rw [hfo]
      unfold regF
      rw [if_pos hr]; rfl
    · repeat (first | refine pu_not ?_ | refine pu_eql ?_ | refine pu_neq ?_ | refine pu_lss ?_ | refine pu_leq ?_ | refine pu_gtr ?_ | refine pu_geq ?_ | refine pu_add ?_ | refine pu_sub ?_ | refine pu_mul ?_ | refine pu_neg ?_ | refine fa_at ?_ | refine nl_ptr ?_ | refine ex20 ?_ | refine ex21 ?_ | refine ex30 ?_ | refine ex31 ?_ | refine ex32 ?_ | refine ln_rule ?_ | refine lnT_rule ?_ | refine pu_and ?_ | refine pu_or ?_ | refine pu_xor ?_ | refine pu_seq ?_ | refine pu_sne ?_)
      rw [wrap64_in (by omega) (by omega)]
      refine ⟨⟨n + 1, ?_, hlt, h7.drop⟩, by simp; omega⟩
      rw [hfo]
      unfold regF
      rw [if_neg (by simp [hr])]; rfl
  · obtain rfl : n = (nmd i.op).length := by simp at hlt; omega
    rw [List.take_length]
    have h6 : Ow B w5 ((b, iO i) :: H) := h5.sub (List.sublist_append_right S _)
    repeat (first | refine pu_not ?_ | refine pu_eql ?_ | refine pu_neq ?_ | refine pu_lss ?_ | refine pu_leq ?_ | refine pu_gtr ?_ | refine pu_geq ?_ | refine pu_add ?_ | refine pu_sub ?_ | refine pu_mul ?_ | refine pu_neg ?_ | refine fa_at ?_ | refine nl_ptr ?_ | refine ex20 ?_ | refine ex21 ?_ | refine ex30 ?_ | refine ex31 ?_ | refine ex32 ?_ | refine ln_rule ?_ | refine lnT_rule ?_ | refine pu_and ?_ | refine pu_or ?_ | refine pu_xor ?_ | refine pu_seq ?_ | refine pu_sne ?_)
    refine ld_here h6 (.head _) (v := vI i.op) rfl ?_
    refine bs_rule h6 [vI 8, vI 10] (by kernel_rfl) (fun b7 w7 h7 => ?_)
    refine among_spec (xs := [8, 10]) h7 (sl_here (l := [vI 8, vI 10]) (.head _)) (by simp) (fun w8 h8 => ?_)
    have h8 := h8.drop
    refine cnd (fun hz => ?_) (fun hz => ?_)
    · have hz : i.op = 8 ∨ i.op = 10 := by simpa using hz
      rw [if_pos hz] at k
      obtain ⟨⟨a0, a1⟩, ⟨b0, b1⟩, ⟨c0, c1⟩, ⟨d0, d1⟩⟩ := hsm
      repeat (first | refine pu_not ?_ | refine pu_eql ?_ | refine pu_neq ?_ | refine pu_lss ?_ | refine pu_leq ?_ | refine pu_gtr ?_ | refine pu_geq ?_ | refine pu_add ?_ | refine pu_sub ?_ | refine pu_mul ?_ | refine pu_neg ?_ | refine fa_at ?_ | refine nl_ptr ?_ | refine ex20 ?_ | refine ex21 ?_ | refine ex30 ?_ | refine ex31 ?_ | refine ex32 ?_ | refine ln_rule ?_ | refine lnT_rule ?_ | refine pu_and ?_ | refine pu_or ?_ | refine pu_xor ?_ | refine pu_seq ?_ | refine pu_sne ?_)
      refine ld_here h8 (.head _) (v := vI i.b) rfl ?_
      repeat (first | refine pu_not ?_ | refine pu_eql ?_ | refine pu_neq ?_ | refine pu_lss ?_ | refine pu_leq ?_ | refine pu_gtr ?_ | refine pu_geq ?_ | refine pu_add ?_ | refine pu_sub ?_ | refine pu_mul ?_ | refine pu_neg ?_ | refine fa_at ?_ | refine nl_ptr ?_ | refine ex20 ?_ | refine ex21 ?_ | refine ex30 ?_ | refine ex31 ?_ | refine ex32 ?_ | refine ln_rule ?_ | refine lnT_rule ?_ | refine pu_and ?_ | refine pu_or ?_ | refine pu_xor ?_ | refine pu_seq ?_ | refine pu_sne ?_)
      refine ld_here h8 (.head _) (v := vI i.c) rfl ?_
      repeat (first | refine pu_not ?_ | refine pu_eql ?_ | refine pu_neq ?_ | refine pu_lss ?_ | refine pu_leq ?_ | refine pu_gtr ?_ | refine pu_geq ?_ | refine pu_add ?_ | refine pu_sub ?_ | refine pu_mul ?_ | refine pu_neg ?_ | refine fa_at ?_ | refine nl_ptr ?_ | refine ex20 ?_ | refine ex21 ?_ | refine ex30 ?_ | refine ex31 ?_ | refine ex32 ?_ | refine ln_rule ?_ | refine lnT_rule ?_ | refine pu_and ?_ | refine pu_or ?_ | refine pu_xor ?_ | refine pu_seq ?_ | refine pu_sne ?_)
      rw [wrap64_in (by omega) (by omega)]
      refine pu_max2 ?_
      exact k _ h8.drop
    · have hz : ¬ (i.op = 8 ∨ i.op = 10) := by simpa using hz
      rw [if_neg hz] at k
      exact k _ h8.drop
def lvI (i : Ins) : Bool := okI i && decide (i.op = 4 ∨ i.op = 9)
theorem leaves_spec {i : Ins} (hu : 0 ≤ i.imm ∧ i.imm < 4294967296) (h : Ow B w H) (k : ∀ w', Ow B w' H → K (vB (lvI i)) w') : callW PG N.instr_Leaves [.agg i.cells.toArray] K PK w := by
  refine instr_Leaves.ok ?_
  unfold instr_Leaves.C
  refine al_rule h (l := i.cells) rfl (fun b w1 h1 => ?_)
  refine ldn_here h1 (.head _) (vs := i.cells) rfl rfl ?_
  refine right_spec hu h1 (fun w2 h2 => ?_)
  unfold lvI at k
  refine cnd (fun hq => ?_) (fun hq => ?_)
  · rw [hq, Bool.true_and] at k
    repeat (first | refine pu_not ?_ | refine pu_eql ?_ | refine pu_neq ?_ | refine pu_lss ?_ | refine pu_leq ?_ | refine pu_gtr ?_ | refine pu_geq ?_ | refine pu_add ?_ | refine pu_sub ?_ | refine pu_mul ?_ | refine pu_neg ?_ | refine fa_at ?_ | refine nl_ptr ?_ | refine ex20 ?_ | refine ex21 ?_ | refine ex30 ?_ | refine ex31 ?_ | refine ex32 ?_ | refine ln_rule ?_ | refine lnT_rule ?_ | refine pu_and ?_ | refine pu_or ?_ | refine pu_xor ?_ | refine pu_seq ?_ | refine pu_sne ?_)
    refine ld_here h2 (.head _) (v := vI i.op) rfl ?_
    refine bs_rule h2 [vI 4, vI 9] (by kernel_rfl) (fun b7 w7 h7 => ?_)
    refine among_spec (xs := [4, 9]) h7 (sl_here (l := [vI 4, vI 9]) (.head _)) (by simp) (fun w8 h8 => ?_)
    have e : decide (i.op ∈ [4, 9]) = decide (i.op = 4 ∨ i.op = 9) := by simp
    rw [e]
    exact k _ h8.drop.drop
  · rw [hq, Bool.false_and] at k
    exact k _ h2.drop

/-! ### Programs -/
structure Fun where
  regs : Int
  code : List Ins
structure Pr where
  fs : List Fun
  mu : Int
  rw : Int
  gr : Int
abbrev icode (l : List Ins) : List (List Value) := l.map Ins.cells
def frows (ps : List (Value × Fun)) : List (List Value) := ps.map fun q => [vI q.2.regs, q.1]
def immOk (l : List Ins) : Prop := ∀ i ∈ l, 0 ≤ i.imm ∧ i.imm < 4294967296
/-- Functions as they lie in memory. -/
def fsIn (X : Hp) (v : Value) (fs : List Fun) : Prop := ∃ ps : List (Value × Fun), ps.map Prod.snd = fs ∧ Sls X v 2 (frows ps) ∧ ∀ q ∈ ps, Sls X q.1 5 (icode q.2.code) ∧ immOk q.2.code
theorem fsIn.mono {Y : Hp} {v : Value} {fs : List Fun} (h : fsIn X v fs) (hs : ∀ x, x ∈ X → x ∈ Y) : fsIn Y v fs := by
  obtain ⟨ps, h1, h2, h3⟩ := h
  exact ⟨ps, h1, h2.mono hs, fun q hq => ⟨(h3 q hq).1.mono hs, (h3 q hq).2⟩⟩
theorem fsIn.ln {v : Value} {fs : List Fun} (h : fsIn X v fs) (k : KK (vI fs.length)) : lnS v KK := by
  obtain ⟨ps, h1, h2, h3⟩ := h
  refine sls_ln h2 ?_
  have : (frows ps).length = fs.length := by rw [← h1]; simp [frows]
  rw [this]; exact k
theorem fsIn.at {v : Value} {fs : List Fun} {n : Int} (h : fsIn X v fs) (h0 : 0 ≤ n) (h1 : n < fs.length) : ∃ (ps : List (Value × Fun)) (c : Value) (f : Fun), fs[n.toNat]? = some f ∧ Sls X v 2 (frows ps) ∧ (frows ps)[n.toNat]? = some [vI f.regs, c] ∧ Sls X c 5 (icode f.code) ∧ immOk f.code := by
  obtain ⟨ps, e1, e2, e3⟩ := h
  have hl : ps.length = fs.length := by rw [← e1]; simp
  have hlt : n.toNat < ps.length := by omega
  refine ⟨ps, ps[n.toNat].1, ps[n.toNat].2, ?_, e2, ?_, (e3 _ (List.getElem_mem hlt)).1, (e3 _ (List.getElem_mem hlt)).2⟩
  · rw [← e1, List.getElem?_map, List.getElem?_eq_getElem hlt]; rfl
  · rw [frows, List.getElem?_map, List.getElem?_eq_getElem hlt]; rfl
theorem fsIn.cells {v : Value} {fs : List Fun} (h : fsIn X v fs) : v.cells = #[v] := by
  obtain ⟨ps, h1, ⟨a, cap, rfl, _⟩, h3⟩ := h
  rfl
theorem fsIn.plain {v : Value} {fs : List Fun} (h : fsIn X v fs) : plainV v = true := by
  obtain ⟨ps, h1, ⟨a, cap, rfl, _⟩, h3⟩ := h
  rfl
theorem sls_plain {v : Value} {size : Nat} {xs : List (List Value)} (h : Sls X v size xs) : plainV v = true := by
  obtain ⟨a, cap, rfl, _⟩ := h
  rfl
def Pr.cells (p : Pr) (v : Value) : List Value := [v, vI p.mu, vI p.rw, vI p.gr]
/-- A place: the function, the program, the number. -/
def plc (f : Fun) (c : Value) (p : Pr) (v : Value) (pc : Int) : List Value := [vI f.regs, c, v, vI p.mu, vI p.rw, vI p.gr, vI pc]
abbrev plO (f : Fun) (c : Value) (p : Pr) (v : Value) (pc : Int) : Obj := cel (plc f c p v pc) T.t_program_place
variable {f : Fun} {c v : Value} {p : Pr} {pc : Nat} {i : Ins}
theorem code_at (h : f.code[pc]? = some i) : (icode f.code)[(pc : Int).toNat]? = some i.cells := by rw [Int.toNat_natCast, List.getElem?_map, h]; rfl
theorem zins : (zc PG T.t_api_Ins) = (bare 0).cells.toArray := by kernel_rfl
theorem ins_spec (hc : Sls X c 5 (icode f.code)) (hX : ∀ x, x ∈ X → x ∈ H) (hi : f.code[pc]? = some i) (h : Ow B w H) (k : ∀ w', Ow B w' H → K (.agg i.cells.toArray) w') : callW PG N.program_place_ins [.agg (plc f c p v pc).toArray] K PK w := by
  refine program_place_ins.ok ?_
  unfold program_place_ins.C
  refine al_rule h (l := plc f c p v pc) rfl (fun b w1 h1 => ?_)
  refine al_rule h1 (l := (bare 0).cells) zins (fun b2 w2 h2 => ?_)
  repeat (first | refine pu_not ?_ | refine pu_eql ?_ | refine pu_neq ?_ | refine pu_lss ?_ | refine pu_leq ?_ | refine pu_gtr ?_ | refine pu_geq ?_ | refine pu_add ?_ | refine pu_sub ?_ | refine pu_mul ?_ | refine pu_neg ?_ | refine fa_at ?_ | refine nl_ptr ?_ | refine ex20 ?_ | refine ex21 ?_ | refine ex30 ?_ | refine ex31 ?_ | refine ex32 ?_ | refine ln_rule ?_ | refine lnT_rule ?_ | refine pu_and ?_ | refine pu_or ?_ | refine pu_xor ?_ | refine pu_seq ?_ | refine pu_sne ?_)
  refine ld_here h2 (.tail _ (.head _)) (v := c) rfl ?_
  repeat (first | refine pu_not ?_ | refine pu_eql ?_ | refine pu_neq ?_ | refine pu_lss ?_ | refine pu_leq ?_ | refine pu_gtr ?_ | refine pu_geq ?_ | refine pu_add ?_ | refine pu_sub ?_ | refine pu_mul ?_ | refine pu_neg ?_ | refine fa_at ?_ | refine nl_ptr ?_ | refine ex20 ?_ | refine ex21 ?_ | refine ex30 ?_ | refine ex31 ?_ | refine ex32 ?_ | refine ln_rule ?_ | refine lnT_rule ?_ | refine pu_and ?_ | refine pu_or ?_ | refine pu_xor ?_ | refine pu_seq ?_ | refine pu_sne ?_)
  refine ld_here h2 (.tail _ (.head _)) (v := vI pc) rfl ?_
  refine sls_ld h2 (hc.mono fun x hx => .tail _ (.tail _ (hX x hx))) (by omega) (code_at hi) ?_
  refine st_here (A := []) h2 i.cells rfl rfl (ins_plain _) (by simp [Ins.cells]) (fun w3 h3 => ?_)
  have e3 : (bare 0).cells.take 0 ++ i.cells ++ (bare 0).cells.drop (0 + 5) = i.cells := rfl
  rw [e3] at h3
  refine ldn_here h3 (.head _) (vs := i.cells) rfl rfl ?_
  exact k _ h3.drop.drop
def fitsI (f : Fun) (i : Ins) : Bool := okI i && decide (regsI i ≤ f.regs)
theorem fits_pf (hc : Sls X c 5 (icode f.code)) (hX : ∀ x, x ∈ X → x ∈ H) (hi : f.code[pc]? = some i) (hm : immOk f.code) : PF PG B H (.func (.func N.program_place_fits) #[.agg (plc f c p v pc).toArray] #[]) [] (vB (fitsI f i)) := fun Z K PK w hw k => by
  have hu := hm i (List.mem_of_getElem? hi)
  refine callV_fn program_place_fits.okf (program_place_fits.ok ?_)
  unfold program_place_fits.C
  refine al_rule hw (l := plc f c p v pc) rfl (fun b w1 h1 => ?_)
  have hXX : ∀ x, x ∈ X → x ∈ (b, plO f c p v pc) :: (Z ++ H) := fun x hx => .tail _ (List.mem_append_right _ (hX x hx))
  refine ⟨fun w => Ow B w ((b, plO f c p v pc) :: (Z ++ H)), h1.drew, ?_⟩
  refine ldsn_here (fun w h => h) (.head _) (vs := plc f c p v pc) rfl rfl ?_
  refine ins_spec hc hXX hi h1.drew (fun w2 h2 => ?_)
  refine ⟨h2, ?_⟩
  refine icheck_spec hu h2 (fun w3 h3 => ?_)
  refine ⟨h3, ?_⟩
  repeat (first | refine pu_not ?_ | refine pu_eql ?_ | refine pu_neq ?_ | refine pu_lss ?_ | refine pu_leq ?_ | refine pu_gtr ?_ | refine pu_geq ?_ | refine pu_add ?_ | refine pu_sub ?_ | refine pu_mul ?_ | refine pu_neg ?_ | refine fa_at ?_ | refine nl_ptr ?_ | refine ex20 ?_ | refine ex21 ?_ | refine ex30 ?_ | refine ex31 ?_ | refine ex32 ?_ | refine ln_rule ?_ | refine lnT_rule ?_ | refine pu_and ?_ | refine pu_or ?_ | refine pu_xor ?_ | refine pu_seq ?_ | refine pu_sne ?_)
  unfold fitsI at k
  refine cnd (fun hq => ?_) (fun hq => ?_)
  · have hq : okI i = true := by
      false_or_by_contra
      rename_i hn
      rw [if_neg hn] at hq
      simp at hq
    rw [hq, Bool.true_and] at k
    refine ldsn_here (fun w h => h) (.head _) (vs := plc f c p v pc) rfl rfl ?_
    repeat (first | refine pu_not ?_ | refine pu_eql ?_ | refine pu_neq ?_ | refine pu_lss ?_ | refine pu_leq ?_ | refine pu_gtr ?_ | refine pu_geq ?_ | refine pu_add ?_ | refine pu_sub ?_ | refine pu_mul ?_ | refine pu_neg ?_ | refine fa_at ?_ | refine nl_ptr ?_ | refine ex20 ?_ | refine ex21 ?_ | refine ex30 ?_ | refine ex31 ?_ | refine ex32 ?_ | refine ln_rule ?_ | refine lnT_rule ?_ | refine pu_and ?_ | refine pu_or ?_ | refine pu_xor ?_ | refine pu_seq ?_ | refine pu_sne ?_)
    refine lds_here (fun w h => h) (.head _) (v := vI f.regs) rfl ?_
    refine ins_spec hc hXX hi h3 (fun w4 h4 => ?_)
    refine ⟨h4, ?_⟩
    refine regs_spec hu h4 (fun w5 h5 => ?_)
    refine ⟨h5, ?_⟩
    repeat (first | refine pu_not ?_ | refine pu_eql ?_ | refine pu_neq ?_ | refine pu_lss ?_ | refine pu_leq ?_ | refine pu_gtr ?_ | refine pu_geq ?_ | refine pu_add ?_ | refine pu_sub ?_ | refine pu_mul ?_ | refine pu_neg ?_ | refine fa_at ?_ | refine nl_ptr ?_ | refine ex20 ?_ | refine ex21 ?_ | refine ex30 ?_ | refine ex31 ?_ | refine ex32 ?_ | refine ln_rule ?_ | refine lnT_rule ?_ | refine pu_and ?_ | refine pu_or ?_ | refine pu_xor ?_ | refine pu_seq ?_ | refine pu_sne ?_)
    exact k _ h5.drop
  · have hq : okI i = false := by
      cases ho : okI i
      · rfl
      · rw [if_pos ho] at hq
        simp at hq
    rw [hq, Bool.false_and] at k
    exact k _ h3.drop
def jumpsI (f : Fun) (i : Ins) : Bool := decide ((i.op ≠ 4 ∧ i.op ≠ 5) ∨ i.imm < f.code.length)
theorem icode_len : (icode f.code).length = f.code.length := List.length_map _
theorem jumps_pf (hc : Sls X c 5 (icode f.code)) (hX : ∀ x, x ∈ X → x ∈ H) (hi : f.code[pc]? = some i) (hm : immOk f.code) : PF PG B H (.func (.func N.program_place_jumps) #[.agg (plc f c p v pc).toArray] #[]) [] (vB (jumpsI f i)) := fun Z K PK w hw k => by
  have hu := hm i (List.mem_of_getElem? hi)
  refine callV_fn program_place_jumps.okf (program_place_jumps.ok ?_)
  unfold program_place_jumps.C
  refine al_rule hw (l := plc f c p v pc) rfl (fun b w1 h1 => ?_)
  have hXX : ∀ x, x ∈ X → x ∈ (b, plO f c p v pc) :: (Z ++ H) := fun x hx => .tail _ (List.mem_append_right _ (hX x hx))
  refine ldn_here h1 (.head _) (vs := plc f c p v pc) rfl rfl ?_
  refine ins_spec hc hXX hi h1 (fun w2 h2 => ?_)
  refine pt_at (v := vI i.op) rfl ?_
  refine ⟨fun w => Ow B w ((b, plO f c p v pc) :: (Z ++ H)), h2.drew, ?_⟩
  repeat (first | refine pu_not ?_ | refine pu_eql ?_ | refine pu_neq ?_ | refine pu_lss ?_ | refine pu_leq ?_ | refine pu_gtr ?_ | refine pu_geq ?_ | refine pu_add ?_ | refine pu_sub ?_ | refine pu_mul ?_ | refine pu_neg ?_ | refine fa_at ?_ | refine nl_ptr ?_ | refine ex20 ?_ | refine ex21 ?_ | refine ex30 ?_ | refine ex31 ?_ | refine ex32 ?_ | refine ln_rule ?_ | refine lnT_rule ?_ | refine pu_and ?_ | refine pu_or ?_ | refine pu_xor ?_ | refine pu_seq ?_ | refine pu_sne ?_)
  refine cnd (fun hq => ?_) (fun hq => ?_)
  · have hq : i.op ≠ 4 := by simpa using hq
    repeat (first | refine pu_not ?_ | refine pu_eql ?_ | refine pu_neq ?_ | refine pu_lss ?_ | refine pu_leq ?_ | refine pu_gtr ?_ | refine pu_geq ?_ | refine pu_add ?_ | refine pu_sub ?_ | refine pu_mul ?_ | refine pu_neg ?_ | refine fa_at ?_ | refine nl_ptr ?_ | refine ex20 ?_ | refine ex21 ?_ | refine ex30 ?_ | refine ex31 ?_ | refine ex32 ?_ | refine ln_rule ?_ | refine lnT_rule ?_ | refine pu_and ?_ | refine pu_or ?_ | refine pu_xor ?_ | refine pu_seq ?_ | refine pu_sne ?_)
    refine cnd (fun hz => ?_) (fun hz => ?_)
    · have hz : i.op ≠ 5 := by simpa using hz
      have e : jumpsI f i = true := by unfold jumpsI; exact decide_eq_true (.inl ⟨hq, hz⟩)
      rw [e] at k
      exact k _ h2.drew.drop
    · have hz : i.op = 5 := by simpa using hz
      refine ldsn_here (fun w h => h) (.head _) (vs := plc f c p v pc) rfl rfl ?_
      repeat (first | refine pu_not ?_ | refine pu_eql ?_ | refine pu_neq ?_ | refine pu_lss ?_ | refine pu_leq ?_ | refine pu_gtr ?_ | refine pu_geq ?_ | refine pu_add ?_ | refine pu_sub ?_ | refine pu_mul ?_ | refine pu_neg ?_ | refine fa_at ?_ | refine nl_ptr ?_ | refine ex20 ?_ | refine ex21 ?_ | refine ex30 ?_ | refine ex31 ?_ | refine ex32 ?_ | refine ln_rule ?_ | refine lnT_rule ?_ | refine pu_and ?_ | refine pu_or ?_ | refine pu_xor ?_ | refine pu_seq ?_ | refine pu_sne ?_)
      refine lds_here (fun w h => h) (.head _) (v := c) rfl ?_
      refine sls_ln hc ?_
      rw [icode_len]
      refine ins_spec hc hXX hi h2.drew (fun w3 h3 => ?_)
      refine ⟨h3, ?_⟩
      refine pt_at (v := .int .u32 i.imm) rfl ?_
      refine cvt (by kernel_rfl) und_int (m := i.imm) (by rw [wrap64_in (by omega) (by omega)]) ?_
      repeat (first | refine pu_not ?_ | refine pu_eql ?_ | refine pu_neq ?_ | refine pu_lss ?_ | refine pu_leq ?_ | refine pu_gtr ?_ | refine pu_geq ?_ | refine pu_add ?_ | refine pu_sub ?_ | refine pu_mul ?_ | refine pu_neg ?_ | refine fa_at ?_ | refine nl_ptr ?_ | refine ex20 ?_ | refine ex21 ?_ | refine ex30 ?_ | refine ex31 ?_ | refine ex32 ?_ | refine ln_rule ?_ | refine lnT_rule ?_ | refine pu_and ?_ | refine pu_or ?_ | refine pu_xor ?_ | refine pu_seq ?_ | refine pu_sne ?_)
      have e : jumpsI f i = decide (i.imm < f.code.length) := by
        unfold jumpsI
        simp only [decide_eq_decide]
        constructor
        · rintro (h | h)
          · omega
          · exact h
        · exact fun h => .inr h
      rw [e] at k
      exact k _ h3.drop
  · have hz : i.op = 4 := by simpa using hq
    refine ldsn_here (fun w h => h) (.head _) (vs := plc f c p v pc) rfl rfl ?_
    repeat (first | refine pu_not ?_ | refine pu_eql ?_ | refine pu_neq ?_ | refine pu_lss ?_ | refine pu_leq ?_ | refine pu_gtr ?_ | refine pu_geq ?_ | refine pu_add ?_ | refine pu_sub ?_ | refine pu_mul ?_ | refine pu_neg ?_ | refine fa_at ?_ | refine nl_ptr ?_ | refine ex20 ?_ | refine ex21 ?_ | refine ex30 ?_ | refine ex31 ?_ | refine ex32 ?_ | refine ln_rule ?_ | refine lnT_rule ?_ | refine pu_and ?_ | refine pu_or ?_ | refine pu_xor ?_ | refine pu_seq ?_ | refine pu_sne ?_)
    refine lds_here (fun w h => h) (.head _) (v := c) rfl ?_
    refine sls_ln hc ?_
    rw [icode_len]
    refine ins_spec hc hXX hi h2.drew (fun w3 h3 => ?_)
    refine ⟨h3, ?_⟩
    refine pt_at (v := .int .u32 i.imm) rfl ?_
    refine cvt (by kernel_rfl) und_int (m := i.imm) (by rw [wrap64_in (by omega) (by omega)]) ?_
    repeat (first | refine pu_not ?_ | refine pu_eql ?_ | refine pu_neq ?_ | refine pu_lss ?_ | refine pu_leq ?_ | refine pu_gtr ?_ | refine pu_geq ?_ | refine pu_add ?_ | refine pu_sub ?_ | refine pu_mul ?_ | refine pu_neg ?_ | refine fa_at ?_ | refine nl_ptr ?_ | refine ex20 ?_ | refine ex21 ?_ | refine ex30 ?_ | refine ex31 ?_ | refine ex32 ?_ | refine ln_rule ?_ | refine lnT_rule ?_ | refine pu_and ?_ | refine pu_or ?_ | refine pu_xor ?_ | refine pu_seq ?_ | refine pu_sne ?_)
    have e : jumpsI f i = decide (i.imm < f.code.length) := by
      unfold jumpsI
      simp only [decide_eq_decide]
      constructor
      · rintro (h | h)
        · omega
        · exact h
      · exact fun h => .inr h
    rw [e] at k
    exact k _ h3.drop
def callsI (fs : List Fun) (i : Ins) : Bool := decide (i.op ≠ 8 ∧ i.op ≠ 10) || match fs[i.imm.toNat]? with
  | some g => decide (i.c ≤ g.regs)
  | none => false
theorem calls_pf (hc : Sls X c 5 (icode f.code)) (hv : fsIn X v p.fs) (hX : ∀ x, x ∈ X → x ∈ H) (hi : f.code[pc]? = some i) (hm : immOk f.code) : PF PG B H (.func (.func N.program_place_calls) #[.agg (plc f c p v pc).toArray] #[]) [] (vB (callsI p.fs i)) := fun Z K PK w hw k => by
  have hu := hm i (List.mem_of_getElem? hi)
  refine callV_fn program_place_calls.okf (program_place_calls.ok ?_)
  unfold program_place_calls.C
  refine al_rule hw (l := plc f c p v pc) rfl (fun b w1 h1 => ?_)
  have hXX : ∀ x, x ∈ X → x ∈ (b, plO f c p v pc) :: (Z ++ H) := fun x hx => .tail _ (List.mem_append_right _ (hX x hx))
  refine ldn_here h1 (.head _) (vs := plc f c p v pc) rfl rfl ?_
  refine ins_spec hc hXX hi h1 (fun w2 h2 => ?_)
  refine al_rule h2 (l := (bare 0).cells) zins (fun b2 w3 h3 => ?_)
  refine st_here (A := []) h3 i.cells rfl rfl (ins_plain _) (by simp [Ins.cells]) (fun w4 h4 => ?_)
  have e3 : (bare 0).cells.take 0 ++ i.cells ++ (bare 0).cells.drop (0 + 5) = i.cells := rfl
  rw [e3] at h4
  repeat (first | refine pu_not ?_ | refine pu_eql ?_ | refine pu_neq ?_ | refine pu_lss ?_ | refine pu_leq ?_ | refine pu_gtr ?_ | refine pu_geq ?_ | refine pu_add ?_ | refine pu_sub ?_ | refine pu_mul ?_ | refine pu_neg ?_ | refine fa_at ?_ | refine nl_ptr ?_ | refine ex20 ?_ | refine ex21 ?_ | refine ex30 ?_ | refine ex31 ?_ | refine ex32 ?_ | refine ln_rule ?_ | refine lnT_rule ?_ | refine pu_and ?_ | refine pu_or ?_ | refine pu_xor ?_ | refine pu_seq ?_ | refine pu_sne ?_)
  refine ld_here h4 (.head _) (v := vI i.op) rfl ?_
  repeat (first | refine pu_not ?_ | refine pu_eql ?_ | refine pu_neq ?_ | refine pu_lss ?_ | refine pu_leq ?_ | refine pu_gtr ?_ | refine pu_geq ?_ | refine pu_add ?_ | refine pu_sub ?_ | refine pu_mul ?_ | refine pu_neg ?_ | refine fa_at ?_ | refine nl_ptr ?_ | refine ex20 ?_ | refine ex21 ?_ | refine ex30 ?_ | refine ex31 ?_ | refine ex32 ?_ | refine ln_rule ?_ | refine lnT_rule ?_ | refine pu_and ?_ | refine pu_or ?_ | refine pu_xor ?_ | refine pu_seq ?_ | refine pu_sne ?_)
  refine cnd (fun hq => ?_) (fun hq => ?_)
  · have hq : i.op ≠ 8 := by simpa using hq
    repeat (first | refine pu_not ?_ | refine pu_eql ?_ | refine pu_neq ?_ | refine pu_lss ?_ | refine pu_leq ?_ | refine pu_gtr ?_ | refine pu_geq ?_ | refine pu_add ?_ | refine pu_sub ?_ | refine pu_mul ?_ | refine pu_neg ?_ | refine fa_at ?_ | refine nl_ptr ?_ | refine ex20 ?_ | refine ex21 ?_ | refine ex30 ?_ | refine ex31 ?_ | refine ex32 ?_ | refine ln_rule ?_ | refine lnT_rule ?_ | refine pu_and ?_ | refine pu_or ?_ | refine pu_xor ?_ | refine pu_seq ?_ | refine pu_sne ?_)
    refine ld_here h4 (.head _) (v := vI i.op) rfl ?_
    repeat (first | refine pu_not ?_ | refine pu_eql ?_ | refine pu_neq ?_ | refine pu_lss ?_ | refine pu_leq ?_ | refine pu_gtr ?_ | refine pu_geq ?_ | refine pu_add ?_ | refine pu_sub ?_ | refine pu_mul ?_ | refine pu_neg ?_ | refine fa_at ?_ | refine nl_ptr ?_ | refine ex20 ?_ | refine ex21 ?_ | refine ex30 ?_ | refine ex31 ?_ | refine ex32 ?_ | refine ln_rule ?_ | refine lnT_rule ?_ | refine pu_and ?_ | refine pu_or ?_ | refine pu_xor ?_ | refine pu_seq ?_ | refine pu_sne ?_)
    refine cnd (fun hz => ?_) (fun hz => ?_)
    · have hz : i.op ≠ 10 := by simpa using hz
      have e : callsI p.fs i = true := by unfold callsI; rw [decide_eq_true ⟨hq, hz⟩]; rfl
      rw [e] at k
      exact k _ h4.drop.drop
    · have hz : i.op = 10 := by simpa using hz
      refine ⟨fun w => Ow B w ((b2, iO i) :: (b, plO f c p v pc) :: (Z ++ H)), h4.drew, ?_⟩
      have h5 := h4.drew
      have hvv : fsIn ((b2, iO i) :: (b, plO f c p v pc) :: (Z ++ H)) v p.fs := hv.mono fun x hx => .tail _ (hXX x hx)
      repeat (first | refine pu_not ?_ | refine pu_eql ?_ | refine pu_neq ?_ | refine pu_lss ?_ | refine pu_leq ?_ | refine pu_gtr ?_ | refine pu_geq ?_ | refine pu_add ?_ | refine pu_sub ?_ | refine pu_mul ?_ | refine pu_neg ?_ | refine fa_at ?_ | refine nl_ptr ?_ | refine ex20 ?_ | refine ex21 ?_ | refine ex30 ?_ | refine ex31 ?_ | refine ex32 ?_ | refine ln_rule ?_ | refine lnT_rule ?_ | refine pu_and ?_ | refine pu_or ?_ | refine pu_xor ?_ | refine pu_seq ?_ | refine pu_sne ?_)
      refine lds_here (fun w h => h) (.head _) (v := .int .u32 i.imm) rfl ?_
      refine cvt (by kernel_rfl) und_int (m := i.imm) (by rw [wrap64_in (by omega) (by omega)]) ?_
      repeat (first | refine pu_not ?_ | refine pu_eql ?_ | refine pu_neq ?_ | refine pu_lss ?_ | refine pu_leq ?_ | refine pu_gtr ?_ | refine pu_geq ?_ | refine pu_add ?_ | refine pu_sub ?_ | refine pu_mul ?_ | refine pu_neg ?_ | refine fa_at ?_ | refine nl_ptr ?_ | refine ex20 ?_ | refine ex21 ?_ | refine ex30 ?_ | refine ex31 ?_ | refine ex32 ?_ | refine ln_rule ?_ | refine lnT_rule ?_ | refine pu_and ?_ | refine pu_or ?_ | refine pu_xor ?_ | refine pu_seq ?_ | refine pu_sne ?_)
      refine lds_here (fun w h => h) (.tail _ (.head _)) (v := v) rfl ?_
      refine hvv.ln ?_
      repeat (first | refine pu_not ?_ | refine pu_eql ?_ | refine pu_neq ?_ | refine pu_lss ?_ | refine pu_leq ?_ | refine pu_gtr ?_ | refine pu_geq ?_ | refine pu_add ?_ | refine pu_sub ?_ | refine pu_mul ?_ | refine pu_neg ?_ | refine fa_at ?_ | refine nl_ptr ?_ | refine ex20 ?_ | refine ex21 ?_ | refine ex30 ?_ | refine ex31 ?_ | refine ex32 ?_ | refine ln_rule ?_ | refine lnT_rule ?_ | refine pu_and ?_ | refine pu_or ?_ | refine pu_xor ?_ | refine pu_seq ?_ | refine pu_sne ?_)
      refine cnd (fun hlt => ?_) (fun hlt => ?_)
      · have hlt : i.imm < p.fs.length := by simpa using hlt
        obtain ⟨ps, cc, g, g1, g2, g3, g4, g5⟩ := hvv.at hu.1 hlt
        repeat (first | refine pu_not ?_ | refine pu_eql ?_ | refine pu_neq ?_ | refine pu_lss ?_ | refine pu_leq ?_ | refine pu_gtr ?_ | refine pu_geq ?_ | refine pu_add ?_ | refine pu_sub ?_ | refine pu_mul ?_ | refine pu_neg ?_ | refine fa_at ?_ | refine nl_ptr ?_ | refine ex20 ?_ | refine ex21 ?_ | refine ex30 ?_ | refine ex31 ?_ | refine ex32 ?_ | refine ln_rule ?_ | refine lnT_rule ?_ | refine pu_and ?_ | refine pu_or ?_ | refine pu_xor ?_ | refine pu_seq ?_ | refine pu_sne ?_)
        refine lds_here (fun w h => h) (.head _) (v := vI i.c) rfl ?_
        repeat (first | refine pu_not ?_ | refine pu_eql ?_ | refine pu_neq ?_ | refine pu_lss ?_ | refine pu_leq ?_ | refine pu_gtr ?_ | refine pu_geq ?_ | refine pu_add ?_ | refine pu_sub ?_ | refine pu_mul ?_ | refine pu_neg ?_ | refine fa_at ?_ | refine nl_ptr ?_ | refine ex20 ?_ | refine ex21 ?_ | refine ex30 ?_ | refine ex31 ?_ | refine ex32 ?_ | refine ln_rule ?_ | refine lnT_rule ?_ | refine pu_and ?_ | refine pu_or ?_ | refine pu_xor ?_ | refine pu_seq ?_ | refine pu_sne ?_)
        refine lds_here (fun w h => h) (.tail _ (.head _)) (v := v) rfl ?_
        repeat (first | refine pu_not ?_ | refine pu_eql ?_ | refine pu_neq ?_ | refine pu_lss ?_ | refine pu_leq ?_ | refine pu_gtr ?_ | refine pu_geq ?_ | refine pu_add ?_ | refine pu_sub ?_ | refine pu_mul ?_ | refine pu_neg ?_ | refine fa_at ?_ | refine nl_ptr ?_ | refine ex20 ?_ | refine ex21 ?_ | refine ex30 ?_ | refine ex31 ?_ | refine ex32 ?_ | refine ln_rule ?_ | refine lnT_rule ?_ | refine pu_and ?_ | refine pu_or ?_ | refine pu_xor ?_ | refine pu_seq ?_ | refine pu_sne ?_)
        refine lds_here (fun w h => h) (.head _) (v := .int .u32 i.imm) rfl ?_
        refine sls_flds (fun w h => h) g2 hu.1 g3 (v := vI g.regs) rfl ?_
        repeat (first | refine pu_not ?_ | refine pu_eql ?_ | refine pu_neq ?_ | refine pu_lss ?_ | refine pu_leq ?_ | refine pu_gtr ?_ | refine pu_geq ?_ | refine pu_add ?_ | refine pu_sub ?_ | refine pu_mul ?_ | refine pu_neg ?_ | refine fa_at ?_ | refine nl_ptr ?_ | refine ex20 ?_ | refine ex21 ?_ | refine ex30 ?_ | refine ex31 ?_ | refine ex32 ?_ | refine ln_rule ?_ | refine lnT_rule ?_ | refine pu_and ?_ | refine pu_or ?_ | refine pu_xor ?_ | refine pu_seq ?_ | refine pu_sne ?_)
        have e : callsI p.fs i = decide (i.c ≤ g.regs) := by
          unfold callsI
          rw [decide_eq_false (by omega), Bool.false_or, g1]
        rw [e] at k
        exact k _ h5.drop.drop
      · have hlt : ¬ i.imm < p.fs.length := by simpa using hlt
        have e : callsI p.fs i = false := by
          unfold callsI
          rw [decide_eq_false (by omega), Bool.false_or, List.getElem?_eq_none (by omega)]
        rw [e] at k
        exact k _ h5.drop.drop
  · have hz : i.op = 8 := by simpa using hq
    refine ⟨fun w => Ow B w ((b2, iO i) :: (b, plO f c p v pc) :: (Z ++ H)), h4.drew, ?_⟩
    have h5 := h4.drew
    have hvv : fsIn ((b2, iO i) :: (b, plO f c p v pc) :: (Z ++ H)) v p.fs := hv.mono fun x hx => .tail _ (hXX x hx)
    repeat (first | refine pu_not ?_ | refine pu_eql ?_ | refine pu_neq ?_ | refine pu_lss ?_ | refine pu_leq ?_ | refine pu_gtr ?_ | refine pu_geq ?_ | refine pu_add ?_ | refine pu_sub ?_ | refine pu_mul ?_ | refine pu_neg ?_ | refine fa_at ?_ | refine nl_ptr ?_ | refine ex20 ?_ | refine ex21 ?_ | refine ex30 ?_ | refine ex31 ?_ | refine ex32 ?_ | refine ln_rule ?_ | refine lnT_rule ?_ | refine pu_and ?_ | refine pu_or ?_ | refine pu_xor ?_ | refine pu_seq ?_ | refine pu_sne ?_)
    refine lds_here (fun w h => h) (.head _) (v := .int .u32 i.imm) rfl ?_
    refine cvt (by kernel_rfl) und_int (m := i.imm) (by rw [wrap64_in (by omega) (by omega)]) ?_
    repeat (first | refine pu_not ?_ | refine pu_eql ?_ | refine pu_neq ?_ | refine pu_lss ?_ | refine pu_leq ?_ | refine pu_gtr ?_ | refine pu_geq ?_ | refine pu_add ?_ | refine pu_sub ?_ | refine pu_mul ?_ | refine pu_neg ?_ | refine fa_at ?_ | refine nl_ptr ?_ | refine ex20 ?_ | refine ex21 ?_ | refine ex30 ?_ | refine ex31 ?_ | refine ex32 ?_ | refine ln_rule ?_ | refine lnT_rule ?_ | refine pu_and ?_ | refine pu_or ?_ | refine pu_xor ?_ | refine pu_seq ?_ | refine pu_sne ?_)
    refine lds_here (fun w h => h) (.tail _ (.head _)) (v := v) rfl ?_
    refine hvv.ln ?_
    repeat (first | refine pu_not ?_ | refine pu_eql ?_ | refine pu_neq ?_ | refine pu_lss ?_ | refine pu_leq ?_ | refine pu_gtr ?_ | refine pu_geq ?_ | refine pu_add ?_ | refine pu_sub ?_ | refine pu_mul ?_ | refine pu_neg ?_ | refine fa_at ?_ | refine nl_ptr ?_ | refine ex20 ?_ | refine ex21 ?_ | refine ex30 ?_ | refine ex31 ?_ | refine ex32 ?_ | refine ln_rule ?_ | refine lnT_rule ?_ | refine pu_and ?_ | refine pu_or ?_ | refine pu_xor ?_ | refine pu_seq ?_ | refine pu_sne ?_)
    refine cnd (fun hlt => ?_) (fun hlt => ?_)
    · have hlt : i.imm < p.fs.length := by simpa using hlt
      obtain ⟨ps, cc, g, g1, g2, g3, g4, g5⟩ := hvv.at hu.1 hlt
      repeat (first | refine pu_not ?_ | refine pu_eql ?_ | refine pu_neq ?_ | refine pu_lss ?_ | refine pu_leq ?_ | refine pu_gtr ?_ | refine pu_geq ?_ | refine pu_add ?_ | refine pu_sub ?_ | refine pu_mul ?_ | refine pu_neg ?_ | refine fa_at ?_ | refine nl_ptr ?_ | refine ex20 ?_ | refine ex21 ?_ | refine ex30 ?_ | refine ex31 ?_ | refine ex32 ?_ | refine ln_rule ?_ | refine lnT_rule ?_ | refine pu_and ?_ | refine pu_or ?_ | refine pu_xor ?_ | refine pu_seq ?_ | refine pu_sne ?_)
      refine lds_here (fun w h => h) (.head _) (v := vI i.c) rfl ?_
      repeat (first | refine pu_not ?_ | refine pu_eql ?_ | refine pu_neq ?_ | refine pu_lss ?_ | refine pu_leq ?_ | refine pu_gtr ?_ | refine pu_geq ?_ | refine pu_add ?_ | refine pu_sub ?_ | refine pu_mul ?_ | refine pu_neg ?_ | refine fa_at ?_ | refine nl_ptr ?_ | refine ex20 ?_ | refine ex21 ?_ | refine ex30 ?_ | refine ex31 ?_ | refine ex32 ?_ | refine ln_rule ?_ | refine lnT_rule ?_ | refine pu_and ?_ | refine pu_or ?_ | refine pu_xor ?_ | refine pu_seq ?_ | refine pu_sne ?_)
      refine lds_here (fun w h => h) (.tail _ (.head _)) (v := v) rfl ?_
      repeat (first | refine pu_not ?_ | refine pu_eql ?_ | refine pu_neq ?_ | refine pu_lss ?_ | refine pu_leq ?_ | refine pu_gtr ?_ | refine pu_geq ?_ | refine pu_add ?_ | refine pu_sub ?_ | refine pu_mul ?_ | refine pu_neg ?_ | refine fa_at ?_ | refine nl_ptr ?_ | refine ex20 ?_ | refine ex21 ?_ | refine ex30 ?_ | refine ex31 ?_ | refine ex32 ?_ | refine ln_rule ?_ | refine lnT_rule ?_ | refine pu_and ?_ | refine pu_or ?_ | refine pu_xor ?_ | refine pu_seq ?_ | refine pu_sne ?_)
      refine lds_here (fun w h => h) (.head _) (v := .int .u32 i.imm) rfl ?_
      refine sls_flds (fun w h => h) g2 hu.1 g3 (v := vI g.regs) rfl ?_
      repeat (first | refine pu_not ?_ | refine pu_eql ?_ | refine pu_neq ?_ | refine pu_lss ?_ | refine pu_leq ?_ | refine pu_gtr ?_ | refine pu_geq ?_ | refine pu_add ?_ | refine pu_sub ?_ | refine pu_mul ?_ | refine pu_neg ?_ | refine fa_at ?_ | refine nl_ptr ?_ | refine ex20 ?_ | refine ex21 ?_ | refine ex30 ?_ | refine ex31 ?_ | refine ex32 ?_ | refine ln_rule ?_ | refine lnT_rule ?_ | refine pu_and ?_ | refine pu_or ?_ | refine pu_xor ?_ | refine pu_seq ?_ | refine pu_sne ?_)
      have e : callsI p.fs i = decide (i.c ≤ g.regs) := by
        unfold callsI
        rw [decide_eq_false (by omega), Bool.false_or, g1]
      rw [e] at k
      exact k _ h5.drop.drop
    · have hlt : ¬ i.imm < p.fs.length := by simpa using hlt
      have e : callsI p.fs i = false := by
        unfold callsI
        rw [decide_eq_false (by omega), Bool.false_or, List.getElem?_eq_none (by omega)]
      rw [e] at k
      exact k _ h5.drop.drop
def endsI (f : Fun) (pc : Nat) (i : Ins) : Bool := decide (pc + 1 < f.code.length) || lvI i
theorem ends_pf (hc : Sls X c 5 (icode f.code)) (hX : ∀ x, x ∈ X → x ∈ H) (hi : f.code[pc]? = some i) (hm : immOk f.code) : PF PG B H (.func (.func N.program_place_ends) #[.agg (plc f c p v pc).toArray] #[]) [] (vB (endsI f pc i)) := fun Z K PK w hw k => by
  have hu := hm i (List.mem_of_getElem? hi)
  have hpl := (List.getElem?_eq_some_iff.1 hi).1
  have hmax := hc.max
  rw [icode_len] at hmax
  simp only [maxLen] at hmax
  refine callV_fn program_place_ends.okf (program_place_ends.ok ?_)
  unfold program_place_ends.C
  refine al_rule hw (l := plc f c p v pc) rfl (fun b w1 h1 => ?_)
  have hXX : ∀ x, x ∈ X → x ∈ (b, plO f c p v pc) :: (Z ++ H) := fun x hx => .tail _ (List.mem_append_right _ (hX x hx))
  repeat (first | refine pu_not ?_ | refine pu_eql ?_ | refine pu_neq ?_ | refine pu_lss ?_ | refine pu_leq ?_ | refine pu_gtr ?_ | refine pu_geq ?_ | refine pu_add ?_ | refine pu_sub ?_ | refine pu_mul ?_ | refine pu_neg ?_ | refine fa_at ?_ | refine nl_ptr ?_ | refine ex20 ?_ | refine ex21 ?_ | refine ex30 ?_ | refine ex31 ?_ | refine ex32 ?_ | refine ln_rule ?_ | refine lnT_rule ?_ | refine pu_and ?_ | refine pu_or ?_ | refine pu_xor ?_ | refine pu_seq ?_ | refine pu_sne ?_)
  refine ld_here h1 (.head _) (v := vI pc) rfl ?_
  repeat (first | refine pu_not ?_ | refine pu_eql ?_ | refine pu_neq ?_ | refine pu_lss ?_ | refine pu_leq ?_ | refine pu_gtr ?_ | refine pu_geq ?_ | refine pu_add ?_ | refine pu_sub ?_ | refine pu_mul ?_ | refine pu_neg ?_ | refine fa_at ?_ | refine nl_ptr ?_ | refine ex20 ?_ | refine ex21 ?_ | refine ex30 ?_ | refine ex31 ?_ | refine ex32 ?_ | refine ln_rule ?_ | refine lnT_rule ?_ | refine pu_and ?_ | refine pu_or ?_ | refine pu_xor ?_ | refine pu_seq ?_ | refine pu_sne ?_)
  refine ld_here h1 (.head _) (v := c) rfl ?_
  refine sls_ln hc ?_
  rw [icode_len]
  repeat (first | refine pu_not ?_ | refine pu_eql ?_ | refine pu_neq ?_ | refine pu_lss ?_ | refine pu_leq ?_ | refine pu_gtr ?_ | refine pu_geq ?_ | refine pu_add ?_ | refine pu_sub ?_ | refine pu_mul ?_ | refine pu_neg ?_ | refine fa_at ?_ | refine nl_ptr ?_ | refine ex20 ?_ | refine ex21 ?_ | refine ex30 ?_ | refine ex31 ?_ | refine ex32 ?_ | refine ln_rule ?_ | refine lnT_rule ?_ | refine pu_and ?_ | refine pu_or ?_ | refine pu_xor ?_ | refine pu_seq ?_ | refine pu_sne ?_)
  rw [wrap64_in (by omega) (by omega)]
  unfold endsI at k
  refine cnd (fun hq => ?_) (fun hq => ?_)
  · have hq : pc + 1 < f.code.length := by simp at hq; omega
    rw [decide_eq_true hq, Bool.true_or] at k
    exact k _ h1.drop
  · have hq : ¬ pc + 1 < f.code.length := by simp at hq; omega
    rw [decide_eq_false hq, Bool.false_or] at k
    refine ldn_here h1 (.head _) (vs := plc f c p v pc) rfl rfl ?_
    refine ins_spec hc hXX hi h1 (fun w2 h2 => ?_)
    refine leaves_spec hu h2 (fun w3 h3 => ?_)
    exact k _ h3.drop
end
end Go.Proofs.YtkkkcafkepnecaaGreat
