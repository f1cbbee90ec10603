/- The reference of programs: Right. -/
import Derived.Test.YtkkkcafkepnecaaGreatZR
import Derived.Test.YtkkkcafkepnecaaGreatFS

set_option linter.unusedVariables false
set_option linter.unusedSimpArgs false
namespace Go.Proofs.YtkkkcafkepnecaaGreat
open Go Go.RowKit Vc Ar
attribute [local irreducible] binV Op.unary convert nlW faW ldS ldW ixS ixA ixV ixT exW lnS lnT pu stW alW opW opU bsW mkW

section
variable {B w : World} {H X F Q R : Hp} {K : Value → World → Prop} {PK : List PanicEntry → World → Prop} {KK : Value → Prop} {p : Pr} {i : Ins} {f : Fun} {v : Value}
set_option maxRecDepth 20000 in
theorem num_facts' {p : Pr} (h : numI p = true) : 1 ≤ p.fs.length ∧ p.fs.length ≤ 32 ∧ ∀ f ∈ p.fs, 1 ≤ f.regs ∧ f.regs ≤ 16 ∧ 1 ≤ f.code.length ∧ f.code.length ≤ 512 := by
  unfold numI numL at h
  simp only [List.all_append, List.all_cons, List.all_nil, Bool.and_true, Bool.and_eq_true, inB, decide_eq_true_eq] at h
  obtain ⟨⟨h1, h2, h3, h4⟩, h5⟩ := h
  refine ⟨by omega, by omega, fun f hf => ?_⟩
  have := List.all_eq_true.1 h5
  have q1 := this (f.regs, 1, 16) (List.mem_flatMap.2 ⟨f, hf, .head _⟩)
  have q2 := this ((f.code.length : Int), 1, 512) (List.mem_flatMap.2 ⟨f, hf, .tail _ (.head _)⟩)
  simp only [inB, Bool.and_eq_true, decide_eq_true_eq] at q1 q2
  omega
theorem fine09_spec {n m : Nat} (hv : fsIn X v p.fs) (hX : ∀ x, x ∈ X → x ∈ H) (hf : p.fs[n]? = some f) (hi : f.code[m]? = some i) (h : Ow B w H) (k : ∀ w', Ow B w' H → K (vB (fineI p f m i)) w') : callW PG N.linesmanref09_fine [.agg (p.cells v).toArray, vI n, vI m] K PK w := by
  refine linesmanref09_fine.ok ?_
  unfold linesmanref09_fine.C
  have hlt := (List.getElem?_eq_some_iff.1 hf).1
  obtain ⟨ps, cc, f', f1, f2, f3, f4, f5⟩ := hv.at (n := (n : Int)) (by omega) (by omega)
  rw [Int.toNat_natCast, hf] at f1
  cases f1
  have hu := f5 i (List.mem_of_getElem? hi)
  have hmax := f4.max
  rw [icode_len] at hmax
  simp only [maxLen] at hmax
  have hmlt := (List.getElem?_eq_some_iff.1 hi).1
  refine al_rule h (l := p.cells v) rfl (fun b2 w1 h1 => ?_)
  repeat (first | refine pu_not ?_ | refine pu_eql ?_ | refine pu_neq ?_ | refine pu_lss ?_ | refine pu_leq ?_ | refine pu_gtr ?_ | refine pu_geq ?_ | refine pu_add ?_ | refine pu_sub ?_ | refine pu_mul ?_ | refine pu_neg ?_ | refine fa_at ?_ | refine nl_ptr ?_ | refine ex20 ?_ | refine ex21 ?_ | refine ex30 ?_ | refine ex31 ?_ | refine ex32 ?_ | refine ln_rule ?_ | refine lnT_rule ?_ | refine pu_and ?_ | refine pu_or ?_ | refine pu_xor ?_ | refine pu_seq ?_ | refine pu_sne ?_)
  refine ld_here h1 (.head _) (v := v) rfl ?_
  refine sls_fld h1 (f2.mono fun x hx => .tail _ (hX x hx)) (by omega) f3 (j := 1) (v := cc) rfl ?_
  refine sls_ld h1 (f4.mono fun x hx => .tail _ (hX x hx)) (by omega) (code_at hi) ?_
  refine al_rule h1 (l := (bare 0).cells) zins (fun b13 w2 h2 => ?_)
  refine st_here (A := []) h2 i.cells rfl rfl (ins_plain _) (by simp [Ins.cells]) (fun w3 h3 => ?_)
  have e3 : (bare 0).cells.take 0 ++ i.cells ++ (bare 0).cells.drop (0 + 5) = i.cells := rfl
  rw [e3] at h3
  have h3 : Ow B w3 ((b13, iO i) :: (b2, cel (p.cells v) T.t_api_Program) :: H) := h3
  have k : ∀ w', Ow B w' ((b13, iO i) :: (b2, cel (p.cells v) T.t_api_Program) :: H) → K (vB (fineI p f m i)) w' := fun w' h' => k w' h'.drop.drop
  have m13 : (b13, iO i) ∈ (b13, iO i) :: (b2, cel (p.cells v) T.t_api_Program) :: H := .head _
  have m2 : (b2, cel (p.cells v) T.t_api_Program) ∈ (b13, iO i) :: (b2, cel (p.cells v) T.t_api_Program) :: H := .tail _ (.head _)
  have hX : ∀ x, x ∈ X → x ∈ (b13, iO i) :: (b2, cel (p.cells v) T.t_api_Program) :: H := fun x hx => .tail _ (.tail _ (hX x hx))
  generalize (b13, iO i) :: (b2, cel (p.cells v) T.t_api_Program) :: H = G at *
  unfold fineI fineL at k
  simp only [List.all_cons, List.all_nil, Bool.and_true, id] at k
  unfold fitsI at k
  repeat (first | refine pu_not ?_ | refine pu_eql ?_ | refine pu_neq ?_ | refine pu_lss ?_ | refine pu_leq ?_ | refine pu_gtr ?_ | refine pu_geq ?_ | refine pu_add ?_ | refine pu_sub ?_ | refine pu_mul ?_ | refine pu_neg ?_ | refine fa_at ?_ | refine nl_ptr ?_ | refine ex20 ?_ | refine ex21 ?_ | refine ex30 ?_ | refine ex31 ?_ | refine ex32 ?_ | refine ln_rule ?_ | refine lnT_rule ?_ | refine pu_and ?_ | refine pu_or ?_ | refine pu_xor ?_ | refine pu_seq ?_ | refine pu_sne ?_)
  refine ld_here h3 m13 (v := vI i.op) rfl ?_
  refine ⟨fun w => Ow B w G, h3.drew, ?_⟩
  refine ldsn_here (fun w h => h) m13 (vs := i.cells) rfl rfl ?_
  refine right08_spec hu h3.drew (fun w4 h4 => ⟨h4, ?_⟩)
  repeat (first | refine pu_not ?_ | refine pu_eql ?_ | refine pu_neq ?_ | refine pu_lss ?_ | refine pu_leq ?_ | refine pu_gtr ?_ | refine pu_geq ?_ | refine pu_add ?_ | refine pu_sub ?_ | refine pu_mul ?_ | refine pu_neg ?_ | refine fa_at ?_ | refine nl_ptr ?_ | refine ex20 ?_ | refine ex21 ?_ | refine ex30 ?_ | refine ex31 ?_ | refine ex32 ?_ | refine ln_rule ?_ | refine lnT_rule ?_ | refine pu_and ?_ | refine pu_or ?_ | refine pu_xor ?_ | refine pu_seq ?_ | refine pu_sne ?_)
  refine cnd (fun ho => ?_) (fun ho => ?_)
  · have ho : okI i = false := by simpa using ho
    rw [ho, Bool.false_and, Bool.false_and] at k
    exact k _ h4
  have ho : okI i = true := by simpa using ho
  rw [ho, Bool.true_and] at k
  refine ldsn_here (fun w h => h) m13 (vs := i.cells) rfl rfl ?_
  repeat (first | refine pu_not ?_ | refine pu_eql ?_ | refine pu_neq ?_ | refine pu_lss ?_ | refine pu_leq ?_ | refine pu_gtr ?_ | refine pu_geq ?_ | refine pu_add ?_ | refine pu_sub ?_ | refine pu_mul ?_ | refine pu_neg ?_ | refine fa_at ?_ | refine nl_ptr ?_ | refine ex20 ?_ | refine ex21 ?_ | refine ex30 ?_ | refine ex31 ?_ | refine ex32 ?_ | refine ln_rule ?_ | refine lnT_rule ?_ | refine pu_and ?_ | refine pu_or ?_ | refine pu_xor ?_ | refine pu_seq ?_ | refine pu_sne ?_)
  refine lds_here (fun w h => h) m2 (v := v) rfl ?_
  refine sls_flds (fun w h => h) (f2.mono hX) (by omega) f3 (j := 0) (v := vI f.regs) rfl ?_
  refine regs08_spec hu h4 (fun w5 h5 => ⟨h5, ?_⟩)
  repeat (first | refine pu_not ?_ | refine pu_eql ?_ | refine pu_neq ?_ | refine pu_lss ?_ | refine pu_leq ?_ | refine pu_gtr ?_ | refine pu_geq ?_ | refine pu_add ?_ | refine pu_sub ?_ | refine pu_mul ?_ | refine pu_neg ?_ | refine fa_at ?_ | refine nl_ptr ?_ | refine ex20 ?_ | refine ex21 ?_ | refine ex30 ?_ | refine ex31 ?_ | refine ex32 ?_ | refine ln_rule ?_ | refine lnT_rule ?_ | refine pu_and ?_ | refine pu_or ?_ | refine pu_xor ?_ | refine pu_seq ?_ | refine pu_sne ?_)
  refine cnd (fun hr => ?_) (fun hr => ?_)
  · have hr : ¬ regsI i ≤ f.regs := by simpa using hr
    rw [decide_eq_false hr, Bool.false_and] at k
    exact k _ h5
  have hr : regsI i ≤ f.regs := by simpa using hr
  rw [decide_eq_true hr, Bool.true_and] at k
  have gc : ∀ {X : Value → Prop}, X (vI i.imm) → pu PG (convert T.t_uint32 T.t_int (vU' i.imm)) X := fun k => cvt (by kernel_rfl) und_int (m := i.imm) (by rw [wrap64_in (by omega) (by omega)]) k
  have ecode : ∀ {X : Value → Prop}, X (vI (f.code.length : Nat)) → lnS cc X := fun k => sls_ln f4 (by rw [icode_len]; exact k)
  repeat (first | refine pu_not ?_ | refine pu_eql ?_ | refine pu_neq ?_ | refine pu_lss ?_ | refine pu_leq ?_ | refine pu_gtr ?_ | refine pu_geq ?_ | refine pu_add ?_ | refine pu_sub ?_ | refine pu_mul ?_ | refine pu_neg ?_ | refine fa_at ?_ | refine nl_ptr ?_ | refine ex20 ?_ | refine ex21 ?_ | refine ex30 ?_ | refine ex31 ?_ | refine ex32 ?_ | refine ln_rule ?_ | refine lnT_rule ?_ | refine pu_and ?_ | refine pu_or ?_ | refine pu_xor ?_ | refine pu_seq ?_ | refine pu_sne ?_)
  refine cnd (fun h4' => ?_) (fun h4' => ?_)
  · have h4' : i.op = 4 := by simpa using h4'
    repeat (first | refine pu_not ?_ | refine pu_eql ?_ | refine pu_neq ?_ | refine pu_lss ?_ | refine pu_leq ?_ | refine pu_gtr ?_ | refine pu_geq ?_ | refine pu_add ?_ | refine pu_sub ?_ | refine pu_mul ?_ | refine pu_neg ?_ | refine fa_at ?_ | refine nl_ptr ?_ | refine ex20 ?_ | refine ex21 ?_ | refine ex30 ?_ | refine ex31 ?_ | refine ex32 ?_ | refine ln_rule ?_ | refine lnT_rule ?_ | refine pu_and ?_ | refine pu_or ?_ | refine pu_xor ?_ | refine pu_seq ?_ | refine pu_sne ?_)
    refine ld_here h5 m13 (v := vU' i.imm) rfl ?_
    refine gc ?_
    refine ecode ?_
    repeat (first | refine pu_not ?_ | refine pu_eql ?_ | refine pu_neq ?_ | refine pu_lss ?_ | refine pu_leq ?_ | refine pu_gtr ?_ | refine pu_geq ?_ | refine pu_add ?_ | refine pu_sub ?_ | refine pu_mul ?_ | refine pu_neg ?_ | refine fa_at ?_ | refine nl_ptr ?_ | refine ex20 ?_ | refine ex21 ?_ | refine ex30 ?_ | refine ex31 ?_ | refine ex32 ?_ | refine ln_rule ?_ | refine lnT_rule ?_ | refine pu_and ?_ | refine pu_or ?_ | refine pu_xor ?_ | refine pu_seq ?_ | refine pu_sne ?_)
    refine cnd (fun hj => ?_) (fun hj => ?_)
    · have hj : (f.code.length : Int) ≤ i.imm := by simpa using hj
      have : jumpsI f i = false := by
        unfold jumpsI
        exact decide_eq_false (by omega)
      rw [this, Bool.false_and] at k
      exact k _ h5
    have hj : i.imm < f.code.length := by simpa using hj
    have : jumpsI f i = true := by
      unfold jumpsI
      exact decide_eq_true (.inr hj)
    rw [this, Bool.true_and] at k
    have hC := h5
    unfold linesmanref09_fine.k0
    refine ⟨fun w => Ow B w G, hC.drew, ?_⟩
    have hE := hC.drew
    repeat (first | refine pu_not ?_ | refine pu_eql ?_ | refine pu_neq ?_ | refine pu_lss ?_ | refine pu_leq ?_ | refine pu_gtr ?_ | refine pu_geq ?_ | refine pu_add ?_ | refine pu_sub ?_ | refine pu_mul ?_ | refine pu_neg ?_ | refine fa_at ?_ | refine nl_ptr ?_ | refine ex20 ?_ | refine ex21 ?_ | refine ex30 ?_ | refine ex31 ?_ | refine ex32 ?_ | refine ln_rule ?_ | refine lnT_rule ?_ | refine pu_and ?_ | refine pu_or ?_ | refine pu_xor ?_ | refine pu_seq ?_ | refine pu_sne ?_)
    refine cnd (fun h8 => ?_) (fun h8 => ?_)
    · have h8 : i.op = 8 := by simpa using h8
      repeat (first | refine pu_not ?_ | refine pu_eql ?_ | refine pu_neq ?_ | refine pu_lss ?_ | refine pu_leq ?_ | refine pu_gtr ?_ | refine pu_geq ?_ | refine pu_add ?_ | refine pu_sub ?_ | refine pu_mul ?_ | refine pu_neg ?_ | refine fa_at ?_ | refine nl_ptr ?_ | refine ex20 ?_ | refine ex21 ?_ | refine ex30 ?_ | refine ex31 ?_ | refine ex32 ?_ | refine ln_rule ?_ | refine lnT_rule ?_ | refine pu_and ?_ | refine pu_or ?_ | refine pu_xor ?_ | refine pu_seq ?_ | refine pu_sne ?_)
      refine lds_here (fun w h => h) m13 (v := vU' i.imm) rfl ?_
      refine gc ?_
      repeat (first | refine pu_not ?_ | refine pu_eql ?_ | refine pu_neq ?_ | refine pu_lss ?_ | refine pu_leq ?_ | refine pu_gtr ?_ | refine pu_geq ?_ | refine pu_add ?_ | refine pu_sub ?_ | refine pu_mul ?_ | refine pu_neg ?_ | refine fa_at ?_ | refine nl_ptr ?_ | refine ex20 ?_ | refine ex21 ?_ | refine ex30 ?_ | refine ex31 ?_ | refine ex32 ?_ | refine ln_rule ?_ | refine lnT_rule ?_ | refine pu_and ?_ | refine pu_or ?_ | refine pu_xor ?_ | refine pu_seq ?_ | refine pu_sne ?_)
      refine lds_here (fun w h => h) m2 (v := v) rfl ?_
      refine hv.ln ?_
      repeat (first | refine pu_not ?_ | refine pu_eql ?_ | refine pu_neq ?_ | refine pu_lss ?_ | refine pu_leq ?_ | refine pu_gtr ?_ | refine pu_geq ?_ | refine pu_add ?_ | refine pu_sub ?_ | refine pu_mul ?_ | refine pu_neg ?_ | refine fa_at ?_ | refine nl_ptr ?_ | refine ex20 ?_ | refine ex21 ?_ | refine ex30 ?_ | refine ex31 ?_ | refine ex32 ?_ | refine ln_rule ?_ | refine lnT_rule ?_ | refine pu_and ?_ | refine pu_or ?_ | refine pu_xor ?_ | refine pu_seq ?_ | refine pu_sne ?_)
      refine cnd (fun hg => ?_) (fun hg => ?_)
      · have hg : (p.fs.length : Int) ≤ i.imm := by simpa using hg
        have : p.fs[i.imm.toNat]? = none := List.getElem?_eq_none (by omega)
        unfold callsI at k
        rw [decide_eq_false (by omega), Bool.false_or] at k
        simp only [this, Bool.false_and] at k
        exact k _ hE
      have hg : i.imm < p.fs.length := by simpa using hg
      obtain ⟨qs, cg, fg, g1, g2, g3, g4, g5⟩ := hv.at (n := i.imm) hu.1 hg
      unfold callsI at k
      rw [decide_eq_false (by omega), Bool.false_or] at k
      simp only [g1] at k
      repeat (first | refine pu_not ?_ | refine pu_eql ?_ | refine pu_neq ?_ | refine pu_lss ?_ | refine pu_leq ?_ | refine pu_gtr ?_ | refine pu_geq ?_ | refine pu_add ?_ | refine pu_sub ?_ | refine pu_mul ?_ | refine pu_neg ?_ | refine fa_at ?_ | refine nl_ptr ?_ | refine ex20 ?_ | refine ex21 ?_ | refine ex30 ?_ | refine ex31 ?_ | refine ex32 ?_ | refine ln_rule ?_ | refine lnT_rule ?_ | refine pu_and ?_ | refine pu_or ?_ | refine pu_xor ?_ | refine pu_seq ?_ | refine pu_sne ?_)
      refine lds_here (fun w h => h) m13 (v := vI i.c) rfl ?_
      repeat (first | refine pu_not ?_ | refine pu_eql ?_ | refine pu_neq ?_ | refine pu_lss ?_ | refine pu_leq ?_ | refine pu_gtr ?_ | refine pu_geq ?_ | refine pu_add ?_ | refine pu_sub ?_ | refine pu_mul ?_ | refine pu_neg ?_ | refine fa_at ?_ | refine nl_ptr ?_ | refine ex20 ?_ | refine ex21 ?_ | refine ex30 ?_ | refine ex31 ?_ | refine ex32 ?_ | refine ln_rule ?_ | refine lnT_rule ?_ | refine pu_and ?_ | refine pu_or ?_ | refine pu_xor ?_ | refine pu_seq ?_ | refine pu_sne ?_)
      refine lds_here (fun w h => h) m2 (v := v) rfl ?_
      repeat (first | refine pu_not ?_ | refine pu_eql ?_ | refine pu_neq ?_ | refine pu_lss ?_ | refine pu_leq ?_ | refine pu_gtr ?_ | refine pu_geq ?_ | refine pu_add ?_ | refine pu_sub ?_ | refine pu_mul ?_ | refine pu_neg ?_ | refine fa_at ?_ | refine nl_ptr ?_ | refine ex20 ?_ | refine ex21 ?_ | refine ex30 ?_ | refine ex31 ?_ | refine ex32 ?_ | refine ln_rule ?_ | refine lnT_rule ?_ | refine pu_and ?_ | refine pu_or ?_ | refine pu_xor ?_ | refine pu_seq ?_ | refine pu_sne ?_)
      refine lds_here (fun w h => h) m13 (v := vU' i.imm) rfl ?_
      refine gc ?_
      refine sls_flds (fun w h => h) (g2.mono hX) hu.1 g3 (j := 0) (v := vI fg.regs) rfl ?_
      repeat (first | refine pu_not ?_ | refine pu_eql ?_ | refine pu_neq ?_ | refine pu_lss ?_ | refine pu_leq ?_ | refine pu_gtr ?_ | refine pu_geq ?_ | refine pu_add ?_ | refine pu_sub ?_ | refine pu_mul ?_ | refine pu_neg ?_ | refine fa_at ?_ | refine nl_ptr ?_ | refine ex20 ?_ | refine ex21 ?_ | refine ex30 ?_ | refine ex31 ?_ | refine ex32 ?_ | refine ln_rule ?_ | refine lnT_rule ?_ | refine pu_and ?_ | refine pu_or ?_ | refine pu_xor ?_ | refine pu_seq ?_ | refine pu_sne ?_)
      refine cnd (fun hg2 => ?_) (fun hg2 => ?_)
      · have hg2 : ¬ i.c ≤ fg.regs := by simpa using hg2
        rw [decide_eq_false hg2, Bool.false_and] at k
        exact k _ hE
      have hg2 : i.c ≤ fg.regs := by simpa using hg2
      rw [decide_eq_true hg2, Bool.true_and] at k
      refine ecode ?_
      repeat (first | refine pu_not ?_ | refine pu_eql ?_ | refine pu_neq ?_ | refine pu_lss ?_ | refine pu_leq ?_ | refine pu_gtr ?_ | refine pu_geq ?_ | refine pu_add ?_ | refine pu_sub ?_ | refine pu_mul ?_ | refine pu_neg ?_ | refine fa_at ?_ | refine nl_ptr ?_ | refine ex20 ?_ | refine ex21 ?_ | refine ex30 ?_ | refine ex31 ?_ | refine ex32 ?_ | refine ln_rule ?_ | refine lnT_rule ?_ | refine pu_and ?_ | refine pu_or ?_ | refine pu_xor ?_ | refine pu_seq ?_ | refine pu_sne ?_)
      rw [wrap64_in (by omega) (by omega)]
      refine cnd (fun hl => ?_) (fun hl => ?_)
      · have hl : (m : Int) < f.code.length - 1 := by simpa using hl
        unfold endsI at k
        rw [decide_eq_true (by omega), Bool.true_or] at k
        exact k _ hE
      · have hl : ¬ (m : Int) < f.code.length - 1 := by simpa using hl
        unfold endsI at k
        rw [decide_eq_false (by omega), Bool.false_or] at k
        refine ldn_here hE m13 (vs := i.cells) rfl rfl ?_
        exact leaves08_spec hu hE k
    have h8 : ¬ i.op = 8 := by simpa using h8
    repeat (first | refine pu_not ?_ | refine pu_eql ?_ | refine pu_neq ?_ | refine pu_lss ?_ | refine pu_leq ?_ | refine pu_gtr ?_ | refine pu_geq ?_ | refine pu_add ?_ | refine pu_sub ?_ | refine pu_mul ?_ | refine pu_neg ?_ | refine fa_at ?_ | refine nl_ptr ?_ | refine ex20 ?_ | refine ex21 ?_ | refine ex30 ?_ | refine ex31 ?_ | refine ex32 ?_ | refine ln_rule ?_ | refine lnT_rule ?_ | refine pu_and ?_ | refine pu_or ?_ | refine pu_xor ?_ | refine pu_seq ?_ | refine pu_sne ?_)
    refine cnd (fun h10 => ?_) (fun h10 => ?_)
    · have h10 : i.op = 10 := by simpa using h10
      repeat (first | refine pu_not ?_ | refine pu_eql ?_ | refine pu_neq ?_ | refine pu_lss ?_ | refine pu_leq ?_ | refine pu_gtr ?_ | refine pu_geq ?_ | refine pu_add ?_ | refine pu_sub ?_ | refine pu_mul ?_ | refine pu_neg ?_ | refine fa_at ?_ | refine nl_ptr ?_ | refine ex20 ?_ | refine ex21 ?_ | refine ex30 ?_ | refine ex31 ?_ | refine ex32 ?_ | refine ln_rule ?_ | refine lnT_rule ?_ | refine pu_and ?_ | refine pu_or ?_ | refine pu_xor ?_ | refine pu_seq ?_ | refine pu_sne ?_)
      refine lds_here (fun w h => h) m13 (v := vU' i.imm) rfl ?_
      refine gc ?_
      repeat (first | refine pu_not ?_ | refine pu_eql ?_ | refine pu_neq ?_ | refine pu_lss ?_ | refine pu_leq ?_ | refine pu_gtr ?_ | refine pu_geq ?_ | refine pu_add ?_ | refine pu_sub ?_ | refine pu_mul ?_ | refine pu_neg ?_ | refine fa_at ?_ | refine nl_ptr ?_ | refine ex20 ?_ | refine ex21 ?_ | refine ex30 ?_ | refine ex31 ?_ | refine ex32 ?_ | refine ln_rule ?_ | refine lnT_rule ?_ | refine pu_and ?_ | refine pu_or ?_ | refine pu_xor ?_ | refine pu_seq ?_ | refine pu_sne ?_)
      refine lds_here (fun w h => h) m2 (v := v) rfl ?_
      refine hv.ln ?_
      repeat (first | refine pu_not ?_ | refine pu_eql ?_ | refine pu_neq ?_ | refine pu_lss ?_ | refine pu_leq ?_ | refine pu_gtr ?_ | refine pu_geq ?_ | refine pu_add ?_ | refine pu_sub ?_ | refine pu_mul ?_ | refine pu_neg ?_ | refine fa_at ?_ | refine nl_ptr ?_ | refine ex20 ?_ | refine ex21 ?_ | refine ex30 ?_ | refine ex31 ?_ | refine ex32 ?_ | refine ln_rule ?_ | refine lnT_rule ?_ | refine pu_and ?_ | refine pu_or ?_ | refine pu_xor ?_ | refine pu_seq ?_ | refine pu_sne ?_)
      refine cnd (fun hg => ?_) (fun hg => ?_)
      · have hg : (p.fs.length : Int) ≤ i.imm := by simpa using hg
        have : p.fs[i.imm.toNat]? = none := List.getElem?_eq_none (by omega)
        unfold callsI at k
        rw [decide_eq_false (by omega), Bool.false_or] at k
        simp only [this, Bool.false_and] at k
        exact k _ hE
      have hg : i.imm < p.fs.length := by simpa using hg
      obtain ⟨qs, cg, fg, g1, g2, g3, g4, g5⟩ := hv.at (n := i.imm) hu.1 hg
      unfold callsI at k
      rw [decide_eq_false (by omega), Bool.false_or] at k
      simp only [g1] at k
      repeat (first | refine pu_not ?_ | refine pu_eql ?_ | refine pu_neq ?_ | refine pu_lss ?_ | refine pu_leq ?_ | refine pu_gtr ?_ | refine pu_geq ?_ | refine pu_add ?_ | refine pu_sub ?_ | refine pu_mul ?_ | refine pu_neg ?_ | refine fa_at ?_ | refine nl_ptr ?_ | refine ex20 ?_ | refine ex21 ?_ | refine ex30 ?_ | refine ex31 ?_ | refine ex32 ?_ | refine ln_rule ?_ | refine lnT_rule ?_ | refine pu_and ?_ | refine pu_or ?_ | refine pu_xor ?_ | refine pu_seq ?_ | refine pu_sne ?_)
      refine lds_here (fun w h => h) m13 (v := vI i.c) rfl ?_
      repeat (first | refine pu_not ?_ | refine pu_eql ?_ | refine pu_neq ?_ | refine pu_lss ?_ | refine pu_leq ?_ | refine pu_gtr ?_ | refine pu_geq ?_ | refine pu_add ?_ | refine pu_sub ?_ | refine pu_mul ?_ | refine pu_neg ?_ | refine fa_at ?_ | refine nl_ptr ?_ | refine ex20 ?_ | refine ex21 ?_ | refine ex30 ?_ | refine ex31 ?_ | refine ex32 ?_ | refine ln_rule ?_ | refine lnT_rule ?_ | refine pu_and ?_ | refine pu_or ?_ | refine pu_xor ?_ | refine pu_seq ?_ | refine pu_sne ?_)
      refine lds_here (fun w h => h) m2 (v := v) rfl ?_
      repeat (first | refine pu_not ?_ | refine pu_eql ?_ | refine pu_neq ?_ | refine pu_lss ?_ | refine pu_leq ?_ | refine pu_gtr ?_ | refine pu_geq ?_ | refine pu_add ?_ | refine pu_sub ?_ | refine pu_mul ?_ | refine pu_neg ?_ | refine fa_at ?_ | refine nl_ptr ?_ | refine ex20 ?_ | refine ex21 ?_ | refine ex30 ?_ | refine ex31 ?_ | refine ex32 ?_ | refine ln_rule ?_ | refine lnT_rule ?_ | refine pu_and ?_ | refine pu_or ?_ | refine pu_xor ?_ | refine pu_seq ?_ | refine pu_sne ?_)
      refine lds_here (fun w h => h) m13 (v := vU' i.imm) rfl ?_
      refine gc ?_
      refine sls_flds (fun w h => h) (g2.mono hX) hu.1 g3 (j := 0) (v := vI fg.regs) rfl ?_
      repeat (first | refine pu_not ?_ | refine pu_eql ?_ | refine pu_neq ?_ | refine pu_lss ?_ | refine pu_leq ?_ | refine pu_gtr ?_ | refine pu_geq ?_ | refine pu_add ?_ | refine pu_sub ?_ | refine pu_mul ?_ | refine pu_neg ?_ | refine fa_at ?_ | refine nl_ptr ?_ | refine ex20 ?_ | refine ex21 ?_ | refine ex30 ?_ | refine ex31 ?_ | refine ex32 ?_ | refine ln_rule ?_ | refine lnT_rule ?_ | refine pu_and ?_ | refine pu_or ?_ | refine pu_xor ?_ | refine pu_seq ?_ | refine pu_sne ?_)
      refine cnd (fun hg2 => ?_) (fun hg2 => ?_)
      · have hg2 : ¬ i.c ≤ fg.regs := by simpa using hg2
        rw [decide_eq_false hg2, Bool.false_and] at k
        exact k _ hE
      have hg2 : i.c ≤ fg.regs := by simpa using hg2
      rw [decide_eq_true hg2, Bool.true_and] at k
      refine ecode ?_
      repeat (first | refine pu_not ?_ | refine pu_eql ?_ | refine pu_neq ?_ | refine pu_lss ?_ | refine pu_leq ?_ | refine pu_gtr ?_ | refine pu_geq ?_ | refine pu_add ?_ | refine pu_sub ?_ | refine pu_mul ?_ | refine pu_neg ?_ | refine fa_at ?_ | refine nl_ptr ?_ | refine ex20 ?_ | refine ex21 ?_ | refine ex30 ?_ | refine ex31 ?_ | refine ex32 ?_ | refine ln_rule ?_ | refine lnT_rule ?_ | refine pu_and ?_ | refine pu_or ?_ | refine pu_xor ?_ | refine pu_seq ?_ | refine pu_sne ?_)
      rw [wrap64_in (by omega) (by omega)]
      refine cnd (fun hl => ?_) (fun hl => ?_)
      · have hl : (m : Int) < f.code.length - 1 := by simpa using hl
        unfold endsI at k
        rw [decide_eq_true (by omega), Bool.true_or] at k
        exact k _ hE
      · have hl : ¬ (m : Int) < f.code.length - 1 := by simpa using hl
        unfold endsI at k
        rw [decide_eq_false (by omega), Bool.false_or] at k
        refine ldn_here hE m13 (vs := i.cells) rfl rfl ?_
        exact leaves08_spec hu hE k
    have h10 : ¬ i.op = 10 := by simpa using h10
    have : callsI p.fs i = true := by
      unfold callsI
      rw [decide_eq_true ⟨h8, h10⟩]; rfl
    rw [this, Bool.true_and] at k
    refine ecode ?_
    repeat (first | refine pu_not ?_ | refine pu_eql ?_ | refine pu_neq ?_ | refine pu_lss ?_ | refine pu_leq ?_ | refine pu_gtr ?_ | refine pu_geq ?_ | refine pu_add ?_ | refine pu_sub ?_ | refine pu_mul ?_ | refine pu_neg ?_ | refine fa_at ?_ | refine nl_ptr ?_ | refine ex20 ?_ | refine ex21 ?_ | refine ex30 ?_ | refine ex31 ?_ | refine ex32 ?_ | refine ln_rule ?_ | refine lnT_rule ?_ | refine pu_and ?_ | refine pu_or ?_ | refine pu_xor ?_ | refine pu_seq ?_ | refine pu_sne ?_)
    rw [wrap64_in (by omega) (by omega)]
    refine cnd (fun hl => ?_) (fun hl => ?_)
    · have hl : (m : Int) < f.code.length - 1 := by simpa using hl
      unfold endsI at k
      rw [decide_eq_true (by omega), Bool.true_or] at k
      exact k _ hE
    · have hl : ¬ (m : Int) < f.code.length - 1 := by simpa using hl
      unfold endsI at k
      rw [decide_eq_false (by omega), Bool.false_or] at k
      refine ldn_here hE m13 (vs := i.cells) rfl rfl ?_
      exact leaves08_spec hu hE k
  have h4' : ¬ i.op = 4 := by simpa using h4'
  repeat (first | refine pu_not ?_ | refine pu_eql ?_ | refine pu_neq ?_ | refine pu_lss ?_ | refine pu_leq ?_ | refine pu_gtr ?_ | refine pu_geq ?_ | refine pu_add ?_ | refine pu_sub ?_ | refine pu_mul ?_ | refine pu_neg ?_ | refine fa_at ?_ | refine nl_ptr ?_ | refine ex20 ?_ | refine ex21 ?_ | refine ex30 ?_ | refine ex31 ?_ | refine ex32 ?_ | refine ln_rule ?_ | refine lnT_rule ?_ | refine pu_and ?_ | refine pu_or ?_ | refine pu_xor ?_ | refine pu_seq ?_ | refine pu_sne ?_)
  refine cnd (fun h5' => ?_) (fun h5' => ?_)
  · have h5' : i.op = 5 := by simpa using h5'
    repeat (first | refine pu_not ?_ | refine pu_eql ?_ | refine pu_neq ?_ | refine pu_lss ?_ | refine pu_leq ?_ | refine pu_gtr ?_ | refine pu_geq ?_ | refine pu_add ?_ | refine pu_sub ?_ | refine pu_mul ?_ | refine pu_neg ?_ | refine fa_at ?_ | refine nl_ptr ?_ | refine ex20 ?_ | refine ex21 ?_ | refine ex30 ?_ | refine ex31 ?_ | refine ex32 ?_ | refine ln_rule ?_ | refine lnT_rule ?_ | refine pu_and ?_ | refine pu_or ?_ | refine pu_xor ?_ | refine pu_seq ?_ | refine pu_sne ?_)
    refine ld_here h5 m13 (v := vU' i.imm) rfl ?_
    refine gc ?_
    refine ecode ?_
    repeat (first | refine pu_not ?_ | refine pu_eql ?_ | refine pu_neq ?_ | refine pu_lss ?_ | refine pu_leq ?_ | refine pu_gtr ?_ | refine pu_geq ?_ | refine pu_add ?_ | refine pu_sub ?_ | refine pu_mul ?_ | refine pu_neg ?_ | refine fa_at ?_ | refine nl_ptr ?_ | refine ex20 ?_ | refine ex21 ?_ | refine ex30 ?_ | refine ex31 ?_ | refine ex32 ?_ | refine ln_rule ?_ | refine lnT_rule ?_ | refine pu_and ?_ | refine pu_or ?_ | refine pu_xor ?_ | refine pu_seq ?_ | refine pu_sne ?_)
    refine cnd (fun hj => ?_) (fun hj => ?_)
    · have hj : (f.code.length : Int) ≤ i.imm := by simpa using hj
      have : jumpsI f i = false := by
        unfold jumpsI
        exact decide_eq_false (by omega)
      rw [this, Bool.false_and] at k
      exact k _ h5
    have hj : i.imm < f.code.length := by simpa using hj
    have : jumpsI f i = true := by
      unfold jumpsI
      exact decide_eq_true (.inr hj)
    rw [this, Bool.true_and] at k
    have hC := h5
    unfold linesmanref09_fine.k0
    refine ⟨fun w => Ow B w G, hC.drew, ?_⟩
    have hE := hC.drew
    repeat (first | refine pu_not ?_ | refine pu_eql ?_ | refine pu_neq ?_ | refine pu_lss ?_ | refine pu_leq ?_ | refine pu_gtr ?_ | refine pu_geq ?_ | refine pu_add ?_ | refine pu_sub ?_ | refine pu_mul ?_ | refine pu_neg ?_ | refine fa_at ?_ | refine nl_ptr ?_ | refine ex20 ?_ | refine ex21 ?_ | refine ex30 ?_ | refine ex31 ?_ | refine ex32 ?_ | refine ln_rule ?_ | refine lnT_rule ?_ | refine pu_and ?_ | refine pu_or ?_ | refine pu_xor ?_ | refine pu_seq ?_ | refine pu_sne ?_)
    refine cnd (fun h8 => ?_) (fun h8 => ?_)
    · have h8 : i.op = 8 := by simpa using h8
      repeat (first | refine pu_not ?_ | refine pu_eql ?_ | refine pu_neq ?_ | refine pu_lss ?_ | refine pu_leq ?_ | refine pu_gtr ?_ | refine pu_geq ?_ | refine pu_add ?_ | refine pu_sub ?_ | refine pu_mul ?_ | refine pu_neg ?_ | refine fa_at ?_ | refine nl_ptr ?_ | refine ex20 ?_ | refine ex21 ?_ | refine ex30 ?_ | refine ex31 ?_ | refine ex32 ?_ | refine ln_rule ?_ | refine lnT_rule ?_ | refine pu_and ?_ | refine pu_or ?_ | refine pu_xor ?_ | refine pu_seq ?_ | refine pu_sne ?_)
      refine lds_here (fun w h => h) m13 (v := vU' i.imm) rfl ?_
      refine gc ?_
      repeat (first | refine pu_not ?_ | refine pu_eql ?_ | refine pu_neq ?_ | refine pu_lss ?_ | refine pu_leq ?_ | refine pu_gtr ?_ | refine pu_geq ?_ | refine pu_add ?_ | refine pu_sub ?_ | refine pu_mul ?_ | refine pu_neg ?_ | refine fa_at ?_ | refine nl_ptr ?_ | refine ex20 ?_ | refine ex21 ?_ | refine ex30 ?_ | refine ex31 ?_ | refine ex32 ?_ | refine ln_rule ?_ | refine lnT_rule ?_ | refine pu_and ?_ | refine pu_or ?_ | refine pu_xor ?_ | refine pu_seq ?_ | refine pu_sne ?_)
      refine lds_here (fun w h => h) m2 (v := v) rfl ?_
      refine hv.ln ?_
      repeat (first | refine pu_not ?_ | refine pu_eql ?_ | refine pu_neq ?_ | refine pu_lss ?_ | refine pu_leq ?_ | refine pu_gtr ?_ | refine pu_geq ?_ | refine pu_add ?_ | refine pu_sub ?_ | refine pu_mul ?_ | refine pu_neg ?_ | refine fa_at ?_ | refine nl_ptr ?_ | refine ex20 ?_ | refine ex21 ?_ | refine ex30 ?_ | refine ex31 ?_ | refine ex32 ?_ | refine ln_rule ?_ | refine lnT_rule ?_ | refine pu_and ?_ | refine pu_or ?_ | refine pu_xor ?_ | refine pu_seq ?_ | refine pu_sne ?_)
      refine cnd (fun hg => ?_) (fun hg => ?_)
      · have hg : (p.fs.length : Int) ≤ i.imm := by simpa using hg
        have : p.fs[i.imm.toNat]? = none := List.getElem?_eq_none (by omega)
        unfold callsI at k
        rw [decide_eq_false (by omega), Bool.false_or] at k
        simp only [this, Bool.false_and] at k
        exact k _ hE
      have hg : i.imm < p.fs.length := by simpa using hg
      obtain ⟨qs, cg, fg, g1, g2, g3, g4, g5⟩ := hv.at (n := i.imm) hu.1 hg
      unfold callsI at k
      rw [decide_eq_false (by omega), Bool.false_or] at k
      simp only [g1] at k
      repeat (first | refine pu_not ?_ | refine pu_eql ?_ | refine pu_neq ?_ | refine pu_lss ?_ | refine pu_leq ?_ | refine pu_gtr ?_ | refine pu_geq ?_ | refine pu_add ?_ | refine pu_sub ?_ | refine pu_mul ?_ | refine pu_neg ?_ | refine fa_at ?_ | refine nl_ptr ?_ | refine ex20 ?_ | refine ex21 ?_ | refine ex30 ?_ | refine ex31 ?_ | refine ex32 ?_ | refine ln_rule ?_ | refine lnT_rule ?_ | refine pu_and ?_ | refine pu_or ?_ | refine pu_xor ?_ | refine pu_seq ?_ | refine pu_sne ?_)
      refine lds_here (fun w h => h) m13 (v := vI i.c) rfl ?_
      repeat (first | refine pu_not ?_ | refine pu_eql ?_ | refine pu_neq ?_ | refine pu_lss ?_ | refine pu_leq ?_ | refine pu_gtr ?_ | refine pu_geq ?_ | refine pu_add ?_ | refine pu_sub ?_ | refine pu_mul ?_ | refine pu_neg ?_ | refine fa_at ?_ | refine nl_ptr ?_ | refine ex20 ?_ | refine ex21 ?_ | refine ex30 ?_ | refine ex31 ?_ | refine ex32 ?_ | refine ln_rule ?_ | refine lnT_rule ?_ | refine pu_and ?_ | refine pu_or ?_ | refine pu_xor ?_ | refine pu_seq ?_ | refine pu_sne ?_)
      refine lds_here (fun w h => h) m2 (v := v) rfl ?_
      repeat (first | refine pu_not ?_ | refine pu_eql ?_ | refine pu_neq ?_ | refine pu_lss ?_ | refine pu_leq ?_ | refine pu_gtr ?_ | refine pu_geq ?_ | refine pu_add ?_ | refine pu_sub ?_ | refine pu_mul ?_ | refine pu_neg ?_ | refine fa_at ?_ | refine nl_ptr ?_ | refine ex20 ?_ | refine ex21 ?_ | refine ex30 ?_ | refine ex31 ?_ | refine ex32 ?_ | refine ln_rule ?_ | refine lnT_rule ?_ | refine pu_and ?_ | refine pu_or ?_ | refine pu_xor ?_ | refine pu_seq ?_ | refine pu_sne ?_)
      refine lds_here (fun w h => h) m13 (v := vU' i.imm) rfl ?_
      refine gc ?_
      refine sls_flds (fun w h => h) (g2.mono hX) hu.1 g3 (j := 0) (v := vI fg.regs) rfl ?_
      repeat (first | refine pu_not ?_ | refine pu_eql ?_ | refine pu_neq ?_ | refine pu_lss ?_ | refine pu_leq ?_ | refine pu_gtr ?_ | refine pu_geq ?_ | refine pu_add ?_ | refine pu_sub ?_ | refine pu_mul ?_ | refine pu_neg ?_ | refine fa_at ?_ | refine nl_ptr ?_ | refine ex20 ?_ | refine ex21 ?_ | refine ex30 ?_ | refine ex31 ?_ | refine ex32 ?_ | refine ln_rule ?_ | refine lnT_rule ?_ | refine pu_and ?_ | refine pu_or ?_ | refine pu_xor ?_ | refine pu_seq ?_ | refine pu_sne ?_)
      refine cnd (fun hg2 => ?_) (fun hg2 => ?_)
      · have hg2 : ¬ i.c ≤ fg.regs := by simpa using hg2
        rw [decide_eq_false hg2, Bool.false_and] at k
        exact k _ hE
      have hg2 : i.c ≤ fg.regs := by simpa using hg2
      rw [decide_eq_true hg2, Bool.true_and] at k
      refine ecode ?_
      repeat (first | refine pu_not ?_ | refine pu_eql ?_ | refine pu_neq ?_ | refine pu_lss ?_ | refine pu_leq ?_ | refine pu_gtr ?_ | refine pu_geq ?_ | refine pu_add ?_ | refine pu_sub ?_ | refine pu_mul ?_ | refine pu_neg ?_ | refine fa_at ?_ | refine nl_ptr ?_ | refine ex20 ?_ | refine ex21 ?_ | refine ex30 ?_ | refine ex31 ?_ | refine ex32 ?_ | refine ln_rule ?_ | refine lnT_rule ?_ | refine pu_and ?_ | refine pu_or ?_ | refine pu_xor ?_ | refine pu_seq ?_ | refine pu_sne ?_)
      rw [wrap64_in (by omega) (by omega)]
      refine cnd (fun hl => ?_) (fun hl => ?_)
      · have hl : (m : Int) < f.code.length - 1 := by simpa using hl
        unfold endsI at k
        rw [decide_eq_true (by omega), Bool.true_or] at k
        exact k _ hE
      · have hl : ¬ (m : Int) < f.code.length - 1 := by simpa using hl
        unfold endsI at k
        rw [decide_eq_false (by omega), Bool.false_or] at k
        refine ldn_here hE m13 (vs := i.cells) rfl rfl ?_
        exact leaves08_spec hu hE k
    have h8 : ¬ i.op = 8 := by simpa using h8
    repeat (first | refine pu_not ?_ | refine pu_eql ?_ | refine pu_neq ?_ | refine pu_lss ?_ | refine pu_leq ?_ | refine pu_gtr ?_ | refine pu_geq ?_ | refine pu_add ?_ | refine pu_sub ?_ | refine pu_mul ?_ | refine pu_neg ?_ | refine fa_at ?_ | refine nl_ptr ?_ | refine ex20 ?_ | refine ex21 ?_ | refine ex30 ?_ | refine ex31 ?_ | refine ex32 ?_ | refine ln_rule ?_ | refine lnT_rule ?_ | refine pu_and ?_ | refine pu_or ?_ | refine pu_xor ?_ | refine pu_seq ?_ | refine pu_sne ?_)
    refine cnd (fun h10 => ?_) (fun h10 => ?_)
    · have h10 : i.op = 10 := by simpa using h10
      repeat (first | refine pu_not ?_ | refine pu_eql ?_ | refine pu_neq ?_ | refine pu_lss ?_ | refine pu_leq ?_ | refine pu_gtr ?_ | refine pu_geq ?_ | refine pu_add ?_ | refine pu_sub ?_ | refine pu_mul ?_ | refine pu_neg ?_ | refine fa_at ?_ | refine nl_ptr ?_ | refine ex20 ?_ | refine ex21 ?_ | refine ex30 ?_ | refine ex31 ?_ | refine ex32 ?_ | refine ln_rule ?_ | refine lnT_rule ?_ | refine pu_and ?_ | refine pu_or ?_ | refine pu_xor ?_ | refine pu_seq ?_ | refine pu_sne ?_)
      refine lds_here (fun w h => h) m13 (v := vU' i.imm) rfl ?_
      refine gc ?_
      repeat (first | refine pu_not ?_ | refine pu_eql ?_ | refine pu_neq ?_ | refine pu_lss ?_ | refine pu_leq ?_ | refine pu_gtr ?_ | refine pu_geq ?_ | refine pu_add ?_ | refine pu_sub ?_ | refine pu_mul ?_ | refine pu_neg ?_ | refine fa_at ?_ | refine nl_ptr ?_ | refine ex20 ?_ | refine ex21 ?_ | refine ex30 ?_ | refine ex31 ?_ | refine ex32 ?_ | refine ln_rule ?_ | refine lnT_rule ?_ | refine pu_and ?_ | refine pu_or ?_ | refine pu_xor ?_ | refine pu_seq ?_ | refine pu_sne ?_)
      refine lds_here (fun w h => h) m2 (v := v) rfl ?_
      refine hv.ln ?_
      repeat (first | refine pu_not ?_ | refine pu_eql ?_ | refine pu_neq ?_ | refine pu_lss ?_ | refine pu_leq ?_ | refine pu_gtr ?_ | refine pu_geq ?_ | refine pu_add ?_ | refine pu_sub ?_ | refine pu_mul ?_ | refine pu_neg ?_ | refine fa_at ?_ | refine nl_ptr ?_ | refine ex20 ?_ | refine ex21 ?_ | refine ex30 ?_ | refine ex31 ?_ | refine ex32 ?_ | refine ln_rule ?_ | refine lnT_rule ?_ | refine pu_and ?_ | refine pu_or ?_ | refine pu_xor ?_ | refine pu_seq ?_ | refine pu_sne ?_)
      refine cnd (fun hg => ?_) (fun hg => ?_)
      · have hg : (p.fs.length : Int) ≤ i.imm := by simpa using hg
        have : p.fs[i.imm.toNat]? = none := List.getElem?_eq_none (by omega)
        unfold callsI at k
        rw [decide_eq_false (by omega), Bool.false_or] at k
        simp only [this, Bool.false_and] at k
        exact k _ hE
      have hg : i.imm < p.fs.length := by simpa using hg
      obtain ⟨qs, cg, fg, g1, g2, g3, g4, g5⟩ := hv.at (n := i.imm) hu.1 hg
      unfold callsI at k
      rw [decide_eq_false (by omega), Bool.false_or] at k
      simp only [g1] at k
      repeat (first | refine pu_not ?_ | refine pu_eql ?_ | refine pu_neq ?_ | refine pu_lss ?_ | refine pu_leq ?_ | refine pu_gtr ?_ | refine pu_geq ?_ | refine pu_add ?_ | refine pu_sub ?_ | refine pu_mul ?_ | refine pu_neg ?_ | refine fa_at ?_ | refine nl_ptr ?_ | refine ex20 ?_ | refine ex21 ?_ | refine ex30 ?_ | refine ex31 ?_ | refine ex32 ?_ | refine ln_rule ?_ | refine lnT_rule ?_ | refine pu_and ?_ | refine pu_or ?_ | refine pu_xor ?_ | refine pu_seq ?_ | refine pu_sne ?_)
      refine lds_here (fun w h => h) m13 (v := vI i.c) rfl ?_
      repeat (first | refine pu_not ?_ | refine pu_eql ?_ | refine pu_neq ?_ | refine pu_lss ?_ | refine pu_leq ?_ | refine pu_gtr ?_ | refine pu_geq ?_ | refine pu_add ?_ | refine pu_sub ?_ | refine pu_mul ?_ | refine pu_neg ?_ | refine fa_at ?_ | refine nl_ptr ?_ | refine ex20 ?_ | refine ex21 ?_ | refine ex30 ?_ | refine ex31 ?_ | refine ex32 ?_ | refine ln_rule ?_ | refine lnT_rule ?_ | refine pu_and ?_ | refine pu_or ?_ | refine pu_xor ?_ | refine pu_seq ?_ | refine pu_sne ?_)
      refine lds_here (fun w h => h) m2 (v := v) rfl ?_
      repeat (first | refine pu_not ?_ | refine pu_eql ?_ | refine pu_neq ?_ | refine pu_lss ?_ | refine pu_leq ?_ | refine pu_gtr ?_ | refine pu_geq ?_ | refine pu_add ?_ | refine pu_sub ?_ | refine pu_mul ?_ | refine pu_neg ?_ | refine fa_at ?_ | refine nl_ptr ?_ | refine ex20 ?_ | refine ex21 ?_ | refine ex30 ?_ | refine ex31 ?_ | refine ex32 ?_ | refine ln_rule ?_ | refine lnT_rule ?_ | refine pu_and ?_ | refine pu_or ?_ | refine pu_xor ?_ | refine pu_seq ?_ | refine pu_sne ?_)
      refine lds_here (fun w h => h) m13 (v := vU' i.imm) rfl ?_
      refine gc ?_
      refine sls_flds (fun w h => h) (g2.mono hX) hu.1 g3 (j := 0) (v := vI fg.regs) rfl ?_
      repeat (first | refine pu_not ?_ | refine pu_eql ?_ | refine pu_neq ?_ | refine pu_lss ?_ | refine pu_leq ?_ | refine pu_gtr ?_ | refine pu_geq ?_ | refine pu_add ?_ | refine pu_sub ?_ | refine pu_mul ?_ | refine pu_neg ?_ | refine fa_at ?_ | refine nl_ptr ?_ | refine ex20 ?_ | refine ex21 ?_ | refine ex30 ?_ | refine ex31 ?_ | refine ex32 ?_ | refine ln_rule ?_ | refine lnT_rule ?_ | refine pu_and ?_ | refine pu_or ?_ | refine pu_xor ?_ | refine pu_seq ?_ | refine pu_sne ?_)
      refine cnd (fun hg2 => ?_) (fun hg2 => ?_)
      · have hg2 : ¬ i.c ≤ fg.regs := by simpa using hg2
        rw [decide_eq_false hg2, Bool.false_and] at k
        exact k _ hE
      have hg2 : i.c ≤ fg.regs := by simpa using hg2
      rw [decide_eq_true hg2, Bool.true_and] at k
      refine ecode ?_
      repeat (first | refine pu_not ?_ | refine pu_eql ?_ | refine pu_neq ?_ | refine pu_lss ?_ | refine pu_leq ?_ | refine pu_gtr ?_ | refine pu_geq ?_ | refine pu_add ?_ | refine pu_sub ?_ | refine pu_mul ?_ | refine pu_neg ?_ | refine fa_at ?_ | refine nl_ptr ?_ | refine ex20 ?_ | refine ex21 ?_ | refine ex30 ?_ | refine ex31 ?_ | refine ex32 ?_ | refine ln_rule ?_ | refine lnT_rule ?_ | refine pu_and ?_ | refine pu_or ?_ | refine pu_xor ?_ | refine pu_seq ?_ | refine pu_sne ?_)
      rw [wrap64_in (by omega) (by omega)]
      refine cnd (fun hl => ?_) (fun hl => ?_)
      · have hl : (m : Int) < f.code.length - 1 := by simpa using hl
        unfold endsI at k
        rw [decide_eq_true (by omega), Bool.true_or] at k
        exact k _ hE
      · have hl : ¬ (m : Int) < f.code.length - 1 := by simpa using hl
        unfold endsI at k
        rw [decide_eq_false (by omega), Bool.false_or] at k
        refine ldn_here hE m13 (vs := i.cells) rfl rfl ?_
        exact leaves08_spec hu hE k
    have h10 : ¬ i.op = 10 := by simpa using h10
    have : callsI p.fs i = true := by
      unfold callsI
      rw [decide_eq_true ⟨h8, h10⟩]; rfl
    rw [this, Bool.true_and] at k
    refine ecode ?_
    repeat (first | refine pu_not ?_ | refine pu_eql ?_ | refine pu_neq ?_ | refine pu_lss ?_ | refine pu_leq ?_ | refine pu_gtr ?_ | refine pu_geq ?_ | refine pu_add ?_ | refine pu_sub ?_ | refine pu_mul ?_ | refine pu_neg ?_ | refine fa_at ?_ | refine nl_ptr ?_ | refine ex20 ?_ | refine ex21 ?_ | refine ex30 ?_ | refine ex31 ?_ | refine ex32 ?_ | refine ln_rule ?_ | refine lnT_rule ?_ | refine pu_and ?_ | refine pu_or ?_ | refine pu_xor ?_ | refine pu_seq ?_ | refine pu_sne ?_)
    rw [wrap64_in (by omega) (by omega)]
    refine cnd (fun hl => ?_) (fun hl => ?_)
    · have hl : (m : Int) < f.code.length - 1 := by simpa using hl
      unfold endsI at k
      rw [decide_eq_true (by omega), Bool.true_or] at k
      exact k _ hE
    · have hl : ¬ (m : Int) < f.code.length - 1 := by simpa using hl
      unfold endsI at k
      rw [decide_eq_false (by omega), Bool.false_or] at k
      refine ldn_here hE m13 (vs := i.cells) rfl rfl ?_
      exact leaves08_spec hu hE k
  have h5' : ¬ i.op = 5 := by simpa using h5'
  have : jumpsI f i = true := by
    unfold jumpsI
    exact decide_eq_true (.inl ⟨h4', h5'⟩)
  rw [this, Bool.true_and] at k
  have hC := h5
  unfold linesmanref09_fine.k0
  refine ⟨fun w => Ow B w G, hC.drew, ?_⟩
  have hE := hC.drew
  repeat (first | refine pu_not ?_ | refine pu_eql ?_ | refine pu_neq ?_ | refine pu_lss ?_ | refine pu_leq ?_ | refine pu_gtr ?_ | refine pu_geq ?_ | refine pu_add ?_ | refine pu_sub ?_ | refine pu_mul ?_ | refine pu_neg ?_ | refine fa_at ?_ | refine nl_ptr ?_ | refine ex20 ?_ | refine ex21 ?_ | refine ex30 ?_ | refine ex31 ?_ | refine ex32 ?_ | refine ln_rule ?_ | refine lnT_rule ?_ | refine pu_and ?_ | refine pu_or ?_ | refine pu_xor ?_ | refine pu_seq ?_ | refine pu_sne ?_)
  refine cnd (fun h8 => ?_) (fun h8 => ?_)
  · have h8 : i.op = 8 := by simpa using h8
    repeat (first | refine pu_not ?_ | refine pu_eql ?_ | refine pu_neq ?_ | refine pu_lss ?_ | refine pu_leq ?_ | refine pu_gtr ?_ | refine pu_geq ?_ | refine pu_add ?_ | refine pu_sub ?_ | refine pu_mul ?_ | refine pu_neg ?_ | refine fa_at ?_ | refine nl_ptr ?_ | refine ex20 ?_ | refine ex21 ?_ | refine ex30 ?_ | refine ex31 ?_ | refine ex32 ?_ | refine ln_rule ?_ | refine lnT_rule ?_ | refine pu_and ?_ | refine pu_or ?_ | refine pu_xor ?_ | refine pu_seq ?_ | refine pu_sne ?_)
    refine lds_here (fun w h => h) m13 (v := vU' i.imm) rfl ?_
    refine gc ?_
    repeat (first | refine pu_not ?_ | refine pu_eql ?_ | refine pu_neq ?_ | refine pu_lss ?_ | refine pu_leq ?_ | refine pu_gtr ?_ | refine pu_geq ?_ | refine pu_add ?_ | refine pu_sub ?_ | refine pu_mul ?_ | refine pu_neg ?_ | refine fa_at ?_ | refine nl_ptr ?_ | refine ex20 ?_ | refine ex21 ?_ | refine ex30 ?_ | refine ex31 ?_ | refine ex32 ?_ | refine ln_rule ?_ | refine lnT_rule ?_ | refine pu_and ?_ | refine pu_or ?_ | refine pu_xor ?_ | refine pu_seq ?_ | refine pu_sne ?_)
    refine lds_here (fun w h => h) m2 (v := v) rfl ?_
    refine hv.ln ?_
    repeat (first | refine pu_not ?_ | refine pu_eql ?_ | refine pu_neq ?_ | refine pu_lss ?_ | refine pu_leq ?_ | refine pu_gtr ?_ | refine pu_geq ?_ | refine pu_add ?_ | refine pu_sub ?_ | refine pu_mul ?_ | refine pu_neg ?_ | refine fa_at ?_ | refine nl_ptr ?_ | refine ex20 ?_ | refine ex21 ?_ | refine ex30 ?_ | refine ex31 ?_ | refine ex32 ?_ | refine ln_rule ?_ | refine lnT_rule ?_ | refine pu_and ?_ | refine pu_or ?_ | refine pu_xor ?_ | refine pu_seq ?_ | refine pu_sne ?_)
    refine cnd (fun hg => ?_) (fun hg => ?_)
    · have hg : (p.fs.length : Int) ≤ i.imm := by simpa using hg
      have : p.fs[i.imm.toNat]? = none := List.getElem?_eq_none (by omega)
      unfold callsI at k
      rw [decide_eq_false (by omega), Bool.false_or] at k
      simp only [this, Bool.false_and] at k
      exact k _ hE
    have hg : i.imm < p.fs.length := by simpa using hg
    obtain ⟨qs, cg, fg, g1, g2, g3, g4, g5⟩ := hv.at (n := i.imm) hu.1 hg
    unfold callsI at k
    rw [decide_eq_false (by omega), Bool.false_or] at k
    simp only [g1] at k
    repeat (first | refine pu_not ?_ | refine pu_eql ?_ | refine pu_neq ?_ | refine pu_lss ?_ | refine pu_leq ?_ | refine pu_gtr ?_ | refine pu_geq ?_ | refine pu_add ?_ | refine pu_sub ?_ | refine pu_mul ?_ | refine pu_neg ?_ | refine fa_at ?_ | refine nl_ptr ?_ | refine ex20 ?_ | refine ex21 ?_ | refine ex30 ?_ | refine ex31 ?_ | refine ex32 ?_ | refine ln_rule ?_ | refine lnT_rule ?_ | refine pu_and ?_ | refine pu_or ?_ | refine pu_xor ?_ | refine pu_seq ?_ | refine pu_sne ?_)
    refine lds_here (fun w h => h) m13 (v := vI i.c) rfl ?_
    repeat (first | refine pu_not ?_ | refine pu_eql ?_ | refine pu_neq ?_ | refine pu_lss ?_ | refine pu_leq ?_ | refine pu_gtr ?_ | refine pu_geq ?_ | refine pu_add ?_ | refine pu_sub ?_ | refine pu_mul ?_ | refine pu_neg ?_ | refine fa_at ?_ | refine nl_ptr ?_ | refine ex20 ?_ | refine ex21 ?_ | refine ex30 ?_ | refine ex31 ?_ | refine ex32 ?_ | refine ln_rule ?_ | refine lnT_rule ?_ | refine pu_and ?_ | refine pu_or ?_ | refine pu_xor ?_ | refine pu_seq ?_ | refine pu_sne ?_)
    refine lds_here (fun w h => h) m2 (v := v) rfl ?_
    repeat (first | refine pu_not ?_ | refine pu_eql ?_ | refine pu_neq ?_ | refine pu_lss ?_ | refine pu_leq ?_ | refine pu_gtr ?_ | refine pu_geq ?_ | refine pu_add ?_ | refine pu_sub ?_ | refine pu_mul ?_ | refine pu_neg ?_ | refine fa_at ?_ | refine nl_ptr ?_ | refine ex20 ?_ | refine ex21 ?_ | refine ex30 ?_ | refine ex31 ?_ | refine ex32 ?_ | refine ln_rule ?_ | refine lnT_rule ?_ | refine pu_and ?_ | refine pu_or ?_ | refine pu_xor ?_ | refine pu_seq ?_ | refine pu_sne ?_)
    refine lds_here (fun w h => h) m13 (v := vU' i.imm) rfl ?_
    refine gc ?_
    refine sls_flds (fun w h => h) (g2.mono hX) hu.1 g3 (j := 0) (v := vI fg.regs) rfl ?_
    repeat (first | refine pu_not ?_ | refine pu_eql ?_ | refine pu_neq ?_ | refine pu_lss ?_ | refine pu_leq ?_ | refine pu_gtr ?_ | refine pu_geq ?_ | refine pu_add ?_ | refine pu_sub ?_ | refine pu_mul ?_ | refine pu_neg ?_ | refine fa_at ?_ | refine nl_ptr ?_ | refine ex20 ?_ | refine ex21 ?_ | refine ex30 ?_ | refine ex31 ?_ | refine ex32 ?_ | refine ln_rule ?_ | refine lnT_rule ?_ | refine pu_and ?_ | refine pu_or ?_ | refine pu_xor ?_ | refine pu_seq ?_ | refine pu_sne ?_)
    refine cnd (fun hg2 => ?_) (fun hg2 => ?_)
    · have hg2 : ¬ i.c ≤ fg.regs := by simpa using hg2
      rw [decide_eq_false hg2, Bool.false_and] at k
      exact k _ hE
    have hg2 : i.c ≤ fg.regs := by simpa using hg2
    rw [decide_eq_true hg2, Bool.true_and] at k
    refine ecode ?_
    repeat (first | refine pu_not ?_ | refine pu_eql ?_ | refine pu_neq ?_ | refine pu_lss ?_ | refine pu_leq ?_ | refine pu_gtr ?_ | refine pu_geq ?_ | refine pu_add ?_ | refine pu_sub ?_ | refine pu_mul ?_ | refine pu_neg ?_ | refine fa_at ?_ | refine nl_ptr ?_ | refine ex20 ?_ | refine ex21 ?_ | refine ex30 ?_ | refine ex31 ?_ | refine ex32 ?_ | refine ln_rule ?_ | refine lnT_rule ?_ | refine pu_and ?_ | refine pu_or ?_ | refine pu_xor ?_ | refine pu_seq ?_ | refine pu_sne ?_)
    rw [wrap64_in (by omega) (by omega)]
    refine cnd (fun hl => ?_) (fun hl => ?_)
    · have hl : (m : Int) < f.code.length - 1 := by simpa using hl
      unfold endsI at k
      rw [decide_eq_true (by omega), Bool.true_or] at k
      exact k _ hE
    · have hl : ¬ (m : Int) < f.code.length - 1 := by simpa using hl
      unfold endsI at k
      rw [decide_eq_false (by omega), Bool.false_or] at k
      refine ldn_here hE m13 (vs := i.cells) rfl rfl ?_
      exact leaves08_spec hu hE k
  have h8 : ¬ i.op = 8 := by simpa using h8
  repeat (first | refine pu_not ?_ | refine pu_eql ?_ | refine pu_neq ?_ | refine pu_lss ?_ | refine pu_leq ?_ | refine pu_gtr ?_ | refine pu_geq ?_ | refine pu_add ?_ | refine pu_sub ?_ | refine pu_mul ?_ | refine pu_neg ?_ | refine fa_at ?_ | refine nl_ptr ?_ | refine ex20 ?_ | refine ex21 ?_ | refine ex30 ?_ | refine ex31 ?_ | refine ex32 ?_ | refine ln_rule ?_ | refine lnT_rule ?_ | refine pu_and ?_ | refine pu_or ?_ | refine pu_xor ?_ | refine pu_seq ?_ | refine pu_sne ?_)
  refine cnd (fun h10 => ?_) (fun h10 => ?_)
  · have h10 : i.op = 10 := by simpa using h10
    repeat (first | refine pu_not ?_ | refine pu_eql ?_ | refine pu_neq ?_ | refine pu_lss ?_ | refine pu_leq ?_ | refine pu_gtr ?_ | refine pu_geq ?_ | refine pu_add ?_ | refine pu_sub ?_ | refine pu_mul ?_ | refine pu_neg ?_ | refine fa_at ?_ | refine nl_ptr ?_ | refine ex20 ?_ | refine ex21 ?_ | refine ex30 ?_ | refine ex31 ?_ | refine ex32 ?_ | refine ln_rule ?_ | refine lnT_rule ?_ | refine pu_and ?_ | refine pu_or ?_ | refine pu_xor ?_ | refine pu_seq ?_ | refine pu_sne ?_)
    refine lds_here (fun w h => h) m13 (v := vU' i.imm) rfl ?_
    refine gc ?_
    repeat (first | refine pu_not ?_ | refine pu_eql ?_ | refine pu_neq ?_ | refine pu_lss ?_ | refine pu_leq ?_ | refine pu_gtr ?_ | refine pu_geq ?_ | refine pu_add ?_ | refine pu_sub ?_ | refine pu_mul ?_ | refine pu_neg ?_ | refine fa_at ?_ | refine nl_ptr ?_ | refine ex20 ?_ | refine ex21 ?_ | refine ex30 ?_ | refine ex31 ?_ | refine ex32 ?_ | refine ln_rule ?_ | refine lnT_rule ?_ | refine pu_and ?_ | refine pu_or ?_ | refine pu_xor ?_ | refine pu_seq ?_ | refine pu_sne ?_)
    refine lds_here (fun w h => h) m2 (v := v) rfl ?_
    refine hv.ln ?_
    repeat (first | refine pu_not ?_ | refine pu_eql ?_ | refine pu_neq ?_ | refine pu_lss ?_ | refine pu_leq ?_ | refine pu_gtr ?_ | refine pu_geq ?_ | refine pu_add ?_ | refine pu_sub ?_ | refine pu_mul ?_ | refine pu_neg ?_ | refine fa_at ?_ | refine nl_ptr ?_ | refine ex20 ?_ | refine ex21 ?_ | refine ex30 ?_ | refine ex31 ?_ | refine ex32 ?_ | refine ln_rule ?_ | refine lnT_rule ?_ | refine pu_and ?_ | refine pu_or ?_ | refine pu_xor ?_ | refine pu_seq ?_ | refine pu_sne ?_)
    refine cnd (fun hg => ?_) (fun hg => ?_)
    · have hg : (p.fs.length : Int) ≤ i.imm := by simpa using hg
      have : p.fs[i.imm.toNat]? = none := List.getElem?_eq_none (by omega)
      unfold callsI at k
      rw [decide_eq_false (by omega), Bool.false_or] at k
      simp only [this, Bool.false_and] at k
      exact k _ hE
    have hg : i.imm < p.fs.length := by simpa using hg
    obtain ⟨qs, cg, fg, g1, g2, g3, g4, g5⟩ := hv.at (n := i.imm) hu.1 hg
    unfold callsI at k
    rw [decide_eq_false (by omega), Bool.false_or] at k
    simp only [g1] at k
    repeat (first | refine pu_not ?_ | refine pu_eql ?_ | refine pu_neq ?_ | refine pu_lss ?_ | refine pu_leq ?_ | refine pu_gtr ?_ | refine pu_geq ?_ | refine pu_add ?_ | refine pu_sub ?_ | refine pu_mul ?_ | refine pu_neg ?_ | refine fa_at ?_ | refine nl_ptr ?_ | refine ex20 ?_ | refine ex21 ?_ | refine ex30 ?_ | refine ex31 ?_ | refine ex32 ?_ | refine ln_rule ?_ | refine lnT_rule ?_ | refine pu_and ?_ | refine pu_or ?_ | refine pu_xor ?_ | refine pu_seq ?_ | refine pu_sne ?_)
    refine lds_here (fun w h => h) m13 (v := vI i.c) rfl ?_
    repeat (first | refine pu_not ?_ | refine pu_eql ?_ | refine pu_neq ?_ | refine pu_lss ?_ | refine pu_leq ?_ | refine pu_gtr ?_ | refine pu_geq ?_ | refine pu_add ?_ | refine pu_sub ?_ | refine pu_mul ?_ | refine pu_neg ?_ | refine fa_at ?_ | refine nl_ptr ?_ | refine ex20 ?_ | refine ex21 ?_ | refine ex30 ?_ | refine ex31 ?_ | refine ex32 ?_ | refine ln_rule ?_ | refine lnT_rule ?_ | refine pu_and ?_ | refine pu_or ?_ | refine pu_xor ?_ | refine pu_seq ?_ | refine pu_sne ?_)
    refine lds_here (fun w h => h) m2 (v := v) rfl ?_
    repeat (first | refine pu_not ?_ | refine pu_eql ?_ | refine pu_neq ?_ | refine pu_lss ?_ | refine pu_leq ?_ | refine pu_gtr ?_ | refine pu_geq ?_ | refine pu_add ?_ | refine pu_sub ?_ | refine pu_mul ?_ | refine pu_neg ?_ | refine fa_at ?_ | refine nl_ptr ?_ | refine ex20 ?_ | refine ex21 ?_ | refine ex30 ?_ | refine ex31 ?_ | refine ex32 ?_ | refine ln_rule ?_ | refine lnT_rule ?_ | refine pu_and ?_ | refine pu_or ?_ | refine pu_xor ?_ | refine pu_seq ?_ | refine pu_sne ?_)
    refine lds_here (fun w h => h) m13 (v := vU' i.imm) rfl ?_
    refine gc ?_
    refine sls_flds (fun w h => h) (g2.mono hX) hu.1 g3 (j := 0) (v := vI fg.regs) rfl ?_
    repeat (first | refine pu_not ?_ | refine pu_eql ?_ | refine pu_neq ?_ | refine pu_lss ?_ | refine pu_leq ?_ | refine pu_gtr ?_ | refine pu_geq ?_ | refine pu_add ?_ | refine pu_sub ?_ | refine pu_mul ?_ | refine pu_neg ?_ | refine fa_at ?_ | refine nl_ptr ?_ | refine ex20 ?_ | refine ex21 ?_ | refine ex30 ?_ | refine ex31 ?_ | refine ex32 ?_ | refine ln_rule ?_ | refine lnT_rule ?_ | refine pu_and ?_ | refine pu_or ?_ | refine pu_xor ?_ | refine pu_seq ?_ | refine pu_sne ?_)
    refine cnd (fun hg2 => ?_) (fun hg2 => ?_)
    · have hg2 : ¬ i.c ≤ fg.regs := by simpa using hg2
      rw [decide_eq_false hg2, Bool.false_and] at k
      exact k _ hE
    have hg2 : i.c ≤ fg.regs := by simpa using hg2
    rw [decide_eq_true hg2, Bool.true_and] at k
    refine ecode ?_
    repeat (first | refine pu_not ?_ | refine pu_eql ?_ | refine pu_neq ?_ | refine pu_lss ?_ | refine pu_leq ?_ | refine pu_gtr ?_ | refine pu_geq ?_ | refine pu_add ?_ | refine pu_sub ?_ | refine pu_mul ?_ | refine pu_neg ?_ | refine fa_at ?_ | refine nl_ptr ?_ | refine ex20 ?_ | refine ex21 ?_ | refine ex30 ?_ | refine ex31 ?_ | refine ex32 ?_ | refine ln_rule ?_ | refine lnT_rule ?_ | refine pu_and ?_ | refine pu_or ?_ | refine pu_xor ?_ | refine pu_seq ?_ | refine pu_sne ?_)
    rw [wrap64_in (by omega) (by omega)]
    refine cnd (fun hl => ?_) (fun hl => ?_)
    · have hl : (m : Int) < f.code.length - 1 := by simpa using hl
      unfold endsI at k
      rw [decide_eq_true (by omega), Bool.true_or] at k
      exact k _ hE
    · have hl : ¬ (m : Int) < f.code.length - 1 := by simpa using hl
      unfold endsI at k
      rw [decide_eq_false (by omega), Bool.false_or] at k
      refine ldn_here hE m13 (vs := i.cells) rfl rfl ?_
      exact leaves08_spec hu hE k
  have h10 : ¬ i.op = 10 := by simpa using h10
  have : callsI p.fs i = true := by
    unfold callsI
    rw [decide_eq_true ⟨h8, h10⟩]; rfl
  rw [this, Bool.true_and] at k
  refine ecode ?_
  repeat (first | refine pu_not ?_ | refine pu_eql ?_ | refine pu_neq ?_ | refine pu_lss ?_ | refine pu_leq ?_ | refine pu_gtr ?_ | refine pu_geq ?_ | refine pu_add ?_ | refine pu_sub ?_ | refine pu_mul ?_ | refine pu_neg ?_ | refine fa_at ?_ | refine nl_ptr ?_ | refine ex20 ?_ | refine ex21 ?_ | refine ex30 ?_ | refine ex31 ?_ | refine ex32 ?_ | refine ln_rule ?_ | refine lnT_rule ?_ | refine pu_and ?_ | refine pu_or ?_ | refine pu_xor ?_ | refine pu_seq ?_ | refine pu_sne ?_)
  rw [wrap64_in (by omega) (by omega)]
  refine cnd (fun hl => ?_) (fun hl => ?_)
  · have hl : (m : Int) < f.code.length - 1 := by simpa using hl
    unfold endsI at k
    rw [decide_eq_true (by omega), Bool.true_or] at k
    exact k _ hE
  · have hl : ¬ (m : Int) < f.code.length - 1 := by simpa using hl
    unfold endsI at k
    rw [decide_eq_false (by omega), Bool.false_or] at k
    refine ldn_here hE m13 (vs := i.cells) rfl rfl ?_
    exact leaves08_spec hu hE k
theorem num_iff : numI p = true ↔ (1 ≤ p.fs.length ∧ p.fs.length ≤ 32 ∧ 0 ≤ p.mu ∧ p.mu ≤ 64 ∧ 0 ≤ p.rw ∧ p.rw ≤ 64 ∧ 0 ≤ p.gr ∧ p.gr ≤ 64 ∧ ∀ f ∈ p.fs, 1 ≤ f.regs ∧ f.regs ≤ 16 ∧ 1 ≤ f.code.length ∧ f.code.length ≤ 512) := by
  constructor
  · intro h
    have hf := num_facts' h
    unfold numI numL at h
    simp only [List.all_append, List.all_cons, List.all_nil, Bool.and_true, Bool.and_eq_true, inB, decide_eq_true_eq] at h
    obtain ⟨⟨h1, h2, h3, h4⟩, h5⟩ := h
    exact ⟨hf.1, hf.2.1, h2.1, h2.2, h3.1, h3.2, h4.1, h4.2, hf.2.2⟩
  · rintro ⟨h1, h2, h3, h4, h5, h6, h7, h8, h9⟩
    unfold numI numL
    simp only [List.all_append, List.all_cons, List.all_nil, Bool.and_true, Bool.and_eq_true, inB, decide_eq_true_eq]
    refine ⟨⟨by omega, ⟨h3, h4⟩, ⟨h5, h6⟩, h7, h8⟩, List.all_eq_true.2 fun x hx => ?_⟩
    obtain ⟨f, hf, hx⟩ := List.mem_flatMap.1 hx
    have := h9 f hf
    simp only [fnum, List.mem_cons, List.not_mem_nil, or_false] at hx
    rcases hx with rfl | rfl
    · simp only [inB, Bool.and_eq_true, decide_eq_true_eq]; omega
    · simp only [inB, Bool.and_eq_true, decide_eq_true_eq]; omega
theorem num_no (h : ¬ (1 ≤ p.fs.length ∧ p.fs.length ≤ 32 ∧ 0 ≤ p.mu ∧ p.mu ≤ 64 ∧ 0 ≤ p.rw ∧ p.rw ≤ 64 ∧ 0 ≤ p.gr ∧ p.gr ≤ 64 ∧ ∀ f ∈ p.fs, 1 ≤ f.regs ∧ f.regs ≤ 16 ∧ 1 ≤ f.code.length ∧ f.code.length ≤ 512)) : numI p = false := by
  cases hn : numI p
  · rfl
  · exact absurd (num_iff.1 hn) h
theorem numbers09_spec (hv : fsIn X v p.fs) (hX : ∀ x, x ∈ X → x ∈ H) (h : Ow B w H) (k : ∀ w', Ow B w' H → K (vB (numI p)) w') : callW PG N.linesmanref09_numbers [.agg (p.cells v).toArray] K PK w := by
  refine linesmanref09_numbers.ok ?_
  unfold linesmanref09_numbers.C
  have hmax : p.fs.length ≤ 9223372036854775807 := by
    obtain ⟨ps, e1, e2, e3⟩ := hv
    have := e2.max
    rw [← e1]
    simp only [frows, List.length_map, maxLen] at this ⊢
    omega
  refine al_rule h (l := p.cells v) rfl (fun b2 w1 h1 => ?_)
  have k : ∀ w', Ow B w' ((b2, cel (p.cells v) T.t_api_Program) :: H) → K (vB (numI p)) w' := fun w' h' => k w' h'.drop
  have m2 : (b2, cel (p.cells v) T.t_api_Program) ∈ (b2, cel (p.cells v) T.t_api_Program) :: H := .head _
  have hX : ∀ x, x ∈ X → x ∈ (b2, cel (p.cells v) T.t_api_Program) :: H := fun x hx => .tail _ (hX x hx)
  generalize (b2, cel (p.cells v) T.t_api_Program) :: H = G at *
  have no : ∀ {w' : World}, Ow B w' G → ¬ (1 ≤ p.fs.length ∧ p.fs.length ≤ 32 ∧ 0 ≤ p.mu ∧ p.mu ≤ 64 ∧ 0 ≤ p.rw ∧ p.rw ≤ 64 ∧ 0 ≤ p.gr ∧ p.gr ≤ 64 ∧ ∀ f ∈ p.fs, 1 ≤ f.regs ∧ f.regs ≤ 16 ∧ 1 ≤ f.code.length ∧ f.code.length ≤ 512) → K (vB false) w' := fun h' hn => by
    have := k _ h'
    rw [num_no hn] at this
    exact this
  repeat (first | refine pu_not ?_ | refine pu_eql ?_ | refine pu_neq ?_ | refine pu_lss ?_ | refine pu_leq ?_ | refine pu_gtr ?_ | refine pu_geq ?_ | refine pu_add ?_ | refine pu_sub ?_ | refine pu_mul ?_ | refine pu_neg ?_ | refine fa_at ?_ | refine nl_ptr ?_ | refine ex20 ?_ | refine ex21 ?_ | refine ex30 ?_ | refine ex31 ?_ | refine ex32 ?_ | refine ln_rule ?_ | refine lnT_rule ?_ | refine pu_and ?_ | refine pu_or ?_ | refine pu_xor ?_ | refine pu_seq ?_ | refine pu_sne ?_)
  refine ld_here h1 m2 (v := v) rfl ?_
  refine hv.ln ?_
  repeat (first | refine pu_not ?_ | refine pu_eql ?_ | refine pu_neq ?_ | refine pu_lss ?_ | refine pu_leq ?_ | refine pu_gtr ?_ | refine pu_geq ?_ | refine pu_add ?_ | refine pu_sub ?_ | refine pu_mul ?_ | refine pu_neg ?_ | refine fa_at ?_ | refine nl_ptr ?_ | refine ex20 ?_ | refine ex21 ?_ | refine ex30 ?_ | refine ex31 ?_ | refine ex32 ?_ | refine ln_rule ?_ | refine lnT_rule ?_ | refine pu_and ?_ | refine pu_or ?_ | refine pu_xor ?_ | refine pu_seq ?_ | refine pu_sne ?_)
  refine cnd (fun hq => no h1 fun h => by simp at hq; omega) (fun q1 => ?_)
  have q1 : 1 ≤ p.fs.length := by simp at q1; omega
  repeat (first | refine pu_not ?_ | refine pu_eql ?_ | refine pu_neq ?_ | refine pu_lss ?_ | refine pu_leq ?_ | refine pu_gtr ?_ | refine pu_geq ?_ | refine pu_add ?_ | refine pu_sub ?_ | refine pu_mul ?_ | refine pu_neg ?_ | refine fa_at ?_ | refine nl_ptr ?_ | refine ex20 ?_ | refine ex21 ?_ | refine ex30 ?_ | refine ex31 ?_ | refine ex32 ?_ | refine ln_rule ?_ | refine lnT_rule ?_ | refine pu_and ?_ | refine pu_or ?_ | refine pu_xor ?_ | refine pu_seq ?_ | refine pu_sne ?_)
  refine ld_here h1 m2 (v := v) rfl ?_
  refine hv.ln ?_
  repeat (first | refine pu_not ?_ | refine pu_eql ?_ | refine pu_neq ?_ | refine pu_lss ?_ | refine pu_leq ?_ | refine pu_gtr ?_ | refine pu_geq ?_ | refine pu_add ?_ | refine pu_sub ?_ | refine pu_mul ?_ | refine pu_neg ?_ | refine fa_at ?_ | refine nl_ptr ?_ | refine ex20 ?_ | refine ex21 ?_ | refine ex30 ?_ | refine ex31 ?_ | refine ex32 ?_ | refine ln_rule ?_ | refine lnT_rule ?_ | refine pu_and ?_ | refine pu_or ?_ | refine pu_xor ?_ | refine pu_seq ?_ | refine pu_sne ?_)
  refine cnd (fun hq => no h1 fun h => by simp at hq; omega) (fun q2 => ?_)
  have q2 : p.fs.length ≤ 32 := by simp at q2; omega
  repeat (first | refine pu_not ?_ | refine pu_eql ?_ | refine pu_neq ?_ | refine pu_lss ?_ | refine pu_leq ?_ | refine pu_gtr ?_ | refine pu_geq ?_ | refine pu_add ?_ | refine pu_sub ?_ | refine pu_mul ?_ | refine pu_neg ?_ | refine fa_at ?_ | refine nl_ptr ?_ | refine ex20 ?_ | refine ex21 ?_ | refine ex30 ?_ | refine ex31 ?_ | refine ex32 ?_ | refine ln_rule ?_ | refine lnT_rule ?_ | refine pu_and ?_ | refine pu_or ?_ | refine pu_xor ?_ | refine pu_seq ?_ | refine pu_sne ?_)
  refine ld_here h1 m2 (v := vI p.mu) rfl ?_
  repeat (first | refine pu_not ?_ | refine pu_eql ?_ | refine pu_neq ?_ | refine pu_lss ?_ | refine pu_leq ?_ | refine pu_gtr ?_ | refine pu_geq ?_ | refine pu_add ?_ | refine pu_sub ?_ | refine pu_mul ?_ | refine pu_neg ?_ | refine fa_at ?_ | refine nl_ptr ?_ | refine ex20 ?_ | refine ex21 ?_ | refine ex30 ?_ | refine ex31 ?_ | refine ex32 ?_ | refine ln_rule ?_ | refine lnT_rule ?_ | refine pu_and ?_ | refine pu_or ?_ | refine pu_xor ?_ | refine pu_seq ?_ | refine pu_sne ?_)
  refine cnd (fun hq => no h1 fun h => by simp at hq; omega) (fun q3 => ?_)
  have q3 : 0 ≤ p.mu := by simpa using q3
  repeat (first | refine pu_not ?_ | refine pu_eql ?_ | refine pu_neq ?_ | refine pu_lss ?_ | refine pu_leq ?_ | refine pu_gtr ?_ | refine pu_geq ?_ | refine pu_add ?_ | refine pu_sub ?_ | refine pu_mul ?_ | refine pu_neg ?_ | refine fa_at ?_ | refine nl_ptr ?_ | refine ex20 ?_ | refine ex21 ?_ | refine ex30 ?_ | refine ex31 ?_ | refine ex32 ?_ | refine ln_rule ?_ | refine lnT_rule ?_ | refine pu_and ?_ | refine pu_or ?_ | refine pu_xor ?_ | refine pu_seq ?_ | refine pu_sne ?_)
  refine ld_here h1 m2 (v := vI p.mu) rfl ?_
  repeat (first | refine pu_not ?_ | refine pu_eql ?_ | refine pu_neq ?_ | refine pu_lss ?_ | refine pu_leq ?_ | refine pu_gtr ?_ | refine pu_geq ?_ | refine pu_add ?_ | refine pu_sub ?_ | refine pu_mul ?_ | refine pu_neg ?_ | refine fa_at ?_ | refine nl_ptr ?_ | refine ex20 ?_ | refine ex21 ?_ | refine ex30 ?_ | refine ex31 ?_ | refine ex32 ?_ | refine ln_rule ?_ | refine lnT_rule ?_ | refine pu_and ?_ | refine pu_or ?_ | refine pu_xor ?_ | refine pu_seq ?_ | refine pu_sne ?_)
  refine cnd (fun hq => no h1 fun h => by simp at hq; omega) (fun q4 => ?_)
  have q4 : p.mu ≤ 64 := by simpa using q4
  repeat (first | refine pu_not ?_ | refine pu_eql ?_ | refine pu_neq ?_ | refine pu_lss ?_ | refine pu_leq ?_ | refine pu_gtr ?_ | refine pu_geq ?_ | refine pu_add ?_ | refine pu_sub ?_ | refine pu_mul ?_ | refine pu_neg ?_ | refine fa_at ?_ | refine nl_ptr ?_ | refine ex20 ?_ | refine ex21 ?_ | refine ex30 ?_ | refine ex31 ?_ | refine ex32 ?_ | refine ln_rule ?_ | refine lnT_rule ?_ | refine pu_and ?_ | refine pu_or ?_ | refine pu_xor ?_ | refine pu_seq ?_ | refine pu_sne ?_)
  refine ld_here h1 m2 (v := vI p.rw) rfl ?_
  repeat (first | refine pu_not ?_ | refine pu_eql ?_ | refine pu_neq ?_ | refine pu_lss ?_ | refine pu_leq ?_ | refine pu_gtr ?_ | refine pu_geq ?_ | refine pu_add ?_ | refine pu_sub ?_ | refine pu_mul ?_ | refine pu_neg ?_ | refine fa_at ?_ | refine nl_ptr ?_ | refine ex20 ?_ | refine ex21 ?_ | refine ex30 ?_ | refine ex31 ?_ | refine ex32 ?_ | refine ln_rule ?_ | refine lnT_rule ?_ | refine pu_and ?_ | refine pu_or ?_ | refine pu_xor ?_ | refine pu_seq ?_ | refine pu_sne ?_)
  refine cnd (fun hq => no h1 fun h => by simp at hq; omega) (fun q5 => ?_)
  have q5 : 0 ≤ p.rw := by simpa using q5
  repeat (first | refine pu_not ?_ | refine pu_eql ?_ | refine pu_neq ?_ | refine pu_lss ?_ | refine pu_leq ?_ | refine pu_gtr ?_ | refine pu_geq ?_ | refine pu_add ?_ | refine pu_sub ?_ | refine pu_mul ?_ | refine pu_neg ?_ | refine fa_at ?_ | refine nl_ptr ?_ | refine ex20 ?_ | refine ex21 ?_ | refine ex30 ?_ | refine ex31 ?_ | refine ex32 ?_ | refine ln_rule ?_ | refine lnT_rule ?_ | refine pu_and ?_ | refine pu_or ?_ | refine pu_xor ?_ | refine pu_seq ?_ | refine pu_sne ?_)
  refine ld_here h1 m2 (v := vI p.rw) rfl ?_
  repeat (first | refine pu_not ?_ | refine pu_eql ?_ | refine pu_neq ?_ | refine pu_lss ?_ | refine pu_leq ?_ | refine pu_gtr ?_ | refine pu_geq ?_ | refine pu_add ?_ | refine pu_sub ?_ | refine pu_mul ?_ | refine pu_neg ?_ | refine fa_at ?_ | refine nl_ptr ?_ | refine ex20 ?_ | refine ex21 ?_ | refine ex30 ?_ | refine ex31 ?_ | refine ex32 ?_ | refine ln_rule ?_ | refine lnT_rule ?_ | refine pu_and ?_ | refine pu_or ?_ | refine pu_xor ?_ | refine pu_seq ?_ | refine pu_sne ?_)
  refine cnd (fun hq => no h1 fun h => by simp at hq; omega) (fun q6 => ?_)
  have q6 : p.rw ≤ 64 := by simpa using q6
  repeat (first | refine pu_not ?_ | refine pu_eql ?_ | refine pu_neq ?_ | refine pu_lss ?_ | refine pu_leq ?_ | refine pu_gtr ?_ | refine pu_geq ?_ | refine pu_add ?_ | refine pu_sub ?_ | refine pu_mul ?_ | refine pu_neg ?_ | refine fa_at ?_ | refine nl_ptr ?_ | refine ex20 ?_ | refine ex21 ?_ | refine ex30 ?_ | refine ex31 ?_ | refine ex32 ?_ | refine ln_rule ?_ | refine lnT_rule ?_ | refine pu_and ?_ | refine pu_or ?_ | refine pu_xor ?_ | refine pu_seq ?_ | refine pu_sne ?_)
  refine ld_here h1 m2 (v := vI p.gr) rfl ?_
  repeat (first | refine pu_not ?_ | refine pu_eql ?_ | refine pu_neq ?_ | refine pu_lss ?_ | refine pu_leq ?_ | refine pu_gtr ?_ | refine pu_geq ?_ | refine pu_add ?_ | refine pu_sub ?_ | refine pu_mul ?_ | refine pu_neg ?_ | refine fa_at ?_ | refine nl_ptr ?_ | refine ex20 ?_ | refine ex21 ?_ | refine ex30 ?_ | refine ex31 ?_ | refine ex32 ?_ | refine ln_rule ?_ | refine lnT_rule ?_ | refine pu_and ?_ | refine pu_or ?_ | refine pu_xor ?_ | refine pu_seq ?_ | refine pu_sne ?_)
  refine cnd (fun hq => no h1 fun h => by simp at hq; omega) (fun q7 => ?_)
  have q7 : 0 ≤ p.gr := by simpa using q7
  repeat (first | refine pu_not ?_ | refine pu_eql ?_ | refine pu_neq ?_ | refine pu_lss ?_ | refine pu_leq ?_ | refine pu_gtr ?_ | refine pu_geq ?_ | refine pu_add ?_ | refine pu_sub ?_ | refine pu_mul ?_ | refine pu_neg ?_ | refine fa_at ?_ | refine nl_ptr ?_ | refine ex20 ?_ | refine ex21 ?_ | refine ex30 ?_ | refine ex31 ?_ | refine ex32 ?_ | refine ln_rule ?_ | refine lnT_rule ?_ | refine pu_and ?_ | refine pu_or ?_ | refine pu_xor ?_ | refine pu_seq ?_ | refine pu_sne ?_)
  refine ld_here h1 m2 (v := vI p.gr) rfl ?_
  repeat (first | refine pu_not ?_ | refine pu_eql ?_ | refine pu_neq ?_ | refine pu_lss ?_ | refine pu_leq ?_ | refine pu_gtr ?_ | refine pu_geq ?_ | refine pu_add ?_ | refine pu_sub ?_ | refine pu_mul ?_ | refine pu_neg ?_ | refine fa_at ?_ | refine nl_ptr ?_ | refine ex20 ?_ | refine ex21 ?_ | refine ex30 ?_ | refine ex31 ?_ | refine ex32 ?_ | refine ln_rule ?_ | refine lnT_rule ?_ | refine pu_and ?_ | refine pu_or ?_ | refine pu_xor ?_ | refine pu_seq ?_ | refine pu_sne ?_)
  refine cnd (fun hq => no h1 fun h => by simp at hq; omega) (fun q8 => ?_)
  have q8 : p.gr ≤ 64 := by simpa using q8
  refine ⟨fun t w => ∃ n : Nat, t = [vI n] ∧ n ≤ p.fs.length ∧ (∀ j f, j < n → p.fs[j]? = some f → 1 ≤ f.regs ∧ f.regs ≤ 16 ∧ 1 ≤ f.code.length ∧ f.code.length ≤ 512) ∧ Ow B w G, fun t _ => match t with | [.int _ n] => p.fs.length - n.toNat | _ => 0, ⟨0, rfl, Nat.zero_le _, fun j f hj => absurd hj (by omega), h1⟩, ?_⟩
  rintro t w2 ⟨n, rfl, hn, hall, h2⟩ j
  repeat (first | refine pu_not ?_ | refine pu_eql ?_ | refine pu_neq ?_ | refine pu_lss ?_ | refine pu_leq ?_ | refine pu_gtr ?_ | refine pu_geq ?_ | refine pu_add ?_ | refine pu_sub ?_ | refine pu_mul ?_ | refine pu_neg ?_ | refine fa_at ?_ | refine nl_ptr ?_ | refine ex20 ?_ | refine ex21 ?_ | refine ex30 ?_ | refine ex31 ?_ | refine ex32 ?_ | refine ln_rule ?_ | refine lnT_rule ?_ | refine pu_and ?_ | refine pu_or ?_ | refine pu_xor ?_ | refine pu_seq ?_ | refine pu_sne ?_)
  refine ld_here h2 m2 (v := v) rfl ?_
  refine hv.ln ?_
  repeat (first | refine pu_not ?_ | refine pu_eql ?_ | refine pu_neq ?_ | refine pu_lss ?_ | refine pu_leq ?_ | refine pu_gtr ?_ | refine pu_geq ?_ | refine pu_add ?_ | refine pu_sub ?_ | refine pu_mul ?_ | refine pu_neg ?_ | refine fa_at ?_ | refine nl_ptr ?_ | refine ex20 ?_ | refine ex21 ?_ | refine ex30 ?_ | refine ex31 ?_ | refine ex32 ?_ | refine ln_rule ?_ | refine lnT_rule ?_ | refine pu_and ?_ | refine pu_or ?_ | refine pu_xor ?_ | refine pu_seq ?_ | refine pu_sne ?_)
  refine cnd (fun hlt => ?_) (fun hlt => ?_)
  · have hlt : n < p.fs.length := by simpa using hlt
    obtain ⟨ps, c, f, f1, f2, f3, f4, f5⟩ := hv.at (n := (n : Int)) (by omega) (by omega)
    rw [Int.toNat_natCast] at f1
    have hmem := List.mem_of_getElem? f1
    repeat (first | refine pu_not ?_ | refine pu_eql ?_ | refine pu_neq ?_ | refine pu_lss ?_ | refine pu_leq ?_ | refine pu_gtr ?_ | refine pu_geq ?_ | refine pu_add ?_ | refine pu_sub ?_ | refine pu_mul ?_ | refine pu_neg ?_ | refine fa_at ?_ | refine nl_ptr ?_ | refine ex20 ?_ | refine ex21 ?_ | refine ex30 ?_ | refine ex31 ?_ | refine ex32 ?_ | refine ln_rule ?_ | refine lnT_rule ?_ | refine pu_and ?_ | refine pu_or ?_ | refine pu_xor ?_ | refine pu_seq ?_ | refine pu_sne ?_)
    refine ld_here h2 m2 (v := v) rfl ?_
    refine sls_ld h2 (f2.mono hX) (by omega) f3 ?_
    refine al_rule h2 (l := [vI 0, .slice none 0 0]) (by kernel_rfl) (fun bx w3 h3 => ?_)
    refine st_here (A := []) h3 [vI f.regs, c] rfl rfl (by simp only [List.all_cons, sls_plain f4]; rfl) (by simp) (fun w4 h4 => ?_)
    simp only [List.take_zero, List.nil_append, Nat.zero_add, List.drop_succ_cons, List.drop_zero, List.drop_nil, List.append_nil] at h4
    have lc : ∀ {X : Value → Prop}, X (vI (f.code.length : Nat)) → lnS c X := fun k => sls_ln f4 (by rw [icode_len]; exact k)
    repeat (first | refine pu_not ?_ | refine pu_eql ?_ | refine pu_neq ?_ | refine pu_lss ?_ | refine pu_leq ?_ | refine pu_gtr ?_ | refine pu_geq ?_ | refine pu_add ?_ | refine pu_sub ?_ | refine pu_mul ?_ | refine pu_neg ?_ | refine fa_at ?_ | refine nl_ptr ?_ | refine ex20 ?_ | refine ex21 ?_ | refine ex30 ?_ | refine ex31 ?_ | refine ex32 ?_ | refine ln_rule ?_ | refine lnT_rule ?_ | refine pu_and ?_ | refine pu_or ?_ | refine pu_xor ?_ | refine pu_seq ?_ | refine pu_sne ?_)
    refine ld_here h4 (.head _) (v := vI f.regs) rfl ?_
    repeat (first | refine pu_not ?_ | refine pu_eql ?_ | refine pu_neq ?_ | refine pu_lss ?_ | refine pu_leq ?_ | refine pu_gtr ?_ | refine pu_geq ?_ | refine pu_add ?_ | refine pu_sub ?_ | refine pu_mul ?_ | refine pu_neg ?_ | refine fa_at ?_ | refine nl_ptr ?_ | refine ex20 ?_ | refine ex21 ?_ | refine ex30 ?_ | refine ex31 ?_ | refine ex32 ?_ | refine ln_rule ?_ | refine lnT_rule ?_ | refine pu_and ?_ | refine pu_or ?_ | refine pu_xor ?_ | refine pu_seq ?_ | refine pu_sne ?_)
    refine cnd (fun hq => no (Ow.drop h4) fun h => by have := h.2.2.2.2.2.2.2.2 f hmem; simp at hq; omega) (fun r1 => ?_)
    have r1 : 1 ≤ f.regs := by simpa using r1
    repeat (first | refine pu_not ?_ | refine pu_eql ?_ | refine pu_neq ?_ | refine pu_lss ?_ | refine pu_leq ?_ | refine pu_gtr ?_ | refine pu_geq ?_ | refine pu_add ?_ | refine pu_sub ?_ | refine pu_mul ?_ | refine pu_neg ?_ | refine fa_at ?_ | refine nl_ptr ?_ | refine ex20 ?_ | refine ex21 ?_ | refine ex30 ?_ | refine ex31 ?_ | refine ex32 ?_ | refine ln_rule ?_ | refine lnT_rule ?_ | refine pu_and ?_ | refine pu_or ?_ | refine pu_xor ?_ | refine pu_seq ?_ | refine pu_sne ?_)
    refine ld_here h4 (.head _) (v := vI f.regs) rfl ?_
    repeat (first | refine pu_not ?_ | refine pu_eql ?_ | refine pu_neq ?_ | refine pu_lss ?_ | refine pu_leq ?_ | refine pu_gtr ?_ | refine pu_geq ?_ | refine pu_add ?_ | refine pu_sub ?_ | refine pu_mul ?_ | refine pu_neg ?_ | refine fa_at ?_ | refine nl_ptr ?_ | refine ex20 ?_ | refine ex21 ?_ | refine ex30 ?_ | refine ex31 ?_ | refine ex32 ?_ | refine ln_rule ?_ | refine lnT_rule ?_ | refine pu_and ?_ | refine pu_or ?_ | refine pu_xor ?_ | refine pu_seq ?_ | refine pu_sne ?_)
    refine cnd (fun hq => no (Ow.drop h4) fun h => by have := h.2.2.2.2.2.2.2.2 f hmem; simp at hq; omega) (fun r2 => ?_)
    have r2 : f.regs ≤ 16 := by simpa using r2
    repeat (first | refine pu_not ?_ | refine pu_eql ?_ | refine pu_neq ?_ | refine pu_lss ?_ | refine pu_leq ?_ | refine pu_gtr ?_ | refine pu_geq ?_ | refine pu_add ?_ | refine pu_sub ?_ | refine pu_mul ?_ | refine pu_neg ?_ | refine fa_at ?_ | refine nl_ptr ?_ | refine ex20 ?_ | refine ex21 ?_ | refine ex30 ?_ | refine ex31 ?_ | refine ex32 ?_ | refine ln_rule ?_ | refine lnT_rule ?_ | refine pu_and ?_ | refine pu_or ?_ | refine pu_xor ?_ | refine pu_seq ?_ | refine pu_sne ?_)
    refine ld_here h4 (.head _) (v := c) rfl ?_
    refine lc ?_
    repeat (first | refine pu_not ?_ | refine pu_eql ?_ | refine pu_neq ?_ | refine pu_lss ?_ | refine pu_leq ?_ | refine pu_gtr ?_ | refine pu_geq ?_ | refine pu_add ?_ | refine pu_sub ?_ | refine pu_mul ?_ | refine pu_neg ?_ | refine fa_at ?_ | refine nl_ptr ?_ | refine ex20 ?_ | refine ex21 ?_ | refine ex30 ?_ | refine ex31 ?_ | refine ex32 ?_ | refine ln_rule ?_ | refine lnT_rule ?_ | refine pu_and ?_ | refine pu_or ?_ | refine pu_xor ?_ | refine pu_seq ?_ | refine pu_sne ?_)
    refine cnd (fun hq => no (Ow.drop h4) fun h => by have := h.2.2.2.2.2.2.2.2 f hmem; simp at hq; omega) (fun r3 => ?_)
    have r3 : 1 ≤ f.code.length := by simp at r3; omega
    repeat (first | refine pu_not ?_ | refine pu_eql ?_ | refine pu_neq ?_ | refine pu_lss ?_ | refine pu_leq ?_ | refine pu_gtr ?_ | refine pu_geq ?_ | refine pu_add ?_ | refine pu_sub ?_ | refine pu_mul ?_ | refine pu_neg ?_ | refine fa_at ?_ | refine nl_ptr ?_ | refine ex20 ?_ | refine ex21 ?_ | refine ex30 ?_ | refine ex31 ?_ | refine ex32 ?_ | refine ln_rule ?_ | refine lnT_rule ?_ | refine pu_and ?_ | refine pu_or ?_ | refine pu_xor ?_ | refine pu_seq ?_ | refine pu_sne ?_)
    refine ld_here h4 (.head _) (v := c) rfl ?_
    refine lc ?_
    repeat (first | refine pu_not ?_ | refine pu_eql ?_ | refine pu_neq ?_ | refine pu_lss ?_ | refine pu_leq ?_ | refine pu_gtr ?_ | refine pu_geq ?_ | refine pu_add ?_ | refine pu_sub ?_ | refine pu_mul ?_ | refine pu_neg ?_ | refine fa_at ?_ | refine nl_ptr ?_ | refine ex20 ?_ | refine ex21 ?_ | refine ex30 ?_ | refine ex31 ?_ | refine ex32 ?_ | refine ln_rule ?_ | refine lnT_rule ?_ | refine pu_and ?_ | refine pu_or ?_ | refine pu_xor ?_ | refine pu_seq ?_ | refine pu_sne ?_)
    refine cnd (fun hq => no (Ow.drop h4) fun h => by have := h.2.2.2.2.2.2.2.2 f hmem; simp at hq; omega) (fun r4 => ?_)
    have r4 : f.code.length ≤ 512 := by simp at r4; omega
    repeat (first | refine pu_not ?_ | refine pu_eql ?_ | refine pu_neq ?_ | refine pu_lss ?_ | refine pu_leq ?_ | refine pu_gtr ?_ | refine pu_geq ?_ | refine pu_add ?_ | refine pu_sub ?_ | refine pu_mul ?_ | refine pu_neg ?_ | refine fa_at ?_ | refine nl_ptr ?_ | refine ex20 ?_ | refine ex21 ?_ | refine ex30 ?_ | refine ex31 ?_ | refine ex32 ?_ | refine ln_rule ?_ | refine lnT_rule ?_ | refine pu_and ?_ | refine pu_or ?_ | refine pu_xor ?_ | refine pu_seq ?_ | refine pu_sne ?_)
    rw [wrap64_in (by omega) (by omega)]
    refine ⟨⟨n + 1, rfl, hlt, fun j g hj hg => ?_, Ow.drop h4⟩, by simp; omega⟩
    rcases Nat.lt_succ_iff_lt_or_eq.1 hj with hj | rfl
    · exact hall j g hj hg
    · rw [f1] at hg
      cases hg
      exact ⟨r1, r2, r3, r4⟩
  · obtain rfl : n = p.fs.length := by simp at hlt; omega
    have : numI p = true := num_iff.2 ⟨q1, q2, q3, q4, q5, q6, q7, q8, fun f hf => by
      obtain ⟨j, hj, e⟩ := List.getElem_of_mem hf
      exact hall j f hj (by rw [List.getElem?_eq_getElem hj, e])⟩
    have h9 := k _ h2
    rw [this] at h9
    exact h9
theorem bad_none (h : ∀ (n m : Nat) (f : Fun) (i : Ins), p.fs[n]? = some f → f.code[m]? = some i → fineI p f m i = true) : badS p = none := by
  unfold badS
  rw [List.find?_eq_none]
  intro s hs
  obtain ⟨f, i, hf, hi⟩ := site_mem hs
  have : fineS p s = true := by
    unfold fineS
    simp only [hf, hi]
    exact h _ _ f i hf hi
  rw [this]; simp
theorem bad_some {n m : Nat} (hf : p.fs[n]? = some f) (hi : f.code[m]? = some i) (h : fineI p f m i = false) : (badS p).isSome = true := by
  cases hb : badS p with
  | some s => rfl
  | none =>
    have hn := (List.getElem?_eq_some_iff.1 hf).1
    have hm := (List.getElem?_eq_some_iff.1 hi).1
    have hc : clen p.fs n = f.code.length := by unfold clen; rw [hf]
    have hmem := List.mem_of_getElem? (site_at hn (by rw [hc]; exact hm))
    have h4 := List.find?_eq_none.1 hb _ hmem
    refine absurd ?_ h4
    unfold fineS
    simp only [hf, hi, h]
    rfl
def wrong09 (p : Pr) : Bool := numI p && (badS p).isSome
theorem wrong09_spec (hv : fsIn X v p.fs) (hX : ∀ x, x ∈ X → x ∈ H) (h : Ow B w H) (k : ∀ (a b : Int) w', Ow B w' H → K (.tuple #[.agg #[vI a, vI b], vB (wrong09 p)]) w') : callW PG N.linesmanref09_Wrong [.agg (p.cells v).toArray] K PK w := by
  refine linesmanref09_Wrong.ok ?_
  unfold linesmanref09_Wrong.C
  refine al_rule h (l := p.cells v) rfl (fun b2 w1 h1 => ?_)
  refine al_rule h1 (l := [vI 0, vI 0]) (by kernel_rfl) (fun b4 w2 h2 => ?_)
  refine ldn_here h2 (.tail _ (.head _)) (vs := p.cells v) rfl rfl ?_
  refine numbers09_spec hv (fun x hx => .tail _ (.tail _ (hX x hx))) h2 (fun w3 h3 => ?_)
  unfold wrong09 at k
  -- the ends
  have fin : ∀ {w : World} {a b : Int} {r : Bool}, Ow B w ((b4, cel [vI 0, vI 0] T.t_api_Site) :: (b2, cel (p.cells v) T.t_api_Program) :: H) → (numI p && (badS p).isSome) = r → stW 2 (ptr b4) (.agg #[vI a, vI b]) (fun w => ldW (some 2) (ptr b4) w fun t => K (.tuple #[t, vB r]) w) w := fun {w a b r} h hr => by
    refine st_here (A := []) h [vI a, vI b] rfl rfl rfl (by simp) (fun w5 h5 => ?_)
    refine ldn_here h5 (.head _) (vs := [vI a, vI b]) rfl rfl ?_
    rw [hr] at k
    exact k a b _ (Ow.drop (Ow.drop h5))
  repeat (first | refine pu_not ?_ | refine pu_eql ?_ | refine pu_neq ?_ | refine pu_lss ?_ | refine pu_leq ?_ | refine pu_gtr ?_ | refine pu_geq ?_ | refine pu_add ?_ | refine pu_sub ?_ | refine pu_mul ?_ | refine pu_neg ?_ | refine fa_at ?_ | refine nl_ptr ?_ | refine ex20 ?_ | refine ex21 ?_ | refine ex30 ?_ | refine ex31 ?_ | refine ex32 ?_ | refine ln_rule ?_ | refine lnT_rule ?_ | refine pu_and ?_ | refine pu_or ?_ | refine pu_xor ?_ | refine pu_seq ?_ | refine pu_sne ?_)
  refine cnd (fun hq => ?_) (fun hq => ?_)
  · have hq : numI p = false := by simpa using hq
    refine pu_build [vI 0, vI 0] (by kernel_rfl) ?_
    exact fin h3 (by rw [hq]; rfl)
  have hq : numI p = true := by simpa using hq
  have hnf := num_facts' hq
  rw [hq, Bool.true_and] at fin
  have m2 : (b2, cel (p.cells v) T.t_api_Program) ∈ (b4, cel [vI 0, vI 0] T.t_api_Site) :: (b2, cel (p.cells v) T.t_api_Program) :: H := .tail _ (.head _)
  have hX : ∀ x, x ∈ X → x ∈ (b4, cel [vI 0, vI 0] T.t_api_Site) :: (b2, cel (p.cells v) T.t_api_Program) :: H := fun x hx => .tail _ (.tail _ (hX x hx))
  generalize (b4, cel [vI 0, vI 0] T.t_api_Site) :: (b2, cel (p.cells v) T.t_api_Program) :: H = G at *
  refine ⟨fun t w => ∃ n : Nat, t = [vI n] ∧ n ≤ p.fs.length ∧ (∀ n' m f i, n' < n → p.fs[n']? = some f → f.code[m]? = some i → fineI p f m i = true) ∧ Ow B w G, fun t _ => match t with | [.int _ n] => p.fs.length - n.toNat | _ => 0, ⟨0, rfl, Nat.zero_le _, fun n' m f i hj => absurd hj (by omega), h3⟩, ?_⟩
  rintro t w4 ⟨n, rfl, hn, hall, h4⟩ j
  repeat (first | refine pu_not ?_ | refine pu_eql ?_ | refine pu_neq ?_ | refine pu_lss ?_ | refine pu_leq ?_ | refine pu_gtr ?_ | refine pu_geq ?_ | refine pu_add ?_ | refine pu_sub ?_ | refine pu_mul ?_ | refine pu_neg ?_ | refine fa_at ?_ | refine nl_ptr ?_ | refine ex20 ?_ | refine ex21 ?_ | refine ex30 ?_ | refine ex31 ?_ | refine ex32 ?_ | refine ln_rule ?_ | refine lnT_rule ?_ | refine pu_and ?_ | refine pu_or ?_ | refine pu_xor ?_ | refine pu_seq ?_ | refine pu_sne ?_)
  refine ld_here h4 m2 (v := v) rfl ?_
  refine hv.ln ?_
  repeat (first | refine pu_not ?_ | refine pu_eql ?_ | refine pu_neq ?_ | refine pu_lss ?_ | refine pu_leq ?_ | refine pu_gtr ?_ | refine pu_geq ?_ | refine pu_add ?_ | refine pu_sub ?_ | refine pu_mul ?_ | refine pu_neg ?_ | refine fa_at ?_ | refine nl_ptr ?_ | refine ex20 ?_ | refine ex21 ?_ | refine ex30 ?_ | refine ex31 ?_ | refine ex32 ?_ | refine ln_rule ?_ | refine lnT_rule ?_ | refine pu_and ?_ | refine pu_or ?_ | refine pu_xor ?_ | refine pu_seq ?_ | refine pu_sne ?_)
  refine cnd (fun hlt => ?_) (fun hlt => ?_)
  · have hlt : n < p.fs.length := by simpa using hlt
    obtain ⟨ps, c, f, f1, f2, f3, f4, f5⟩ := hv.at (n := (n : Int)) (by omega) (by omega)
    rw [Int.toNat_natCast] at f1
    have hff := hnf.2.2 f (List.mem_of_getElem? f1)
    refine ⟨fun t w => ∃ m : Nat, t = [vI m] ∧ m ≤ f.code.length ∧ (∀ m' i, m' < m → f.code[m']? = some i → fineI p f m' i = true) ∧ Ow B w G, fun t _ => match t with | [.int _ m] => f.code.length - m.toNat | _ => 0, ⟨0, rfl, Nat.zero_le _, fun m' i hj => absurd hj (by omega), h4⟩, ?_⟩
    rintro t w5 ⟨m, rfl, hm, hall2, h5⟩ j2
    repeat (first | refine pu_not ?_ | refine pu_eql ?_ | refine pu_neq ?_ | refine pu_lss ?_ | refine pu_leq ?_ | refine pu_gtr ?_ | refine pu_geq ?_ | refine pu_add ?_ | refine pu_sub ?_ | refine pu_mul ?_ | refine pu_neg ?_ | refine fa_at ?_ | refine nl_ptr ?_ | refine ex20 ?_ | refine ex21 ?_ | refine ex30 ?_ | refine ex31 ?_ | refine ex32 ?_ | refine ln_rule ?_ | refine lnT_rule ?_ | refine pu_and ?_ | refine pu_or ?_ | refine pu_xor ?_ | refine pu_seq ?_ | refine pu_sne ?_)
    refine ld_here h5 m2 (v := v) rfl ?_
    refine sls_fld h5 (f2.mono hX) (by omega) f3 (j := 1) (v := c) rfl ?_
    refine sls_ln f4 ?_
    rw [icode_len]
    repeat (first | refine pu_not ?_ | refine pu_eql ?_ | refine pu_neq ?_ | refine pu_lss ?_ | refine pu_leq ?_ | refine pu_gtr ?_ | refine pu_geq ?_ | refine pu_add ?_ | refine pu_sub ?_ | refine pu_mul ?_ | refine pu_neg ?_ | refine fa_at ?_ | refine nl_ptr ?_ | refine ex20 ?_ | refine ex21 ?_ | refine ex30 ?_ | refine ex31 ?_ | refine ex32 ?_ | refine ln_rule ?_ | refine lnT_rule ?_ | refine pu_and ?_ | refine pu_or ?_ | refine pu_xor ?_ | refine pu_seq ?_ | refine pu_sne ?_)
    refine cnd (fun hlt2 => ?_) (fun hlt2 => ?_)
    · have hlt2 : m < f.code.length := by simpa using hlt2
      have hi := List.getElem?_eq_getElem hlt2
      refine ldn_here h5 m2 (vs := p.cells v) rfl rfl ?_
      refine fine09_spec hv hX f1 hi h5 (fun w6 h6 => ?_)
      repeat (first | refine pu_not ?_ | refine pu_eql ?_ | refine pu_neq ?_ | refine pu_lss ?_ | refine pu_leq ?_ | refine pu_gtr ?_ | refine pu_geq ?_ | refine pu_add ?_ | refine pu_sub ?_ | refine pu_mul ?_ | refine pu_neg ?_ | refine fa_at ?_ | refine nl_ptr ?_ | refine ex20 ?_ | refine ex21 ?_ | refine ex30 ?_ | refine ex31 ?_ | refine ex32 ?_ | refine ln_rule ?_ | refine lnT_rule ?_ | refine pu_and ?_ | refine pu_or ?_ | refine pu_xor ?_ | refine pu_seq ?_ | refine pu_sne ?_)
      refine cnd (fun hb => ?_) (fun hb => ?_)
      · have hb : fineI p f m f.code[m] = false := by simpa using hb
        refine pu_build [vI n, vI m] (by kernel_rfl) ?_
        exact fin h6 (bad_some f1 hi hb)
      · have hb : fineI p f m f.code[m] = true := by simpa using hb
        repeat (first | refine pu_not ?_ | refine pu_eql ?_ | refine pu_neq ?_ | refine pu_lss ?_ | refine pu_leq ?_ | refine pu_gtr ?_ | refine pu_geq ?_ | refine pu_add ?_ | refine pu_sub ?_ | refine pu_mul ?_ | refine pu_neg ?_ | refine fa_at ?_ | refine nl_ptr ?_ | refine ex20 ?_ | refine ex21 ?_ | refine ex30 ?_ | refine ex31 ?_ | refine ex32 ?_ | refine ln_rule ?_ | refine lnT_rule ?_ | refine pu_and ?_ | refine pu_or ?_ | refine pu_xor ?_ | refine pu_seq ?_ | refine pu_sne ?_)
        rw [wrap64_in (by omega) (by omega)]
        refine ⟨⟨m + 1, rfl, hlt2, fun m' i hj hg => ?_, h6⟩, by simp; omega⟩
        rcases Nat.lt_succ_iff_lt_or_eq.1 hj with hj | rfl
        · exact hall2 m' i hj hg
        · rw [hi] at hg
          cases hg
          exact hb
    · obtain rfl : m = f.code.length := by simp at hlt2; omega
      repeat (first | refine pu_not ?_ | refine pu_eql ?_ | refine pu_neq ?_ | refine pu_lss ?_ | refine pu_leq ?_ | refine pu_gtr ?_ | refine pu_geq ?_ | refine pu_add ?_ | refine pu_sub ?_ | refine pu_mul ?_ | refine pu_neg ?_ | refine fa_at ?_ | refine nl_ptr ?_ | refine ex20 ?_ | refine ex21 ?_ | refine ex30 ?_ | refine ex31 ?_ | refine ex32 ?_ | refine ln_rule ?_ | refine lnT_rule ?_ | refine pu_and ?_ | refine pu_or ?_ | refine pu_xor ?_ | refine pu_seq ?_ | refine pu_sne ?_)
      rw [wrap64_in (by omega) (by omega)]
      refine ⟨⟨n + 1, rfl, hlt, fun n' m f' i hj hf' hi => ?_, h5⟩, by simp; omega⟩
      rcases Nat.lt_succ_iff_lt_or_eq.1 hj with hj | rfl
      · exact hall n' m f' i hj hf' hi
      · rw [f1] at hf'
        cases hf'
        exact hall2 m i (List.getElem?_eq_some_iff.1 hi).1 hi
  · obtain rfl : n = p.fs.length := by simp at hlt; omega
    refine pu_build [vI 0, vI 0] (by kernel_rfl) ?_
    refine fin h4 ?_
    rw [bad_none fun n m f i hf hi => hall n m f i (List.getElem?_eq_some_iff.1 hf).1 hf hi]
    rfl
theorem right09_spec (hv : fsIn X v p.fs) (hX : ∀ x, x ∈ X → x ∈ H) (h : Ow B w H) (k : ∀ w', Ow B w' H → K (vB (okP' p)) w') : callW PG N.linesmanref09_Right [.agg (p.cells v).toArray] K PK w := by
  refine linesmanref09_Right.ok ?_
  unfold linesmanref09_Right.C
  refine al_rule h (l := p.cells v) rfl (fun b2 w1 h1 => ?_)
  refine ldn_here h1 (.head _) (vs := p.cells v) rfl rfl ?_
  refine wrong09_spec hv (fun x hx => .tail _ (hX x hx)) h1 (fun a b w2 h2 => ?_)
  repeat (first | refine pu_not ?_ | refine pu_eql ?_ | refine pu_neq ?_ | refine pu_lss ?_ | refine pu_leq ?_ | refine pu_gtr ?_ | refine pu_geq ?_ | refine pu_add ?_ | refine pu_sub ?_ | refine pu_mul ?_ | refine pu_neg ?_ | refine fa_at ?_ | refine nl_ptr ?_ | refine ex20 ?_ | refine ex21 ?_ | refine ex30 ?_ | refine ex31 ?_ | refine ex32 ?_ | refine ln_rule ?_ | refine lnT_rule ?_ | refine pu_and ?_ | refine pu_or ?_ | refine pu_xor ?_ | refine pu_seq ?_ | refine pu_sne ?_)
  refine al_rule h2 (l := [vI 0, vI 0]) (by kernel_rfl) (fun b4 w3 h3 => ?_)
  refine st_here (A := []) h3 [vI a, vI b] rfl rfl rfl (by simp) (fun w4 h4 => ?_)
  refine ldn_here h4 (.tail _ (.head _)) (vs := p.cells v) rfl rfl ?_
  refine numbers09_spec hv (fun x hx => .tail _ (.tail _ (hX x hx))) h4 (fun w5 h5 => ?_)
  unfold okP' at k
  refine cnd (fun hq => ?_) (fun hq => ?_)
  · repeat (first | refine pu_not ?_ | refine pu_eql ?_ | refine pu_neq ?_ | refine pu_lss ?_ | refine pu_leq ?_ | refine pu_gtr ?_ | refine pu_geq ?_ | refine pu_add ?_ | refine pu_sub ?_ | refine pu_mul ?_ | refine pu_neg ?_ | refine fa_at ?_ | refine nl_ptr ?_ | refine ex20 ?_ | refine ex21 ?_ | refine ex30 ?_ | refine ex31 ?_ | refine ex32 ?_ | refine ln_rule ?_ | refine lnT_rule ?_ | refine pu_and ?_ | refine pu_or ?_ | refine pu_xor ?_ | refine pu_seq ?_ | refine pu_sne ?_)
    unfold wrong09
    rw [hq, Bool.true_and] at k ⊢
    have e : (!(badS p).isSome) = (badS p).isNone := by cases badS p <;> rfl
    rw [e]
    exact k _ (Ow.drop (Ow.drop h5))
  · rw [hq, Bool.false_and] at k
    exact k _ (Ow.drop (Ow.drop h5))
end
end Go.Proofs.YtkkkcafkepnecaaGreat

