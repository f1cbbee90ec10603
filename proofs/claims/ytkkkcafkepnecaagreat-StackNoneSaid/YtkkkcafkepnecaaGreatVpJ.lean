/- Programs: which are the same; how much there is. -/
import Derived.Test.YtkkkcafkepnecaaGreatVpI
import Derived.Test.YtkkkcafkepnecaaGreatVnZ
set_option linter.unusedVariables false
set_option linter.unusedSimpArgs false
namespace Go.Proofs.YtkkkcafkepnecaaGreat
open Go Go.RowKit Vc
attribute [local irreducible] binV Op.unary convert nlW faW ldS ldW ixS ixA ixV ixT exW lnS lnT pu stW alW opW opU bsW mkW
deriving instance DecidableEq for Fun
deriving instance DecidableEq for Pr

section
variable {B w : World} {H X : Hp} {K : Value → World → Prop} {PK : List PanicEntry → World → Prop} {KK : Value → Prop} {v v' : Value} {p q : Pr}
theorem icode_at {l : List Ins} {n : Nat} (h : n < l.length) : (icode l)[(n : Int).toNat]? = some l[n].cells := by
  rw [Int.toNat_natCast, List.getElem?_map, List.getElem?_eq_getElem h]; rfl
/-- The lists of instructions are gone over, side by side. -/
theorem equal_spec {s s' : Value} {xs ys : List Ins} (h : Ow B w H) (hs : Sls H s 5 (icode xs)) (hs' : Sls H s' 5 (icode ys))
    (k : ∀ w', Ow B w' H → K (vB (decide (xs = ys))) w') : callW PG N.slices_Equal_sl_api_Ins_api_Ins [s, s'] K PK w := by
  refine slices_Equal_sl_api_Ins_api_Ins.ok ?_
  unfold slices_Equal_sl_api_Ins_api_Ins.C
  have hmax := hs.max
  have hl : ∀ l : List Ins, (icode l).length = l.length := fun l => List.length_map _
  rw [hl] at hmax
  simp only [maxLen] at hmax
  refine sls_ln hs ?_
  refine sls_ln hs' ?_
  rw [hl, hl]
  repeat (first | refine pu_not ?_ | refine pu_eql ?_ | refine pu_neq ?_ | refine pu_lss ?_ | refine pu_leq ?_ | refine pu_gtr ?_ | refine pu_geq ?_ | refine pu_add ?_ | refine pu_sub ?_ | refine pu_mul ?_ | refine pu_neg ?_ | refine fa_at ?_ | refine nl_ptr ?_ | refine ex20 ?_ | refine ex21 ?_ | refine ex30 ?_ | refine ex31 ?_ | refine ex32 ?_ | refine ln_rule ?_ | refine lnT_rule ?_ | refine pu_and ?_ | refine pu_or ?_ | refine pu_xor ?_ | refine pu_seq ?_ | refine pu_sne ?_)
  refine cnd (fun hne => ?_) (fun heq => ?_)
  · have e : decide (xs = ys) = false := by
      simp only [decide_eq_false_iff_not]
      rintro rfl
      simp at hne
    rw [e] at k; exact k _ h
  · have heq : xs.length = ys.length := by simp at heq; omega
    refine sls_ln hs ?_
    rw [hl]
    refine ⟨fun l w => ∃ i : Nat, l = [vI i] ∧ i ≤ xs.length ∧ (∀ j, j < i → xs[j]? = ys[j]?) ∧ Ow B w H,
      fun l _ => match l with | [.int _ n] => xs.length - n.toNat | _ => 0, ⟨0, rfl, Nat.zero_le _, fun j hj => absurd hj (by omega), h⟩, ?_⟩
    rintro l w3 ⟨i, rfl, hi, hall, h3⟩ j
    repeat (first | refine pu_not ?_ | refine pu_eql ?_ | refine pu_neq ?_ | refine pu_lss ?_ | refine pu_leq ?_ | refine pu_gtr ?_ | refine pu_geq ?_ | refine pu_add ?_ | refine pu_sub ?_ | refine pu_mul ?_ | refine pu_neg ?_ | refine fa_at ?_ | refine nl_ptr ?_ | refine ex20 ?_ | refine ex21 ?_ | refine ex30 ?_ | refine ex31 ?_ | refine ex32 ?_ | refine ln_rule ?_ | refine lnT_rule ?_ | refine pu_and ?_ | refine pu_or ?_ | refine pu_xor ?_ | refine pu_seq ?_ | refine pu_sne ?_)
    refine cnd (fun hlt => ?_) (fun hlt => ?_)
    · have hlt : i < xs.length := by simpa using hlt
      refine ⟨fun w => Ow B w H, h3.drew, ?_⟩
      refine sls_lds (fun w h => h) hs (by omega) (icode_at hlt) ?_
      refine sls_lds (fun w h => h) hs' (by omega) (icode_at (heq ▸ hlt)) ?_
      refine pu_aneq (by kernel_rfl) (eq_ins _ _) ?_
      refine cnd (fun hne => ?_) (fun he => ?_)
      · have e : decide (xs = ys) = false := by
          simp only [decide_eq_false_iff_not]
          rintro rfl
          simp at hne
        rw [e] at k; exact k _ h3.drew
      · have he : xs[i] = ys[i] := by simpa using he
        repeat (first | refine pu_not ?_ | refine pu_eql ?_ | refine pu_neq ?_ | refine pu_lss ?_ | refine pu_leq ?_ | refine pu_gtr ?_ | refine pu_geq ?_ | refine pu_add ?_ | refine pu_sub ?_ | refine pu_mul ?_ | refine pu_neg ?_ | refine fa_at ?_ | refine nl_ptr ?_ | refine ex20 ?_ | refine ex21 ?_ | refine ex30 ?_ | refine ex31 ?_ | refine ex32 ?_ | refine ln_rule ?_ | refine lnT_rule ?_ | refine pu_and ?_ | refine pu_or ?_ | refine pu_xor ?_ | refine pu_seq ?_ | refine pu_sne ?_)
        rw [wrap64_in (by omega) (by omega)]
        refine ⟨⟨i + 1, rfl, hlt, fun j hj => ?_, h3.drew⟩, by simp; omega⟩
        rcases Nat.lt_succ_iff_lt_or_eq.1 hj with hj | rfl
        · exact hall j hj
        · rw [List.getElem?_eq_getElem hlt, List.getElem?_eq_getElem (heq ▸ hlt), he]
    · have e : decide (xs = ys) = true := by
        simp only [decide_eq_true_eq]
        refine List.ext_getElem? fun j => ?_
        by_cases hj : j < xs.length
        · exact hall j (by simp at hlt; omega)
        · rw [List.getElem?_eq_none (by omega), List.getElem?_eq_none (by omega)]
      rw [e] at k; exact k _ h3
theorem fun_ne {f g : Fun} : decide (f = g) = (decide (f.regs = g.regs) && decide (f.code = g.code)) := by
  cases f; cases g
  simp [Bool.decide_and]
theorem same1_pf {f g : Fun} {c d : Value} (hc : Sls H c 5 (icode f.code)) (hd : Sls H d 5 (icode g.code)) : PF PG B H (fnc N.program_Same_1 #[]) [.agg #[vI f.regs, c], .agg #[vI g.regs, d]] (vB (decide (f = g))) := fun Z K PK w hw k => by
  refine callV_fn program_Same_1.okf (program_Same_1.ok ?_)
  unfold program_Same_1.C
  rw [fun_ne] at k
  refine al_rule hw (l := [vI f.regs, c]) rfl (fun b2 w1 h1 => ?_)
  refine al_rule h1 (l := [vI g.regs, d]) rfl (fun b4 w2 h2 => ?_)
  repeat (first | refine pu_not ?_ | refine pu_eql ?_ | refine pu_neq ?_ | refine pu_lss ?_ | refine pu_leq ?_ | refine pu_gtr ?_ | refine pu_geq ?_ | refine pu_add ?_ | refine pu_sub ?_ | refine pu_mul ?_ | refine pu_neg ?_ | refine fa_at ?_ | refine nl_ptr ?_ | refine ex20 ?_ | refine ex21 ?_ | refine ex30 ?_ | refine ex31 ?_ | refine ex32 ?_ | refine ln_rule ?_ | refine lnT_rule ?_ | refine pu_and ?_ | refine pu_or ?_ | refine pu_xor ?_ | refine pu_seq ?_ | refine pu_sne ?_)
  refine ld_here h2 (.tail _ (.head _)) (v := vI f.regs) rfl ?_
  repeat (first | refine pu_not ?_ | refine pu_eql ?_ | refine pu_neq ?_ | refine pu_lss ?_ | refine pu_leq ?_ | refine pu_gtr ?_ | refine pu_geq ?_ | refine pu_add ?_ | refine pu_sub ?_ | refine pu_mul ?_ | refine pu_neg ?_ | refine fa_at ?_ | refine nl_ptr ?_ | refine ex20 ?_ | refine ex21 ?_ | refine ex30 ?_ | refine ex31 ?_ | refine ex32 ?_ | refine ln_rule ?_ | refine lnT_rule ?_ | refine pu_and ?_ | refine pu_or ?_ | refine pu_xor ?_ | refine pu_seq ?_ | refine pu_sne ?_)
  refine ld_here h2 (.head _) (v := vI g.regs) rfl ?_
  repeat (first | refine pu_not ?_ | refine pu_eql ?_ | refine pu_neq ?_ | refine pu_lss ?_ | refine pu_leq ?_ | refine pu_gtr ?_ | refine pu_geq ?_ | refine pu_add ?_ | refine pu_sub ?_ | refine pu_mul ?_ | refine pu_neg ?_ | refine fa_at ?_ | refine nl_ptr ?_ | refine ex20 ?_ | refine ex21 ?_ | refine ex30 ?_ | refine ex31 ?_ | refine ex32 ?_ | refine ln_rule ?_ | refine lnT_rule ?_ | refine pu_and ?_ | refine pu_or ?_ | refine pu_xor ?_ | refine pu_seq ?_ | refine pu_sne ?_)
  refine cnd (fun hq => ?_) (fun hq => ?_)
  · have hq : f.regs = g.regs := by simpa using hq
    rw [decide_eq_true hq, Bool.true_and] at k
    repeat (first | refine pu_not ?_ | refine pu_eql ?_ | refine pu_neq ?_ | refine pu_lss ?_ | refine pu_leq ?_ | refine pu_gtr ?_ | refine pu_geq ?_ | refine pu_add ?_ | refine pu_sub ?_ | refine pu_mul ?_ | refine pu_neg ?_ | refine fa_at ?_ | refine nl_ptr ?_ | refine ex20 ?_ | refine ex21 ?_ | refine ex30 ?_ | refine ex31 ?_ | refine ex32 ?_ | refine ln_rule ?_ | refine lnT_rule ?_ | refine pu_and ?_ | refine pu_or ?_ | refine pu_xor ?_ | refine pu_seq ?_ | refine pu_sne ?_)
    refine ld_here h2 (.tail _ (.head _)) (v := c) rfl ?_
    repeat (first | refine pu_not ?_ | refine pu_eql ?_ | refine pu_neq ?_ | refine pu_lss ?_ | refine pu_leq ?_ | refine pu_gtr ?_ | refine pu_geq ?_ | refine pu_add ?_ | refine pu_sub ?_ | refine pu_mul ?_ | refine pu_neg ?_ | refine fa_at ?_ | refine nl_ptr ?_ | refine ex20 ?_ | refine ex21 ?_ | refine ex30 ?_ | refine ex31 ?_ | refine ex32 ?_ | refine ln_rule ?_ | refine lnT_rule ?_ | refine pu_and ?_ | refine pu_or ?_ | refine pu_xor ?_ | refine pu_seq ?_ | refine pu_sne ?_)
    refine ld_here h2 (.head _) (v := d) rfl ?_
    refine equal_spec h2 (hc.mono fun x hx => .tail _ (.tail _ (List.mem_append_right _ hx))) (hd.mono fun x hx => .tail _ (.tail _ (List.mem_append_right _ hx))) (fun w3 h3 => ?_)
    exact k _ h3.drop.drop
  · have hq : ¬ f.regs = g.regs := by simpa using hq
    rw [decide_eq_false hq, Bool.false_and] at k
    exact k _ h2.drop.drop
theorem equalFunc_spec {fs gs : List Fun} (h : Ow B w H) (hv : fsIn H v fs) (hv' : fsIn H v' gs) (k : ∀ w', Ow B w' H → K (vB (decide (fs = gs))) w') :
    callW PG N.slices_EqualFunc_sl_api_Func_sl_api_Func_api_Func_api_Func [v, v', fnc N.program_Same_1 #[]] K PK w := by
  refine slices_EqualFunc_sl_api_Func_sl_api_Func_api_Func_api_Func.ok ?_
  unfold slices_EqualFunc_sl_api_Func_sl_api_Func_api_Func_api_Func.C
  have hmax : fs.length ≤ 9223372036854775807 := by
    obtain ⟨ps, e1, e2, e3⟩ := hv
    have := e2.max
    rw [← e1]
    simp only [frows, List.length_map, maxLen] at this ⊢
    omega
  refine hv.ln ?_
  refine hv'.ln ?_
  repeat (first | refine pu_not ?_ | refine pu_eql ?_ | refine pu_neq ?_ | refine pu_lss ?_ | refine pu_leq ?_ | refine pu_gtr ?_ | refine pu_geq ?_ | refine pu_add ?_ | refine pu_sub ?_ | refine pu_mul ?_ | refine pu_neg ?_ | refine fa_at ?_ | refine nl_ptr ?_ | refine ex20 ?_ | refine ex21 ?_ | refine ex30 ?_ | refine ex31 ?_ | refine ex32 ?_ | refine ln_rule ?_ | refine lnT_rule ?_ | refine pu_and ?_ | refine pu_or ?_ | refine pu_xor ?_ | refine pu_seq ?_ | refine pu_sne ?_)
  refine cnd (fun hne => ?_) (fun heq => ?_)
  · have e : decide (fs = gs) = false := by
      simp only [decide_eq_false_iff_not]
      rintro rfl
      simp at hne
    rw [e] at k; exact k _ h
  have heq : fs.length = gs.length := by simp at heq; omega
  refine hv.ln ?_
  refine ⟨fun l w => ∃ i : Nat, l = [vI i] ∧ i ≤ fs.length ∧ (∀ j, j < i → fs[j]? = gs[j]?) ∧ Ow B w H,
    fun l _ => match l with | [.int _ n] => fs.length - n.toNat | _ => 0, ⟨0, rfl, Nat.zero_le _, fun j hj => absurd hj (by omega), h⟩, ?_⟩
  rintro l w3 ⟨i, rfl, hi, hall, h3⟩ j
  repeat (first | refine pu_not ?_ | refine pu_eql ?_ | refine pu_neq ?_ | refine pu_lss ?_ | refine pu_leq ?_ | refine pu_gtr ?_ | refine pu_geq ?_ | refine pu_add ?_ | refine pu_sub ?_ | refine pu_mul ?_ | refine pu_neg ?_ | refine fa_at ?_ | refine nl_ptr ?_ | refine ex20 ?_ | refine ex21 ?_ | refine ex30 ?_ | refine ex31 ?_ | refine ex32 ?_ | refine ln_rule ?_ | refine lnT_rule ?_ | refine pu_and ?_ | refine pu_or ?_ | refine pu_xor ?_ | refine pu_seq ?_ | refine pu_sne ?_)
  refine cnd (fun hlt => ?_) (fun hlt => ?_)
  · have hlt : i < fs.length := by simpa using hlt
    obtain ⟨ps, c, f, f1, f2, f3, f4, f5⟩ := hv.at (n := (i : Int)) (by omega) (by omega)
    obtain ⟨ps', c', g, g1, g2, g3, g4, g5⟩ := hv'.at (n := (i : Int)) (by omega) (by omega)
    rw [Int.toNat_natCast] at f1 g1
    refine sls_ld h3 f2 (by omega) f3 ?_
    refine al_rule h3 (l := [vI 0, .slice none 0 0]) (by kernel_rfl) (fun bx w4 h4 => ?_)
    refine st_here (A := []) h4 [vI f.regs, c] rfl rfl (by simp only [List.all_cons, sls_plain f4]; rfl) (by simp) (fun w5 h5 => ?_)
    simp only [List.take_zero, List.nil_append, Nat.zero_add, List.drop_succ_cons, List.drop_zero, List.drop_nil, List.append_nil] at h5
    refine sls_ld h5 (g2.mono fun x hx => .tail _ hx) (by omega) g3 ?_
    refine al_rule h5 (l := [vI 0, .slice none 0 0]) (by kernel_rfl) (fun by' w6 h6 => ?_)
    refine st_here (A := []) h6 [vI g.regs, c'] rfl rfl (by simp only [List.all_cons, sls_plain g4]; rfl) (by simp) (fun w7 h7 => ?_)
    simp only [List.take_zero, List.nil_append, Nat.zero_add, List.drop_succ_cons, List.drop_zero, List.drop_nil, List.append_nil] at h7
    refine ldn_here h7 (.tail _ (.head _)) (vs := [vI f.regs, c]) rfl rfl ?_
    refine ldn_here h7 (.head _) (vs := [vI g.regs, c']) rfl rfl ?_
    refine same1_pf f4 g4 [_, _] _ _ _ h7 (fun w8 h8 => ?_)
    have h8 : Ow B w8 H := Ow.drop (Ow.drop h8)
    repeat (first | refine pu_not ?_ | refine pu_eql ?_ | refine pu_neq ?_ | refine pu_lss ?_ | refine pu_leq ?_ | refine pu_gtr ?_ | refine pu_geq ?_ | refine pu_add ?_ | refine pu_sub ?_ | refine pu_mul ?_ | refine pu_neg ?_ | refine fa_at ?_ | refine nl_ptr ?_ | refine ex20 ?_ | refine ex21 ?_ | refine ex30 ?_ | refine ex31 ?_ | refine ex32 ?_ | refine ln_rule ?_ | refine lnT_rule ?_ | refine pu_and ?_ | refine pu_or ?_ | refine pu_xor ?_ | refine pu_seq ?_ | refine pu_sne ?_)
    refine cnd (fun hn => ?_) (fun hn => ?_)
    · have hn : ¬ f = g := by simpa using hn
      have : decide (fs = gs) = false := decide_eq_false fun h => by
        rw [h, g1] at f1
        exact hn (Option.some.inj f1).symm
      rw [this] at k
      exact k _ h8
    · have hn : f = g := by simpa using hn
      repeat (first | refine pu_not ?_ | refine pu_eql ?_ | refine pu_neq ?_ | refine pu_lss ?_ | refine pu_leq ?_ | refine pu_gtr ?_ | refine pu_geq ?_ | refine pu_add ?_ | refine pu_sub ?_ | refine pu_mul ?_ | refine pu_neg ?_ | refine fa_at ?_ | refine nl_ptr ?_ | refine ex20 ?_ | refine ex21 ?_ | refine ex30 ?_ | refine ex31 ?_ | refine ex32 ?_ | refine ln_rule ?_ | refine lnT_rule ?_ | refine pu_and ?_ | refine pu_or ?_ | refine pu_xor ?_ | refine pu_seq ?_ | refine pu_sne ?_)
      rw [wrap64_in (by omega) (by omega)]
      refine ⟨⟨i + 1, rfl, hlt, fun j hj => ?_, h8⟩, by simp; omega⟩
      rcases Nat.lt_succ_iff_lt_or_eq.1 hj with hj | rfl
      · exact hall j hj
      · rw [f1, g1, hn]
  · have : decide (fs = gs) = true := by
      simp only [decide_eq_true_eq]
      refine List.ext_getElem? fun j => ?_
      by_cases hj : j < fs.length
      · exact hall j (by simp at hlt; omega)
      · rw [List.getElem?_eq_none (by omega), List.getElem?_eq_none (by omega)]
    rw [this] at k
    exact k _ h3
theorem pr_ne : decide (p = q) = (decide (p.mu = q.mu) && (decide (p.rw = q.rw) && (decide (p.gr = q.gr) && decide (p.fs = q.fs)))) := by
  cases p; cases q
  by_cases h1 : ‹Int› = ‹Int› <;> simp [Bool.decide_and]
  all_goals (rw [Bool.eq_iff_iff]; simp; constructor <;> (intro h; obtain ⟨a, b, c, d⟩ := h; exact ⟨by assumption, by assumption, by assumption, by assumption⟩))
theorem same_spec (hv : fsIn X v p.fs) (hv' : fsIn X v' q.fs) (hX : ∀ x, x ∈ X → x ∈ H) (h : Ow B w H) (k : ∀ w', Ow B w' H → K (vB (decide (p = q))) w') : callW PG N.program_Same [.agg (p.cells v).toArray, .agg (q.cells v').toArray] K PK w := by
  refine program_Same.ok ?_
  unfold program_Same.C
  rw [pr_ne] at k
  refine al_rule h (l := p.cells v) rfl (fun b2 w1 h1 => ?_)
  refine al_rule h1 (l := q.cells v') rfl (fun b4 w2 h2 => ?_)
  have hXX : ∀ x, x ∈ X → x ∈ (b4, cel (q.cells v') T.t_api_Program) :: (b2, cel (p.cells v) T.t_api_Program) :: H := fun x hx => .tail _ (.tail _ (hX x hx))
  repeat (first | refine pu_not ?_ | refine pu_eql ?_ | refine pu_neq ?_ | refine pu_lss ?_ | refine pu_leq ?_ | refine pu_gtr ?_ | refine pu_geq ?_ | refine pu_add ?_ | refine pu_sub ?_ | refine pu_mul ?_ | refine pu_neg ?_ | refine fa_at ?_ | refine nl_ptr ?_ | refine ex20 ?_ | refine ex21 ?_ | refine ex30 ?_ | refine ex31 ?_ | refine ex32 ?_ | refine ln_rule ?_ | refine lnT_rule ?_ | refine pu_and ?_ | refine pu_or ?_ | refine pu_xor ?_ | refine pu_seq ?_ | refine pu_sne ?_)
  refine ld_here h2 (.tail _ (.head _)) (v := vI p.mu) rfl ?_
  repeat (first | refine pu_not ?_ | refine pu_eql ?_ | refine pu_neq ?_ | refine pu_lss ?_ | refine pu_leq ?_ | refine pu_gtr ?_ | refine pu_geq ?_ | refine pu_add ?_ | refine pu_sub ?_ | refine pu_mul ?_ | refine pu_neg ?_ | refine fa_at ?_ | refine nl_ptr ?_ | refine ex20 ?_ | refine ex21 ?_ | refine ex30 ?_ | refine ex31 ?_ | refine ex32 ?_ | refine ln_rule ?_ | refine lnT_rule ?_ | refine pu_and ?_ | refine pu_or ?_ | refine pu_xor ?_ | refine pu_seq ?_ | refine pu_sne ?_)
  refine ld_here h2 (.head _) (v := vI q.mu) rfl ?_
  repeat (first | refine pu_not ?_ | refine pu_eql ?_ | refine pu_neq ?_ | refine pu_lss ?_ | refine pu_leq ?_ | refine pu_gtr ?_ | refine pu_geq ?_ | refine pu_add ?_ | refine pu_sub ?_ | refine pu_mul ?_ | refine pu_neg ?_ | refine fa_at ?_ | refine nl_ptr ?_ | refine ex20 ?_ | refine ex21 ?_ | refine ex30 ?_ | refine ex31 ?_ | refine ex32 ?_ | refine ln_rule ?_ | refine lnT_rule ?_ | refine pu_and ?_ | refine pu_or ?_ | refine pu_xor ?_ | refine pu_seq ?_ | refine pu_sne ?_)
  refine cnd (fun hq => ?_) (fun hq => ?_)
  · have hq : p.mu = q.mu := by simpa using hq
    rw [decide_eq_true hq, Bool.true_and] at k
    repeat (first | refine pu_not ?_ | refine pu_eql ?_ | refine pu_neq ?_ | refine pu_lss ?_ | refine pu_leq ?_ | refine pu_gtr ?_ | refine pu_geq ?_ | refine pu_add ?_ | refine pu_sub ?_ | refine pu_mul ?_ | refine pu_neg ?_ | refine fa_at ?_ | refine nl_ptr ?_ | refine ex20 ?_ | refine ex21 ?_ | refine ex30 ?_ | refine ex31 ?_ | refine ex32 ?_ | refine ln_rule ?_ | refine lnT_rule ?_ | refine pu_and ?_ | refine pu_or ?_ | refine pu_xor ?_ | refine pu_seq ?_ | refine pu_sne ?_)
    refine ld_here h2 (.tail _ (.head _)) (v := vI p.rw) rfl ?_
    repeat (first | refine pu_not ?_ | refine pu_eql ?_ | refine pu_neq ?_ | refine pu_lss ?_ | refine pu_leq ?_ | refine pu_gtr ?_ | refine pu_geq ?_ | refine pu_add ?_ | refine pu_sub ?_ | refine pu_mul ?_ | refine pu_neg ?_ | refine fa_at ?_ | refine nl_ptr ?_ | refine ex20 ?_ | refine ex21 ?_ | refine ex30 ?_ | refine ex31 ?_ | refine ex32 ?_ | refine ln_rule ?_ | refine lnT_rule ?_ | refine pu_and ?_ | refine pu_or ?_ | refine pu_xor ?_ | refine pu_seq ?_ | refine pu_sne ?_)
    refine ld_here h2 (.head _) (v := vI q.rw) rfl ?_
    repeat (first | refine pu_not ?_ | refine pu_eql ?_ | refine pu_neq ?_ | refine pu_lss ?_ | refine pu_leq ?_ | refine pu_gtr ?_ | refine pu_geq ?_ | refine pu_add ?_ | refine pu_sub ?_ | refine pu_mul ?_ | refine pu_neg ?_ | refine fa_at ?_ | refine nl_ptr ?_ | refine ex20 ?_ | refine ex21 ?_ | refine ex30 ?_ | refine ex31 ?_ | refine ex32 ?_ | refine ln_rule ?_ | refine lnT_rule ?_ | refine pu_and ?_ | refine pu_or ?_ | refine pu_xor ?_ | refine pu_seq ?_ | refine pu_sne ?_)
    refine cnd (fun hq => ?_) (fun hq => ?_)
    · have hq : p.rw = q.rw := by simpa using hq
      rw [decide_eq_true hq, Bool.true_and] at k
      repeat (first | refine pu_not ?_ | refine pu_eql ?_ | refine pu_neq ?_ | refine pu_lss ?_ | refine pu_leq ?_ | refine pu_gtr ?_ | refine pu_geq ?_ | refine pu_add ?_ | refine pu_sub ?_ | refine pu_mul ?_ | refine pu_neg ?_ | refine fa_at ?_ | refine nl_ptr ?_ | refine ex20 ?_ | refine ex21 ?_ | refine ex30 ?_ | refine ex31 ?_ | refine ex32 ?_ | refine ln_rule ?_ | refine lnT_rule ?_ | refine pu_and ?_ | refine pu_or ?_ | refine pu_xor ?_ | refine pu_seq ?_ | refine pu_sne ?_)
      refine ld_here h2 (.tail _ (.head _)) (v := vI p.gr) rfl ?_
      repeat (first | refine pu_not ?_ | refine pu_eql ?_ | refine pu_neq ?_ | refine pu_lss ?_ | refine pu_leq ?_ | refine pu_gtr ?_ | refine pu_geq ?_ | refine pu_add ?_ | refine pu_sub ?_ | refine pu_mul ?_ | refine pu_neg ?_ | refine fa_at ?_ | refine nl_ptr ?_ | refine ex20 ?_ | refine ex21 ?_ | refine ex30 ?_ | refine ex31 ?_ | refine ex32 ?_ | refine ln_rule ?_ | refine lnT_rule ?_ | refine pu_and ?_ | refine pu_or ?_ | refine pu_xor ?_ | refine pu_seq ?_ | refine pu_sne ?_)
      refine ld_here h2 (.head _) (v := vI q.gr) rfl ?_
      repeat (first | refine pu_not ?_ | refine pu_eql ?_ | refine pu_neq ?_ | refine pu_lss ?_ | refine pu_leq ?_ | refine pu_gtr ?_ | refine pu_geq ?_ | refine pu_add ?_ | refine pu_sub ?_ | refine pu_mul ?_ | refine pu_neg ?_ | refine fa_at ?_ | refine nl_ptr ?_ | refine ex20 ?_ | refine ex21 ?_ | refine ex30 ?_ | refine ex31 ?_ | refine ex32 ?_ | refine ln_rule ?_ | refine lnT_rule ?_ | refine pu_and ?_ | refine pu_or ?_ | refine pu_xor ?_ | refine pu_seq ?_ | refine pu_sne ?_)
      refine cnd (fun hq => ?_) (fun hq => ?_)
      · have hq : p.gr = q.gr := by simpa using hq
        rw [decide_eq_true hq, Bool.true_and] at k
        repeat (first | refine pu_not ?_ | refine pu_eql ?_ | refine pu_neq ?_ | refine pu_lss ?_ | refine pu_leq ?_ | refine pu_gtr ?_ | refine pu_geq ?_ | refine pu_add ?_ | refine pu_sub ?_ | refine pu_mul ?_ | refine pu_neg ?_ | refine fa_at ?_ | refine nl_ptr ?_ | refine ex20 ?_ | refine ex21 ?_ | refine ex30 ?_ | refine ex31 ?_ | refine ex32 ?_ | refine ln_rule ?_ | refine lnT_rule ?_ | refine pu_and ?_ | refine pu_or ?_ | refine pu_xor ?_ | refine pu_seq ?_ | refine pu_sne ?_)
        refine ld_here h2 (.tail _ (.head _)) (v := v) rfl ?_
        repeat (first | refine pu_not ?_ | refine pu_eql ?_ | refine pu_neq ?_ | refine pu_lss ?_ | refine pu_leq ?_ | refine pu_gtr ?_ | refine pu_geq ?_ | refine pu_add ?_ | refine pu_sub ?_ | refine pu_mul ?_ | refine pu_neg ?_ | refine fa_at ?_ | refine nl_ptr ?_ | refine ex20 ?_ | refine ex21 ?_ | refine ex30 ?_ | refine ex31 ?_ | refine ex32 ?_ | refine ln_rule ?_ | refine lnT_rule ?_ | refine pu_and ?_ | refine pu_or ?_ | refine pu_xor ?_ | refine pu_seq ?_ | refine pu_sne ?_)
        refine ld_here h2 (.head _) (v := v') rfl ?_
        refine equalFunc_spec h2 (hv.mono hXX) (hv'.mono hXX) (fun w3 h3 => ?_)
        exact k _ h3.drop.drop
      · have hq : ¬ p.gr = q.gr := by simpa using hq
        rw [decide_eq_false hq, Bool.false_and] at k
        exact k _ h2.drop.drop
    · have hq : ¬ p.rw = q.rw := by simpa using hq
      rw [decide_eq_false hq, Bool.false_and] at k
      exact k _ h2.drop.drop
  · have hq : ¬ p.mu = q.mu := by simpa using hq
    rw [decide_eq_false hq, Bool.false_and] at k
    exact k _ h2.drop.drop
theorem refSame_spec (hv : fsIn X v p.fs) (hv' : fsIn X v' q.fs) (hX : ∀ x, x ∈ X → x ∈ H) (h : Ow B w H) (k : ∀ w', Ow B w' H → K (vB (decide (p = q))) w') : callW PG N.linesmanref09_Same [.agg (p.cells v).toArray, .agg (q.cells v').toArray] K PK w := by
  refine linesmanref09_Same.ok ?_
  unfold linesmanref09_Same.C
  rw [pr_ne] at k
  refine al_rule h (l := p.cells v) rfl (fun b2 w1 h1 => ?_)
  refine al_rule h1 (l := q.cells v') rfl (fun b4 w2 h2 => ?_)
  have hXX : ∀ x, x ∈ X → x ∈ (b4, cel (q.cells v') T.t_api_Program) :: (b2, cel (p.cells v) T.t_api_Program) :: H := fun x hx => .tail _ (.tail _ (hX x hx))
  have hmax : p.fs.length ≤ 9223372036854775807 := by
    obtain ⟨ps, e1, e2, e3⟩ := hv
    have := e2.max
    rw [← e1]
    simp only [frows, List.length_map, maxLen] at this ⊢
    omega
  have hv : fsIn _ v p.fs := hv.mono hXX
  have hv' : fsIn _ v' q.fs := hv'.mono hXX
  repeat (first | refine pu_not ?_ | refine pu_eql ?_ | refine pu_neq ?_ | refine pu_lss ?_ | refine pu_leq ?_ | refine pu_gtr ?_ | refine pu_geq ?_ | refine pu_add ?_ | refine pu_sub ?_ | refine pu_mul ?_ | refine pu_neg ?_ | refine fa_at ?_ | refine nl_ptr ?_ | refine ex20 ?_ | refine ex21 ?_ | refine ex30 ?_ | refine ex31 ?_ | refine ex32 ?_ | refine ln_rule ?_ | refine lnT_rule ?_ | refine pu_and ?_ | refine pu_or ?_ | refine pu_xor ?_ | refine pu_seq ?_ | refine pu_sne ?_)
  refine ld_here h2 (.tail _ (.head _)) (v := vI p.mu) rfl ?_
  repeat (first | refine pu_not ?_ | refine pu_eql ?_ | refine pu_neq ?_ | refine pu_lss ?_ | refine pu_leq ?_ | refine pu_gtr ?_ | refine pu_geq ?_ | refine pu_add ?_ | refine pu_sub ?_ | refine pu_mul ?_ | refine pu_neg ?_ | refine fa_at ?_ | refine nl_ptr ?_ | refine ex20 ?_ | refine ex21 ?_ | refine ex30 ?_ | refine ex31 ?_ | refine ex32 ?_ | refine ln_rule ?_ | refine lnT_rule ?_ | refine pu_and ?_ | refine pu_or ?_ | refine pu_xor ?_ | refine pu_seq ?_ | refine pu_sne ?_)
  refine ld_here h2 (.head _) (v := vI q.mu) rfl ?_
  repeat (first | refine pu_not ?_ | refine pu_eql ?_ | refine pu_neq ?_ | refine pu_lss ?_ | refine pu_leq ?_ | refine pu_gtr ?_ | refine pu_geq ?_ | refine pu_add ?_ | refine pu_sub ?_ | refine pu_mul ?_ | refine pu_neg ?_ | refine fa_at ?_ | refine nl_ptr ?_ | refine ex20 ?_ | refine ex21 ?_ | refine ex30 ?_ | refine ex31 ?_ | refine ex32 ?_ | refine ln_rule ?_ | refine lnT_rule ?_ | refine pu_and ?_ | refine pu_or ?_ | refine pu_xor ?_ | refine pu_seq ?_ | refine pu_sne ?_)
  refine cnd (fun hq => ?_) (fun hq => ?_)
  · have hq : ¬ p.mu = q.mu := by simpa using hq
    rw [decide_eq_false hq, Bool.false_and] at k
    exact k _ h2.drop.drop
  have hq : p.mu = q.mu := by simpa using hq
  rw [decide_eq_true hq, Bool.true_and] at k
  repeat (first | refine pu_not ?_ | refine pu_eql ?_ | refine pu_neq ?_ | refine pu_lss ?_ | refine pu_leq ?_ | refine pu_gtr ?_ | refine pu_geq ?_ | refine pu_add ?_ | refine pu_sub ?_ | refine pu_mul ?_ | refine pu_neg ?_ | refine fa_at ?_ | refine nl_ptr ?_ | refine ex20 ?_ | refine ex21 ?_ | refine ex30 ?_ | refine ex31 ?_ | refine ex32 ?_ | refine ln_rule ?_ | refine lnT_rule ?_ | refine pu_and ?_ | refine pu_or ?_ | refine pu_xor ?_ | refine pu_seq ?_ | refine pu_sne ?_)
  refine ld_here h2 (.tail _ (.head _)) (v := vI p.rw) rfl ?_
  repeat (first | refine pu_not ?_ | refine pu_eql ?_ | refine pu_neq ?_ | refine pu_lss ?_ | refine pu_leq ?_ | refine pu_gtr ?_ | refine pu_geq ?_ | refine pu_add ?_ | refine pu_sub ?_ | refine pu_mul ?_ | refine pu_neg ?_ | refine fa_at ?_ | refine nl_ptr ?_ | refine ex20 ?_ | refine ex21 ?_ | refine ex30 ?_ | refine ex31 ?_ | refine ex32 ?_ | refine ln_rule ?_ | refine lnT_rule ?_ | refine pu_and ?_ | refine pu_or ?_ | refine pu_xor ?_ | refine pu_seq ?_ | refine pu_sne ?_)
  refine ld_here h2 (.head _) (v := vI q.rw) rfl ?_
  repeat (first | refine pu_not ?_ | refine pu_eql ?_ | refine pu_neq ?_ | refine pu_lss ?_ | refine pu_leq ?_ | refine pu_gtr ?_ | refine pu_geq ?_ | refine pu_add ?_ | refine pu_sub ?_ | refine pu_mul ?_ | refine pu_neg ?_ | refine fa_at ?_ | refine nl_ptr ?_ | refine ex20 ?_ | refine ex21 ?_ | refine ex30 ?_ | refine ex31 ?_ | refine ex32 ?_ | refine ln_rule ?_ | refine lnT_rule ?_ | refine pu_and ?_ | refine pu_or ?_ | refine pu_xor ?_ | refine pu_seq ?_ | refine pu_sne ?_)
  refine cnd (fun hq => ?_) (fun hq => ?_)
  · have hq : ¬ p.rw = q.rw := by simpa using hq
    rw [decide_eq_false hq, Bool.false_and] at k
    exact k _ h2.drop.drop
  have hq : p.rw = q.rw := by simpa using hq
  rw [decide_eq_true hq, Bool.true_and] at k
  repeat (first | refine pu_not ?_ | refine pu_eql ?_ | refine pu_neq ?_ | refine pu_lss ?_ | refine pu_leq ?_ | refine pu_gtr ?_ | refine pu_geq ?_ | refine pu_add ?_ | refine pu_sub ?_ | refine pu_mul ?_ | refine pu_neg ?_ | refine fa_at ?_ | refine nl_ptr ?_ | refine ex20 ?_ | refine ex21 ?_ | refine ex30 ?_ | refine ex31 ?_ | refine ex32 ?_ | refine ln_rule ?_ | refine lnT_rule ?_ | refine pu_and ?_ | refine pu_or ?_ | refine pu_xor ?_ | refine pu_seq ?_ | refine pu_sne ?_)
  refine ld_here h2 (.tail _ (.head _)) (v := vI p.gr) rfl ?_
  repeat (first | refine pu_not ?_ | refine pu_eql ?_ | refine pu_neq ?_ | refine pu_lss ?_ | refine pu_leq ?_ | refine pu_gtr ?_ | refine pu_geq ?_ | refine pu_add ?_ | refine pu_sub ?_ | refine pu_mul ?_ | refine pu_neg ?_ | refine fa_at ?_ | refine nl_ptr ?_ | refine ex20 ?_ | refine ex21 ?_ | refine ex30 ?_ | refine ex31 ?_ | refine ex32 ?_ | refine ln_rule ?_ | refine lnT_rule ?_ | refine pu_and ?_ | refine pu_or ?_ | refine pu_xor ?_ | refine pu_seq ?_ | refine pu_sne ?_)
  refine ld_here h2 (.head _) (v := vI q.gr) rfl ?_
  repeat (first | refine pu_not ?_ | refine pu_eql ?_ | refine pu_neq ?_ | refine pu_lss ?_ | refine pu_leq ?_ | refine pu_gtr ?_ | refine pu_geq ?_ | refine pu_add ?_ | refine pu_sub ?_ | refine pu_mul ?_ | refine pu_neg ?_ | refine fa_at ?_ | refine nl_ptr ?_ | refine ex20 ?_ | refine ex21 ?_ | refine ex30 ?_ | refine ex31 ?_ | refine ex32 ?_ | refine ln_rule ?_ | refine lnT_rule ?_ | refine pu_and ?_ | refine pu_or ?_ | refine pu_xor ?_ | refine pu_seq ?_ | refine pu_sne ?_)
  refine cnd (fun hq => ?_) (fun hq => ?_)
  · have hq : ¬ p.gr = q.gr := by simpa using hq
    rw [decide_eq_false hq, Bool.false_and] at k
    exact k _ h2.drop.drop
  have hq : p.gr = q.gr := by simpa using hq
  rw [decide_eq_true hq, Bool.true_and] at k
  repeat (first | refine pu_not ?_ | refine pu_eql ?_ | refine pu_neq ?_ | refine pu_lss ?_ | refine pu_leq ?_ | refine pu_gtr ?_ | refine pu_geq ?_ | refine pu_add ?_ | refine pu_sub ?_ | refine pu_mul ?_ | refine pu_neg ?_ | refine fa_at ?_ | refine nl_ptr ?_ | refine ex20 ?_ | refine ex21 ?_ | refine ex30 ?_ | refine ex31 ?_ | refine ex32 ?_ | refine ln_rule ?_ | refine lnT_rule ?_ | refine pu_and ?_ | refine pu_or ?_ | refine pu_xor ?_ | refine pu_seq ?_ | refine pu_sne ?_)
  refine ld_here h2 (.tail _ (.head _)) (v := v) rfl ?_
  refine hv.ln ?_
  repeat (first | refine pu_not ?_ | refine pu_eql ?_ | refine pu_neq ?_ | refine pu_lss ?_ | refine pu_leq ?_ | refine pu_gtr ?_ | refine pu_geq ?_ | refine pu_add ?_ | refine pu_sub ?_ | refine pu_mul ?_ | refine pu_neg ?_ | refine fa_at ?_ | refine nl_ptr ?_ | refine ex20 ?_ | refine ex21 ?_ | refine ex30 ?_ | refine ex31 ?_ | refine ex32 ?_ | refine ln_rule ?_ | refine lnT_rule ?_ | refine pu_and ?_ | refine pu_or ?_ | refine pu_xor ?_ | refine pu_seq ?_ | refine pu_sne ?_)
  refine ld_here h2 (.head _) (v := v') rfl ?_
  refine hv'.ln ?_
  have no : p.fs ≠ q.fs → decide (p.fs = q.fs) = false := fun h => decide_eq_false h
  repeat (first | refine pu_not ?_ | refine pu_eql ?_ | refine pu_neq ?_ | refine pu_lss ?_ | refine pu_leq ?_ | refine pu_gtr ?_ | refine pu_geq ?_ | refine pu_add ?_ | refine pu_sub ?_ | refine pu_mul ?_ | refine pu_neg ?_ | refine fa_at ?_ | refine nl_ptr ?_ | refine ex20 ?_ | refine ex21 ?_ | refine ex30 ?_ | refine ex31 ?_ | refine ex32 ?_ | refine ln_rule ?_ | refine lnT_rule ?_ | refine pu_and ?_ | refine pu_or ?_ | refine pu_xor ?_ | refine pu_seq ?_ | refine pu_sne ?_)
  refine cnd (fun hne => ?_) (fun heq => ?_)
  · rw [no (fun h => by rw [h] at hne; simp at hne)] at k
    exact k _ h2.drop.drop
  have heq : p.fs.length = q.fs.length := by simp at heq; omega
  generalize hG : (b4, cel (q.cells v') T.t_api_Program) :: (b2, cel (p.cells v) T.t_api_Program) :: H = G at *
  have m4 : (b4, cel (q.cells v') T.t_api_Program) ∈ G := by rw [← hG]; exact .head _
  have m2 : (b2, cel (p.cells v) T.t_api_Program) ∈ G := by rw [← hG]; exact .tail _ (.head _)
  have k : ∀ w', Ow B w' G → K (vB (decide (p.fs = q.fs))) w' := fun w' h' => k w' (by rw [← hG] at h'; exact h'.drop.drop)
  refine ⟨fun l w => ∃ i : Nat, l = [vI i] ∧ i ≤ p.fs.length ∧ (∀ j, j < i → p.fs[j]? = q.fs[j]?) ∧ Ow B w G,
    fun l _ => match l with | [.int _ n] => p.fs.length - n.toNat | _ => 0, ⟨0, rfl, Nat.zero_le _, fun j hj => absurd hj (by omega), h2⟩, ?_⟩
  rintro l w3 ⟨i, rfl, hi, hall, h3⟩ j
  repeat (first | refine pu_not ?_ | refine pu_eql ?_ | refine pu_neq ?_ | refine pu_lss ?_ | refine pu_leq ?_ | refine pu_gtr ?_ | refine pu_geq ?_ | refine pu_add ?_ | refine pu_sub ?_ | refine pu_mul ?_ | refine pu_neg ?_ | refine fa_at ?_ | refine nl_ptr ?_ | refine ex20 ?_ | refine ex21 ?_ | refine ex30 ?_ | refine ex31 ?_ | refine ex32 ?_ | refine ln_rule ?_ | refine lnT_rule ?_ | refine pu_and ?_ | refine pu_or ?_ | refine pu_xor ?_ | refine pu_seq ?_ | refine pu_sne ?_)
  refine ld_here h3 m2 (v := v) rfl ?_
  refine hv.ln ?_
  repeat (first | refine pu_not ?_ | refine pu_eql ?_ | refine pu_neq ?_ | refine pu_lss ?_ | refine pu_leq ?_ | refine pu_gtr ?_ | refine pu_geq ?_ | refine pu_add ?_ | refine pu_sub ?_ | refine pu_mul ?_ | refine pu_neg ?_ | refine fa_at ?_ | refine nl_ptr ?_ | refine ex20 ?_ | refine ex21 ?_ | refine ex30 ?_ | refine ex31 ?_ | refine ex32 ?_ | refine ln_rule ?_ | refine lnT_rule ?_ | refine pu_and ?_ | refine pu_or ?_ | refine pu_xor ?_ | refine pu_seq ?_ | refine pu_sne ?_)
  refine cnd (fun hlt => ?_) (fun hlt => ?_)
  · have hlt : i < p.fs.length := by simpa using hlt
    obtain ⟨ps, c, f, f1, f2, f3, f4, f5⟩ := hv.at (n := (i : Int)) (by omega) (by omega)
    obtain ⟨ps', c', g, g1, g2, g3, g4, g5⟩ := hv'.at (n := (i : Int)) (by omega) (by omega)
    rw [Int.toNat_natCast] at f1 g1
    have hfm := f4.max
    rw [icode_len] at hfm
    simp only [maxLen] at hfm
    have no2 : f ≠ g → decide (p.fs = q.fs) = false := fun h => no fun h2 => by
      rw [h2, g1] at f1
      exact h (Option.some.inj f1).symm
    refine ⟨fun w => Ow B w G, h3.drew, ?_⟩
    repeat (first | refine pu_not ?_ | refine pu_eql ?_ | refine pu_neq ?_ | refine pu_lss ?_ | refine pu_leq ?_ | refine pu_gtr ?_ | refine pu_geq ?_ | refine pu_add ?_ | refine pu_sub ?_ | refine pu_mul ?_ | refine pu_neg ?_ | refine fa_at ?_ | refine nl_ptr ?_ | refine ex20 ?_ | refine ex21 ?_ | refine ex30 ?_ | refine ex31 ?_ | refine ex32 ?_ | refine ln_rule ?_ | refine lnT_rule ?_ | refine pu_and ?_ | refine pu_or ?_ | refine pu_xor ?_ | refine pu_seq ?_ | refine pu_sne ?_)
    refine lds_here (fun w h => h) m2 (v := v) rfl ?_
    refine sls_lds (fun w h => h) f2 (by omega) f3 ?_
    repeat (first | refine pu_not ?_ | refine pu_eql ?_ | refine pu_neq ?_ | refine pu_lss ?_ | refine pu_leq ?_ | refine pu_gtr ?_ | refine pu_geq ?_ | refine pu_add ?_ | refine pu_sub ?_ | refine pu_mul ?_ | refine pu_neg ?_ | refine fa_at ?_ | refine nl_ptr ?_ | refine ex20 ?_ | refine ex21 ?_ | refine ex30 ?_ | refine ex31 ?_ | refine ex32 ?_ | refine ln_rule ?_ | refine lnT_rule ?_ | refine pu_and ?_ | refine pu_or ?_ | refine pu_xor ?_ | refine pu_seq ?_ | refine pu_sne ?_)
    refine lds_here (fun w h => h) m4 (v := v') rfl ?_
    refine sls_lds (fun w h => h) g2 (by omega) g3 ?_
    have hpf : plainV c = true := sls_plain f4
    have hpg : plainV c' = true := sls_plain g4
    refine ⟨?_, ?_⟩
    · refine al_rule h3.drew (l := [vI 0, .slice none 0 0]) (by kernel_rfl) (fun bx w4 h4 => ?_)
      refine ⟨h4.drop, ?_⟩
      refine al_rule h4 (l := [vI 0, .slice none 0 0]) (by kernel_rfl) (fun bz w5 h5 => ?_)
      refine ⟨h5.drop.drop, ?_⟩
      refine st_here (A := [_]) h5 [vI f.regs, c] rfl rfl (by simp only [List.all_cons, hpf]; rfl) (by simp) (fun w6 h6 => ?_)
      simp only [List.take_zero, List.nil_append, Nat.zero_add, List.drop_succ_cons, List.drop_zero, List.drop_nil, List.append_nil] at h6
      refine ⟨Ow.drop (Ow.drop h6), ?_⟩
      refine st_here (A := []) h6 [vI g.regs, c'] rfl rfl (by simp only [List.all_cons, hpg]; rfl) (by simp) (fun w7 hZ => ?_)
      simp only [List.take_zero, List.nil_append, Nat.zero_add, List.drop_succ_cons, List.drop_zero, List.drop_nil, List.append_nil] at hZ
      have hZ : Ow B w7 ((bz, cel [vI g.regs, c'] T.t_api_Func) :: (bx, cel [vI f.regs, c] T.t_api_Func) :: G) := hZ
      have mx : (bx, cel [vI f.regs, c] T.t_api_Func) ∈ (bz, cel [vI g.regs, c'] T.t_api_Func) :: (bx, cel [vI f.regs, c] T.t_api_Func) :: G := .tail _ (.head _)
      have my : (bz, cel [vI g.regs, c'] T.t_api_Func) ∈ (bz, cel [vI g.regs, c'] T.t_api_Func) :: (bx, cel [vI f.regs, c] T.t_api_Func) :: G := .head _
      have gZ : ∀ x, x ∈ G → x ∈ (bz, cel [vI g.regs, c'] T.t_api_Func) :: (bx, cel [vI f.regs, c] T.t_api_Func) :: G := fun x hx => .tail _ (.tail _ hx)
      have kZ : ∀ w', Ow B w' ((bz, cel [vI g.regs, c'] T.t_api_Func) :: (bx, cel [vI f.regs, c] T.t_api_Func) :: G) → Ow B w' G := fun w' h' => h'.drop.drop
      generalize (bz, cel [vI g.regs, c'] T.t_api_Func) :: (bx, cel [vI f.regs, c] T.t_api_Func) :: G = Z at *
      repeat (first | refine pu_not ?_ | refine pu_eql ?_ | refine pu_neq ?_ | refine pu_lss ?_ | refine pu_leq ?_ | refine pu_gtr ?_ | refine pu_geq ?_ | refine pu_add ?_ | refine pu_sub ?_ | refine pu_mul ?_ | refine pu_neg ?_ | refine fa_at ?_ | refine nl_ptr ?_ | refine ex20 ?_ | refine ex21 ?_ | refine ex30 ?_ | refine ex31 ?_ | refine ex32 ?_ | refine ln_rule ?_ | refine lnT_rule ?_ | refine pu_and ?_ | refine pu_or ?_ | refine pu_xor ?_ | refine pu_seq ?_ | refine pu_sne ?_)
      refine ld_here hZ mx (v := vI f.regs) rfl ?_
      repeat (first | refine pu_not ?_ | refine pu_eql ?_ | refine pu_neq ?_ | refine pu_lss ?_ | refine pu_leq ?_ | refine pu_gtr ?_ | refine pu_geq ?_ | refine pu_add ?_ | refine pu_sub ?_ | refine pu_mul ?_ | refine pu_neg ?_ | refine fa_at ?_ | refine nl_ptr ?_ | refine ex20 ?_ | refine ex21 ?_ | refine ex30 ?_ | refine ex31 ?_ | refine ex32 ?_ | refine ln_rule ?_ | refine lnT_rule ?_ | refine pu_and ?_ | refine pu_or ?_ | refine pu_xor ?_ | refine pu_seq ?_ | refine pu_sne ?_)
      refine ld_here hZ my (v := vI g.regs) rfl ?_
      repeat (first | refine pu_not ?_ | refine pu_eql ?_ | refine pu_neq ?_ | refine pu_lss ?_ | refine pu_leq ?_ | refine pu_gtr ?_ | refine pu_geq ?_ | refine pu_add ?_ | refine pu_sub ?_ | refine pu_mul ?_ | refine pu_neg ?_ | refine fa_at ?_ | refine nl_ptr ?_ | refine ex20 ?_ | refine ex21 ?_ | refine ex30 ?_ | refine ex31 ?_ | refine ex32 ?_ | refine ln_rule ?_ | refine lnT_rule ?_ | refine pu_and ?_ | refine pu_or ?_ | refine pu_xor ?_ | refine pu_seq ?_ | refine pu_sne ?_)
      refine cnd (fun hr => ?_) (fun hr => ?_)
      · rw [no2 (fun h => by rw [h] at hr; simp at hr)] at k
        exact k _ (kZ _ hZ)
      have hr : f.regs = g.regs := by simpa using hr
      repeat (first | refine pu_not ?_ | refine pu_eql ?_ | refine pu_neq ?_ | refine pu_lss ?_ | refine pu_leq ?_ | refine pu_gtr ?_ | refine pu_geq ?_ | refine pu_add ?_ | refine pu_sub ?_ | refine pu_mul ?_ | refine pu_neg ?_ | refine fa_at ?_ | refine nl_ptr ?_ | refine ex20 ?_ | refine ex21 ?_ | refine ex30 ?_ | refine ex31 ?_ | refine ex32 ?_ | refine ln_rule ?_ | refine lnT_rule ?_ | refine pu_and ?_ | refine pu_or ?_ | refine pu_xor ?_ | refine pu_seq ?_ | refine pu_sne ?_)
      refine ld_here hZ mx (v := c) rfl ?_
      refine sls_ln f4 ?_
      rw [icode_len]
      repeat (first | refine pu_not ?_ | refine pu_eql ?_ | refine pu_neq ?_ | refine pu_lss ?_ | refine pu_leq ?_ | refine pu_gtr ?_ | refine pu_geq ?_ | refine pu_add ?_ | refine pu_sub ?_ | refine pu_mul ?_ | refine pu_neg ?_ | refine fa_at ?_ | refine nl_ptr ?_ | refine ex20 ?_ | refine ex21 ?_ | refine ex30 ?_ | refine ex31 ?_ | refine ex32 ?_ | refine ln_rule ?_ | refine lnT_rule ?_ | refine pu_and ?_ | refine pu_or ?_ | refine pu_xor ?_ | refine pu_seq ?_ | refine pu_sne ?_)
      refine ld_here hZ my (v := c') rfl ?_
      refine sls_ln g4 ?_
      rw [icode_len]
      repeat (first | refine pu_not ?_ | refine pu_eql ?_ | refine pu_neq ?_ | refine pu_lss ?_ | refine pu_leq ?_ | refine pu_gtr ?_ | refine pu_geq ?_ | refine pu_add ?_ | refine pu_sub ?_ | refine pu_mul ?_ | refine pu_neg ?_ | refine fa_at ?_ | refine nl_ptr ?_ | refine ex20 ?_ | refine ex21 ?_ | refine ex30 ?_ | refine ex31 ?_ | refine ex32 ?_ | refine ln_rule ?_ | refine lnT_rule ?_ | refine pu_and ?_ | refine pu_or ?_ | refine pu_xor ?_ | refine pu_seq ?_ | refine pu_sne ?_)
      refine cnd (fun hl => ?_) (fun hl => ?_)
      · rw [no2 (fun h => by rw [h] at hl; simp at hl)] at k
        exact k _ (kZ _ hZ)
      have hl : f.code.length = g.code.length := by simp at hl; omega
      refine ⟨fun l w => ∃ n : Nat, l = [vI n] ∧ n ≤ f.code.length ∧ (∀ j, j < n → f.code[j]? = g.code[j]?) ∧ Ow B w Z,
        fun l _ => match l with | [.int _ n] => f.code.length - n.toNat | _ => 0, ⟨0, rfl, Nat.zero_le _, fun j hj => absurd hj (by omega), hZ⟩, ?_⟩
      rintro l w9 ⟨n, rfl, hn, hcode, h9⟩ j9
      repeat (first | refine pu_not ?_ | refine pu_eql ?_ | refine pu_neq ?_ | refine pu_lss ?_ | refine pu_leq ?_ | refine pu_gtr ?_ | refine pu_geq ?_ | refine pu_add ?_ | refine pu_sub ?_ | refine pu_mul ?_ | refine pu_neg ?_ | refine fa_at ?_ | refine nl_ptr ?_ | refine ex20 ?_ | refine ex21 ?_ | refine ex30 ?_ | refine ex31 ?_ | refine ex32 ?_ | refine ln_rule ?_ | refine lnT_rule ?_ | refine pu_and ?_ | refine pu_or ?_ | refine pu_xor ?_ | refine pu_seq ?_ | refine pu_sne ?_)
      refine ld_here h9 mx (v := c) rfl ?_
      refine sls_ln f4 ?_
      rw [icode_len]
      repeat (first | refine pu_not ?_ | refine pu_eql ?_ | refine pu_neq ?_ | refine pu_lss ?_ | refine pu_leq ?_ | refine pu_gtr ?_ | refine pu_geq ?_ | refine pu_add ?_ | refine pu_sub ?_ | refine pu_mul ?_ | refine pu_neg ?_ | refine fa_at ?_ | refine nl_ptr ?_ | refine ex20 ?_ | refine ex21 ?_ | refine ex30 ?_ | refine ex31 ?_ | refine ex32 ?_ | refine ln_rule ?_ | refine lnT_rule ?_ | refine pu_and ?_ | refine pu_or ?_ | refine pu_xor ?_ | refine pu_seq ?_ | refine pu_sne ?_)
      refine cnd (fun hlt9 => ?_) (fun hlt9 => ?_)
      · have hlt9 : n < f.code.length := by simpa using hlt9
        refine ⟨fun w => Ow B w Z, h9.drew, ?_⟩
        repeat (first | refine pu_not ?_ | refine pu_eql ?_ | refine pu_neq ?_ | refine pu_lss ?_ | refine pu_leq ?_ | refine pu_gtr ?_ | refine pu_geq ?_ | refine pu_add ?_ | refine pu_sub ?_ | refine pu_mul ?_ | refine pu_neg ?_ | refine fa_at ?_ | refine nl_ptr ?_ | refine ex20 ?_ | refine ex21 ?_ | refine ex30 ?_ | refine ex31 ?_ | refine ex32 ?_ | refine ln_rule ?_ | refine lnT_rule ?_ | refine pu_and ?_ | refine pu_or ?_ | refine pu_xor ?_ | refine pu_seq ?_ | refine pu_sne ?_)
        refine lds_here (fun w h => h) mx (v := c) rfl ?_
        refine sls_lds (fun w h => h) (f4.mono gZ) (by omega) (icode_at hlt9) ?_
        repeat (first | refine pu_not ?_ | refine pu_eql ?_ | refine pu_neq ?_ | refine pu_lss ?_ | refine pu_leq ?_ | refine pu_gtr ?_ | refine pu_geq ?_ | refine pu_add ?_ | refine pu_sub ?_ | refine pu_mul ?_ | refine pu_neg ?_ | refine fa_at ?_ | refine nl_ptr ?_ | refine ex20 ?_ | refine ex21 ?_ | refine ex30 ?_ | refine ex31 ?_ | refine ex32 ?_ | refine ln_rule ?_ | refine lnT_rule ?_ | refine pu_and ?_ | refine pu_or ?_ | refine pu_xor ?_ | refine pu_seq ?_ | refine pu_sne ?_)
        refine lds_here (fun w h => h) my (v := c') rfl ?_
        refine sls_lds (fun w h => h) (g4.mono gZ) (by omega) (icode_at (hl ▸ hlt9)) ?_
        refine pu_aneq (by kernel_rfl) (eq_ins _ _) ?_
        refine cnd (fun hne => ?_) (fun he => ?_)
        · rw [no2 (fun h => by subst h; simp at hne)] at k
          exact k _ (kZ _ h9.drew)
        · have he : f.code[n] = g.code[n] := by simpa using he
          repeat (first | refine pu_not ?_ | refine pu_eql ?_ | refine pu_neq ?_ | refine pu_lss ?_ | refine pu_leq ?_ | refine pu_gtr ?_ | refine pu_geq ?_ | refine pu_add ?_ | refine pu_sub ?_ | refine pu_mul ?_ | refine pu_neg ?_ | refine fa_at ?_ | refine nl_ptr ?_ | refine ex20 ?_ | refine ex21 ?_ | refine ex30 ?_ | refine ex31 ?_ | refine ex32 ?_ | refine ln_rule ?_ | refine lnT_rule ?_ | refine pu_and ?_ | refine pu_or ?_ | refine pu_xor ?_ | refine pu_seq ?_ | refine pu_sne ?_)
          rw [wrap64_in (by omega) (by omega)]
          refine ⟨⟨n + 1, rfl, hlt9, fun j hj => ?_, h9.drew⟩, by simp; omega⟩
          rcases Nat.lt_succ_iff_lt_or_eq.1 hj with hj | rfl
          · exact hcode j hj
          · rw [List.getElem?_eq_getElem hlt9, List.getElem?_eq_getElem (hl ▸ hlt9), he]
      · have hce : f.code = g.code := by
          refine List.ext_getElem? fun j => ?_
          by_cases hj : j < f.code.length
          · exact hcode j (by simp at hlt9; omega)
          · rw [List.getElem?_eq_none (by omega), List.getElem?_eq_none (by omega)]
        have hfg : f = g := by
          cases f; cases g
          simp only at hr hce
          rw [hr, hce]
        repeat (first | refine pu_not ?_ | refine pu_eql ?_ | refine pu_neq ?_ | refine pu_lss ?_ | refine pu_leq ?_ | refine pu_gtr ?_ | refine pu_geq ?_ | refine pu_add ?_ | refine pu_sub ?_ | refine pu_mul ?_ | refine pu_neg ?_ | refine fa_at ?_ | refine nl_ptr ?_ | refine ex20 ?_ | refine ex21 ?_ | refine ex30 ?_ | refine ex31 ?_ | refine ex32 ?_ | refine ln_rule ?_ | refine lnT_rule ?_ | refine pu_and ?_ | refine pu_or ?_ | refine pu_xor ?_ | refine pu_seq ?_ | refine pu_sne ?_)
        rw [wrap64_in (by omega) (by omega)]
        refine ⟨⟨i + 1, rfl, hlt, fun j hj => ?_, kZ _ h9⟩, by simp; omega⟩
        rcases Nat.lt_succ_iff_lt_or_eq.1 hj with hj | rfl
        · exact hall j hj
        · rw [f1, g1, hfg]
    · refine al_rule h3.drew (l := [vI 0, .slice none 0 0]) (by kernel_rfl) (fun bz w4 h4 => ?_)
      refine ⟨h4.drop, ?_⟩
      refine al_rule h4 (l := [vI 0, .slice none 0 0]) (by kernel_rfl) (fun bx w5 h5 => ?_)
      refine ⟨h5.drop.drop, ?_⟩
      refine st_here (A := []) h5 [vI f.regs, c] rfl rfl (by simp only [List.all_cons, hpf]; rfl) (by simp) (fun w6 h6 => ?_)
      simp only [List.take_zero, List.nil_append, Nat.zero_add, List.drop_succ_cons, List.drop_zero, List.drop_nil, List.append_nil] at h6
      refine ⟨Ow.drop (Ow.drop h6), ?_⟩
      refine st_here (A := [_]) h6 [vI g.regs, c'] rfl rfl (by simp only [List.all_cons, hpg]; rfl) (by simp) (fun w7 hZ => ?_)
      simp only [List.take_zero, List.nil_append, Nat.zero_add, List.drop_succ_cons, List.drop_zero, List.drop_nil, List.append_nil] at hZ
      have hZ : Ow B w7 ((bx, cel [vI f.regs, c] T.t_api_Func) :: (bz, cel [vI g.regs, c'] T.t_api_Func) :: G) := hZ
      have mx : (bx, cel [vI f.regs, c] T.t_api_Func) ∈ (bx, cel [vI f.regs, c] T.t_api_Func) :: (bz, cel [vI g.regs, c'] T.t_api_Func) :: G := .head _
      have my : (bz, cel [vI g.regs, c'] T.t_api_Func) ∈ (bx, cel [vI f.regs, c] T.t_api_Func) :: (bz, cel [vI g.regs, c'] T.t_api_Func) :: G := .tail _ (.head _)
      have gZ : ∀ x, x ∈ G → x ∈ (bx, cel [vI f.regs, c] T.t_api_Func) :: (bz, cel [vI g.regs, c'] T.t_api_Func) :: G := fun x hx => .tail _ (.tail _ hx)
      have kZ : ∀ w', Ow B w' ((bx, cel [vI f.regs, c] T.t_api_Func) :: (bz, cel [vI g.regs, c'] T.t_api_Func) :: G) → Ow B w' G := fun w' h' => h'.drop.drop
      generalize (bx, cel [vI f.regs, c] T.t_api_Func) :: (bz, cel [vI g.regs, c'] T.t_api_Func) :: G = Z at *
      repeat (first | refine pu_not ?_ | refine pu_eql ?_ | refine pu_neq ?_ | refine pu_lss ?_ | refine pu_leq ?_ | refine pu_gtr ?_ | refine pu_geq ?_ | refine pu_add ?_ | refine pu_sub ?_ | refine pu_mul ?_ | refine pu_neg ?_ | refine fa_at ?_ | refine nl_ptr ?_ | refine ex20 ?_ | refine ex21 ?_ | refine ex30 ?_ | refine ex31 ?_ | refine ex32 ?_ | refine ln_rule ?_ | refine lnT_rule ?_ | refine pu_and ?_ | refine pu_or ?_ | refine pu_xor ?_ | refine pu_seq ?_ | refine pu_sne ?_)
      refine ld_here hZ mx (v := vI f.regs) rfl ?_
      repeat (first | refine pu_not ?_ | refine pu_eql ?_ | refine pu_neq ?_ | refine pu_lss ?_ | refine pu_leq ?_ | refine pu_gtr ?_ | refine pu_geq ?_ | refine pu_add ?_ | refine pu_sub ?_ | refine pu_mul ?_ | refine pu_neg ?_ | refine fa_at ?_ | refine nl_ptr ?_ | refine ex20 ?_ | refine ex21 ?_ | refine ex30 ?_ | refine ex31 ?_ | refine ex32 ?_ | refine ln_rule ?_ | refine lnT_rule ?_ | refine pu_and ?_ | refine pu_or ?_ | refine pu_xor ?_ | refine pu_seq ?_ | refine pu_sne ?_)
      refine ld_here hZ my (v := vI g.regs) rfl ?_
      repeat (first | refine pu_not ?_ | refine pu_eql ?_ | refine pu_neq ?_ | refine pu_lss ?_ | refine pu_leq ?_ | refine pu_gtr ?_ | refine pu_geq ?_ | refine pu_add ?_ | refine pu_sub ?_ | refine pu_mul ?_ | refine pu_neg ?_ | refine fa_at ?_ | refine nl_ptr ?_ | refine ex20 ?_ | refine ex21 ?_ | refine ex30 ?_ | refine ex31 ?_ | refine ex32 ?_ | refine ln_rule ?_ | refine lnT_rule ?_ | refine pu_and ?_ | refine pu_or ?_ | refine pu_xor ?_ | refine pu_seq ?_ | refine pu_sne ?_)
      refine cnd (fun hr => ?_) (fun hr => ?_)
      · rw [no2 (fun h => by rw [h] at hr; simp at hr)] at k
        exact k _ (kZ _ hZ)
      have hr : f.regs = g.regs := by simpa using hr
      repeat (first | refine pu_not ?_ | refine pu_eql ?_ | refine pu_neq ?_ | refine pu_lss ?_ | refine pu_leq ?_ | refine pu_gtr ?_ | refine pu_geq ?_ | refine pu_add ?_ | refine pu_sub ?_ | refine pu_mul ?_ | refine pu_neg ?_ | refine fa_at ?_ | refine nl_ptr ?_ | refine ex20 ?_ | refine ex21 ?_ | refine ex30 ?_ | refine ex31 ?_ | refine ex32 ?_ | refine ln_rule ?_ | refine lnT_rule ?_ | refine pu_and ?_ | refine pu_or ?_ | refine pu_xor ?_ | refine pu_seq ?_ | refine pu_sne ?_)
      refine ld_here hZ mx (v := c) rfl ?_
      refine sls_ln f4 ?_
      rw [icode_len]
      repeat (first | refine pu_not ?_ | refine pu_eql ?_ | refine pu_neq ?_ | refine pu_lss ?_ | refine pu_leq ?_ | refine pu_gtr ?_ | refine pu_geq ?_ | refine pu_add ?_ | refine pu_sub ?_ | refine pu_mul ?_ | refine pu_neg ?_ | refine fa_at ?_ | refine nl_ptr ?_ | refine ex20 ?_ | refine ex21 ?_ | refine ex30 ?_ | refine ex31 ?_ | refine ex32 ?_ | refine ln_rule ?_ | refine lnT_rule ?_ | refine pu_and ?_ | refine pu_or ?_ | refine pu_xor ?_ | refine pu_seq ?_ | refine pu_sne ?_)
      refine ld_here hZ my (v := c') rfl ?_
      refine sls_ln g4 ?_
      rw [icode_len]
      repeat (first | refine pu_not ?_ | refine pu_eql ?_ | refine pu_neq ?_ | refine pu_lss ?_ | refine pu_leq ?_ | refine pu_gtr ?_ | refine pu_geq ?_ | refine pu_add ?_ | refine pu_sub ?_ | refine pu_mul ?_ | refine pu_neg ?_ | refine fa_at ?_ | refine nl_ptr ?_ | refine ex20 ?_ | refine ex21 ?_ | refine ex30 ?_ | refine ex31 ?_ | refine ex32 ?_ | refine ln_rule ?_ | refine lnT_rule ?_ | refine pu_and ?_ | refine pu_or ?_ | refine pu_xor ?_ | refine pu_seq ?_ | refine pu_sne ?_)
      refine cnd (fun hl => ?_) (fun hl => ?_)
      · rw [no2 (fun h => by rw [h] at hl; simp at hl)] at k
        exact k _ (kZ _ hZ)
      have hl : f.code.length = g.code.length := by simp at hl; omega
      refine ⟨fun l w => ∃ n : Nat, l = [vI n] ∧ n ≤ f.code.length ∧ (∀ j, j < n → f.code[j]? = g.code[j]?) ∧ Ow B w Z,
        fun l _ => match l with | [.int _ n] => f.code.length - n.toNat | _ => 0, ⟨0, rfl, Nat.zero_le _, fun j hj => absurd hj (by omega), hZ⟩, ?_⟩
      rintro l w9 ⟨n, rfl, hn, hcode, h9⟩ j9
      repeat (first | refine pu_not ?_ | refine pu_eql ?_ | refine pu_neq ?_ | refine pu_lss ?_ | refine pu_leq ?_ | refine pu_gtr ?_ | refine pu_geq ?_ | refine pu_add ?_ | refine pu_sub ?_ | refine pu_mul ?_ | refine pu_neg ?_ | refine fa_at ?_ | refine nl_ptr ?_ | refine ex20 ?_ | refine ex21 ?_ | refine ex30 ?_ | refine ex31 ?_ | refine ex32 ?_ | refine ln_rule ?_ | refine lnT_rule ?_ | refine pu_and ?_ | refine pu_or ?_ | refine pu_xor ?_ | refine pu_seq ?_ | refine pu_sne ?_)
      refine ld_here h9 mx (v := c) rfl ?_
      refine sls_ln f4 ?_
      rw [icode_len]
      repeat (first | refine pu_not ?_ | refine pu_eql ?_ | refine pu_neq ?_ | refine pu_lss ?_ | refine pu_leq ?_ | refine pu_gtr ?_ | refine pu_geq ?_ | refine pu_add ?_ | refine pu_sub ?_ | refine pu_mul ?_ | refine pu_neg ?_ | refine fa_at ?_ | refine nl_ptr ?_ | refine ex20 ?_ | refine ex21 ?_ | refine ex30 ?_ | refine ex31 ?_ | refine ex32 ?_ | refine ln_rule ?_ | refine lnT_rule ?_ | refine pu_and ?_ | refine pu_or ?_ | refine pu_xor ?_ | refine pu_seq ?_ | refine pu_sne ?_)
      refine cnd (fun hlt9 => ?_) (fun hlt9 => ?_)
      · have hlt9 : n < f.code.length := by simpa using hlt9
        refine ⟨fun w => Ow B w Z, h9.drew, ?_⟩
        repeat (first | refine pu_not ?_ | refine pu_eql ?_ | refine pu_neq ?_ | refine pu_lss ?_ | refine pu_leq ?_ | refine pu_gtr ?_ | refine pu_geq ?_ | refine pu_add ?_ | refine pu_sub ?_ | refine pu_mul ?_ | refine pu_neg ?_ | refine fa_at ?_ | refine nl_ptr ?_ | refine ex20 ?_ | refine ex21 ?_ | refine ex30 ?_ | refine ex31 ?_ | refine ex32 ?_ | refine ln_rule ?_ | refine lnT_rule ?_ | refine pu_and ?_ | refine pu_or ?_ | refine pu_xor ?_ | refine pu_seq ?_ | refine pu_sne ?_)
        refine lds_here (fun w h => h) mx (v := c) rfl ?_
        refine sls_lds (fun w h => h) (f4.mono gZ) (by omega) (icode_at hlt9) ?_
        repeat (first | refine pu_not ?_ | refine pu_eql ?_ | refine pu_neq ?_ | refine pu_lss ?_ | refine pu_leq ?_ | refine pu_gtr ?_ | refine pu_geq ?_ | refine pu_add ?_ | refine pu_sub ?_ | refine pu_mul ?_ | refine pu_neg ?_ | refine fa_at ?_ | refine nl_ptr ?_ | refine ex20 ?_ | refine ex21 ?_ | refine ex30 ?_ | refine ex31 ?_ | refine ex32 ?_ | refine ln_rule ?_ | refine lnT_rule ?_ | refine pu_and ?_ | refine pu_or ?_ | refine pu_xor ?_ | refine pu_seq ?_ | refine pu_sne ?_)
        refine lds_here (fun w h => h) my (v := c') rfl ?_
        refine sls_lds (fun w h => h) (g4.mono gZ) (by omega) (icode_at (hl ▸ hlt9)) ?_
        refine pu_aneq (by kernel_rfl) (eq_ins _ _) ?_
        refine cnd (fun hne => ?_) (fun he => ?_)
        · rw [no2 (fun h => by subst h; simp at hne)] at k
          exact k _ (kZ _ h9.drew)
        · have he : f.code[n] = g.code[n] := by simpa using he
          repeat (first | refine pu_not ?_ | refine pu_eql ?_ | refine pu_neq ?_ | refine pu_lss ?_ | refine pu_leq ?_ | refine pu_gtr ?_ | refine pu_geq ?_ | refine pu_add ?_ | refine pu_sub ?_ | refine pu_mul ?_ | refine pu_neg ?_ | refine fa_at ?_ | refine nl_ptr ?_ | refine ex20 ?_ | refine ex21 ?_ | refine ex30 ?_ | refine ex31 ?_ | refine ex32 ?_ | refine ln_rule ?_ | refine lnT_rule ?_ | refine pu_and ?_ | refine pu_or ?_ | refine pu_xor ?_ | refine pu_seq ?_ | refine pu_sne ?_)
          rw [wrap64_in (by omega) (by omega)]
          refine ⟨⟨n + 1, rfl, hlt9, fun j hj => ?_, h9.drew⟩, by simp; omega⟩
          rcases Nat.lt_succ_iff_lt_or_eq.1 hj with hj | rfl
          · exact hcode j hj
          · rw [List.getElem?_eq_getElem hlt9, List.getElem?_eq_getElem (hl ▸ hlt9), he]
      · have hce : f.code = g.code := by
          refine List.ext_getElem? fun j => ?_
          by_cases hj : j < f.code.length
          · exact hcode j (by simp at hlt9; omega)
          · rw [List.getElem?_eq_none (by omega), List.getElem?_eq_none (by omega)]
        have hfg : f = g := by
          cases f; cases g
          simp only at hr hce
          rw [hr, hce]
        repeat (first | refine pu_not ?_ | refine pu_eql ?_ | refine pu_neq ?_ | refine pu_lss ?_ | refine pu_leq ?_ | refine pu_gtr ?_ | refine pu_geq ?_ | refine pu_add ?_ | refine pu_sub ?_ | refine pu_mul ?_ | refine pu_neg ?_ | refine fa_at ?_ | refine nl_ptr ?_ | refine ex20 ?_ | refine ex21 ?_ | refine ex30 ?_ | refine ex31 ?_ | refine ex32 ?_ | refine ln_rule ?_ | refine lnT_rule ?_ | refine pu_and ?_ | refine pu_or ?_ | refine pu_xor ?_ | refine pu_seq ?_ | refine pu_sne ?_)
        rw [wrap64_in (by omega) (by omega)]
        refine ⟨⟨i + 1, rfl, hlt, fun j hj => ?_, kZ _ h9⟩, by simp; omega⟩
        rcases Nat.lt_succ_iff_lt_or_eq.1 hj with hj | rfl
        · exact hall j hj
        · rw [f1, g1, hfg]
  · have : decide (p.fs = q.fs) = true := by
      simp only [decide_eq_true_eq]
      refine List.ext_getElem? fun j => ?_
      by_cases hj : j < p.fs.length
      · exact hall j (by simp at hlt; omega)
      · rw [List.getElem?_eq_none (by omega), List.getElem?_eq_none (by omega)]
    rw [this] at k
    exact k _ h3
end
end Go.Proofs.YtkkkcafkepnecaaGreat
