/- Programs: the reference's Same. -/
import Derived.Test.YtkkkcafkepnecaaGreatZD
import Derived.Test.YtkkkcafkepnecaaGreatIP
import Derived.Test.YtkkkcafkepnecaaGreatJQ

set_option linter.unusedVariables false
set_option linter.unusedSimpArgs false
namespace Go.Proofs.YtkkkcafkepnecaaGreat
open Go Go.RowKit Vc
attribute [local irreducible] binV Op.unary convert nlW faW ldS ldW ixS ixA ixV ixT exW lnS lnT pu stW alW opW opU bsW mkW

section
variable {B w : World} {H X : Hp} {K : Value → World → Prop} {PK : List PanicEntry → World → Prop} {KK : Value → Prop} {v v' : Value} {p q : Pr}
theorem refSame_spec (hv : fsIn X v p.fs) (hv' : fsIn X v' q.fs) (hX : ∀ x, x ∈ X → x ∈ H) (h : Ow B w H) (k : ∀ w', Ow B w' H → K (vB (decide (p = q))) w') : callW PG N.linesmanref09_Same [.agg (p.cells v).toArray, .agg (q.cells v').toArray] K PK w := by
  refine linesmanref09_Same.ok ?_
  unfold linesmanref09_Same.C
  rw [pr_ne] at k
  refine al_rule h (l := p.cells v) rfl (fun b2 w1 h1 => ?_)
  refine al_rule h1 (l := q.cells v') rfl (fun b4 w2 h2 => ?_)
  have hXX : ∀ x, x ∈ X → x ∈ (b4, cel (q.cells v') T.t_api_Program) :: (b2, cel (p.cells v) T.t_api_Program) :: H := fun x hx => .tail _ (.tail _ (hX x hx))
  have hmax : p.fs.length ≤ 9223372036854775807 := by
    obtain ⟨ps, e1, e2, e3⟩ := hv
    have := e2.max
    rw [← e1]
    simp only [frows, List.length_map, maxLen] at this ⊢
    omega
  have hv : fsIn _ v p.fs := hv.mono hXX
  have hv' : fsIn _ v' q.fs := hv'.mono hXX
  repeat (first | refine pu_not ?_ | refine pu_eql ?_ | refine pu_neq ?_ | refine pu_lss ?_ | refine pu_leq ?_ | refine pu_gtr ?_ | refine pu_geq ?_ | refine pu_add ?_ | refine pu_sub ?_ | refine pu_mul ?_ | refine pu_neg ?_ | refine fa_at ?_ | refine nl_ptr ?_ | refine ex20 ?_ | refine ex21 ?_ | refine ex30 ?_ | refine ex31 ?_ | refine ex32 ?_ | refine ln_rule ?_ | refine lnT_rule ?_ | refine pu_and ?_ | refine pu_or ?_ | refine pu_xor ?_ | refine pu_seq ?_ | refine pu_sne ?_)
  refine ld_here h2 (.tail _ (.head _)) (v := vI p.mu) rfl ?_
  repeat (first | refine pu_not ?_ | refine pu_eql ?_ | refine pu_neq ?_ | refine pu_lss ?_ | refine pu_leq ?_ | refine pu_gtr ?_ | refine pu_geq ?_ | refine pu_add ?_ | refine pu_sub ?_ | refine pu_mul ?_ | refine pu_neg ?_ | refine fa_at ?_ | refine nl_ptr ?_ | refine ex20 ?_ | refine ex21 ?_ | refine ex30 ?_ | refine ex31 ?_ | refine ex32 ?_ | refine ln_rule ?_ | refine lnT_rule ?_ | refine pu_and ?_ | refine pu_or ?_ | refine pu_xor ?_ | refine pu_seq ?_ | refine pu_sne ?_)
  refine ld_here h2 (.head _) (v := vI q.mu) rfl ?_
  repeat (first | refine pu_not ?_ | refine pu_eql ?_ | refine pu_neq ?_ | refine pu_lss ?_ | refine pu_leq ?_ | refine pu_gtr ?_ | refine pu_geq ?_ | refine pu_add ?_ | refine pu_sub ?_ | refine pu_mul ?_ | refine pu_neg ?_ | refine fa_at ?_ | refine nl_ptr ?_ | refine ex20 ?_ | refine ex21 ?_ | refine ex30 ?_ | refine ex31 ?_ | refine ex32 ?_ | refine ln_rule ?_ | refine lnT_rule ?_ | refine pu_and ?_ | refine pu_or ?_ | refine pu_xor ?_ | refine pu_seq ?_ | refine pu_sne ?_)
  refine cnd (fun hq => ?_) (fun hq => ?_)
  · have hq : ¬ p.mu = q.mu := by simpa using hq
    rw [decide_eq_false hq, Bool.false_and] at k
    exact k _ h2.drop.drop
  have hq : p.mu = q.mu := by simpa using hq
  rw [decide_eq_true hq, Bool.true_and] at k
  repeat (first | refine pu_not ?_ | refine pu_eql ?_ | refine pu_neq ?_ | refine pu_lss ?_ | refine pu_leq ?_ | refine pu_gtr ?_ | refine pu_geq ?_ | refine pu_add ?_ | refine pu_sub ?_ | refine pu_mul ?_ | refine pu_neg ?_ | refine fa_at ?_ | refine nl_ptr ?_ | refine ex20 ?_ | refine ex21 ?_ | refine ex30 ?_ | refine ex31 ?_ | refine ex32 ?_ | refine ln_rule ?_ | refine lnT_rule ?_ | refine pu_and ?_ | refine pu_or ?_ | refine pu_xor ?_ | refine pu_seq ?_ | refine pu_sne ?_)
  refine ld_here h2 (.tail _ (.head _)) (v := vI p.rw) rfl ?_
  repeat (first | refine pu_not ?_ | refine pu_eql ?_ | refine pu_neq ?_ | refine pu_lss ?_ | refine pu_leq ?_ | refine pu_gtr ?_ | refine pu_geq ?_ | refine pu_add ?_ | refine pu_sub ?_ | refine pu_mul ?_ | refine pu_neg ?_ | refine fa_at ?_ | refine nl_ptr ?_ | refine ex20 ?_ | refine ex21 ?_ | refine ex30 ?_ | refine ex31 ?_ | refine ex32 ?_ | refine ln_rule ?_ | refine lnT_rule ?_ | refine pu_and ?_ | refine pu_or ?_ | refine pu_xor ?_ | refine pu_seq ?_ | refine pu_sne ?_)
  refine ld_here h2 (.head _) (v := vI q.rw) rfl ?_
  repeat (first | refine pu_not ?_ | refine pu_eql ?_ | refine pu_neq ?_ | refine pu_lss ?_ | refine pu_leq ?_ | refine pu_gtr ?_ | refine pu_geq ?_ | refine pu_add ?_ | refine pu_sub ?_ | refine pu_mul ?_ | refine pu_neg ?_ | refine fa_at ?_ | refine nl_ptr ?_ | refine ex20 ?_ | refine ex21 ?_ | refine ex30 ?_ | refine ex31 ?_ | refine ex32 ?_ | refine ln_rule ?_ | refine lnT_rule ?_ | refine pu_and ?_ | refine pu_or ?_ | refine pu_xor ?_ | refine pu_seq ?_ | refine pu_sne ?_)
  refine cnd (fun hq => ?_) (fun hq => ?_)
  · have hq : ¬ p.rw = q.rw := by simpa using hq
    rw [decide_eq_false hq, Bool.false_and] at k
    exact k _ h2.drop.drop
  have hq : p.rw = q.rw := by simpa using hq
  rw [decide_eq_true hq, Bool.true_and] at k
  repeat (first | refine pu_not ?_ | refine pu_eql ?_ | refine pu_neq ?_ | refine pu_lss ?_ | refine pu_leq ?_ | refine pu_gtr ?_ | refine pu_geq ?_ | refine pu_add ?_ | refine pu_sub ?_ | refine pu_mul ?_ | refine pu_neg ?_ | refine fa_at ?_ | refine nl_ptr ?_ | refine ex20 ?_ | refine ex21 ?_ | refine ex30 ?_ | refine ex31 ?_ | refine ex32 ?_ | refine ln_rule ?_ | refine lnT_rule ?_ | refine pu_and ?_ | refine pu_or ?_ | refine pu_xor ?_ | refine pu_seq ?_ | refine pu_sne ?_)
  refine ld_here h2 (.tail _ (.head _)) (v := vI p.gr) rfl ?_
  repeat (first | refine pu_not ?_ | refine pu_eql ?_ | refine pu_neq ?_ | refine pu_lss ?_ | refine pu_leq ?_ | refine pu_gtr ?_ | refine pu_geq ?_ | refine pu_add ?_ | refine pu_sub ?_ | refine pu_mul ?_ | refine pu_neg ?_ | refine fa_at ?_ | refine nl_ptr ?_ | refine ex20 ?_ | refine ex21 ?_ | refine ex30 ?_ | refine ex31 ?_ | refine ex32 ?_ | refine ln_rule ?_ | refine lnT_rule ?_ | refine pu_and ?_ | refine pu_or ?_ | refine pu_xor ?_ | refine pu_seq ?_ | refine pu_sne ?_)
  refine ld_here h2 (.head _) (v := vI q.gr) rfl ?_
  repeat (first | refine pu_not ?_ | refine pu_eql ?_ | refine pu_neq ?_ | refine pu_lss ?_ | refine pu_leq ?_ | refine pu_gtr ?_ | refine pu_geq ?_ | refine pu_add ?_ | refine pu_sub ?_ | refine pu_mul ?_ | refine pu_neg ?_ | refine fa_at ?_ | refine nl_ptr ?_ | refine ex20 ?_ | refine ex21 ?_ | refine ex30 ?_ | refine ex31 ?_ | refine ex32 ?_ | refine ln_rule ?_ | refine lnT_rule ?_ | refine pu_and ?_ | refine pu_or ?_ | refine pu_xor ?_ | refine pu_seq ?_ | refine pu_sne ?_)
  refine cnd (fun hq => ?_) (fun hq => ?_)
  · have hq : ¬ p.gr = q.gr := by simpa using hq
    rw [decide_eq_false hq, Bool.false_and] at k
    exact k _ h2.drop.drop
  have hq : p.gr = q.gr := by simpa using hq
  rw [decide_eq_true hq, Bool.true_and] at k
  repeat (first | refine pu_not ?_ | refine pu_eql ?_ | refine pu_neq ?_ | refine pu_lss ?_ | refine pu_leq ?_ | refine pu_gtr ?_ | refine pu_geq ?_ | refine pu_add ?_ | refine pu_sub ?_ | refine pu_mul ?_ | refine pu_neg ?_ | refine fa_at ?_ | refine nl_ptr ?_ | refine ex20 ?_ | refine ex21 ?_ | refine ex30 ?_ | refine ex31 ?_ | refine ex32 ?_ | refine ln_rule ?_ | refine lnT_rule ?_ | refine pu_and ?_ | refine pu_or ?_ | refine pu_xor ?_ | refine pu_seq ?_ | refine pu_sne ?_)
  refine ld_here h2 (.tail _ (.head _)) (v := v) rfl ?_
  refine hv.ln ?_
  repeat (first | refine pu_not ?_ | refine pu_eql ?_ | refine pu_neq ?_ | refine pu_lss ?_ | refine pu_leq ?_ | refine pu_gtr ?_ | refine pu_geq ?_ | refine pu_add ?_ | refine pu_sub ?_ | refine pu_mul ?_ | refine pu_neg ?_ | refine fa_at ?_ | refine nl_ptr ?_ | refine ex20 ?_ | refine ex21 ?_ | refine ex30 ?_ | refine ex31 ?_ | refine ex32 ?_ | refine ln_rule ?_ | refine lnT_rule ?_ | refine pu_and ?_ | refine pu_or ?_ | refine pu_xor ?_ | refine pu_seq ?_ | refine pu_sne ?_)
  refine ld_here h2 (.head _) (v := v') rfl ?_
  refine hv'.ln ?_
  have no : p.fs ≠ q.fs → decide (p.fs = q.fs) = false := fun h => decide_eq_false h
  repeat (first | refine pu_not ?_ | refine pu_eql ?_ | refine pu_neq ?_ | refine pu_lss ?_ | refine pu_leq ?_ | refine pu_gtr ?_ | refine pu_geq ?_ | refine pu_add ?_ | refine pu_sub ?_ | refine pu_mul ?_ | refine pu_neg ?_ | refine fa_at ?_ | refine nl_ptr ?_ | refine ex20 ?_ | refine ex21 ?_ | refine ex30 ?_ | refine ex31 ?_ | refine ex32 ?_ | refine ln_rule ?_ | refine lnT_rule ?_ | refine pu_and ?_ | refine pu_or ?_ | refine pu_xor ?_ | refine pu_seq ?_ | refine pu_sne ?_)
  refine cnd (fun hne => ?_) (fun heq => ?_)
  · rw [no (fun h => by rw [h] at hne; simp at hne)] at k
    exact k _ h2.drop.drop
  have heq : p.fs.length = q.fs.length := by simp at heq; omega
  generalize hG : (b4, cel (q.cells v') T.t_api_Program) :: (b2, cel (p.cells v) T.t_api_Program) :: H = G at *
  have m4 : (b4, cel (q.cells v') T.t_api_Program) ∈ G := by rw [← hG]; exact .head _
  have m2 : (b2, cel (p.cells v) T.t_api_Program) ∈ G := by rw [← hG]; exact .tail _ (.head _)
  have k : ∀ w', Ow B w' G → K (vB (decide (p.fs = q.fs))) w' := fun w' h' => k w' (by rw [← hG] at h'; exact h'.drop.drop)
  refine ⟨fun l w => ∃ i : Nat, l = [vI i] ∧ i ≤ p.fs.length ∧ (∀ j, j < i → p.fs[j]? = q.fs[j]?) ∧ Ow B w G,
    fun l _ => match l with | [.int _ n] => p.fs.length - n.toNat | _ => 0, ⟨0, rfl, Nat.zero_le _, fun j hj => absurd hj (by omega), h2⟩, ?_⟩
  rintro l w3 ⟨i, rfl, hi, hall, h3⟩ j
  repeat (first | refine pu_not ?_ | refine pu_eql ?_ | refine pu_neq ?_ | refine pu_lss ?_ | refine pu_leq ?_ | refine pu_gtr ?_ | refine pu_geq ?_ | refine pu_add ?_ | refine pu_sub ?_ | refine pu_mul ?_ | refine pu_neg ?_ | refine fa_at ?_ | refine nl_ptr ?_ | refine ex20 ?_ | refine ex21 ?_ | refine ex30 ?_ | refine ex31 ?_ | refine ex32 ?_ | refine ln_rule ?_ | refine lnT_rule ?_ | refine pu_and ?_ | refine pu_or ?_ | refine pu_xor ?_ | refine pu_seq ?_ | refine pu_sne ?_)
  refine ld_here h3 m2 (v := v) rfl ?_
  refine hv.ln ?_
  repeat (first | refine pu_not ?_ | refine pu_eql ?_ | refine pu_neq ?_ | refine pu_lss ?_ | refine pu_leq ?_ | refine pu_gtr ?_ | refine pu_geq ?_ | refine pu_add ?_ | refine pu_sub ?_ | refine pu_mul ?_ | refine pu_neg ?_ | refine fa_at ?_ | refine nl_ptr ?_ | refine ex20 ?_ | refine ex21 ?_ | refine ex30 ?_ | refine ex31 ?_ | refine ex32 ?_ | refine ln_rule ?_ | refine lnT_rule ?_ | refine pu_and ?_ | refine pu_or ?_ | refine pu_xor ?_ | refine pu_seq ?_ | refine pu_sne ?_)
  refine cnd (fun hlt => ?_) (fun hlt => ?_)
  · have hlt : i < p.fs.length := by simpa using hlt
    obtain ⟨ps, c, f, f1, f2, f3, f4, f5⟩ := hv.at (n := (i : Int)) (by omega) (by omega)
    obtain ⟨ps', c', g, g1, g2, g3, g4, g5⟩ := hv'.at (n := (i : Int)) (by omega) (by omega)
    rw [Int.toNat_natCast] at f1 g1
    have hfm := f4.max
    rw [icode_len] at hfm
    simp only [maxLen] at hfm
    have no2 : f ≠ g → decide (p.fs = q.fs) = false := fun h => no fun h2 => by
      rw [h2, g1] at f1
      exact h (Option.some.inj f1).symm
    refine ⟨fun w => Ow B w G, h3.drew, ?_⟩
    repeat (first | refine pu_not ?_ | refine pu_eql ?_ | refine pu_neq ?_ | refine pu_lss ?_ | refine pu_leq ?_ | refine pu_gtr ?_ | refine pu_geq ?_ | refine pu_add ?_ | refine pu_sub ?_ | refine pu_mul ?_ | refine pu_neg ?_ | refine fa_at ?_ | refine nl_ptr ?_ | refine ex20 ?_ | refine ex21 ?_ | refine ex30 ?_ | refine ex31 ?_ | refine ex32 ?_ | refine ln_rule ?_ | refine lnT_rule ?_ | refine pu_and ?_ | refine pu_or ?_ | refine pu_xor ?_ | refine pu_seq ?_ | refine pu_sne ?_)
    refine lds_here (fun w h => h) m2 (v := v) rfl ?_
    refine sls_lds (fun w h => h) f2 (by omega) f3 ?_
    repeat (first | refine pu_not ?_ | refine pu_eql ?_ | refine pu_neq ?_ | refine pu_lss ?_ | refine pu_leq ?_ | refine pu_gtr ?_ | refine pu_geq ?_ | refine pu_add ?_ | refine pu_sub ?_ | refine pu_mul ?_ | refine pu_neg ?_ | refine fa_at ?_ | refine nl_ptr ?_ | refine ex20 ?_ | refine ex21 ?_ | refine ex30 ?_ | refine ex31 ?_ | refine ex32 ?_ | refine ln_rule ?_ | refine lnT_rule ?_ | refine pu_and ?_ | refine pu_or ?_ | refine pu_xor ?_ | refine pu_seq ?_ | refine pu_sne ?_)
    refine lds_here (fun w h => h) m4 (v := v') rfl ?_
    refine sls_lds (fun w h => h) g2 (by omega) g3 ?_
    have hpf : plainV c = true := sls_plain f4
    have hpg : plainV c' = true := sls_plain g4
    refine ⟨?_, ?_⟩
    · refine al_rule h3.drew (l := [vI 0, .slice none 0 0]) (by kernel_rfl) (fun bx w4 h4 => ?_)
      refine ⟨h4.drop, ?_⟩
      refine al_rule h4 (l := [vI 0, .slice none 0 0]) (by kernel_rfl) (fun bz w5 h5 => ?_)
      refine ⟨h5.drop.drop, ?_⟩
      refine st_here (A := [_]) h5 [vI f.regs, c] rfl rfl (by simp only [List.all_cons, hpf]; rfl) (by simp) (fun w6 h6 => ?_)
      simp only [List.take_zero, List.nil_append, Nat.zero_add, List.drop_succ_cons, List.drop_zero, List.drop_nil, List.append_nil] at h6
      refine ⟨Ow.drop (Ow.drop h6), ?_⟩
      refine st_here (A := []) h6 [vI g.regs, c'] rfl rfl (by simp only [List.all_cons, hpg]; rfl) (by simp) (fun w7 hZ => ?_)
      simp only [List.take_zero, List.nil_append, Nat.zero_add, List.drop_succ_cons, List.drop_zero, List.drop_nil, List.append_nil] at hZ
      have hZ : Ow B w7 ((bz, cel [vI g.regs, c'] T.t_api_Func) :: (bx, cel [vI f.regs, c] T.t_api_Func) :: G) := hZ
      have mx : (bx, cel [vI f.regs, c] T.t_api_Func) ∈ (bz, cel [vI g.regs, c'] T.t_api_Func) :: (bx, cel [vI f.regs, c] T.t_api_Func) :: G := .tail _ (.head _)
      have my : (bz, cel [vI g.regs, c'] T.t_api_Func) ∈ (bz, cel [vI g.regs, c'] T.t_api_Func) :: (bx, cel [vI f.regs, c] T.t_api_Func) :: G := .head _
      have gZ : ∀ x, x ∈ G → x ∈ (bz, cel [vI g.regs, c'] T.t_api_Func) :: (bx, cel [vI f.regs, c] T.t_api_Func) :: G := fun x hx => .tail _ (.tail _ hx)
      have kZ : ∀ w', Ow B w' ((bz, cel [vI g.regs, c'] T.t_api_Func) :: (bx, cel [vI f.regs, c] T.t_api_Func) :: G) → Ow B w' G := fun w' h' => h'.drop.drop
      generalize (bz, cel [vI g.regs, c'] T.t_api_Func) :: (bx, cel [vI f.regs, c] T.t_api_Func) :: G = Z at *
      repeat (first | refine pu_not ?_ | refine pu_eql ?_ | refine pu_neq ?_ | refine pu_lss ?_ | refine pu_leq ?_ | refine pu_gtr ?_ | refine pu_geq ?_ | refine pu_add ?_ | refine pu_sub ?_ | refine pu_mul ?_ | refine pu_neg ?_ | refine fa_at ?_ | refine nl_ptr ?_ | refine ex20 ?_ | refine ex21 ?_ | refine ex30 ?_ | refine ex31 ?_ | refine ex32 ?_ | refine ln_rule ?_ | refine lnT_rule ?_ | refine pu_and ?_ | refine pu_or ?_ | refine pu_xor ?_ | refine pu_seq ?_ | refine pu_sne ?_)
      refine ld_here hZ mx (v := vI f.regs) rfl ?_
      repeat (first | refine pu_not ?_ | refine pu_eql ?_ | refine pu_neq ?_ | refine pu_lss ?_ | refine pu_leq ?_ | refine pu_gtr ?_ | refine pu_geq ?_ | refine pu_add ?_ | refine pu_sub ?_ | refine pu_mul ?_ | refine pu_neg ?_ | refine fa_at ?_ | refine nl_ptr ?_ | refine ex20 ?_ | refine ex21 ?_ | refine ex30 ?_ | refine ex31 ?_ | refine ex32 ?_ | refine ln_rule ?_ | refine lnT_rule ?_ | refine pu_and ?_ | refine pu_or ?_ | refine pu_xor ?_ | refine pu_seq ?_ | refine pu_sne ?_)
      refine ld_here hZ my (v := vI g.regs) rfl ?_
      repeat (first | refine pu_not ?_ | refine pu_eql ?_ | refine pu_neq ?_ | refine pu_lss ?_ | refine pu_leq ?_ | refine pu_gtr ?_ | refine pu_geq ?_ | refine pu_add ?_ | refine pu_sub ?_ | refine pu_mul ?_ | refine pu_neg ?_ | refine fa_at ?_ | refine nl_ptr ?_ | refine ex20 ?_ | refine ex21 ?_ | refine ex30 ?_ | refine ex31 ?_ | refine ex32 ?_ | refine ln_rule ?_ | refine lnT_rule ?_ | refine pu_and ?_ | refine pu_or ?_ | refine pu_xor ?_ | refine pu_seq ?_ | refine pu_sne ?_)
      refine cnd (fun hr => ?_) (fun hr => ?_)
      · rw [no2 (fun h => by rw [h] at hr; simp at hr)] at k
        exact k _ (kZ _ hZ)
      have hr : f.regs = g.regs := by simpa using hr
      repeat (first | refine pu_not ?_ | refine pu_eql ?_ | refine pu_neq ?_ | refine pu_lss ?_ | refine pu_leq ?_ | refine pu_gtr ?_ | refine pu_geq ?_ | refine pu_add ?_ | refine pu_sub ?_ | refine pu_mul ?_ | refine pu_neg ?_ | refine fa_at ?_ | refine nl_ptr ?_ | refine ex20 ?_ | refine ex21 ?_ | refine ex30 ?_ | refine ex31 ?_ | refine ex32 ?_ | refine ln_rule ?_ | refine lnT_rule ?_ | refine pu_and ?_ | refine pu_or ?_ | refine pu_xor ?_ | refine pu_seq ?_ | refine pu_sne ?_)
      refine ld_here hZ mx (v := c) rfl ?_
      refine sls_ln f4 ?_
      rw [icode_len]
      repeat (first | refine pu_not ?_ | refine pu_eql ?_ | refine pu_neq ?_ | refine pu_lss ?_ | refine pu_leq ?_ | refine pu_gtr ?_ | refine pu_geq ?_ | refine pu_add ?_ | refine pu_sub ?_ | refine pu_mul ?_ | refine pu_neg ?_ | refine fa_at ?_ | refine nl_ptr ?_ | refine ex20 ?_ | refine ex21 ?_ | refine ex30 ?_ | refine ex31 ?_ | refine ex32 ?_ | refine ln_rule ?_ | refine lnT_rule ?_ | refine pu_and ?_ | refine pu_or ?_ | refine pu_xor ?_ | refine pu_seq ?_ | refine pu_sne ?_)
      refine ld_here hZ my (v := c') rfl ?_
      refine sls_ln g4 ?_
      rw [icode_len]
      repeat (first | refine pu_not ?_ | refine pu_eql ?_ | refine pu_neq ?_ | refine pu_lss ?_ | refine pu_leq ?_ | refine pu_gtr ?_ | refine pu_geq ?_ | refine pu_add ?_ | refine pu_sub ?_ | refine pu_mul ?_ | refine pu_neg ?_ | refine fa_at ?_ | refine nl_ptr ?_ | refine ex20 ?_ | refine ex21 ?_ | refine ex30 ?_ | refine ex31 ?_ | refine ex32 ?_ | refine ln_rule ?_ | refine lnT_rule ?_ | refine pu_and ?_ | refine pu_or ?_ | refine pu_xor ?_ | refine pu_seq ?_ | refine pu_sne ?_)
      refine cnd (fun hl => ?_) (fun hl => ?_)
      · rw [no2 (fun h => by rw [h] at hl; simp at hl)] at k
        exact k _ (kZ _ hZ)
      have hl : f.code.length = g.code.length := by simp at hl; omega
      refine ⟨fun l w => ∃ n : Nat, l = [vI n] ∧ n ≤ f.code.length ∧ (∀ j, j < n → f.code[j]? = g.code[j]?) ∧ Ow B w Z,
        fun l _ => match l with | [.int _ n] => f.code.length - n.toNat | _ => 0, ⟨0, rfl, Nat.zero_le _, fun j hj => absurd hj (by omega), hZ⟩, ?_⟩
      rintro l w9 ⟨n, rfl, hn, hcode, h9⟩ j9
      repeat (first | refine pu_not ?_ | refine pu_eql ?_ | refine pu_neq ?_ | refine pu_lss ?_ | refine pu_leq ?_ | refine pu_gtr ?_ | refine pu_geq ?_ | refine pu_add ?_ | refine pu_sub ?_ | refine pu_mul ?_ | refine pu_neg ?_ | refine fa_at ?_ | refine nl_ptr ?_ | refine ex20 ?_ | refine ex21 ?_ | refine ex30 ?_ | refine ex31 ?_ | refine ex32 ?_ | refine ln_rule ?_ | refine lnT_rule ?_ | refine pu_and ?_ | refine pu_or ?_ | refine pu_xor ?_ | refine pu_seq ?_ | refine pu_sne ?_)
      refine ld_here h9 mx (v := c) rfl ?_
      refine sls_ln f4 ?_
      rw [icode_len]
      repeat (first | refine pu_not ?_ | refine pu_eql ?_ | refine pu_neq ?_ | refine pu_lss ?_ | refine pu_leq ?_ | refine pu_gtr ?_ | refine pu_geq ?_ | refine pu_add ?_ | refine pu_sub ?_ | refine pu_mul ?_ | refine pu_neg ?_ | refine fa_at ?_ | refine nl_ptr ?_ | refine ex20 ?_ | refine ex21 ?_ | refine ex30 ?_ | refine ex31 ?_ | refine ex32 ?_ | refine ln_rule ?_ | refine lnT_rule ?_ | refine pu_and ?_ | refine pu_or ?_ | refine pu_xor ?_ | refine pu_seq ?_ | refine pu_sne ?_)
      refine cnd (fun hlt9 => ?_) (fun hlt9 => ?_)
      · have hlt9 : n < f.code.length := by simpa using hlt9
        refine ⟨fun w => Ow B w Z, h9.drew, ?_⟩
        repeat (first | refine pu_not ?_ | refine pu_eql ?_ | refine pu_neq ?_ | refine pu_lss ?_ | refine pu_leq ?_ | refine pu_gtr ?_ | refine pu_geq ?_ | refine pu_add ?_ | refine pu_sub ?_ | refine pu_mul ?_ | refine pu_neg ?_ | refine fa_at ?_ | refine nl_ptr ?_ | refine ex20 ?_ | refine ex21 ?_ | refine ex30 ?_ | refine ex31 ?_ | refine ex32 ?_ | refine ln_rule ?_ | refine lnT_rule ?_ | refine pu_and ?_ | refine pu_or ?_ | refine pu_xor ?_ | refine pu_seq ?_ | refine pu_sne ?_)
        refine lds_here (fun w h => h) mx (v := c) rfl ?_
        refine sls_lds (fun w h => h) (f4.mono gZ) (by omega) (icode_at hlt9) ?_
        repeat (first | refine pu_not ?_ | refine pu_eql ?_ | refine pu_neq ?_ | refine pu_lss ?_ | refine pu_leq ?_ | refine pu_gtr ?_ | refine pu_geq ?_ | refine pu_add ?_ | refine pu_sub ?_ | refine pu_mul ?_ | refine pu_neg ?_ | refine fa_at ?_ | refine nl_ptr ?_ | refine ex20 ?_ | refine ex21 ?_ | refine ex30 ?_ | refine ex31 ?_ | refine ex32 ?_ | refine ln_rule ?_ | refine lnT_rule ?_ | refine pu_and ?_ | refine pu_or ?_ | refine pu_xor ?_ | refine pu_seq ?_ | refine pu_sne ?_)
        refine lds_here (fun w h => h) my (v := c') rfl ?_
        refine sls_lds (fun w h => h) (g4.mono gZ) (by omega) (icode_at (hl ▸ hlt9)) ?_
        refine pu_aneq (by kernel_rfl) (eq_ins _ _) ?_
        refine cnd (fun hne => ?_) (fun he => ?_)
        · rw [no2 (fun h => by subst h; simp at hne)] at k
          exact k _ (kZ _ h9.drew)
        · have he : f.code[n] = g.code[n] := by simpa using he
          repeat (first | refine pu_not ?_ | refine pu_eql ?_ | refine pu_neq ?_ | refine pu_lss ?_ | refine pu_leq ?_ | refine pu_gtr ?_ | refine pu_geq ?_ | refine pu_add ?_ | refine pu_sub ?_ | refine pu_mul ?_ | refine pu_neg ?_ | refine fa_at ?_ | refine nl_ptr ?_ | refine ex20 ?_ | refine ex21 ?_ | refine ex30 ?_ | refine ex31 ?_ | refine ex32 ?_ | refine ln_rule ?_ | refine lnT_rule ?_ | refine pu_and ?_ | refine pu_or ?_ | refine pu_xor ?_ | refine pu_seq ?_ | refine pu_sne ?_)
          rw [wrap64_in (by omega) (by omega)]
          refine ⟨⟨n + 1, rfl, hlt9, fun j hj => ?_, h9.drew⟩, by simp; omega⟩
          rcases Nat.lt_succ_iff_lt_or_eq.1 hj with hj | rfl
          · exact hcode j hj
          · rw [List.getElem?_eq_getElem hlt9, List.getElem?_eq_getElem (hl ▸ hlt9), he]
      · have hce : f.code = g.code := by
          refine List.ext_getElem? fun j => ?_
          by_cases hj : j < f.code.length
          · exact hcode j (by simp at hlt9; omega)
          · rw [List.getElem?_eq_none (by omega), List.getElem?_eq_none (by omega)]
        have hfg : f = g := by
          cases f; cases g
          simp only at hr hce
          rw [hr, hce]
        repeat (first | refine pu_not ?_ | refine pu_eql ?_ | refine pu_neq ?_ | refine pu_lss ?_ | refine pu_leq ?_ | refine pu_gtr ?_ | refine pu_geq ?_ | refine pu_add ?_ | refine pu_sub ?_ | refine pu_mul ?_ | refine pu_neg ?_ | refine fa_at ?_ | refine nl_ptr ?_ | refine ex20 ?_ | refine ex21 ?_ | refine ex30 ?_ | refine ex31 ?_ | refine ex32 ?_ | refine ln_rule ?_ | refine lnT_rule ?_ | refine pu_and ?_ | refine pu_or ?_ | refine pu_xor ?_ | refine pu_seq ?_ | refine pu_sne ?_)
        rw [wrap64_in (by omega) (by omega)]
        refine ⟨⟨i + 1, rfl, hlt, fun j hj => ?_, kZ _ h9⟩, by simp; omega⟩
        rcases Nat.lt_succ_iff_lt_or_eq.1 hj with hj | rfl
        · exact hall j hj
        · rw [f1, g1, hfg]
    · refine al_rule h3.drew (l := [vI 0, .slice none 0 0]) (by kernel_rfl) (fun bz w4 h4 => ?_)
      refine ⟨h4.drop, ?_⟩
      refine al_rule h4 (l := [vI 0, .slice none 0 0]) (by kernel_rfl) (fun bx w5 h5 => ?_)
      refine ⟨h5.drop.drop, ?_⟩
      refine st_here (A := []) h5 [vI f.regs, c] rfl rfl (by simp only [List.all_cons, hpf]; rfl) (by simp) (fun w6 h6 => ?_)
      simp only [List.take_zero, List.nil_append, Nat.zero_add, List.drop_succ_cons, List.drop_zero, List.drop_nil, List.append_nil] at h6
      refine ⟨Ow.drop (Ow.drop h6), ?_⟩
      refine st_here (A := [_]) h6 [vI g.regs, c'] rfl rfl (by simp only [List.all_cons, hpg]; rfl) (by simp) (fun w7 hZ => ?_)
      simp only [List.take_zero, List.nil_append, Nat.zero_add, List.drop_succ_cons, List.drop_zero, List.drop_nil, List.append_nil] at hZ
      have hZ : Ow B w7 ((bx, cel [vI f.regs, c] T.t_api_Func) :: (bz, cel [vI g.regs, c'] T.t_api_Func) :: G) := hZ
      have mx : (bx, cel [vI f.regs, c] T.t_api_Func) ∈ (bx, cel [vI f.regs, c] T.t_api_Func) :: (bz, cel [vI g.regs, c'] T.t_api_Func) :: G := .head _
      have my : (bz, cel [vI g.regs, c'] T.t_api_Func) ∈ (bx, cel [vI f.regs, c] T.t_api_Func) :: (bz, cel [vI g.regs, c'] T.t_api_Func) :: G := .tail _ (.head _)
      have gZ : ∀ x, x ∈ G → x ∈ (bx, cel [vI f.regs, c] T.t_api_Func) :: (bz, cel [vI g.regs, c'] T.t_api_Func) :: G := fun x hx => .tail _ (.tail _ hx)
      have kZ : ∀ w', Ow B w' ((bx, cel [vI f.regs, c] T.t_api_Func) :: (bz, cel [vI g.regs, c'] T.t_api_Func) :: G) → Ow B w' G := fun w' h' => h'.drop.drop
      generalize (bx, cel [vI f.regs, c] T.t_api_Func) :: (bz, cel [vI g.regs, c'] T.t_api_Func) :: G = Z at *
      repeat (first | refine pu_not ?_ | refine pu_eql ?_ | refine pu_neq ?_ | refine pu_lss ?_ | refine pu_leq ?_ | refine pu_gtr ?_ | refine pu_geq ?_ | refine pu_add ?_ | refine pu_sub ?_ | refine pu_mul ?_ | refine pu_neg ?_ | refine fa_at ?_ | refine nl_ptr ?_ | refine ex20 ?_ | refine ex21 ?_ | refine ex30 ?_ | refine ex31 ?_ | refine ex32 ?_ | refine ln_rule ?_ | refine lnT_rule ?_ | refine pu_and ?_ | refine pu_or ?_ | refine pu_xor ?_ | refine pu_seq ?_ | refine pu_sne ?_)
      refine ld_here hZ mx (v := vI f.regs) rfl ?_
      repeat (first | refine pu_not ?_ | refine pu_eql ?_ | refine pu_neq ?_ | refine pu_lss ?_ | refine pu_leq ?_ | refine pu_gtr ?_ | refine pu_geq ?_ | refine pu_add ?_ | refine pu_sub ?_ | refine pu_mul ?_ | refine pu_neg ?_ | refine fa_at ?_ | refine nl_ptr ?_ | refine ex20 ?_ | refine ex21 ?_ | refine ex30 ?_ | refine ex31 ?_ | refine ex32 ?_ | refine ln_rule ?_ | refine lnT_rule ?_ | refine pu_and ?_ | refine pu_or ?_ | refine pu_xor ?_ | refine pu_seq ?_ | refine pu_sne ?_)
      refine ld_here hZ my (v := vI g.regs) rfl ?_
      repeat (first | refine pu_not ?_ | refine pu_eql ?_ | refine pu_neq ?_ | refine pu_lss ?_ | refine pu_leq ?_ | refine pu_gtr ?_ | refine pu_geq ?_ | refine pu_add ?_ | refine pu_sub ?_ | refine pu_mul ?_ | refine pu_neg ?_ | refine fa_at ?_ | refine nl_ptr ?_ | refine ex20 ?_ | refine ex21 ?_ | refine ex30 ?_ | refine ex31 ?_ | refine ex32 ?_ | refine ln_rule ?_ | refine lnT_rule ?_ | refine pu_and ?_ | refine pu_or ?_ | refine pu_xor ?_ | refine pu_seq ?_ | refine pu_sne ?_)
      refine cnd (fun hr => ?_) (fun hr => ?_)
      · rw [no2 (fun h => by rw [h] at hr; simp at hr)] at k
        exact k _ (kZ _ hZ)
      have hr : f.regs = g.regs := by simpa using hr
      repeat (first | refine pu_not ?_ | refine pu_eql ?_ | refine pu_neq ?_ | refine pu_lss ?_ | refine pu_leq ?_ | refine pu_gtr ?_ | refine pu_geq ?_ | refine pu_add ?_ | refine pu_sub ?_ | refine pu_mul ?_ | refine pu_neg ?_ | refine fa_at ?_ | refine nl_ptr ?_ | refine ex20 ?_ | refine ex21 ?_ | refine ex30 ?_ | refine ex31 ?_ | refine ex32 ?_ | refine ln_rule ?_ | refine lnT_rule ?_ | refine pu_and ?_ | refine pu_or ?_ | refine pu_xor ?_ | refine pu_seq ?_ | refine pu_sne ?_)
      refine ld_here hZ mx (v := c) rfl ?_
      refine sls_ln f4 ?_
      rw [icode_len]
      repeat (first | refine pu_not ?_ | refine pu_eql ?_ | refine pu_neq ?_ | refine pu_lss ?_ | refine pu_leq ?_ | refine pu_gtr ?_ | refine pu_geq ?_ | refine pu_add ?_ | refine pu_sub ?_ | refine pu_mul ?_ | refine pu_neg ?_ | refine fa_at ?_ | refine nl_ptr ?_ | refine ex20 ?_ | refine ex21 ?_ | refine ex30 ?_ | refine ex31 ?_ | refine ex32 ?_ | refine ln_rule ?_ | refine lnT_rule ?_ | refine pu_and ?_ | refine pu_or ?_ | refine pu_xor ?_ | refine pu_seq ?_ | refine pu_sne ?_)
      refine ld_here hZ my (v := c') rfl ?_
      refine sls_ln g4 ?_
      rw [icode_len]
      repeat (first | refine pu_not ?_ | refine pu_eql ?_ | refine pu_neq ?_ | refine pu_lss ?_ | refine pu_leq ?_ | refine pu_gtr ?_ | refine pu_geq ?_ | refine pu_add ?_ | refine pu_sub ?_ | refine pu_mul ?_ | refine pu_neg ?_ | refine fa_at ?_ | refine nl_ptr ?_ | refine ex20 ?_ | refine ex21 ?_ | refine ex30 ?_ | refine ex31 ?_ | refine ex32 ?_ | refine ln_rule ?_ | refine lnT_rule ?_ | refine pu_and ?_ | refine pu_or ?_ | refine pu_xor ?_ | refine pu_seq ?_ | refine pu_sne ?_)
      refine cnd (fun hl => ?_) (fun hl => ?_)
      · rw [no2 (fun h => by rw [h] at hl; simp at hl)] at k
        exact k _ (kZ _ hZ)
      have hl : f.code.length = g.code.length := by simp at hl; omega
      refine ⟨fun l w => ∃ n : Nat, l = [vI n] ∧ n ≤ f.code.length ∧ (∀ j, j < n → f.code[j]? = g.code[j]?) ∧ Ow B w Z,
        fun l _ => match l with | [.int _ n] => f.code.length - n.toNat | _ => 0, ⟨0, rfl, Nat.zero_le _, fun j hj => absurd hj (by omega), hZ⟩, ?_⟩
      rintro l w9 ⟨n, rfl, hn, hcode, h9⟩ j9
      repeat (first | refine pu_not ?_ | refine pu_eql ?_ | refine pu_neq ?_ | refine pu_lss ?_ | refine pu_leq ?_ | refine pu_gtr ?_ | refine pu_geq ?_ | refine pu_add ?_ | refine pu_sub ?_ | refine pu_mul ?_ | refine pu_neg ?_ | refine fa_at ?_ | refine nl_ptr ?_ | refine ex20 ?_ | refine ex21 ?_ | refine ex30 ?_ | refine ex31 ?_ | refine ex32 ?_ | refine ln_rule ?_ | refine lnT_rule ?_ | refine pu_and ?_ | refine pu_or ?_ | refine pu_xor ?_ | refine pu_seq ?_ | refine pu_sne ?_)
      refine ld_here h9 mx (v := c) rfl ?_
      refine sls_ln f4 ?_
      rw [icode_len]
      repeat (first | refine pu_not ?_ | refine pu_eql ?_ | refine pu_neq ?_ | refine pu_lss ?_ | refine pu_leq ?_ | refine pu_gtr ?_ | refine pu_geq ?_ | refine pu_add ?_ | refine pu_sub ?_ | refine pu_mul ?_ | refine pu_neg ?_ | refine fa_at ?_ | refine nl_ptr ?_ | refine ex20 ?_ | refine ex21 ?_ | refine ex30 ?_ | refine ex31 ?_ | refine ex32 ?_ | refine ln_rule ?_ | refine lnT_rule ?_ | refine pu_and ?_ | refine pu_or ?_ | refine pu_xor ?_ | refine pu_seq ?_ | refine pu_sne ?_)
      refine cnd (fun hlt9 => ?_) (fun hlt9 => ?_)
      · have hlt9 : n < f.code.length := by simpa using hlt9
        refine ⟨fun w => Ow B w Z, h9.drew, ?_⟩
        repeat (first | refine pu_not ?_ | refine pu_eql ?_ | refine pu_neq ?_ | refine pu_lss ?_ | refine pu_leq ?_ | refine pu_gtr ?_ | refine pu_geq ?_ | refine pu_add ?_ | refine pu_sub ?_ | refine pu_mul ?_ | refine pu_neg ?_ | refine fa_at ?_ | refine nl_ptr ?_ | refine ex20 ?_ | refine ex21 ?_ | refine ex30 ?_ | refine ex31 ?_ | refine ex32 ?_ | refine ln_rule ?_ | refine lnT_rule ?_ | refine pu_and ?_ | refine pu_or ?_ | refine pu_xor ?_ | refine pu_seq ?_ | refine pu_sne ?_)
        refine lds_here (fun w h => h) mx (v := c) rfl ?_
        refine sls_lds (fun w h => h) (f4.mono gZ) (by omega) (icode_at hlt9) ?_
        repeat (first | refine pu_not ?_ | refine pu_eql ?_ | refine pu_neq ?_ | refine pu_lss ?_ | refine pu_leq ?_ | refine pu_gtr ?_ | refine pu_geq ?_ | refine pu_add ?_ | refine pu_sub ?_ | refine pu_mul ?_ | refine pu_neg ?_ | refine fa_at ?_ | refine nl_ptr ?_ | refine ex20 ?_ | refine ex21 ?_ | refine ex30 ?_ | refine ex31 ?_ | refine ex32 ?_ | refine ln_rule ?_ | refine lnT_rule ?_ | refine pu_and ?_ | refine pu_or ?_ | refine pu_xor ?_ | refine pu_seq ?_ | refine pu_sne ?_)
        refine lds_here (fun w h => h) my (v := c') rfl ?_
        refine sls_lds (fun w h => h) (g4.mono gZ) (by omega) (icode_at (hl ▸ hlt9)) ?_
        refine pu_aneq (by kernel_rfl) (eq_ins _ _) ?_
        refine cnd (fun hne => ?_) (fun he => ?_)
        · rw [no2 (fun h => by subst h; simp at hne)] at k
          exact k _ (kZ _ h9.drew)
        · have he : f.code[n] = g.code[n] := by simpa using he
          repeat (first | refine pu_not ?_ | refine pu_eql ?_ | refine pu_neq ?_ | refine pu_lss ?_ | refine pu_leq ?_ | refine pu_gtr ?_ | refine pu_geq ?_ | refine pu_add ?_ | refine pu_sub ?_ | refine pu_mul ?_ | refine pu_neg ?_ | refine fa_at ?_ | refine nl_ptr ?_ | refine ex20 ?_ | refine ex21 ?_ | refine ex30 ?_ | refine ex31 ?_ | refine ex32 ?_ | refine ln_rule ?_ | refine lnT_rule ?_ | refine pu_and ?_ | refine pu_or ?_ | refine pu_xor ?_ | refine pu_seq ?_ | refine pu_sne ?_)
          rw [wrap64_in (by omega) (by omega)]
          refine ⟨⟨n + 1, rfl, hlt9, fun j hj => ?_, h9.drew⟩, by simp; omega⟩
          rcases Nat.lt_succ_iff_lt_or_eq.1 hj with hj | rfl
          · exact hcode j hj
          · rw [List.getElem?_eq_getElem hlt9, List.getElem?_eq_getElem (hl ▸ hlt9), he]
      · have hce : f.code = g.code := by
          refine List.ext_getElem? fun j => ?_
          by_cases hj : j < f.code.length
          · exact hcode j (by simp at hlt9; omega)
          · rw [List.getElem?_eq_none (by omega), List.getElem?_eq_none (by omega)]
        have hfg : f = g := by
          cases f; cases g
          simp only at hr hce
          rw [hr, hce]
        repeat (first | refine pu_not ?_ | refine pu_eql ?_ | refine pu_neq ?_ | refine pu_lss ?_ | refine pu_leq ?_ | refine pu_gtr ?_ | refine pu_geq ?_ | refine pu_add ?_ | refine pu_sub ?_ | refine pu_mul ?_ | refine pu_neg ?_ | refine fa_at ?_ | refine nl_ptr ?_ | refine ex20 ?_ | refine ex21 ?_ | refine ex30 ?_ | refine ex31 ?_ | refine ex32 ?_ | refine ln_rule ?_ | refine lnT_rule ?_ | refine pu_and ?_ | refine pu_or ?_ | refine pu_xor ?_ | refine pu_seq ?_ | refine pu_sne ?_)
        rw [wrap64_in (by omega) (by omega)]
        refine ⟨⟨i + 1, rfl, hlt, fun j hj => ?_, kZ _ h9⟩, by simp; omega⟩
        rcases Nat.lt_succ_iff_lt_or_eq.1 hj with hj | rfl
        · exact hall j hj
        · rw [f1, g1, hfg]
  · have : decide (p.fs = q.fs) = true := by
      simp only [decide_eq_true_eq]
      refine List.ext_getElem? fun j => ?_
      by_cases hj : j < p.fs.length
      · exact hall j (by simp at hlt; omega)
      · rw [List.getElem?_eq_none (by omega), List.getElem?_eq_none (by omega)]
    rw [this] at k
    exact k _ h3
end
end Go.Proofs.YtkkkcafkepnecaaGreat

/-! The law ImageEncodes. -/
set_option linter.unusedVariables false
set_option linter.unusedSimpArgs false
set_option linter.unnecessarySimpa false
namespace Go.Proofs.YtkkkcafkepnecaaGreat.Im
open Go Go.RowKit Vc Oc Dg
attribute [local irreducible] binV Op.unary convert nlW faW ldS ldW ixS ixA ixV ixT exW lnS lnT pu stW alW opW opU bsW mkW

section
variable {B w : World} {H : Hp} {K : Value → World → Prop} {PK : List PanicEntry → World → Prop}
theorem len_spec {X : Hp} {p : Pr} {v : Value} (hv : fsIn X v p.fs) (hX : ∀ x, x ∈ X → x ∈ H) (hlen : p.fs.length ≤ 1000) (h : Ow B w H)
    (k : ∀ w', Ow B w' H → K (.tuple #[vI (encR p).1.length, vI (encR p).2]) w') : callW PG N.image_Len [.agg (p.cells v).toArray] K PK w := by
  refine image_Len.ok ?_
  unfold image_Len.C
  refine al_rule h (l := p.cells v) rfl (fun b2 w1 h1 => ?_)
  refine ldn_here h1 (.head _) (vs := p.cells v) rfl rfl ?_
  refine encode_spec hv (fun x hx => .tail _ (hX x hx)) hlen h1 (fun S o w2 h2 ho => ?_)
  repeat (first | refine pu_not ?_ | refine pu_eql ?_ | refine pu_neq ?_ | refine pu_lss ?_ | refine pu_leq ?_ | refine pu_gtr ?_ | refine pu_geq ?_ | refine pu_add ?_ | refine pu_sub ?_ | refine fa_at ?_ | refine nl_ptr ?_ | refine ex20 ?_ | refine ex21 ?_ | refine ex30 ?_ | refine ex31 ?_ | refine ex32 ?_ | refine ln_rule ?_ | refine pu_seq ?_ | refine pu_sne ?_)
  refine sl_ln (Vc.Own.sl ho) ?_
  rw [List.length_map]
  exact k _ (h2.sub (((List.Sublist.refl H).cons _).trans (List.sublist_append_right _ _)))
theorem fs_imm {X : Hp} {v : Value} {fs : List Fun} (h : fsIn X v fs) : ∀ f ∈ fs, immOk f.code := fun f hf => by
  obtain ⟨ps, e1, _, e3⟩ := h
  rw [← e1] at hf
  obtain ⟨q, hq, rfl⟩ := List.mem_map.1 hf
  exact (e3 q hq).2
theorem encodes_law {v0 : Value} (g0 : FitV PG H T.t_api_Program v0) (h : Ow B w H) (k : ∀ w', Ow B w' H → K (vB true) w') : callW PG N.linesmanlaw10_ImageEncodes [v0] K PK w := by
  obtain ⟨p, v, rfl, hv⟩ := prog_of g0
  refine linesmanlaw10_ImageEncodes.ok ?_
  unfold linesmanlaw10_ImageEncodes.C
  refine al_rule h (l := p.cells v) rfl (fun b2 w1 h1 => ?_)
  refine ldn_here h1 (.head _) (vs := p.cells v) rfl rfl ?_
  refine few_spec hv (fun x hx => .tail _ hx) h1 (fun r w2 h2 hr => ?_)
  repeat (first | refine pu_not ?_ | refine pu_eql ?_ | refine pu_neq ?_ | refine pu_lss ?_ | refine pu_leq ?_ | refine pu_gtr ?_ | refine pu_geq ?_ | refine pu_add ?_ | refine pu_sub ?_ | refine fa_at ?_ | refine nl_ptr ?_ | refine ex20 ?_ | refine ex21 ?_ | refine ex30 ?_ | refine ex31 ?_ | refine ex32 ?_ | refine ln_rule ?_ | refine pu_seq ?_ | refine pu_sne ?_)
  refine cnd (fun hq => ?_) (fun hq => ?_)
  · exact works_spec h2 (fun w3 h3 => k _ h3.drop)
  have hr := hr (by simpa using hq)
  refine ldn_here h2 (.head _) (vs := p.cells v) rfl rfl ?_
  refine encode_spec hv (fun x hx => .tail _ hx) (by omega) h2 (fun S1 o1 w3 h3 ho1 => ?_)
  repeat (first | refine pu_not ?_ | refine pu_eql ?_ | refine pu_neq ?_ | refine pu_lss ?_ | refine pu_leq ?_ | refine pu_gtr ?_ | refine pu_geq ?_ | refine pu_add ?_ | refine pu_sub ?_ | refine fa_at ?_ | refine nl_ptr ?_ | refine ex20 ?_ | refine ex21 ?_ | refine ex30 ?_ | refine ex31 ?_ | refine ex32 ?_ | refine ln_rule ?_ | refine pu_seq ?_ | refine pu_sne ?_)
  refine ldn_here h3 (List.mem_append_right _ (.head _)) (vs := p.cells v) rfl rfl ?_
  refine len_spec hv (fun x hx => List.mem_append_right _ (.tail _ hx)) (by omega) h3 (fun w4 h4 => ?_)
  repeat (first | refine pu_not ?_ | refine pu_eql ?_ | refine pu_neq ?_ | refine pu_lss ?_ | refine pu_leq ?_ | refine pu_gtr ?_ | refine pu_geq ?_ | refine pu_add ?_ | refine pu_sub ?_ | refine fa_at ?_ | refine nl_ptr ?_ | refine ex20 ?_ | refine ex21 ?_ | refine ex30 ?_ | refine ex31 ?_ | refine ex32 ?_ | refine ln_rule ?_ | refine pu_seq ?_ | refine pu_sne ?_)
  refine ldn_here h4 (List.mem_append_right _ (.head _)) (vs := p.cells v) rfl rfl ?_
  refine rencode_spec hv (fun x hx => List.mem_append_right _ (.tail _ hx)) h4 (fun S2 o2 w5 h5 ho2 => ?_)
  repeat (first | refine pu_not ?_ | refine pu_eql ?_ | refine pu_neq ?_ | refine pu_lss ?_ | refine pu_leq ?_ | refine pu_gtr ?_ | refine pu_geq ?_ | refine pu_add ?_ | refine pu_sub ?_ | refine fa_at ?_ | refine nl_ptr ?_ | refine ex20 ?_ | refine ex21 ?_ | refine ex30 ?_ | refine ex31 ?_ | refine ex32 ?_ | refine ln_rule ?_ | refine pu_seq ?_ | refine pu_sne ?_)
  have s1 : Sl (S2 ++ (S1 ++ (b2, pgO p v) :: H)) o1 (bv (encR p).1) := (Vc.Own.sl ho1).mono fun x hx => List.mem_append_right _ (List.mem_append_left _ hx)
  have s2 : Sl (S2 ++ (S1 ++ (b2, pgO p v) :: H)) o2 (bv (encR p).1) := (Vc.Own.sl ho2).mono fun x hx => List.mem_append_left _ hx
  refine strOf h5 s1 ?_
  refine strOf h5 s2 ?_
  repeat (first | refine pu_not ?_ | refine pu_eql ?_ | refine pu_neq ?_ | refine pu_lss ?_ | refine pu_leq ?_ | refine pu_gtr ?_ | refine pu_geq ?_ | refine pu_add ?_ | refine pu_sub ?_ | refine fa_at ?_ | refine nl_ptr ?_ | refine ex20 ?_ | refine ex21 ?_ | refine ex30 ?_ | refine ex31 ?_ | refine ex32 ?_ | refine ln_rule ?_ | refine pu_seq ?_ | refine pu_sne ?_)
  refine cnd_f (sneF rfl) ?_
  refine num10 ?_
  repeat (first | refine pu_not ?_ | refine pu_eql ?_ | refine pu_neq ?_ | refine pu_lss ?_ | refine pu_leq ?_ | refine pu_gtr ?_ | refine pu_geq ?_ | refine pu_add ?_ | refine pu_sub ?_ | refine fa_at ?_ | refine nl_ptr ?_ | refine ex20 ?_ | refine ex21 ?_ | refine ex30 ?_ | refine ex31 ?_ | refine ex32 ?_ | refine ln_rule ?_ | refine pu_seq ?_ | refine pu_sne ?_)
  refine cnd_f (by simp) ?_
  refine sl_ln s2 ?_
  repeat (first | refine pu_not ?_ | refine pu_eql ?_ | refine pu_neq ?_ | refine pu_lss ?_ | refine pu_leq ?_ | refine pu_gtr ?_ | refine pu_geq ?_ | refine pu_add ?_ | refine pu_sub ?_ | refine fa_at ?_ | refine nl_ptr ?_ | refine ex20 ?_ | refine ex21 ?_ | refine ex30 ?_ | refine ex31 ?_ | refine ex32 ?_ | refine ln_rule ?_ | refine pu_seq ?_ | refine pu_sne ?_)
  refine cnd_f (by simp) ?_
  refine num10 ?_
  repeat (first | refine pu_not ?_ | refine pu_eql ?_ | refine pu_neq ?_ | refine pu_lss ?_ | refine pu_leq ?_ | refine pu_gtr ?_ | refine pu_geq ?_ | refine pu_add ?_ | refine pu_sub ?_ | refine fa_at ?_ | refine nl_ptr ?_ | refine ex20 ?_ | refine ex21 ?_ | refine ex30 ?_ | refine ex31 ?_ | refine ex32 ?_ | refine ln_rule ?_ | refine pu_seq ?_ | refine pu_sne ?_)
  refine cnd_f (by simp) ?_
  repeat (first | refine pu_not ?_ | refine pu_eql ?_ | refine pu_neq ?_ | refine pu_lss ?_ | refine pu_leq ?_ | refine pu_gtr ?_ | refine pu_geq ?_ | refine pu_add ?_ | refine pu_sub ?_ | refine fa_at ?_ | refine nl_ptr ?_ | refine ex20 ?_ | refine ex21 ?_ | refine ex30 ?_ | refine ex31 ?_ | refine ex32 ?_ | refine ln_rule ?_ | refine pu_seq ?_ | refine pu_sne ?_)
  have hdone : ∀ w', Ow B w' (S2 ++ (S1 ++ (b2, pgO p v) :: H)) → Ow B w' H := fun w' h' => h'.sub ((((List.Sublist.refl H).cons _).trans (List.sublist_append_right _ _)).trans (List.sublist_append_right _ _))
  by_cases hk : okP' p = true
  case neg =>
    have e : encR p = ([], 2) := if_neg hk
    rw [e]
    refine cnd_t rfl ?_
    exact works_spec h5 (fun w6 h6 => k _ (hdone _ h6))
  have e : encR p = (encB p, 0) := if_pos hk
  rw [e] at s1 ⊢
  refine cnd_f rfl ?_
  have hel := enc_len hk
  refine decode_spec (l := encB p) s1 (fun x hx => hx) (enc_byt hk) (by omega) h5 (fun F v' w6 hF him h6 => ?_)
  rw [decR_enc (fs_imm hv) hk] at hF him ⊢
  simp only at hF him
  obtain ⟨a1, a2, a3, hv'⟩ := cp_sl hF
  repeat (first | refine pu_not ?_ | refine pu_eql ?_ | refine pu_neq ?_ | refine pu_lss ?_ | refine pu_leq ?_ | refine pu_gtr ?_ | refine pu_geq ?_ | refine pu_add ?_ | refine pu_sub ?_ | refine fa_at ?_ | refine nl_ptr ?_ | refine ex20 ?_ | refine ex21 ?_ | refine ex30 ?_ | refine ex31 ?_ | refine ex32 ?_ | refine ln_rule ?_ | refine pu_seq ?_ | refine pu_sne ?_)
  refine al_rule h6 (l := p0.cells nilS) (by kernel_rfl) (fun b8 w7 h7 => ?_)
  refine st_here (A := []) h7 (p.cells v') rfl rfl (cells_plain _ (by rw [hv']; rfl)) (by simp [Pr.cells]) (fun w8 h8 => ?_)
  have e4 : (p0.cells nilS).take 0 ++ p.cells v' ++ (p0.cells nilS).drop (0 + 4) = p.cells v' := rfl
  rw [e4] at h8
  refine num10 ?_
  repeat (first | refine pu_not ?_ | refine pu_eql ?_ | refine pu_neq ?_ | refine pu_lss ?_ | refine pu_leq ?_ | refine pu_gtr ?_ | refine pu_geq ?_ | refine pu_add ?_ | refine pu_sub ?_ | refine fa_at ?_ | refine nl_ptr ?_ | refine ex20 ?_ | refine ex21 ?_ | refine ex30 ?_ | refine ex31 ?_ | refine ex32 ?_ | refine ln_rule ?_ | refine pu_seq ?_ | refine pu_sne ?_)
  refine cnd_t rfl ?_
  have h8 : Ow B w8 ((b8, pgO p v') :: (F ++ (S2 ++ (S1 ++ (b2, pgO p v) :: H)))) := h8
  refine ldn_here h8 (.tail _ (List.mem_append_right _ (List.mem_append_right _ (List.mem_append_right _ (.head _))))) (vs := p.cells v) rfl rfl ?_
  refine ldn_here h8 (.head _) (vs := p.cells v') rfl rfl ?_
  refine refSame_spec (p := p) (q := p) (X := (b8, pgO p v') :: (F ++ (S2 ++ (S1 ++ (b2, pgO p v) :: H)))) (hv.mono fun x hx => .tail _ (List.mem_append_right _ (List.mem_append_right _ (List.mem_append_right _ (.tail _ hx)))))
    ((hF.ins him).mono fun x hx => .tail _ (List.mem_append_left _ hx)) (fun x hx => hx) h8 (fun w9 h9 => ?_)
  refine cnd_t (by simp) ?_
  have h9 : Ow B w9 (S2 ++ (S1 ++ (b2, pgO p v) :: H)) := h9.sub ((List.sublist_append_right F _).cons _)
  refine is_spec (l := encB p) s1 (fun x hx => hx) (enc_byt hk) (by omega) h9 (fun w10 h10 => ?_)
  rw [decR_enc (fs_imm hv) hk]
  refine cnd_t rfl ?_
  exact works_spec h10 (fun w11 h11 => k _ (hdone _ h11))
end
end Go.Proofs.YtkkkcafkepnecaaGreat.Im
namespace Go.Proofs.YtkkkcafkepnecaaGreat
open Go Go.RowKit Vc
theorem ImageEncodes.law {B w : World} {H : Hp} {K : Value → World → Prop} {PK : List PanicEntry → World → Prop} {v0 : Value} (g0 : FitV PG H T.t_api_Program v0) (h : Ow B w H) (k : ∀ w', Ow B w' H → K (vB true) w') : callW PG N.linesmanlaw10_ImageEncodes [v0] K PK w :=
  Im.encodes_law g0 h k
end Go.Proofs.YtkkkcafkepnecaaGreat

