/- The law GroupHolds: its walk. -/
import Derived.Test.YtapnfbmcniebpaaVgG
import Derived.Test.YtapnfbmcniebpaaVnR
set_option linter.unusedVariables false
set_option linter.unusedSimpArgs false
namespace Go.Proofs.Ytapnfbmcniebpaa
open Go Go.RowKit Vc

section
variable {B w : World} {H : Hp} {K : Value → World → Prop} {PK : List PanicEntry → World → Prop}
theorem und_bool : PG.underlying T.t_bool = some .bool := by kernel_rfl
def gs (s : Int) : GV := ⟨0 :: s :: List.replicate 62 0, 2, true⟩
theorem gs_cnt (s : Int) : (gs s).cnt 1 = s := rfl
theorem gs_made (s : Int) : (gs s).made = true := rfl
theorem gs_many (s : Int) : (gs s).many = 2 := rfl
theorem gs_cnt0 (s : Int) : (gs s).cnt 0 = 0 := rfl
theorem gs_wf {s : Int} (h0 : 0 ≤ s) (h1 : s ≤ 2147483647) : (gs s).Wf := ⟨rfl, by rw [gs_many]; decide, by rw [gs_many]; decide, fun c hc => by
  simp only [gs, List.mem_cons, List.mem_replicate] at hc
  omega⟩
theorem gs_add {s x : Int} (hm : - s ≤ x ∧ x ≤ 2147483647 - s) : (gs s).add 1 x = (gs (s + x), s + x, 0) := by
  unfold GV.add
  rw [if_neg (by simp [gs]), if_neg (by simp [gs]), gs_cnt, if_neg (by omega)]
  rfl
theorem gs_no {s x : Int} (hm : ¬ (- s ≤ x ∧ x ≤ 2147483647 - s)) : (gs s).add 1 x = (gs s, 0, 250) := by
  unfold GV.add
  rw [if_neg (by simp [gs]), if_neg (by simp [gs]), gs_cnt, if_pos (by omega)]

theorem holds_walk {s : Value} {xs : List Int} (h : Ow B w H) (hs : Sl H s (xs.map vI)) (hx : ∀ x ∈ xs, -9223372036854775808 ≤ x ∧ x < 9223372036854775808) (hlen : xs.length ≤ 9223372036854775807)
    (k : ∀ w', Ow B w' H → K (vB true) w') : callW PG N.linesmanlaw15_GroupHolds [s] K PK w := by
  refine linesmanlaw15_GroupHolds.ok ?_
  unfold linesmanlaw15_GroupHolds.C
  obtain ⟨a, cap, rfl, hcap, hcell⟩ := hs
  repeat (first | refine pu_not ?_ | refine pu_eql ?_ | refine pu_neq ?_ | refine pu_lss ?_ | refine pu_leq ?_ | refine pu_gtr ?_ | refine pu_geq ?_ | refine pu_add ?_ | refine pu_sub ?_ | refine pu_mul ?_ | refine pu_neg ?_ | refine fa_at ?_ | refine nl_ptr ?_ | refine ex20 ?_ | refine ex21 ?_ | refine ex30 ?_ | refine ex31 ?_ | refine ex32 ?_ | refine ln_rule ?_)
  refine cnd (fun _ => works_spec h k) (fun hl => ?_)
  simp only [List.length_map] at hl hcap
  refine new_spec h (fun hb => absurd (by omega) hb) (fun _ _ b w1 h1 => ?_)
  repeat (first | refine pu_not ?_ | refine pu_eql ?_ | refine pu_neq ?_ | refine pu_lss ?_ | refine pu_leq ?_ | refine pu_gtr ?_ | refine pu_geq ?_ | refine pu_add ?_ | refine pu_sub ?_ | refine pu_mul ?_ | refine pu_neg ?_ | refine fa_at ?_ | refine nl_ptr ?_ | refine ex20 ?_ | refine ex21 ?_ | refine ex30 ?_ | refine ex31 ?_ | refine ex32 ?_ | refine ln_rule ?_)
  refine ⟨fun l w => ∃ (i : Nat) (s : Int), l = [vI s, vI i] ∧ i ≤ xs.length ∧ 0 ≤ s ∧ s ≤ 2147483647 ∧ Ow B w ((b, (gs s).obj) :: H), fun l _ => match l with | [_, .int _ n] => xs.length - n.toNat | _ => 0, ⟨0, 0, rfl, Nat.zero_le _, by omega, by omega, h1⟩, ?_⟩
  rintro l w2 ⟨i, s, rfl, hi, hs0, hs1, h2⟩ j
  repeat (first | refine pu_not ?_ | refine pu_eql ?_ | refine pu_neq ?_ | refine pu_lss ?_ | refine pu_leq ?_ | refine pu_gtr ?_ | refine pu_geq ?_ | refine pu_add ?_ | refine pu_sub ?_ | refine pu_mul ?_ | refine pu_neg ?_ | refine fa_at ?_ | refine nl_ptr ?_ | refine ex20 ?_ | refine ex21 ?_ | refine ex30 ?_ | refine ex31 ?_ | refine ex32 ?_ | refine ln_rule ?_)
  refine cnd (fun hlt => ?_) (fun hlt => ?_)
  · have hlt : i < xs.length := by simpa using hlt
    obtain ⟨q, rfl, hc⟩ := hcell i (vI xs[i]) (by simp [hlt])
    have hxi := hx _ (List.getElem_mem hlt)
    generalize xs[i] = x at hc hxi
    have hc' : ∀ {X : Nat × Obj}, Cell (X :: H) (q.add ((i : Int).toNat * 1)) (vI x) := by intro X; simpa using hc.cons
    have hgw := gs_wf hs0 hs1
    refine ixS_rule (by omega) (by simp; omega) ?_
    refine ld_cell h2 hc' ?_
    repeat (first | refine pu_not ?_ | refine pu_eql ?_ | refine pu_neq ?_ | refine pu_lss ?_ | refine pu_leq ?_ | refine pu_gtr ?_ | refine pu_geq ?_ | refine pu_add ?_ | refine pu_sub ?_ | refine pu_mul ?_ | refine pu_neg ?_ | refine fa_at ?_ | refine nl_ptr ?_ | refine ex20 ?_ | refine ex21 ?_ | refine ex30 ?_ | refine ex31 ?_ | refine ex32 ?_ | refine ln_rule ?_)
    rw [wrap64_in (by omega) (by omega)]
    by_cases hm : - s ≤ x ∧ x ≤ 2147483647 - s
    · refine cnd_t (by simp; omega) ?_
      refine ixS_rule (by omega) (by simp; omega) ?_
      refine ld_cell h2 hc' ?_
      repeat (first | refine pu_not ?_ | refine pu_eql ?_ | refine pu_neq ?_ | refine pu_lss ?_ | refine pu_leq ?_ | refine pu_gtr ?_ | refine pu_geq ?_ | refine pu_add ?_ | refine pu_sub ?_ | refine pu_mul ?_ | refine pu_neg ?_ | refine fa_at ?_ | refine nl_ptr ?_ | refine ex20 ?_ | refine ex21 ?_ | refine ex30 ?_ | refine ex31 ?_ | refine ex32 ?_ | refine ln_rule ?_)
      rw [wrap64_in (by omega) (by omega)]
      refine ixS_rule (by omega) (by simp; omega) ?_
      refine ld_cell h2 hc' ?_
      refine add_spec (A := []) hgw h2 (fun w3 h3 => ?_)
      rw [gs_add hm] at h3 ⊢
      have hw' := gs_wf (s := s + x) (by omega) (by omega)
      have h4 : Ow B w3 ((b, (gs (s + x)).obj) :: H) := h3
      repeat (first | refine pu_not ?_ | refine pu_eql ?_ | refine pu_neq ?_ | refine pu_lss ?_ | refine pu_leq ?_ | refine pu_gtr ?_ | refine pu_geq ?_ | refine pu_add ?_ | refine pu_sub ?_ | refine pu_mul ?_ | refine pu_neg ?_ | refine fa_at ?_ | refine nl_ptr ?_ | refine ex20 ?_ | refine ex21 ?_ | refine ex30 ?_ | refine ex31 ?_ | refine ex32 ?_ | refine ln_rule ?_)
      refine cnd_t (by simp; omega) ?_
      refine ixS_rule (by omega) (by simp; omega) ?_
      refine ld_cell h4 hc' ?_
      repeat (first | refine pu_not ?_ | refine pu_eql ?_ | refine pu_neq ?_ | refine pu_lss ?_ | refine pu_leq ?_ | refine pu_gtr ?_ | refine pu_geq ?_ | refine pu_add ?_ | refine pu_sub ?_ | refine pu_mul ?_ | refine pu_neg ?_ | refine fa_at ?_ | refine nl_ptr ?_ | refine ex20 ?_ | refine ex21 ?_ | refine ex30 ?_ | refine ex31 ?_ | refine ex32 ?_ | refine ln_rule ?_)
      rw [wrap64_in (by omega) (by omega)]
      unfold linesmanlaw15_GroupHolds.k0
      refine num_spec ?_
      repeat (first | refine pu_not ?_ | refine pu_eql ?_ | refine pu_neq ?_ | refine pu_lss ?_ | refine pu_leq ?_ | refine pu_gtr ?_ | refine pu_geq ?_ | refine pu_add ?_ | refine pu_sub ?_ | refine pu_mul ?_ | refine pu_neg ?_ | refine fa_at ?_ | refine nl_ptr ?_ | refine ex20 ?_ | refine ex21 ?_ | refine ex30 ?_ | refine ex31 ?_ | refine ex32 ?_ | refine ln_rule ?_)
      refine pu_bneq und_bool ?_
      refine cnd_f (by simp; omega) ?_
      repeat (first | refine pu_not ?_ | refine pu_eql ?_ | refine pu_neq ?_ | refine pu_lss ?_ | refine pu_leq ?_ | refine pu_gtr ?_ | refine pu_geq ?_ | refine pu_add ?_ | refine pu_sub ?_ | refine pu_mul ?_ | refine pu_neg ?_ | refine fa_at ?_ | refine nl_ptr ?_ | refine ex20 ?_ | refine ex21 ?_ | refine ex30 ?_ | refine ex31 ?_ | refine ex32 ?_ | refine ln_rule ?_)
      refine cnd_f (by simp; omega) ?_
      refine cnd_t (by simp; omega) ?_
      repeat (first | refine pu_not ?_ | refine pu_eql ?_ | refine pu_neq ?_ | refine pu_lss ?_ | refine pu_leq ?_ | refine pu_gtr ?_ | refine pu_geq ?_ | refine pu_add ?_ | refine pu_sub ?_ | refine pu_mul ?_ | refine pu_neg ?_ | refine fa_at ?_ | refine nl_ptr ?_ | refine ex20 ?_ | refine ex21 ?_ | refine ex30 ?_ | refine ex31 ?_ | refine ex32 ?_ | refine ln_rule ?_)
      refine cnd_f (by simp) ?_
      refine count_spec hw' h4 (.head _) (fun w5 h5 => ?_)
      repeat (first | refine pu_not ?_ | refine pu_eql ?_ | refine pu_neq ?_ | refine pu_lss ?_ | refine pu_leq ?_ | refine pu_gtr ?_ | refine pu_geq ?_ | refine pu_add ?_ | refine pu_sub ?_ | refine pu_mul ?_ | refine pu_neg ?_ | refine fa_at ?_ | refine nl_ptr ?_ | refine ex20 ?_ | refine ex21 ?_ | refine ex30 ?_ | refine ex31 ?_ | refine ex32 ?_ | refine ln_rule ?_)
      refine cnd_f (by simp [gs_cnt, gs_made, gs_many, ibeq]) ?_
      refine done_spec hw' h5 (.head _) (fun w6 h6 => ?_)
      repeat (first | refine pu_not ?_ | refine pu_eql ?_ | refine pu_neq ?_ | refine pu_lss ?_ | refine pu_leq ?_ | refine pu_gtr ?_ | refine pu_geq ?_ | refine pu_add ?_ | refine pu_sub ?_ | refine pu_mul ?_ | refine pu_neg ?_ | refine fa_at ?_ | refine nl_ptr ?_ | refine ex20 ?_ | refine ex21 ?_ | refine ex30 ?_ | refine ex31 ?_ | refine ex32 ?_ | refine ln_rule ?_)
      refine pu_bneq und_bool ?_
      refine cnd_f (by simp [gs_cnt, gs_made, gs_many, ibeq]) ?_
      refine done_spec hw' h6 (.head _) (fun w7 h7 => ?_)
      repeat (first | refine pu_not ?_ | refine pu_eql ?_ | refine pu_neq ?_ | refine pu_lss ?_ | refine pu_leq ?_ | refine pu_gtr ?_ | refine pu_geq ?_ | refine pu_add ?_ | refine pu_sub ?_ | refine pu_mul ?_ | refine pu_neg ?_ | refine fa_at ?_ | refine nl_ptr ?_ | refine ex20 ?_ | refine ex21 ?_ | refine ex30 ?_ | refine ex31 ?_ | refine ex32 ?_ | refine ln_rule ?_)
      refine cnd_f (by simp [gs_cnt0, gs_made, gs_many]) ?_
      repeat (first | refine pu_not ?_ | refine pu_eql ?_ | refine pu_neq ?_ | refine pu_lss ?_ | refine pu_leq ?_ | refine pu_gtr ?_ | refine pu_geq ?_ | refine pu_add ?_ | refine pu_sub ?_ | refine pu_mul ?_ | refine pu_neg ?_ | refine fa_at ?_ | refine nl_ptr ?_ | refine ex20 ?_ | refine ex21 ?_ | refine ex30 ?_ | refine ex31 ?_ | refine ex32 ?_ | refine ln_rule ?_)
      rw [wrap64_in (by omega) (by omega)]
      refine ⟨⟨i + 1, s + x, rfl, hlt, by omega, by omega, h7⟩, ?_⟩
      simp; omega
    · by_cases hm1 : - s ≤ x
      · refine cnd_t (by simp; omega) ?_
        refine ixS_rule (by omega) (by simp; omega) ?_
        refine ld_cell h2 hc' ?_
        repeat (first | refine pu_not ?_ | refine pu_eql ?_ | refine pu_neq ?_ | refine pu_lss ?_ | refine pu_leq ?_ | refine pu_gtr ?_ | refine pu_geq ?_ | refine pu_add ?_ | refine pu_sub ?_ | refine pu_mul ?_ | refine pu_neg ?_ | refine fa_at ?_ | refine nl_ptr ?_ | refine ex20 ?_ | refine ex21 ?_ | refine ex30 ?_ | refine ex31 ?_ | refine ex32 ?_ | refine ln_rule ?_)
        rw [wrap64_in (by omega) (by omega)]
        refine ixS_rule (by omega) (by simp; omega) ?_
        refine ld_cell h2 hc' ?_
        refine add_spec (A := []) hgw h2 (fun w3 h3 => ?_)
        rw [gs_no hm] at h3 ⊢
        have hw' := hgw
        have h4 : Ow B w3 ((b, (gs s).obj) :: H) := h3
        repeat (first | refine pu_not ?_ | refine pu_eql ?_ | refine pu_neq ?_ | refine pu_lss ?_ | refine pu_leq ?_ | refine pu_gtr ?_ | refine pu_geq ?_ | refine pu_add ?_ | refine pu_sub ?_ | refine pu_mul ?_ | refine pu_neg ?_ | refine fa_at ?_ | refine nl_ptr ?_ | refine ex20 ?_ | refine ex21 ?_ | refine ex30 ?_ | refine ex31 ?_ | refine ex32 ?_ | refine ln_rule ?_)
        refine cnd_f (by simp; omega) ?_
        unfold linesmanlaw15_GroupHolds.k0
        refine num_spec ?_
        repeat (first | refine pu_not ?_ | refine pu_eql ?_ | refine pu_neq ?_ | refine pu_lss ?_ | refine pu_leq ?_ | refine pu_gtr ?_ | refine pu_geq ?_ | refine pu_add ?_ | refine pu_sub ?_ | refine pu_mul ?_ | refine pu_neg ?_ | refine fa_at ?_ | refine nl_ptr ?_ | refine ex20 ?_ | refine ex21 ?_ | refine ex30 ?_ | refine ex31 ?_ | refine ex32 ?_ | refine ln_rule ?_)
        refine pu_bneq und_bool ?_
        refine cnd_f (by simp; omega) ?_
        repeat (first | refine pu_not ?_ | refine pu_eql ?_ | refine pu_neq ?_ | refine pu_lss ?_ | refine pu_leq ?_ | refine pu_gtr ?_ | refine pu_geq ?_ | refine pu_add ?_ | refine pu_sub ?_ | refine pu_mul ?_ | refine pu_neg ?_ | refine fa_at ?_ | refine nl_ptr ?_ | refine ex20 ?_ | refine ex21 ?_ | refine ex30 ?_ | refine ex31 ?_ | refine ex32 ?_ | refine ln_rule ?_)
        refine cnd_t (by simp; omega) ?_
        refine num_spec ?_
        repeat (first | refine pu_not ?_ | refine pu_eql ?_ | refine pu_neq ?_ | refine pu_lss ?_ | refine pu_leq ?_ | refine pu_gtr ?_ | refine pu_geq ?_ | refine pu_add ?_ | refine pu_sub ?_ | refine pu_mul ?_ | refine pu_neg ?_ | refine fa_at ?_ | refine nl_ptr ?_ | refine ex20 ?_ | refine ex21 ?_ | refine ex30 ?_ | refine ex31 ?_ | refine ex32 ?_ | refine ln_rule ?_)
        refine cnd_f (by simp) ?_
        refine cnd_f (by simp; omega) ?_
        refine count_spec hw' h4 (.head _) (fun w5 h5 => ?_)
        repeat (first | refine pu_not ?_ | refine pu_eql ?_ | refine pu_neq ?_ | refine pu_lss ?_ | refine pu_leq ?_ | refine pu_gtr ?_ | refine pu_geq ?_ | refine pu_add ?_ | refine pu_sub ?_ | refine pu_mul ?_ | refine pu_neg ?_ | refine fa_at ?_ | refine nl_ptr ?_ | refine ex20 ?_ | refine ex21 ?_ | refine ex30 ?_ | refine ex31 ?_ | refine ex32 ?_ | refine ln_rule ?_)
        refine cnd_f (by simp [gs_cnt, gs_made, gs_many, ibeq]) ?_
        refine done_spec hw' h5 (.head _) (fun w6 h6 => ?_)
        repeat (first | refine pu_not ?_ | refine pu_eql ?_ | refine pu_neq ?_ | refine pu_lss ?_ | refine pu_leq ?_ | refine pu_gtr ?_ | refine pu_geq ?_ | refine pu_add ?_ | refine pu_sub ?_ | refine pu_mul ?_ | refine pu_neg ?_ | refine fa_at ?_ | refine nl_ptr ?_ | refine ex20 ?_ | refine ex21 ?_ | refine ex30 ?_ | refine ex31 ?_ | refine ex32 ?_ | refine ln_rule ?_)
        refine pu_bneq und_bool ?_
        refine cnd_f (by simp [gs_cnt, gs_made, gs_many, ibeq]) ?_
        refine done_spec hw' h6 (.head _) (fun w7 h7 => ?_)
        repeat (first | refine pu_not ?_ | refine pu_eql ?_ | refine pu_neq ?_ | refine pu_lss ?_ | refine pu_leq ?_ | refine pu_gtr ?_ | refine pu_geq ?_ | refine pu_add ?_ | refine pu_sub ?_ | refine pu_mul ?_ | refine pu_neg ?_ | refine fa_at ?_ | refine nl_ptr ?_ | refine ex20 ?_ | refine ex21 ?_ | refine ex30 ?_ | refine ex31 ?_ | refine ex32 ?_ | refine ln_rule ?_)
        refine cnd_f (by simp [gs_cnt0, gs_made, gs_many]) ?_
        repeat (first | refine pu_not ?_ | refine pu_eql ?_ | refine pu_neq ?_ | refine pu_lss ?_ | refine pu_leq ?_ | refine pu_gtr ?_ | refine pu_geq ?_ | refine pu_add ?_ | refine pu_sub ?_ | refine pu_mul ?_ | refine pu_neg ?_ | refine fa_at ?_ | refine nl_ptr ?_ | refine ex20 ?_ | refine ex21 ?_ | refine ex30 ?_ | refine ex31 ?_ | refine ex32 ?_ | refine ln_rule ?_)
        rw [wrap64_in (by omega) (by omega)]
        refine ⟨⟨i + 1, s, rfl, hlt, hs0, hs1, h7⟩, ?_⟩
        simp; omega
      · refine cnd_f (by simp; omega) ?_
        refine ixS_rule (by omega) (by simp; omega) ?_
        refine ld_cell h2 hc' ?_
        refine add_spec (A := []) hgw h2 (fun w3 h3 => ?_)
        rw [gs_no hm] at h3 ⊢
        have hw' := hgw
        have h4 : Ow B w3 ((b, (gs s).obj) :: H) := h3
        repeat (first | refine pu_not ?_ | refine pu_eql ?_ | refine pu_neq ?_ | refine pu_lss ?_ | refine pu_leq ?_ | refine pu_gtr ?_ | refine pu_geq ?_ | refine pu_add ?_ | refine pu_sub ?_ | refine pu_mul ?_ | refine pu_neg ?_ | refine fa_at ?_ | refine nl_ptr ?_ | refine ex20 ?_ | refine ex21 ?_ | refine ex30 ?_ | refine ex31 ?_ | refine ex32 ?_ | refine ln_rule ?_)
        refine num_spec ?_
        repeat (first | refine pu_not ?_ | refine pu_eql ?_ | refine pu_neq ?_ | refine pu_lss ?_ | refine pu_leq ?_ | refine pu_gtr ?_ | refine pu_geq ?_ | refine pu_add ?_ | refine pu_sub ?_ | refine pu_mul ?_ | refine pu_neg ?_ | refine fa_at ?_ | refine nl_ptr ?_ | refine ex20 ?_ | refine ex21 ?_ | refine ex30 ?_ | refine ex31 ?_ | refine ex32 ?_ | refine ln_rule ?_)
        refine pu_bneq und_bool ?_
        refine cnd_f (by simp) ?_
        repeat (first | refine pu_not ?_ | refine pu_eql ?_ | refine pu_neq ?_ | refine pu_lss ?_ | refine pu_leq ?_ | refine pu_gtr ?_ | refine pu_geq ?_ | refine pu_add ?_ | refine pu_sub ?_ | refine pu_mul ?_ | refine pu_neg ?_ | refine fa_at ?_ | refine nl_ptr ?_ | refine ex20 ?_ | refine ex21 ?_ | refine ex30 ?_ | refine ex31 ?_ | refine ex32 ?_ | refine ln_rule ?_)
        refine cnd_t (by simp) ?_
        refine num_spec ?_
        repeat (first | refine pu_not ?_ | refine pu_eql ?_ | refine pu_neq ?_ | refine pu_lss ?_ | refine pu_leq ?_ | refine pu_gtr ?_ | refine pu_geq ?_ | refine pu_add ?_ | refine pu_sub ?_ | refine pu_mul ?_ | refine pu_neg ?_ | refine fa_at ?_ | refine nl_ptr ?_ | refine ex20 ?_ | refine ex21 ?_ | refine ex30 ?_ | refine ex31 ?_ | refine ex32 ?_ | refine ln_rule ?_)
        refine cnd_f (by simp) ?_
        refine count_spec hw' h4 (.head _) (fun w5 h5 => ?_)
        repeat (first | refine pu_not ?_ | refine pu_eql ?_ | refine pu_neq ?_ | refine pu_lss ?_ | refine pu_leq ?_ | refine pu_gtr ?_ | refine pu_geq ?_ | refine pu_add ?_ | refine pu_sub ?_ | refine pu_mul ?_ | refine pu_neg ?_ | refine fa_at ?_ | refine nl_ptr ?_ | refine ex20 ?_ | refine ex21 ?_ | refine ex30 ?_ | refine ex31 ?_ | refine ex32 ?_ | refine ln_rule ?_)
        refine cnd_f (by simp [gs_cnt, gs_made, gs_many, ibeq]) ?_
        refine done_spec hw' h5 (.head _) (fun w6 h6 => ?_)
        repeat (first | refine pu_not ?_ | refine pu_eql ?_ | refine pu_neq ?_ | refine pu_lss ?_ | refine pu_leq ?_ | refine pu_gtr ?_ | refine pu_geq ?_ | refine pu_add ?_ | refine pu_sub ?_ | refine pu_mul ?_ | refine pu_neg ?_ | refine fa_at ?_ | refine nl_ptr ?_ | refine ex20 ?_ | refine ex21 ?_ | refine ex30 ?_ | refine ex31 ?_ | refine ex32 ?_ | refine ln_rule ?_)
        refine pu_bneq und_bool ?_
        refine cnd_f (by simp [gs_cnt, gs_made, gs_many, ibeq]) ?_
        refine done_spec hw' h6 (.head _) (fun w7 h7 => ?_)
        repeat (first | refine pu_not ?_ | refine pu_eql ?_ | refine pu_neq ?_ | refine pu_lss ?_ | refine pu_leq ?_ | refine pu_gtr ?_ | refine pu_geq ?_ | refine pu_add ?_ | refine pu_sub ?_ | refine pu_mul ?_ | refine pu_neg ?_ | refine fa_at ?_ | refine nl_ptr ?_ | refine ex20 ?_ | refine ex21 ?_ | refine ex30 ?_ | refine ex31 ?_ | refine ex32 ?_ | refine ln_rule ?_)
        refine cnd_f (by simp [gs_cnt0, gs_made, gs_many]) ?_
        repeat (first | refine pu_not ?_ | refine pu_eql ?_ | refine pu_neq ?_ | refine pu_lss ?_ | refine pu_leq ?_ | refine pu_gtr ?_ | refine pu_geq ?_ | refine pu_add ?_ | refine pu_sub ?_ | refine pu_mul ?_ | refine pu_neg ?_ | refine fa_at ?_ | refine nl_ptr ?_ | refine ex20 ?_ | refine ex21 ?_ | refine ex30 ?_ | refine ex31 ?_ | refine ex32 ?_ | refine ln_rule ?_)
        rw [wrap64_in (by omega) (by omega)]
        refine ⟨⟨i + 1, s, rfl, hlt, hs0, hs1, h7⟩, ?_⟩
        simp; omega
  · refine num_spec ?_
    repeat (first | refine pu_not ?_ | refine pu_eql ?_ | refine pu_neq ?_ | refine pu_lss ?_ | refine pu_leq ?_ | refine pu_gtr ?_ | refine pu_geq ?_ | refine pu_add ?_ | refine pu_sub ?_ | refine pu_mul ?_ | refine pu_neg ?_ | refine fa_at ?_ | refine nl_ptr ?_ | refine ex20 ?_ | refine ex21 ?_ | refine ex30 ?_ | refine ex31 ?_ | refine ex32 ?_ | refine ln_rule ?_)
    refine cnd_t (by decide) ?_
    exact works_spec h2.drop k
theorem GroupHolds.law {v : Value} (g : FitV PG H T.t_sl_int64 v) (h : Ow B w H) (k : ∀ w', Ow B w' H → K (vB true) w') : callW PG N.linesmanlaw15_GroupHolds [v] K PK w := by
  obtain ⟨xs, h1, h2, h3⟩ := g.ints (e := T.t_int64) (k := .i64) (by kernel_rfl) (by kernel_rfl) (by kernel_rfl)
  exact holds_walk h h1 (fun x hx => by
    have := h3 x hx
    simp only [Lit.wf, IntKind.min, IntKind.max, IntKind.signed, IntKind.bits] at this
    simp at this
    omega) h2 k
end
end Go.Proofs.Ytapnfbmcniebpaa
