/- Contracts of package arith: several words; names; the chapter's rows. -/
import Derived.Test.YtjchmalodbnamaaVbB
set_option linter.unusedVariables false
set_option linter.unusedSimpArgs false
namespace Go.Proofs.Ytjchmalodbnamaa
open Go Go.RowKit Vc
attribute [local irreducible] binV Op.unary convert

section
variable {B w : World} {H : Hp} {K : Value → World → Prop} {PK : List PanicEntry → World → Prop}
theorem aOp_u {k a b : Int} (ha : IsU a) (hb : IsU b) (h : k = 4 ∨ k = 5 → b ≠ 0) : IsU (aOp k a b) := by
  unfold aOp
  by_cases h1 : k = 1
  · simp only [h1, if_true]; constructor <;> omega
  by_cases h2 : k = 2
  · simp only [h2, if_true]; constructor <;> simp <;> omega
  by_cases h3 : k = 3
  · simp only [h3, if_true]; constructor <;> simp <;> omega
  by_cases h4 : k = 4
  · have h5 : 0 ≤ a / b := Int.ediv_nonneg ha.1 hb.1
    have h6 : a / b ≤ a := Int.ediv_le_self _ ha.1
    simp only [h4, if_true, Int.tdiv_eq_ediv_of_nonneg ha.1]; constructor <;> simp <;> omega
  by_cases h5 : k = 5
  · have hb0 : b ≠ 0 := h (.inr h5)
    have h7 : 0 ≤ a % b := Int.emod_nonneg _ hb0
    have h6 : a % b < b := Int.emod_lt_of_pos _ (by omega)
    simp only [h5, if_true, tme ha.1]; constructor <;> simp <;> omega
  by_cases h6 : k = 6
  · simp only [h6, if_true, andI, wrapu32]; constructor <;> simp <;> omega
  by_cases h7 : k = 7
  · simp only [h7, if_true, orI, wrapu32]; constructor <;> simp <;> omega
  by_cases h8 : k = 8
  · simp only [h8, if_true, xorI, wrapu32]; constructor <;> simp <;> omega
  by_cases h9 : k = 9
  · simp only [h9, if_true]; constructor <;> simp <;> omega
  by_cases h10 : k = 10
  · have := shr_le ha.1 (b % 32).toNat
    simp only [h10, if_true]; constructor <;> simp <;> omega
  simp only [h1, h2, h3, h4, h5, h6, h7, h8, h9, h10, if_false]
  split <;> split <;> constructor <;> omega
theorem aDo_u {k a b : Int} (ha : IsU a) (hb : IsU b) : IsU (aDo k a b).1 := by
  unfold aDo
  split
  · exact ⟨by decide, by decide⟩
  · split
    · exact ⟨by decide, by decide⟩
    · rename_i h1 h2
      exact aOp_u ha hb (fun h4 hb => h2 ⟨hb, h4⟩)
theorem aDo_e {k a b : Int} : (aDo k a b).2 = 0 ∨ (aDo k a b).2 = 2 ∨ (aDo k a b).2 = 150 := by
  unfold aDo
  split
  · simp
  · split <;> simp

/-! ### Several -/
def foldG (k : Int) : Int → List Int → Int → Int × Int × Int
  | a, [], n => (a, n, 0)
  | a, x :: l, n => if (aDo k a x).2 = 0 then foldG k (aDo k a x).1 l (n + 1) else (a, n, (aDo k a x).2)
def aFold (k a : Int) (l : List Int) : Int × Int × Int := if k < 1 ∨ 12 < k then (0, 0, 2) else foldG k a l 0
theorem fold_step {k a : Int} {l : List Int} {i : Nat} (hi : i < l.length) (h : (aDo k a l[i]).2 = 0) (n : Int) : foldG k a (l.drop i) n = foldG k (aDo k a l[i]).1 (l.drop (i + 1)) (n + 1) := by
  rw [List.drop_eq_getElem_cons hi]
  simp only [foldG, h, if_true]
theorem fold_stop {k a : Int} {l : List Int} {i : Nat} (hi : i < l.length) (h : ¬ (aDo k a l[i]).2 = 0) (n : Int) : foldG k a (l.drop i) n = (a, n, (aDo k a l[i]).2) := by
  rw [List.drop_eq_getElem_cons hi]
  simp only [foldG, h, if_false]
theorem fold_end {k a : Int} {l : List Int} {n : Int} : foldG k a (l.drop l.length) n = (a, n, 0) := by simp [foldG]

theorem refFold_spec {i a : Int} {s : Value} {xs : List Int} (ha : IsU a) (hx : ∀ x ∈ xs, IsU x) (hlen : xs.length ≤ 9223372036854775807) (h : Ow B w H) (hs : Sl H s (xs.map vU))
    (k : ∀ w', Ow B w' H → K (.tuple #[vU (aFold i a xs).1, vI (aFold i a xs).2.1, vI (aFold i a xs).2.2]) w') : callW PG N.linesmanref05_Fold [vI i, vU a, s] K PK w := by
  refine linesmanref05_Fold.ok ?_
  unfold linesmanref05_Fold.C
  obtain ⟨p0, cap, rfl, hcap, hcell⟩ := hs
  simp only [List.length_map] at hcap ⊢
  repeat (first | refine pu_not ?_ | refine pu_eql ?_ | refine pu_neq ?_ | refine pu_lss ?_ | refine pu_leq ?_ | refine pu_gtr ?_ | refine pu_geq ?_ | refine pu_add ?_ | refine pu_sub ?_ | refine pu_mul ?_ | refine pu_neg ?_ | refine fa_at ?_ | refine nl_ptr ?_ | refine ex20 ?_ | refine ex21 ?_ | refine ex30 ?_ | refine ex31 ?_ | refine ex32 ?_ | refine ln_rule ?_ | refine lnT_rule ?_ | refine pu_and ?_ | refine pu_or ?_ | refine pu_xor ?_ | refine pu_seq ?_ | refine pu_sne ?_)
  refine cnd (fun hlo => ?_) (fun hlo => ?_)
  · have hlo : i < 1 := by simpa using hlo
    have := k w h
    simpa only [aFold, hlo, true_or, if_true] using this
  repeat (first | refine pu_not ?_ | refine pu_eql ?_ | refine pu_neq ?_ | refine pu_lss ?_ | refine pu_leq ?_ | refine pu_gtr ?_ | refine pu_geq ?_ | refine pu_add ?_ | refine pu_sub ?_ | refine pu_mul ?_ | refine pu_neg ?_ | refine fa_at ?_ | refine nl_ptr ?_ | refine ex20 ?_ | refine ex21 ?_ | refine ex30 ?_ | refine ex31 ?_ | refine ex32 ?_ | refine ln_rule ?_ | refine lnT_rule ?_ | refine pu_and ?_ | refine pu_or ?_ | refine pu_xor ?_ | refine pu_seq ?_ | refine pu_sne ?_)
  refine cnd (fun hhi => ?_) (fun hhi => ?_)
  · have hhi : 12 < i := by simpa using hhi
    have := k w h
    simpa only [aFold, hhi, or_true, if_true] using this
  have hlo : ¬ i < 1 := by simpa using hlo
  have hhi : ¬ 12 < i := by simpa using hhi
  have k : ∀ w', Ow B w' H → ∀ X, X = foldG i a xs 0 → K (.tuple #[vU X.1, vI X.2.1, vI X.2.2]) w' := fun w' h' X hX => by
    subst hX
    have := k w' h'
    simpa only [aFold, hlo, hhi, or_self, if_false] using this
  refine ⟨fun l w => ∃ (j : Nat) (s : Int), l = [vU s, vI j] ∧ j ≤ xs.length ∧ IsU s ∧ foldG i a xs 0 = foldG i s (xs.drop j) j ∧ Ow B w H, fun l _ => match l with | [_, .int _ n] => xs.length - n.toNat | _ => 0,
    ⟨0, a, rfl, Nat.zero_le _, ha, rfl, h⟩, ?_⟩
  rintro l w2 ⟨j, s, rfl, hj, hs, he, h2⟩ j0
  repeat (first | refine pu_not ?_ | refine pu_eql ?_ | refine pu_neq ?_ | refine pu_lss ?_ | refine pu_leq ?_ | refine pu_gtr ?_ | refine pu_geq ?_ | refine pu_add ?_ | refine pu_sub ?_ | refine pu_mul ?_ | refine pu_neg ?_ | refine fa_at ?_ | refine nl_ptr ?_ | refine ex20 ?_ | refine ex21 ?_ | refine ex30 ?_ | refine ex31 ?_ | refine ex32 ?_ | refine ln_rule ?_ | refine lnT_rule ?_ | refine pu_and ?_ | refine pu_or ?_ | refine pu_xor ?_ | refine pu_seq ?_ | refine pu_sne ?_)
  refine cnd (fun hlt => ?_) (fun hlt => ?_)
  · have hlt : j < xs.length := by simpa using hlt
    obtain ⟨q, rfl, hc⟩ := hcell j (vU xs[j]) (by simp [hlt])
    refine ixS_rule (by omega) (by omega) ?_
    refine ld_cell h2 (by simpa using hc) ?_
    refine refDo_spec hs (hx _ (List.getElem_mem hlt)) h2 (fun w3 h3 => ?_)
    repeat (first | refine pu_not ?_ | refine pu_eql ?_ | refine pu_neq ?_ | refine pu_lss ?_ | refine pu_leq ?_ | refine pu_gtr ?_ | refine pu_geq ?_ | refine pu_add ?_ | refine pu_sub ?_ | refine pu_mul ?_ | refine pu_neg ?_ | refine fa_at ?_ | refine nl_ptr ?_ | refine ex20 ?_ | refine ex21 ?_ | refine ex30 ?_ | refine ex31 ?_ | refine ex32 ?_ | refine ln_rule ?_ | refine lnT_rule ?_ | refine pu_and ?_ | refine pu_or ?_ | refine pu_xor ?_ | refine pu_seq ?_ | refine pu_sne ?_)
    refine cnd (fun hb => ?_) (fun hb => ?_)
    · have hb : ¬ (aDo i s xs[j]).2 = 0 := by simpa using hb
      exact k w3 h3 _ (he.trans (fold_stop hlt hb _)).symm
    · have hb : (aDo i s xs[j]).2 = 0 := by simpa using hb
      repeat (first | refine pu_not ?_ | refine pu_eql ?_ | refine pu_neq ?_ | refine pu_lss ?_ | refine pu_leq ?_ | refine pu_gtr ?_ | refine pu_geq ?_ | refine pu_add ?_ | refine pu_sub ?_ | refine pu_mul ?_ | refine pu_neg ?_ | refine fa_at ?_ | refine nl_ptr ?_ | refine ex20 ?_ | refine ex21 ?_ | refine ex30 ?_ | refine ex31 ?_ | refine ex32 ?_ | refine ln_rule ?_ | refine lnT_rule ?_ | refine pu_and ?_ | refine pu_or ?_ | refine pu_xor ?_ | refine pu_seq ?_ | refine pu_sne ?_)
      rw [wrap64_in (by omega) (by omega)]
      exact ⟨⟨j + 1, _, rfl, hlt, aDo_u hs (hx _ (List.getElem_mem hlt)), by rw [he, fold_step hlt hb]; rfl, h3⟩, by simp; omega⟩
  · have hlt : ¬ j < xs.length := by simpa using hlt
    obtain rfl : j = xs.length := by omega
    repeat (first | refine pu_not ?_ | refine pu_eql ?_ | refine pu_neq ?_ | refine pu_lss ?_ | refine pu_leq ?_ | refine pu_gtr ?_ | refine pu_geq ?_ | refine pu_add ?_ | refine pu_sub ?_ | refine pu_mul ?_ | refine pu_neg ?_ | refine fa_at ?_ | refine nl_ptr ?_ | refine ex20 ?_ | refine ex21 ?_ | refine ex30 ?_ | refine ex31 ?_ | refine ex32 ?_ | refine ln_rule ?_ | refine lnT_rule ?_ | refine pu_and ?_ | refine pu_or ?_ | refine pu_xor ?_ | refine pu_seq ?_ | refine pu_sne ?_)
    exact k w2 h2 _ (he.trans fold_end).symm

theorem fold1_spec {i s x : Int} {p : Nat} {e : TypeId} (hs : IsU s) (hx : IsU x) (h : Ow B w H) (hm : (p, cel [vI i] e) ∈ H) (k : ∀ w', Ow B w' H → K (.tuple #[vU (aDo i s x).1, vI (aDo i s x).2]) w') :
    callV PG (.func (.func N.arith_Fold_1) #[] #[ptr p]) [vU s, vU x] K PK w := by
  refine callV_fn arith_Fold_1.okf (arith_Fold_1.ok ?_)
  unfold arith_Fold_1.C
  refine ld_here h hm rfl ?_
  refine do_spec hs hx h (fun w1 h1 => ?_)
  repeat (first | refine pu_not ?_ | refine pu_eql ?_ | refine pu_neq ?_ | refine pu_lss ?_ | refine pu_leq ?_ | refine pu_gtr ?_ | refine pu_geq ?_ | refine pu_add ?_ | refine pu_sub ?_ | refine pu_mul ?_ | refine pu_neg ?_ | refine fa_at ?_ | refine nl_ptr ?_ | refine ex20 ?_ | refine ex21 ?_ | refine ex30 ?_ | refine ex31 ?_ | refine ex32 ?_ | refine ln_rule ?_ | refine lnT_rule ?_ | refine pu_and ?_ | refine pu_or ?_ | refine pu_xor ?_ | refine pu_seq ?_ | refine pu_sne ?_)
  exact k w1 h1
theorem folded_spec {i a : Int} {s : Value} {xs : List Int} {p : Nat} {e : TypeId} (ha : IsU a) (hx : ∀ x ∈ xs, IsU x) (hlen : xs.length ≤ 9223372036854775807) (h : Ow B w H) (hs : Sl H s (xs.map vU)) (hm : (p, cel [vI i] e) ∈ H)
    (k : ∀ w', Ow B w' H → K (.tuple #[vU (foldG i a xs 0).1, vI (foldG i a xs 0).2.1, vI (foldG i a xs 0).2.2]) w') : callW PG N.arith_folded_uint32_uint32 [vU a, s, .func (.func N.arith_Fold_1) #[] #[ptr p]] K PK w := by
  refine arith_folded_uint32_uint32.ok ?_
  unfold arith_folded_uint32_uint32.C
  obtain ⟨p0, cap, rfl, hcap, hcell⟩ := hs
  simp only [List.length_map] at hcap ⊢
  have k : ∀ w', Ow B w' H → ∀ X, X = foldG i a xs 0 → K (.tuple #[vU X.1, vI X.2.1, vI X.2.2]) w' := fun w' h' X hX => by
    subst hX
    exact k w' h'
  repeat (first | refine pu_not ?_ | refine pu_eql ?_ | refine pu_neq ?_ | refine pu_lss ?_ | refine pu_leq ?_ | refine pu_gtr ?_ | refine pu_geq ?_ | refine pu_add ?_ | refine pu_sub ?_ | refine pu_mul ?_ | refine pu_neg ?_ | refine fa_at ?_ | refine nl_ptr ?_ | refine ex20 ?_ | refine ex21 ?_ | refine ex30 ?_ | refine ex31 ?_ | refine ex32 ?_ | refine ln_rule ?_ | refine lnT_rule ?_ | refine pu_and ?_ | refine pu_or ?_ | refine pu_xor ?_ | refine pu_seq ?_ | refine pu_sne ?_)
  refine ⟨fun l w => ∃ (j : Nat) (s : Int), l = [vU s, vI j] ∧ j ≤ xs.length ∧ IsU s ∧ foldG i a xs 0 = foldG i s (xs.drop j) j ∧ Ow B w H, fun l _ => match l with | [_, .int _ n] => xs.length - n.toNat | _ => 0,
    ⟨0, a, rfl, Nat.zero_le _, ha, rfl, h⟩, ?_⟩
  rintro l w2 ⟨j, s, rfl, hj, hs, he, h2⟩ j0
  repeat (first | refine pu_not ?_ | refine pu_eql ?_ | refine pu_neq ?_ | refine pu_lss ?_ | refine pu_leq ?_ | refine pu_gtr ?_ | refine pu_geq ?_ | refine pu_add ?_ | refine pu_sub ?_ | refine pu_mul ?_ | refine pu_neg ?_ | refine fa_at ?_ | refine nl_ptr ?_ | refine ex20 ?_ | refine ex21 ?_ | refine ex30 ?_ | refine ex31 ?_ | refine ex32 ?_ | refine ln_rule ?_ | refine lnT_rule ?_ | refine pu_and ?_ | refine pu_or ?_ | refine pu_xor ?_ | refine pu_seq ?_ | refine pu_sne ?_)
  refine cnd (fun hlt => ?_) (fun hlt => ?_)
  · have hlt : j < xs.length := by simpa using hlt
    obtain ⟨q, rfl, hc⟩ := hcell j (vU xs[j]) (by simp [hlt])
    refine ixS_rule (by omega) (by omega) ?_
    refine ld_cell h2 (by simpa using hc) ?_
    refine fold1_spec hs (hx _ (List.getElem_mem hlt)) h2 hm (fun w3 h3 => ?_)
    repeat (first | refine pu_not ?_ | refine pu_eql ?_ | refine pu_neq ?_ | refine pu_lss ?_ | refine pu_leq ?_ | refine pu_gtr ?_ | refine pu_geq ?_ | refine pu_add ?_ | refine pu_sub ?_ | refine pu_mul ?_ | refine pu_neg ?_ | refine fa_at ?_ | refine nl_ptr ?_ | refine ex20 ?_ | refine ex21 ?_ | refine ex30 ?_ | refine ex31 ?_ | refine ex32 ?_ | refine ln_rule ?_ | refine lnT_rule ?_ | refine pu_and ?_ | refine pu_or ?_ | refine pu_xor ?_ | refine pu_seq ?_ | refine pu_sne ?_)
    refine cnd (fun hb => ?_) (fun hb => ?_)
    · have hb : ¬ (aDo i s xs[j]).2 = 0 := by simpa using hb
      exact k w3 h3 _ (he.trans (fold_stop hlt hb _)).symm
    · have hb : (aDo i s xs[j]).2 = 0 := by simpa using hb
      repeat (first | refine pu_not ?_ | refine pu_eql ?_ | refine pu_neq ?_ | refine pu_lss ?_ | refine pu_leq ?_ | refine pu_gtr ?_ | refine pu_geq ?_ | refine pu_add ?_ | refine pu_sub ?_ | refine pu_mul ?_ | refine pu_neg ?_ | refine fa_at ?_ | refine nl_ptr ?_ | refine ex20 ?_ | refine ex21 ?_ | refine ex30 ?_ | refine ex31 ?_ | refine ex32 ?_ | refine ln_rule ?_ | refine lnT_rule ?_ | refine pu_and ?_ | refine pu_or ?_ | refine pu_xor ?_ | refine pu_seq ?_ | refine pu_sne ?_)
      rw [wrap64_in (by omega) (by omega)]
      exact ⟨⟨j + 1, _, rfl, hlt, aDo_u hs (hx _ (List.getElem_mem hlt)), by rw [he, fold_step hlt hb]; rfl, h3⟩, by simp; omega⟩
  · have hlt : ¬ j < xs.length := by simpa using hlt
    obtain rfl : j = xs.length := by omega
    repeat (first | refine pu_not ?_ | refine pu_eql ?_ | refine pu_neq ?_ | refine pu_lss ?_ | refine pu_leq ?_ | refine pu_gtr ?_ | refine pu_geq ?_ | refine pu_add ?_ | refine pu_sub ?_ | refine pu_mul ?_ | refine pu_neg ?_ | refine fa_at ?_ | refine nl_ptr ?_ | refine ex20 ?_ | refine ex21 ?_ | refine ex30 ?_ | refine ex31 ?_ | refine ex32 ?_ | refine ln_rule ?_ | refine lnT_rule ?_ | refine pu_and ?_ | refine pu_or ?_ | refine pu_xor ?_ | refine pu_seq ?_ | refine pu_sne ?_)
    exact k w2 h2 _ (he.trans fold_end).symm

/-! ### Names -/
def namesL : List ByteArray := [bs [97, 100, 100], bs [115, 117, 98], bs [109, 117, 108], bs [100, 105, 118], bs [109, 111, 100], bs [97, 110, 100], bs [111, 114], bs [120, 111, 114], bs [115, 104, 108], bs [115, 104, 114],
  bs [108, 101, 115, 115], bs [101, 113, 117, 97, 108]]
def nm (i : Nat) : ByteArray := namesL.getD i ByteArray.empty
theorem nm_at {i : Nat} (hi : i < 12) : (namesL.map Value.string)[i]? = some (.string (nm i)) := by
  have : i < namesL.length := hi
  simp [nm, List.getD, this]
def everyL : List (List Value) := (List.range 12).map fun (i : Nat) => [vI ((i : Int) + 1), .string (nm i)]
theorem every_at {i : Nat} (hi : i < 12) : everyL[i]? = some [vI ((i : Int) + 1), .string (nm i)] := by simp [everyL, hi]
theorem every_of {i : Nat} {args : List Value} (h : everyL[i]? = some args) : i < 12 ∧ args = [vI ((i : Int) + 1), .string (nm i)] := by
  simp only [everyL, List.getElem?_map, Option.map_eq_some_iff] at h
  obtain ⟨j, hj, rfl⟩ := h
  obtain ⟨hlt, rfl⟩ := List.getElem?_eq_some_iff.1 hj
  simp at hlt
  simp [hlt]
theorem every_len : everyL.length = 12 := rfl
theorem every_two : ∀ args ∈ everyL, args.length = 2 := by
  intro args h
  simp only [everyL, List.mem_map] at h
  obtain ⟨i, _, rfl⟩ := h
  rfl
theorem names_spec (h : Ow B w H) (k : ∀ w', Ow B w' H → K (.agg (namesL.map Value.string).toArray) w') : callW PG N.arith_names [] K PK w := by
  refine arith_names.ok ?_
  unfold arith_names.C
  refine al_rule h (l := List.replicate 12 (.string ByteArray.empty)) (by kernel_rfl) (fun b w1 h1 => ?_)
  refine pu_build (namesL.map Value.string) (by kernel_rfl) ?_
  refine st_here (A := []) h1 (namesL.map Value.string) rfl rfl rfl (by simp) (fun w2 h2 => ?_)
  refine ldn_here h2 (.head _) (vs := namesL.map Value.string) rfl rfl ?_
  exact k _ h2.drop
theorem every_seq : Seq PG B H (fnv N.arith_every_1) everyL := by
  refine Seq.fn arith_every_1.okf ?_
  intro y J Z K PK w X hy hw j0 hr he
  refine arith_every_1.ok ?_
  unfold arith_every_1.C
  refine names_spec hw (fun w1 h1 => ?_)
  refine ⟨fun l w => ∃ (i : Nat) (X : Hp), l = [vI i] ∧ i ≤ 12 ∧ J i X ∧ Ow B w (X ++ H), fun l _ => match l with | [.int _ n] => 12 - n.toNat | _ => 0, ⟨0, X, rfl, by omega, j0, h1⟩, ?_⟩
  rintro l w2 ⟨i, X, rfl, hi, hj, h2⟩ j1
  repeat (first | refine pu_not ?_ | refine pu_eql ?_ | refine pu_neq ?_ | refine pu_lss ?_ | refine pu_leq ?_ | refine pu_gtr ?_ | refine pu_geq ?_ | refine pu_add ?_ | refine pu_sub ?_ | refine pu_mul ?_ | refine pu_neg ?_ | refine fa_at ?_ | refine nl_ptr ?_ | refine ex20 ?_ | refine ex21 ?_ | refine ex30 ?_ | refine ex31 ?_ | refine ex32 ?_ | refine ln_rule ?_ | refine lnT_rule ?_ | refine pu_and ?_ | refine pu_or ?_ | refine pu_xor ?_ | refine pu_seq ?_ | refine pu_sne ?_)
  refine cnd (fun hlt => ?_) (fun hlt => ?_)
  · have hlt : i < 12 := by simp at hlt; omega
    refine ixV_rule (by omega) (by simp; omega) (by rw [Int.toNat_natCast]; exact nm_at hlt) ?_
    repeat (first | refine pu_not ?_ | refine pu_eql ?_ | refine pu_neq ?_ | refine pu_lss ?_ | refine pu_leq ?_ | refine pu_gtr ?_ | refine pu_geq ?_ | refine pu_add ?_ | refine pu_sub ?_ | refine pu_mul ?_ | refine pu_neg ?_ | refine fa_at ?_ | refine nl_ptr ?_ | refine ex20 ?_ | refine ex21 ?_ | refine ex30 ?_ | refine ex31 ?_ | refine ex32 ?_ | refine ln_rule ?_ | refine lnT_rule ?_ | refine pu_and ?_ | refine pu_or ?_ | refine pu_xor ?_ | refine pu_seq ?_ | refine pu_sne ?_)
    rw [wrap64_in (by omega) (by omega)]
    refine hr i _ X H _ _ w2 (every_at hlt) hj (fun x hx => hx) h2 (fun X' w3 h3 hj3 => ?_) (fun X' w3 h3 hz3 => ?_)
    · repeat (first | refine pu_not ?_ | refine pu_eql ?_ | refine pu_neq ?_ | refine pu_lss ?_ | refine pu_leq ?_ | refine pu_gtr ?_ | refine pu_geq ?_ | refine pu_add ?_ | refine pu_sub ?_ | refine pu_mul ?_ | refine pu_neg ?_ | refine fa_at ?_ | refine nl_ptr ?_ | refine ex20 ?_ | refine ex21 ?_ | refine ex30 ?_ | refine ex31 ?_ | refine ex32 ?_ | refine ln_rule ?_ | refine lnT_rule ?_ | refine pu_and ?_ | refine pu_or ?_ | refine pu_xor ?_ | refine pu_seq ?_ | refine pu_sne ?_)
      refine cnd_f rfl ?_
      repeat (first | refine pu_not ?_ | refine pu_eql ?_ | refine pu_neq ?_ | refine pu_lss ?_ | refine pu_leq ?_ | refine pu_gtr ?_ | refine pu_geq ?_ | refine pu_add ?_ | refine pu_sub ?_ | refine pu_mul ?_ | refine pu_neg ?_ | refine fa_at ?_ | refine nl_ptr ?_ | refine ex20 ?_ | refine ex21 ?_ | refine ex30 ?_ | refine ex31 ?_ | refine ex32 ?_ | refine ln_rule ?_ | refine lnT_rule ?_ | refine pu_and ?_ | refine pu_or ?_ | refine pu_xor ?_ | refine pu_seq ?_ | refine pu_sne ?_)
      rw [wrap64_in (by omega) (by omega)]
      exact ⟨⟨i + 1, X', rfl, hlt, hj3, h3⟩, by simp; omega⟩
    · repeat (first | refine pu_not ?_ | refine pu_eql ?_ | refine pu_neq ?_ | refine pu_lss ?_ | refine pu_leq ?_ | refine pu_gtr ?_ | refine pu_geq ?_ | refine pu_add ?_ | refine pu_sub ?_ | refine pu_mul ?_ | refine pu_neg ?_ | refine fa_at ?_ | refine nl_ptr ?_ | refine ex20 ?_ | refine ex21 ?_ | refine ex30 ?_ | refine ex31 ?_ | refine ex32 ?_ | refine ln_rule ?_ | refine lnT_rule ?_ | refine pu_and ?_ | refine pu_or ?_ | refine pu_xor ?_ | refine pu_seq ?_ | refine pu_sne ?_)
      refine cnd_t rfl ?_
      exact he _ X' w3 h3 (.inr hz3)
  · obtain rfl : i = 12 := by simp at hlt; omega
    exact he _ X w2 h2 (.inl hj)
theorem every_spec (h : Ow B w H) (k : K (fnv N.arith_every_1) w) : callW PG N.arith_every [] K PK w := by
  refine arith_every.ok ?_
  unfold arith_every.C
  exact k
def nameOf (k : Int) : ByteArray × Int := if 1 ≤ k ∧ k ≤ 12 then (nm (k - 1).toNat, 0) else (ByteArray.empty, 2)
theorem name_spec {i : Int} (h : Ow B w H) (k : ∀ w', Ow B w' H → K (.tuple #[.string (nameOf i).1, vI (nameOf i).2]) w') : callW PG N.arith_Name [vI i] K PK w := by
  refine arith_Name.ok ?_
  unfold arith_Name.C
  refine al_rule h (l := [vI i]) rfl (fun b1 w1 h1 => ?_)
  refine al_rule h1 (l := [.string ByteArray.empty]) (by kernel_rfl) (fun b2 w2 h2 => ?_)
  refine al_rule h2 (l := [vI 0]) (by kernel_rfl) (fun b3 w3 h3 => ?_)
  refine every_spec h3 ?_
  refine range_fn (X := [(b3, cel [vI 0] T.t_api_Errno), (b2, cel [.string ByteArray.empty] T.t_string), (b1, cel [vI i] T.t_api_Arith)]) (H := H) (A := arith_Name.note) (fuel := 400) mixed every_seq (by simp) every_two h3
    (fun n Y => Y = [(b3, cel [vI 0] T.t_api_Errno), (b2, cel [.string ByteArray.empty] T.t_string), (b1, cel [vI i] T.t_api_Arith)] ∧ ¬ (1 ≤ i ∧ i ≤ n))
    (fun j Y => j = .ret ∧ Y = [(b3, cel [vI 0] T.t_api_Errno), (b2, cel [.string (nameOf i).1] T.t_string), (b1, cel [vI i] T.t_api_Arith)] ∧ (nameOf i).2 = 0) ⟨rfl, by omega⟩ ?_ ?_ ?_
  · rintro l r n args Y F R w4 hL ⟨rfl, hn⟩ hF h4 k1 k2 u
    obtain ⟨hlt, rfl⟩ := every_of hL
    refine Eq.mpr (arith_Name.Rd0_eq l R _ _ _ _ _ w4 u) ?_
    unfold arith_Name.Rd0
    refine rbeg h4 (fun w5 h5 => ?_)
    refine ld_here h5 (.tail _ (.tail _ (.tail _ (.head _)))) rfl ?_
    repeat (first | refine pu_not ?_ | refine pu_eql ?_ | refine pu_neq ?_ | refine pu_lss ?_ | refine pu_leq ?_ | refine pu_gtr ?_ | refine pu_geq ?_ | refine pu_add ?_ | refine pu_sub ?_ | refine pu_mul ?_ | refine pu_neg ?_ | refine fa_at ?_ | refine nl_ptr ?_ | refine ex20 ?_ | refine ex21 ?_ | refine ex30 ?_ | refine ex31 ?_ | refine ex32 ?_ | refine ln_rule ?_ | refine lnT_rule ?_ | refine pu_and ?_ | refine pu_or ?_ | refine pu_xor ?_ | refine pu_seq ?_ | refine pu_sne ?_)
    refine cnd (fun heq => ?_) (fun heq => ?_)
    · have heq : (n : Int) + 1 = i := by simpa using heq
      have e : nameOf i = (nm n, 0) := by
        unfold nameOf
        rw [if_pos (by omega)]
        congr 2; omega
      refine st1_here (A := [_, _]) h5 rfl rfl (by simp) (fun w6 h6 => ?_)
      refine st1_here (A := [_]) h6 rfl rfl (by simp) (fun w7 h7 => ?_)
      refine rend_stop h7 (fun w8 h8 => ?_)
      exact k2 _ _ w8 ⟨rfl, rfl, by rw [e]⟩ (by rw [e]; exact h8)
    · have heq : ¬ (n : Int) + 1 = i := by simpa using heq
      exact rend_go h5 (fun w6 h6 => k1 _ w6 ⟨rfl, by omega⟩ h6)
  · rintro b Y w4 ⟨rfl, hn⟩ h4
    rw [every_len] at hn
    have e : nameOf i = (ByteArray.empty, 2) := by
      unfold nameOf
      rw [if_neg (by omega)]
    refine st1_here (A := [_, _]) h4 rfl rfl (by simp) (fun w6 h6 => ?_)
    refine st1_here (A := [_]) h6 rfl rfl (by simp) (fun w7 h7 => ?_)
    refine lv_ret h7 (fun w8 h8 => ?_)
    refine ld_here h8 (.tail _ (.head _)) rfl ?_
    refine ld_here h8 (.head _) rfl ?_
    have := k w8 h8.drop.drop.drop
    rw [e] at this
    exact this
  · rintro b j Y w4 ⟨rfl, rfl, he⟩ h4
    refine lv_ret h4 (fun w8 h8 => ?_)
    refine ld_here h8 (.tail _ (.head _)) rfl ?_
    refine ld_here h8 (.head _) rfl ?_
    have := k w8 h8.drop.drop.drop
    rw [he] at this
    exact this
theorem fold_spec {i a : Int} {s : Value} {xs : List Int} (ha : IsU a) (hx : ∀ x ∈ xs, IsU x) (hlen : xs.length ≤ 9223372036854775807) (h : Ow B w H) (hs : Sl H s (xs.map vU))
    (k : ∀ w', Ow B w' H → K (.tuple #[vU (aFold i a xs).1, vI (aFold i a xs).2.1, vI (aFold i a xs).2.2]) w') : callW PG N.arith_Fold [vI i, vU a, s] K PK w := by
  refine arith_Fold.ok ?_
  unfold arith_Fold.C
  refine al_rule h (l := [vI i]) rfl (fun b1 w1 h1 => ?_)
  refine ld_here h1 (.head _) rfl ?_
  refine name_spec h1 (fun w2 h2 => ?_)
  repeat (first | refine pu_not ?_ | refine pu_eql ?_ | refine pu_neq ?_ | refine pu_lss ?_ | refine pu_leq ?_ | refine pu_gtr ?_ | refine pu_geq ?_ | refine pu_add ?_ | refine pu_sub ?_ | refine pu_mul ?_ | refine pu_neg ?_ | refine fa_at ?_ | refine nl_ptr ?_ | refine ex20 ?_ | refine ex21 ?_ | refine ex30 ?_ | refine ex31 ?_ | refine ex32 ?_ | refine ln_rule ?_ | refine lnT_rule ?_ | refine pu_and ?_ | refine pu_or ?_ | refine pu_xor ?_ | refine pu_seq ?_ | refine pu_sne ?_)
  by_cases hi : 1 ≤ i ∧ i ≤ 12
  · have e : (nameOf i).2 = 0 := by simp [nameOf, hi]
    have hn : ¬ (i < 1 ∨ 12 < i) := by omega
    refine cnd_f (by simp [e]) ?_
    refine folded_spec ha hx hlen h2 hs.cons (.head _) (fun w3 h3 => ?_)
    repeat (first | refine pu_not ?_ | refine pu_eql ?_ | refine pu_neq ?_ | refine pu_lss ?_ | refine pu_leq ?_ | refine pu_gtr ?_ | refine pu_geq ?_ | refine pu_add ?_ | refine pu_sub ?_ | refine pu_mul ?_ | refine pu_neg ?_ | refine fa_at ?_ | refine nl_ptr ?_ | refine ex20 ?_ | refine ex21 ?_ | refine ex30 ?_ | refine ex31 ?_ | refine ex32 ?_ | refine ln_rule ?_ | refine lnT_rule ?_ | refine pu_and ?_ | refine pu_or ?_ | refine pu_xor ?_ | refine pu_seq ?_ | refine pu_sne ?_)
    have := k w3 h3.drop
    simpa only [aFold, hn, if_false] using this
  · have e : (nameOf i).2 = 2 := by simp [nameOf, hi]
    have hn : i < 1 ∨ 12 < i := by omega
    refine cnd_t (by simp [e]) ?_
    have := k w2 h2.drop
    rw [e]
    simpa only [aFold, hn, if_true] using this
/-! ### The chapter's rows -/
def lDoes (k a b : Int) : Int := if (aDo k a b).2 = 0 then (aDo k a b).1 else 1000000 + (aDo k a b).2
theorem does_spec {i a b : Int} (ha : IsU a) (hb : IsU b) (h : Ow B w H) (k : ∀ w', Ow B w' H → K (vU (lDoes i a b)) w') : callW PG N.linesmanlaw05_does [vI i, vU a, vU b] K PK w := by
  refine linesmanlaw05_does.ok ?_
  unfold linesmanlaw05_does.C
  refine do_spec ha hb h (fun w1 h1 => ?_)
  repeat (first | refine pu_not ?_ | refine pu_eql ?_ | refine pu_neq ?_ | refine pu_lss ?_ | refine pu_leq ?_ | refine pu_gtr ?_ | refine pu_geq ?_ | refine pu_add ?_ | refine pu_sub ?_ | refine pu_mul ?_ | refine pu_neg ?_ | refine fa_at ?_ | refine nl_ptr ?_ | refine ex20 ?_ | refine ex21 ?_ | refine ex30 ?_ | refine ex31 ?_ | refine ex32 ?_ | refine ln_rule ?_ | refine lnT_rule ?_ | refine pu_and ?_ | refine pu_or ?_ | refine pu_xor ?_ | refine pu_seq ?_ | refine pu_sne ?_)
  refine num_spec ?_
  repeat (first | refine pu_not ?_ | refine pu_eql ?_ | refine pu_neq ?_ | refine pu_lss ?_ | refine pu_leq ?_ | refine pu_gtr ?_ | refine pu_geq ?_ | refine pu_add ?_ | refine pu_sub ?_ | refine pu_mul ?_ | refine pu_neg ?_ | refine fa_at ?_ | refine nl_ptr ?_ | refine ex20 ?_ | refine ex21 ?_ | refine ex30 ?_ | refine ex31 ?_ | refine ex32 ?_ | refine ln_rule ?_ | refine lnT_rule ?_ | refine pu_and ?_ | refine pu_or ?_ | refine pu_xor ?_ | refine pu_seq ?_ | refine pu_sne ?_)
  refine cnd (fun he => ?_) (fun he => ?_)
  · have he : ¬ (aDo i a b).2 = 0 := by simpa using he
    have h3 := aDo_e (k := i) (a := a) (b := b)
    refine num_spec ?_
    refine pu_max2 ?_
    refine pu_cvt ⟨_, und_int⟩ und_u32 ?_
    repeat (first | refine pu_not ?_ | refine pu_eql ?_ | refine pu_neq ?_ | refine pu_lss ?_ | refine pu_leq ?_ | refine pu_gtr ?_ | refine pu_geq ?_ | refine pu_add ?_ | refine pu_sub ?_ | refine pu_mul ?_ | refine pu_neg ?_ | refine fa_at ?_ | refine nl_ptr ?_ | refine ex20 ?_ | refine ex21 ?_ | refine ex30 ?_ | refine ex31 ?_ | refine ex32 ?_ | refine ln_rule ?_ | refine lnT_rule ?_ | refine pu_and ?_ | refine pu_or ?_ | refine pu_xor ?_ | refine pu_seq ?_ | refine pu_sne ?_)
    rw [if_pos (by omega), wrapu32, wrapu32]
    have e : (1000000 + (aDo i a b).2 % 4294967296) % 4294967296 = lDoes i a b := by
      rw [lDoes, if_neg he]; omega
    rw [e]
    exact k w1 h1
  · have he : (aDo i a b).2 = 0 := by simpa using he
    have e : (aDo i a b).1 = lDoes i a b := by rw [lDoes, if_pos he]
    rw [e]
    exact k w1 h1
theorem works_spec (h : Ow B w H) (k : ∀ w', Ow B w' H → K (vB true) w') : callW PG N.linesmanlaw05_works [] K PK w := by
  refine linesmanlaw05_works.ok ?_
  unfold linesmanlaw05_works.C
  refine bs_rule h [vU 5, vU 0, vU 2] (by kernel_rfl) (fun b w1 h1 => ?_)
  refine fold_spec (xs := [5, 0, 2]) ⟨by decide, by decide⟩ (by simp [IsU]) (by decide) h1 (sl_here (.head _)) (fun w2 h2 => ?_)
  repeat (first | refine pu_not ?_ | refine pu_eql ?_ | refine pu_neq ?_ | refine pu_lss ?_ | refine pu_leq ?_ | refine pu_gtr ?_ | refine pu_geq ?_ | refine pu_add ?_ | refine pu_sub ?_ | refine pu_mul ?_ | refine pu_neg ?_ | refine fa_at ?_ | refine nl_ptr ?_ | refine ex20 ?_ | refine ex21 ?_ | refine ex30 ?_ | refine ex31 ?_ | refine ex32 ?_ | refine ln_rule ?_ | refine lnT_rule ?_ | refine pu_and ?_ | refine pu_or ?_ | refine pu_xor ?_ | refine pu_seq ?_ | refine pu_sne ?_)
  refine does_spec ⟨by decide, by decide⟩ ⟨by decide, by decide⟩ h2 (fun w3 h3 => ?_)
  repeat (first | refine pu_not ?_ | refine pu_eql ?_ | refine pu_neq ?_ | refine pu_lss ?_ | refine pu_leq ?_ | refine pu_gtr ?_ | refine pu_geq ?_ | refine pu_add ?_ | refine pu_sub ?_ | refine pu_mul ?_ | refine pu_neg ?_ | refine fa_at ?_ | refine nl_ptr ?_ | refine ex20 ?_ | refine ex21 ?_ | refine ex30 ?_ | refine ex31 ?_ | refine ex32 ?_ | refine ln_rule ?_ | refine lnT_rule ?_ | refine pu_and ?_ | refine pu_or ?_ | refine pu_xor ?_ | refine pu_seq ?_ | refine pu_sne ?_)
  refine cnd_t (by decide) ?_
  refine does_spec ⟨by decide, by decide⟩ ⟨by decide, by decide⟩ h3 (fun w4 h4 => ?_)
  repeat (first | refine pu_not ?_ | refine pu_eql ?_ | refine pu_neq ?_ | refine pu_lss ?_ | refine pu_leq ?_ | refine pu_gtr ?_ | refine pu_geq ?_ | refine pu_add ?_ | refine pu_sub ?_ | refine pu_mul ?_ | refine pu_neg ?_ | refine fa_at ?_ | refine nl_ptr ?_ | refine ex20 ?_ | refine ex21 ?_ | refine ex30 ?_ | refine ex31 ?_ | refine ex32 ?_ | refine ln_rule ?_ | refine lnT_rule ?_ | refine pu_and ?_ | refine pu_or ?_ | refine pu_xor ?_ | refine pu_seq ?_ | refine pu_sne ?_)
  refine cnd_t (by decide) ?_
  refine does_spec ⟨by decide, by decide⟩ ⟨by decide, by decide⟩ h4 (fun w5 h5 => ?_)
  repeat (first | refine pu_not ?_ | refine pu_eql ?_ | refine pu_neq ?_ | refine pu_lss ?_ | refine pu_leq ?_ | refine pu_gtr ?_ | refine pu_geq ?_ | refine pu_add ?_ | refine pu_sub ?_ | refine pu_mul ?_ | refine pu_neg ?_ | refine fa_at ?_ | refine nl_ptr ?_ | refine ex20 ?_ | refine ex21 ?_ | refine ex30 ?_ | refine ex31 ?_ | refine ex32 ?_ | refine ln_rule ?_ | refine lnT_rule ?_ | refine pu_and ?_ | refine pu_or ?_ | refine pu_xor ?_ | refine pu_seq ?_ | refine pu_sne ?_)
  refine cnd_t (by decide) ?_
  refine does_spec ⟨by decide, by decide⟩ ⟨by decide, by decide⟩ h5 (fun w6 h6 => ?_)
  repeat (first | refine pu_not ?_ | refine pu_eql ?_ | refine pu_neq ?_ | refine pu_lss ?_ | refine pu_leq ?_ | refine pu_gtr ?_ | refine pu_geq ?_ | refine pu_add ?_ | refine pu_sub ?_ | refine pu_mul ?_ | refine pu_neg ?_ | refine fa_at ?_ | refine nl_ptr ?_ | refine ex20 ?_ | refine ex21 ?_ | refine ex30 ?_ | refine ex31 ?_ | refine ex32 ?_ | refine ln_rule ?_ | refine lnT_rule ?_ | refine pu_and ?_ | refine pu_or ?_ | refine pu_xor ?_ | refine pu_seq ?_ | refine pu_sne ?_)
  refine cnd_t (by decide) ?_
  refine does_spec ⟨by decide, by decide⟩ ⟨by decide, by decide⟩ h6 (fun w7 h7 => ?_)
  repeat (first | refine pu_not ?_ | refine pu_eql ?_ | refine pu_neq ?_ | refine pu_lss ?_ | refine pu_leq ?_ | refine pu_gtr ?_ | refine pu_geq ?_ | refine pu_add ?_ | refine pu_sub ?_ | refine pu_mul ?_ | refine pu_neg ?_ | refine fa_at ?_ | refine nl_ptr ?_ | refine ex20 ?_ | refine ex21 ?_ | refine ex30 ?_ | refine ex31 ?_ | refine ex32 ?_ | refine ln_rule ?_ | refine lnT_rule ?_ | refine pu_and ?_ | refine pu_or ?_ | refine pu_xor ?_ | refine pu_seq ?_ | refine pu_sne ?_)
  refine cnd_t (by decide) ?_
  refine does_spec ⟨by decide, by decide⟩ ⟨by decide, by decide⟩ h7 (fun w8 h8 => ?_)
  repeat (first | refine pu_not ?_ | refine pu_eql ?_ | refine pu_neq ?_ | refine pu_lss ?_ | refine pu_leq ?_ | refine pu_gtr ?_ | refine pu_geq ?_ | refine pu_add ?_ | refine pu_sub ?_ | refine pu_mul ?_ | refine pu_neg ?_ | refine fa_at ?_ | refine nl_ptr ?_ | refine ex20 ?_ | refine ex21 ?_ | refine ex30 ?_ | refine ex31 ?_ | refine ex32 ?_ | refine ln_rule ?_ | refine lnT_rule ?_ | refine pu_and ?_ | refine pu_or ?_ | refine pu_xor ?_ | refine pu_seq ?_ | refine pu_sne ?_)
  refine cnd_t (by decide) ?_
  refine does_spec ⟨by decide, by decide⟩ ⟨by decide, by decide⟩ h8 (fun w9 h9 => ?_)
  repeat (first | refine pu_not ?_ | refine pu_eql ?_ | refine pu_neq ?_ | refine pu_lss ?_ | refine pu_leq ?_ | refine pu_gtr ?_ | refine pu_geq ?_ | refine pu_add ?_ | refine pu_sub ?_ | refine pu_mul ?_ | refine pu_neg ?_ | refine fa_at ?_ | refine nl_ptr ?_ | refine ex20 ?_ | refine ex21 ?_ | refine ex30 ?_ | refine ex31 ?_ | refine ex32 ?_ | refine ln_rule ?_ | refine lnT_rule ?_ | refine pu_and ?_ | refine pu_or ?_ | refine pu_xor ?_ | refine pu_seq ?_ | refine pu_sne ?_)
  refine cnd_t (by decide) ?_
  refine signed_spec ⟨by decide, by decide⟩ h9 (fun w10 h10 => ?_)
  repeat (first | refine pu_not ?_ | refine pu_eql ?_ | refine pu_neq ?_ | refine pu_lss ?_ | refine pu_leq ?_ | refine pu_gtr ?_ | refine pu_geq ?_ | refine pu_add ?_ | refine pu_sub ?_ | refine pu_mul ?_ | refine pu_neg ?_ | refine fa_at ?_ | refine nl_ptr ?_ | refine ex20 ?_ | refine ex21 ?_ | refine ex30 ?_ | refine ex31 ?_ | refine ex32 ?_ | refine ln_rule ?_ | refine lnT_rule ?_ | refine pu_and ?_ | refine pu_or ?_ | refine pu_xor ?_ | refine pu_seq ?_ | refine pu_sne ?_)
  refine cnd_t (by decide) ?_
  repeat (first | refine pu_not ?_ | refine pu_eql ?_ | refine pu_neq ?_ | refine pu_lss ?_ | refine pu_leq ?_ | refine pu_gtr ?_ | refine pu_geq ?_ | refine pu_add ?_ | refine pu_sub ?_ | refine pu_mul ?_ | refine pu_neg ?_ | refine fa_at ?_ | refine nl_ptr ?_ | refine ex20 ?_ | refine ex21 ?_ | refine ex30 ?_ | refine ex31 ?_ | refine ex32 ?_ | refine ln_rule ?_ | refine lnT_rule ?_ | refine pu_and ?_ | refine pu_or ?_ | refine pu_xor ?_ | refine pu_seq ?_ | refine pu_sne ?_)
  refine cnd_t (by decide) ?_
  repeat (first | refine pu_not ?_ | refine pu_eql ?_ | refine pu_neq ?_ | refine pu_lss ?_ | refine pu_leq ?_ | refine pu_gtr ?_ | refine pu_geq ?_ | refine pu_add ?_ | refine pu_sub ?_ | refine pu_mul ?_ | refine pu_neg ?_ | refine fa_at ?_ | refine nl_ptr ?_ | refine ex20 ?_ | refine ex21 ?_ | refine ex30 ?_ | refine ex31 ?_ | refine ex32 ?_ | refine ln_rule ?_ | refine lnT_rule ?_ | refine pu_and ?_ | refine pu_or ?_ | refine pu_xor ?_ | refine pu_seq ?_ | refine pu_sne ?_)
  refine cnd_t (by decide) ?_
  refine num_spec ?_
  repeat (first | refine pu_not ?_ | refine pu_eql ?_ | refine pu_neq ?_ | refine pu_lss ?_ | refine pu_leq ?_ | refine pu_gtr ?_ | refine pu_geq ?_ | refine pu_add ?_ | refine pu_sub ?_ | refine pu_mul ?_ | refine pu_neg ?_ | refine fa_at ?_ | refine nl_ptr ?_ | refine ex20 ?_ | refine ex21 ?_ | refine ex30 ?_ | refine ex31 ?_ | refine ex32 ?_ | refine ln_rule ?_ | refine lnT_rule ?_ | refine pu_and ?_ | refine pu_or ?_ | refine pu_xor ?_ | refine pu_seq ?_ | refine pu_sne ?_)
  exact k _ h10.drop
end
end Go.Proofs.Ytjchmalodbnamaa
