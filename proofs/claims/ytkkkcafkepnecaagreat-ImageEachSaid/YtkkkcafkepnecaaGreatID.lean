/- The reference of octets. -/
import Derived.Test.YtkkkcafkepnecaaGreatIB
import Derived.Test.YtkkkcafkepnecaaGreatIC
import Derived.Test.YtkkkcafkepnecaaGreatJD

set_option linter.unusedVariables false
set_option linter.unusedSimpArgs false
namespace Go.Proofs.YtkkkcafkepnecaaGreat.Im
open Go Go.RowKit Vc Oc Dg
attribute [local irreducible] binV Op.unary convert

section
variable {B w : World} {H : Hp} {K : Value → World → Prop} {PK : List PanicEntry → World → Prop}
theorem rright_spec {x : Int} (h : Ow B w H) (k : ∀ w', Ow B w' H → K (vB (right x)) w') : callW PG N.linesmanref01_right [vI x] K PK w := by
  refine linesmanref01_right.ok ?_
  unfold linesmanref01_right.C
  repeat (first | refine pu_not ?_ | refine pu_eql ?_ | refine pu_neq ?_ | refine pu_lss ?_ | refine pu_leq ?_ | refine pu_gtr ?_ | refine pu_geq ?_ | refine pu_add ?_ | refine pu_sub ?_ | refine pu_mul ?_ | refine pu_neg ?_ | refine fa_at ?_ | refine nl_ptr ?_ | refine ex20 ?_ | refine ex21 ?_ | refine ex30 ?_ | refine ex31 ?_ | refine ex32 ?_ | refine ln_rule ?_ | refine lnT_rule ?_ | refine pu_and ?_ | refine pu_or ?_ | refine pu_xor ?_ | refine pu_seq ?_ | refine pu_sne ?_)
  refine cnd (fun h1 => ?_) (fun h1 => ?_)
  · have : right x = true := by simp at h1; simp [right, h1]
    rw [this] at k; exact k _ h
  · repeat (first | refine pu_not ?_ | refine pu_eql ?_ | refine pu_neq ?_ | refine pu_lss ?_ | refine pu_leq ?_ | refine pu_gtr ?_ | refine pu_geq ?_ | refine pu_add ?_ | refine pu_sub ?_ | refine pu_mul ?_ | refine pu_neg ?_ | refine fa_at ?_ | refine nl_ptr ?_ | refine ex20 ?_ | refine ex21 ?_ | refine ex30 ?_ | refine ex31 ?_ | refine ex32 ?_ | refine ln_rule ?_ | refine lnT_rule ?_ | refine pu_and ?_ | refine pu_or ?_ | refine pu_xor ?_ | refine pu_seq ?_ | refine pu_sne ?_)
    refine cnd (fun h2 => ?_) (fun h2 => ?_)
    · have : right x = true := by simp at h2; simp [right, h2]
      rw [this] at k; exact k _ h
    · repeat (first | refine pu_not ?_ | refine pu_eql ?_ | refine pu_neq ?_ | refine pu_lss ?_ | refine pu_leq ?_ | refine pu_gtr ?_ | refine pu_geq ?_ | refine pu_add ?_ | refine pu_sub ?_ | refine pu_mul ?_ | refine pu_neg ?_ | refine fa_at ?_ | refine nl_ptr ?_ | refine ex20 ?_ | refine ex21 ?_ | refine ex30 ?_ | refine ex31 ?_ | refine ex32 ?_ | refine ln_rule ?_ | refine lnT_rule ?_ | refine pu_and ?_ | refine pu_or ?_ | refine pu_xor ?_ | refine pu_seq ?_ | refine pu_sne ?_)
      refine cnd (fun h4 => ?_) (fun h4 => ?_)
      · have : right x = true := by simp at h4; simp [right, h4]
        rw [this] at k; exact k _ h
      · repeat (first | refine pu_not ?_ | refine pu_eql ?_ | refine pu_neq ?_ | refine pu_lss ?_ | refine pu_leq ?_ | refine pu_gtr ?_ | refine pu_geq ?_ | refine pu_add ?_ | refine pu_sub ?_ | refine pu_mul ?_ | refine pu_neg ?_ | refine fa_at ?_ | refine nl_ptr ?_ | refine ex20 ?_ | refine ex21 ?_ | refine ex30 ?_ | refine ex31 ?_ | refine ex32 ?_ | refine ln_rule ?_ | refine lnT_rule ?_ | refine pu_and ?_ | refine pu_or ?_ | refine pu_xor ?_ | refine pu_seq ?_ | refine pu_sne ?_)
        have : (x == 8) = right x := by simp at h1 h2 h4; simp [right, h1, h2, h4, ibeq]
        rw [this]; exact k _ h

theorem rfixed_spec {n : Nat} {x : Int} (h : Ow B w H) (hn : n < 18446744073709551616) (k : ∀ S v w', Ow B w' (S ++ H) → Vc.Own S T.t_uint8 1 v (fxR n x).1.length (bv (fxR n x).1) → K (.tuple #[v, vI (fxR n x).2]) w') : callW PG N.linesmanref01_Fixed [v64 n, vI x] K PK w := by
  refine linesmanref01_Fixed.ok ?_
  unfold linesmanref01_Fixed.C
  refine rright_spec h (fun w1 h1 => ?_)
  repeat (first | refine pu_not ?_ | refine pu_eql ?_ | refine pu_neq ?_ | refine pu_lss ?_ | refine pu_leq ?_ | refine pu_gtr ?_ | refine pu_geq ?_ | refine pu_add ?_ | refine pu_sub ?_ | refine pu_mul ?_ | refine pu_neg ?_ | refine fa_at ?_ | refine nl_ptr ?_ | refine ex20 ?_ | refine ex21 ?_ | refine ex30 ?_ | refine ex31 ?_ | refine ex32 ?_ | refine ln_rule ?_ | refine lnT_rule ?_ | refine pu_and ?_ | refine pu_or ?_ | refine pu_xor ?_ | refine pu_seq ?_ | refine pu_sne ?_)
  refine cnd (fun hr => ?_) (fun hr => ?_)
  · have hr : right x = false := by simpa using hr
    have e : fxR n x = ([], 2) := by unfold fxR; rw [if_pos hr]
    rw [e] at k
    exact k [] _ _ h1 (own_none _ _)
  · have hr : right x = true := by simpa using hr
    obtain ⟨W, rfl, hW⟩ : ∃ W : Nat, x = W ∧ W ≤ 8 := by
      rcases right_cases hr with rfl | rfl | rfl | rfl
      · exact ⟨1, rfl, by omega⟩
      · exact ⟨2, rfl, by omega⟩
      · exact ⟨4, rfl, by omega⟩
      · exact ⟨8, rfl, by omega⟩
    have e0 : fxR n W = if n < 256 ^ W then (fx n W, 0) else ([], 4) := by unfold fxR; rw [if_neg (by rw [hr]; simp), Int.toNat_natCast]
    refine mkW_rule (n := W) (m := W) (z := v8 0) h1 (by kernel_rfl) rfl rfl (Nat.le_refl _) (by omega) (by omega) (fun g w2 h2 => ?_)
    rw [zeros_one rfl] at h2
    refine ⟨fun l' w => ∃ (i : Nat) (S : Hp), l' = [v64 (n / 256 ^ i), vI i] ∧ i ≤ W ∧ Vc.Own S T.t_uint8 1 (.slice (some ⟨g, 0, none⟩) W W) W (bv (fx n i ++ List.replicate (W - i) 0)) ∧ Ow B w (S ++ H),
      fun l' _ => match l' with | [_, .int _ j] => W - j.toNat | _ => 0, ⟨0, [(g, cel (List.replicate W (v8 0)) T.t_uint8)], by simp, Nat.zero_le _, Own.mk (Nat.le_refl _) (by simp [maxLen]; omega) (by simp) (by simp [fx]), h2⟩, ?_⟩
    rintro l' w3 ⟨i, S, rfl, hi, ho, h3⟩ j
    repeat (first | refine pu_not ?_ | refine pu_eql ?_ | refine pu_neq ?_ | refine pu_lss ?_ | refine pu_leq ?_ | refine pu_gtr ?_ | refine pu_geq ?_ | refine pu_add ?_ | refine pu_sub ?_ | refine pu_mul ?_ | refine pu_neg ?_ | refine fa_at ?_ | refine nl_ptr ?_ | refine ex20 ?_ | refine ex21 ?_ | refine ex30 ?_ | refine ex31 ?_ | refine ex32 ?_ | refine ln_rule ?_ | refine lnT_rule ?_ | refine pu_and ?_ | refine pu_or ?_ | refine pu_xor ?_ | refine pu_seq ?_ | refine pu_sne ?_)
    refine cnd (fun hlt => ?_) (fun hlt => ?_)
    · have hlt : i < W := by simpa using hlt
      refine pu_rem (by omega) ?_
      have e1 : ((n / 256 ^ i : Nat) : Int).tmod 256 = ((n / 256 ^ i % 256 : Nat) : Int) := by
        generalize n / 256 ^ i = q
        rw [Int.tmod_eq_emod_of_nonneg (by omega)]; omega
      rw [e1]
      refine cvt_u8 ?_
      refine own_set (A := []) h3 ho (by omega) (by omega) rfl rfl (fun S' w4 h4 ho' => ?_)
      refine pu_quo (by omega) ?_
      have e2 : IntKind.u64.wrap (((n / 256 ^ i : Nat) : Int).tdiv 256) = ((n / 256 ^ (i + 1) : Nat) : Int) := by
        have hle : n / 256 ^ i ≤ n := Nat.div_le_self _ _
        rw [Nat.pow_succ, ← Nat.div_div_eq_div_mul]
        generalize n / 256 ^ i = q at hle
        rw [Int.tdiv_eq_ediv_of_nonneg (by omega), wrapu64]
        omega
      rw [e2]
      repeat (first | refine pu_not ?_ | refine pu_eql ?_ | refine pu_neq ?_ | refine pu_lss ?_ | refine pu_leq ?_ | refine pu_gtr ?_ | refine pu_geq ?_ | refine pu_add ?_ | refine pu_sub ?_ | refine pu_mul ?_ | refine pu_neg ?_ | refine fa_at ?_ | refine nl_ptr ?_ | refine ex20 ?_ | refine ex21 ?_ | refine ex30 ?_ | refine ex31 ?_ | refine ex32 ?_ | refine ln_rule ?_ | refine lnT_rule ?_ | refine pu_and ?_ | refine pu_or ?_ | refine pu_xor ?_ | refine pu_seq ?_ | refine pu_sne ?_)
      rw [wrap64_in (by omega) (by omega)]
      refine ⟨⟨i + 1, S', rfl, hlt, ?_, h4⟩, by simp; omega⟩
      have e3 : (bv (fx n i ++ List.replicate (W - i) 0)).set (i : Int).toNat (v8 (n / 256 ^ i % 256 % 256)) = bv (fx n (i + 1) ++ List.replicate (W - (i + 1)) 0) := by
        unfold bv
        rw [Int.toNat_natCast, ← List.map_set, List.set_append_right _ _ (by rw [fx_len]; omega), fx_len, Nat.sub_self, show W - i = (W - (i + 1)) + 1 by omega, List.replicate_succ, List.set_cons_zero, fx_succ]
        simp
      rw [e3] at ho'
      exact ho'
    · obtain rfl : i = W := by simp at hlt; omega
      have hp : 0 < 256 ^ i := Nat.pow_pos (by omega)
      repeat (first | refine pu_not ?_ | refine pu_eql ?_ | refine pu_neq ?_ | refine pu_lss ?_ | refine pu_leq ?_ | refine pu_gtr ?_ | refine pu_geq ?_ | refine pu_add ?_ | refine pu_sub ?_ | refine pu_mul ?_ | refine pu_neg ?_ | refine fa_at ?_ | refine nl_ptr ?_ | refine ex20 ?_ | refine ex21 ?_ | refine ex30 ?_ | refine ex31 ?_ | refine ex32 ?_ | refine ln_rule ?_ | refine lnT_rule ?_ | refine pu_and ?_ | refine pu_or ?_ | refine pu_xor ?_ | refine pu_seq ?_ | refine pu_sne ?_)
      refine cnd (fun hg => ?_) (fun hg => ?_)
      · have e : fxR n i = ([], 4) := by
          rw [e0, if_neg]
          intro hlt
          rw [Nat.div_eq_of_lt hlt] at hg
          simp at hg
        rw [e] at k
        exact k [] _ _ (h3.sub (List.sublist_append_right _ _)) (own_none _ _)
      · have e : fxR n i = (fx n i, 0) := by
          rw [e0, if_pos]
          have hz : n / 256 ^ i = 0 := by
            generalize n / 256 ^ i = q at hg ⊢
            simp only [decide_eq_false_iff_not] at hg; omega
          exact (Nat.div_eq_zero_iff_lt hp).1 hz
        rw [e] at k
        refine k S _ _ h3 ?_
        simpa [fx_len] using ho
theorem rreadFixed_spec {s : Value} {l : List Nat} {x : Int} (h : Ow B w H) (hs : Sl H s (bv l)) (hb : Byt l) (hl : l.length < 2 ^ 62) (k : ∀ w', Ow B w' H → K (.tuple #[v64 (rfR l x).1, vI (rfR l x).2]) w') : callW PG N.linesmanref01_ReadFixed [s, vI x] K PK w := by
  refine linesmanref01_ReadFixed.ok ?_
  unfold linesmanref01_ReadFixed.C
  refine rright_spec h (fun w1 h1 => ?_)
  repeat (first | refine pu_not ?_ | refine pu_eql ?_ | refine pu_neq ?_ | refine pu_lss ?_ | refine pu_leq ?_ | refine pu_gtr ?_ | refine pu_geq ?_ | refine pu_add ?_ | refine pu_sub ?_ | refine pu_mul ?_ | refine pu_neg ?_ | refine fa_at ?_ | refine nl_ptr ?_ | refine ex20 ?_ | refine ex21 ?_ | refine ex30 ?_ | refine ex31 ?_ | refine ex32 ?_ | refine ln_rule ?_ | refine lnT_rule ?_ | refine pu_and ?_ | refine pu_or ?_ | refine pu_xor ?_ | refine pu_seq ?_ | refine pu_sne ?_)
  refine cnd (fun hr => ?_) (fun hr => ?_)
  · have hr : right x = false := by simpa using hr
    have e : rfR l x = (0, 2) := by unfold rfR; rw [if_pos hr]
    rw [e] at k
    exact k _ h1
  · have hr : right x = true := by simpa using hr
    obtain ⟨W, rfl, hW, hW0⟩ : ∃ W : Nat, x = W ∧ W ≤ 8 ∧ 1 ≤ W := by
      rcases right_cases hr with rfl | rfl | rfl | rfl
      · exact ⟨1, rfl, by omega⟩
      · exact ⟨2, rfl, by omega⟩
      · exact ⟨4, rfl, by omega⟩
      · exact ⟨8, rfl, by omega⟩
    have e0 : rfR l W = if l.length < W then (0, 110) else (val (l.take W), 0) := by unfold rfR; rw [if_neg (by rw [hr]; simp), Int.toNat_natCast]
    refine sl_ln hs ?_
    rw [List.length_map]
    repeat (first | refine pu_not ?_ | refine pu_eql ?_ | refine pu_neq ?_ | refine pu_lss ?_ | refine pu_leq ?_ | refine pu_gtr ?_ | refine pu_geq ?_ | refine pu_add ?_ | refine pu_sub ?_ | refine pu_mul ?_ | refine pu_neg ?_ | refine fa_at ?_ | refine nl_ptr ?_ | refine ex20 ?_ | refine ex21 ?_ | refine ex30 ?_ | refine ex31 ?_ | refine ex32 ?_ | refine ln_rule ?_ | refine lnT_rule ?_ | refine pu_and ?_ | refine pu_or ?_ | refine pu_xor ?_ | refine pu_seq ?_ | refine pu_sne ?_)
    refine cnd (fun hlt => ?_) (fun hge => ?_)
    · rw [e0, if_pos (by simp at hlt; omega)] at k
      exact k _ h1
    · have hge : W ≤ l.length := by simp at hge; omega
      rw [e0, if_neg (by omega)] at k
      repeat (first | refine pu_not ?_ | refine pu_eql ?_ | refine pu_neq ?_ | refine pu_lss ?_ | refine pu_leq ?_ | refine pu_gtr ?_ | refine pu_geq ?_ | refine pu_add ?_ | refine pu_sub ?_ | refine pu_mul ?_ | refine pu_neg ?_ | refine fa_at ?_ | refine nl_ptr ?_ | refine ex20 ?_ | refine ex21 ?_ | refine ex30 ?_ | refine ex31 ?_ | refine ex32 ?_ | refine ln_rule ?_ | refine lnT_rule ?_ | refine pu_and ?_ | refine pu_or ?_ | refine pu_xor ?_ | refine pu_seq ?_ | refine pu_sne ?_)
      rw [wrap64_in (by omega) (by omega)]
      refine ⟨fun l' w => ∃ i : Nat, l' = [v64 (val ((l.take W).drop i)), vI ((i : Int) - 1)] ∧ i ≤ W ∧ Ow B w H, fun l' _ => match l' with | [_, .int _ j] => (j + 1).toNat | _ => 0, ⟨W, ?_, Nat.le_refl _, h1⟩, ?_⟩
      · rw [List.drop_of_length_le (by simp; omega)]; rfl
      rintro l' w2 ⟨i, rfl, hi, h2⟩ j
      repeat (first | refine pu_not ?_ | refine pu_eql ?_ | refine pu_neq ?_ | refine pu_lss ?_ | refine pu_leq ?_ | refine pu_gtr ?_ | refine pu_geq ?_ | refine pu_add ?_ | refine pu_sub ?_ | refine pu_mul ?_ | refine pu_neg ?_ | refine fa_at ?_ | refine nl_ptr ?_ | refine ex20 ?_ | refine ex21 ?_ | refine ex30 ?_ | refine ex31 ?_ | refine ex32 ?_ | refine ln_rule ?_ | refine lnT_rule ?_ | refine pu_and ?_ | refine pu_or ?_ | refine pu_xor ?_ | refine pu_seq ?_ | refine pu_sne ?_)
      refine cnd (fun hlt => ?_) (fun hlt => ?_)
      · have hlt : 1 ≤ i := by simp at hlt; omega
        obtain ⟨q, rfl⟩ : ∃ q, i = q + 1 := ⟨i - 1, by omega⟩
        have hq : ((q + 1 : Nat) : Int) - 1 = q := by omega
        rw [hq]
        have hc2 : l.getD q 0 < 256 := hb.at (i := q) (by simp [List.getD, List.getElem?_eq_getElem (show q < l.length by omega)])
        have hv : val ((l.take W).drop q) < 256 ^ (W - q) := by
          have := val_lt ((l.take W).drop q) ((hb.take W).drop q)
          rwa [List.length_drop, List.length_take, Nat.min_eq_left hge] at this
        have hp : 256 ^ (W - q) ≤ 256 ^ 8 := Nat.pow_le_pow_right (by omega) (by omega)
        have h64 : (256 : Nat) ^ 8 = 18446744073709551616 := by decide
        have hat : (l.take W)[q]? = some (l.getD q 0) := by
          rw [List.getElem?_take, if_pos (by omega)]
          simp [List.getD, List.getElem?_eq_getElem (show q < l.length by omega)]
        have hd : val ((l.take W).drop q) = l.getD q 0 + 256 * val ((l.take W).drop (q + 1)) := by
          obtain ⟨hq2, hq3⟩ := List.getElem?_eq_some_iff.1 hat
          rw [List.drop_eq_getElem_cons hq2, hq3]
          rfl
        refine pu_mul ?_
        have e1 : IntKind.u64.wrap (256 * ((val ((l.take W).drop (q + 1)) : Nat) : Int)) = ((256 * val ((l.take W).drop (q + 1)) : Nat) : Int) := by
          rw [wrapu64]; omega
        rw [e1]
        refine sl_ld (v := v8 (l.getD q 0)) h2 hs (by omega) (by rw [Int.toNat_natCast]; exact bv_at (by omega)) ?_
        refine cvt_u64 hc2 ?_
        refine pu_add ?_
        have e2 : IntKind.u64.wrap (((256 * val ((l.take W).drop (q + 1)) : Nat) : Int) + ((l.getD q 0 : Nat) : Int)) = ((val ((l.take W).drop q) : Nat) : Int) := by
          rw [wrapu64]; omega
        rw [e2]
        refine pu_sub ?_
        rw [wrap64_in (by omega) (by omega)]
        exact ⟨⟨q, rfl, by omega, h2⟩, by simp⟩
      · obtain rfl : i = 0 := by simp at hlt; omega
        exact k _ h2
end
end Go.Proofs.YtkkkcafkepnecaaGreat.Im

/-! The reference of digests. -/
set_option linter.unusedVariables false
set_option linter.unusedSimpArgs false
namespace Go.Proofs.YtkkkcafkepnecaaGreat.Im
open Go Go.RowKit Vc Oc Dg
attribute [local irreducible] binV Op.unary convert nlW faW ldS ldW ixS ixA ixV ixT exW lnS lnT pu stW alW opW opU bsW mkW dgC tabV

section
variable {B w : World} {H : Hp} {K : Value → World → Prop} {PK : List PanicEntry → World → Prop}
theorem rof_spec {s : Value} {l : List Nat} (h : Ow B w H) (hs : Sl H s (bv l)) (hb : Byt l) (hl : l.length < 2 ^ 61) (k : ∀ w', Ow B w' H → K (v64 (sum l)) w') : callW PG N.linesmanref02_Of [s] K PK w := by
  refine linesmanref02_Of.ok ?_
  unfold linesmanref02_Of.C
  refine ⟨fun l' w => ∃ i : Nat, l' = [v64 (fold top (l.take i)), vI i] ∧ i ≤ l.length ∧ Ow B w H, fun l' _ => match l' with | [_, .int _ n] => l.length - n.toNat | _ => 0, ⟨0, rfl, Nat.zero_le _, h⟩, ?_⟩
  rintro l' w2 ⟨i, rfl, hi, h2⟩ j
  refine sl_ln hs ?_
  rw [List.length_map]
  have hcs := fold_lt (l.take i) (s := top) (by decide) (hb.take i)
  repeat (first | refine pu_not ?_ | refine pu_eql ?_ | refine pu_neq ?_ | refine pu_lss ?_ | refine pu_leq ?_ | refine pu_gtr ?_ | refine pu_geq ?_ | refine pu_add ?_ | refine pu_sub ?_ | refine pu_mul ?_ | refine pu_neg ?_ | refine fa_at ?_ | refine nl_ptr ?_ | refine ex20 ?_ | refine ex21 ?_ | refine ex30 ?_ | refine ex31 ?_ | refine ex32 ?_ | refine ln_rule ?_ | refine lnT_rule ?_ | refine pu_and ?_ | refine pu_or ?_ | refine pu_xor ?_ | refine pu_seq ?_ | refine pu_sne ?_)
  refine cnd (fun hlt => ?_) (fun hlt => ?_)
  · have hlt : i < l.length := by simpa using hlt
    have hat : l[i]? = some (l.getD i 0) := by simp [List.getD, hlt]
    have hc := hb.at hat
    refine sl_ld h2 hs (by omega) (by rw [Int.toNat_natCast]; exact bv_at hlt) ?_
    refine cvt_u64 hc ?_
    refine x64 hcs (by omega) ?_
    have e : fold top (l.take (i + 1)) = shk 8 (fold top (l.take i) ^^^ l.getD i 0) := by
      rw [List.take_add_one, hat, Option.toList, fold_app]; rfl
    have hx0 := xor_lt64 hcs (show l.getD i 0 < 18446744073709551616 by omega)
    generalize fold top (l.take i) ^^^ l.getD i 0 = x0 at *
    refine ⟨fun l' w => ∃ (q x : Nat), l' = [v64 x, vI q] ∧ q ≤ 8 ∧ x < 18446744073709551616 ∧ shk (8 - q) x = shk 8 x0 ∧ Ow B w H, fun l' _ => match l' with | [_, .int _ j] => 8 - j.toNat | _ => 0, ⟨0, x0, rfl, by omega, hx0, rfl, h2⟩, ?_⟩
    rintro l' w3 ⟨q, x, rfl, hq, hx, hs2, h3⟩ j2
    repeat (first | refine pu_not ?_ | refine pu_eql ?_ | refine pu_neq ?_ | refine pu_lss ?_ | refine pu_leq ?_ | refine pu_gtr ?_ | refine pu_geq ?_ | refine pu_add ?_ | refine pu_sub ?_ | refine pu_mul ?_ | refine pu_neg ?_ | refine fa_at ?_ | refine nl_ptr ?_ | refine ex20 ?_ | refine ex21 ?_ | refine ex30 ?_ | refine ex31 ?_ | refine ex32 ?_ | refine ln_rule ?_ | refine lnT_rule ?_ | refine pu_and ?_ | refine pu_or ?_ | refine pu_xor ?_ | refine pu_seq ?_ | refine pu_sne ?_)
    refine cnd (fun hlt2 => ?_) (fun hlt2 => ?_)
    · have hlt2 : q < 8 := by simp at hlt2; omega
      obtain ⟨q', hq'⟩ : ∃ q', 8 - q = q' + 1 := ⟨7 - q, by omega⟩
      rw [hq'] at hs2
      have hs2 : shk q' (sh x) = shk 8 x0 := hs2
      refine pu_rem (by omega) ?_
      have e1 : (x : Int).tmod 2 = ((x % 2 : Nat) : Int) := by rw [Int.tmod_eq_emod_of_nonneg (by omega)]; omega
      rw [e1]
      repeat (first | refine pu_not ?_ | refine pu_eql ?_ | refine pu_neq ?_ | refine pu_lss ?_ | refine pu_leq ?_ | refine pu_gtr ?_ | refine pu_geq ?_ | refine pu_add ?_ | refine pu_sub ?_ | refine pu_mul ?_ | refine pu_neg ?_ | refine fa_at ?_ | refine nl_ptr ?_ | refine ex20 ?_ | refine ex21 ?_ | refine ex30 ?_ | refine ex31 ?_ | refine ex32 ?_ | refine ln_rule ?_ | refine lnT_rule ?_ | refine pu_and ?_ | refine pu_or ?_ | refine pu_xor ?_ | refine pu_seq ?_ | refine pu_sne ?_)
      refine pu_quo (by omega) ?_
      have e2 : IntKind.u64.wrap ((x : Int).tdiv 2) = ((x / 2 : Nat) : Int) := by rw [Int.tdiv_eq_ediv_of_nonneg (by omega), wrapu64]; omega
      rw [e2]
      refine cnd (fun ho => ?_) (fun ho => ?_)
      · have ho : x % 2 = 1 := by simp at ho; omega
        have e : sh x = (x / 2) ^^^ 14514072000185962306 := by unfold sh gd; rw [if_pos ho]; rfl
        refine x64 (b := 14514072000185962306) (by omega) (by omega) ?_
        repeat (first | refine pu_not ?_ | refine pu_eql ?_ | refine pu_neq ?_ | refine pu_lss ?_ | refine pu_leq ?_ | refine pu_gtr ?_ | refine pu_geq ?_ | refine pu_add ?_ | refine pu_sub ?_ | refine pu_mul ?_ | refine pu_neg ?_ | refine fa_at ?_ | refine nl_ptr ?_ | refine ex20 ?_ | refine ex21 ?_ | refine ex30 ?_ | refine ex31 ?_ | refine ex32 ?_ | refine ln_rule ?_ | refine lnT_rule ?_ | refine pu_and ?_ | refine pu_or ?_ | refine pu_xor ?_ | refine pu_seq ?_ | refine pu_sne ?_)
        rw [wrap64_in (by omega) (by omega)]
        refine ⟨⟨q + 1, _, rfl, hlt2, ?_, ?_, h3⟩, by simp; omega⟩
        · rw [← e]; exact sh_lt hx
        · rw [← e, show 8 - (q + 1) = q' by omega]; exact hs2
      · have ho : ¬ x % 2 = 1 := by simp at ho; omega
        have e : sh x = x / 2 := by unfold sh gd; rw [if_neg ho, Nat.xor_zero]
        repeat (first | refine pu_not ?_ | refine pu_eql ?_ | refine pu_neq ?_ | refine pu_lss ?_ | refine pu_leq ?_ | refine pu_gtr ?_ | refine pu_geq ?_ | refine pu_add ?_ | refine pu_sub ?_ | refine pu_mul ?_ | refine pu_neg ?_ | refine fa_at ?_ | refine nl_ptr ?_ | refine ex20 ?_ | refine ex21 ?_ | refine ex30 ?_ | refine ex31 ?_ | refine ex32 ?_ | refine ln_rule ?_ | refine lnT_rule ?_ | refine pu_and ?_ | refine pu_or ?_ | refine pu_xor ?_ | refine pu_seq ?_ | refine pu_sne ?_)
        rw [wrap64_in (by omega) (by omega)]
        refine ⟨⟨q + 1, _, rfl, hlt2, ?_, ?_, h3⟩, by simp; omega⟩
        · rw [← e]; exact sh_lt hx
        · rw [← e, show 8 - (q + 1) = q' by omega]; exact hs2
    · obtain rfl : q = 8 := by simp at hlt2; omega
      have hs2 : x = shk 8 x0 := hs2
      subst hs2
      repeat (first | refine pu_not ?_ | refine pu_eql ?_ | refine pu_neq ?_ | refine pu_lss ?_ | refine pu_leq ?_ | refine pu_gtr ?_ | refine pu_geq ?_ | refine pu_add ?_ | refine pu_sub ?_ | refine pu_mul ?_ | refine pu_neg ?_ | refine fa_at ?_ | refine nl_ptr ?_ | refine ex20 ?_ | refine ex21 ?_ | refine ex30 ?_ | refine ex31 ?_ | refine ex32 ?_ | refine ln_rule ?_ | refine lnT_rule ?_ | refine pu_and ?_ | refine pu_or ?_ | refine pu_xor ?_ | refine pu_seq ?_ | refine pu_sne ?_)
      rw [wrap64_in (by omega) (by omega)]
      refine ⟨⟨i + 1, ?_, hlt, h3⟩, by simp; omega⟩
      rw [e]
      rfl
  · obtain rfl : i = l.length := by simp at hlt; omega
    rw [List.take_length] at *
    refine not64 hcs ?_
    exact k _ h2
end
end Go.Proofs.YtkkkcafkepnecaaGreat.Im

