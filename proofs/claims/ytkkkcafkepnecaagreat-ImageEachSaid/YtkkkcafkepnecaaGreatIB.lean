/- Octets: numbers of a width. -/
import Derived.Test.YtkkkcafkepnecaaGreatIA
import Derived.Test.YtkkkcafkepnecaaGreatZB
import Derived.Test.YtkkkcafkepnecaaGreatZT
import Derived.Test.YtkkkcafkepnecaaGreatJB

set_option linter.unusedVariables false
set_option linter.unusedSimpArgs false
namespace Go.Proofs.YtkkkcafkepnecaaGreat.Im
open Go Go.RowKit Vc Oc Dg
attribute [local irreducible] binV Op.unary convert

section
variable {B w : World} {H : Hp} {K : Value → World → Prop} {PK : List PanicEntry → World → Prop}
abbrev fnv (f : FuncId) (cap : Array Value := #[]) : Value := .func (.func f) #[] cap
theorem und_int : PG.underlying T.t_int = some (.int .i64) := by kernel_rfl
theorem und_u8 : PG.underlying T.t_uint8 = some (.int .u8) := by kernel_rfl
theorem und_u64 : PG.underlying T.t_uint64 = some (.int .u64) := by kernel_rfl
theorem und_str : PG.underlying T.t_string = some .string := by kernel_rfl
theorem und_slb : PG.underlying T.t_sl_uint8 = some (.slice T.t_uint8) := by kernel_rfl
theorem info_u8 : (PG.info? T.t_uint8).map (fun i => (i.zero, i.size, i.bytes)) = some (some (v8 0), 1, 1) := by kernel_rfl
theorem one_u8 : ∃ i, PG.info? T.t_uint8 = some i ∧ i.size = 1 := by
  obtain ⟨i, h1, _, h3, _⟩ := info_of info_u8
  exact ⟨i, h1, h3⟩
theorem cvt_u8 {n : Nat} {K : Value → Prop} (k : K (v8 (n % 256))) : pu PG (convert T.t_uint64 T.t_uint8 (v64 n)) K := by
  refine pu_cvt ⟨_, und_u64⟩ und_u8 ?_
  rw [wrapu8]
  exact k
theorem cvt_u64 {n : Nat} {K : Value → Prop} (h : n < 256) (k : K (v64 n)) : pu PG (convert T.t_uint8 T.t_uint64 (v8 n)) K := by
  refine pu_cvt ⟨_, und_u8⟩ und_u64 ?_
  rw [wrapu64]
  have : ((n : Int) % 18446744073709551616) = n := by omega
  rw [this]; exact k
theorem cvt_iu {n : Int} {K : Value → Prop} (h0 : 0 ≤ n) (h : n < 18446744073709551616) (k : K (v64 n.toNat)) : pu PG (convert T.t_int T.t_uint64 (vI n)) K := by
  refine pu_cvt ⟨_, und_int⟩ und_u64 ?_
  rw [wrapu64]
  have : n % 18446744073709551616 = (n.toNat : Int) := by omega
  rw [this]; exact k
theorem cvt_ui {n : Nat} {K : Value → Prop} (h : n < 9223372036854775808) (k : K (vI n)) : pu PG (convert T.t_uint64 T.t_int (v64 n)) K := by
  refine pu_cvt ⟨_, und_u64⟩ und_int ?_
  rw [wrap64_in (by omega) (by omega)]
  exact k
theorem shr_nat {n k : Nat} {c : Bool} {K : Value → Prop} (hk : k ≤ 64) (kk : K (v64 (n / 2 ^ k))) : pu PG (binV .shr T.t_uint64 c (v64 n) (vI k)) K := by
  refine pu_shr (by omega) ?_
  have : ((n : Int).fdiv (2 ^ min (k : Int).toNat IntKind.u64.bits)) = ((n / 2 ^ k : Nat) : Int) := by
    have e1 : min (k : Int).toNat IntKind.u64.bits = k := by simp [IntKind.bits]; omega
    have e2 : (2 : Int) ^ k = ((2 ^ k : Nat) : Int) := by rw [Int.natCast_pow]; rfl
    rw [e1, e2, Int.fdiv_eq_ediv_of_nonneg _ (Int.natCast_nonneg _)]
    exact (Int.natCast_ediv n (2 ^ k)).symm
  rw [this]; exact kk
theorem shl_nat {n k : Nat} {c : Bool} {K : Value → Prop} (h : n * 2 ^ k < 18446744073709551616) (hk : k ≤ 64) (kk : K (v64 (n * 2 ^ k))) : pu PG (binV .shl T.t_uint64 c (v64 n) (vI k)) K := by
  refine pu_shl (by omega) ?_
  have : IntKind.u64.wrap ((n : Int) * 2 ^ min (k : Int).toNat IntKind.u64.bits) = ((n * 2 ^ k : Nat) : Int) := by
    have e1 : min (k : Int).toNat IntKind.u64.bits = k := by simp [IntKind.bits]; omega
    have e2 : (2 : Int) ^ k = ((2 ^ k : Nat) : Int) := by rw [Int.natCast_pow]; rfl
    rw [e1, e2, wrapu64, ← Int.natCast_mul]
    omega
  rw [this]; exact kk
theorem or_nat {a b k : Nat} {c : Bool} {K : Value → Prop} (ha : a < 2 ^ k) (hb : b * 2 ^ k + a < 2 ^ 64) (kk : K (v64 (a + b * 2 ^ k))) : pu PG (binV .or T.t_uint64 c (v64 a) (v64 (b * 2 ^ k))) K := by
  refine pu_or ?_
  rw [or_add ha hb]
  exact kk
theorem pw8 (i : Nat) : (2 : Nat) ^ (8 * i) = 256 ^ i := by rw [Nat.pow_mul]
theorem wr (n : Int) (h0 : -9223372036854775808 ≤ n) (h1 : n < 9223372036854775808) : IntKind.i64.wrap n = n := wrap64_in h0 h1

theorem widths_spec (h : Ow B w H) (k : ∀ w', Ow B w' H → K (.agg #[vI 1, vI 2, vI 4, vI 8]) w') : callW PG N.octet_widths [] K PK w := by
  refine octet_widths.ok ?_
  unfold octet_widths.C
  refine al_rule h (l := [vI 0, vI 0, vI 0, vI 0]) (by kernel_rfl) (fun b w1 h1 => ?_)
  refine pu_build [vI 1, vI 2, vI 4, vI 8] (by kernel_rfl) ?_
  refine st_here (A := []) h1 [vI 1, vI 2, vI 4, vI 8] rfl rfl rfl (by simp) (fun w2 h2 => ?_)
  refine ldn_here h2 (.head _) (vs := [vI 1, vI 2, vI 4, vI 8]) rfl rfl ?_
  exact k _ h2.drop
theorem index_spec {s : Value} {xs : List Int} {x : Int} (h : Ow B w H) (hs : Sl H s (xs.map vI)) (hlen : xs.length < 2 ^ 62) (k : ∀ w', Ow B w' H → K (vI (match xs.findIdx? (x == ·) with | some i => i | none => -1)) w') : callW PG N.slices_Index_sl_int_int [s, vI x] K PK w := by
  refine slices_Index_sl_int_int.ok ?_
  unfold slices_Index_sl_int_int.C
  refine sl_ln hs ?_
  rw [List.length_map]
  refine ⟨fun l w => ∃ i : Nat, l = [vI i] ∧ i ≤ xs.length ∧ (∀ j y, j < i → xs[j]? = some y → (x == y) = false) ∧ Ow B w H, fun l _ => match l with | [.int _ n] => xs.length - n.toNat | _ => 0, ⟨0, rfl, Nat.zero_le _, fun j y hj => absurd hj (by omega), h⟩, ?_⟩
  rintro l w1 ⟨i, rfl, hi, hno, h1⟩ j
  repeat (first | refine pu_not ?_ | refine pu_eql ?_ | refine pu_neq ?_ | refine pu_lss ?_ | refine pu_leq ?_ | refine pu_gtr ?_ | refine pu_geq ?_ | refine pu_add ?_ | refine pu_sub ?_ | refine pu_mul ?_ | refine pu_neg ?_ | refine fa_at ?_ | refine nl_ptr ?_ | refine ex20 ?_ | refine ex21 ?_ | refine ex30 ?_ | refine ex31 ?_ | refine ex32 ?_ | refine ln_rule ?_ | refine lnT_rule ?_ | refine pu_and ?_ | refine pu_or ?_ | refine pu_xor ?_ | refine pu_seq ?_ | refine pu_sne ?_)
  refine cnd (fun hlt => ?_) (fun hlt => ?_)
  · have hlt : i < xs.length := by simpa using hlt
    refine sl_ld (v := vI xs[i]) h1 hs (by omega) (by simp [hlt]) ?_
    repeat (first | refine pu_not ?_ | refine pu_eql ?_ | refine pu_neq ?_ | refine pu_lss ?_ | refine pu_leq ?_ | refine pu_gtr ?_ | refine pu_geq ?_ | refine pu_add ?_ | refine pu_sub ?_ | refine pu_mul ?_ | refine pu_neg ?_ | refine fa_at ?_ | refine nl_ptr ?_ | refine ex20 ?_ | refine ex21 ?_ | refine ex30 ?_ | refine ex31 ?_ | refine ex32 ?_ | refine ln_rule ?_ | refine lnT_rule ?_ | refine pu_and ?_ | refine pu_or ?_ | refine pu_xor ?_ | refine pu_seq ?_ | refine pu_sne ?_)
    refine cnd (fun hp => ?_) (fun hp => ?_)
    · have : xs.findIdx? (x == ·) = some i := by
        rw [List.findIdx?_eq_some_iff_getElem]
        exact ⟨hlt, hp, fun j hj => by simpa using hno j _ hj (List.getElem?_eq_getElem (by omega))⟩
      have hk := k w1 h1
      rw [this] at hk
      exact hk
    · repeat (first | refine pu_not ?_ | refine pu_eql ?_ | refine pu_neq ?_ | refine pu_lss ?_ | refine pu_leq ?_ | refine pu_gtr ?_ | refine pu_geq ?_ | refine pu_add ?_ | refine pu_sub ?_ | refine pu_mul ?_ | refine pu_neg ?_ | refine fa_at ?_ | refine nl_ptr ?_ | refine ex20 ?_ | refine ex21 ?_ | refine ex30 ?_ | refine ex31 ?_ | refine ex32 ?_ | refine ln_rule ?_ | refine lnT_rule ?_ | refine pu_and ?_ | refine pu_or ?_ | refine pu_xor ?_ | refine pu_seq ?_ | refine pu_sne ?_)
      rw [wrap64_in (by omega) (by omega)]
      refine ⟨⟨i + 1, rfl, hlt, fun j y hj hy => ?_, h1⟩, by simp; omega⟩
      rcases Nat.lt_succ_iff_lt_or_eq.1 hj with hj | rfl
      · exact hno j y hj hy
      · rw [List.getElem?_eq_getElem hlt] at hy; cases hy; exact hp
  · have hlt : ¬ i < xs.length := by simp at hlt; omega
    have : xs.findIdx? (x == ·) = none := by
      rw [List.findIdx?_eq_none_iff]
      intro y hy
      obtain ⟨j, hj, rfl⟩ := List.getElem_of_mem hy
      exact hno j _ (by omega) (List.getElem?_eq_getElem hj)
    have hk := k w1 h1
    rw [this] at hk
    exact hk
theorem right_spec {x : Int} (h : Ow B w H) (k : ∀ w', Ow B w' H → K (vB (right x)) w') : callW PG N.octet_right [vI x] K PK w := by
  refine octet_right.ok ?_
  unfold octet_right.C
  refine widths_spec h (fun w1 h1 => ?_)
  refine al_rule h1 (l := [vI 0, vI 0, vI 0, vI 0]) (by kernel_rfl) (fun b w2 h2 => ?_)
  refine st_here (A := []) h2 [vI 1, vI 2, vI 4, vI 8] rfl rfl rfl (by simp) (fun w3 h3 => ?_)
  refine pu_slarr (n := 4) (e := T.t_int) (i := (PG.info? T.t_int).get!) (by kernel_rfl) (by kernel_rfl) ?_
  refine octet_among_int.ok ?_
  unfold octet_among_int.C
  refine slices_Contains_sl_int_int.ok ?_
  unfold slices_Contains_sl_int_int.C
  refine index_spec (xs := [1, 2, 4, 8]) h3 (sl_part (xs := [vI 1, vI 2, vI 4, vI 8]) (.head _) rfl rfl) (by simp) (fun w4 h4 => ?_)
  repeat (first | refine pu_not ?_ | refine pu_eql ?_ | refine pu_neq ?_ | refine pu_lss ?_ | refine pu_leq ?_ | refine pu_gtr ?_ | refine pu_geq ?_ | refine pu_add ?_ | refine pu_sub ?_ | refine pu_mul ?_ | refine pu_neg ?_ | refine fa_at ?_ | refine nl_ptr ?_ | refine ex20 ?_ | refine ex21 ?_ | refine ex30 ?_ | refine ex31 ?_ | refine ex32 ?_ | refine ln_rule ?_ | refine lnT_rule ?_ | refine pu_and ?_ | refine pu_or ?_ | refine pu_xor ?_ | refine pu_seq ?_ | refine pu_sne ?_)
  have e : decide ((match [1, 2, 4, 8].findIdx? (x == ·) with | some i => (i : Int) | none => -1) ≥ 0) = right x := by
    by_cases h1 : x = 1
    · subst h1; decide
    · by_cases h2 : x = 2
      · subst h2; decide
      · by_cases h4 : x = 4
        · subst h4; decide
        · by_cases h8 : x = 8
          · subst h8; decide
          · simp [List.findIdx?_cons, h1, h2, h4, h8, right]
  rw [e]
  exact k _ h4.drop
theorem fixed_spec {n : Nat} {x : Int} (h : Ow B w H) (hn : n < 18446744073709551616) (k : ∀ S v w', Ow B w' (S ++ H) → Vc.Own S T.t_uint8 1 v (fxR n x).1.length (bv (fxR n x).1) → K (.tuple #[v, vI (fxR n x).2]) w') : callW PG N.octet_Fixed [v64 n, vI x] K PK w := by
  refine octet_Fixed.ok ?_
  unfold octet_Fixed.C
  refine right_spec h (fun w1 h1 => ?_)
  repeat (first | refine pu_not ?_ | refine pu_eql ?_ | refine pu_neq ?_ | refine pu_lss ?_ | refine pu_leq ?_ | refine pu_gtr ?_ | refine pu_geq ?_ | refine pu_add ?_ | refine pu_sub ?_ | refine pu_mul ?_ | refine pu_neg ?_ | refine fa_at ?_ | refine nl_ptr ?_ | refine ex20 ?_ | refine ex21 ?_ | refine ex30 ?_ | refine ex31 ?_ | refine ex32 ?_ | refine ln_rule ?_ | refine lnT_rule ?_ | refine pu_and ?_ | refine pu_or ?_ | refine pu_xor ?_ | refine pu_seq ?_ | refine pu_sne ?_)
  refine cnd (fun hr => ?_) (fun hr => ?_)
  · have hr : right x = false := by simpa using hr
    have e : fxR n x = ([], 2) := by unfold fxR; rw [if_pos hr]
    rw [e] at k
    exact k [] _ _ h1 (own_none _ _)
  · have hr : right x = true := by simpa using hr
    obtain ⟨W, rfl, hW⟩ : ∃ W : Nat, x = W ∧ W ≤ 8 := by
      rcases right_cases hr with rfl | rfl | rfl | rfl
      · exact ⟨1, rfl, by omega⟩
      · exact ⟨2, rfl, by omega⟩
      · exact ⟨4, rfl, by omega⟩
      · exact ⟨8, rfl, by omega⟩
    have e0 : fxR n W = if n < 256 ^ W then (fx n W, 0) else ([], 4) := by unfold fxR; rw [if_neg (by rw [hr]; simp), Int.toNat_natCast]
    repeat (first | refine pu_not ?_ | refine pu_eql ?_ | refine pu_neq ?_ | refine pu_lss ?_ | refine pu_leq ?_ | refine pu_gtr ?_ | refine pu_geq ?_ | refine pu_add ?_ | refine pu_sub ?_ | refine pu_mul ?_ | refine pu_neg ?_ | refine fa_at ?_ | refine nl_ptr ?_ | refine ex20 ?_ | refine ex21 ?_ | refine ex30 ?_ | refine ex31 ?_ | refine ex32 ?_ | refine ln_rule ?_ | refine lnT_rule ?_ | refine pu_and ?_ | refine pu_or ?_ | refine pu_xor ?_ | refine pu_seq ?_ | refine pu_sne ?_)
    refine cnd (fun h8 => ?_) (fun h8 => ?_)
    · have h8 : W < 8 := by simp at h8; omega
      repeat (first | refine pu_not ?_ | refine pu_eql ?_ | refine pu_neq ?_ | refine pu_lss ?_ | refine pu_leq ?_ | refine pu_gtr ?_ | refine pu_geq ?_ | refine pu_add ?_ | refine pu_sub ?_ | refine pu_mul ?_ | refine pu_neg ?_ | refine fa_at ?_ | refine nl_ptr ?_ | refine ex20 ?_ | refine ex21 ?_ | refine ex30 ?_ | refine ex31 ?_ | refine ex32 ?_ | refine ln_rule ?_ | refine lnT_rule ?_ | refine pu_and ?_ | refine pu_or ?_ | refine pu_xor ?_ | refine pu_seq ?_ | refine pu_sne ?_)
      rw [wrap64_in (by omega) (by omega)]
      refine shr_nat (k := 8 * W) (by omega) ?_
      rw [pw8]
      repeat (first | refine pu_not ?_ | refine pu_eql ?_ | refine pu_neq ?_ | refine pu_lss ?_ | refine pu_leq ?_ | refine pu_gtr ?_ | refine pu_geq ?_ | refine pu_add ?_ | refine pu_sub ?_ | refine pu_mul ?_ | refine pu_neg ?_ | refine fa_at ?_ | refine nl_ptr ?_ | refine ex20 ?_ | refine ex21 ?_ | refine ex30 ?_ | refine ex31 ?_ | refine ex32 ?_ | refine ln_rule ?_ | refine lnT_rule ?_ | refine pu_and ?_ | refine pu_or ?_ | refine pu_xor ?_ | refine pu_seq ?_ | refine pu_sne ?_)
      refine cnd (fun hg => ?_) (fun hg => ?_)
      · have hp : 0 < 256 ^ W := Nat.pow_pos (by omega)
        have e : fxR n W = ([], 4) := by
          rw [e0, if_neg]
          intro hlt
          rw [Nat.div_eq_of_lt hlt] at hg
          simp at hg
        rw [e] at k
        exact k [] _ _ h1 (own_none _ _)
      · have hp : 0 < 256 ^ W := Nat.pow_pos (by omega)
        have e : fxR n W = (fx n W, 0) := by
          rw [e0, if_pos]
          have hz : n / 256 ^ W = 0 := by
            generalize n / 256 ^ W = q at hg ⊢
            simp only [decide_eq_false_iff_not] at hg; omega
          exact (Nat.div_eq_zero_iff_lt hp).1 hz
        refine ⟨fun l' w => ∃ (i : Nat) (S : Hp) (v : Value), l' = [v, vI i] ∧ i ≤ W ∧ Vc.Own S T.t_uint8 1 v i (bv (fx n i)) ∧ Ow B w (S ++ H),
          fun l' _ => match l' with | [_, .int _ j] => W - j.toNat | _ => 0, ⟨0, [], _, rfl, Nat.zero_le _, own_none _ _, h1⟩, ?_⟩
        rintro l' w2 ⟨i, S, v, rfl, hi, ho, h2⟩ j
        repeat (first | refine pu_not ?_ | refine pu_eql ?_ | refine pu_neq ?_ | refine pu_lss ?_ | refine pu_leq ?_ | refine pu_gtr ?_ | refine pu_geq ?_ | refine pu_add ?_ | refine pu_sub ?_ | refine pu_mul ?_ | refine pu_neg ?_ | refine fa_at ?_ | refine nl_ptr ?_ | refine ex20 ?_ | refine ex21 ?_ | refine ex30 ?_ | refine ex31 ?_ | refine ex32 ?_ | refine ln_rule ?_ | refine lnT_rule ?_ | refine pu_and ?_ | refine pu_or ?_ | refine pu_xor ?_ | refine pu_seq ?_ | refine pu_sne ?_)
        refine cnd (fun hlt => ?_) (fun hlt => ?_)
        · have hlt : i < W := by simpa using hlt
          repeat (first | refine pu_not ?_ | refine pu_eql ?_ | refine pu_neq ?_ | refine pu_lss ?_ | refine pu_leq ?_ | refine pu_gtr ?_ | refine pu_geq ?_ | refine pu_add ?_ | refine pu_sub ?_ | refine pu_mul ?_ | refine pu_neg ?_ | refine fa_at ?_ | refine nl_ptr ?_ | refine ex20 ?_ | refine ex21 ?_ | refine ex30 ?_ | refine ex31 ?_ | refine ex32 ?_ | refine ln_rule ?_ | refine lnT_rule ?_ | refine pu_and ?_ | refine pu_or ?_ | refine pu_xor ?_ | refine pu_seq ?_ | refine pu_sne ?_)
          rw [wrap64_in (by omega) (by omega)]
          refine shr_nat (k := 8 * i) (by omega) ?_
          refine cvt_u8 ?_
          refine bs_rule h2 [v8 (n / 2 ^ (8 * i) % 256)] (by kernel_rfl) (fun b3 w3 h3 => ?_)
          refine app1 (A := [_]) (z := v8 0) (bytes := 1) h3 ho (sl_here (b := b3) (l := [v8 (n / 2 ^ (8 * i) % 256)]) (e := T.t_uint8) (.head _)) (fun y hy => hy) rfl und_slb info_u8 rfl (by simp [maxLen]; omega) (by simp; omega) (fun S' v' w4 h4 ho' => ?_)
          repeat (first | refine pu_not ?_ | refine pu_eql ?_ | refine pu_neq ?_ | refine pu_lss ?_ | refine pu_leq ?_ | refine pu_gtr ?_ | refine pu_geq ?_ | refine pu_add ?_ | refine pu_sub ?_ | refine pu_mul ?_ | refine pu_neg ?_ | refine fa_at ?_ | refine nl_ptr ?_ | refine ex20 ?_ | refine ex21 ?_ | refine ex30 ?_ | refine ex31 ?_ | refine ex32 ?_ | refine ln_rule ?_ | refine lnT_rule ?_ | refine pu_and ?_ | refine pu_or ?_ | refine pu_xor ?_ | refine pu_seq ?_ | refine pu_sne ?_)
          rw [wrap64_in (by omega) (by omega)]
          refine ⟨⟨i + 1, S', v', rfl, hlt, ?_, h4.drop⟩, by simp; omega⟩
          rw [fx_succ, ← pw8]
          simpa using ho'
        · obtain rfl : i = W := by simp at hlt; omega
          have hk := k S v _ h2
          rw [e] at hk
          refine hk ?_
          simpa [fx_len] using ho
    · have h8 : W = 8 := by simp at h8; omega
      have e : fxR n W = (fx n W, 0) := by
        rw [e0, if_pos]
        subst h8
        exact hn
      refine ⟨fun l' w => ∃ (i : Nat) (S : Hp) (v : Value), l' = [v, vI i] ∧ i ≤ W ∧ Vc.Own S T.t_uint8 1 v i (bv (fx n i)) ∧ Ow B w (S ++ H),
        fun l' _ => match l' with | [_, .int _ j] => W - j.toNat | _ => 0, ⟨0, [], _, rfl, Nat.zero_le _, own_none _ _, h1⟩, ?_⟩
      rintro l' w2 ⟨i, S, v, rfl, hi, ho, h2⟩ j
      repeat (first | refine pu_not ?_ | refine pu_eql ?_ | refine pu_neq ?_ | refine pu_lss ?_ | refine pu_leq ?_ | refine pu_gtr ?_ | refine pu_geq ?_ | refine pu_add ?_ | refine pu_sub ?_ | refine pu_mul ?_ | refine pu_neg ?_ | refine fa_at ?_ | refine nl_ptr ?_ | refine ex20 ?_ | refine ex21 ?_ | refine ex30 ?_ | refine ex31 ?_ | refine ex32 ?_ | refine ln_rule ?_ | refine lnT_rule ?_ | refine pu_and ?_ | refine pu_or ?_ | refine pu_xor ?_ | refine pu_seq ?_ | refine pu_sne ?_)
      refine cnd (fun hlt => ?_) (fun hlt => ?_)
      · have hlt : i < W := by simpa using hlt
        repeat (first | refine pu_not ?_ | refine pu_eql ?_ | refine pu_neq ?_ | refine pu_lss ?_ | refine pu_leq ?_ | refine pu_gtr ?_ | refine pu_geq ?_ | refine pu_add ?_ | refine pu_sub ?_ | refine pu_mul ?_ | refine pu_neg ?_ | refine fa_at ?_ | refine nl_ptr ?_ | refine ex20 ?_ | refine ex21 ?_ | refine ex30 ?_ | refine ex31 ?_ | refine ex32 ?_ | refine ln_rule ?_ | refine lnT_rule ?_ | refine pu_and ?_ | refine pu_or ?_ | refine pu_xor ?_ | refine pu_seq ?_ | refine pu_sne ?_)
        rw [wrap64_in (by omega) (by omega)]
        refine shr_nat (k := 8 * i) (by omega) ?_
        refine cvt_u8 ?_
        refine bs_rule h2 [v8 (n / 2 ^ (8 * i) % 256)] (by kernel_rfl) (fun b3 w3 h3 => ?_)
        refine app1 (A := [_]) (z := v8 0) (bytes := 1) h3 ho (sl_here (b := b3) (l := [v8 (n / 2 ^ (8 * i) % 256)]) (e := T.t_uint8) (.head _)) (fun y hy => hy) rfl und_slb info_u8 rfl (by simp [maxLen]; omega) (by simp; omega) (fun S' v' w4 h4 ho' => ?_)
        repeat (first | refine pu_not ?_ | refine pu_eql ?_ | refine pu_neq ?_ | refine pu_lss ?_ | refine pu_leq ?_ | refine pu_gtr ?_ | refine pu_geq ?_ | refine pu_add ?_ | refine pu_sub ?_ | refine pu_mul ?_ | refine pu_neg ?_ | refine fa_at ?_ | refine nl_ptr ?_ | refine ex20 ?_ | refine ex21 ?_ | refine ex30 ?_ | refine ex31 ?_ | refine ex32 ?_ | refine ln_rule ?_ | refine lnT_rule ?_ | refine pu_and ?_ | refine pu_or ?_ | refine pu_xor ?_ | refine pu_seq ?_ | refine pu_sne ?_)
        rw [wrap64_in (by omega) (by omega)]
        refine ⟨⟨i + 1, S', v', rfl, hlt, ?_, h4.drop⟩, by simp; omega⟩
        rw [fx_succ, ← pw8]
        simpa using ho'
      · obtain rfl : i = W := by simp at hlt; omega
        have hk := k S v _ h2
        rw [e] at hk
        refine hk ?_
        simpa [fx_len] using ho
theorem bv_at {l : List Nat} {i : Nat} (h : i < l.length) : (bv l)[i]? = some (v8 (l.getD i 0)) := by
  simp [bv, List.getD, h]
theorem take_val {l : List Nat} {i : Nat} (h : i < l.length) : val (l.take (i + 1)) = val (l.take i) + l.getD i 0 * 256 ^ i := by
  rw [List.take_add_one, List.getElem?_eq_getElem h, Option.toList, val_snoc, List.length_take, Nat.min_eq_left (by omega)]
  simp [List.getD, h]
theorem readFixed_spec {s : Value} {l : List Nat} {x : Int} (h : Ow B w H) (hs : Sl H s (bv l)) (hb : Byt l) (hl : l.length < 2 ^ 62) (k : ∀ w', Ow B w' H → K (.tuple #[v64 (rfR l x).1, vI (rfR l x).2]) w') : callW PG N.octet_ReadFixed [s, vI x] K PK w := by
  refine octet_ReadFixed.ok ?_
  unfold octet_ReadFixed.C
  refine right_spec h (fun w1 h1 => ?_)
  repeat (first | refine pu_not ?_ | refine pu_eql ?_ | refine pu_neq ?_ | refine pu_lss ?_ | refine pu_leq ?_ | refine pu_gtr ?_ | refine pu_geq ?_ | refine pu_add ?_ | refine pu_sub ?_ | refine pu_mul ?_ | refine pu_neg ?_ | refine fa_at ?_ | refine nl_ptr ?_ | refine ex20 ?_ | refine ex21 ?_ | refine ex30 ?_ | refine ex31 ?_ | refine ex32 ?_ | refine ln_rule ?_ | refine lnT_rule ?_ | refine pu_and ?_ | refine pu_or ?_ | refine pu_xor ?_ | refine pu_seq ?_ | refine pu_sne ?_)
  refine cnd (fun hr => ?_) (fun hr => ?_)
  · have hr : right x = false := by simpa using hr
    have e : rfR l x = (0, 2) := by unfold rfR; rw [if_pos hr]
    rw [e] at k
    exact k _ h1
  · have hr : right x = true := by simpa using hr
    obtain ⟨W, rfl, hW, hW0⟩ : ∃ W : Nat, x = W ∧ W ≤ 8 ∧ 1 ≤ W := by
      rcases right_cases hr with rfl | rfl | rfl | rfl
      · exact ⟨1, rfl, by omega⟩
      · exact ⟨2, rfl, by omega⟩
      · exact ⟨4, rfl, by omega⟩
      · exact ⟨8, rfl, by omega⟩
    have e0 : rfR l W = if l.length < W then (0, 110) else (val (l.take W), 0) := by unfold rfR; rw [if_neg (by rw [hr]; simp), Int.toNat_natCast]
    refine sl_ln hs ?_
    rw [List.length_map]
    repeat (first | refine pu_not ?_ | refine pu_eql ?_ | refine pu_neq ?_ | refine pu_lss ?_ | refine pu_leq ?_ | refine pu_gtr ?_ | refine pu_geq ?_ | refine pu_add ?_ | refine pu_sub ?_ | refine pu_mul ?_ | refine pu_neg ?_ | refine fa_at ?_ | refine nl_ptr ?_ | refine ex20 ?_ | refine ex21 ?_ | refine ex30 ?_ | refine ex31 ?_ | refine ex32 ?_ | refine ln_rule ?_ | refine lnT_rule ?_ | refine pu_and ?_ | refine pu_or ?_ | refine pu_xor ?_ | refine pu_seq ?_ | refine pu_sne ?_)
    refine cnd (fun hlt => ?_) (fun hge => ?_)
    · rw [e0, if_pos (by simp at hlt; omega)] at k
      exact k _ h1
    · have hge : W ≤ l.length := by simp at hge; omega
      rw [e0, if_neg (by omega)] at k
      obtain ⟨a, c, rfl⟩ := hs.len
      have hc : l.length ≤ c := by
        obtain ⟨_, _, he, hc, _⟩ := hs
        cases he
        simpa using hc
      refine pu_cutH und_slb one_u8 (by omega) (by omega) ?_
      have hs2 := sl_cut (l := 0) (h := W) (m := c) hs (by omega) (by simpa using hge) (by omega)
      rw [List.drop_zero] at hs2
      rw [Int.toNat_natCast]
      refine sl_ln hs2 ?_
      have e1 : ((bv l).take W).length = W := by simp; omega
      rw [e1]
      refine ⟨fun l' w => ∃ i : Nat, l' = [v64 (val (l.take i)), vI i] ∧ i ≤ W ∧ Ow B w H, fun l' _ => match l' with | [_, .int _ j] => W - j.toNat | _ => 0, ⟨0, rfl, Nat.zero_le _, h1⟩, ?_⟩
      rintro l' w2 ⟨i, rfl, hi, h2⟩ j
      repeat (first | refine pu_not ?_ | refine pu_eql ?_ | refine pu_neq ?_ | refine pu_lss ?_ | refine pu_leq ?_ | refine pu_gtr ?_ | refine pu_geq ?_ | refine pu_add ?_ | refine pu_sub ?_ | refine pu_mul ?_ | refine pu_neg ?_ | refine fa_at ?_ | refine nl_ptr ?_ | refine ex20 ?_ | refine ex21 ?_ | refine ex30 ?_ | refine ex31 ?_ | refine ex32 ?_ | refine ln_rule ?_ | refine lnT_rule ?_ | refine pu_and ?_ | refine pu_or ?_ | refine pu_xor ?_ | refine pu_seq ?_ | refine pu_sne ?_)
      refine cnd (fun hlt => ?_) (fun hlt => ?_)
      · have hlt : i < W := by simpa using hlt
        have hc2 : l.getD i 0 < 256 := hb.at (i := i) (by simp [List.getD, List.getElem?_eq_getElem (show i < l.length by omega)])
        refine sl_ld (v := v8 (l.getD i 0)) h2 hs2 (by omega) (by rw [Int.toNat_natCast, List.getElem?_take, if_pos hlt]; exact bv_at (by omega)) ?_
        refine cvt_u64 hc2 ?_
        repeat (first | refine pu_not ?_ | refine pu_eql ?_ | refine pu_neq ?_ | refine pu_lss ?_ | refine pu_leq ?_ | refine pu_gtr ?_ | refine pu_geq ?_ | refine pu_add ?_ | refine pu_sub ?_ | refine pu_mul ?_ | refine pu_neg ?_ | refine fa_at ?_ | refine nl_ptr ?_ | refine ex20 ?_ | refine ex21 ?_ | refine ex30 ?_ | refine ex31 ?_ | refine ex32 ?_ | refine ln_rule ?_ | refine lnT_rule ?_ | refine pu_and ?_ | refine pu_or ?_ | refine pu_xor ?_ | refine pu_seq ?_ | refine pu_sne ?_)
        rw [wrap64_in (by omega) (by omega)]
        have hv : val (l.take i) < 256 ^ i := by
          have := val_lt (l.take i) (hb.take i)
          rwa [List.length_take, Nat.min_eq_left (by omega)] at this
        have hv2 : val (l.take (i + 1)) < 256 ^ (i + 1) := by
          have := val_lt (l.take (i + 1)) (hb.take _)
          rwa [List.length_take, Nat.min_eq_left (by omega)] at this
        have hp : 256 ^ (i + 1) ≤ 256 ^ 8 := Nat.pow_le_pow_right (by omega) (by omega)
        have he := take_val (l := l) (i := i) (by omega)
        have h64 : (256 : Nat) ^ 8 = 18446744073709551616 := by decide
        refine shl_nat (k := 8 * i) (by rw [pw8]; omega) (by omega) ?_
        refine or_nat (by rw [pw8]; exact hv) (by rw [pw8, show (2 : Nat) ^ 64 = 18446744073709551616 from rfl]; omega) ?_
        rw [pw8, ← he]
        repeat (first | refine pu_not ?_ | refine pu_eql ?_ | refine pu_neq ?_ | refine pu_lss ?_ | refine pu_leq ?_ | refine pu_gtr ?_ | refine pu_geq ?_ | refine pu_add ?_ | refine pu_sub ?_ | refine pu_mul ?_ | refine pu_neg ?_ | refine fa_at ?_ | refine nl_ptr ?_ | refine ex20 ?_ | refine ex21 ?_ | refine ex30 ?_ | refine ex31 ?_ | refine ex32 ?_ | refine ln_rule ?_ | refine lnT_rule ?_ | refine pu_and ?_ | refine pu_or ?_ | refine pu_xor ?_ | refine pu_seq ?_ | refine pu_sne ?_)
        rw [wrap64_in (by omega) (by omega)]
        exact ⟨⟨i + 1, rfl, hlt, h2⟩, by simp; omega⟩
      · obtain rfl : i = W := by simp at hlt; omega
        exact k _ h2
end
end Go.Proofs.YtkkkcafkepnecaaGreat.Im

/-! Octets: slices of bytes. -/
set_option linter.unusedVariables false
set_option linter.unusedSimpArgs false
namespace Go.Proofs.YtkkkcafkepnecaaGreat.Im
open Go Go.RowKit Vc Oc Dg
attribute [local irreducible] binV Op.unary convert nlW faW ldS ldW ixS ixA ixV ixT exW lnS lnT pu stW alW opW opU bsW mkW

section
variable {B w : World} {H : Hp} {K : Value → World → Prop} {PK : List PanicEntry → World → Prop}
theorem Sl.cap {s : Value} {xs : List Value} (hs : Sl H s xs) : ∃ a c, s = .slice a xs.length c ∧ xs.length ≤ c := by
  obtain ⟨a, c, he, hc, _⟩ := hs
  exact ⟨a, c, he, hc⟩
section
variable {X : Hp} {s : Value} {xs : List Value} {KK : Value → Prop} {l h m : Int}
theorem cutLHM (hs : Sl X s xs) (h0 : 0 ≤ l) (h1 : l ≤ h) (h2 : h ≤ m) (h3 : m ≤ xs.length) (k : KK (cut s l.toNat h.toNat m.toNat)) : pu PG (Instr.sliceAt T.t_sl_uint8 s (some (vI l)) (some (vI h)) (some (vI m))) KK := by
  obtain ⟨a, c, rfl, hc⟩ := Sl.cap hs
  exact pu_cutLHM und_slb one_u8 h0 h1 h2 (by omega) k
theorem cutH (hs : Sl X s xs) (h0 : 0 ≤ h) (h3 : h ≤ xs.length) (k : ∀ c : Nat, h ≤ c → KK (cut s 0 h.toNat c)) : pu PG (Instr.sliceAt T.t_sl_uint8 s none (some (vI h)) none) KK := by
  obtain ⟨a, c, rfl, hc⟩ := Sl.cap hs
  exact pu_cutH und_slb one_u8 h0 (by omega) (k c (by omega))
theorem cutL (hs : Sl X s xs) (h0 : 0 ≤ l) (h1 : l ≤ xs.length) (k : ∀ c : Nat, xs.length ≤ c → KK (cut s l.toNat xs.length c)) : pu PG (Instr.sliceAt T.t_sl_uint8 s (some (vI l)) none none) KK := by
  obtain ⟨a, c, rfl, hc⟩ := Sl.cap hs
  exact pu_cutL und_slb one_u8 h0 h1 (k c hc)
end
theorem strOf {v : Value} {l : List Nat} {KW : Value → World → Prop} (h : Ow B w H) (hs : Sl H v (bv l)) (k : KW (.string (bs l)) w) : opW PG (convert T.t_sl_uint8 T.t_string v) KW w :=
  cv_b2s h hs und_slb und_str und_u8 k
theorem bytes_of {v : Value} (g : FitV PG H T.t_sl_uint8 v) : ∃ l : List Nat, Sl H v (bv l) ∧ l.length ≤ maxLen ∧ Byt l := g.bytes und_slb und_u8 (by kernel_rfl)
theorem sneF {x y : ByteArray} (h : x = y) : (!(x.toList == y.toList)) = false := by subst h; simp
theorem seqT' {x y : ByteArray} (h : x = y) : (x.toList == y.toList) = true := by subst h; simp
theorem bv_app (a b : List Nat) : bv a ++ bv b = bv (a ++ b) := by simp [bv]
/-- Two appends onto a new slice. -/
theorem app2 {KW : Value → World → Prop} {u v : Value} {a b : List Nat} {X Y : Hp} (h : Ow B w H) (hu : Sl X u (bv a)) (hX : ∀ x, x ∈ X → x ∈ H) (hv : Sl Y v (bv b)) (hY : ∀ x, x ∈ Y → x ∈ H) (ha : a.length < 1000000) (hb : b.length < 1000000)
    (k : ∀ S z w', Ow B w' (S ++ H) → Vc.Own S T.t_uint8 1 z (a ++ b).length (bv (a ++ b)) → KW z w') :
    bsW T.t_uint8 0 (bsC PG T.t_uint8 0 []) (fun p w => opW PG (Builtin.append_ #[T.t_sl_uint8, T.t_sl_uint8] T.t_sl_uint8 #[p, u]) (fun q w => opW PG (Builtin.append_ #[T.t_sl_uint8, T.t_sl_uint8] T.t_sl_uint8 #[q, v]) KW w) w) w := by
  refine bs_rule h [] (by kernel_rfl) (fun b1 w1 h1 => ?_)
  refine app1 (A := []) (S := [(b1, cel [] T.t_uint8)]) (z := v8 0) (bytes := 1) h1 (Own.mk (n := 0) (cap := 0) (xs := []) (Nat.le_refl _) (Nat.zero_le _) rfl rfl) hu (fun y hy => .tail _ (hX y hy)) (by simp [plainV]) und_slb info_u8 rfl (by simp [maxLen]; omega) (by simp; omega) (fun S p w2 h2 ho => ?_)
  refine app1 (A := []) (z := v8 0) (bytes := 1) h2 ho hv (fun y hy => List.mem_append_right _ (hY y hy)) (by simp [plainV]) und_slb info_u8 rfl (by simp [maxLen]; omega) (by simp; omega) (fun S' q w3 h3 ho' => ?_)
  refine k S' q w3 h3 ?_
  simpa using ho'

end
end Go.Proofs.YtkkkcafkepnecaaGreat.Im

