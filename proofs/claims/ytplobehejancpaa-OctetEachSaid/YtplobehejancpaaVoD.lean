/- The reference's reading; the chapter's rows; the laws OctetFixed, OctetNumbers, OctetTexts. -/
import Derived.Test.YtplobehejancpaaVoC
set_option linter.unusedVariables false
set_option linter.unusedSimpArgs false
namespace Go.Proofs.Ytplobehejancpaa
open Go Go.RowKit Vc Oc
attribute [local irreducible] binV Op.unary convert nlW faW ldS ldW ixS ixA ixV ixT exW lnS lnT pu stW alW opW opU bsW mkW

section
variable {B w : World} {H : Hp} {K : Value → World → Prop} {PK : List PanicEntry → World → Prop}
theorem strOf {v : Value} {l : List Nat} {KW : Value → World → Prop} (h : Ow B w H) (hs : Sl H v (bv l)) (k : KW (.string (bs l)) w) : opW PG (convert T.t_sl_uint8 T.t_string v) KW w :=
  cv_b2s h hs und_slb und_str und_u8 k
theorem onum_spec {n : Int} (k : K (vI n) w) : callW PG N.linesmanlaw01_num [vI n] K PK w := by
  refine linesmanlaw01_num.ok ?_
  exact k
theorem rreadNumber_spec {s : Value} {l : List Nat} (h : Ow B w H) (hs : Sl H s (bv l)) (hb : Byt l) (hl : l.length < 2 ^ 62)
    (k : ∀ w', Ow B w' H → K (.tuple #[v64 (rn l 0 0).1, vI (rn l 0 0).2.1, vI (rn l 0 0).2.2]) w') : callW PG N.linesmanref01_ReadNumber [s] K PK w := by
  generalize hr0 : rn l 0 0 = r0 at k
  refine linesmanref01_ReadNumber.ok ?_
  unfold linesmanref01_ReadNumber.C
  refine ⟨fun l' w => ∃ i n : Nat, l' = [v64 n, v64 (128 ^ i), vI i] ∧ i ≤ l.length ∧ i ≤ 9 ∧ n < 128 ^ i ∧ rn (l.drop i) i n = r0 ∧ Ow B w H,
    fun l' _ => match l' with | [_, _, .int _ j] => l.length - j.toNat | _ => 0, ⟨0, 0, rfl, Nat.zero_le _, by omega, by simp, hr0, h⟩, ?_⟩
  rintro l' w2 ⟨i, n, rfl, hi, hi9, hn, hrn, h2⟩ j
  refine sl_ln hs ?_
  rw [List.length_map]
  repeat (first | refine pu_not ?_ | refine pu_eql ?_ | refine pu_neq ?_ | refine pu_lss ?_ | refine pu_leq ?_ | refine pu_gtr ?_ | refine pu_geq ?_ | refine pu_add ?_ | refine pu_sub ?_ | refine pu_mul ?_ | refine pu_neg ?_ | refine fa_at ?_ | refine nl_ptr ?_ | refine ex20 ?_ | refine ex21 ?_ | refine ex30 ?_ | refine ex31 ?_ | refine ex32 ?_ | refine ln_rule ?_ | refine lnT_rule ?_ | refine pu_and ?_ | refine pu_or ?_ | refine pu_xor ?_ | refine pu_seq ?_ | refine pu_sne ?_)
  refine cnd (fun hlt => ?_) (fun hlt => ?_)
  · have hlt : i < l.length := by simp at hlt; omega
    have hat : l[i]? = some (l.getD i 0) := by simp [List.getD, hlt]
    have hc := hb.at hat
    have hdr : l.drop i = l.getD i 0 :: l.drop (i + 1) := by
      obtain ⟨q2, q3⟩ := List.getElem?_eq_some_iff.1 hat
      rw [List.drop_eq_getElem_cons q2, q3]
    have hat2 : (bv l)[(i : Int).toNat]? = some (v8 (l.getD i 0)) := by rw [Int.toNat_natCast]; exact bv_at hlt
    rw [hdr] at hrn
    generalize l.getD i 0 = c at *
    unfold rn at hrn
    repeat (first | refine pu_not ?_ | refine pu_eql ?_ | refine pu_neq ?_ | refine pu_lss ?_ | refine pu_leq ?_ | refine pu_gtr ?_ | refine pu_geq ?_ | refine pu_add ?_ | refine pu_sub ?_ | refine pu_mul ?_ | refine pu_neg ?_ | refine fa_at ?_ | refine nl_ptr ?_ | refine ex20 ?_ | refine ex21 ?_ | refine ex30 ?_ | refine ex31 ?_ | refine ex32 ?_ | refine ln_rule ?_ | refine lnT_rule ?_ | refine pu_and ?_ | refine pu_or ?_ | refine pu_xor ?_ | refine pu_seq ?_ | refine pu_sne ?_)
    refine cnd (fun h0 => ?_) (fun h0 => ?_)
    · simp at h0
      refine sl_ld h2 hs (by omega) hat2 ?_
      repeat (first | refine pu_not ?_ | refine pu_eql ?_ | refine pu_neq ?_ | refine pu_lss ?_ | refine pu_leq ?_ | refine pu_gtr ?_ | refine pu_geq ?_ | refine pu_add ?_ | refine pu_sub ?_ | refine pu_mul ?_ | refine pu_neg ?_ | refine fa_at ?_ | refine nl_ptr ?_ | refine ex20 ?_ | refine ex21 ?_ | refine ex30 ?_ | refine ex31 ?_ | refine ex32 ?_ | refine ln_rule ?_ | refine lnT_rule ?_ | refine pu_and ?_ | refine pu_or ?_ | refine pu_xor ?_ | refine pu_seq ?_ | refine pu_sne ?_)
      refine cnd (fun hz => ?_) (fun hz => ?_)
      · simp at hz
        have hbad : (0 < i ∧ c = 0) ∨ (i = 9 ∧ 1 < c) := by omega
        rw [if_pos hbad] at hrn
        rw [← hrn] at k
        exact k _ h2
      · simp at hz
        repeat (first | refine pu_not ?_ | refine pu_eql ?_ | refine pu_neq ?_ | refine pu_lss ?_ | refine pu_leq ?_ | refine pu_gtr ?_ | refine pu_geq ?_ | refine pu_add ?_ | refine pu_sub ?_ | refine pu_mul ?_ | refine pu_neg ?_ | refine fa_at ?_ | refine nl_ptr ?_ | refine ex20 ?_ | refine ex21 ?_ | refine ex30 ?_ | refine ex31 ?_ | refine ex32 ?_ | refine ln_rule ?_ | refine lnT_rule ?_ | refine pu_and ?_ | refine pu_or ?_ | refine pu_xor ?_ | refine pu_seq ?_ | refine pu_sne ?_)
        refine cnd (fun h9 => ?_) (fun h9 => ?_)
        · simp at h9
          refine sl_ld h2 hs (by omega) hat2 ?_
          repeat (first | refine pu_not ?_ | refine pu_eql ?_ | refine pu_neq ?_ | refine pu_lss ?_ | refine pu_leq ?_ | refine pu_gtr ?_ | refine pu_geq ?_ | refine pu_add ?_ | refine pu_sub ?_ | refine pu_mul ?_ | refine pu_neg ?_ | refine fa_at ?_ | refine nl_ptr ?_ | refine ex20 ?_ | refine ex21 ?_ | refine ex30 ?_ | refine ex31 ?_ | refine ex32 ?_ | refine ln_rule ?_ | refine lnT_rule ?_ | refine pu_and ?_ | refine pu_or ?_ | refine pu_xor ?_ | refine pu_seq ?_ | refine pu_sne ?_)
          refine cnd (fun hg => ?_) (fun hg => ?_)
          · simp at hg
            have hbad : (0 < i ∧ c = 0) ∨ (i = 9 ∧ 1 < c) := by omega
            rw [if_pos hbad] at hrn
            rw [← hrn] at k
            exact k _ h2
          · simp at hg
            have hno : ¬ ((0 < i ∧ c = 0) ∨ (i = 9 ∧ 1 < c)) := by omega
            rw [if_neg hno] at hrn
            refine sl_ld h2 hs (by omega) hat2 ?_
            refine pu_rem (by omega) ?_
            have e1 : (c : Int).tmod 128 = ((c % 128 : Nat) : Int) := by rw [Int.tmod_eq_emod_of_nonneg (by omega)]; omega
            rw [e1]
            refine cvt_u64 (by omega) ?_
            have hp9 := pow_le9 hi9
            have hval : n + c % 128 * 128 ^ i < 18446744073709551616 := by
              by_cases h9 : i = 9
              · subst h9
                rw [pow9] at hn ⊢
                omega
              · have hp := pow_le8 (i := i) (by omega)
                have : c % 128 * 128 ^ i ≤ 127 * 128 ^ i := Nat.mul_le_mul_right _ (by omega)
                omega
            refine pu_mul ?_
            have e2 : IntKind.u64.wrap (((c % 128 : Nat) : Int) * ((128 ^ i : Nat) : Int)) = ((c % 128 * 128 ^ i : Nat) : Int) := by
              rw [← Int.natCast_mul, wrapu64]
              generalize c % 128 * 128 ^ i = q at *
              omega
            rw [e2]
            refine pu_add ?_
            have e3 : IntKind.u64.wrap ((n : Int) + ((c % 128 * 128 ^ i : Nat) : Int)) = ((n + c % 128 * 128 ^ i : Nat) : Int) := by
              rw [← Int.natCast_add, wrapu64]
              generalize n + c % 128 * 128 ^ i = q at *
              omega
            rw [e3]
            refine sl_ld h2 hs (by omega) hat2 ?_
            repeat (first | refine pu_not ?_ | refine pu_eql ?_ | refine pu_neq ?_ | refine pu_lss ?_ | refine pu_leq ?_ | refine pu_gtr ?_ | refine pu_geq ?_ | refine pu_add ?_ | refine pu_sub ?_ | refine pu_mul ?_ | refine pu_neg ?_ | refine fa_at ?_ | refine nl_ptr ?_ | refine ex20 ?_ | refine ex21 ?_ | refine ex30 ?_ | refine ex31 ?_ | refine ex32 ?_ | refine ln_rule ?_ | refine lnT_rule ?_ | refine pu_and ?_ | refine pu_or ?_ | refine pu_xor ?_ | refine pu_seq ?_ | refine pu_sne ?_)
            refine cnd (fun hsm => ?_) (fun hsm => ?_)
            · have hsm : c < 128 := by simp at hsm; omega
              rw [if_pos hsm] at hrn
              repeat (first | refine pu_not ?_ | refine pu_eql ?_ | refine pu_neq ?_ | refine pu_lss ?_ | refine pu_leq ?_ | refine pu_gtr ?_ | refine pu_geq ?_ | refine pu_add ?_ | refine pu_sub ?_ | refine pu_mul ?_ | refine pu_neg ?_ | refine fa_at ?_ | refine nl_ptr ?_ | refine ex20 ?_ | refine ex21 ?_ | refine ex30 ?_ | refine ex31 ?_ | refine ex32 ?_ | refine ln_rule ?_ | refine lnT_rule ?_ | refine pu_and ?_ | refine pu_or ?_ | refine pu_xor ?_ | refine pu_seq ?_ | refine pu_sne ?_)
              rw [wrap64_in (by omega) (by omega)]
              rw [← hrn] at k
              exact k _ h2
            · have hsm : ¬ c < 128 := by simp at hsm; omega
              rw [if_neg hsm] at hrn
              have hi8 : i ≤ 8 := by omega
              repeat (first | refine pu_not ?_ | refine pu_eql ?_ | refine pu_neq ?_ | refine pu_lss ?_ | refine pu_leq ?_ | refine pu_gtr ?_ | refine pu_geq ?_ | refine pu_add ?_ | refine pu_sub ?_ | refine pu_mul ?_ | refine pu_neg ?_ | refine fa_at ?_ | refine nl_ptr ?_ | refine ex20 ?_ | refine ex21 ?_ | refine ex30 ?_ | refine ex31 ?_ | refine ex32 ?_ | refine ln_rule ?_ | refine lnT_rule ?_ | refine pu_and ?_ | refine pu_or ?_ | refine pu_xor ?_ | refine pu_seq ?_ | refine pu_sne ?_)
              refine cnd_t (by simp; omega) ?_
              have hp := pow_le8 (i := i) hi8
              refine pu_mul ?_
              have e4 : IntKind.u64.wrap (((128 ^ i : Nat) : Int) * 128) = ((128 ^ (i + 1) : Nat) : Int) := by
                rw [Nat.pow_succ, wrapu64]
                generalize 128 ^ i = q at *
                omega
              rw [e4]
              repeat (first | refine pu_not ?_ | refine pu_eql ?_ | refine pu_neq ?_ | refine pu_lss ?_ | refine pu_leq ?_ | refine pu_gtr ?_ | refine pu_geq ?_ | refine pu_add ?_ | refine pu_sub ?_ | refine pu_mul ?_ | refine pu_neg ?_ | refine fa_at ?_ | refine nl_ptr ?_ | refine ex20 ?_ | refine ex21 ?_ | refine ex30 ?_ | refine ex31 ?_ | refine ex32 ?_ | refine ln_rule ?_ | refine lnT_rule ?_ | refine pu_and ?_ | refine pu_or ?_ | refine pu_xor ?_ | refine pu_seq ?_ | refine pu_sne ?_)
              rw [wrap64_in (by omega) (by omega)]
              refine ⟨⟨i + 1, n + c % 128 * 128 ^ i, rfl, hlt, by omega, ?_, hrn, h2⟩, by simp; omega⟩
              rw [Nat.pow_succ]
              have : c % 128 * 128 ^ i ≤ 127 * 128 ^ i := Nat.mul_le_mul_right _ (by omega)
              omega
        · simp at h9
          have hno : ¬ ((0 < i ∧ c = 0) ∨ (i = 9 ∧ 1 < c)) := by omega
          rw [if_neg hno] at hrn
          refine sl_ld h2 hs (by omega) hat2 ?_
          refine pu_rem (by omega) ?_
          have e1 : (c : Int).tmod 128 = ((c % 128 : Nat) : Int) := by rw [Int.tmod_eq_emod_of_nonneg (by omega)]; omega
          rw [e1]
          refine cvt_u64 (by omega) ?_
          have hp9 := pow_le9 hi9
          have hval : n + c % 128 * 128 ^ i < 18446744073709551616 := by
            by_cases h9 : i = 9
            · subst h9
              rw [pow9] at hn ⊢
              omega
            · have hp := pow_le8 (i := i) (by omega)
              have : c % 128 * 128 ^ i ≤ 127 * 128 ^ i := Nat.mul_le_mul_right _ (by omega)
              omega
          refine pu_mul ?_
          have e2 : IntKind.u64.wrap (((c % 128 : Nat) : Int) * ((128 ^ i : Nat) : Int)) = ((c % 128 * 128 ^ i : Nat) : Int) := by
            rw [← Int.natCast_mul, wrapu64]
            generalize c % 128 * 128 ^ i = q at *
            omega
          rw [e2]
          refine pu_add ?_
          have e3 : IntKind.u64.wrap ((n : Int) + ((c % 128 * 128 ^ i : Nat) : Int)) = ((n + c % 128 * 128 ^ i : Nat) : Int) := by
            rw [← Int.natCast_add, wrapu64]
            generalize n + c % 128 * 128 ^ i = q at *
            omega
          rw [e3]
          refine sl_ld h2 hs (by omega) hat2 ?_
          repeat (first | refine pu_not ?_ | refine pu_eql ?_ | refine pu_neq ?_ | refine pu_lss ?_ | refine pu_leq ?_ | refine pu_gtr ?_ | refine pu_geq ?_ | refine pu_add ?_ | refine pu_sub ?_ | refine pu_mul ?_ | refine pu_neg ?_ | refine fa_at ?_ | refine nl_ptr ?_ | refine ex20 ?_ | refine ex21 ?_ | refine ex30 ?_ | refine ex31 ?_ | refine ex32 ?_ | refine ln_rule ?_ | refine lnT_rule ?_ | refine pu_and ?_ | refine pu_or ?_ | refine pu_xor ?_ | refine pu_seq ?_ | refine pu_sne ?_)
          refine cnd (fun hsm => ?_) (fun hsm => ?_)
          · have hsm : c < 128 := by simp at hsm; omega
            rw [if_pos hsm] at hrn
            repeat (first | refine pu_not ?_ | refine pu_eql ?_ | refine pu_neq ?_ | refine pu_lss ?_ | refine pu_leq ?_ | refine pu_gtr ?_ | refine pu_geq ?_ | refine pu_add ?_ | refine pu_sub ?_ | refine pu_mul ?_ | refine pu_neg ?_ | refine fa_at ?_ | refine nl_ptr ?_ | refine ex20 ?_ | refine ex21 ?_ | refine ex30 ?_ | refine ex31 ?_ | refine ex32 ?_ | refine ln_rule ?_ | refine lnT_rule ?_ | refine pu_and ?_ | refine pu_or ?_ | refine pu_xor ?_ | refine pu_seq ?_ | refine pu_sne ?_)
            rw [wrap64_in (by omega) (by omega)]
            rw [← hrn] at k
            exact k _ h2
          · have hsm : ¬ c < 128 := by simp at hsm; omega
            rw [if_neg hsm] at hrn
            have hi8 : i ≤ 8 := by omega
            repeat (first | refine pu_not ?_ | refine pu_eql ?_ | refine pu_neq ?_ | refine pu_lss ?_ | refine pu_leq ?_ | refine pu_gtr ?_ | refine pu_geq ?_ | refine pu_add ?_ | refine pu_sub ?_ | refine pu_mul ?_ | refine pu_neg ?_ | refine fa_at ?_ | refine nl_ptr ?_ | refine ex20 ?_ | refine ex21 ?_ | refine ex30 ?_ | refine ex31 ?_ | refine ex32 ?_ | refine ln_rule ?_ | refine lnT_rule ?_ | refine pu_and ?_ | refine pu_or ?_ | refine pu_xor ?_ | refine pu_seq ?_ | refine pu_sne ?_)
            refine cnd_t (by simp; omega) ?_
            have hp := pow_le8 (i := i) hi8
            refine pu_mul ?_
            have e4 : IntKind.u64.wrap (((128 ^ i : Nat) : Int) * 128) = ((128 ^ (i + 1) : Nat) : Int) := by
              rw [Nat.pow_succ, wrapu64]
              generalize 128 ^ i = q at *
              omega
            rw [e4]
            repeat (first | refine pu_not ?_ | refine pu_eql ?_ | refine pu_neq ?_ | refine pu_lss ?_ | refine pu_leq ?_ | refine pu_gtr ?_ | refine pu_geq ?_ | refine pu_add ?_ | refine pu_sub ?_ | refine pu_mul ?_ | refine pu_neg ?_ | refine fa_at ?_ | refine nl_ptr ?_ | refine ex20 ?_ | refine ex21 ?_ | refine ex30 ?_ | refine ex31 ?_ | refine ex32 ?_ | refine ln_rule ?_ | refine lnT_rule ?_ | refine pu_and ?_ | refine pu_or ?_ | refine pu_xor ?_ | refine pu_seq ?_ | refine pu_sne ?_)
            rw [wrap64_in (by omega) (by omega)]
            refine ⟨⟨i + 1, n + c % 128 * 128 ^ i, rfl, hlt, by omega, ?_, hrn, h2⟩, by simp; omega⟩
            rw [Nat.pow_succ]
            have : c % 128 * 128 ^ i ≤ 127 * 128 ^ i := Nat.mul_le_mul_right _ (by omega)
            omega
    · simp at h0
      repeat (first | refine pu_not ?_ | refine pu_eql ?_ | refine pu_neq ?_ | refine pu_lss ?_ | refine pu_leq ?_ | refine pu_gtr ?_ | refine pu_geq ?_ | refine pu_add ?_ | refine pu_sub ?_ | refine pu_mul ?_ | refine pu_neg ?_ | refine fa_at ?_ | refine nl_ptr ?_ | refine ex20 ?_ | refine ex21 ?_ | refine ex30 ?_ | refine ex31 ?_ | refine ex32 ?_ | refine ln_rule ?_ | refine lnT_rule ?_ | refine pu_and ?_ | refine pu_or ?_ | refine pu_xor ?_ | refine pu_seq ?_ | refine pu_sne ?_)
      refine cnd (fun h9 => ?_) (fun h9 => ?_)
      · simp at h9
        exfalso; omega
      · simp at h9
        have hno : ¬ ((0 < i ∧ c = 0) ∨ (i = 9 ∧ 1 < c)) := by omega
        rw [if_neg hno] at hrn
        refine sl_ld h2 hs (by omega) hat2 ?_
        refine pu_rem (by omega) ?_
        have e1 : (c : Int).tmod 128 = ((c % 128 : Nat) : Int) := by rw [Int.tmod_eq_emod_of_nonneg (by omega)]; omega
        rw [e1]
        refine cvt_u64 (by omega) ?_
        have hp9 := pow_le9 hi9
        have hval : n + c % 128 * 128 ^ i < 18446744073709551616 := by
          by_cases h9 : i = 9
          · subst h9
            rw [pow9] at hn ⊢
            omega
          · have hp := pow_le8 (i := i) (by omega)
            have : c % 128 * 128 ^ i ≤ 127 * 128 ^ i := Nat.mul_le_mul_right _ (by omega)
            omega
        refine pu_mul ?_
        have e2 : IntKind.u64.wrap (((c % 128 : Nat) : Int) * ((128 ^ i : Nat) : Int)) = ((c % 128 * 128 ^ i : Nat) : Int) := by
          rw [← Int.natCast_mul, wrapu64]
          generalize c % 128 * 128 ^ i = q at *
          omega
        rw [e2]
        refine pu_add ?_
        have e3 : IntKind.u64.wrap ((n : Int) + ((c % 128 * 128 ^ i : Nat) : Int)) = ((n + c % 128 * 128 ^ i : Nat) : Int) := by
          rw [← Int.natCast_add, wrapu64]
          generalize n + c % 128 * 128 ^ i = q at *
          omega
        rw [e3]
        refine sl_ld h2 hs (by omega) hat2 ?_
        repeat (first | refine pu_not ?_ | refine pu_eql ?_ | refine pu_neq ?_ | refine pu_lss ?_ | refine pu_leq ?_ | refine pu_gtr ?_ | refine pu_geq ?_ | refine pu_add ?_ | refine pu_sub ?_ | refine pu_mul ?_ | refine pu_neg ?_ | refine fa_at ?_ | refine nl_ptr ?_ | refine ex20 ?_ | refine ex21 ?_ | refine ex30 ?_ | refine ex31 ?_ | refine ex32 ?_ | refine ln_rule ?_ | refine lnT_rule ?_ | refine pu_and ?_ | refine pu_or ?_ | refine pu_xor ?_ | refine pu_seq ?_ | refine pu_sne ?_)
        refine cnd (fun hsm => ?_) (fun hsm => ?_)
        · have hsm : c < 128 := by simp at hsm; omega
          rw [if_pos hsm] at hrn
          repeat (first | refine pu_not ?_ | refine pu_eql ?_ | refine pu_neq ?_ | refine pu_lss ?_ | refine pu_leq ?_ | refine pu_gtr ?_ | refine pu_geq ?_ | refine pu_add ?_ | refine pu_sub ?_ | refine pu_mul ?_ | refine pu_neg ?_ | refine fa_at ?_ | refine nl_ptr ?_ | refine ex20 ?_ | refine ex21 ?_ | refine ex30 ?_ | refine ex31 ?_ | refine ex32 ?_ | refine ln_rule ?_ | refine lnT_rule ?_ | refine pu_and ?_ | refine pu_or ?_ | refine pu_xor ?_ | refine pu_seq ?_ | refine pu_sne ?_)
          rw [wrap64_in (by omega) (by omega)]
          rw [← hrn] at k
          exact k _ h2
        · have hsm : ¬ c < 128 := by simp at hsm; omega
          rw [if_neg hsm] at hrn
          have hi8 : i ≤ 8 := by omega
          repeat (first | refine pu_not ?_ | refine pu_eql ?_ | refine pu_neq ?_ | refine pu_lss ?_ | refine pu_leq ?_ | refine pu_gtr ?_ | refine pu_geq ?_ | refine pu_add ?_ | refine pu_sub ?_ | refine pu_mul ?_ | refine pu_neg ?_ | refine fa_at ?_ | refine nl_ptr ?_ | refine ex20 ?_ | refine ex21 ?_ | refine ex30 ?_ | refine ex31 ?_ | refine ex32 ?_ | refine ln_rule ?_ | refine lnT_rule ?_ | refine pu_and ?_ | refine pu_or ?_ | refine pu_xor ?_ | refine pu_seq ?_ | refine pu_sne ?_)
          refine cnd_t (by simp; omega) ?_
          have hp := pow_le8 (i := i) hi8
          refine pu_mul ?_
          have e4 : IntKind.u64.wrap (((128 ^ i : Nat) : Int) * 128) = ((128 ^ (i + 1) : Nat) : Int) := by
            rw [Nat.pow_succ, wrapu64]
            generalize 128 ^ i = q at *
            omega
          rw [e4]
          repeat (first | refine pu_not ?_ | refine pu_eql ?_ | refine pu_neq ?_ | refine pu_lss ?_ | refine pu_leq ?_ | refine pu_gtr ?_ | refine pu_geq ?_ | refine pu_add ?_ | refine pu_sub ?_ | refine pu_mul ?_ | refine pu_neg ?_ | refine fa_at ?_ | refine nl_ptr ?_ | refine ex20 ?_ | refine ex21 ?_ | refine ex30 ?_ | refine ex31 ?_ | refine ex32 ?_ | refine ln_rule ?_ | refine lnT_rule ?_ | refine pu_and ?_ | refine pu_or ?_ | refine pu_xor ?_ | refine pu_seq ?_ | refine pu_sne ?_)
          rw [wrap64_in (by omega) (by omega)]
          refine ⟨⟨i + 1, n + c % 128 * 128 ^ i, rfl, hlt, by omega, ?_, hrn, h2⟩, by simp; omega⟩
          rw [Nat.pow_succ]
          have : c % 128 * 128 ^ i ≤ 127 * 128 ^ i := Nat.mul_le_mul_right _ (by omega)
          omega
  · have hlt : i = l.length := by simp at hlt; omega
    subst hlt
    rw [List.drop_length] at hrn
    rw [← hrn] at k
    exact k _ h2
theorem rreadText_spec {s : Value} {l : List Nat} (h : Ow B w H) (hs : Sl H s (bv l)) (hb : Byt l) (hl : l.length < 2 ^ 62)
    (k : ∀ w', Ow B w' H → K (.tuple #[.string (bs (rt l).1), vI (rt l).2.1, vI (rt l).2.2]) w') : callW PG N.linesmanref01_ReadText [s] K PK w := by
  have hz := rn_err l 0 0
  obtain ⟨hr1, hr2, _⟩ := rn_zero l hb
  refine linesmanref01_ReadText.ok ?_
  unfold linesmanref01_ReadText.C
  refine rreadNumber_spec h hs hb hl (fun w1 h1 => ?_)
  repeat (first | refine pu_not ?_ | refine pu_eql ?_ | refine pu_neq ?_ | refine pu_lss ?_ | refine pu_leq ?_ | refine pu_gtr ?_ | refine pu_geq ?_ | refine pu_add ?_ | refine pu_sub ?_ | refine pu_mul ?_ | refine pu_neg ?_ | refine fa_at ?_ | refine nl_ptr ?_ | refine ex20 ?_ | refine ex21 ?_ | refine ex30 ?_ | refine ex31 ?_ | refine ex32 ?_ | refine ln_rule ?_ | refine lnT_rule ?_ | refine pu_and ?_ | refine pu_or ?_ | refine pu_xor ?_ | refine pu_seq ?_ | refine pu_sne ?_)
  rcases hz with hz | hz | hz
  · have ert : rt l = if (rn l 0 0).1 > l.length - (rn l 0 0).2.1 then ([], 0, 110) else ((l.drop (rn l 0 0).2.1).take (rn l 0 0).1, (rn l 0 0).2.1 + (rn l 0 0).1, 0) := by
      unfold rt
      rw [if_neg (by rw [hz]; simp)]
    generalize (rn l 0 0).1 = n at *
    generalize (rn l 0 0).2.1 = m at *
    refine cnd_f (by rw [hz]; rfl) ?_
    refine sl_ln hs ?_
    rw [List.length_map]
    repeat (first | refine pu_not ?_ | refine pu_eql ?_ | refine pu_neq ?_ | refine pu_lss ?_ | refine pu_leq ?_ | refine pu_gtr ?_ | refine pu_geq ?_ | refine pu_add ?_ | refine pu_sub ?_ | refine pu_mul ?_ | refine pu_neg ?_ | refine fa_at ?_ | refine nl_ptr ?_ | refine ex20 ?_ | refine ex21 ?_ | refine ex30 ?_ | refine ex31 ?_ | refine ex32 ?_ | refine ln_rule ?_ | refine lnT_rule ?_ | refine pu_and ?_ | refine pu_or ?_ | refine pu_xor ?_ | refine pu_seq ?_ | refine pu_sne ?_)
    rw [wrap64_in (by omega) (by omega)]
    refine cvt_iu (by omega) (by omega) ?_
    repeat (first | refine pu_not ?_ | refine pu_eql ?_ | refine pu_neq ?_ | refine pu_lss ?_ | refine pu_leq ?_ | refine pu_gtr ?_ | refine pu_geq ?_ | refine pu_add ?_ | refine pu_sub ?_ | refine pu_mul ?_ | refine pu_neg ?_ | refine fa_at ?_ | refine nl_ptr ?_ | refine ex20 ?_ | refine ex21 ?_ | refine ex30 ?_ | refine ex31 ?_ | refine ex32 ?_ | refine ln_rule ?_ | refine lnT_rule ?_ | refine pu_and ?_ | refine pu_or ?_ | refine pu_xor ?_ | refine pu_seq ?_ | refine pu_sne ?_)
    refine cnd (fun hlt => ?_) (fun hge => ?_)
    · rw [ert, if_pos (by simp at hlt; omega)] at k
      exact k _ h1
    · have hge : n ≤ l.length - m := by simp at hge; omega
      rw [ert, if_neg (by omega)] at k
      refine cvt_ui (by omega) ?_
      repeat (first | refine pu_not ?_ | refine pu_eql ?_ | refine pu_neq ?_ | refine pu_lss ?_ | refine pu_leq ?_ | refine pu_gtr ?_ | refine pu_geq ?_ | refine pu_add ?_ | refine pu_sub ?_ | refine pu_mul ?_ | refine pu_neg ?_ | refine fa_at ?_ | refine nl_ptr ?_ | refine ex20 ?_ | refine ex21 ?_ | refine ex30 ?_ | refine ex31 ?_ | refine ex32 ?_ | refine ln_rule ?_ | refine lnT_rule ?_ | refine pu_and ?_ | refine pu_or ?_ | refine pu_xor ?_ | refine pu_seq ?_ | refine pu_sne ?_)
      rw [wrap64_in (by omega) (by omega)]
      refine cutLH hs (by omega) (by omega) (by simp; omega) (fun c hc => ?_)
      have e0 : ((m : Int)).toNat = m := Int.toNat_natCast _
      have e2 : ((m : Int) + (n : Int)).toNat = m + n := by omega
      rw [e0, e2]
      have hs2 := sl_cut (l := m) (h := m + n) (m := c) hs (by omega) (by simp; omega) (by omega)
      have e1 : ((bv l).take (m + n)).drop m = bv ((l.drop m).take n) := by
        unfold bv
        rw [← List.map_take, ← List.map_drop, List.drop_take, Nat.add_sub_cancel_left]
      rw [e1] at hs2
      refine strOf h1 hs2 ?_
      refine cvt_ui (by omega) ?_
      repeat (first | refine pu_not ?_ | refine pu_eql ?_ | refine pu_neq ?_ | refine pu_lss ?_ | refine pu_leq ?_ | refine pu_gtr ?_ | refine pu_geq ?_ | refine pu_add ?_ | refine pu_sub ?_ | refine pu_mul ?_ | refine pu_neg ?_ | refine fa_at ?_ | refine nl_ptr ?_ | refine ex20 ?_ | refine ex21 ?_ | refine ex30 ?_ | refine ex31 ?_ | refine ex32 ?_ | refine ln_rule ?_ | refine lnT_rule ?_ | refine pu_and ?_ | refine pu_or ?_ | refine pu_xor ?_ | refine pu_seq ?_ | refine pu_sne ?_)
      rw [wrap64_in (by omega) (by omega)]
      exact k _ h1
  · have ert : rt l = ([], 0, 110) := by unfold rt; rw [if_pos (by rw [hz]; simp), hz]
    rw [ert] at k
    rw [hz]
    refine cnd_t rfl ?_
    exact k _ h1
  · have ert : rt l = ([], 0, 111) := by unfold rt; rw [if_pos (by rw [hz]; simp), hz]
    rw [ert] at k
    rw [hz]
    refine cnd_t rfl ?_
    exact k _ h1

/-! ### The chapter's rows -/
theorem srt {S : Hp} : (S ++ H).Sublist (S ++ H) := List.Sublist.refl _
theorem seqT {x : ByteArray} : (x.toList == x.toList) = true := by simp
theorem oworks_spec (h : Ow B w H) (k : ∀ w', Ow B w' H → K (vB true) w') : callW PG N.linesmanlaw01_works [] K PK w := by
  refine linesmanlaw01_works.ok ?_
  unfold linesmanlaw01_works.C
  refine fixed_spec (n := 258) (x := 2) h (by omega) (fun S a w1 h1 ho => ?_)
  have e1 : fxR 258 2 = ([2, 1], 0) := by decide +kernel
  rw [e1] at ho ⊢
  repeat (first | refine pu_not ?_ | refine pu_eql ?_ | refine pu_neq ?_ | refine pu_lss ?_ | refine pu_leq ?_ | refine pu_gtr ?_ | refine pu_geq ?_ | refine pu_add ?_ | refine pu_sub ?_ | refine pu_mul ?_ | refine pu_neg ?_ | refine fa_at ?_ | refine nl_ptr ?_ | refine ex20 ?_ | refine ex21 ?_ | refine ex30 ?_ | refine ex31 ?_ | refine ex32 ?_ | refine ln_rule ?_ | refine lnT_rule ?_ | refine pu_and ?_ | refine pu_or ?_ | refine pu_xor ?_ | refine pu_seq ?_ | refine pu_sne ?_)
  refine fixed_spec (n := 256) (x := 1) h1 (by omega) (fun S2 a2 w2 h2 ho2 => ?_)
  have e2 : fxR 256 1 = ([], 4) := by decide +kernel
  rw [e2]
  have h2 := h2.sub (List.sublist_append_right _ _)
  repeat (first | refine pu_not ?_ | refine pu_eql ?_ | refine pu_neq ?_ | refine pu_lss ?_ | refine pu_leq ?_ | refine pu_gtr ?_ | refine pu_geq ?_ | refine pu_add ?_ | refine pu_sub ?_ | refine pu_mul ?_ | refine pu_neg ?_ | refine fa_at ?_ | refine nl_ptr ?_ | refine ex20 ?_ | refine ex21 ?_ | refine ex30 ?_ | refine ex31 ?_ | refine ex32 ?_ | refine ln_rule ?_ | refine lnT_rule ?_ | refine pu_and ?_ | refine pu_or ?_ | refine pu_xor ?_ | refine pu_seq ?_ | refine pu_sne ?_)
  refine fixed_spec (n := 1) (x := 3) h2 (by omega) (fun S3 a3 w3 h3 ho3 => ?_)
  have e3 : fxR 1 3 = ([], 2) := by decide +kernel
  rw [e3]
  have h3 := h3.sub (List.sublist_append_right _ _)
  repeat (first | refine pu_not ?_ | refine pu_eql ?_ | refine pu_neq ?_ | refine pu_lss ?_ | refine pu_leq ?_ | refine pu_gtr ?_ | refine pu_geq ?_ | refine pu_add ?_ | refine pu_sub ?_ | refine pu_mul ?_ | refine pu_neg ?_ | refine fa_at ?_ | refine nl_ptr ?_ | refine ex20 ?_ | refine ex21 ?_ | refine ex30 ?_ | refine ex31 ?_ | refine ex32 ?_ | refine ln_rule ?_ | refine lnT_rule ?_ | refine pu_and ?_ | refine pu_or ?_ | refine pu_xor ?_ | refine pu_seq ?_ | refine pu_sne ?_)
  refine bs_rule h3 (bv [2, 1, 7]) (by kernel_rfl) (fun b4 w4 h4 => ?_)
  refine readFixed_spec (l := [2, 1, 7]) (x := 2) h4 (sl_here (l := bv [2, 1, 7]) (.head _)) (by simp [Byt]) (by simp) (fun w5 h5 => ?_)
  have e5 : rfR [2, 1, 7] 2 = (258, 0) := by decide +kernel
  rw [e5]
  have h5 := h5.drop
  repeat (first | refine pu_not ?_ | refine pu_eql ?_ | refine pu_neq ?_ | refine pu_lss ?_ | refine pu_leq ?_ | refine pu_gtr ?_ | refine pu_geq ?_ | refine pu_add ?_ | refine pu_sub ?_ | refine pu_mul ?_ | refine pu_neg ?_ | refine fa_at ?_ | refine nl_ptr ?_ | refine ex20 ?_ | refine ex21 ?_ | refine ex30 ?_ | refine ex31 ?_ | refine ex32 ?_ | refine ln_rule ?_ | refine lnT_rule ?_ | refine pu_and ?_ | refine pu_or ?_ | refine pu_xor ?_ | refine pu_seq ?_ | refine pu_sne ?_)
  refine bs_rule h5 (bv [172, 2, 7]) (by kernel_rfl) (fun b6 w6 h6 => ?_)
  refine readNumber_spec (l := [172, 2, 7]) h6 (sl_here (l := bv [172, 2, 7]) (.head _)) (by simp [Byt]) (by simp) (fun w7 h7 => ?_)
  have e7 : rn [172, 2, 7] 0 0 = (300, 2, 0) := by decide +kernel
  rw [e7]
  have h7 := h7.drop
  repeat (first | refine pu_not ?_ | refine pu_eql ?_ | refine pu_neq ?_ | refine pu_lss ?_ | refine pu_leq ?_ | refine pu_gtr ?_ | refine pu_geq ?_ | refine pu_add ?_ | refine pu_sub ?_ | refine pu_mul ?_ | refine pu_neg ?_ | refine fa_at ?_ | refine nl_ptr ?_ | refine ex20 ?_ | refine ex21 ?_ | refine ex30 ?_ | refine ex31 ?_ | refine ex32 ?_ | refine ln_rule ?_ | refine lnT_rule ?_ | refine pu_and ?_ | refine pu_or ?_ | refine pu_xor ?_ | refine pu_seq ?_ | refine pu_sne ?_)
  refine bs_rule h7 (bv [128, 0]) (by kernel_rfl) (fun b8 w8 h8 => ?_)
  refine readNumber_spec (l := [128, 0]) h8 (sl_here (l := bv [128, 0]) (.head _)) (by simp [Byt]) (by simp) (fun w9 h9 => ?_)
  have e9 : rn [128, 0] 0 0 = (0, 0, 111) := by decide +kernel
  rw [e9]
  have h9 := h9.drop
  repeat (first | refine pu_not ?_ | refine pu_eql ?_ | refine pu_neq ?_ | refine pu_lss ?_ | refine pu_leq ?_ | refine pu_gtr ?_ | refine pu_geq ?_ | refine pu_add ?_ | refine pu_sub ?_ | refine pu_mul ?_ | refine pu_neg ?_ | refine fa_at ?_ | refine nl_ptr ?_ | refine ex20 ?_ | refine ex21 ?_ | refine ex30 ?_ | refine ex31 ?_ | refine ex32 ?_ | refine ln_rule ?_ | refine lnT_rule ?_ | refine pu_and ?_ | refine pu_or ?_ | refine pu_xor ?_ | refine pu_seq ?_ | refine pu_sne ?_)
  refine bs_rule h9 (bv [128]) (by kernel_rfl) (fun b10 w10 h10 => ?_)
  refine readNumber_spec (l := [128]) h10 (sl_here (l := bv [128]) (.head _)) (by simp [Byt]) (by simp) (fun w11 h11 => ?_)
  have e11 : rn [128] 0 0 = (0, 0, 110) := by decide +kernel
  rw [e11]
  have h11 := h11.drop
  repeat (first | refine pu_not ?_ | refine pu_eql ?_ | refine pu_neq ?_ | refine pu_lss ?_ | refine pu_leq ?_ | refine pu_gtr ?_ | refine pu_geq ?_ | refine pu_add ?_ | refine pu_sub ?_ | refine pu_mul ?_ | refine pu_neg ?_ | refine fa_at ?_ | refine nl_ptr ?_ | refine ex20 ?_ | refine ex21 ?_ | refine ex30 ?_ | refine ex31 ?_ | refine ex32 ?_ | refine ln_rule ?_ | refine lnT_rule ?_ | refine pu_and ?_ | refine pu_or ?_ | refine pu_xor ?_ | refine pu_seq ?_ | refine pu_sne ?_)
  refine onum_spec ?_
  refine onum_spec ?_
  repeat (first | refine pu_not ?_ | refine pu_eql ?_ | refine pu_neq ?_ | refine pu_lss ?_ | refine pu_leq ?_ | refine pu_gtr ?_ | refine pu_geq ?_ | refine pu_add ?_ | refine pu_sub ?_ | refine pu_mul ?_ | refine pu_neg ?_ | refine fa_at ?_ | refine nl_ptr ?_ | refine ex20 ?_ | refine ex21 ?_ | refine ex30 ?_ | refine ex31 ?_ | refine ex32 ?_ | refine ln_rule ?_ | refine lnT_rule ?_ | refine pu_and ?_ | refine pu_or ?_ | refine pu_xor ?_ | refine pu_seq ?_ | refine pu_sne ?_)
  refine onum_spec ?_
  repeat (first | refine pu_not ?_ | refine pu_eql ?_ | refine pu_neq ?_ | refine pu_lss ?_ | refine pu_leq ?_ | refine pu_gtr ?_ | refine pu_geq ?_ | refine pu_add ?_ | refine pu_sub ?_ | refine pu_mul ?_ | refine pu_neg ?_ | refine fa_at ?_ | refine nl_ptr ?_ | refine ex20 ?_ | refine ex21 ?_ | refine ex30 ?_ | refine ex31 ?_ | refine ex32 ?_ | refine ln_rule ?_ | refine lnT_rule ?_ | refine pu_and ?_ | refine pu_or ?_ | refine pu_xor ?_ | refine pu_seq ?_ | refine pu_sne ?_)
  refine cnd_t rfl ?_
  refine strOf h11 (ho.sl.mono fun x hx => List.mem_append_left _ hx) ?_
  repeat (first | refine pu_not ?_ | refine pu_eql ?_ | refine pu_neq ?_ | refine pu_lss ?_ | refine pu_leq ?_ | refine pu_gtr ?_ | refine pu_geq ?_ | refine pu_add ?_ | refine pu_sub ?_ | refine pu_mul ?_ | refine pu_neg ?_ | refine fa_at ?_ | refine nl_ptr ?_ | refine ex20 ?_ | refine ex21 ?_ | refine ex30 ?_ | refine ex31 ?_ | refine ex32 ?_ | refine ln_rule ?_ | refine lnT_rule ?_ | refine pu_and ?_ | refine pu_or ?_ | refine pu_xor ?_ | refine pu_seq ?_ | refine pu_sne ?_)
  refine cnd_t seqT ?_
  refine onum_spec ?_
  repeat (first | refine pu_not ?_ | refine pu_eql ?_ | refine pu_neq ?_ | refine pu_lss ?_ | refine pu_leq ?_ | refine pu_gtr ?_ | refine pu_geq ?_ | refine pu_add ?_ | refine pu_sub ?_ | refine pu_mul ?_ | refine pu_neg ?_ | refine fa_at ?_ | refine nl_ptr ?_ | refine ex20 ?_ | refine ex21 ?_ | refine ex30 ?_ | refine ex31 ?_ | refine ex32 ?_ | refine ln_rule ?_ | refine lnT_rule ?_ | refine pu_and ?_ | refine pu_or ?_ | refine pu_xor ?_ | refine pu_seq ?_ | refine pu_sne ?_)
  refine cnd_t rfl ?_
  refine onum_spec ?_
  repeat (first | refine pu_not ?_ | refine pu_eql ?_ | refine pu_neq ?_ | refine pu_lss ?_ | refine pu_leq ?_ | refine pu_gtr ?_ | refine pu_geq ?_ | refine pu_add ?_ | refine pu_sub ?_ | refine pu_mul ?_ | refine pu_neg ?_ | refine fa_at ?_ | refine nl_ptr ?_ | refine ex20 ?_ | refine ex21 ?_ | refine ex30 ?_ | refine ex31 ?_ | refine ex32 ?_ | refine ln_rule ?_ | refine lnT_rule ?_ | refine pu_and ?_ | refine pu_or ?_ | refine pu_xor ?_ | refine pu_seq ?_ | refine pu_sne ?_)
  refine cnd_t rfl ?_
  repeat (first | refine pu_not ?_ | refine pu_eql ?_ | refine pu_neq ?_ | refine pu_lss ?_ | refine pu_leq ?_ | refine pu_gtr ?_ | refine pu_geq ?_ | refine pu_add ?_ | refine pu_sub ?_ | refine pu_mul ?_ | refine pu_neg ?_ | refine fa_at ?_ | refine nl_ptr ?_ | refine ex20 ?_ | refine ex21 ?_ | refine ex30 ?_ | refine ex31 ?_ | refine ex32 ?_ | refine ln_rule ?_ | refine lnT_rule ?_ | refine pu_and ?_ | refine pu_or ?_ | refine pu_xor ?_ | refine pu_seq ?_ | refine pu_sne ?_)
  refine cnd_t rfl ?_
  have h11 := h11.sub (List.sublist_append_right _ _)
  refine number_spec (n := 0) h11 (by omega) (fun S12 v12 w12 h12 ho12 => ?_)
  have e12 : nb 0 = [0] := nb_small (by omega)
  rw [e12] at ho12
  refine strOf h12 (ho12.sl.mono fun x hx => List.mem_append_left _ hx) ?_
  repeat (first | refine pu_not ?_ | refine pu_eql ?_ | refine pu_neq ?_ | refine pu_lss ?_ | refine pu_leq ?_ | refine pu_gtr ?_ | refine pu_geq ?_ | refine pu_add ?_ | refine pu_sub ?_ | refine pu_mul ?_ | refine pu_neg ?_ | refine fa_at ?_ | refine nl_ptr ?_ | refine ex20 ?_ | refine ex21 ?_ | refine ex30 ?_ | refine ex31 ?_ | refine ex32 ?_ | refine ln_rule ?_ | refine lnT_rule ?_ | refine pu_and ?_ | refine pu_or ?_ | refine pu_xor ?_ | refine pu_seq ?_ | refine pu_sne ?_)
  refine cnd_t seqT ?_
  have h12 := h12.sub (List.sublist_append_right _ _)
  refine number_spec (n := 300) h12 (by omega) (fun S13 v13 w13 h13 ho13 => ?_)
  have e13 : nb 300 = [172, 2] := by rw [nb_big (by omega), nb_small (by omega)]
  rw [e13] at ho13
  refine strOf h13 (ho13.sl.mono fun x hx => List.mem_append_left _ hx) ?_
  repeat (first | refine pu_not ?_ | refine pu_eql ?_ | refine pu_neq ?_ | refine pu_lss ?_ | refine pu_leq ?_ | refine pu_gtr ?_ | refine pu_geq ?_ | refine pu_add ?_ | refine pu_sub ?_ | refine pu_mul ?_ | refine pu_neg ?_ | refine fa_at ?_ | refine nl_ptr ?_ | refine ex20 ?_ | refine ex21 ?_ | refine ex30 ?_ | refine ex31 ?_ | refine ex32 ?_ | refine ln_rule ?_ | refine lnT_rule ?_ | refine pu_and ?_ | refine pu_or ?_ | refine pu_xor ?_ | refine pu_seq ?_ | refine pu_sne ?_)
  refine cnd_t seqT ?_
  repeat (first | refine pu_not ?_ | refine pu_eql ?_ | refine pu_neq ?_ | refine pu_lss ?_ | refine pu_leq ?_ | refine pu_gtr ?_ | refine pu_geq ?_ | refine pu_add ?_ | refine pu_sub ?_ | refine pu_mul ?_ | refine pu_neg ?_ | refine fa_at ?_ | refine nl_ptr ?_ | refine ex20 ?_ | refine ex21 ?_ | refine ex30 ?_ | refine ex31 ?_ | refine ex32 ?_ | refine ln_rule ?_ | refine lnT_rule ?_ | refine pu_and ?_ | refine pu_or ?_ | refine pu_xor ?_ | refine pu_seq ?_ | refine pu_sne ?_)
  refine cnd_t rfl ?_
  repeat (first | refine pu_not ?_ | refine pu_eql ?_ | refine pu_neq ?_ | refine pu_lss ?_ | refine pu_leq ?_ | refine pu_gtr ?_ | refine pu_geq ?_ | refine pu_add ?_ | refine pu_sub ?_ | refine pu_mul ?_ | refine pu_neg ?_ | refine fa_at ?_ | refine nl_ptr ?_ | refine ex20 ?_ | refine ex21 ?_ | refine ex30 ?_ | refine ex31 ?_ | refine ex32 ?_ | refine ln_rule ?_ | refine lnT_rule ?_ | refine pu_and ?_ | refine pu_or ?_ | refine pu_xor ?_ | refine pu_seq ?_ | refine pu_sne ?_)
  refine cnd_t rfl ?_
  refine onum_spec ?_
  repeat (first | refine pu_not ?_ | refine pu_eql ?_ | refine pu_neq ?_ | refine pu_lss ?_ | refine pu_leq ?_ | refine pu_gtr ?_ | refine pu_geq ?_ | refine pu_add ?_ | refine pu_sub ?_ | refine pu_mul ?_ | refine pu_neg ?_ | refine fa_at ?_ | refine nl_ptr ?_ | refine ex20 ?_ | refine ex21 ?_ | refine ex30 ?_ | refine ex31 ?_ | refine ex32 ?_ | refine ln_rule ?_ | refine lnT_rule ?_ | refine pu_and ?_ | refine pu_or ?_ | refine pu_xor ?_ | refine pu_seq ?_ | refine pu_sne ?_)
  refine cnd_t rfl ?_
  refine onum_spec ?_
  repeat (first | refine pu_not ?_ | refine pu_eql ?_ | refine pu_neq ?_ | refine pu_lss ?_ | refine pu_leq ?_ | refine pu_gtr ?_ | refine pu_geq ?_ | refine pu_add ?_ | refine pu_sub ?_ | refine pu_mul ?_ | refine pu_neg ?_ | refine fa_at ?_ | refine nl_ptr ?_ | refine ex20 ?_ | refine ex21 ?_ | refine ex30 ?_ | refine ex31 ?_ | refine ex32 ?_ | refine ln_rule ?_ | refine lnT_rule ?_ | refine pu_and ?_ | refine pu_or ?_ | refine pu_xor ?_ | refine pu_seq ?_ | refine pu_sne ?_)
  exact k _ (h13.sub (List.sublist_append_right _ _))
end
end Go.Proofs.Ytplobehejancpaa
