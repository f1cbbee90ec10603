/- Digests: the table, New, steps. -/
import Derived.Test.YtkkkcafkepnecaaGreatIB
import Derived.Lib.SlBytesConst
import Derived.Test.YtkkkcafkepnecaaGreatZA
import Derived.Test.YtkkkcafkepnecaaGreatJC

set_option linter.unusedVariables false
set_option linter.unusedSimpArgs false
namespace Go.Proofs.YtkkkcafkepnecaaGreat.Im
open Go Go.RowKit Vc Oc Dg
attribute [local irreducible] binV Op.unary convert nlW faW ldS ldW ixS ixA ixV ixT exW lnS lnT pu stW alW opW opU bsW mkW

section
variable {B w : World} {H : Hp} {K : Value → World → Prop} {PK : List PanicEntry → World → Prop}
/-! ### Bits -/
theorem xor64 {a b : Nat} (ha : a < 18446744073709551616) (hb : b < 18446744073709551616) : xorI .u64 (a : Int) (b : Int) = ((a ^^^ b : Nat) : Int) := by
  unfold xorI
  have e3 : (BitVec.ofNat 64 a ^^^ BitVec.ofNat 64 b).toNat = a ^^^ b := by
    rw [BitVec.toNat_xor, BitVec.toNat_ofNat, BitVec.toNat_ofNat, Nat.mod_eq_of_lt (by omega), Nat.mod_eq_of_lt (by omega)]
  show IntKind.u64.wrap ((BitVec.ofInt 64 (a : Int) ^^^ BitVec.ofInt 64 (b : Int)).toNat : Int) = _
  rw [BitVec.ofInt_natCast, BitVec.ofInt_natCast, e3, wrapu64]
  have := xor_lt64 ha hb
  omega
theorem xor8 {a b : Nat} (ha : a < 256) (hb : b < 256) : xorI .u8 (a : Int) (b : Int) = ((a ^^^ b : Nat) : Int) := by
  unfold xorI
  have e3 : (BitVec.ofNat 8 a ^^^ BitVec.ofNat 8 b).toNat = a ^^^ b := by
    rw [BitVec.toNat_xor, BitVec.toNat_ofNat, BitVec.toNat_ofNat, Nat.mod_eq_of_lt (by omega), Nat.mod_eq_of_lt (by omega)]
  show IntKind.u8.wrap ((BitVec.ofInt 8 (a : Int) ^^^ BitVec.ofInt 8 (b : Int)).toNat : Int) = _
  rw [BitVec.ofInt_natCast, BitVec.ofInt_natCast, e3, wrapu8]
  have := xor_lt8 ha hb
  omega
section
variable {KK : Value → Prop} {c : Bool} {t : TypeId} {a b : Nat}
theorem x64 (ha : a < 18446744073709551616) (hb : b < 18446744073709551616) (k : KK (v64 (a ^^^ b))) : pu PG (binV .xor t c (v64 a) (v64 b)) KK := by
  refine pu_xor ?_
  rw [xor64 ha hb]; exact k
theorem x8 (ha : a < 256) (hb : b < 256) (k : KK (v8 (a ^^^ b))) : pu PG (binV .xor t c (v8 a) (v8 b)) KK := by
  refine pu_xor ?_
  rw [xor8 ha hb]; exact k
theorem and1 (ha : a < 18446744073709551616) (k : KK (v64 (a % 2))) : pu PG (binV .and t c (v64 a) (.int .u64 1)) KK := by
  refine pu_and ?_
  have : andI .u64 (a : Int) 1 = ((a % 2 : Nat) : Int) := by
    unfold andI
    have e3 : (BitVec.ofNat 64 a &&& BitVec.ofNat 64 1).toNat = a % 2 := by
      rw [BitVec.toNat_and, BitVec.toNat_ofNat, BitVec.toNat_ofNat, Nat.mod_eq_of_lt (by omega), Nat.mod_eq_of_lt (by omega), Nat.and_one_is_mod]
    show IntKind.u64.wrap ((BitVec.ofInt 64 (a : Int) &&& BitVec.ofInt 64 ((1 : Nat) : Int)).toNat : Int) = _
    rw [BitVec.ofInt_natCast, BitVec.ofInt_natCast, e3, wrapu64]
    omega
  rw [this]; exact k
theorem shr1 (k : KK (v64 (a / 2))) : pu PG (binV .shr t c (v64 a) (.int .u64 1)) KK := by
  refine pu_shr (by omega) ?_
  have : ((a : Int).fdiv (2 ^ min (1 : Int).toNat IntKind.u64.bits)) = ((a / 2 : Nat) : Int) := by
    have e1 : (2 : Int) ^ min (1 : Int).toNat IntKind.u64.bits = 2 := by decide
    rw [e1, Int.fdiv_eq_ediv_of_nonneg _ (by omega)]
    omega
  rw [this]; exact k
theorem shr8 (k : KK (v64 (a / 256))) : pu PG (binV .shr t c (v64 a) (.int .u64 8)) KK := by
  refine pu_shr (by omega) ?_
  have : ((a : Int).fdiv (2 ^ min (8 : Int).toNat IntKind.u64.bits)) = ((a / 256 : Nat) : Int) := by
    have e1 : (2 : Int) ^ min (8 : Int).toNat IntKind.u64.bits = 256 := by decide
    rw [e1, Int.fdiv_eq_ediv_of_nonneg _ (by omega)]
    omega
  rw [this]; exact k
theorem u64max : IntKind.u64.max = 18446744073709551615 := by decide
theorem not64 (ha : a < 18446744073709551616) (k : KK (v64 (nt a))) : pu PG (Op.unary .xor (v64 a)) KK := by
  refine pu_of (v := .int .u64 (xorI .u64 (18446744073709551615 : Int) (a : Int))) (fun w => ?_) ?_
  · simp only [Op.unary, IntKind.signed, Bool.false_eq_true, if_false, u64max, Op.intBits, Sem.run_pure, xorI]
  · have e1 : (18446744073709551615 : Int) = ((18446744073709551615 : Nat) : Int) := rfl
    have e0 : nt a = 18446744073709551615 ^^^ a := by unfold nt top; rfl
    rw [e0] at k
    rw [e1, xor64 (by omega) ha]
    exact k
end

/-! ### The table -/
def tabL : List Nat := (List.range 256).map tbl
theorem tabL_len : tabL.length = 256 := by simp [tabL]
theorem tabL_at {i : Nat} (h : i < 256) : tabL[i]? = some (tbl i) := by simp [tabL, h]
def tabV : List Value := tabL.map v64
theorem tabV_len : tabV.length = 256 := by rw [tabV, List.length_map, tabL_len]
theorem tabV_at {i : Nat} (h : i < 256) : tabV[i]? = some (v64 (tbl i)) := by rw [tabV, List.getElem?_map, tabL_at h]; rfl
def dgC (s : Nat) (m : Int) (made : Bool) : List Value := tabV ++ [v64 s, vI m, vB made]
theorem dgC_len (s : Nat) (m : Int) (made : Bool) : (dgC s m made).length = 259 := by simp [dgC, tabV_len]
theorem dgC_tab {s : Nat} {m : Int} {made : Bool} {i : Nat} (h : i < 256) : (dgC s m made)[i]? = some (v64 (tbl i)) := by
  unfold dgC
  rw [List.getElem?_append_left (by rw [tabV_len]; exact h), tabV_at h]
theorem dgC_sum {s : Nat} {m : Int} {made : Bool} : (dgC s m made)[256]? = some (v64 s) := by
  unfold dgC
  rw [List.getElem?_append_right (by rw [tabV_len]; omega), tabV_len]; rfl
theorem dgC_many {s : Nat} {m : Int} {made : Bool} : (dgC s m made)[257]? = some (vI m) := by
  unfold dgC
  rw [List.getElem?_append_right (by rw [tabV_len]; omega), tabV_len]; rfl
theorem dgC_made {s : Nat} {m : Int} {made : Bool} : (dgC s m made)[258]? = some (vB made) := by
  unfold dgC
  rw [List.getElem?_append_right (by rw [tabV_len]; omega), tabV_len]; rfl
theorem dgC_set_sum {s s' : Nat} {m : Int} {made : Bool} : (dgC s m made).set 256 (v64 s') = dgC s' m made := by
  unfold dgC
  rw [List.set_append_right _ _ (by rw [tabV_len]; omega), tabV_len]; rfl
theorem dgC_set_many {s : Nat} {m m' : Int} {made : Bool} : (dgC s m made).set 257 (vI m') = dgC s m' made := by
  unfold dgC
  rw [List.set_append_right _ _ (by rw [tabV_len]; omega), tabV_len]; rfl
attribute [local irreducible] dgC tabV
abbrev dg (s : Nat) (m : Int) : Obj := cel (dgC s m true) T.t_digest_Digest

theorem fill_spec {A C : Hp} {b : Nat} {l : List Value} (hl : l.length = 3) (h : Ow B w (A ++ (b, cel (List.replicate 256 (v64 0) ++ l) T.t_digest_Digest) :: C))
    (k : ∀ w', Ow B w' (A ++ (b, cel (tabL.map v64 ++ l) T.t_digest_Digest) :: C) → K (.tuple #[]) w') : callW PG N.digest_table_fill [ptr b] K PK w := by
  refine digest_table_fill.ok ?_
  unfold digest_table_fill.C
  refine ⟨fun l' w => ∃ i : Nat, l' = [vI i] ∧ i ≤ 256 ∧ Ow B w (A ++ (b, cel ((tabL.take i).map v64 ++ List.replicate (256 - i) (v64 0) ++ l) T.t_digest_Digest) :: C), fun l' _ => match l' with | [.int _ j] => 256 - j.toNat | _ => 0, ⟨0, rfl, by omega, by rw [List.take_zero, List.map_nil, List.nil_append, Nat.sub_zero]; exact h⟩, ?_⟩
  rintro l' w2 ⟨i, rfl, hi, h2⟩ j
  repeat (first | refine pu_not ?_ | refine pu_eql ?_ | refine pu_neq ?_ | refine pu_lss ?_ | refine pu_leq ?_ | refine pu_gtr ?_ | refine pu_geq ?_ | refine pu_add ?_ | refine pu_sub ?_ | refine pu_mul ?_ | refine pu_neg ?_ | refine fa_at ?_ | refine nl_ptr ?_ | refine ex20 ?_ | refine ex21 ?_ | refine ex30 ?_ | refine ex31 ?_ | refine ex32 ?_ | refine ln_rule ?_ | refine lnT_rule ?_ | refine pu_and ?_ | refine pu_or ?_ | refine pu_xor ?_ | refine pu_seq ?_ | refine pu_sne ?_)
  refine cnd (fun hlt => ?_) (fun hlt => ?_)
  · have hlt : i < 256 := by simp at hlt; omega
    refine cvt_iu (by omega) (by omega) ?_
    rw [Int.toNat_natCast]
    refine ⟨fun l' w => ∃ (q x : Nat), l' = [v64 x, vI q] ∧ q ≤ 8 ∧ x < 18446744073709551616 ∧ shk (8 - q) x = tbl i ∧ Ow B w (A ++ (b, cel ((tabL.take i).map v64 ++ List.replicate (256 - i) (v64 0) ++ l) T.t_digest_Digest) :: C), fun l' _ => match l' with | [_, .int _ j] => 8 - j.toNat | _ => 0, ⟨0, i, rfl, by omega, by omega, rfl, h2⟩, ?_⟩
    rintro l' w3 ⟨q, x, rfl, hq, hx, hs, h3⟩ j2
    repeat (first | refine pu_not ?_ | refine pu_eql ?_ | refine pu_neq ?_ | refine pu_lss ?_ | refine pu_leq ?_ | refine pu_gtr ?_ | refine pu_geq ?_ | refine pu_add ?_ | refine pu_sub ?_ | refine pu_mul ?_ | refine pu_neg ?_ | refine fa_at ?_ | refine nl_ptr ?_ | refine ex20 ?_ | refine ex21 ?_ | refine ex30 ?_ | refine ex31 ?_ | refine ex32 ?_ | refine ln_rule ?_ | refine lnT_rule ?_ | refine pu_and ?_ | refine pu_or ?_ | refine pu_xor ?_ | refine pu_seq ?_ | refine pu_sne ?_)
    refine cnd (fun hlt2 => ?_) (fun hlt2 => ?_)
    · have hlt2 : q < 8 := by simp at hlt2; omega
      obtain ⟨q', hq'⟩ : ∃ q', 8 - q = q' + 1 := ⟨7 - q, by omega⟩
      rw [hq'] at hs
      have hs : shk q' (sh x) = tbl i := hs
      refine and1 hx ?_
      refine shr1 ?_
      repeat (first | refine pu_not ?_ | refine pu_eql ?_ | refine pu_neq ?_ | refine pu_lss ?_ | refine pu_leq ?_ | refine pu_gtr ?_ | refine pu_geq ?_ | refine pu_add ?_ | refine pu_sub ?_ | refine pu_mul ?_ | refine pu_neg ?_ | refine fa_at ?_ | refine nl_ptr ?_ | refine ex20 ?_ | refine ex21 ?_ | refine ex30 ?_ | refine ex31 ?_ | refine ex32 ?_ | refine ln_rule ?_ | refine lnT_rule ?_ | refine pu_and ?_ | refine pu_or ?_ | refine pu_xor ?_ | refine pu_seq ?_ | refine pu_sne ?_)
      refine cnd (fun ho => ?_) (fun ho => ?_)
      · have ho : x % 2 = 1 := by simp at ho; omega
        have e : sh x = (x / 2) ^^^ 14514072000185962306 := by unfold sh gd; rw [if_pos ho]; rfl
        refine x64 (b := 14514072000185962306) (by omega) (by omega) ?_
        repeat (first | refine pu_not ?_ | refine pu_eql ?_ | refine pu_neq ?_ | refine pu_lss ?_ | refine pu_leq ?_ | refine pu_gtr ?_ | refine pu_geq ?_ | refine pu_add ?_ | refine pu_sub ?_ | refine pu_mul ?_ | refine pu_neg ?_ | refine fa_at ?_ | refine nl_ptr ?_ | refine ex20 ?_ | refine ex21 ?_ | refine ex30 ?_ | refine ex31 ?_ | refine ex32 ?_ | refine ln_rule ?_ | refine lnT_rule ?_ | refine pu_and ?_ | refine pu_or ?_ | refine pu_xor ?_ | refine pu_seq ?_ | refine pu_sne ?_)
        rw [wrap64_in (by omega) (by omega)]
        refine ⟨⟨q + 1, _, rfl, hlt2, ?_, ?_, h3⟩, by simp; omega⟩
        · rw [← e]; exact sh_lt hx
        · rw [← e, show 8 - (q + 1) = q' by omega]; exact hs
      · have ho : ¬ x % 2 = 1 := by simp at ho; omega
        have e : sh x = x / 2 := by unfold sh gd; rw [if_neg ho, Nat.xor_zero]
        repeat (first | refine pu_not ?_ | refine pu_eql ?_ | refine pu_neq ?_ | refine pu_lss ?_ | refine pu_leq ?_ | refine pu_gtr ?_ | refine pu_geq ?_ | refine pu_add ?_ | refine pu_sub ?_ | refine pu_mul ?_ | refine pu_neg ?_ | refine fa_at ?_ | refine nl_ptr ?_ | refine ex20 ?_ | refine ex21 ?_ | refine ex30 ?_ | refine ex31 ?_ | refine ex32 ?_ | refine ln_rule ?_ | refine lnT_rule ?_ | refine pu_and ?_ | refine pu_or ?_ | refine pu_xor ?_ | refine pu_seq ?_ | refine pu_sne ?_)
        rw [wrap64_in (by omega) (by omega)]
        refine ⟨⟨q + 1, _, rfl, hlt2, ?_, ?_, h3⟩, by simp; omega⟩
        · rw [← e]; exact sh_lt hx
        · rw [← e, show 8 - (q + 1) = q' by omega]; exact hs
    · obtain rfl : q = 8 := by simp at hlt2; omega
      have hs : x = tbl i := hs
      subst hs
      repeat (first | refine pu_not ?_ | refine pu_eql ?_ | refine pu_neq ?_ | refine pu_lss ?_ | refine pu_leq ?_ | refine pu_gtr ?_ | refine pu_geq ?_ | refine pu_add ?_ | refine pu_sub ?_ | refine pu_mul ?_ | refine pu_neg ?_ | refine fa_at ?_ | refine nl_ptr ?_ | refine ex20 ?_ | refine ex21 ?_ | refine ex30 ?_ | refine ex31 ?_ | refine ex32 ?_ | refine ln_rule ?_ | refine lnT_rule ?_ | refine pu_and ?_ | refine pu_or ?_ | refine pu_xor ?_ | refine pu_seq ?_ | refine pu_sne ?_)
      refine ixA_at (by omega) (by omega) ?_
      have hlen : ((tabL.take i).map v64).length = i := by rw [List.length_map, List.length_take, tabL_len]; omega
      refine st1_here h3 rfl rfl (by simp [tabL_len, hl]; omega) (fun w4 h4 => ?_)
      repeat (first | refine pu_not ?_ | refine pu_eql ?_ | refine pu_neq ?_ | refine pu_lss ?_ | refine pu_leq ?_ | refine pu_gtr ?_ | refine pu_geq ?_ | refine pu_add ?_ | refine pu_sub ?_ | refine pu_mul ?_ | refine pu_neg ?_ | refine fa_at ?_ | refine nl_ptr ?_ | refine ex20 ?_ | refine ex21 ?_ | refine ex30 ?_ | refine ex31 ?_ | refine ex32 ?_ | refine ln_rule ?_ | refine lnT_rule ?_ | refine pu_and ?_ | refine pu_or ?_ | refine pu_xor ?_ | refine pu_seq ?_ | refine pu_sne ?_)
      rw [wrap64_in (by omega) (by omega)]
      refine ⟨⟨i + 1, rfl, hlt, ?_⟩, by simp; omega⟩
      have e : ((tabL.take i).map v64 ++ List.replicate (256 - i) (v64 0) ++ l).set (0 + (i : Int).toNat * 1) (v64 (tbl i)) = (tabL.take (i + 1)).map v64 ++ List.replicate (256 - (i + 1)) (v64 0) ++ l := by
        rw [show 0 + (i : Int).toNat * 1 = i by omega, List.append_assoc, List.set_append_right _ _ (by omega), hlen, Nat.sub_self, show 256 - i = (256 - (i + 1)) + 1 by omega, List.replicate_succ, List.cons_append, List.set_cons_zero,
          List.take_add_one, tabL_at hlt, List.map_append, List.append_assoc]
        simp
      have h4 : Ow B w4 (A ++ (b, cel (((tabL.take i).map v64 ++ List.replicate (256 - i) (v64 0) ++ l).set (0 + (i : Int).toNat * 1) (v64 (tbl i))) T.t_digest_Digest) :: C) := h4
      rw [e] at h4
      exact h4
  · obtain rfl : i = 256 := by simp at hlt; omega
    refine k _ ?_
    have e : tabL.take 256 = tabL := List.take_of_length_le (by rw [tabL_len]; omega)
    rw [e] at h2
    simpa using h2
theorem dnew_spec (h : Ow B w H) (k : ∀ b w', Ow B w' ((b, dg top 0) :: H) → K (ptr b) w') : callW PG N.digest_New [] K PK w := by
  refine digest_New.ok ?_
  unfold digest_New.C
  refine pu_build (List.replicate 256 (v64 0) ++ [v64 18446744073709551615, vI 0, vB true]) (by kernel_rfl) ?_
  refine al_rule h (l := List.replicate 256 (v64 0) ++ [v64 18446744073709551615, vI 0, vB true]) rfl (fun b w1 h1 => ?_)
  repeat (first | refine pu_not ?_ | refine pu_eql ?_ | refine pu_neq ?_ | refine pu_lss ?_ | refine pu_leq ?_ | refine pu_gtr ?_ | refine pu_geq ?_ | refine pu_add ?_ | refine pu_sub ?_ | refine pu_mul ?_ | refine pu_neg ?_ | refine fa_at ?_ | refine nl_ptr ?_ | refine ex20 ?_ | refine ex21 ?_ | refine ex30 ?_ | refine ex31 ?_ | refine ex32 ?_ | refine ln_rule ?_ | refine lnT_rule ?_ | refine pu_and ?_ | refine pu_or ?_ | refine pu_xor ?_ | refine pu_seq ?_ | refine pu_sne ?_)
  refine fill_spec (A := []) rfl h1 (fun w2 h2 => ?_)
  refine k b _ ?_
  have e : dgC top 0 true = tabL.map v64 ++ [v64 18446744073709551615, vI 0, vB true] := by unfold dgC tabV; rfl
  unfold dg
  rw [e]
  exact h2
theorem und_dp : PG.underlying T.t_ptr_digest_Digest = some (.pointer T.t_digest_Digest) := by kernel_rfl
/-- A digest, or none. -/
inductive DP (H : Hp) : Value → Bool → Prop
  | nil : DP H (.pointer none) true
  | at {b : Nat} {l : List Value} {made : Bool} : (b, cel l T.t_digest_Digest) ∈ H → l[258]? = some (vB made) → DP H (ptr b) (!made)
theorem dnone_spec {x : Value} {r : Bool} (hp : DP H x r) (h : Ow B w H) (k : ∀ w', Ow B w' H → K (vB r) w') : callW PG N.digest_Digest_none [x] K PK w := by
  refine digest_Digest_none.ok ?_
  unfold digest_Digest_none.C
  cases hp with
  | nil =>
    refine pu_pnil und_dp ?_
    refine cnd_t rfl ?_
    exact k _ h
  | «at» hm hv =>
    refine pu_pnil und_dp ?_
    refine cnd_f rfl ?_
    repeat (first | refine pu_not ?_ | refine pu_eql ?_ | refine pu_neq ?_ | refine pu_lss ?_ | refine pu_leq ?_ | refine pu_gtr ?_ | refine pu_geq ?_ | refine pu_add ?_ | refine pu_sub ?_ | refine pu_mul ?_ | refine pu_neg ?_ | refine fa_at ?_ | refine nl_ptr ?_ | refine ex20 ?_ | refine ex21 ?_ | refine ex30 ?_ | refine ex31 ?_ | refine ex32 ?_ | refine ln_rule ?_ | refine lnT_rule ?_ | refine pu_and ?_ | refine pu_or ?_ | refine pu_xor ?_ | refine pu_seq ?_ | refine pu_sne ?_)
    refine ld_here h hm (by simpa using hv) ?_
    repeat (first | refine pu_not ?_ | refine pu_eql ?_ | refine pu_neq ?_ | refine pu_lss ?_ | refine pu_leq ?_ | refine pu_gtr ?_ | refine pu_geq ?_ | refine pu_add ?_ | refine pu_sub ?_ | refine pu_mul ?_ | refine pu_neg ?_ | refine fa_at ?_ | refine nl_ptr ?_ | refine ex20 ?_ | refine ex21 ?_ | refine ex30 ?_ | refine ex31 ?_ | refine ex32 ?_ | refine ln_rule ?_ | refine lnT_rule ?_ | refine pu_and ?_ | refine pu_or ?_ | refine pu_xor ?_ | refine pu_seq ?_ | refine pu_sne ?_)
    exact k _ h
theorem dp_of {b : Nat} {s : Nat} {m : Int} (hm : (b, dg s m) ∈ H) : DP H (ptr b) false := .at (made := true) hm dgC_made

theorem tstep_spec {b s c : Nat} {m : Int} (h : Ow B w H) (hm : (b, dg s m) ∈ H) {x : Nat} (hx : x < 18446744073709551616) (hc : c < 256) (k : ∀ w', Ow B w' H → K (v64 (st x c)) w') : callW PG N.digest_table_step [ptr b, v64 x, v8 c] K PK w := by
  refine digest_table_step.ok ?_
  unfold digest_table_step.C
  refine cvt_u8 ?_
  refine x8 (by omega) hc ?_
  repeat (first | refine pu_not ?_ | refine pu_eql ?_ | refine pu_neq ?_ | refine pu_lss ?_ | refine pu_leq ?_ | refine pu_gtr ?_ | refine pu_geq ?_ | refine pu_add ?_ | refine pu_sub ?_ | refine pu_mul ?_ | refine pu_neg ?_ | refine fa_at ?_ | refine nl_ptr ?_ | refine ex20 ?_ | refine ex21 ?_ | refine ex30 ?_ | refine ex31 ?_ | refine ex32 ?_ | refine ln_rule ?_ | refine lnT_rule ?_ | refine pu_and ?_ | refine pu_or ?_ | refine pu_xor ?_ | refine pu_seq ?_ | refine pu_sne ?_)
  have hi : (x % 256) ^^^ c < 256 := xor_lt8 (by omega) hc
  refine ixA_at (by omega) (by omega) ?_
  refine ld_here h hm (v := v64 (tbl ((x % 256) ^^^ c))) ?_ ?_
  · rw [show 0 + (((x % 256) ^^^ c : Nat) : Int).toNat * 1 = (x % 256) ^^^ c by omega]
    exact dgC_tab hi
  · refine shr8 ?_
    refine x64 (tbl_lt hi) (by omega) ?_
    rw [st_tbl hc]
    exact k _ h
def valL (l : List Nat) : List (List Value) := l.map fun c => [v8 c]
theorem valL_of {l : List Nat} {i : Nat} {args : List Value} (h : (valL l)[i]? = some args) : ∃ c, l[i]? = some c ∧ args = [v8 c] := by
  unfold valL at h
  rw [List.getElem?_map, Option.map_eq_some_iff] at h
  obtain ⟨c, hc, rfl⟩ := h
  exact ⟨c, hc, rfl⟩
theorem val_seq {b : Nat} {s : Value} {l : List Nat} (hm : (b, cel [s] T.t_sl_uint8) ∈ H) (hs : Sl H s (bv l)) (hlen : l.length < 2 ^ 62) : Seq PG B H (fnv N.slices_Values_sl_byte_byte_1 #[ptr b]) (valL l) := by
  refine Seq.fn slices_Values_sl_byte_byte_1.okf ?_
  intro y J Z K PK w X hy hw j0 hr he
  refine slices_Values_sl_byte_byte_1.ok ?_
  unfold slices_Values_sl_byte_byte_1.C
  refine ld_here hw (List.mem_append_right _ hm) rfl ?_
  refine sl_ln hs ?_
  rw [List.length_map]
  refine ⟨fun l' w => ∃ (i : Nat) (X : Hp), l' = [vI i] ∧ i ≤ l.length ∧ J i X ∧ Ow B w (X ++ H), fun l' _ => match l' with | [.int _ n] => l.length - n.toNat | _ => 0, ⟨0, X, rfl, Nat.zero_le _, j0, hw⟩, ?_⟩
  rintro l' w2 ⟨i, X, rfl, hi, hj, h2⟩ j1
  repeat (first | refine pu_not ?_ | refine pu_eql ?_ | refine pu_neq ?_ | refine pu_lss ?_ | refine pu_leq ?_ | refine pu_gtr ?_ | refine pu_geq ?_ | refine pu_add ?_ | refine pu_sub ?_ | refine pu_mul ?_ | refine pu_neg ?_ | refine fa_at ?_ | refine nl_ptr ?_ | refine ex20 ?_ | refine ex21 ?_ | refine ex30 ?_ | refine ex31 ?_ | refine ex32 ?_ | refine ln_rule ?_ | refine lnT_rule ?_ | refine pu_and ?_ | refine pu_or ?_ | refine pu_xor ?_ | refine pu_seq ?_ | refine pu_sne ?_)
  refine cnd (fun hlt => ?_) (fun hlt => ?_)
  · have hlt : i < l.length := by simpa using hlt
    refine sl_ld h2 (hs.mono fun x hx => List.mem_append_right _ hx) (by omega) (by rw [Int.toNat_natCast]; exact bv_at hlt) ?_
    refine hr i _ X H _ _ w2 (by simp [valL, List.getElem?_map, List.getD, hlt]) hj (fun x hx => hx) h2 (fun X' w3 h3 hj3 => ?_) (fun X' w3 h3 hz3 => ?_)
    · repeat (first | refine pu_not ?_ | refine pu_eql ?_ | refine pu_neq ?_ | refine pu_lss ?_ | refine pu_leq ?_ | refine pu_gtr ?_ | refine pu_geq ?_ | refine pu_add ?_ | refine pu_sub ?_ | refine pu_mul ?_ | refine pu_neg ?_ | refine fa_at ?_ | refine nl_ptr ?_ | refine ex20 ?_ | refine ex21 ?_ | refine ex30 ?_ | refine ex31 ?_ | refine ex32 ?_ | refine ln_rule ?_ | refine lnT_rule ?_ | refine pu_and ?_ | refine pu_or ?_ | refine pu_xor ?_ | refine pu_seq ?_ | refine pu_sne ?_)
      refine cnd_f rfl ?_
      repeat (first | refine pu_not ?_ | refine pu_eql ?_ | refine pu_neq ?_ | refine pu_lss ?_ | refine pu_leq ?_ | refine pu_gtr ?_ | refine pu_geq ?_ | refine pu_add ?_ | refine pu_sub ?_ | refine pu_mul ?_ | refine pu_neg ?_ | refine fa_at ?_ | refine nl_ptr ?_ | refine ex20 ?_ | refine ex21 ?_ | refine ex30 ?_ | refine ex31 ?_ | refine ex32 ?_ | refine ln_rule ?_ | refine lnT_rule ?_ | refine pu_and ?_ | refine pu_or ?_ | refine pu_xor ?_ | refine pu_seq ?_ | refine pu_sne ?_)
      rw [wrap64_in (by omega) (by omega)]
      exact ⟨⟨i + 1, X', rfl, hlt, hj3, h3⟩, by simp; omega⟩
    · repeat (first | refine pu_not ?_ | refine pu_eql ?_ | refine pu_neq ?_ | refine pu_lss ?_ | refine pu_leq ?_ | refine pu_gtr ?_ | refine pu_geq ?_ | refine pu_add ?_ | refine pu_sub ?_ | refine pu_mul ?_ | refine pu_neg ?_ | refine fa_at ?_ | refine nl_ptr ?_ | refine ex20 ?_ | refine ex21 ?_ | refine ex30 ?_ | refine ex31 ?_ | refine ex32 ?_ | refine ln_rule ?_ | refine lnT_rule ?_ | refine pu_and ?_ | refine pu_or ?_ | refine pu_xor ?_ | refine pu_seq ?_ | refine pu_sne ?_)
      refine cnd_t rfl ?_
      exact he _ X' w3 h3 (.inr hz3)
  · obtain rfl : i = l.length := by simp at hlt; omega
    refine he _ X w2 h2 (.inl (by simpa [valL] using hj))
theorem folded_spec {b s : Nat} {m : Int} {v : Value} {l : List Nat} {x : Nat} (h : Ow B w H) (hm : (b, dg s m) ∈ H) (hs : Sl H v (bv l)) (hb : Byt l) (hlen : l.length < 2 ^ 62) (hx : x < 18446744073709551616)
    (k : ∀ w', Ow B w' H → K (v64 (fold x l)) w') : callW PG N.digest_folded_uint64_byte [v64 x, v, .func (.func N.digest_table_step) #[ptr b] #[]] K PK w := by
  refine digest_folded_uint64_byte.ok ?_
  unfold digest_folded_uint64_byte.C
  refine al_rule h (l := [v64 x]) rfl (fun b2 w1 h1 => ?_)
  refine al_rule h1 (l := [.func (.func N.digest_table_step) #[ptr b] #[]]) rfl (fun b4 w2 h2 => ?_)
  refine slices_Values_sl_byte_byte.ok ?_
  unfold slices_Values_sl_byte_byte.C
  refine al_rule h2 (l := [v]) (sl_cells hs) (fun b5 w3 h3 => ?_)
  have h3 : Ow B w3 ((b2, cel [v64 x] T.t_uint64) :: (b5, cel [v] T.t_sl_uint8) :: (b4, cel [.func (.func N.digest_table_step) #[ptr b] #[]] T.t_func_uint64_uint8_uint64) :: H) := h3.perm (List.perm_middle (l₁ := [_, _]))
  refine range_fn (X := [(b2, cel [v64 x] T.t_uint64)]) (H := (b5, cel [v] T.t_sl_uint8) :: (b4, cel [.func (.func N.digest_table_step) #[ptr b] #[]] T.t_func_uint64_uint8_uint64) :: H) (A := digest_folded_uint64_byte.note) (fuel := 400) mixed
    (val_seq (.head _) hs.cons.cons hlen) (by simp) (fun a ha => ?_) h3 (fun i Y => Y = [(b2, cel [v64 (fold x (l.take i))] T.t_uint64)]) (fun _ _ => False) rfl ?_ ?_ ?_
  · obtain ⟨i, hi⟩ := List.getElem?_of_mem ha
    obtain ⟨c, _, rfl⟩ := valL_of hi
    rfl
  · rintro lp r n args Y F R w4 hL rfl hF h4 k1 k2 u
    obtain ⟨c, hc, rfl⟩ := valL_of hL
    have hc8 := hb.at hc
    refine Eq.mpr (digest_folded_uint64_byte.Rd0_eq lp R _ _ _ w4 u) ?_
    unfold digest_folded_uint64_byte.Rd0
    refine rbeg h4 (fun w5 h5 => ?_)
    refine ld_here h5 (.tail _ (.tail _ (hF _ (.tail _ (.head _))))) rfl ?_
    refine ld_here h5 (.tail _ (.head _)) rfl ?_
    refine callV_fn digest_table_step.okf ?_
    refine tstep_spec (b := b) h5 (.tail _ (.tail _ (hF _ (.tail _ (.tail _ hm))))) (fold_lt _ hx (hb.take _)) hc8 (fun w6 h6 => ?_)
    refine st1_here (A := [_]) h6 rfl rfl (by simp) (fun w7 h7 => ?_)
    have e : fold x (l.take (n + 1)) = st (fold x (l.take n)) c := by
      rw [List.take_add_one, hc, Option.toList, fold_app]; rfl
    refine rend_go h7 (fun w8 h8 => k1 [(b2, cel [v64 (fold x (l.take (n + 1)))] T.t_uint64)] w8 rfl ?_)
    rw [e]
    exact h8
  · rintro mk Y w4 rfl h4
    have e : (valL l).length = l.length := by simp [valL]
    rw [e, List.take_length] at h4
    refine ld_here h4 (.tail _ (.head _)) rfl ?_
    refine lv_ret h4 (fun w8 h8 => ?_)
    exact k _ (h8.sub (.cons _ (.cons _ (.cons _ (.refl _)))))
  · rintro _ _ _ _ hz
    exact hz.elim
end
end Go.Proofs.YtkkkcafkepnecaaGreat.Im

/-! Digests: Of. -/
set_option linter.unusedVariables false
set_option linter.unusedSimpArgs false
namespace Go.Proofs.YtkkkcafkepnecaaGreat.Im
open Go Go.RowKit Vc Oc Dg
attribute [local irreducible] binV Op.unary convert nlW faW ldS ldW ixS ixA ixV ixT exW lnS lnT pu stW alW opW opU bsW mkW dgC tabV

section
variable {B w : World} {H : Hp} {K : Value → World → Prop} {PK : List PanicEntry → World → Prop}
/-- Slices of bytes. -/
def FA (H : Hp) : List Value → List (List Nat) → Prop
  | [], [] => True
  | v :: vs, l :: ls => (Sl H v (bv l) ∧ Byt l) ∧ FA H vs ls
  | _, _ => False
theorem FA.mono {H' : Hp} (hs : ∀ x, x ∈ H → x ∈ H') : ∀ {vs : List Value} {ls : List (List Nat)}, FA H vs ls → FA H' vs ls
  | [], [], _ => trivial
  | v :: vs, l :: ls, h => ⟨⟨h.1.1.mono hs, h.1.2⟩, h.2.mono hs⟩
  | [], _ :: _, h => h.elim
  | _ :: _, [], h => h.elim
theorem FA.len : ∀ {vs : List Value} {ls : List (List Nat)}, FA H vs ls → vs.length = ls.length
  | [], [], _ => rfl
  | v :: vs, l :: ls, h => by simp [h.2.len]
  | [], _ :: _, h => h.elim
  | _ :: _, [], h => h.elim
theorem FA.at : ∀ {vs : List Value} {ls : List (List Nat)} {i : Nat}, FA H vs ls → i < ls.length → ∃ v l, vs[i]? = some v ∧ ls[i]? = some l ∧ Sl H v (bv l) ∧ Byt l
  | [], [], i, _, hi => absurd hi (by simp)
  | v :: vs, l :: ls, 0, h, _ => ⟨v, l, rfl, rfl, h.1.1, h.1.2⟩
  | v :: vs, l :: ls, i + 1, h, hi => by
    obtain ⟨v', l', h1, h2, h3⟩ := FA.at (i := i) h.2 (by simpa using hi)
    exact ⟨v', l', h1, h2, h3⟩
  | [], _ :: _, _, h, _ => h.elim
  | _ :: _, [], _, h, _ => h.elim
def Wr (H : Hp) (x : Value) (ls : List (List Nat)) : Prop := ∃ vs, Sl H x vs ∧ FA H vs ls
theorem Wr.mono {H' : Hp} {x : Value} {ls : List (List Nat)} (h : Wr H x ls) (hs : ∀ x, x ∈ H → x ∈ H') : Wr H' x ls := by
  obtain ⟨vs, h1, h2⟩ := h
  exact ⟨vs, h1.mono hs, h2.mono hs⟩
section
variable {X : Hp} {v : Value} {xs : List Value}
theorem bsw1 (hv : Sl X v xs) : bsC PG T.t_sl_uint8 1 [(0, v)] = some [v].toArray := by
  obtain ⟨a, c, rfl, hc⟩ := Sl.cap hv
  clear hv hc
  generalize xs.length = n at *
  kernel_rfl
end
theorem flat_take {ls : List (List Nat)} {i : Nat} {l : List Nat} (h : ls[i]? = some l) : (ls.take (i + 1)).flatten = (ls.take i).flatten ++ l := by
  rw [List.take_add_one, h, Option.toList, List.flatten_append]; simp
theorem flat_le (ls : List (List Nat)) (i : Nat) : (ls.take i).flatten.length ≤ ls.flatten.length := by
  conv => rhs; rw [← List.take_append_drop i ls, List.flatten_append, List.length_append]
  omega
theorem flat_byt {ls : List (List Nat)} {vs : List Value} (h : FA H vs ls) : Byt ls.flatten := by
  intro x hx
  obtain ⟨l, hl, hxl⟩ := List.mem_flatten.1 hx
  obtain ⟨i, hi, rfl⟩ := List.getElem_of_mem hl
  obtain ⟨v, l, _, h2, _, h3⟩ := h.at hi
  rw [List.getElem?_eq_getElem hi] at h2
  cases h2
  exact h3 x hxl
theorem write_spec {A C X0 : Hp} {b s : Nat} {m : Int} {x : Value} {ls : List (List Nat)} (h : Ow B w (A ++ (b, dg s m) :: C)) (hs : s < 18446744073709551616) (hW : Wr X0 x ls) (hX : ∀ y, y ∈ X0 → y ∈ A ++ C) (hm : 0 ≤ m)
    (htot : m + ls.flatten.length < 2 ^ 61) (hll : ls.length < 2 ^ 61) (k : ∀ w', Ow B w' (A ++ (b, dg (fold s ls.flatten) (m + ls.flatten.length)) :: C) → K (vI 0) w') : callW PG N.digest_Digest_Write [ptr b, x] K PK w := by
  obtain ⟨vs, hx, hfa⟩ := hW
  have hbyt := flat_byt hfa
  have hvl := hfa.len
  have hmem : ∀ {q : Obj}, ∀ y, y ∈ X0 → y ∈ A ++ (b, q) :: C := fun y hy => by
    rcases List.mem_append.1 (hX y hy) with h1 | h1
    · exact List.mem_append_left _ h1
    · exact List.mem_append_right _ (.tail _ h1)
  refine digest_Digest_Write.ok ?_
  unfold digest_Digest_Write.C
  refine dnone_spec (dp_of (List.mem_append_right _ (.head _))) h (fun w1 h1 => ?_)
  refine cnd_f rfl ?_
  refine sl_ln hx ?_
  refine ⟨fun l' w => ∃ i : Nat, l' = [vI i] ∧ i ≤ ls.length ∧ Ow B w (A ++ (b, dg (fold s (ls.take i).flatten) (m + (ls.take i).flatten.length)) :: C), fun l' _ => match l' with | [.int _ n] => ls.length - n.toNat | _ => 0, ⟨0, rfl, Nat.zero_le _, ?_⟩, ?_⟩
  · simpa [fold] using h1
  rintro l' w2 ⟨i, rfl, hi, h2⟩ j
  repeat (first | refine pu_not ?_ | refine pu_eql ?_ | refine pu_neq ?_ | refine pu_lss ?_ | refine pu_leq ?_ | refine pu_gtr ?_ | refine pu_geq ?_ | refine pu_add ?_ | refine pu_sub ?_ | refine pu_mul ?_ | refine pu_neg ?_ | refine fa_at ?_ | refine nl_ptr ?_ | refine ex20 ?_ | refine ex21 ?_ | refine ex30 ?_ | refine ex31 ?_ | refine ex32 ?_ | refine ln_rule ?_ | refine lnT_rule ?_ | refine pu_and ?_ | refine pu_or ?_ | refine pu_xor ?_ | refine pu_seq ?_ | refine pu_sne ?_)
  refine cnd (fun hlt => ?_) (fun hlt => ?_)
  · have hlt : i < ls.length := by rw [hvl] at hlt; simpa using hlt
    obtain ⟨v, l, hv, hl, hsl, hb⟩ := hfa.at hlt
    have hfl := flat_le ls i
    have hfl1 := flat_le ls (i + 1)
    rw [flat_take hl, List.length_append] at hfl1
    have hcb : Byt (ls.take i).flatten := fun y hy => hbyt y (by
      rw [← List.take_append_drop i ls, List.flatten_append]; exact List.mem_append_left _ hy)
    have hcs := fold_lt _ hs hcb
    have e1 : fold s (ls.take (i + 1)).flatten = fold (fold s (ls.take i).flatten) l := by rw [flat_take hl, fold_app]
    have e2 : ((ls.take (i + 1)).flatten.length : Int) = ((ls.take i).flatten.length : Int) + l.length := by rw [flat_take hl, List.length_append]; omega
    refine sl_ld h2 (hx.mono hmem) (by omega) (by rw [Int.toNat_natCast]; exact hv) ?_
    generalize hcs0 : fold s (ls.take i).flatten = cs at *
    generalize hcm0 : ((ls.take i).flatten.length : Int) = cm at *
    refine ⟨fun w => Ow B w (A ++ (b, dg cs (m + cm)) :: C), h2.drew, ?_⟩
    repeat (first | refine pu_not ?_ | refine pu_eql ?_ | refine pu_neq ?_ | refine pu_lss ?_ | refine pu_leq ?_ | refine pu_gtr ?_ | refine pu_geq ?_ | refine pu_add ?_ | refine pu_sub ?_ | refine pu_mul ?_ | refine pu_neg ?_ | refine fa_at ?_ | refine nl_ptr ?_ | refine ex20 ?_ | refine ex21 ?_ | refine ex30 ?_ | refine ex31 ?_ | refine ex32 ?_ | refine ln_rule ?_ | refine lnT_rule ?_ | refine pu_and ?_ | refine pu_or ?_ | refine pu_xor ?_ | refine pu_seq ?_ | refine pu_sne ?_)
    refine lds_here (fun w h => h) (List.mem_append_right _ (.head _)) dgC_sum ?_
    repeat (first | refine pu_not ?_ | refine pu_eql ?_ | refine pu_neq ?_ | refine pu_lss ?_ | refine pu_leq ?_ | refine pu_gtr ?_ | refine pu_geq ?_ | refine pu_add ?_ | refine pu_sub ?_ | refine pu_mul ?_ | refine pu_neg ?_ | refine fa_at ?_ | refine nl_ptr ?_ | refine ex20 ?_ | refine ex21 ?_ | refine ex30 ?_ | refine ex31 ?_ | refine ex32 ?_ | refine ln_rule ?_ | refine lnT_rule ?_ | refine pu_and ?_ | refine pu_or ?_ | refine pu_xor ?_ | refine pu_seq ?_ | refine pu_sne ?_)
    refine lds_here (fun w h => h) (List.mem_append_right _ (.head _)) dgC_many ?_
    refine sl_ln hsl ?_
    rw [List.length_map]
    repeat (first | refine pu_not ?_ | refine pu_eql ?_ | refine pu_neq ?_ | refine pu_lss ?_ | refine pu_leq ?_ | refine pu_gtr ?_ | refine pu_geq ?_ | refine pu_add ?_ | refine pu_sub ?_ | refine pu_mul ?_ | refine pu_neg ?_ | refine fa_at ?_ | refine nl_ptr ?_ | refine ex20 ?_ | refine ex21 ?_ | refine ex30 ?_ | refine ex31 ?_ | refine ex32 ?_ | refine ln_rule ?_ | refine lnT_rule ?_ | refine pu_and ?_ | refine pu_or ?_ | refine pu_xor ?_ | refine pu_seq ?_ | refine pu_sne ?_)
    rw [wrap64_in (by omega) (by omega)]
    refine folded_spec (b := b) (s := cs) (m := m + cm) h2.drew (List.mem_append_right _ (.head _)) (hsl.mono hmem) hb (by omega) hcs (fun w3 h3 => ?_)
    refine ⟨h3, ?_⟩
    repeat (first | refine pu_not ?_ | refine pu_eql ?_ | refine pu_neq ?_ | refine pu_lss ?_ | refine pu_leq ?_ | refine pu_gtr ?_ | refine pu_geq ?_ | refine pu_add ?_ | refine pu_sub ?_ | refine pu_mul ?_ | refine pu_neg ?_ | refine fa_at ?_ | refine nl_ptr ?_ | refine ex20 ?_ | refine ex21 ?_ | refine ex30 ?_ | refine ex31 ?_ | refine ex32 ?_ | refine ln_rule ?_ | refine lnT_rule ?_ | refine pu_and ?_ | refine pu_or ?_ | refine pu_xor ?_ | refine pu_seq ?_ | refine pu_sne ?_)
    refine st1_here h3 rfl rfl (by rw [dgC_len]; omega) (fun w4 h4 => ?_)
    have h4 : Ow B w4 (A ++ (b, cel ((dgC cs (m + cm) true).set 256 (v64 (fold cs l))) T.t_digest_Digest) :: C) := h4
    rw [dgC_set_sum] at h4
    repeat (first | refine pu_not ?_ | refine pu_eql ?_ | refine pu_neq ?_ | refine pu_lss ?_ | refine pu_leq ?_ | refine pu_gtr ?_ | refine pu_geq ?_ | refine pu_add ?_ | refine pu_sub ?_ | refine pu_mul ?_ | refine pu_neg ?_ | refine fa_at ?_ | refine nl_ptr ?_ | refine ex20 ?_ | refine ex21 ?_ | refine ex30 ?_ | refine ex31 ?_ | refine ex32 ?_ | refine ln_rule ?_ | refine lnT_rule ?_ | refine pu_and ?_ | refine pu_or ?_ | refine pu_xor ?_ | refine pu_seq ?_ | refine pu_sne ?_)
    refine st1_here h4 rfl rfl (by rw [dgC_len]; omega) (fun w5 h5 => ?_)
    have h5 : Ow B w5 (A ++ (b, cel ((dgC (fold cs l) (m + cm) true).set 257 (vI (m + cm + l.length))) T.t_digest_Digest) :: C) := h5
    rw [dgC_set_many] at h5
    repeat (first | refine pu_not ?_ | refine pu_eql ?_ | refine pu_neq ?_ | refine pu_lss ?_ | refine pu_leq ?_ | refine pu_gtr ?_ | refine pu_geq ?_ | refine pu_add ?_ | refine pu_sub ?_ | refine pu_mul ?_ | refine pu_neg ?_ | refine fa_at ?_ | refine nl_ptr ?_ | refine ex20 ?_ | refine ex21 ?_ | refine ex30 ?_ | refine ex31 ?_ | refine ex32 ?_ | refine ln_rule ?_ | refine lnT_rule ?_ | refine pu_and ?_ | refine pu_or ?_ | refine pu_xor ?_ | refine pu_seq ?_ | refine pu_sne ?_)
    rw [wrap64_in (by omega) (by omega)]
    refine ⟨⟨i + 1, rfl, hlt, ?_⟩, by simp; omega⟩
    rw [e1, e2, ← Int.add_assoc]
    exact h5
  · obtain rfl : i = ls.length := by rw [hvl] at hlt; simp at hlt; omega
    rw [List.take_length] at h2
    exact k _ h2
theorem dsum_spec {b s : Nat} {m : Int} (h : Ow B w H) (hm : (b, dg s m) ∈ H) (hs : s < 18446744073709551616) (k : ∀ w', Ow B w' H → K (v64 (nt s)) w') : callW PG N.digest_Digest_Sum [ptr b] K PK w := by
  refine digest_Digest_Sum.ok ?_
  unfold digest_Digest_Sum.C
  refine dnone_spec (dp_of hm) h (fun w1 h1 => ?_)
  refine cnd_f rfl ?_
  repeat (first | refine pu_not ?_ | refine pu_eql ?_ | refine pu_neq ?_ | refine pu_lss ?_ | refine pu_leq ?_ | refine pu_gtr ?_ | refine pu_geq ?_ | refine pu_add ?_ | refine pu_sub ?_ | refine pu_mul ?_ | refine pu_neg ?_ | refine fa_at ?_ | refine nl_ptr ?_ | refine ex20 ?_ | refine ex21 ?_ | refine ex30 ?_ | refine ex31 ?_ | refine ex32 ?_ | refine ln_rule ?_ | refine lnT_rule ?_ | refine pu_and ?_ | refine pu_or ?_ | refine pu_xor ?_ | refine pu_seq ?_ | refine pu_sne ?_)
  refine ld_here h1 hm dgC_sum ?_
  refine not64 hs ?_
  exact k _ h1
theorem dof_spec {x : Value} {X0 : Hp} {ls : List (List Nat)} (h : Ow B w H) (hW : Wr X0 x ls) (hX : ∀ y, y ∈ X0 → y ∈ H) (htot : ls.flatten.length < 2 ^ 60) (hll : ls.length < 2 ^ 61) (k : ∀ w', Ow B w' H → K (v64 (sum ls.flatten)) w') :
    callW PG N.digest_Of [x] K PK w := by
  refine digest_Of.ok ?_
  unfold digest_Of.C
  refine dnew_spec h (fun b w1 h1 => ?_)
  refine write_spec (A := []) h1 (by decide) hW hX (by omega) (by omega) hll (fun w2 h2 => ?_)
  obtain ⟨vs, _, hfa⟩ := hW
  refine dsum_spec h2 (.head _) (fold_lt _ (by decide) (flat_byt hfa)) (fun w3 h3 => ?_)
  exact k _ h3.drop
end
end Go.Proofs.YtkkkcafkepnecaaGreat.Im

