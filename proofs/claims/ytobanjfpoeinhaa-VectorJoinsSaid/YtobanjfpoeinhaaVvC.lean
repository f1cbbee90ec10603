/- Contracts of package vector and its reference. -/
import Derived.Test.YtobanjfpoeinhaaVvB
set_option linter.unusedVariables false
set_option linter.unusedSimpArgs false
namespace Go.Proofs.Ytobanjfpoeinhaa
open Go Go.RowKit Vc Vx
attribute [local irreducible] binV Op.unary convert nlW faW ldS ldW ixS ixA ixV ixT exW lnS lnT pu stW alW opW opU bsW mkW

section
variable {B w : World} {H : Hp} {K : Value → World → Prop} {PK : List PanicEntry → World → Prop}
abbrev Cl (H : Hp) (v : Value) (l : List Nat) : Prop := Sl H v (qv l)
theorem Sl.cap {s : Value} {xs : List Value} (hs : Sl H s xs) : ∃ a c, s = .slice a xs.length c ∧ xs.length ≤ c := by
  obtain ⟨a, c, he, hc, _⟩ := hs
  exact ⟨a, c, he, hc⟩
section
variable {X : Hp} {s : Value} {xs : List Value} {KK : Value → Prop} {l h m : Int}
theorem cutH (hs : Sl X s xs) (h0 : 0 ≤ h) (h3 : h ≤ xs.length) (k : ∀ c : Nat, h ≤ c → KK (cut s 0 h.toNat c)) : pu PG (Instr.sliceAt T.t_api_Clock s none (some (vI h)) none) KK := by
  obtain ⟨a, c, rfl, hc⟩ := Sl.cap hs
  exact pu_cutH und_clk one_u64 h0 (by omega) (k c (by omega))
theorem cutH2 (hs : Sl X s xs) (h0 : 0 ≤ h) (h3 : h ≤ xs.length) (k : ∀ c : Nat, xs.length ≤ c → KK (cut s 0 h.toNat c)) : pu PG (Instr.sliceAt T.t_api_Clock s none (some (vI h)) none) KK := by
  obtain ⟨a, c, rfl, hc⟩ := Sl.cap hs
  exact pu_cutH und_clk one_u64 h0 (by omega) (k c hc)
theorem cut0 {q : Value} {a : Option Addr} {n0 c0 : Nat} (hq : q = .slice a n0 c0) (n c : Nat) : cut q 0 n c = .slice a n c := by
  subst hq
  unfold cut
  cases a <;> simp [Addr.add]
/-- A part, and one more behind it. -/
theorem recut {n c : Nat} (hs : Sl X s xs) (hn : n < xs.length) (hc : xs.length ≤ c) (k : ∀ u, Sl X u (xs.take (n + 1)) → KK u) : pu PG (Instr.sliceAt T.t_api_Clock (cut s 0 n c) none (some (vI ((n : Int) + 1))) none) KK := by
  obtain ⟨a, c0, hq, _⟩ := Sl.cap hs
  rw [cut0 hq]
  refine pu_cutH und_clk one_u64 (by omega) (by omega) ?_
  have h2 := sl_cut (l := 0) (h := n + 1) (m := c) hs (by omega) (by omega) (by omega)
  rw [List.drop_zero, cut0 hq] at h2
  rw [cut0 rfl, show ((n : Int) + 1).toNat = n + 1 by omega]
  exact k _ h2
theorem bldU (hs : Sl X s xs) (k : KK (.agg #[s])) : pu PG (Instr.build T.t_vector_under #[(0, s)]) KK := by
  obtain ⟨a, c, rfl, hc⟩ := Sl.cap hs
  clear hs hc
  generalize xs.length = n at *
  exact pu_build [.slice a n c] (by kernel_rfl) k
end
theorem of_spec {s : Value} {xs : List Value} (h : Ow B w H) (hs : Sl H s xs) (k : ∀ w', Ow B w' H → K (.agg #[s]) w') : callW PG N.vector_of [s] K PK w := by
  refine vector_of.ok ?_
  unfold vector_of.C
  refine al_rule h (l := [.slice none 0 0]) (by kernel_rfl) (fun b w1 h1 => ?_)
  refine bldU hs ?_
  refine st1s (A := []) h1 (sl_plain hs) (fun w2 h2 => ?_)
  refine ld1 h2 (.head _) ?_
  exact k _ h2.drop
theorem at_spec {s : Value} {l : List Nat} {id : Int} (h : Ow B w H) (hs : Cl H s l) (k : K (v64 (gi l id)) w) : callW PG N.vector_clocks_at [s, vI id] K PK w := by
  refine vector_clocks_at.ok ?_
  unfold vector_clocks_at.C
  repeat (first | refine pu_not ?_ | refine pu_eql ?_ | refine pu_neq ?_ | refine pu_lss ?_ | refine pu_leq ?_ | refine pu_gtr ?_ | refine pu_geq ?_ | refine pu_add ?_ | refine pu_sub ?_ | refine pu_mul ?_ | refine pu_neg ?_ | refine fa_at ?_ | refine nl_ptr ?_ | refine ex20 ?_ | refine ex21 ?_ | refine ex30 ?_ | refine ex31 ?_ | refine ex32 ?_ | refine ln_rule ?_ | refine lnT_rule ?_ | refine pu_and ?_ | refine pu_or ?_ | refine pu_xor ?_ | refine pu_seq ?_ | refine pu_sne ?_)
  refine cnd (fun hlt => ?_) (fun hge => ?_)
  · have e : gi l id = 0 := by unfold gi; rw [if_pos (by simpa using hlt)]
    rw [e] at k; exact k
  · have h0 : 0 ≤ id := by simp at hge; omega
    have e : gi l id = gt l id.toNat := by unfold gi; rw [if_neg (by omega)]
    rw [e] at k
    refine sl_ln hs ?_
    rw [List.length_map]
    repeat (first | refine pu_not ?_ | refine pu_eql ?_ | refine pu_neq ?_ | refine pu_lss ?_ | refine pu_leq ?_ | refine pu_gtr ?_ | refine pu_geq ?_ | refine pu_add ?_ | refine pu_sub ?_ | refine pu_mul ?_ | refine pu_neg ?_ | refine fa_at ?_ | refine nl_ptr ?_ | refine ex20 ?_ | refine ex21 ?_ | refine ex30 ?_ | refine ex31 ?_ | refine ex32 ?_ | refine ln_rule ?_ | refine lnT_rule ?_ | refine pu_and ?_ | refine pu_or ?_ | refine pu_xor ?_ | refine pu_seq ?_ | refine pu_sne ?_)
    refine cnd (fun hlt => ?_) (fun hlt => ?_)
    · rw [gt_none (by simp at hlt; omega)] at k; exact k
    · exact sl_ld h hs h0 (qv_at (by simp at hlt; omega)) k
theorem get_spec {s : Value} {l : List Nat} {id : Int} (h : Ow B w H) (hs : Cl H s l) (k : ∀ w', Ow B w' H → K (v64 (gi l id)) w') : callW PG N.vector_Get [s, vI id] K PK w := by
  refine vector_Get.ok ?_
  unfold vector_Get.C
  refine of_spec h hs (fun w1 h1 => ?_)
  refine pt_at (l := [s]) rfl ?_
  exact at_spec h1 hs (k _ h1)
theorem rget_spec {s : Value} {l : List Nat} {id : Int} (h : Ow B w H) (hs : Cl H s l) (k : K (v64 (gi l id)) w) : callW PG N.linesmanref04_Get [s, vI id] K PK w := by
  refine linesmanref04_Get.ok ?_
  unfold linesmanref04_Get.C
  repeat (first | refine pu_not ?_ | refine pu_eql ?_ | refine pu_neq ?_ | refine pu_lss ?_ | refine pu_leq ?_ | refine pu_gtr ?_ | refine pu_geq ?_ | refine pu_add ?_ | refine pu_sub ?_ | refine pu_mul ?_ | refine pu_neg ?_ | refine fa_at ?_ | refine nl_ptr ?_ | refine ex20 ?_ | refine ex21 ?_ | refine ex30 ?_ | refine ex31 ?_ | refine ex32 ?_ | refine ln_rule ?_ | refine lnT_rule ?_ | refine pu_and ?_ | refine pu_or ?_ | refine pu_xor ?_ | refine pu_seq ?_ | refine pu_sne ?_)
  refine cnd (fun hlt => ?_) (fun hge => ?_)
  · have e : gi l id = 0 := by unfold gi; rw [if_pos (by simpa using hlt)]
    rw [e] at k; exact k
  · have h0 : 0 ≤ id := by simp at hge; omega
    have e : gi l id = gt l id.toNat := by unfold gi; rw [if_neg (by omega)]
    rw [e] at k
    refine sl_ln hs ?_
    rw [List.length_map]
    repeat (first | refine pu_not ?_ | refine pu_eql ?_ | refine pu_neq ?_ | refine pu_lss ?_ | refine pu_leq ?_ | refine pu_gtr ?_ | refine pu_geq ?_ | refine pu_add ?_ | refine pu_sub ?_ | refine pu_mul ?_ | refine pu_neg ?_ | refine fa_at ?_ | refine nl_ptr ?_ | refine ex20 ?_ | refine ex21 ?_ | refine ex30 ?_ | refine ex31 ?_ | refine ex32 ?_ | refine ln_rule ?_ | refine lnT_rule ?_ | refine pu_and ?_ | refine pu_or ?_ | refine pu_xor ?_ | refine pu_seq ?_ | refine pu_sne ?_)
    refine cnd (fun hlt => ?_) (fun hlt => ?_)
    · rw [gt_none (by simp at hlt; omega)] at k; exact k
    · exact sl_ld h hs h0 (qv_at (by simp at hlt; omega)) k
theorem gi_nat (l : List Nat) (i : Nat) : gi l (i : Int) = gt l i := by unfold gi; rw [if_neg (by omega), Int.toNat_natCast]
theorem upTo_spec {s t : Value} {a b : List Nat} (h : Ow B w H) (hs : Cl H s a) (ht : Cl H t b) (ha : a.length < 2 ^ 62) (k : ∀ w', Ow B w' H → K (vB (upTo a b)) w') : callW PG N.vector_under_upTo [.agg #[s], t] K PK w := by
  refine vector_under_upTo.ok ?_
  unfold vector_under_upTo.C
  refine al_rule h (l := [s]) rfl (fun q w1 h1 => ?_)
  repeat (first | refine pu_not ?_ | refine pu_eql ?_ | refine pu_neq ?_ | refine pu_lss ?_ | refine pu_leq ?_ | refine pu_gtr ?_ | refine pu_geq ?_ | refine pu_add ?_ | refine pu_sub ?_ | refine pu_mul ?_ | refine pu_neg ?_ | refine fa_at ?_ | refine nl_ptr ?_ | refine ex20 ?_ | refine ex21 ?_ | refine ex30 ?_ | refine ex31 ?_ | refine ex32 ?_ | refine ln_rule ?_ | refine lnT_rule ?_ | refine pu_and ?_ | refine pu_or ?_ | refine pu_xor ?_ | refine pu_seq ?_ | refine pu_sne ?_)
  refine ld_here h1 (.head _) rfl ?_
  refine sl_ln hs ?_
  rw [List.length_map]
  refine ⟨fun l' w => ∃ i : Nat, l' = [vI i] ∧ i ≤ a.length ∧ (∀ j, j < i → gt a j ≤ gt b j) ∧ Ow B w ((q, cel [s] T.t_vector_under) :: H), fun l' _ => match l' with | [.int _ n] => a.length - n.toNat | _ => 0, ⟨0, rfl, Nat.zero_le _, fun j hj => absurd hj (by omega), h1⟩, ?_⟩
  rintro l' w2 ⟨i, rfl, hi, hall, h2⟩ j
  repeat (first | refine pu_not ?_ | refine pu_eql ?_ | refine pu_neq ?_ | refine pu_lss ?_ | refine pu_leq ?_ | refine pu_gtr ?_ | refine pu_geq ?_ | refine pu_add ?_ | refine pu_sub ?_ | refine pu_mul ?_ | refine pu_neg ?_ | refine fa_at ?_ | refine nl_ptr ?_ | refine ex20 ?_ | refine ex21 ?_ | refine ex30 ?_ | refine ex31 ?_ | refine ex32 ?_ | refine ln_rule ?_ | refine lnT_rule ?_ | refine pu_and ?_ | refine pu_or ?_ | refine pu_xor ?_ | refine pu_seq ?_ | refine pu_sne ?_)
  refine cnd (fun hlt => ?_) (fun hlt => ?_)
  · have hlt : i < a.length := by simpa using hlt
    refine sl_ld h2 hs.cons (by omega) (by rw [Int.toNat_natCast]; exact qv_at hlt) ?_
    refine of_spec h2 ht.cons (fun w3 h3 => ?_)
    refine pt_at (l := [t]) rfl ?_
    refine at_spec h3 ht.cons ?_
    rw [gi_nat]
    repeat (first | refine pu_not ?_ | refine pu_eql ?_ | refine pu_neq ?_ | refine pu_lss ?_ | refine pu_leq ?_ | refine pu_gtr ?_ | refine pu_geq ?_ | refine pu_add ?_ | refine pu_sub ?_ | refine pu_mul ?_ | refine pu_neg ?_ | refine fa_at ?_ | refine nl_ptr ?_ | refine ex20 ?_ | refine ex21 ?_ | refine ex30 ?_ | refine ex31 ?_ | refine ex32 ?_ | refine ln_rule ?_ | refine lnT_rule ?_ | refine pu_and ?_ | refine pu_or ?_ | refine pu_xor ?_ | refine pu_seq ?_ | refine pu_sne ?_)
    refine cnd (fun hg => ?_) (fun hg => ?_)
    · have e : upTo a b = false := by
        unfold upTo
        rw [decide_eq_false_iff_not]
        intro hx
        have := hx i hlt
        simp at hg; omega
      rw [e] at k; exact k _ h3.drop
    · repeat (first | refine pu_not ?_ | refine pu_eql ?_ | refine pu_neq ?_ | refine pu_lss ?_ | refine pu_leq ?_ | refine pu_gtr ?_ | refine pu_geq ?_ | refine pu_add ?_ | refine pu_sub ?_ | refine pu_mul ?_ | refine pu_neg ?_ | refine fa_at ?_ | refine nl_ptr ?_ | refine ex20 ?_ | refine ex21 ?_ | refine ex30 ?_ | refine ex31 ?_ | refine ex32 ?_ | refine ln_rule ?_ | refine lnT_rule ?_ | refine pu_and ?_ | refine pu_or ?_ | refine pu_xor ?_ | refine pu_seq ?_ | refine pu_sne ?_)
      rw [wrap64_in (by omega) (by omega)]
      refine ⟨⟨i + 1, rfl, hlt, fun j hj => ?_, h3⟩, by simp; omega⟩
      rcases Nat.lt_succ_iff_lt_or_eq.1 hj with hj | rfl
      · exact hall j hj
      · simp at hg; omega
  · have e : upTo a b = true := by
      unfold upTo
      rw [decide_eq_true_eq]
      exact fun j hj => hall j (by simp at hlt; omega)
    rw [e] at k; exact k _ h2.drop
theorem rupTo_spec {s t : Value} {a b : List Nat} (h : Ow B w H) (hs : Cl H s a) (ht : Cl H t b) (ha : a.length < 2 ^ 62) (k : ∀ w', Ow B w' H → K (vB (upTo a b)) w') : callW PG N.linesmanref04_UpTo [s, t] K PK w := by
  refine linesmanref04_UpTo.ok ?_
  unfold linesmanref04_UpTo.C
  refine ⟨fun l' w => ∃ i : Nat, l' = [vI i] ∧ i ≤ a.length ∧ (∀ j, j < i → gt a j ≤ gt b j) ∧ Ow B w H, fun l' _ => match l' with | [.int _ n] => a.length - n.toNat | _ => 0, ⟨0, rfl, Nat.zero_le _, fun j hj => absurd hj (by omega), h⟩, ?_⟩
  rintro l' w2 ⟨i, rfl, hi, hall, h2⟩ j
  refine sl_ln hs ?_
  rw [List.length_map]
  repeat (first | refine pu_not ?_ | refine pu_eql ?_ | refine pu_neq ?_ | refine pu_lss ?_ | refine pu_leq ?_ | refine pu_gtr ?_ | refine pu_geq ?_ | refine pu_add ?_ | refine pu_sub ?_ | refine pu_mul ?_ | refine pu_neg ?_ | refine fa_at ?_ | refine nl_ptr ?_ | refine ex20 ?_ | refine ex21 ?_ | refine ex30 ?_ | refine ex31 ?_ | refine ex32 ?_ | refine ln_rule ?_ | refine lnT_rule ?_ | refine pu_and ?_ | refine pu_or ?_ | refine pu_xor ?_ | refine pu_seq ?_ | refine pu_sne ?_)
  refine cnd (fun hlt => ?_) (fun hlt => ?_)
  · have hlt : i < a.length := by simpa using hlt
    refine ⟨fun w => Ow B w H, h2.drew, ?_⟩
    refine sl_lds (fun w h => h) hs (by omega) (by rw [Int.toNat_natCast]; exact qv_at hlt) ?_
    refine rget_spec h2.drew ht ?_
    refine ⟨h2.drew, ?_⟩
    rw [gi_nat]
    repeat (first | refine pu_not ?_ | refine pu_eql ?_ | refine pu_neq ?_ | refine pu_lss ?_ | refine pu_leq ?_ | refine pu_gtr ?_ | refine pu_geq ?_ | refine pu_add ?_ | refine pu_sub ?_ | refine pu_mul ?_ | refine pu_neg ?_ | refine fa_at ?_ | refine nl_ptr ?_ | refine ex20 ?_ | refine ex21 ?_ | refine ex30 ?_ | refine ex31 ?_ | refine ex32 ?_ | refine ln_rule ?_ | refine lnT_rule ?_ | refine pu_and ?_ | refine pu_or ?_ | refine pu_xor ?_ | refine pu_seq ?_ | refine pu_sne ?_)
    refine cnd (fun hg => ?_) (fun hg => ?_)
    · have e : upTo a b = false := by
        unfold upTo
        rw [decide_eq_false_iff_not]
        intro hx
        have := hx i hlt
        simp at hg; omega
      rw [e] at k; exact k _ h2.drew
    · repeat (first | refine pu_not ?_ | refine pu_eql ?_ | refine pu_neq ?_ | refine pu_lss ?_ | refine pu_leq ?_ | refine pu_gtr ?_ | refine pu_geq ?_ | refine pu_add ?_ | refine pu_sub ?_ | refine pu_mul ?_ | refine pu_neg ?_ | refine fa_at ?_ | refine nl_ptr ?_ | refine ex20 ?_ | refine ex21 ?_ | refine ex30 ?_ | refine ex31 ?_ | refine ex32 ?_ | refine ln_rule ?_ | refine lnT_rule ?_ | refine pu_and ?_ | refine pu_or ?_ | refine pu_xor ?_ | refine pu_seq ?_ | refine pu_sne ?_)
      rw [wrap64_in (by omega) (by omega)]
      refine ⟨⟨i + 1, rfl, hlt, fun j hj => ?_, h2.drew⟩, by simp; omega⟩
      rcases Nat.lt_succ_iff_lt_or_eq.1 hj with hj | rfl
      · exact hall j hj
      · simp at hg; omega
  · have e : upTo a b = true := by
      unfold upTo
      rw [decide_eq_true_eq]
      exact fun j hj => hall j (by simp at hlt; omega)
    rw [e] at k; exact k _ h2
theorem equal_spec {s t : Value} {a b : List Nat} (h : Ow B w H) (hs : Cl H s a) (ht : Cl H t b) (ha : a.length < 2 ^ 62) (k : ∀ w', Ow B w' H → K (vB (decide (a = b))) w') : callW PG N.linesmanref04_Equal [s, t] K PK w := by
  have e : decide (a = b) = equalL a b := by
    by_cases he : a = b
    · rw [equal_iff.2 he]; simp [he]
    · have : equalL a b = false := by
        cases hq : equalL a b
        · rfl
        · exact absurd (equal_iff.1 hq) he
      rw [this]; simp [he]
  rw [e] at k
  unfold equalL at k
  refine linesmanref04_Equal.ok ?_
  unfold linesmanref04_Equal.C
  refine sl_ln hs ?_
  refine sl_ln ht ?_
  rw [List.length_map, List.length_map]
  repeat (first | refine pu_not ?_ | refine pu_eql ?_ | refine pu_neq ?_ | refine pu_lss ?_ | refine pu_leq ?_ | refine pu_gtr ?_ | refine pu_geq ?_ | refine pu_add ?_ | refine pu_sub ?_ | refine pu_mul ?_ | refine pu_neg ?_ | refine fa_at ?_ | refine nl_ptr ?_ | refine ex20 ?_ | refine ex21 ?_ | refine ex30 ?_ | refine ex31 ?_ | refine ex32 ?_ | refine ln_rule ?_ | refine lnT_rule ?_ | refine pu_and ?_ | refine pu_or ?_ | refine pu_xor ?_ | refine pu_seq ?_ | refine pu_sne ?_)
  refine cnd (fun hl => ?_) (fun hl => ?_)
  · have hl : a.length = b.length := by simp at hl; omega
    refine linesmanref04_Same.ok ?_
    unfold linesmanref04_Same.C
    refine rupTo_spec h hs ht ha (fun w1 h1 => ?_)
    refine cnd (fun h2 => ?_) (fun h2 => ?_)
    · refine rupTo_spec h1 ht hs (by omega) (fun w3 h3 => ?_)
      simpa [hl, h2] using k _ h3
    · simpa [hl, h2] using k _ h1
  · have hl : ¬ a.length = b.length := by simp at hl; omega
    simpa [hl] using k _ h
theorem right_small {l : List Nat} (h : l.length ≤ 65536) : right l = l.all (fun x => decide (x ≤ 281474976710655)) := by simp [right, h]
theorem rright_spec {s : Value} {l : List Nat} (h : Ow B w H) (hs : Cl H s l) (hl : l.length < 2 ^ 62) (k : ∀ w', Ow B w' H → K (vB (right l)) w') : callW PG N.linesmanref04_Right [s] K PK w := by
  refine linesmanref04_Right.ok ?_
  unfold linesmanref04_Right.C
  refine ⟨fun l' w => ∃ i : Nat, l' = [vI i] ∧ i ≤ l.length ∧ (∀ j, j < i → gt l j ≤ 281474976710655) ∧ Ow B w H, fun l' _ => match l' with | [.int _ n] => l.length - n.toNat | _ => 0, ⟨0, rfl, Nat.zero_le _, fun j hj => absurd hj (by omega), h⟩, ?_⟩
  rintro l' w2 ⟨i, rfl, hi, hall, h2⟩ j
  refine sl_ln hs ?_
  rw [List.length_map]
  repeat (first | refine pu_not ?_ | refine pu_eql ?_ | refine pu_neq ?_ | refine pu_lss ?_ | refine pu_leq ?_ | refine pu_gtr ?_ | refine pu_geq ?_ | refine pu_add ?_ | refine pu_sub ?_ | refine pu_mul ?_ | refine pu_neg ?_ | refine fa_at ?_ | refine nl_ptr ?_ | refine ex20 ?_ | refine ex21 ?_ | refine ex30 ?_ | refine ex31 ?_ | refine ex32 ?_ | refine ln_rule ?_ | refine lnT_rule ?_ | refine pu_and ?_ | refine pu_or ?_ | refine pu_xor ?_ | refine pu_seq ?_ | refine pu_sne ?_)
  refine cnd (fun hlt => ?_) (fun hlt => ?_)
  · have hlt : i < l.length := by simpa using hlt
    refine sl_ld h2 hs (by omega) (by rw [Int.toNat_natCast]; exact qv_at hlt) ?_
    repeat (first | refine pu_not ?_ | refine pu_eql ?_ | refine pu_neq ?_ | refine pu_lss ?_ | refine pu_leq ?_ | refine pu_gtr ?_ | refine pu_geq ?_ | refine pu_add ?_ | refine pu_sub ?_ | refine pu_mul ?_ | refine pu_neg ?_ | refine fa_at ?_ | refine nl_ptr ?_ | refine ex20 ?_ | refine ex21 ?_ | refine ex30 ?_ | refine ex31 ?_ | refine ex32 ?_ | refine ln_rule ?_ | refine lnT_rule ?_ | refine pu_and ?_ | refine pu_or ?_ | refine pu_xor ?_ | refine pu_seq ?_ | refine pu_sne ?_)
    refine cnd (fun hg => ?_) (fun hg => ?_)
    · have e : right l = false := by
        unfold right
        have : l.all (fun x => decide (x ≤ 281474976710655)) = false := by
          rw [List.all_eq_false]
          exact ⟨gt l i, List.mem_of_getElem? (gt_some hlt), by simp at hg ⊢; omega⟩
        rw [this]; rfl
      rw [e] at k; exact k _ h2
    · repeat (first | refine pu_not ?_ | refine pu_eql ?_ | refine pu_neq ?_ | refine pu_lss ?_ | refine pu_leq ?_ | refine pu_gtr ?_ | refine pu_geq ?_ | refine pu_add ?_ | refine pu_sub ?_ | refine pu_mul ?_ | refine pu_neg ?_ | refine fa_at ?_ | refine nl_ptr ?_ | refine ex20 ?_ | refine ex21 ?_ | refine ex30 ?_ | refine ex31 ?_ | refine ex32 ?_ | refine ln_rule ?_ | refine lnT_rule ?_ | refine pu_and ?_ | refine pu_or ?_ | refine pu_xor ?_ | refine pu_seq ?_ | refine pu_sne ?_)
      rw [wrap64_in (by omega) (by omega)]
      refine ⟨⟨i + 1, rfl, hlt, fun j hj => ?_, h2⟩, by simp; omega⟩
      rcases Nat.lt_succ_iff_lt_or_eq.1 hj with hj | rfl
      · exact hall j hj
      · simp at hg; omega
  · refine sl_ln hs ?_
    rw [List.length_map]
    repeat (first | refine pu_not ?_ | refine pu_eql ?_ | refine pu_neq ?_ | refine pu_lss ?_ | refine pu_leq ?_ | refine pu_gtr ?_ | refine pu_geq ?_ | refine pu_add ?_ | refine pu_sub ?_ | refine pu_mul ?_ | refine pu_neg ?_ | refine fa_at ?_ | refine nl_ptr ?_ | refine ex20 ?_ | refine ex21 ?_ | refine ex30 ?_ | refine ex31 ?_ | refine ex32 ?_ | refine ln_rule ?_ | refine lnT_rule ?_ | refine pu_and ?_ | refine pu_or ?_ | refine pu_xor ?_ | refine pu_seq ?_ | refine pu_sne ?_)
    have e : decide ((l.length : Int) ≤ 65536) = right l := by
      unfold right
      have : l.all (fun x => decide (x ≤ 281474976710655)) = true := by
        rw [List.all_eq_true]
        intro x hx
        obtain ⟨i, hi, rfl⟩ := List.getElem_of_mem hx
        have h1 := hall i (by simp at hlt; omega)
        have h2 := gt_some hi
        rw [List.getElem?_eq_getElem hi] at h2
        rw [Option.some.inj h2]
        simpa using h1
      rw [this, Bool.true_and]
      congr 1
      simp only [eq_iff_iff]
      omega
    rw [e]; exact k _ h2
theorem check_spec {s : Value} {l : List Nat} (h : Ow B w H) (hs : Cl H s l) (hl : l.length < 2 ^ 62) (k : ∀ w', Ow B w' H → K (vI (if right l = true then 0 else 2)) w') : callW PG N.vector_Check [s] K PK w := by
  have hsp := sl_plain hs
  refine vector_Check.ok ?_
  unfold vector_Check.C
  refine of_spec h hs (fun w1 h1 => ?_)
  refine al_rule h1 (l := [.slice none 0 0]) (by kernel_rfl) (fun b w2 h2 => ?_)
  refine st1s (A := []) h2 hsp (fun w3 h3 => ?_)
  refine ld1 h3 (.head _) ?_
  refine ld1 h3 (.head _) ?_
  refine bs_rule h3 [.func (.func N.vector_under_few) #[.agg #[s]] #[], .func (.func N.vector_under_small) #[.agg #[s]] #[]] (by kernel_rfl) (fun b4 w4 h4 => ?_)
  repeat (first | refine pu_not ?_ | refine pu_eql ?_ | refine pu_neq ?_ | refine pu_lss ?_ | refine pu_leq ?_ | refine pu_gtr ?_ | refine pu_geq ?_ | refine pu_add ?_ | refine pu_sub ?_ | refine pu_mul ?_ | refine pu_neg ?_ | refine fa_at ?_ | refine nl_ptr ?_ | refine ex20 ?_ | refine ex21 ?_ | refine ex30 ?_ | refine ex31 ?_ | refine ex32 ?_ | refine ln_rule ?_ | refine lnT_rule ?_ | refine pu_and ?_ | refine pu_or ?_ | refine pu_xor ?_ | refine pu_seq ?_ | refine pu_sne ?_)
  have h4 : Ow B w4 ((b4, cel [.func (.func N.vector_under_few) #[.agg #[s]] #[], .func (.func N.vector_under_small) #[.agg #[s]] #[]] T.t_func_bool) :: (b, cel [s] T.t_vector_under) :: H) := h4
  have hsf := sl_here (b := b4) (l := [.func (.func N.vector_under_few) #[.agg #[s]] #[], .func (.func N.vector_under_small) #[.agg #[s]] #[]]) (e := T.t_func_bool) (H := (b4, cel [.func (.func N.vector_under_few) #[.agg #[s]] #[], .func (.func N.vector_under_small) #[.agg #[s]] #[]] T.t_func_bool) :: (b, cel [s] T.t_vector_under) :: H) (.head _)
  have hlast : right l = true ↔ l.length ≤ 65536 ∧ l.all (fun x => decide (x ≤ 281474976710655)) = true := by
    unfold right; rw [Bool.and_eq_true, decide_eq_true_eq]; exact And.comm
  refine ⟨fun l' w => ∃ i : Nat, l' = [vI i] ∧ i ≤ 2 ∧ (1 ≤ i → l.length ≤ 65536) ∧ (2 ≤ i → l.all (fun x => decide (x ≤ 281474976710655)) = true) ∧ Ow B w ((b4, cel [.func (.func N.vector_under_few) #[.agg #[s]] #[], .func (.func N.vector_under_small) #[.agg #[s]] #[]] T.t_func_bool) :: (b, cel [s] T.t_vector_under) :: H), fun l' _ => match l' with | [.int _ n] => 2 - n.toNat | _ => 0, ⟨0, rfl, by omega, by omega, by omega, h4⟩, ?_⟩
  rintro l' w5 ⟨i, rfl, hi, hc1, hc2, h5⟩ j
  repeat (first | refine pu_not ?_ | refine pu_eql ?_ | refine pu_neq ?_ | refine pu_lss ?_ | refine pu_leq ?_ | refine pu_gtr ?_ | refine pu_geq ?_ | refine pu_add ?_ | refine pu_sub ?_ | refine pu_mul ?_ | refine pu_neg ?_ | refine fa_at ?_ | refine nl_ptr ?_ | refine ex20 ?_ | refine ex21 ?_ | refine ex30 ?_ | refine ex31 ?_ | refine ex32 ?_ | refine ln_rule ?_ | refine lnT_rule ?_ | refine pu_and ?_ | refine pu_or ?_ | refine pu_xor ?_ | refine pu_seq ?_ | refine pu_sne ?_)
  refine cnd (fun hlt => ?_) (fun hlt => ?_)
  · have hlt : i < 2 := by simp at hlt; omega
    rcases (show i = 0 ∨ i = 1 by omega) with rfl | rfl
    · refine sl_ld h5 hsf (by omega) rfl ?_
      refine callV_fn vector_under_few.okf ?_
      refine vector_under_few.ok ?_
      unfold vector_under_few.C
      refine al_rule h5 (l := [s]) rfl (fun b6 w6 h6 => ?_)
      repeat (first | refine pu_not ?_ | refine pu_eql ?_ | refine pu_neq ?_ | refine pu_lss ?_ | refine pu_leq ?_ | refine pu_gtr ?_ | refine pu_geq ?_ | refine pu_add ?_ | refine pu_sub ?_ | refine pu_mul ?_ | refine pu_neg ?_ | refine fa_at ?_ | refine nl_ptr ?_ | refine ex20 ?_ | refine ex21 ?_ | refine ex30 ?_ | refine ex31 ?_ | refine ex32 ?_ | refine ln_rule ?_ | refine lnT_rule ?_ | refine pu_and ?_ | refine pu_or ?_ | refine pu_xor ?_ | refine pu_seq ?_ | refine pu_sne ?_)
      refine ld_here h6 (.head _) rfl ?_
      refine sl_ln hs ?_
      rw [List.length_map]
      repeat (first | refine pu_not ?_ | refine pu_eql ?_ | refine pu_neq ?_ | refine pu_lss ?_ | refine pu_leq ?_ | refine pu_gtr ?_ | refine pu_geq ?_ | refine pu_add ?_ | refine pu_sub ?_ | refine pu_mul ?_ | refine pu_neg ?_ | refine fa_at ?_ | refine nl_ptr ?_ | refine ex20 ?_ | refine ex21 ?_ | refine ex30 ?_ | refine ex31 ?_ | refine ex32 ?_ | refine ln_rule ?_ | refine lnT_rule ?_ | refine pu_and ?_ | refine pu_or ?_ | refine pu_xor ?_ | refine pu_seq ?_ | refine pu_sne ?_)
      refine cnd (fun hb => ?_) (fun hb => ?_)
      · rw [if_neg (by rw [hlast]; simp at hb; omega)] at k
        exact k _ h6.drop.drop.drop
      · repeat (first | refine pu_not ?_ | refine pu_eql ?_ | refine pu_neq ?_ | refine pu_lss ?_ | refine pu_leq ?_ | refine pu_gtr ?_ | refine pu_geq ?_ | refine pu_add ?_ | refine pu_sub ?_ | refine pu_mul ?_ | refine pu_neg ?_ | refine fa_at ?_ | refine nl_ptr ?_ | refine ex20 ?_ | refine ex21 ?_ | refine ex30 ?_ | refine ex31 ?_ | refine ex32 ?_ | refine ln_rule ?_ | refine lnT_rule ?_ | refine pu_and ?_ | refine pu_or ?_ | refine pu_xor ?_ | refine pu_seq ?_ | refine pu_sne ?_)
        rw [wrap64_in (by omega) (by omega)]
        exact ⟨⟨1, rfl, by omega, fun _ => by simp at hb; omega, by omega, h6.drop⟩, by simp⟩
    · refine sl_ld h5 hsf (by omega) rfl ?_
      refine callV_fn vector_under_small.okf ?_
      refine vector_under_small.ok ?_
      unfold vector_under_small.C
      refine al_rule h5 (l := [s]) rfl (fun b6 w6 h6 => ?_)
      repeat (first | refine pu_not ?_ | refine pu_eql ?_ | refine pu_neq ?_ | refine pu_lss ?_ | refine pu_leq ?_ | refine pu_gtr ?_ | refine pu_geq ?_ | refine pu_add ?_ | refine pu_sub ?_ | refine pu_mul ?_ | refine pu_neg ?_ | refine fa_at ?_ | refine nl_ptr ?_ | refine ex20 ?_ | refine ex21 ?_ | refine ex30 ?_ | refine ex31 ?_ | refine ex32 ?_ | refine ln_rule ?_ | refine lnT_rule ?_ | refine pu_and ?_ | refine pu_or ?_ | refine pu_xor ?_ | refine pu_seq ?_ | refine pu_sne ?_)
      refine ld_here h6 (.head _) rfl ?_
      refine slices_ContainsFunc_vector_clocks_uint64.ok ?_
      unfold slices_ContainsFunc_vector_clocks_uint64.C
      refine slices_IndexFunc_vector_clocks_uint64.ok ?_
      unfold slices_IndexFunc_vector_clocks_uint64.C
      refine sl_ln hs ?_
      rw [List.length_map]
      refine ⟨fun l' w => ∃ i : Nat, l' = [vI i] ∧ i ≤ l.length ∧ (∀ j, j < i → gt l j ≤ 281474976710655) ∧ Ow B w ((b6, cel [s] T.t_vector_under) :: (b4, cel [.func (.func N.vector_under_few) #[.agg #[s]] #[], .func (.func N.vector_under_small) #[.agg #[s]] #[]] T.t_func_bool) :: (b, cel [s] T.t_vector_under) :: H), fun l' _ => match l' with | [.int _ n] => l.length - n.toNat | _ => 0, ⟨0, rfl, Nat.zero_le _, fun j hj => absurd hj (by omega), h6⟩, ?_⟩
      rintro l' w7 ⟨i, rfl, hi, hall, h7⟩ j2
      repeat (first | refine pu_not ?_ | refine pu_eql ?_ | refine pu_neq ?_ | refine pu_lss ?_ | refine pu_leq ?_ | refine pu_gtr ?_ | refine pu_geq ?_ | refine pu_add ?_ | refine pu_sub ?_ | refine pu_mul ?_ | refine pu_neg ?_ | refine fa_at ?_ | refine nl_ptr ?_ | refine ex20 ?_ | refine ex21 ?_ | refine ex30 ?_ | refine ex31 ?_ | refine ex32 ?_ | refine ln_rule ?_ | refine lnT_rule ?_ | refine pu_and ?_ | refine pu_or ?_ | refine pu_xor ?_ | refine pu_seq ?_ | refine pu_sne ?_)
      refine cnd (fun hlt2 => ?_) (fun hlt2 => ?_)
      · have hlt2 : i < l.length := by simpa using hlt2
        refine sl_ld h7 hs.cons.cons.cons (by omega) (by rw [Int.toNat_natCast]; exact qv_at hlt2) ?_
        refine callV_fn vector_under_small_1.okf ?_
        refine vector_under_small_1.ok ?_
        unfold vector_under_small_1.C
        repeat (first | refine pu_not ?_ | refine pu_eql ?_ | refine pu_neq ?_ | refine pu_lss ?_ | refine pu_leq ?_ | refine pu_gtr ?_ | refine pu_geq ?_ | refine pu_add ?_ | refine pu_sub ?_ | refine pu_mul ?_ | refine pu_neg ?_ | refine fa_at ?_ | refine nl_ptr ?_ | refine ex20 ?_ | refine ex21 ?_ | refine ex30 ?_ | refine ex31 ?_ | refine ex32 ?_ | refine ln_rule ?_ | refine lnT_rule ?_ | refine pu_and ?_ | refine pu_or ?_ | refine pu_xor ?_ | refine pu_seq ?_ | refine pu_sne ?_)
        refine cnd (fun hg => ?_) (fun hg => ?_)
        · have e : l.all (fun x => decide (x ≤ 281474976710655)) = false := by
            rw [List.all_eq_false]
            exact ⟨gt l i, List.mem_of_getElem? (gt_some hlt2), by simp at hg ⊢; omega⟩
          rw [if_neg (by rw [hlast, e]; simp)] at k
          repeat (first | refine pu_not ?_ | refine pu_eql ?_ | refine pu_neq ?_ | refine pu_lss ?_ | refine pu_leq ?_ | refine pu_gtr ?_ | refine pu_geq ?_ | refine pu_add ?_ | refine pu_sub ?_ | refine pu_mul ?_ | refine pu_neg ?_ | refine fa_at ?_ | refine nl_ptr ?_ | refine ex20 ?_ | refine ex21 ?_ | refine ex30 ?_ | refine ex31 ?_ | refine ex32 ?_ | refine ln_rule ?_ | refine lnT_rule ?_ | refine pu_and ?_ | refine pu_or ?_ | refine pu_xor ?_ | refine pu_seq ?_ | refine pu_sne ?_)
          refine cnd_t (by simp) ?_
          exact k _ h7.drop.drop.drop
        · repeat (first | refine pu_not ?_ | refine pu_eql ?_ | refine pu_neq ?_ | refine pu_lss ?_ | refine pu_leq ?_ | refine pu_gtr ?_ | refine pu_geq ?_ | refine pu_add ?_ | refine pu_sub ?_ | refine pu_mul ?_ | refine pu_neg ?_ | refine fa_at ?_ | refine nl_ptr ?_ | refine ex20 ?_ | refine ex21 ?_ | refine ex30 ?_ | refine ex31 ?_ | refine ex32 ?_ | refine ln_rule ?_ | refine lnT_rule ?_ | refine pu_and ?_ | refine pu_or ?_ | refine pu_xor ?_ | refine pu_seq ?_ | refine pu_sne ?_)
          rw [wrap64_in (by omega) (by omega)]
          refine ⟨⟨i + 1, rfl, hlt2, fun j hj => ?_, h7⟩, by simp; omega⟩
          rcases Nat.lt_succ_iff_lt_or_eq.1 hj with hj | rfl
          · exact hall j hj
          · simp at hg; omega
      · have e : l.all (fun x => decide (x ≤ 281474976710655)) = true := by
          rw [List.all_eq_true]
          intro x hx
          obtain ⟨i, hi, rfl⟩ := List.getElem_of_mem hx
          have h1 := hall i (by simp at hlt2; omega)
          have h2 := gt_some hi
          rw [List.getElem?_eq_getElem hi] at h2
          rw [Option.some.inj h2]
          simpa using h1
        repeat (first | refine pu_not ?_ | refine pu_eql ?_ | refine pu_neq ?_ | refine pu_lss ?_ | refine pu_leq ?_ | refine pu_gtr ?_ | refine pu_geq ?_ | refine pu_add ?_ | refine pu_sub ?_ | refine pu_mul ?_ | refine pu_neg ?_ | refine fa_at ?_ | refine nl_ptr ?_ | refine ex20 ?_ | refine ex21 ?_ | refine ex30 ?_ | refine ex31 ?_ | refine ex32 ?_ | refine ln_rule ?_ | refine lnT_rule ?_ | refine pu_and ?_ | refine pu_or ?_ | refine pu_xor ?_ | refine pu_seq ?_ | refine pu_sne ?_)
        refine cnd_f (by simp) ?_
        repeat (first | refine pu_not ?_ | refine pu_eql ?_ | refine pu_neq ?_ | refine pu_lss ?_ | refine pu_leq ?_ | refine pu_gtr ?_ | refine pu_geq ?_ | refine pu_add ?_ | refine pu_sub ?_ | refine pu_mul ?_ | refine pu_neg ?_ | refine fa_at ?_ | refine nl_ptr ?_ | refine ex20 ?_ | refine ex21 ?_ | refine ex30 ?_ | refine ex31 ?_ | refine ex32 ?_ | refine ln_rule ?_ | refine lnT_rule ?_ | refine pu_and ?_ | refine pu_or ?_ | refine pu_xor ?_ | refine pu_seq ?_ | refine pu_sne ?_)
        rw [wrap64_in (by omega) (by omega)]
        exact ⟨⟨2, rfl, by omega, fun _ => hc1 (by omega), fun _ => e, h7.drop⟩, by simp⟩
  · obtain rfl : i = 2 := by simp at hlt; omega
    rw [if_pos (hlast.2 ⟨hc1 (by omega), hc2 (by omega)⟩)] at k
    exact k _ h5.drop.drop
end
end Go.Proofs.Ytobanjfpoeinhaa
