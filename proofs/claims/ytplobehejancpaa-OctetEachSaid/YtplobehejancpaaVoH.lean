/- Contracts of package digest, second part; the laws DigestSums, DigestHolds, DigestNone, DigestPlays. -/
import Derived.Test.YtplobehejancpaaVoG
set_option linter.unusedVariables false
set_option linter.unusedSimpArgs false
namespace Go.Proofs.Ytplobehejancpaa
open Go Go.RowKit Vc Oc Dg
attribute [local irreducible] binV Op.unary convert nlW faW ldS ldW ixS ixA ixV ixT exW lnS lnT pu stW alW opW opU bsW mkW dgC tabV

section
variable {B w : World} {H : Hp} {K : Value → World → Prop} {PK : List PanicEntry → World → Prop}
/-- Slices of bytes. -/
def FA (H : Hp) : List Value → List (List Nat) → Prop
  | [], [] => True
  | v :: vs, l :: ls => (Sl H v (bv l) ∧ Byt l) ∧ FA H vs ls
  | _, _ => False
theorem FA.mono {H' : Hp} (hs : ∀ x, x ∈ H → x ∈ H') : ∀ {vs : List Value} {ls : List (List Nat)}, FA H vs ls → FA H' vs ls
  | [], [], _ => trivial
  | v :: vs, l :: ls, h => ⟨⟨h.1.1.mono hs, h.1.2⟩, h.2.mono hs⟩
  | [], _ :: _, h => h.elim
  | _ :: _, [], h => h.elim
theorem FA.len : ∀ {vs : List Value} {ls : List (List Nat)}, FA H vs ls → vs.length = ls.length
  | [], [], _ => rfl
  | v :: vs, l :: ls, h => by simp [h.2.len]
  | [], _ :: _, h => h.elim
  | _ :: _, [], h => h.elim
theorem FA.at : ∀ {vs : List Value} {ls : List (List Nat)} {i : Nat}, FA H vs ls → i < ls.length → ∃ v l, vs[i]? = some v ∧ ls[i]? = some l ∧ Sl H v (bv l) ∧ Byt l
  | [], [], i, _, hi => absurd hi (by simp)
  | v :: vs, l :: ls, 0, h, _ => ⟨v, l, rfl, rfl, h.1.1, h.1.2⟩
  | v :: vs, l :: ls, i + 1, h, hi => by
    obtain ⟨v', l', h1, h2, h3⟩ := FA.at (i := i) h.2 (by simpa using hi)
    exact ⟨v', l', h1, h2, h3⟩
  | [], _ :: _, _, h, _ => h.elim
  | _ :: _, [], _, h, _ => h.elim
def Wr (H : Hp) (x : Value) (ls : List (List Nat)) : Prop := ∃ vs, Sl H x vs ∧ FA H vs ls
theorem Wr.mono {H' : Hp} {x : Value} {ls : List (List Nat)} (h : Wr H x ls) (hs : ∀ x, x ∈ H → x ∈ H') : Wr H' x ls := by
  obtain ⟨vs, h1, h2⟩ := h
  exact ⟨vs, h1.mono hs, h2.mono hs⟩
section
variable {X : Hp} {v : Value} {xs : List Value}
theorem bsw1 (hv : Sl X v xs) : bsC PG T.t_sl_uint8 1 [(0, v)] = some [v].toArray := by
  obtain ⟨a, c, rfl, hc⟩ := Sl.cap hv
  clear hv hc
  generalize xs.length = n at *
  kernel_rfl
theorem bsw2 {v2 : Value} {ys : List Value} (hv : Sl X v xs) (hv2 : Sl X v2 ys) : bsC PG T.t_sl_uint8 2 [(0, v), (1, v2)] = some [v, v2].toArray := by
  obtain ⟨a, c, rfl, hc⟩ := Sl.cap hv
  obtain ⟨a2, c2, rfl, hc2⟩ := Sl.cap hv2
  clear hv hc hv2 hc2
  generalize xs.length = n at *
  generalize ys.length = n2 at *
  kernel_rfl
theorem bsw4 {v2 : Value} {ys : List Value} (hv : Sl X v xs) (hv2 : Sl X v2 ys) : bsC PG T.t_sl_uint8 4 [(0, (.slice none 0 0)), (1, v), (2, (.slice none 0 0)), (3, v2)] = some [.slice none 0 0, v, .slice none 0 0, v2].toArray := by
  obtain ⟨a, c, rfl, hc⟩ := Sl.cap hv
  obtain ⟨a2, c2, rfl, hc2⟩ := Sl.cap hv2
  clear hv hc hv2 hc2
  generalize xs.length = n at *
  generalize ys.length = n2 at *
  kernel_rfl
end
theorem flat_take {ls : List (List Nat)} {i : Nat} {l : List Nat} (h : ls[i]? = some l) : (ls.take (i + 1)).flatten = (ls.take i).flatten ++ l := by
  rw [List.take_add_one, h, Option.toList, List.flatten_append]; simp
theorem flat_le (ls : List (List Nat)) (i : Nat) : (ls.take i).flatten.length ≤ ls.flatten.length := by
  conv => rhs; rw [← List.take_append_drop i ls, List.flatten_append, List.length_append]
  omega
theorem flat_byt {ls : List (List Nat)} {vs : List Value} (h : FA H vs ls) : Byt ls.flatten := by
  intro x hx
  obtain ⟨l, hl, hxl⟩ := List.mem_flatten.1 hx
  obtain ⟨i, hi, rfl⟩ := List.getElem_of_mem hl
  obtain ⟨v, l, _, h2, _, h3⟩ := h.at hi
  rw [List.getElem?_eq_getElem hi] at h2
  cases h2
  exact h3 x hxl
theorem write_spec {A C X0 : Hp} {b s : Nat} {m : Int} {x : Value} {ls : List (List Nat)} (h : Ow B w (A ++ (b, dg s m) :: C)) (hs : s < 18446744073709551616) (hW : Wr X0 x ls) (hX : ∀ y, y ∈ X0 → y ∈ A ++ C) (hm : 0 ≤ m)
    (htot : m + ls.flatten.length < 2 ^ 61) (hll : ls.length < 2 ^ 61) (k : ∀ w', Ow B w' (A ++ (b, dg (fold s ls.flatten) (m + ls.flatten.length)) :: C) → K (vI 0) w') : callW PG N.digest_Digest_Write [ptr b, x] K PK w := by
  obtain ⟨vs, hx, hfa⟩ := hW
  have hbyt := flat_byt hfa
  have hvl := hfa.len
  have hmem : ∀ {q : Obj}, ∀ y, y ∈ X0 → y ∈ A ++ (b, q) :: C := fun y hy => by
    rcases List.mem_append.1 (hX y hy) with h1 | h1
    · exact List.mem_append_left _ h1
    · exact List.mem_append_right _ (.tail _ h1)
  refine digest_Digest_Write.ok ?_
  unfold digest_Digest_Write.C
  refine dnone_spec (dp_of (List.mem_append_right _ (.head _))) h (fun w1 h1 => ?_)
  refine cnd_f rfl ?_
  refine sl_ln hx ?_
  refine ⟨fun l' w => ∃ i : Nat, l' = [vI i] ∧ i ≤ ls.length ∧ Ow B w (A ++ (b, dg (fold s (ls.take i).flatten) (m + (ls.take i).flatten.length)) :: C), fun l' _ => match l' with | [.int _ n] => ls.length - n.toNat | _ => 0, ⟨0, rfl, Nat.zero_le _, ?_⟩, ?_⟩
  · simpa [fold] using h1
  rintro l' w2 ⟨i, rfl, hi, h2⟩ j
  repeat (first | refine pu_not ?_ | refine pu_eql ?_ | refine pu_neq ?_ | refine pu_lss ?_ | refine pu_leq ?_ | refine pu_gtr ?_ | refine pu_geq ?_ | refine pu_add ?_ | refine pu_sub ?_ | refine pu_mul ?_ | refine pu_neg ?_ | refine fa_at ?_ | refine nl_ptr ?_ | refine ex20 ?_ | refine ex21 ?_ | refine ex30 ?_ | refine ex31 ?_ | refine ex32 ?_ | refine ln_rule ?_ | refine lnT_rule ?_ | refine pu_and ?_ | refine pu_or ?_ | refine pu_xor ?_ | refine pu_seq ?_ | refine pu_sne ?_)
  refine cnd (fun hlt => ?_) (fun hlt => ?_)
  · have hlt : i < ls.length := by rw [hvl] at hlt; simpa using hlt
    obtain ⟨v, l, hv, hl, hsl, hb⟩ := hfa.at hlt
    have hfl := flat_le ls i
    have hfl1 := flat_le ls (i + 1)
    rw [flat_take hl, List.length_append] at hfl1
    have hcb : Byt (ls.take i).flatten := fun y hy => hbyt y (by
      rw [← List.take_append_drop i ls, List.flatten_append]; exact List.mem_append_left _ hy)
    have hcs := fold_lt _ hs hcb
    have e1 : fold s (ls.take (i + 1)).flatten = fold (fold s (ls.take i).flatten) l := by rw [flat_take hl, fold_app]
    have e2 : ((ls.take (i + 1)).flatten.length : Int) = ((ls.take i).flatten.length : Int) + l.length := by rw [flat_take hl, List.length_append]; omega
    refine sl_ld h2 (hx.mono hmem) (by omega) (by rw [Int.toNat_natCast]; exact hv) ?_
    generalize hcs0 : fold s (ls.take i).flatten = cs at *
    generalize hcm0 : ((ls.take i).flatten.length : Int) = cm at *
    refine ⟨fun w => Ow B w (A ++ (b, dg cs (m + cm)) :: C), h2.drew, ?_⟩
    repeat (first | refine pu_not ?_ | refine pu_eql ?_ | refine pu_neq ?_ | refine pu_lss ?_ | refine pu_leq ?_ | refine pu_gtr ?_ | refine pu_geq ?_ | refine pu_add ?_ | refine pu_sub ?_ | refine pu_mul ?_ | refine pu_neg ?_ | refine fa_at ?_ | refine nl_ptr ?_ | refine ex20 ?_ | refine ex21 ?_ | refine ex30 ?_ | refine ex31 ?_ | refine ex32 ?_ | refine ln_rule ?_ | refine lnT_rule ?_ | refine pu_and ?_ | refine pu_or ?_ | refine pu_xor ?_ | refine pu_seq ?_ | refine pu_sne ?_)
    refine lds_here (fun w h => h) (List.mem_append_right _ (.head _)) dgC_sum ?_
    repeat (first | refine pu_not ?_ | refine pu_eql ?_ | refine pu_neq ?_ | refine pu_lss ?_ | refine pu_leq ?_ | refine pu_gtr ?_ | refine pu_geq ?_ | refine pu_add ?_ | refine pu_sub ?_ | refine pu_mul ?_ | refine pu_neg ?_ | refine fa_at ?_ | refine nl_ptr ?_ | refine ex20 ?_ | refine ex21 ?_ | refine ex30 ?_ | refine ex31 ?_ | refine ex32 ?_ | refine ln_rule ?_ | refine lnT_rule ?_ | refine pu_and ?_ | refine pu_or ?_ | refine pu_xor ?_ | refine pu_seq ?_ | refine pu_sne ?_)
    refine lds_here (fun w h => h) (List.mem_append_right _ (.head _)) dgC_many ?_
    refine sl_ln hsl ?_
    rw [List.length_map]
    repeat (first | refine pu_not ?_ | refine pu_eql ?_ | refine pu_neq ?_ | refine pu_lss ?_ | refine pu_leq ?_ | refine pu_gtr ?_ | refine pu_geq ?_ | refine pu_add ?_ | refine pu_sub ?_ | refine pu_mul ?_ | refine pu_neg ?_ | refine fa_at ?_ | refine nl_ptr ?_ | refine ex20 ?_ | refine ex21 ?_ | refine ex30 ?_ | refine ex31 ?_ | refine ex32 ?_ | refine ln_rule ?_ | refine lnT_rule ?_ | refine pu_and ?_ | refine pu_or ?_ | refine pu_xor ?_ | refine pu_seq ?_ | refine pu_sne ?_)
    rw [wrap64_in (by omega) (by omega)]
    refine folded_spec (b := b) (s := cs) (m := m + cm) h2.drew (List.mem_append_right _ (.head _)) (hsl.mono hmem) hb (by omega) hcs (fun w3 h3 => ?_)
    refine ⟨h3, ?_⟩
    repeat (first | refine pu_not ?_ | refine pu_eql ?_ | refine pu_neq ?_ | refine pu_lss ?_ | refine pu_leq ?_ | refine pu_gtr ?_ | refine pu_geq ?_ | refine pu_add ?_ | refine pu_sub ?_ | refine pu_mul ?_ | refine pu_neg ?_ | refine fa_at ?_ | refine nl_ptr ?_ | refine ex20 ?_ | refine ex21 ?_ | refine ex30 ?_ | refine ex31 ?_ | refine ex32 ?_ | refine ln_rule ?_ | refine lnT_rule ?_ | refine pu_and ?_ | refine pu_or ?_ | refine pu_xor ?_ | refine pu_seq ?_ | refine pu_sne ?_)
    refine st1_here h3 rfl rfl (by rw [dgC_len]; omega) (fun w4 h4 => ?_)
    have h4 : Ow B w4 (A ++ (b, cel ((dgC cs (m + cm) true).set 256 (v64 (fold cs l))) T.t_digest_Digest) :: C) := h4
    rw [dgC_set_sum] at h4
    repeat (first | refine pu_not ?_ | refine pu_eql ?_ | refine pu_neq ?_ | refine pu_lss ?_ | refine pu_leq ?_ | refine pu_gtr ?_ | refine pu_geq ?_ | refine pu_add ?_ | refine pu_sub ?_ | refine pu_mul ?_ | refine pu_neg ?_ | refine fa_at ?_ | refine nl_ptr ?_ | refine ex20 ?_ | refine ex21 ?_ | refine ex30 ?_ | refine ex31 ?_ | refine ex32 ?_ | refine ln_rule ?_ | refine lnT_rule ?_ | refine pu_and ?_ | refine pu_or ?_ | refine pu_xor ?_ | refine pu_seq ?_ | refine pu_sne ?_)
    refine st1_here h4 rfl rfl (by rw [dgC_len]; omega) (fun w5 h5 => ?_)
    have h5 : Ow B w5 (A ++ (b, cel ((dgC (fold cs l) (m + cm) true).set 257 (vI (m + cm + l.length))) T.t_digest_Digest) :: C) := h5
    rw [dgC_set_many] at h5
    repeat (first | refine pu_not ?_ | refine pu_eql ?_ | refine pu_neq ?_ | refine pu_lss ?_ | refine pu_leq ?_ | refine pu_gtr ?_ | refine pu_geq ?_ | refine pu_add ?_ | refine pu_sub ?_ | refine pu_mul ?_ | refine pu_neg ?_ | refine fa_at ?_ | refine nl_ptr ?_ | refine ex20 ?_ | refine ex21 ?_ | refine ex30 ?_ | refine ex31 ?_ | refine ex32 ?_ | refine ln_rule ?_ | refine lnT_rule ?_ | refine pu_and ?_ | refine pu_or ?_ | refine pu_xor ?_ | refine pu_seq ?_ | refine pu_sne ?_)
    rw [wrap64_in (by omega) (by omega)]
    refine ⟨⟨i + 1, rfl, hlt, ?_⟩, by simp; omega⟩
    rw [e1, e2, ← Int.add_assoc]
    exact h5
  · obtain rfl : i = ls.length := by rw [hvl] at hlt; simp at hlt; omega
    rw [List.take_length] at h2
    exact k _ h2
theorem dsum_spec {b s : Nat} {m : Int} (h : Ow B w H) (hm : (b, dg s m) ∈ H) (hs : s < 18446744073709551616) (k : ∀ w', Ow B w' H → K (v64 (nt s)) w') : callW PG N.digest_Digest_Sum [ptr b] K PK w := by
  refine digest_Digest_Sum.ok ?_
  unfold digest_Digest_Sum.C
  refine dnone_spec (dp_of hm) h (fun w1 h1 => ?_)
  refine cnd_f rfl ?_
  repeat (first | refine pu_not ?_ | refine pu_eql ?_ | refine pu_neq ?_ | refine pu_lss ?_ | refine pu_leq ?_ | refine pu_gtr ?_ | refine pu_geq ?_ | refine pu_add ?_ | refine pu_sub ?_ | refine pu_mul ?_ | refine pu_neg ?_ | refine fa_at ?_ | refine nl_ptr ?_ | refine ex20 ?_ | refine ex21 ?_ | refine ex30 ?_ | refine ex31 ?_ | refine ex32 ?_ | refine ln_rule ?_ | refine lnT_rule ?_ | refine pu_and ?_ | refine pu_or ?_ | refine pu_xor ?_ | refine pu_seq ?_ | refine pu_sne ?_)
  refine ld_here h1 hm dgC_sum ?_
  refine not64 hs ?_
  exact k _ h1
theorem dlen_spec {b s : Nat} {m : Int} (h : Ow B w H) (hm : (b, dg s m) ∈ H) (k : ∀ w', Ow B w' H → K (vI m) w') : callW PG N.digest_Digest_Len [ptr b] K PK w := by
  refine digest_Digest_Len.ok ?_
  unfold digest_Digest_Len.C
  refine dnone_spec (dp_of hm) h (fun w1 h1 => ?_)
  refine cnd_f rfl ?_
  repeat (first | refine pu_not ?_ | refine pu_eql ?_ | refine pu_neq ?_ | refine pu_lss ?_ | refine pu_leq ?_ | refine pu_gtr ?_ | refine pu_geq ?_ | refine pu_add ?_ | refine pu_sub ?_ | refine pu_mul ?_ | refine pu_neg ?_ | refine fa_at ?_ | refine nl_ptr ?_ | refine ex20 ?_ | refine ex21 ?_ | refine ex30 ?_ | refine ex31 ?_ | refine ex32 ?_ | refine ln_rule ?_ | refine lnT_rule ?_ | refine pu_and ?_ | refine pu_or ?_ | refine pu_xor ?_ | refine pu_seq ?_ | refine pu_sne ?_)
  refine ld_here h1 hm dgC_many ?_
  exact k _ h1
theorem dcopy_spec {b s : Nat} {m : Int} (h : Ow B w H) (hm : (b, dg s m) ∈ H) (k : ∀ b' w', Ow B w' ((b', dg s m) :: H) → K (ptr b') w') : callW PG N.digest_Digest_Copy [ptr b] K PK w := by
  refine digest_Digest_Copy.ok ?_
  unfold digest_Digest_Copy.C
  refine dnone_spec (dp_of hm) h (fun w1 h1 => ?_)
  refine cnd_f rfl ?_
  repeat (first | refine pu_not ?_ | refine pu_eql ?_ | refine pu_neq ?_ | refine pu_lss ?_ | refine pu_leq ?_ | refine pu_gtr ?_ | refine pu_geq ?_ | refine pu_add ?_ | refine pu_sub ?_ | refine pu_mul ?_ | refine pu_neg ?_ | refine fa_at ?_ | refine nl_ptr ?_ | refine ex20 ?_ | refine ex21 ?_ | refine ex30 ?_ | refine ex31 ?_ | refine ex32 ?_ | refine ln_rule ?_ | refine lnT_rule ?_ | refine pu_and ?_ | refine pu_or ?_ | refine pu_xor ?_ | refine pu_seq ?_ | refine pu_sne ?_)
  have hl := dgC_len s m true
  refine ldn_here h1 hm (vs := dgC s m true) (by rw [List.drop_zero, ← hl, List.take_length]) hl ?_
  refine al_rule h1 (l := List.replicate 256 (v64 0) ++ [v64 0, vI 0, vB false]) (by kernel_rfl) (fun b' w2 h2 => ?_)
  have hz : (List.replicate 256 (v64 0) ++ [v64 0, vI 0, vB false]).length = 259 := by rw [List.length_append, List.length_replicate]; rfl
  have hpl : (dgC s m true).all plainV = true := by
    unfold dgC tabV
    rw [List.all_append, Bool.and_eq_true, List.all_eq_true]
    exact ⟨fun x hx => by obtain ⟨y, _, rfl⟩ := List.mem_map.1 hx; rfl, rfl⟩
  refine st_here (A := []) h2 (dgC s m true) rfl hl hpl (by rw [hz]; omega) (fun w3 h3 => ?_)
  have e : (List.replicate 256 (v64 0) ++ [v64 0, vI 0, vB false]).drop (0 + 259) = [] := List.drop_of_length_le (by rw [hz]; omega)
  rw [e, List.take_zero, List.nil_append, List.append_nil] at h3
  exact k b' _ h3
theorem dof_spec {x : Value} {X0 : Hp} {ls : List (List Nat)} (h : Ow B w H) (hW : Wr X0 x ls) (hX : ∀ y, y ∈ X0 → y ∈ H) (htot : ls.flatten.length < 2 ^ 60) (hll : ls.length < 2 ^ 61) (k : ∀ w', Ow B w' H → K (v64 (sum ls.flatten)) w') :
    callW PG N.digest_Of [x] K PK w := by
  refine digest_Of.ok ?_
  unfold digest_Of.C
  refine dnew_spec h (fun b w1 h1 => ?_)
  refine write_spec (A := []) h1 (by decide) hW hX (by omega) (by omega) hll (fun w2 h2 => ?_)
  obtain ⟨vs, _, hfa⟩ := hW
  refine dsum_spec h2 (.head _) (fold_lt _ (by decide) (flat_byt hfa)) (fun w3 h3 => ?_)
  exact k _ h3.drop
theorem rof_spec {s : Value} {l : List Nat} (h : Ow B w H) (hs : Sl H s (bv l)) (hb : Byt l) (hl : l.length < 2 ^ 61) (k : ∀ w', Ow B w' H → K (v64 (sum l)) w') : callW PG N.linesmanref02_Of [s] K PK w := by
  refine linesmanref02_Of.ok ?_
  unfold linesmanref02_Of.C
  refine ⟨fun l' w => ∃ i : Nat, l' = [v64 (fold top (l.take i)), vI i] ∧ i ≤ l.length ∧ Ow B w H, fun l' _ => match l' with | [_, .int _ n] => l.length - n.toNat | _ => 0, ⟨0, rfl, Nat.zero_le _, h⟩, ?_⟩
  rintro l' w2 ⟨i, rfl, hi, h2⟩ j
  refine sl_ln hs ?_
  rw [List.length_map]
  have hcs := fold_lt (l.take i) (s := top) (by decide) (hb.take i)
  repeat (first | refine pu_not ?_ | refine pu_eql ?_ | refine pu_neq ?_ | refine pu_lss ?_ | refine pu_leq ?_ | refine pu_gtr ?_ | refine pu_geq ?_ | refine pu_add ?_ | refine pu_sub ?_ | refine pu_mul ?_ | refine pu_neg ?_ | refine fa_at ?_ | refine nl_ptr ?_ | refine ex20 ?_ | refine ex21 ?_ | refine ex30 ?_ | refine ex31 ?_ | refine ex32 ?_ | refine ln_rule ?_ | refine lnT_rule ?_ | refine pu_and ?_ | refine pu_or ?_ | refine pu_xor ?_ | refine pu_seq ?_ | refine pu_sne ?_)
  refine cnd (fun hlt => ?_) (fun hlt => ?_)
  · have hlt : i < l.length := by simpa using hlt
    have hat : l[i]? = some (l.getD i 0) := by simp [List.getD, hlt]
    have hc := hb.at hat
    refine sl_ld h2 hs (by omega) (by rw [Int.toNat_natCast]; exact bv_at hlt) ?_
    refine cvt_u64 hc ?_
    refine x64 hcs (by omega) ?_
    have e : fold top (l.take (i + 1)) = shk 8 (fold top (l.take i) ^^^ l.getD i 0) := by
      rw [List.take_add_one, hat, Option.toList, fold_app]; rfl
    have hx0 := xor_lt64 hcs (show l.getD i 0 < 18446744073709551616 by omega)
    generalize fold top (l.take i) ^^^ l.getD i 0 = x0 at *
    refine ⟨fun l' w => ∃ (q x : Nat), l' = [v64 x, vI q] ∧ q ≤ 8 ∧ x < 18446744073709551616 ∧ shk (8 - q) x = shk 8 x0 ∧ Ow B w H, fun l' _ => match l' with | [_, .int _ j] => 8 - j.toNat | _ => 0, ⟨0, x0, rfl, by omega, hx0, rfl, h2⟩, ?_⟩
    rintro l' w3 ⟨q, x, rfl, hq, hx, hs2, h3⟩ j2
    repeat (first | refine pu_not ?_ | refine pu_eql ?_ | refine pu_neq ?_ | refine pu_lss ?_ | refine pu_leq ?_ | refine pu_gtr ?_ | refine pu_geq ?_ | refine pu_add ?_ | refine pu_sub ?_ | refine pu_mul ?_ | refine pu_neg ?_ | refine fa_at ?_ | refine nl_ptr ?_ | refine ex20 ?_ | refine ex21 ?_ | refine ex30 ?_ | refine ex31 ?_ | refine ex32 ?_ | refine ln_rule ?_ | refine lnT_rule ?_ | refine pu_and ?_ | refine pu_or ?_ | refine pu_xor ?_ | refine pu_seq ?_ | refine pu_sne ?_)
    refine cnd (fun hlt2 => ?_) (fun hlt2 => ?_)
    · have hlt2 : q < 8 := by simp at hlt2; omega
      obtain ⟨q', hq'⟩ : ∃ q', 8 - q = q' + 1 := ⟨7 - q, by omega⟩
      rw [hq'] at hs2
      have hs2 : shk q' (sh x) = shk 8 x0 := hs2
      refine pu_rem (by omega) ?_
      have e1 : (x : Int).tmod 2 = ((x % 2 : Nat) : Int) := by rw [Int.tmod_eq_emod_of_nonneg (by omega)]; omega
      rw [e1]
      repeat (first | refine pu_not ?_ | refine pu_eql ?_ | refine pu_neq ?_ | refine pu_lss ?_ | refine pu_leq ?_ | refine pu_gtr ?_ | refine pu_geq ?_ | refine pu_add ?_ | refine pu_sub ?_ | refine pu_mul ?_ | refine pu_neg ?_ | refine fa_at ?_ | refine nl_ptr ?_ | refine ex20 ?_ | refine ex21 ?_ | refine ex30 ?_ | refine ex31 ?_ | refine ex32 ?_ | refine ln_rule ?_ | refine lnT_rule ?_ | refine pu_and ?_ | refine pu_or ?_ | refine pu_xor ?_ | refine pu_seq ?_ | refine pu_sne ?_)
      refine pu_quo (by omega) ?_
      have e2 : IntKind.u64.wrap ((x : Int).tdiv 2) = ((x / 2 : Nat) : Int) := by rw [Int.tdiv_eq_ediv_of_nonneg (by omega), wrapu64]; omega
      rw [e2]
      refine cnd (fun ho => ?_) (fun ho => ?_)
      · have ho : x % 2 = 1 := by simp at ho; omega
        have e : sh x = (x / 2) ^^^ 14514072000185962306 := by unfold sh gd; rw [if_pos ho]; rfl
        refine x64 (b := 14514072000185962306) (by omega) (by omega) ?_
        repeat (first | refine pu_not ?_ | refine pu_eql ?_ | refine pu_neq ?_ | refine pu_lss ?_ | refine pu_leq ?_ | refine pu_gtr ?_ | refine pu_geq ?_ | refine pu_add ?_ | refine pu_sub ?_ | refine pu_mul ?_ | refine pu_neg ?_ | refine fa_at ?_ | refine nl_ptr ?_ | refine ex20 ?_ | refine ex21 ?_ | refine ex30 ?_ | refine ex31 ?_ | refine ex32 ?_ | refine ln_rule ?_ | refine lnT_rule ?_ | refine pu_and ?_ | refine pu_or ?_ | refine pu_xor ?_ | refine pu_seq ?_ | refine pu_sne ?_)
        rw [wrap64_in (by omega) (by omega)]
        refine ⟨⟨q + 1, _, rfl, hlt2, ?_, ?_, h3⟩, by simp; omega⟩
        · rw [← e]; exact sh_lt hx
        · rw [← e, show 8 - (q + 1) = q' by omega]; exact hs2
      · have ho : ¬ x % 2 = 1 := by simp at ho; omega
        have e : sh x = x / 2 := by unfold sh gd; rw [if_neg ho, Nat.xor_zero]
        repeat (first | refine pu_not ?_ | refine pu_eql ?_ | refine pu_neq ?_ | refine pu_lss ?_ | refine pu_leq ?_ | refine pu_gtr ?_ | refine pu_geq ?_ | refine pu_add ?_ | refine pu_sub ?_ | refine pu_mul ?_ | refine pu_neg ?_ | refine fa_at ?_ | refine nl_ptr ?_ | refine ex20 ?_ | refine ex21 ?_ | refine ex30 ?_ | refine ex31 ?_ | refine ex32 ?_ | refine ln_rule ?_ | refine lnT_rule ?_ | refine pu_and ?_ | refine pu_or ?_ | refine pu_xor ?_ | refine pu_seq ?_ | refine pu_sne ?_)
        rw [wrap64_in (by omega) (by omega)]
        refine ⟨⟨q + 1, _, rfl, hlt2, ?_, ?_, h3⟩, by simp; omega⟩
        · rw [← e]; exact sh_lt hx
        · rw [← e, show 8 - (q + 1) = q' by omega]; exact hs2
    · obtain rfl : q = 8 := by simp at hlt2; omega
      have hs2 : x = shk 8 x0 := hs2
      subst hs2
      repeat (first | refine pu_not ?_ | refine pu_eql ?_ | refine pu_neq ?_ | refine pu_lss ?_ | refine pu_leq ?_ | refine pu_gtr ?_ | refine pu_geq ?_ | refine pu_add ?_ | refine pu_sub ?_ | refine pu_mul ?_ | refine pu_neg ?_ | refine fa_at ?_ | refine nl_ptr ?_ | refine ex20 ?_ | refine ex21 ?_ | refine ex30 ?_ | refine ex31 ?_ | refine ex32 ?_ | refine ln_rule ?_ | refine lnT_rule ?_ | refine pu_and ?_ | refine pu_or ?_ | refine pu_xor ?_ | refine pu_seq ?_ | refine pu_sne ?_)
      rw [wrap64_in (by omega) (by omega)]
      refine ⟨⟨i + 1, ?_, hlt, h3⟩, by simp; omega⟩
      rw [e]
      rfl
  · obtain rfl : i = l.length := by simp at hlt; omega
    rw [List.take_length] at *
    refine not64 hcs ?_
    exact k _ h2
theorem dnumber_spec {C : Hp} {b s : Nat} {m : Int} {n : Nat} {x : Int} (h : Ow B w ((b, dg s m) :: C)) (hs : s < 18446744073709551616) (hn : n < 18446744073709551616) (hm : 0 ≤ m) (hm2 : m < 2 ^ 60)
    (k : ∀ w', Ow B w' ((b, dg (fold s (fxR n x).1) (m + (fxR n x).1.length)) :: C) → K (vI (fxR n x).2) w') : callW PG N.digest_Digest_Number [ptr b, v64 n, vI x] K PK w := by
  refine digest_Digest_Number.ok ?_
  unfold digest_Digest_Number.C
  refine dnone_spec (dp_of (.head _)) h (fun w1 h1 => ?_)
  refine cnd_f rfl ?_
  refine fixed_spec h1 hn (fun S v w2 h2 ho => ?_)
  repeat (first | refine pu_not ?_ | refine pu_eql ?_ | refine pu_neq ?_ | refine pu_lss ?_ | refine pu_leq ?_ | refine pu_gtr ?_ | refine pu_geq ?_ | refine pu_add ?_ | refine pu_sub ?_ | refine pu_mul ?_ | refine pu_neg ?_ | refine fa_at ?_ | refine nl_ptr ?_ | refine ex20 ?_ | refine ex21 ?_ | refine ex30 ?_ | refine ex31 ?_ | refine ex32 ?_ | refine ln_rule ?_ | refine lnT_rule ?_ | refine pu_and ?_ | refine pu_or ?_ | refine pu_xor ?_ | refine pu_seq ?_ | refine pu_sne ?_)
  rcases fxR_cases n x with hbad | ⟨W, rfl, hW, hr, hnW, he⟩
  · have e1 : (fxR n x).1 = [] := by
      unfold fxR at hbad ⊢
      split
      · rfl
      · rename_i h
        rw [if_neg h] at hbad
        split
        · rename_i h2; rw [if_pos h2] at hbad; exact absurd rfl hbad
        · rfl
    rw [e1] at k
    refine cnd_t (by simpa using hbad) ?_
    refine k _ ?_
    have := h2.sub (List.sublist_append_right _ _)
    simpa [fold] using this
  · rw [he] at k ho ⊢
    refine cnd_f rfl ?_
    refine bs_rule h2 [v] (bsw1 ho.sl) (fun b3 w3 h3 => ?_)
    have hW : Wr ((b3, cel [v] T.t_sl_uint8) :: S) (.slice (some ⟨b3, 0, none⟩) 1 1) [fx n W] := ⟨[v], sl_here (l := [v]) (.head _), ⟨ho.sl.cons, fx_byt n W⟩, trivial⟩
    refine write_spec (A := (b3, cel [v] T.t_sl_uint8) :: S) h3 hs hW (fun y hy => List.mem_append_left _ hy) hm (by simp [fx_len]; omega) (by simp) (fun w4 h4 => ?_)
    have e2 : [fx n W].flatten = fx n W := by simp
    rw [e2] at h4
    refine k _ ?_
    exact h4.sub (List.sublist_append_right ((b3, cel [v] T.t_sl_uint8) :: S) _)
end
end Go.Proofs.Ytplobehejancpaa
