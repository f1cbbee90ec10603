/- Contracts of package vector and its reference, third part: Join, Tick; the chapter's rows. -/
import Derived.Test.YtobanjfpoeinhaaVvD
set_option linter.unusedVariables false
set_option linter.unusedSimpArgs false
namespace Go.Proofs.Ytobanjfpoeinhaa
open Go Go.RowKit Vc Vx
attribute [local irreducible] binV Op.unary convert nlW faW ldS ldW ixS ixA ixV ixT exW lnS lnT pu stW alW opW opU bsW mkW

section
variable {B w : World} {H : Hp} {K : Value → World → Prop} {PK : List PanicEntry → World → Prop}
theorem max64 {a b : Nat} {KK : Value → Prop} (k : KK (v64 (max a b))) : pu PG (Builtin.max_ #[T.t_uint64, T.t_uint64] 0 #[v64 a, v64 b]) KK := by
  refine pu_max2 ?_
  have : (if (b : Int) > (a : Int) then (b : Int) else (a : Int)) = ((max a b : Nat) : Int) := by split <;> omega
  rw [this]; exact k
/-- Slices of clocks. -/
def FA (H : Hp) : List Value → List (List Nat) → Prop
  | [], [] => True
  | v :: vs, l :: ls => (Cl H v l ∧ Qd l) ∧ FA H vs ls
  | _, _ => False
theorem FA.mono {H' : Hp} (hs : ∀ x, x ∈ H → x ∈ H') : ∀ {vs : List Value} {ls : List (List Nat)}, FA H vs ls → FA H' vs ls
  | [], [], _ => trivial
  | v :: vs, l :: ls, h => ⟨⟨h.1.1.mono hs, h.1.2⟩, h.2.mono hs⟩
  | [], _ :: _, h => h.elim
  | _ :: _, [], h => h.elim
theorem FA.len : ∀ {vs : List Value} {ls : List (List Nat)}, FA H vs ls → vs.length = ls.length
  | [], [], _ => rfl
  | v :: vs, l :: ls, h => by simp [h.2.len]
  | [], _ :: _, h => h.elim
  | _ :: _, [], h => h.elim
theorem FA.at : ∀ {vs : List Value} {ls : List (List Nat)} {i : Nat}, FA H vs ls → i < ls.length → ∃ v l, vs[i]? = some v ∧ ls[i]? = some l ∧ Cl H v l ∧ Qd l
  | [], [], i, _, hi => absurd hi (by simp)
  | v :: vs, l :: ls, 0, h, _ => ⟨v, l, rfl, rfl, h.1.1, h.1.2⟩
  | v :: vs, l :: ls, i + 1, h, hi => by
    obtain ⟨v', l', h1, h2, h3⟩ := FA.at (i := i) h.2 (by simpa using hi)
    exact ⟨v', l', h1, h2, h3⟩
  | [], _ :: _, _, h, _ => h.elim
  | _ :: _, [], _, h, _ => h.elim
def Wr (H : Hp) (x : Value) (ls : List (List Nat)) : Prop := ∃ vs, Sl H x vs ∧ FA H vs ls
theorem Wr.mono {H' : Hp} {x : Value} {ls : List (List Nat)} (h : Wr H x ls) (hs : ∀ x, x ∈ H → x ∈ H') : Wr H' x ls := by
  obtain ⟨vs, h1, h2⟩ := h
  exact ⟨vs, h1.mono hs, h2.mono hs⟩
section
variable {X : Hp} {v v2 v3 : Value} {xs ys zs : List Value}
theorem bsw1 (hv : Sl X v xs) : bsC PG T.t_api_Clock 1 [(0, v)] = some [v].toArray := by
  obtain ⟨a, c, rfl, hc⟩ := Sl.cap hv
  clear hv hc
  generalize xs.length = n at *
  kernel_rfl
theorem bsw2 (hv : Sl X v xs) (hv2 : Sl X v2 ys) : bsC PG T.t_api_Clock 2 [(0, v), (1, v2)] = some [v, v2].toArray := by
  obtain ⟨a, c, rfl, hc⟩ := Sl.cap hv
  obtain ⟨a2, c2, rfl, hc2⟩ := Sl.cap hv2
  clear hv hc hv2 hc2
  generalize xs.length = n at *
  generalize ys.length = n2 at *
  kernel_rfl
theorem bsw3 (hv : Sl X v xs) (hv2 : Sl X v2 ys) (hv3 : Sl X v3 zs) : bsC PG T.t_api_Clock 3 [(0, v), (1, v2), (2, v3)] = some [v, v2, v3].toArray := by
  obtain ⟨a, c, rfl, hc⟩ := Sl.cap hv
  obtain ⟨a2, c2, rfl, hc2⟩ := Sl.cap hv2
  obtain ⟨a3, c3, rfl, hc3⟩ := Sl.cap hv3
  clear hv hc hv2 hc2 hv3 hc3
  generalize xs.length = n at *
  generalize ys.length = n2 at *
  generalize zs.length = n3 at *
  kernel_rfl
end
theorem few_spec {x : Value} {ls : List (List Nat)} (h : Ow B w H) (hW : Wr H x ls) (hl : ls.length < 2 ^ 62) (k : ∀ w', Ow B w' H → K (vB (ls.all fun l => decide (l.length ≤ 40))) w') : callW PG N.linesmanlaw04_few [x] K PK w := by
  obtain ⟨vs, hx, hfa⟩ := hW
  have hvl := hfa.len
  refine linesmanlaw04_few.ok ?_
  unfold linesmanlaw04_few.C
  refine ⟨fun l' w => ∃ i : Nat, l' = [vI i] ∧ i ≤ ls.length ∧ (∀ j l, j < i → ls[j]? = some l → l.length ≤ 40) ∧ Ow B w H, fun l' _ => match l' with | [.int _ n] => ls.length - n.toNat | _ => 0, ⟨0, rfl, Nat.zero_le _, fun j l hj => absurd hj (by omega), h⟩, ?_⟩
  rintro l' w2 ⟨i, rfl, hi, hall, h2⟩ j
  refine sl_ln hx ?_
  rw [hvl]
  repeat (first | refine pu_not ?_ | refine pu_eql ?_ | refine pu_neq ?_ | refine pu_lss ?_ | refine pu_leq ?_ | refine pu_gtr ?_ | refine pu_geq ?_ | refine pu_add ?_ | refine pu_sub ?_ | refine pu_mul ?_ | refine pu_neg ?_ | refine fa_at ?_ | refine nl_ptr ?_ | refine ex20 ?_ | refine ex21 ?_ | refine ex30 ?_ | refine ex31 ?_ | refine ex32 ?_ | refine ln_rule ?_ | refine lnT_rule ?_ | refine pu_and ?_ | refine pu_or ?_ | refine pu_xor ?_ | refine pu_seq ?_ | refine pu_sne ?_)
  refine cnd (fun hlt => ?_) (fun hlt => ?_)
  · have hlt : i < ls.length := by simpa using hlt
    obtain ⟨v, l, hv, hl', hsl, hb⟩ := hfa.at hlt
    refine sl_ld h2 hx (by omega) (by rw [Int.toNat_natCast]; exact hv) ?_
    refine sl_ln hsl ?_
    rw [List.length_map]
    repeat (first | refine pu_not ?_ | refine pu_eql ?_ | refine pu_neq ?_ | refine pu_lss ?_ | refine pu_leq ?_ | refine pu_gtr ?_ | refine pu_geq ?_ | refine pu_add ?_ | refine pu_sub ?_ | refine pu_mul ?_ | refine pu_neg ?_ | refine fa_at ?_ | refine nl_ptr ?_ | refine ex20 ?_ | refine ex21 ?_ | refine ex30 ?_ | refine ex31 ?_ | refine ex32 ?_ | refine ln_rule ?_ | refine lnT_rule ?_ | refine pu_and ?_ | refine pu_or ?_ | refine pu_xor ?_ | refine pu_seq ?_ | refine pu_sne ?_)
    refine cnd (fun hg => ?_) (fun hg => ?_)
    · have e : (ls.all fun l => decide (l.length ≤ 40)) = false := by
        rw [List.all_eq_false]
        exact ⟨l, List.mem_of_getElem? hl', by simp at hg ⊢; omega⟩
      rw [e] at k; exact k _ h2
    · repeat (first | refine pu_not ?_ | refine pu_eql ?_ | refine pu_neq ?_ | refine pu_lss ?_ | refine pu_leq ?_ | refine pu_gtr ?_ | refine pu_geq ?_ | refine pu_add ?_ | refine pu_sub ?_ | refine pu_mul ?_ | refine pu_neg ?_ | refine fa_at ?_ | refine nl_ptr ?_ | refine ex20 ?_ | refine ex21 ?_ | refine ex30 ?_ | refine ex31 ?_ | refine ex32 ?_ | refine ln_rule ?_ | refine lnT_rule ?_ | refine pu_and ?_ | refine pu_or ?_ | refine pu_xor ?_ | refine pu_seq ?_ | refine pu_sne ?_)
      rw [wrap64_in (by omega) (by omega)]
      refine ⟨⟨i + 1, rfl, hlt, fun j l2 hj hl2 => ?_, h2⟩, by simp; omega⟩
      rcases Nat.lt_succ_iff_lt_or_eq.1 hj with hj | rfl
      · exact hall j l2 hj hl2
      · rw [hl'] at hl2; cases hl2; simp at hg; omega
  · have e : (ls.all fun l => decide (l.length ≤ 40)) = true := by
      rw [List.all_eq_true]
      intro l hl
      obtain ⟨i', hi', rfl⟩ := List.getElem_of_mem hl
      simpa using hall i' _ (by simp at hlt; omega) (List.getElem?_eq_getElem hi')
    rw [e] at k; exact k _ h2

/-! ### Join -/
/-- One clock's list laid into another one: one step. -/
theorem ext_own {A C S : Hp} {v : Value} {t : List Nat} {i : Nat} {KW : Value → World → Prop} (h : Ow B w (A ++ S ++ C)) (ho : Vc.Own S T.t_uint64 1 v t.length (qv t)) (hi : i = t.length) (hl : t.length < 1000000)
    (k : ∀ S' v' w', Ow B w' (A ++ S' ++ C) → Vc.Own S' T.t_uint64 1 v' (ext t i).length (qv (ext t i)) → KW v' w') :
    bsW T.t_uint64 1 (bsC PG T.t_uint64 1 [(0, (.int .u64 0))]) (fun p w => opW PG (Builtin.append_ #[T.t_api_Clock, T.t_api_Clock] T.t_api_Clock #[v, p]) KW w) w := by
  refine bs_rule h [v64 0] (by kernel_rfl) (fun b w1 h1 => ?_)
  have h1 : Ow B w1 (((b, cel [v64 0] T.t_uint64) :: A) ++ S ++ C) := by simpa using h1
  refine app1 (z := v64 0) (bytes := 8) h1 ho (sl_here (b := b) (l := [v64 0]) (e := T.t_uint64) (H := [(b, cel [v64 0] T.t_uint64)]) (.head _)) (fun y hy => by simp at hy; subst hy; simp) rfl und_clk info_u64 rfl (by simp [maxLen]; omega) (by simp; omega) (fun S' v' w2 h2 ho' => ?_)
  refine k S' v' w2 ?_ ?_
  · have : Ow B w2 ((b, cel [v64 0] T.t_uint64) :: (A ++ S' ++ C)) := by simpa using h2
    exact this.drop
  · have e : ext t i = t ++ [0] := by unfold ext; rw [if_pos hi]
    rw [e]
    simpa using ho'
theorem join1_spec {C X0 S : Hp} {s t : Value} {a c : List Nat} (h : Ow B w (S ++ C)) (ho : Vc.Own S T.t_uint64 1 s a.length (qv a)) (ht : Cl X0 t c) (hX : ∀ x, x ∈ X0 → x ∈ C) (ha : a.length < 1000) (hc : c.length < 1000)
    (k : ∀ S' v w', Ow B w' (S' ++ C) → Vc.Own S' T.t_uint64 1 v (jn a c).length (qv (jn a c)) → K v w') : callW PG N.vector_Join_1 [s, t] K PK w := by
  refine vector_Join_1.ok ?_
  unfold vector_Join_1.C
  refine sl_ln ht ?_
  rw [List.length_map]
  refine ⟨fun l' w => ∃ (i : Nat) (S : Hp) (v : Value), l' = [v, vI i] ∧ i ≤ c.length ∧ Vc.Own S T.t_uint64 1 v (jn a (c.take i)).length (qv (jn a (c.take i))) ∧ Ow B w (S ++ C), fun l' _ => match l' with | [_, .int _ n] => c.length - n.toNat | _ => 0, ⟨0, S, s, rfl, Nat.zero_le _, by rw [List.take_zero, jn_nil]; exact ho, h⟩, ?_⟩
  clear h ho
  rintro l' w2 ⟨i, S, v, rfl, hi, ho, h2⟩ j
  have hlen : (jn a (c.take i)).length = max a.length i := by rw [jn_len, List.length_take]; omega
  repeat (first | refine pu_not ?_ | refine pu_eql ?_ | refine pu_neq ?_ | refine pu_lss ?_ | refine pu_leq ?_ | refine pu_gtr ?_ | refine pu_geq ?_ | refine pu_add ?_ | refine pu_sub ?_ | refine pu_mul ?_ | refine pu_neg ?_ | refine fa_at ?_ | refine nl_ptr ?_ | refine ex20 ?_ | refine ex21 ?_ | refine ex30 ?_ | refine ex31 ?_ | refine ex32 ?_ | refine ln_rule ?_ | refine lnT_rule ?_ | refine pu_and ?_ | refine pu_or ?_ | refine pu_xor ?_ | refine pu_seq ?_ | refine pu_sne ?_)
  refine cnd (fun hlt => ?_) (fun hlt => ?_)
  · have hlt : i < c.length := by simpa using hlt
    have hst := jn_step (s := a) hlt
    have hxl : (ext (jn a (c.take i)) i).length = max a.length (i + 1) := by
      unfold ext
      split
      · rw [List.length_append, hlen]; simp; omega
      · rw [hlen]; omega
    refine sl_ld h2 (ht.mono fun x hx => List.mem_append_right _ (hX x hx)) (by omega) (by rw [Int.toNat_natCast]; exact qv_at hlt) ?_
    refine sl_ln ho.sl ?_
    rw [List.length_map]
    repeat (first | refine pu_not ?_ | refine pu_eql ?_ | refine pu_neq ?_ | refine pu_lss ?_ | refine pu_leq ?_ | refine pu_gtr ?_ | refine pu_geq ?_ | refine pu_add ?_ | refine pu_sub ?_ | refine pu_mul ?_ | refine pu_neg ?_ | refine fa_at ?_ | refine nl_ptr ?_ | refine ex20 ?_ | refine ex21 ?_ | refine ex30 ?_ | refine ex31 ?_ | refine ex32 ?_ | refine ln_rule ?_ | refine lnT_rule ?_ | refine pu_and ?_ | refine pu_or ?_ | refine pu_xor ?_ | refine pu_seq ?_ | refine pu_sne ?_)
    refine cnd (fun he => ?_) (fun he => ?_)
    · have he : i = (jn a (c.take i)).length := by simp at he; omega
      refine ext_own (A := []) h2 ho he (by omega) (fun S3 v3 w3 h3 ho3 => ?_)
      refine sl_ld h3 (ho3.sl.mono fun x hx => List.mem_append_left _ hx) (by omega) (by rw [Int.toNat_natCast]; exact qv_at (by omega)) ?_
      refine max64 ?_
      refine own_set (A := []) h3 ho3 (by omega) (by omega) rfl rfl (fun S5 w5 h5 ho5 => ?_)
      repeat (first | refine pu_not ?_ | refine pu_eql ?_ | refine pu_neq ?_ | refine pu_lss ?_ | refine pu_leq ?_ | refine pu_gtr ?_ | refine pu_geq ?_ | refine pu_add ?_ | refine pu_sub ?_ | refine pu_mul ?_ | refine pu_neg ?_ | refine fa_at ?_ | refine nl_ptr ?_ | refine ex20 ?_ | refine ex21 ?_ | refine ex30 ?_ | refine ex31 ?_ | refine ex32 ?_ | refine ln_rule ?_ | refine lnT_rule ?_ | refine pu_and ?_ | refine pu_or ?_ | refine pu_xor ?_ | refine pu_seq ?_ | refine pu_sne ?_)
      rw [wrap64_in (by omega) (by omega)]
      refine ⟨⟨i + 1, S5, _, rfl, hlt, ?_, h5⟩, by simp; omega⟩
      rw [Int.toNat_natCast, ← List.map_set, hst] at ho5
      rw [hxl] at ho5
      have hl2 : (jn a (c.take (i + 1))).length = max a.length (i + 1) := by rw [jn_len, List.length_take]; omega
      rw [hl2]
      exact ho5
    · have he : ¬ i = (jn a (c.take i)).length := by simp at he; omega
      have e : ext (jn a (c.take i)) i = jn a (c.take i) := by unfold ext; rw [if_neg he]
      have h3 := h2
      have ho3 : Vc.Own S T.t_uint64 1 v (ext (jn a (c.take i)) i).length (qv (ext (jn a (c.take i)) i)) := by rw [e]; exact ho
      refine sl_ld h3 (ho3.sl.mono fun x hx => List.mem_append_left _ hx) (by omega) (by rw [Int.toNat_natCast]; exact qv_at (by omega)) ?_
      refine max64 ?_
      refine own_set (A := []) h3 ho3 (by omega) (by omega) rfl rfl (fun S5 w5 h5 ho5 => ?_)
      repeat (first | refine pu_not ?_ | refine pu_eql ?_ | refine pu_neq ?_ | refine pu_lss ?_ | refine pu_leq ?_ | refine pu_gtr ?_ | refine pu_geq ?_ | refine pu_add ?_ | refine pu_sub ?_ | refine pu_mul ?_ | refine pu_neg ?_ | refine fa_at ?_ | refine nl_ptr ?_ | refine ex20 ?_ | refine ex21 ?_ | refine ex30 ?_ | refine ex31 ?_ | refine ex32 ?_ | refine ln_rule ?_ | refine lnT_rule ?_ | refine pu_and ?_ | refine pu_or ?_ | refine pu_xor ?_ | refine pu_seq ?_ | refine pu_sne ?_)
      rw [wrap64_in (by omega) (by omega)]
      refine ⟨⟨i + 1, S5, _, rfl, hlt, ?_, h5⟩, by simp; omega⟩
      rw [Int.toNat_natCast, ← List.map_set, hst] at ho5
      rw [hxl] at ho5
      have hl2 : (jn a (c.take (i + 1))).length = max a.length (i + 1) := by rw [jn_len, List.length_take]; omega
      rw [hl2]
      exact ho5
  · obtain rfl : i = c.length := by simp at hlt; omega
    rw [List.take_length] at ho
    exact k S v _ h2 ho
theorem und_slc : PG.underlying T.t_sl_api_Clock = some (.slice T.t_api_Clock) := by kernel_rfl
def one1 (vs : List Value) : List (List Value) := vs.map fun v => [v]
theorem one1_of {vs : List Value} {i : Nat} {args : List Value} (h : (one1 vs)[i]? = some args) : ∃ c, vs[i]? = some c ∧ args = [c] := by
  unfold one1 at h
  rw [List.getElem?_map, Option.map_eq_some_iff] at h
  obtain ⟨c, hc, rfl⟩ := h
  exact ⟨c, hc, rfl⟩
theorem val_seq {b : Nat} {s : Value} {vs : List Value} (hm : (b, cel [s] T.t_sl_api_Clock) ∈ H) (hs : Sl H s vs) (hlen : vs.length < 2 ^ 62) : Seq PG B H (fnv N.slices_Values_sl_api_Clock_api_Clock_1 #[ptr b]) (one1 vs) := by
  refine Seq.fn slices_Values_sl_api_Clock_api_Clock_1.okf ?_
  intro y J Z K PK w X hy hw j0 hr he
  refine slices_Values_sl_api_Clock_api_Clock_1.ok ?_
  unfold slices_Values_sl_api_Clock_api_Clock_1.C
  refine ld_here hw (List.mem_append_right _ hm) rfl ?_
  refine sl_ln hs ?_
  refine ⟨fun l' w => ∃ (i : Nat) (X : Hp), l' = [vI i] ∧ i ≤ vs.length ∧ J i X ∧ Ow B w (X ++ H), fun l' _ => match l' with | [.int _ n] => vs.length - n.toNat | _ => 0, ⟨0, X, rfl, Nat.zero_le _, j0, hw⟩, ?_⟩
  rintro l' w2 ⟨i, X, rfl, hi, hj, h2⟩ j1
  repeat (first | refine pu_not ?_ | refine pu_eql ?_ | refine pu_neq ?_ | refine pu_lss ?_ | refine pu_leq ?_ | refine pu_gtr ?_ | refine pu_geq ?_ | refine pu_add ?_ | refine pu_sub ?_ | refine pu_mul ?_ | refine pu_neg ?_ | refine fa_at ?_ | refine nl_ptr ?_ | refine ex20 ?_ | refine ex21 ?_ | refine ex30 ?_ | refine ex31 ?_ | refine ex32 ?_ | refine ln_rule ?_ | refine lnT_rule ?_ | refine pu_and ?_ | refine pu_or ?_ | refine pu_xor ?_ | refine pu_seq ?_ | refine pu_sne ?_)
  refine cnd (fun hlt => ?_) (fun hlt => ?_)
  · have hlt : i < vs.length := by simpa using hlt
    refine sl_ld (v := vs[i]) h2 (hs.mono fun x hx => List.mem_append_right _ hx) (by omega) (by simp [hlt]) ?_
    refine hr i _ X H _ _ w2 (by simp [one1, hlt]) hj (fun x hx => hx) h2 (fun X' w3 h3 hj3 => ?_) (fun X' w3 h3 hz3 => ?_)
    · repeat (first | refine pu_not ?_ | refine pu_eql ?_ | refine pu_neq ?_ | refine pu_lss ?_ | refine pu_leq ?_ | refine pu_gtr ?_ | refine pu_geq ?_ | refine pu_add ?_ | refine pu_sub ?_ | refine pu_mul ?_ | refine pu_neg ?_ | refine fa_at ?_ | refine nl_ptr ?_ | refine ex20 ?_ | refine ex21 ?_ | refine ex30 ?_ | refine ex31 ?_ | refine ex32 ?_ | refine ln_rule ?_ | refine lnT_rule ?_ | refine pu_and ?_ | refine pu_or ?_ | refine pu_xor ?_ | refine pu_seq ?_ | refine pu_sne ?_)
      refine cnd_f rfl ?_
      repeat (first | refine pu_not ?_ | refine pu_eql ?_ | refine pu_neq ?_ | refine pu_lss ?_ | refine pu_leq ?_ | refine pu_gtr ?_ | refine pu_geq ?_ | refine pu_add ?_ | refine pu_sub ?_ | refine pu_mul ?_ | refine pu_neg ?_ | refine fa_at ?_ | refine nl_ptr ?_ | refine ex20 ?_ | refine ex21 ?_ | refine ex30 ?_ | refine ex31 ?_ | refine ex32 ?_ | refine ln_rule ?_ | refine lnT_rule ?_ | refine pu_and ?_ | refine pu_or ?_ | refine pu_xor ?_ | refine pu_seq ?_ | refine pu_sne ?_)
      rw [wrap64_in (by omega) (by omega)]
      exact ⟨⟨i + 1, X', rfl, hlt, hj3, h3⟩, by simp; omega⟩
    · repeat (first | refine pu_not ?_ | refine pu_eql ?_ | refine pu_neq ?_ | refine pu_lss ?_ | refine pu_leq ?_ | refine pu_gtr ?_ | refine pu_geq ?_ | refine pu_add ?_ | refine pu_sub ?_ | refine pu_mul ?_ | refine pu_neg ?_ | refine fa_at ?_ | refine nl_ptr ?_ | refine ex20 ?_ | refine ex21 ?_ | refine ex30 ?_ | refine ex31 ?_ | refine ex32 ?_ | refine ln_rule ?_ | refine lnT_rule ?_ | refine pu_and ?_ | refine pu_or ?_ | refine pu_xor ?_ | refine pu_seq ?_ | refine pu_sne ?_)
      refine cnd_t rfl ?_
      exact he _ X' w3 h3 (.inr hz3)
  · obtain rfl : i = vs.length := by simp at hlt; omega
    refine he _ X w2 h2 (.inl (by simpa [one1] using hj))
theorem fold_len : ∀ (ls : List (List Nat)) (a : List Nat) (n : Nat), a.length ≤ n → (∀ l ∈ ls, l.length ≤ n) → (ls.foldl jn a).length ≤ n
  | [], a, n, h, _ => h
  | l :: ls, a, n, h, hl => fold_len ls (jn a l) n (by rw [jn_len]; have := hl l List.mem_cons_self; omega) (fun x hx => hl x (List.mem_cons_of_mem _ hx))
theorem folded_spec {x : Value} {ls : List (List Nat)} {X0 : Hp} (h : Ow B w H) (hW : Wr X0 x ls) (hX : ∀ y, y ∈ X0 → y ∈ H) (hl : ls.length < 1000) (hll : ∀ l ∈ ls, l.length ≤ 500)
    (k : ∀ S v w', Ow B w' (S ++ H) → Vc.Own S T.t_uint64 1 v (ls.foldl jn []).length (qv (ls.foldl jn [])) → K v w') :
    callW PG N.vector_folded_api_Clock_api_Clock [.slice none 0 0, x, .func (.func N.vector_Join_1) #[] #[]] K PK w := by
  obtain ⟨vs, hx, hfa⟩ := hW
  have hvl := hfa.len
  refine vector_folded_api_Clock_api_Clock.ok ?_
  unfold vector_folded_api_Clock_api_Clock.C
  refine al_rule h (l := [.slice none 0 0]) rfl (fun b2 w1 h1 => ?_)
  refine al_rule h1 (l := [fnv N.vector_Join_1]) rfl (fun b4 w2 h2 => ?_)
  refine slices_Values_sl_api_Clock_api_Clock.ok ?_
  unfold slices_Values_sl_api_Clock_api_Clock.C
  refine al_rule h2 (l := [x]) (sl_cells hx) (fun b5 w3 h3 => ?_)
  have h3 : Ow B w3 ((b2, cel [.slice none 0 0] T.t_api_Clock) :: (b5, cel [x] T.t_sl_api_Clock) :: (b4, cel [fnv N.vector_Join_1] T.t_func_api_Clock_api_Clock_api_Clock) :: H) := h3.perm (List.perm_middle (l₁ := [_, _]))
  refine range_fn (X := [(b2, cel [.slice none 0 0] T.t_api_Clock)]) (H := (b5, cel [x] T.t_sl_api_Clock) :: (b4, cel [fnv N.vector_Join_1] T.t_func_api_Clock_api_Clock_api_Clock) :: H) (A := vector_folded_api_Clock_api_Clock.note) (fuel := 400) mixed
    (val_seq (.head _) ((hx.mono hX).cons.cons) (by omega)) (by simp) (fun a ha => ?_) h3
    (fun i Y => ∃ S v, Y = (b2, cel [v] T.t_api_Clock) :: S ∧ Vc.Own S T.t_uint64 1 v ((ls.take i).foldl jn []).length (qv ((ls.take i).foldl jn []))) (fun _ _ => False) ⟨[], _, rfl, own_none _ _⟩ ?_ ?_ ?_
  · obtain ⟨i, hi⟩ := List.getElem?_of_mem ha
    obtain ⟨c, _, rfl⟩ := one1_of hi
    rfl
  · rintro lp r n args Y F R w4 hL ⟨S, v, rfl, ho⟩ hF h4 k1 k2 u
    obtain ⟨c, hc, rfl⟩ := one1_of hL
    have hn : n < ls.length := by rw [← hvl]; exact (List.getElem?_eq_some_iff.1 hc).1
    obtain ⟨c', l, hc', hl', hsl, hb⟩ := hfa.at hn
    rw [hc] at hc'
    cases hc'
    have hlm := hll l (List.mem_of_getElem? hl')
    have hfl := fold_len (ls.take n) [] 500 (by simp) (fun y hy => hll y (List.mem_of_mem_take hy))
    refine Eq.mpr (vector_folded_api_Clock_api_Clock.Rd0_eq lp R _ _ _ w4 u) ?_
    unfold vector_folded_api_Clock_api_Clock.Rd0
    refine rbeg h4 (fun w5 h5 => ?_)
    refine ld_here h5 (.tail _ (.tail _ (List.mem_append_right _ (hF _ (.tail _ (.head _)))))) rfl ?_
    refine ld_here h5 (.tail _ (.head _)) rfl ?_
    refine callV_fn vector_Join_1.okf ?_
    have h5 : Ow B w5 (S ++ ([(lp, recB r), (b2, cel [v] T.t_api_Clock)] ++ F)) := h5.perm (List.perm_append_comm_assoc [_, _] S F)
    refine join1_spec h5 ho hsl (fun y hy => .tail _ (.tail _ (hF _ (.tail _ (.tail _ (hX y hy)))))) (by omega) (by omega) (fun S' v' w6 h6 ho' => ?_)
    have h6 : Ow B w6 ((lp, recB r) :: (b2, cel [v] T.t_api_Clock) :: (S' ++ F)) := h6.perm (List.perm_append_comm_assoc S' [_, _] F)
    refine st1_here (A := [_]) h6 (sl_cells ho'.sl) (sl_plain ho'.sl) (by simp) (fun w7 h7 => ?_)
    have e : (ls.take (n + 1)).foldl jn [] = jn ((ls.take n).foldl jn []) l := by
      rw [List.take_add_one, hl', Option.toList, List.foldl_append]; rfl
    refine rend_go h7 (fun w8 h8 => k1 ((b2, cel [v'] T.t_api_Clock) :: S') w8 ⟨S', v', rfl, ?_⟩ h8)
    rw [e]
    exact ho'
  · rintro mk Y w4 ⟨S, v, rfl, ho⟩ h4
    have e : (one1 vs).length = ls.length := by simp [one1, hvl]
    rw [e, List.take_length] at ho
    refine ld_here h4 (.tail _ (.head _)) rfl ?_
    refine lv_ret h4 (fun w8 h8 => ?_)
    refine k S v _ ?_ ho
    have h8 : Ow B w8 (S ++ ((b5, cel [x] T.t_sl_api_Clock) :: (b4, cel [fnv N.vector_Join_1] T.t_func_api_Clock_api_Clock_api_Clock) :: H)) := h8.drop
    exact h8.sub ((List.Sublist.refl S).append (.cons _ (.cons _ (.refl _))))
  · rintro _ _ _ _ hz
    exact hz.elim
theorem join_spec {x : Value} {ls : List (List Nat)} {X0 : Hp} (h : Ow B w H) (hW : Wr X0 x ls) (hX : ∀ y, y ∈ X0 → y ∈ H) (hl : ls.length < 1000) (hll : ∀ l ∈ ls, l.length ≤ 500)
    (k : ∀ S v w', Ow B w' (S ++ H) → Cl S v (joins ls) → K v w') : callW PG N.vector_Join [x] K PK w := by
  refine vector_Join.ok ?_
  unfold vector_Join.C
  refine folded_spec h hW hX hl hll (fun S v w1 h1 ho => ?_)
  have hfl := fold_len ls [] 500 (by simp) hll
  refine trim_spec h1 ho.sl (fun x hx => List.mem_append_left _ hx) (by omega) (fun S2 v2 w2 h2 hv2 => ?_)
  refine k S2 v2 w2 ?_ hv2
  exact h2.sub ((List.Sublist.refl S2).append (List.sublist_append_right _ _))
theorem rjoin_spec {x : Value} {ls : List (List Nat)} {X0 : Hp} (h : Ow B w H) (hW : Wr X0 x ls) (hX : ∀ y, y ∈ X0 → y ∈ H) (hl : ls.length < 1000) (hll : ∀ l ∈ ls, l.length ≤ 500)
    (k : ∀ S v w', Ow B w' (S ++ H) → Cl S v (joins ls) → K v w') : callW PG N.linesmanref04_Join [x] K PK w := by
  obtain ⟨vs, hx, hfa⟩ := hW
  have hvl := hfa.len
  refine linesmanref04_Join.ok ?_
  unfold linesmanref04_Join.C
  refine ⟨fun l' w => ∃ (i : Nat) (S : Hp) (v : Value), l' = [v, vI i] ∧ i ≤ ls.length ∧ Vc.Own S T.t_uint64 1 v ((ls.take i).foldl jn []).length (qv ((ls.take i).foldl jn [])) ∧ Ow B w (S ++ H), fun l' _ => match l' with | [_, .int _ n] => ls.length - n.toNat | _ => 0, ⟨0, [], _, rfl, Nat.zero_le _, own_none _ _, h⟩, ?_⟩
  rintro l' w2 ⟨i, S, v, rfl, hi, ho, h2⟩ j
  refine sl_ln hx ?_
  rw [hvl]
  repeat (first | refine pu_not ?_ | refine pu_eql ?_ | refine pu_neq ?_ | refine pu_lss ?_ | refine pu_leq ?_ | refine pu_gtr ?_ | refine pu_geq ?_ | refine pu_add ?_ | refine pu_sub ?_ | refine pu_mul ?_ | refine pu_neg ?_ | refine fa_at ?_ | refine nl_ptr ?_ | refine ex20 ?_ | refine ex21 ?_ | refine ex30 ?_ | refine ex31 ?_ | refine ex32 ?_ | refine ln_rule ?_ | refine lnT_rule ?_ | refine pu_and ?_ | refine pu_or ?_ | refine pu_xor ?_ | refine pu_seq ?_ | refine pu_sne ?_)
  refine cnd (fun hlt => ?_) (fun hlt => ?_)
  · have hlt : i < ls.length := by simpa using hlt
    obtain ⟨u, c, hu, hl', hsl, hb⟩ := hfa.at hlt
    have hc := hll c (List.mem_of_getElem? hl')
    have hfl := fold_len (ls.take i) [] 500 (by simp) (fun y hy => hll y (List.mem_of_mem_take hy))
    have e0 : (ls.take (i + 1)).foldl jn [] = jn ((ls.take i).foldl jn []) c := by
      rw [List.take_add_one, hl', Option.toList, List.foldl_append]; rfl
    generalize (ls.take i).foldl jn [] = a at *
    have hmem : ∀ {S : Hp}, ∀ y, y ∈ X0 → y ∈ S ++ H := fun y hy => List.mem_append_right _ (hX y hy)
    refine ⟨fun l' w => ∃ (q : Nat) (S : Hp) (v : Value), l' = [v, vI q] ∧ q ≤ c.length ∧ Vc.Own S T.t_uint64 1 v (jn a (c.take q)).length (qv (jn a (c.take q))) ∧ Ow B w (S ++ H), fun l' _ => match l' with | [_, .int _ n] => c.length - n.toNat | _ => 0, ⟨0, S, v, rfl, Nat.zero_le _, by rw [List.take_zero, jn_nil]; exact ho, h2⟩, ?_⟩
    clear h2 ho
    rintro l' w3 ⟨q, S, v, rfl, hq, ho, h3⟩ j2
    refine sl_ld h3 (hx.mono hmem) (by omega) (by rw [Int.toNat_natCast]; exact hu) ?_
    refine sl_ln hsl ?_
    rw [List.length_map]
    have hlen : (jn a (c.take q)).length = max a.length q := by rw [jn_len, List.length_take]; omega
    repeat (first | refine pu_not ?_ | refine pu_eql ?_ | refine pu_neq ?_ | refine pu_lss ?_ | refine pu_leq ?_ | refine pu_gtr ?_ | refine pu_geq ?_ | refine pu_add ?_ | refine pu_sub ?_ | refine pu_mul ?_ | refine pu_neg ?_ | refine fa_at ?_ | refine nl_ptr ?_ | refine ex20 ?_ | refine ex21 ?_ | refine ex30 ?_ | refine ex31 ?_ | refine ex32 ?_ | refine ln_rule ?_ | refine lnT_rule ?_ | refine pu_and ?_ | refine pu_or ?_ | refine pu_xor ?_ | refine pu_seq ?_ | refine pu_sne ?_)
    refine cnd (fun hlt2 => ?_) (fun hlt2 => ?_)
    · have hlt2 : q < c.length := by simpa using hlt2
      have hst := jn_step (s := a) hlt2
      have hxl : (ext (jn a (c.take q)) q).length = max a.length (q + 1) := by
        unfold ext
        split
        · rw [List.length_append, hlen]; simp; omega
        · rw [hlen]; omega
      refine sl_ln ho.sl ?_
      rw [List.length_map]
      repeat (first | refine pu_not ?_ | refine pu_eql ?_ | refine pu_neq ?_ | refine pu_lss ?_ | refine pu_leq ?_ | refine pu_gtr ?_ | refine pu_geq ?_ | refine pu_add ?_ | refine pu_sub ?_ | refine pu_mul ?_ | refine pu_neg ?_ | refine fa_at ?_ | refine nl_ptr ?_ | refine ex20 ?_ | refine ex21 ?_ | refine ex30 ?_ | refine ex31 ?_ | refine ex32 ?_ | refine ln_rule ?_ | refine lnT_rule ?_ | refine pu_and ?_ | refine pu_or ?_ | refine pu_xor ?_ | refine pu_seq ?_ | refine pu_sne ?_)
      refine cnd (fun he => ?_) (fun he => ?_)
      · have he : q = (jn a (c.take q)).length := by simp at he; omega
        refine ext_own (A := []) h3 ho he (by omega) (fun S4 v4 w4 h4 ho4 => ?_)
        refine ⟨fun w => Ow B w (S4 ++ H), h4.drew, ?_⟩
        refine sl_lds (fun w h => h) (ho4.sl.mono fun x hx => List.mem_append_left _ hx) (by omega) (by rw [Int.toNat_natCast]; exact qv_at (by omega)) ?_
        refine sl_lds (fun w h => h) (hx.mono hmem) (by omega) (by rw [Int.toNat_natCast]; exact hu) ?_
        refine sl_lds (fun w h => h) (hsl.mono hmem) (by omega) (by rw [Int.toNat_natCast]; exact qv_at hlt2) ?_
        refine max64 ?_
        refine own_set (A := []) h4.drew ho4 (by omega) (by omega) rfl rfl (fun S5 w5 h5 ho5 => ?_)
        repeat (first | refine pu_not ?_ | refine pu_eql ?_ | refine pu_neq ?_ | refine pu_lss ?_ | refine pu_leq ?_ | refine pu_gtr ?_ | refine pu_geq ?_ | refine pu_add ?_ | refine pu_sub ?_ | refine pu_mul ?_ | refine pu_neg ?_ | refine fa_at ?_ | refine nl_ptr ?_ | refine ex20 ?_ | refine ex21 ?_ | refine ex30 ?_ | refine ex31 ?_ | refine ex32 ?_ | refine ln_rule ?_ | refine lnT_rule ?_ | refine pu_and ?_ | refine pu_or ?_ | refine pu_xor ?_ | refine pu_seq ?_ | refine pu_sne ?_)
        rw [wrap64_in (by omega) (by omega)]
        refine ⟨⟨q + 1, S5, _, rfl, hlt2, ?_, h5⟩, by simp; omega⟩
        rw [Int.toNat_natCast, ← List.map_set, hst] at ho5
        rw [hxl] at ho5
        have hl2 : (jn a (c.take (q + 1))).length = max a.length (q + 1) := by rw [jn_len, List.length_take]; omega
        rw [hl2]
        exact ho5
      · have he : ¬ q = (jn a (c.take q)).length := by simp at he; omega
        have e : ext (jn a (c.take q)) q = jn a (c.take q) := by unfold ext; rw [if_neg he]
        have h4 := h3
        obtain ⟨S4, hS4⟩ : ∃ S4, S4 = S := ⟨S, rfl⟩
        have ho4 : Vc.Own S4 T.t_uint64 1 v (ext (jn a (c.take q)) q).length (qv (ext (jn a (c.take q)) q)) := by rw [e, hS4]; exact ho
        rw [← hS4] at h4
        refine ⟨fun w => Ow B w (S4 ++ H), h4.drew, ?_⟩
        refine sl_lds (fun w h => h) (ho4.sl.mono fun x hx => List.mem_append_left _ hx) (by omega) (by rw [Int.toNat_natCast]; exact qv_at (by omega)) ?_
        refine sl_lds (fun w h => h) (hx.mono hmem) (by omega) (by rw [Int.toNat_natCast]; exact hu) ?_
        refine sl_lds (fun w h => h) (hsl.mono hmem) (by omega) (by rw [Int.toNat_natCast]; exact qv_at hlt2) ?_
        refine max64 ?_
        refine own_set (A := []) h4.drew ho4 (by omega) (by omega) rfl rfl (fun S5 w5 h5 ho5 => ?_)
        repeat (first | refine pu_not ?_ | refine pu_eql ?_ | refine pu_neq ?_ | refine pu_lss ?_ | refine pu_leq ?_ | refine pu_gtr ?_ | refine pu_geq ?_ | refine pu_add ?_ | refine pu_sub ?_ | refine pu_mul ?_ | refine pu_neg ?_ | refine fa_at ?_ | refine nl_ptr ?_ | refine ex20 ?_ | refine ex21 ?_ | refine ex30 ?_ | refine ex31 ?_ | refine ex32 ?_ | refine ln_rule ?_ | refine lnT_rule ?_ | refine pu_and ?_ | refine pu_or ?_ | refine pu_xor ?_ | refine pu_seq ?_ | refine pu_sne ?_)
        rw [wrap64_in (by omega) (by omega)]
        refine ⟨⟨q + 1, S5, _, rfl, hlt2, ?_, h5⟩, by simp; omega⟩
        rw [Int.toNat_natCast, ← List.map_set, hst] at ho5
        rw [hxl] at ho5
        have hl2 : (jn a (c.take (q + 1))).length = max a.length (q + 1) := by rw [jn_len, List.length_take]; omega
        rw [hl2]
        exact ho5
    · obtain rfl : q = c.length := by simp at hlt2; omega
      rw [List.take_length] at ho
      repeat (first | refine pu_not ?_ | refine pu_eql ?_ | refine pu_neq ?_ | refine pu_lss ?_ | refine pu_leq ?_ | refine pu_gtr ?_ | refine pu_geq ?_ | refine pu_add ?_ | refine pu_sub ?_ | refine pu_mul ?_ | refine pu_neg ?_ | refine fa_at ?_ | refine nl_ptr ?_ | refine ex20 ?_ | refine ex21 ?_ | refine ex30 ?_ | refine ex31 ?_ | refine ex32 ?_ | refine ln_rule ?_ | refine lnT_rule ?_ | refine pu_and ?_ | refine pu_or ?_ | refine pu_xor ?_ | refine pu_seq ?_ | refine pu_sne ?_)
      rw [wrap64_in (by omega) (by omega)]
      refine ⟨⟨i + 1, S, v, rfl, hlt, ?_, h3⟩, by simp; omega⟩
      rw [e0]
      exact ho
  · obtain rfl : i = ls.length := by simp at hlt; omega
    rw [List.take_length] at ho
    have hfl := fold_len ls [] 500 (by simp) hll
    refine rtrim_spec h2 ho.sl (fun x hx => List.mem_append_left _ hx) (by omega) (fun S2 v2 w3 h3 hv2 => ?_)
    refine k S2 v2 w3 ?_ hv2
    exact h3.sub ((List.Sublist.refl S2).append (List.sublist_append_right _ _))
end
end Go.Proofs.Ytobanjfpoeinhaa
