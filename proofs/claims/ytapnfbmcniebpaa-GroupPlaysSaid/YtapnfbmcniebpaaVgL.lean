/- The laws' own helpers: act and is. -/
import Derived.Test.YtapnfbmcniebpaaVgK
import Derived.Test.YtapnfbmcniebpaaVnS
set_option linter.unusedVariables false
set_option linter.unusedSimpArgs false
namespace Go.Proofs.Ytapnfbmcniebpaa
open Go Go.RowKit Vc
attribute [local irreducible] binV Op.unary convert

section
variable {B w : World} {H : Hp} {K : Value → World → Prop} {PK : List PanicEntry → World → Prop}
def actL (xs : List Int) (what i n : Int) : List Int := if what < 0 ∨ what > 4 then xs else (rAdd xs i n).1
theorem actL_wf {xs : List Int} (h : RWf xs) (what i n : Int) : RWf (actL xs what i n) ∧ (actL xs what i n).length = xs.length := by
  unfold actL
  split
  · exact ⟨h, rfl⟩
  · exact h.add i n
abbrev TG := T.t_linesmanref15_Groups
theorem act_spec {X0 : Hp} {s : Value} {b : Nat} {xs : List Int} {what i n : Int} (h : Ow B w ((b, (gOf xs).obj) :: H)) (hs : Sl X0 s (xs.map vI)) (hX : ∀ x, x ∈ X0 → x ∈ H) (hx : RWf xs)
    (k : ∀ b' Y s' w', Ow B w' ((b', (gOf (actL xs what i n)).obj) :: (Y ++ H)) → Sl (Y ++ X0) s' ((actL xs what i n).map vI) → K (.tuple #[ptr b', .agg #[s'], vB true]) w') :
    callW PG N.linesmanlaw15_act [ptr b, .agg #[s], .agg #[vI what, vI i, vI n]] K PK w := by
  have hsp := sl_plain hs
  have hg := gOf_wf hx
  refine linesmanlaw15_act.ok ?_
  unfold linesmanlaw15_act.C
  refine al_rule h (l := [s]) rfl (fun b2 w2 h2 => ?_)
  refine al_rule h2 (l := [vI what, vI i, vI n]) rfl (fun b4 w4 h4 => ?_)
  refine al_rule h4 (l := [.slice none 0 0]) (by kernel_rfl) (fun b6 w6 h6 => ?_)
  repeat (first | refine pu_not ?_ | refine pu_eql ?_ | refine pu_neq ?_ | refine pu_lss ?_ | refine pu_leq ?_ | refine pu_gtr ?_ | refine pu_geq ?_ | refine pu_add ?_ | refine pu_sub ?_ | refine pu_mul ?_ | refine pu_neg ?_ | refine fa_at ?_ | refine nl_ptr ?_ | refine ex20 ?_ | refine ex21 ?_ | refine ex30 ?_ | refine ex31 ?_ | refine ex32 ?_ | refine ln_rule ?_ | refine lnT_rule ?_ | refine pu_and ?_ | refine pu_or ?_ | refine pu_xor ?_ | refine pu_seq ?_ | refine pu_sne ?_)
  refine ld_here h6 (.tail _ (.head _)) rfl ?_
  repeat (first | refine pu_not ?_ | refine pu_eql ?_ | refine pu_neq ?_ | refine pu_lss ?_ | refine pu_leq ?_ | refine pu_gtr ?_ | refine pu_geq ?_ | refine pu_add ?_ | refine pu_sub ?_ | refine pu_mul ?_ | refine pu_neg ?_ | refine fa_at ?_ | refine nl_ptr ?_ | refine ex20 ?_ | refine ex21 ?_ | refine ex30 ?_ | refine ex31 ?_ | refine ex32 ?_ | refine ln_rule ?_ | refine lnT_rule ?_ | refine pu_and ?_ | refine pu_or ?_ | refine pu_xor ?_ | refine pu_seq ?_ | refine pu_sne ?_)
  refine cnd (fun hlt => ?_) (fun hge => ?_)
  · have e : actL xs what i n = xs := by simp at hlt; simp [actL, hlt]
    rw [e] at k
    refine ⟨fun w => Ow B w ((b6, cel [.slice none 0 0] TG) :: (b4, cel [vI what, vI i, vI n] T.t_linesmanlaw15_Act) :: (b2, cel [s] TG) :: (b, (gOf xs).obj) :: H), h6.drew, ?_⟩
    refine lds1 (fun w h => h) (.tail _ (.tail _ (.head _))) ?_
    refine copy_spec hg rfl h6.drew (.tail _ (.tail _ (.tail _ (.head _)))) (fun b' w7 h7 => ?_)
    refine ⟨h7.drop, ?_⟩
    refine st1s (A := [_]) h7 hsp (fun w8 h8 => ?_)
    refine ld1 h8 (.tail _ (.head _)) ?_
    exact k b' [(b, (gOf xs).obj)] s _ (h8.sub (.cons_cons _ (.cons _ (.cons _ (.cons _ (.refl _)))))) (hs.mono fun x hx => .tail _ hx)
  · repeat (first | refine pu_not ?_ | refine pu_eql ?_ | refine pu_neq ?_ | refine pu_lss ?_ | refine pu_leq ?_ | refine pu_gtr ?_ | refine pu_geq ?_ | refine pu_add ?_ | refine pu_sub ?_ | refine pu_mul ?_ | refine pu_neg ?_ | refine fa_at ?_ | refine nl_ptr ?_ | refine ex20 ?_ | refine ex21 ?_ | refine ex30 ?_ | refine ex31 ?_ | refine ex32 ?_ | refine ln_rule ?_ | refine lnT_rule ?_ | refine pu_and ?_ | refine pu_or ?_ | refine pu_xor ?_ | refine pu_seq ?_ | refine pu_sne ?_)
    refine ld_here h6 (.tail _ (.head _)) rfl ?_
    repeat (first | refine pu_not ?_ | refine pu_eql ?_ | refine pu_neq ?_ | refine pu_lss ?_ | refine pu_leq ?_ | refine pu_gtr ?_ | refine pu_geq ?_ | refine pu_add ?_ | refine pu_sub ?_ | refine pu_mul ?_ | refine pu_neg ?_ | refine fa_at ?_ | refine nl_ptr ?_ | refine ex20 ?_ | refine ex21 ?_ | refine ex30 ?_ | refine ex31 ?_ | refine ex32 ?_ | refine ln_rule ?_ | refine lnT_rule ?_ | refine pu_and ?_ | refine pu_or ?_ | refine pu_xor ?_ | refine pu_seq ?_ | refine pu_sne ?_)
    refine cnd (fun hlt => ?_) (fun hge2 => ?_)
    · have e : actL xs what i n = xs := by simp at hlt; simp [actL, hlt]
      rw [e] at k
      refine ⟨fun w => Ow B w ((b6, cel [.slice none 0 0] TG) :: (b4, cel [vI what, vI i, vI n] T.t_linesmanlaw15_Act) :: (b2, cel [s] TG) :: (b, (gOf xs).obj) :: H), h6.drew, ?_⟩
      refine lds1 (fun w h => h) (.tail _ (.tail _ (.head _))) ?_
      refine copy_spec hg rfl h6.drew (.tail _ (.tail _ (.tail _ (.head _)))) (fun b' w7 h7 => ?_)
      refine ⟨h7.drop, ?_⟩
      refine st1s (A := [_]) h7 hsp (fun w8 h8 => ?_)
      refine ld1 h8 (.tail _ (.head _)) ?_
      exact k b' [(b, (gOf xs).obj)] s _ (h8.sub (.cons_cons _ (.cons _ (.cons _ (.cons _ (.refl _)))))) (hs.mono fun x hx => .tail _ hx)
    · have e : actL xs what i n = (rAdd xs i n).1 := by simp at hge hge2; unfold actL; rw [if_neg (by omega)]
      rw [e] at k
      refine ld1 h6 (.tail _ (.tail _ (.head _))) ?_
      repeat (first | refine pu_not ?_ | refine pu_eql ?_ | refine pu_neq ?_ | refine pu_lss ?_ | refine pu_leq ?_ | refine pu_gtr ?_ | refine pu_geq ?_ | refine pu_add ?_ | refine pu_sub ?_ | refine pu_mul ?_ | refine pu_neg ?_ | refine fa_at ?_ | refine nl_ptr ?_ | refine ex20 ?_ | refine ex21 ?_ | refine ex30 ?_ | refine ex31 ?_ | refine ex32 ?_ | refine ln_rule ?_ | refine lnT_rule ?_ | refine pu_and ?_ | refine pu_or ?_ | refine pu_xor ?_ | refine pu_seq ?_ | refine pu_sne ?_)
      refine ld_here h6 (.tail _ (.head _)) rfl ?_
      repeat (first | refine pu_not ?_ | refine pu_eql ?_ | refine pu_neq ?_ | refine pu_lss ?_ | refine pu_leq ?_ | refine pu_gtr ?_ | refine pu_geq ?_ | refine pu_add ?_ | refine pu_sub ?_ | refine pu_mul ?_ | refine pu_neg ?_ | refine fa_at ?_ | refine nl_ptr ?_ | refine ex20 ?_ | refine ex21 ?_ | refine ex30 ?_ | refine ex31 ?_ | refine ex32 ?_ | refine ln_rule ?_ | refine lnT_rule ?_ | refine pu_and ?_ | refine pu_or ?_ | refine pu_xor ?_ | refine pu_seq ?_ | refine pu_sne ?_)
      refine ld_here h6 (.tail _ (.head _)) rfl ?_
      refine refAdd_spec h6 hs (fun x hx => .tail _ (.tail _ (.tail _ (.tail _ (hX x hx))))) hx (fun S s' w7 h7 hs' => ?_)
      have h7 : Ow B w7 ((b6, cel [.slice none 0 0] TG) :: (b4, cel [vI what, vI i, vI n] T.t_linesmanlaw15_Act) :: (b2, cel [s] TG) :: (b, (gOf xs).obj) :: (S ++ H)) := mvo (L := [_, _, _, _]) h7
      have hsp' := sl_plain hs'
      repeat (first | refine pu_not ?_ | refine pu_eql ?_ | refine pu_neq ?_ | refine pu_lss ?_ | refine pu_leq ?_ | refine pu_gtr ?_ | refine pu_geq ?_ | refine pu_add ?_ | refine pu_sub ?_ | refine pu_mul ?_ | refine pu_neg ?_ | refine fa_at ?_ | refine nl_ptr ?_ | refine ex20 ?_ | refine ex21 ?_ | refine ex30 ?_ | refine ex31 ?_ | refine ex32 ?_ | refine ln_rule ?_ | refine lnT_rule ?_ | refine pu_and ?_ | refine pu_or ?_ | refine pu_xor ?_ | refine pu_seq ?_ | refine pu_sne ?_)
      refine al_rule h7 (l := [.slice none 0 0]) (by kernel_rfl) (fun b8 w8 h8 => ?_)
      refine st1s (A := []) h8 hsp' (fun w9 h9 => ?_)
      repeat (first | refine pu_not ?_ | refine pu_eql ?_ | refine pu_neq ?_ | refine pu_lss ?_ | refine pu_leq ?_ | refine pu_gtr ?_ | refine pu_geq ?_ | refine pu_add ?_ | refine pu_sub ?_ | refine pu_mul ?_ | refine pu_neg ?_ | refine fa_at ?_ | refine nl_ptr ?_ | refine ex20 ?_ | refine ex21 ?_ | refine ex30 ?_ | refine ex31 ?_ | refine ex32 ?_ | refine ln_rule ?_ | refine lnT_rule ?_ | refine pu_and ?_ | refine pu_or ?_ | refine pu_xor ?_ | refine pu_seq ?_ | refine pu_sne ?_)
      refine ld_here h9 (.tail _ (.tail _ (.head _))) rfl ?_
      repeat (first | refine pu_not ?_ | refine pu_eql ?_ | refine pu_neq ?_ | refine pu_lss ?_ | refine pu_leq ?_ | refine pu_gtr ?_ | refine pu_geq ?_ | refine pu_add ?_ | refine pu_sub ?_ | refine pu_mul ?_ | refine pu_neg ?_ | refine fa_at ?_ | refine nl_ptr ?_ | refine ex20 ?_ | refine ex21 ?_ | refine ex30 ?_ | refine ex31 ?_ | refine ex32 ?_ | refine ln_rule ?_ | refine lnT_rule ?_ | refine pu_and ?_ | refine pu_or ?_ | refine pu_xor ?_ | refine pu_seq ?_ | refine pu_sne ?_)
      refine ld_here h9 (.tail _ (.tail _ (.head _))) rfl ?_
      refine add_spec (A := [_, _, _, _]) hg h9 (fun w10 h10 => ?_)
      rw [gOf_add] at h10 ⊢
      have h10 : Ow B w10 ((b8, cel [s'] TG) :: (b6, cel [.slice none 0 0] TG) :: (b4, cel [vI what, vI i, vI n] T.t_linesmanlaw15_Act) :: (b2, cel [s] TG) :: (b, (gOf (rAdd xs i n).1).obj) :: (S ++ H)) := h10
      repeat (first | refine pu_not ?_ | refine pu_eql ?_ | refine pu_neq ?_ | refine pu_lss ?_ | refine pu_leq ?_ | refine pu_gtr ?_ | refine pu_geq ?_ | refine pu_add ?_ | refine pu_sub ?_ | refine pu_mul ?_ | refine pu_neg ?_ | refine fa_at ?_ | refine nl_ptr ?_ | refine ex20 ?_ | refine ex21 ?_ | refine ex30 ?_ | refine ex31 ?_ | refine ex32 ?_ | refine ln_rule ?_ | refine lnT_rule ?_ | refine pu_and ?_ | refine pu_or ?_ | refine pu_xor ?_ | refine pu_seq ?_ | refine pu_sne ?_)
      refine ⟨fun w => Ow B w ((b8, cel [s'] TG) :: (b6, cel [.slice none 0 0] TG) :: (b4, cel [vI what, vI i, vI n] T.t_linesmanlaw15_Act) :: (b2, cel [s] TG) :: (b, (gOf (rAdd xs i n).1).obj) :: (S ++ H)), h10.drew, ?_⟩
      refine lds1 (fun w h => h) (.head _) ?_
      repeat (first | refine pu_not ?_ | refine pu_eql ?_ | refine pu_neq ?_ | refine pu_lss ?_ | refine pu_leq ?_ | refine pu_gtr ?_ | refine pu_geq ?_ | refine pu_add ?_ | refine pu_sub ?_ | refine pu_mul ?_ | refine pu_neg ?_ | refine fa_at ?_ | refine nl_ptr ?_ | refine ex20 ?_ | refine ex21 ?_ | refine ex30 ?_ | refine ex31 ?_ | refine ex32 ?_ | refine ln_rule ?_ | refine lnT_rule ?_ | refine pu_and ?_ | refine pu_or ?_ | refine pu_xor ?_ | refine pu_seq ?_ | refine pu_sne ?_)
      refine cnd_t (by simp) ?_
      refine num_spec ?_
      refine ⟨h10.drew, ?_⟩
      repeat (first | refine pu_not ?_ | refine pu_eql ?_ | refine pu_neq ?_ | refine pu_lss ?_ | refine pu_leq ?_ | refine pu_gtr ?_ | refine pu_geq ?_ | refine pu_add ?_ | refine pu_sub ?_ | refine pu_mul ?_ | refine pu_neg ?_ | refine fa_at ?_ | refine nl_ptr ?_ | refine ex20 ?_ | refine ex21 ?_ | refine ex30 ?_ | refine ex31 ?_ | refine ex32 ?_ | refine ln_rule ?_ | refine lnT_rule ?_ | refine pu_and ?_ | refine pu_or ?_ | refine pu_xor ?_ | refine pu_seq ?_ | refine pu_sne ?_)
      refine st1s (A := [_]) h10.drew hsp' (fun w11 h11 => ?_)
      refine ld1 h11 (.tail _ (.head _)) ?_
      have e2 : ((rAdd xs i n).2.2 == (rAdd xs i n).2.2) = true := by simp
      rw [e2]
      exact k b S s' _ (h11.sub (.cons _ (.cons _ (.cons _ (.cons _ (.refl _)))))) hs'

theorem opens_ge (xs : List Int) : opens (xs ++ List.replicate (64 - xs.length) 0) 64 = opens xs xs.length ∨ 64 < xs.length := by
  by_cases h : 64 < xs.length
  · exact .inr h
  · refine .inl ?_
    have key : ∀ k, k ≤ 64 - xs.length → opens (xs ++ List.replicate (64 - xs.length) 0) (xs.length + k) = opens xs xs.length := by
      intro k
      induction k with
      | zero =>
        intro _
        unfold opens
        congr 1
        refine List.filter_congr fun i hi => ?_
        have hi : i < xs.length := by simpa using hi
        have : rAt (xs ++ List.replicate (64 - xs.length) 0) i = rAt xs i := by simp [rAt, List.getD, List.getElem?_append_left hi]
        rw [this]
      | succ k ih =>
        intro hk
        have := ih (by omega)
        rw [← Nat.add_assoc, opens_succ, this, if_neg, List.append_nil]
        have : rAt (xs ++ List.replicate (64 - xs.length) 0) ((xs.length + k : Nat) : Int) = 0 := by
          unfold rAt
          rw [Int.toNat_natCast, List.getD_eq_getElem?_getD, List.getElem?_append_right (by omega)]
          simp [List.getElem?_replicate, show k < 64 - xs.length by omega]
        omega
    have := key (64 - xs.length) (Nat.le_refl _)
    rwa [show xs.length + (64 - xs.length) = 64 by omega] at this
theorem rAt_pad {xs : List Int} {i : Nat} (h : 0 < rAt (xs ++ List.replicate (64 - xs.length) 0) i) : i < xs.length ∧ rAt (xs ++ List.replicate (64 - xs.length) 0) i = rAt xs i := by
  by_cases hi : i < xs.length
  · exact ⟨hi, by simp [rAt, List.getD, List.getElem?_append_left hi]⟩
  · exfalso
    unfold rAt at h
    rw [Int.toNat_natCast, List.getD_eq_getElem?_getD, List.getElem?_append_right (by omega), List.getElem?_replicate] at h
    split at h <;> simp at h
theorem openL_of {xs : List Int} {n i : Nat} {args : List Value} (h : (openL xs n)[i]? = some args) : ∃ j : Nat, (opens xs n)[i]? = some (j : Int) ∧ args = [vI j, vI (rAt xs j)] ∧ 0 < rAt xs j := by
  unfold openL at h
  rw [List.getElem?_map, Option.map_eq_some_iff] at h
  obtain ⟨j, hj, rfl⟩ := h
  refine ⟨j, by unfold opens; rw [List.getElem?_map, hj]; rfl, rfl, ?_⟩
  have := List.mem_of_getElem? hj
  simpa using (List.mem_filter.1 this).2

theorem is_spec {s : Value} {b : Nat} {xs : List Int} {m : Int} (h : Ow B w H) (hb : (b, (gOf xs).obj) ∈ H) (hs : Sl H s (xs.map vI)) (hx : RWf xs) (k : ∀ w', Ow B w' H → K (vB true) w') :
    callW PG N.linesmanlaw15_is [ptr b, .agg #[s], vI m] K PK w := by
  have hg := gOf_wf hx
  have hlen := hx.len
  refine linesmanlaw15_is.ok ?_
  unfold linesmanlaw15_is.C
  refine al_rule h (l := [s]) rfl (fun b2 w2 h2 => ?_)
  refine al_rule h2 (l := [vI m]) rfl (fun b4 w4 h4 => ?_)
  refine al_rule h4 (l := [vB false]) (by kernel_rfl) (fun b6 w6 h6 => ?_)
  refine ⟨fun l w => ∃ i : Int, l = [vI i] ∧ -1 ≤ i ∧ i ≤ 65 ∧ Ow B w ((b6, cel [vB false] T.t_bool) :: (b4, cel [vI m] T.t_int) :: (b2, cel [s] TG) :: H), fun l _ => match l with | [.int _ n] => (65 - n).toNat | _ => 0, ⟨-1, rfl, by omega, by omega, h6⟩, ?_⟩
  rintro l w7 ⟨i, rfl, hi0, hi1, h7⟩ j
  repeat (first | refine pu_not ?_ | refine pu_eql ?_ | refine pu_neq ?_ | refine pu_lss ?_ | refine pu_leq ?_ | refine pu_gtr ?_ | refine pu_geq ?_ | refine pu_add ?_ | refine pu_sub ?_ | refine pu_mul ?_ | refine pu_neg ?_ | refine fa_at ?_ | refine nl_ptr ?_ | refine ex20 ?_ | refine ex21 ?_ | refine ex30 ?_ | refine ex31 ?_ | refine ex32 ?_ | refine ln_rule ?_ | refine lnT_rule ?_ | refine pu_and ?_ | refine pu_or ?_ | refine pu_xor ?_ | refine pu_seq ?_ | refine pu_sne ?_)
  refine cnd (fun hle => ?_) (fun hgt => ?_)
  · have hle : i ≤ 64 := by simpa using hle
    refine ⟨fun w => Ow B w ((b6, cel [vB false] T.t_bool) :: (b4, cel [vI m] T.t_int) :: (b2, cel [s] TG) :: H), h7.drew, ?_⟩
    refine lds1 (fun w h => h) (.tail _ (.tail _ (.head _))) ?_
    refine count_spec hg h7.drew (.tail _ (.tail _ (.tail _ hb))) (fun w8 h8 => ?_)
    refine ⟨h8, ?_⟩
    refine refCount_spec h8 hs.cons.cons.cons (fun w9 h9 => ?_)
    refine ⟨h9, ?_⟩
    have e1 : (if (gOf xs).made = true ∧ 0 ≤ i ∧ i < (gOf xs).many then (gOf xs).cnt i else 0) = if 0 ≤ i ∧ i < xs.length then rAt xs i else 0 := by
      by_cases hc : 0 ≤ i ∧ i < xs.length
      · rw [if_pos ⟨rfl, hc⟩, if_pos hc, gOf_cnt hc.1 hc.2]
      · rw [if_neg (fun hh => hc hh.2), if_neg hc]
    rw [e1]
    repeat (first | refine pu_not ?_ | refine pu_eql ?_ | refine pu_neq ?_ | refine pu_lss ?_ | refine pu_leq ?_ | refine pu_gtr ?_ | refine pu_geq ?_ | refine pu_add ?_ | refine pu_sub ?_ | refine pu_mul ?_ | refine pu_neg ?_ | refine fa_at ?_ | refine nl_ptr ?_ | refine ex20 ?_ | refine ex21 ?_ | refine ex30 ?_ | refine ex31 ?_ | refine ex32 ?_ | refine ln_rule ?_ | refine lnT_rule ?_ | refine pu_and ?_ | refine pu_or ?_ | refine pu_xor ?_ | refine pu_seq ?_ | refine pu_sne ?_)
    refine cnd_f (by simp) ?_
    refine lds1 (fun w h => h) (.tail _ (.tail _ (.head _))) ?_
    refine done_spec hg h9 (.tail _ (.tail _ (.tail _ hb))) (fun w10 h10 => ?_)
    refine ⟨h10, ?_⟩
    refine refDone_spec h10 hs.cons.cons.cons (fun w11 h11 => ?_)
    have e2 : decide ((gOf xs).made = true ∧ 0 ≤ i ∧ i < (gOf xs).many ∧ (gOf xs).cnt i = 0) = decide (0 ≤ i ∧ i < xs.length ∧ rAt xs i = 0) := by
      by_cases hc : 0 ≤ i ∧ i < xs.length
      · rw [gOf_cnt hc.1 hc.2]
        simp [gOf]
      · rw [decide_eq_false (fun hh => hc ⟨hh.2.1, hh.2.2.1⟩), decide_eq_false (fun hh => hc ⟨hh.1, hh.2.1⟩)]
    rw [e2]
    refine pu_bneq und_bool' ?_
    refine cnd_f (by simp) ?_
    repeat (first | refine pu_not ?_ | refine pu_eql ?_ | refine pu_neq ?_ | refine pu_lss ?_ | refine pu_leq ?_ | refine pu_gtr ?_ | refine pu_geq ?_ | refine pu_add ?_ | refine pu_sub ?_ | refine pu_mul ?_ | refine pu_neg ?_ | refine fa_at ?_ | refine nl_ptr ?_ | refine ex20 ?_ | refine ex21 ?_ | refine ex30 ?_ | refine ex31 ?_ | refine ex32 ?_ | refine ln_rule ?_ | refine lnT_rule ?_ | refine pu_and ?_ | refine pu_or ?_ | refine pu_xor ?_ | refine pu_seq ?_ | refine pu_sne ?_)
    rw [wrap64_in (by omega) (by omega)]
    exact ⟨⟨i + 1, rfl, by omega, by omega, h11⟩, by simp; omega⟩
  · refine ld1 h7 (.tail _ (.tail _ (.head _))) ?_
    refine refOpen_spec h7 hs (fun x hx => .tail _ (.tail _ (.tail _ hx))) hx (fun S all w8 h8 hall => ?_)
    have h8 : Ow B w8 ((b6, cel [vB false] T.t_bool) :: (b4, cel [vI m] T.t_int) :: (b2, cel [s] TG) :: (S ++ H)) := mvo (L := [_, _, _]) h8
    refine al_rule h8 (l := [.slice none 0 0]) (by kernel_rfl) (fun b9 w9 h9 => ?_)
    refine st1_here (A := []) h9 (sl_cells hall) (sl_plain hall) (by simp) (fun w10 h10 => ?_)
    simp only [List.set_cons_zero] at h10
    refine open_spec (x := ptr b) (r := false) (g := gOf xs) (.at hg (.tail _ (.tail _ (.tail _ (.tail _ (List.mem_append_right _ hb)))))) h10 (fun b11 w11 h11 => ?_)
    simp only [Bool.false_eq_true, if_false] at h11
    refine ⟨fun w => Ow B w ((b9, cel [all] T.t_sl_int) :: (b6, cel [vB false] T.t_bool) :: (b4, cel [vI m] T.t_int) :: (b2, cel [s] TG) :: (S ++ H)), h11.drew.drop, ?_⟩
    refine pu_fnl (by kernel_rfl) ?_
    refine cnd_f rfl ?_
    repeat (first | refine pu_not ?_ | refine pu_eql ?_ | refine pu_neq ?_ | refine pu_lss ?_ | refine pu_leq ?_ | refine pu_gtr ?_ | refine pu_geq ?_ | refine pu_add ?_ | refine pu_sub ?_ | refine pu_mul ?_ | refine pu_neg ?_ | refine fa_at ?_ | refine nl_ptr ?_ | refine ex20 ?_ | refine ex21 ?_ | refine ex30 ?_ | refine ex31 ?_ | refine ex32 ?_ | refine ln_rule ?_ | refine lnT_rule ?_ | refine pu_and ?_ | refine pu_or ?_ | refine pu_xor ?_ | refine pu_seq ?_ | refine pu_sne ?_)
    refine lds_here (fun w h => h) (.tail _ (.tail _ (.tail _ (.head _)))) rfl ?_
    refine sl_ln hs ?_
    rw [List.length_map]
    refine len_spec hg h11.drew (.tail _ (.tail _ (.tail _ (.tail _ (.tail _ (List.mem_append_right _ hb)))))) (fun w12 h12 => ?_)
    refine ⟨h12.drop, ?_⟩
    rw [if_pos (show (gOf xs).made = true from rfl)]
    have e3 : (gOf xs).many = xs.length := rfl
    rw [e3]
    repeat (first | refine pu_not ?_ | refine pu_eql ?_ | refine pu_neq ?_ | refine pu_lss ?_ | refine pu_leq ?_ | refine pu_gtr ?_ | refine pu_geq ?_ | refine pu_add ?_ | refine pu_sub ?_ | refine pu_mul ?_ | refine pu_neg ?_ | refine fa_at ?_ | refine nl_ptr ?_ | refine ex20 ?_ | refine ex21 ?_ | refine ex30 ?_ | refine ex31 ?_ | refine ex32 ?_ | refine ln_rule ?_ | refine lnT_rule ?_ | refine pu_and ?_ | refine pu_or ?_ | refine pu_xor ?_ | refine pu_seq ?_ | refine pu_sne ?_)
    refine cnd_f (by simp) ?_
    refine al_rule h12 (l := [vI 0]) (by kernel_rfl) (fun b13 w13 h13 => ?_)
    refine st1_here (A := []) h13 rfl rfl (by simp) (fun w14 h14 => ?_)
    simp only [List.set_cons_zero] at h14
    have hol : (openL (gOf xs).of 64).length = (opens xs xs.length).length := by
      rw [openL_len]
      rcases opens_ge xs with h | h
      · show (opens (xs ++ _) 64).length = _
        rw [h]
      · omega
    have holen := opens_len xs xs.length
    refine range_fn (X := [(b13, cel [vI 0] T.t_int)]) (H := (b11, cntCell (gOf xs).of xs.length) :: (b9, cel [all] T.t_sl_int) :: (b6, cel [vB false] T.t_bool) :: (b4, cel [vI m] T.t_int) :: (b2, cel [s] TG) :: (S ++ H)) (A := linesmanlaw15_is.note) (fuel := 400) mixed
      (open_seq (xs := (gOf xs).of) (.head _) hg.len) (by simp) (fun a ha => ?_) h14
      (fun n Y => n ≤ (opens xs xs.length).length ∧ Y = [(b13, cel [vI n] T.t_int)] ∧ (n = 0 ∨ (n : Int) < m)) (fun j Y => j = .exit 2 ∧ ∃ n : Nat, Y = [(b13, cel [vI n] T.t_int)] ∧ n = min ((opens xs xs.length).length : Int) (max 1 m)) ⟨Nat.zero_le _, rfl, .inl rfl⟩ ?_ ?_ ?_
    · obtain ⟨i, hi⟩ := List.getElem?_of_mem ha
      obtain ⟨j, _, rfl, _⟩ := openL_of hi
      rfl
    · rintro l r n args Y F R w15 hL ⟨hn, rfl, hn2⟩ hF h15 k1 k2 u
      obtain ⟨j, hj, rfl, hp⟩ := openL_of hL
      obtain ⟨hjl, hje⟩ := rAt_pad (xs := xs) hp
      have hje : rAt (gOf xs).of j = rAt xs j := hje
      rw [hje]
      have hj' : (opens xs xs.length)[n]? = some (j : Int) := by
        rcases opens_ge xs with h | h
        · rw [← h]; exact hj
        · omega
      have hnl := (List.getElem?_eq_some_iff.1 hj').1
      refine Eq.mpr (linesmanlaw15_is.Rd0_eq l R _ _ _ _ _ _ _ w15 u) ?_
      unfold linesmanlaw15_is.Rd0
      refine rbeg h15 (fun w16 h16 => ?_)
      have m9 : (b9, cel [all] T.t_sl_int) ∈ (l, recB r) :: (b13, cel [vI n] T.t_int) :: F := .tail _ (.tail _ (hF _ (.tail _ (.head _))))
      have m4 : ∀ {o}, (b4, cel [vI m] T.t_int) ∈ (l, recB r) :: (b13, o) :: F := .tail _ (.tail _ (hF _ (.tail _ (.tail _ (.tail _ (.head _))))))
      have m2 : (b2, cel [s] TG) ∈ (l, recB r) :: (b13, cel [vI n] T.t_int) :: F := .tail _ (.tail _ (hF _ (.tail _ (.tail _ (.tail _ (.tail _ (.head _)))))))
      refine ld_here h16 (.tail _ (.head _)) rfl ?_
      refine ld_here h16 m9 rfl ?_
      refine sl_ln hall ?_
      rw [List.length_map]
      repeat (first | refine pu_not ?_ | refine pu_eql ?_ | refine pu_neq ?_ | refine pu_lss ?_ | refine pu_leq ?_ | refine pu_gtr ?_ | refine pu_geq ?_ | refine pu_add ?_ | refine pu_sub ?_ | refine pu_mul ?_ | refine pu_neg ?_ | refine fa_at ?_ | refine nl_ptr ?_ | refine ex20 ?_ | refine ex21 ?_ | refine ex30 ?_ | refine ex31 ?_ | refine ex32 ?_ | refine ln_rule ?_ | refine lnT_rule ?_ | refine pu_and ?_ | refine pu_or ?_ | refine pu_xor ?_ | refine pu_seq ?_ | refine pu_sne ?_)
      refine cnd_f (by simp; omega) ?_
      refine ld_here h16 m9 rfl ?_
      refine ld_here h16 (.tail _ (.head _)) rfl ?_
      refine sl_ld (v := vI j) h16 (hall.mono fun x hx => .tail _ (.tail _ (hF _ (.tail _ (.tail _ (.tail _ (.tail _ (.tail _ (List.mem_append_left _ hx))))))))) (by omega) (by rw [Int.toNat_natCast, List.getElem?_map, hj']; rfl) ?_
      repeat (first | refine pu_not ?_ | refine pu_eql ?_ | refine pu_neq ?_ | refine pu_lss ?_ | refine pu_leq ?_ | refine pu_gtr ?_ | refine pu_geq ?_ | refine pu_add ?_ | refine pu_sub ?_ | refine pu_mul ?_ | refine pu_neg ?_ | refine fa_at ?_ | refine nl_ptr ?_ | refine ex20 ?_ | refine ex21 ?_ | refine ex30 ?_ | refine ex31 ?_ | refine ex32 ?_ | refine ln_rule ?_ | refine lnT_rule ?_ | refine pu_and ?_ | refine pu_or ?_ | refine pu_xor ?_ | refine pu_seq ?_ | refine pu_sne ?_)
      refine cnd_f (by simp) ?_
      repeat (first | refine pu_not ?_ | refine pu_eql ?_ | refine pu_neq ?_ | refine pu_lss ?_ | refine pu_leq ?_ | refine pu_gtr ?_ | refine pu_geq ?_ | refine pu_add ?_ | refine pu_sub ?_ | refine pu_mul ?_ | refine pu_neg ?_ | refine fa_at ?_ | refine nl_ptr ?_ | refine ex20 ?_ | refine ex21 ?_ | refine ex30 ?_ | refine ex31 ?_ | refine ex32 ?_ | refine ln_rule ?_ | refine lnT_rule ?_ | refine pu_and ?_ | refine pu_or ?_ | refine pu_xor ?_ | refine pu_seq ?_ | refine pu_sne ?_)
      refine ld_here h16 m2 rfl ?_
      refine sl_ld h16 (hs.mono fun x hx => .tail _ (.tail _ (hF _ (.tail _ (.tail _ (.tail _ (.tail _ (.tail _ (List.mem_append_right _ hx))))))))) (by omega) (rAt_vI (i := (j : Int)) (by omega) (by omega)) ?_
      repeat (first | refine pu_not ?_ | refine pu_eql ?_ | refine pu_neq ?_ | refine pu_lss ?_ | refine pu_leq ?_ | refine pu_gtr ?_ | refine pu_geq ?_ | refine pu_add ?_ | refine pu_sub ?_ | refine pu_mul ?_ | refine pu_neg ?_ | refine fa_at ?_ | refine nl_ptr ?_ | refine ex20 ?_ | refine ex21 ?_ | refine ex30 ?_ | refine ex31 ?_ | refine ex32 ?_ | refine ln_rule ?_ | refine lnT_rule ?_ | refine pu_and ?_ | refine pu_or ?_ | refine pu_xor ?_ | refine pu_seq ?_ | refine pu_sne ?_)
      refine cnd_f (by simp) ?_
      refine ld_here h16 (.tail _ (.head _)) rfl ?_
      repeat (first | refine pu_not ?_ | refine pu_eql ?_ | refine pu_neq ?_ | refine pu_lss ?_ | refine pu_leq ?_ | refine pu_gtr ?_ | refine pu_geq ?_ | refine pu_add ?_ | refine pu_sub ?_ | refine pu_mul ?_ | refine pu_neg ?_ | refine fa_at ?_ | refine nl_ptr ?_ | refine ex20 ?_ | refine ex21 ?_ | refine ex30 ?_ | refine ex31 ?_ | refine ex32 ?_ | refine ln_rule ?_ | refine lnT_rule ?_ | refine pu_and ?_ | refine pu_or ?_ | refine pu_xor ?_ | refine pu_seq ?_ | refine pu_sne ?_)
      rw [wrap64_in (by omega) (by omega)]
      refine st1_here (A := [_]) h16 rfl rfl (by simp) (fun w17 h17 => ?_)
      simp only [List.set_cons_zero] at h17
      refine ld_here h17 (.tail _ (.head _)) rfl ?_
      refine ld_here h17 m4 rfl ?_
      repeat (first | refine pu_not ?_ | refine pu_eql ?_ | refine pu_neq ?_ | refine pu_lss ?_ | refine pu_leq ?_ | refine pu_gtr ?_ | refine pu_geq ?_ | refine pu_add ?_ | refine pu_sub ?_ | refine pu_mul ?_ | refine pu_neg ?_ | refine fa_at ?_ | refine nl_ptr ?_ | refine ex20 ?_ | refine ex21 ?_ | refine ex30 ?_ | refine ex31 ?_ | refine ex32 ?_ | refine ln_rule ?_ | refine lnT_rule ?_ | refine pu_and ?_ | refine pu_or ?_ | refine pu_xor ?_ | refine pu_seq ?_ | refine pu_sne ?_)
      refine cnd (fun hge => ?_) (fun hlt => ?_)
      · refine rend_stop h17 (fun w18 h18 => k2 _ _ w18 ⟨rfl, n + 1, rfl, ?_⟩ h18)
        simp at hge
        omega
      · refine rend_go h17 (fun w18 h18 => k1 _ w18 ⟨by omega, rfl, .inr ?_⟩ h18)
        simp at hlt
        omega
    · rintro b15 Y w15 ⟨hn, rfl, hn2⟩ h15
      rw [hol] at h15 hn2
      refine ld_here h15 (.tail _ (.head _)) rfl ?_
      refine ld_here h15 (.tail _ (.tail _ (.tail _ (.head _)))) rfl ?_
      refine sl_ln hall ?_
      rw [List.length_map]
      refine ld_here h15 (.tail _ (.tail _ (.tail _ (.tail _ (.tail _ (.head _)))))) rfl ?_
      refine pu_max2 ?_
      refine pu_min2 ?_
      repeat (first | refine pu_not ?_ | refine pu_eql ?_ | refine pu_neq ?_ | refine pu_lss ?_ | refine pu_leq ?_ | refine pu_gtr ?_ | refine pu_geq ?_ | refine pu_add ?_ | refine pu_sub ?_ | refine pu_mul ?_ | refine pu_neg ?_ | refine fa_at ?_ | refine nl_ptr ?_ | refine ex20 ?_ | refine ex21 ?_ | refine ex30 ?_ | refine ex31 ?_ | refine ex32 ?_ | refine ln_rule ?_ | refine lnT_rule ?_ | refine pu_and ?_ | refine pu_or ?_ | refine pu_xor ?_ | refine pu_seq ?_ | refine pu_sne ?_)
      refine st1_here (A := [_, _, _, _]) h15 rfl rfl (by simp) (fun w16 h16 => ?_)
      refine lv_ret h16 (fun w17 h17 => ?_)
      refine ld_here h17 (.tail _ (.tail _ (.tail _ (.head _)))) rfl ?_
      have h18 : Ow B w17 (S ++ H) := h17.sub (.cons _ (.cons _ (.cons _ (.cons _ (.cons _ (.cons _ (.refl _)))))))
      have h18 := h18.sub (List.sublist_append_right _ _)
      have e : (((opens xs xs.length).length : Int) == (if (if m > 1 then m else 1) < ((opens xs xs.length).length : Int) then (if m > 1 then m else 1) else ((opens xs xs.length).length : Int))) = true := by
        simp only [beq_iff_eq]
        split <;> split at * <;> omega
      rw [e]
      exact k _ h18
    · rintro b15 j Y w15 ⟨rfl, n, rfl, hn⟩ h15
      refine ld_here h15 (.tail _ (.head _)) rfl ?_
      refine ld_here h15 (.tail _ (.tail _ (.tail _ (.head _)))) rfl ?_
      refine sl_ln hall ?_
      rw [List.length_map]
      refine ld_here h15 (.tail _ (.tail _ (.tail _ (.tail _ (.tail _ (.head _)))))) rfl ?_
      refine pu_max2 ?_
      refine pu_min2 ?_
      repeat (first | refine pu_not ?_ | refine pu_eql ?_ | refine pu_neq ?_ | refine pu_lss ?_ | refine pu_leq ?_ | refine pu_gtr ?_ | refine pu_geq ?_ | refine pu_add ?_ | refine pu_sub ?_ | refine pu_mul ?_ | refine pu_neg ?_ | refine fa_at ?_ | refine nl_ptr ?_ | refine ex20 ?_ | refine ex21 ?_ | refine ex30 ?_ | refine ex31 ?_ | refine ex32 ?_ | refine ln_rule ?_ | refine lnT_rule ?_ | refine pu_and ?_ | refine pu_or ?_ | refine pu_xor ?_ | refine pu_seq ?_ | refine pu_sne ?_)
      refine st1_here (A := [_, _, _, _]) h15 rfl rfl (by simp) (fun w16 h16 => ?_)
      refine lv_ret h16 (fun w17 h17 => ?_)
      refine ld_here h17 (.tail _ (.tail _ (.tail _ (.head _)))) rfl ?_
      have h18 : Ow B w17 (S ++ H) := h17.sub (.cons _ (.cons _ (.cons _ (.cons _ (.cons _ (.cons _ (.refl _)))))))
      have h18 := h18.sub (List.sublist_append_right _ _)
      have e : ((n : Int) == (if (if m > 1 then m else 1) < ((opens xs xs.length).length : Int) then (if m > 1 then m else 1) else ((opens xs xs.length).length : Int))) = true := by
        simp only [beq_iff_eq]
        split <;> split at * <;> omega
      rw [e]
      exact k _ h18
end
end Go.Proofs.Ytapnfbmcniebpaa
