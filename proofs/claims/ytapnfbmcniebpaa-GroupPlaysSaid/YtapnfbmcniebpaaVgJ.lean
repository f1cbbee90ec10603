/- Contracts of package group and its reference, third part. -/
import Derived.Test.YtapnfbmcniebpaaVgI
set_option linter.unusedVariables false
set_option linter.unusedSimpArgs false
namespace Go.Proofs.Ytapnfbmcniebpaa
open Go Go.RowKit Vc
attribute [local irreducible] binV Op.unary convert

section
variable {B w : World} {H : Hp} {K : Value → World → Prop} {PK : List PanicEntry → World → Prop}
/-- The numbers of those that are open, up to n. -/
def opens (xs : List Int) (n : Nat) : List Int := ((List.range n).filter fun i : Nat => decide (0 < rAt xs (i : Int))).map fun i : Nat => (i : Int)
theorem opens_succ (xs : List Int) (n : Nat) : opens xs (n + 1) = opens xs n ++ (if 0 < rAt xs n then [(n : Int)] else []) := by
  unfold opens
  rw [List.range_succ, List.filter_append, List.map_append]
  congr 1
  by_cases h : 0 < rAt xs n <;> simp [h]
theorem opens_len (xs : List Int) (n : Nat) : (opens xs n).length ≤ n := by
  unfold opens
  rw [List.length_map]
  exact Nat.le_trans (List.length_filter_le _ _) (by simp)
theorem refOpen_spec {X0 : Hp} {s : Value} {xs : List Int} (h : Ow B w H) (hs : Sl X0 s (xs.map vI)) (hX : ∀ x, x ∈ X0 → x ∈ H) (hx : RWf xs)
    (k : ∀ S s' w', Ow B w' (S ++ H) → Sl S s' ((opens xs xs.length).map vI) → K s' w') : callW PG N.linesmanref15_Groups_Open [.agg #[s]] K PK w := by
  refine linesmanref15_Groups_Open.ok ?_
  unfold linesmanref15_Groups_Open.C
  have hlen := hx.len
  refine al_rule h (l := [s]) rfl (fun b1 w1 h1 => ?_)
  refine ⟨fun l w => ∃ (i : Nat) (S : Hp) (v : Value), l = [v, vI i] ∧ i ≤ xs.length ∧ Vc.Own S T.t_int 1 v (opens xs i).length ((opens xs i).map vI) ∧ Ow B w (S ++ (b1, cel [s] T.t_linesmanref15_Groups) :: H),
    fun l _ => match l with | [_, .int _ n] => xs.length - n.toNat | _ => 0, ⟨0, [], _, rfl, Nat.zero_le _, own_none _ _, h1⟩, ?_⟩
  rintro l w2 ⟨i, S, v, rfl, hi, ho, h2⟩ j
  repeat (first | refine pu_not ?_ | refine pu_eql ?_ | refine pu_neq ?_ | refine pu_lss ?_ | refine pu_leq ?_ | refine pu_gtr ?_ | refine pu_geq ?_ | refine pu_add ?_ | refine pu_sub ?_ | refine pu_mul ?_ | refine pu_neg ?_ | refine fa_at ?_ | refine nl_ptr ?_ | refine ex20 ?_ | refine ex21 ?_ | refine ex30 ?_ | refine ex31 ?_ | refine ex32 ?_ | refine ln_rule ?_ | refine lnT_rule ?_ | refine pu_and ?_ | refine pu_or ?_ | refine pu_xor ?_ | refine pu_seq ?_ | refine pu_sne ?_)
  refine ld_here h2 (List.mem_append_right _ (.head _)) rfl ?_
  refine sl_ln hs ?_
  rw [List.length_map]
  repeat (first | refine pu_not ?_ | refine pu_eql ?_ | refine pu_neq ?_ | refine pu_lss ?_ | refine pu_leq ?_ | refine pu_gtr ?_ | refine pu_geq ?_ | refine pu_add ?_ | refine pu_sub ?_ | refine pu_mul ?_ | refine pu_neg ?_ | refine fa_at ?_ | refine nl_ptr ?_ | refine ex20 ?_ | refine ex21 ?_ | refine ex30 ?_ | refine ex31 ?_ | refine ex32 ?_ | refine ln_rule ?_ | refine lnT_rule ?_ | refine pu_and ?_ | refine pu_or ?_ | refine pu_xor ?_ | refine pu_seq ?_ | refine pu_sne ?_)
  refine cnd (fun hlt => ?_) (fun hlt => ?_)
  · have hlt : i < xs.length := by simpa using hlt
    have hat : (xs.map vI)[(i : Int).toNat]? = some (vI (rAt xs i)) := rAt_vI (by omega) (by omega)
    have hs2 : Sl (S ++ (b1, cel [s] T.t_linesmanref15_Groups) :: H) s (xs.map vI) := hs.mono fun x hx => List.mem_append_right _ (.tail _ (hX x hx))
    repeat (first | refine pu_not ?_ | refine pu_eql ?_ | refine pu_neq ?_ | refine pu_lss ?_ | refine pu_leq ?_ | refine pu_gtr ?_ | refine pu_geq ?_ | refine pu_add ?_ | refine pu_sub ?_ | refine pu_mul ?_ | refine pu_neg ?_ | refine fa_at ?_ | refine nl_ptr ?_ | refine ex20 ?_ | refine ex21 ?_ | refine ex30 ?_ | refine ex31 ?_ | refine ex32 ?_ | refine ln_rule ?_ | refine lnT_rule ?_ | refine pu_and ?_ | refine pu_or ?_ | refine pu_xor ?_ | refine pu_seq ?_ | refine pu_sne ?_)
    refine ld_here h2 (List.mem_append_right _ (.head _)) rfl ?_
    refine sl_ld h2 hs2 (by omega) hat ?_
    repeat (first | refine pu_not ?_ | refine pu_eql ?_ | refine pu_neq ?_ | refine pu_lss ?_ | refine pu_leq ?_ | refine pu_gtr ?_ | refine pu_geq ?_ | refine pu_add ?_ | refine pu_sub ?_ | refine pu_mul ?_ | refine pu_neg ?_ | refine fa_at ?_ | refine nl_ptr ?_ | refine ex20 ?_ | refine ex21 ?_ | refine ex30 ?_ | refine ex31 ?_ | refine ex32 ?_ | refine ln_rule ?_ | refine lnT_rule ?_ | refine pu_and ?_ | refine pu_or ?_ | refine pu_xor ?_ | refine pu_seq ?_ | refine pu_sne ?_)
    have hon := opens_succ xs i
    have hol := opens_len xs i
    refine cnd (fun hp => ?_) (fun hp => ?_)
    · have hp : 0 < rAt xs i := by simpa using hp
      rw [if_pos hp] at hon
      refine bs_rule h2 [vI i] (by kernel_rfl) (fun b2 w3 h3 => ?_)
      refine app1 (A := [_]) (z := vI 0) (bytes := 8) h3 ho (sl_here (b := b2) (l := [vI i]) (e := T.t_int) (.head _)) (fun y hy => hy) rfl und_sli info_int rfl (by simp [maxLen]; omega) (by simp; omega) (fun S' v' w4 h4 ho' => ?_)
      repeat (first | refine pu_not ?_ | refine pu_eql ?_ | refine pu_neq ?_ | refine pu_lss ?_ | refine pu_leq ?_ | refine pu_gtr ?_ | refine pu_geq ?_ | refine pu_add ?_ | refine pu_sub ?_ | refine pu_mul ?_ | refine pu_neg ?_ | refine fa_at ?_ | refine nl_ptr ?_ | refine ex20 ?_ | refine ex21 ?_ | refine ex30 ?_ | refine ex31 ?_ | refine ex32 ?_ | refine ln_rule ?_ | refine lnT_rule ?_ | refine pu_and ?_ | refine pu_or ?_ | refine pu_xor ?_ | refine pu_seq ?_ | refine pu_sne ?_)
      rw [wrap64_in (by omega) (by omega)]
      refine ⟨⟨i + 1, S', v', rfl, hlt, ?_, h4.drop⟩, by simp; omega⟩
      rw [hon]
      simpa using ho'
    · have hp : ¬ 0 < rAt xs i := by simpa using hp
      rw [if_neg hp, List.append_nil] at hon
      repeat (first | refine pu_not ?_ | refine pu_eql ?_ | refine pu_neq ?_ | refine pu_lss ?_ | refine pu_leq ?_ | refine pu_gtr ?_ | refine pu_geq ?_ | refine pu_add ?_ | refine pu_sub ?_ | refine pu_mul ?_ | refine pu_neg ?_ | refine fa_at ?_ | refine nl_ptr ?_ | refine ex20 ?_ | refine ex21 ?_ | refine ex30 ?_ | refine ex31 ?_ | refine ex32 ?_ | refine ln_rule ?_ | refine lnT_rule ?_ | refine pu_and ?_ | refine pu_or ?_ | refine pu_xor ?_ | refine pu_seq ?_ | refine pu_sne ?_)
      rw [wrap64_in (by omega) (by omega)]
      exact ⟨⟨i + 1, S, v, rfl, hlt, by rw [hon]; exact ho, h2⟩, by simp; omega⟩
  · obtain rfl : i = xs.length := by simp at hlt; omega
    refine k S v _ (h2.sub ((List.Sublist.refl S).append (.cons _ (.refl _)))) ho.sl
theorem refSame_spec {s s' : Value} {xs ys : List Int} (h : Ow B w H) (hs : Sl H s (xs.map vI)) (hs' : Sl H s' (ys.map vI)) (hx : RWf xs) (hy : RWf ys)
    (k : ∀ w', Ow B w' H → K (vB (decide (xs = ys))) w') : callW PG N.linesmanref15_Same [.agg #[s], .agg #[s']] K PK w := by
  refine linesmanref15_Same.ok ?_
  unfold linesmanref15_Same.C
  have hlen := hx.len
  refine al_rule h (l := [s]) rfl (fun b1 w1 h1 => ?_)
  refine al_rule h1 (l := [s']) rfl (fun b2 w2 h2 => ?_)
  repeat (first | refine pu_not ?_ | refine pu_eql ?_ | refine pu_neq ?_ | refine pu_lss ?_ | refine pu_leq ?_ | refine pu_gtr ?_ | refine pu_geq ?_ | refine pu_add ?_ | refine pu_sub ?_ | refine pu_mul ?_ | refine pu_neg ?_ | refine fa_at ?_ | refine nl_ptr ?_ | refine ex20 ?_ | refine ex21 ?_ | refine ex30 ?_ | refine ex31 ?_ | refine ex32 ?_ | refine ln_rule ?_ | refine lnT_rule ?_ | refine pu_and ?_ | refine pu_or ?_ | refine pu_xor ?_ | refine pu_seq ?_ | refine pu_sne ?_)
  refine ld_here h2 (.tail _ (.head _)) rfl ?_
  refine sl_ln hs ?_
  rw [List.length_map]
  repeat (first | refine pu_not ?_ | refine pu_eql ?_ | refine pu_neq ?_ | refine pu_lss ?_ | refine pu_leq ?_ | refine pu_gtr ?_ | refine pu_geq ?_ | refine pu_add ?_ | refine pu_sub ?_ | refine pu_mul ?_ | refine pu_neg ?_ | refine fa_at ?_ | refine nl_ptr ?_ | refine ex20 ?_ | refine ex21 ?_ | refine ex30 ?_ | refine ex31 ?_ | refine ex32 ?_ | refine ln_rule ?_ | refine lnT_rule ?_ | refine pu_and ?_ | refine pu_or ?_ | refine pu_xor ?_ | refine pu_seq ?_ | refine pu_sne ?_)
  refine ld_here h2 (.head _) rfl ?_
  refine sl_ln hs' ?_
  rw [List.length_map]
  repeat (first | refine pu_not ?_ | refine pu_eql ?_ | refine pu_neq ?_ | refine pu_lss ?_ | refine pu_leq ?_ | refine pu_gtr ?_ | refine pu_geq ?_ | refine pu_add ?_ | refine pu_sub ?_ | refine pu_mul ?_ | refine pu_neg ?_ | refine fa_at ?_ | refine nl_ptr ?_ | refine ex20 ?_ | refine ex21 ?_ | refine ex30 ?_ | refine ex31 ?_ | refine ex32 ?_ | refine ln_rule ?_ | refine lnT_rule ?_ | refine pu_and ?_ | refine pu_or ?_ | refine pu_xor ?_ | refine pu_seq ?_ | refine pu_sne ?_)
  refine cnd (fun hne => ?_) (fun heq => ?_)
  · have e : decide (xs = ys) = false := by
      simp only [decide_eq_false_iff_not]
      rintro rfl
      simp at hne
    rw [e] at k; exact k _ h2.drop.drop
  · have heq : xs.length = ys.length := by simp at heq; omega
    refine ⟨fun l w => ∃ i : Nat, l = [vI i] ∧ i ≤ xs.length ∧ (∀ j, j < i → xs[j]? = ys[j]?) ∧ Ow B w ((b2, cel [s'] T.t_linesmanref15_Groups) :: (b1, cel [s] T.t_linesmanref15_Groups) :: H),
      fun l _ => match l with | [.int _ n] => xs.length - n.toNat | _ => 0, ⟨0, rfl, Nat.zero_le _, fun j hj => absurd hj (by omega), h2⟩, ?_⟩
    rintro l w3 ⟨i, rfl, hi, hall, h3⟩ j
    repeat (first | refine pu_not ?_ | refine pu_eql ?_ | refine pu_neq ?_ | refine pu_lss ?_ | refine pu_leq ?_ | refine pu_gtr ?_ | refine pu_geq ?_ | refine pu_add ?_ | refine pu_sub ?_ | refine pu_mul ?_ | refine pu_neg ?_ | refine fa_at ?_ | refine nl_ptr ?_ | refine ex20 ?_ | refine ex21 ?_ | refine ex30 ?_ | refine ex31 ?_ | refine ex32 ?_ | refine ln_rule ?_ | refine lnT_rule ?_ | refine pu_and ?_ | refine pu_or ?_ | refine pu_xor ?_ | refine pu_seq ?_ | refine pu_sne ?_)
    refine ld_here h3 (.tail _ (.head _)) rfl ?_
    refine sl_ln hs ?_
    rw [List.length_map]
    repeat (first | refine pu_not ?_ | refine pu_eql ?_ | refine pu_neq ?_ | refine pu_lss ?_ | refine pu_leq ?_ | refine pu_gtr ?_ | refine pu_geq ?_ | refine pu_add ?_ | refine pu_sub ?_ | refine pu_mul ?_ | refine pu_neg ?_ | refine fa_at ?_ | refine nl_ptr ?_ | refine ex20 ?_ | refine ex21 ?_ | refine ex30 ?_ | refine ex31 ?_ | refine ex32 ?_ | refine ln_rule ?_ | refine lnT_rule ?_ | refine pu_and ?_ | refine pu_or ?_ | refine pu_xor ?_ | refine pu_seq ?_ | refine pu_sne ?_)
    refine cnd (fun hlt => ?_) (fun hlt => ?_)
    · have hlt : i < xs.length := by simpa using hlt
      have hat : (xs.map vI)[(i : Int).toNat]? = some (vI (rAt xs i)) := rAt_vI (by omega) (by omega)
      have hat' : (ys.map vI)[(i : Int).toNat]? = some (vI (rAt ys i)) := rAt_vI (by omega) (by omega)
      have e1 : xs[i]? = some (rAt xs i) := rAt_some (i := (i : Int)) (by omega) (by omega)
      have e2 : ys[i]? = some (rAt ys i) := rAt_some (i := (i : Int)) (by omega) (by omega)
      refine ⟨fun w => Ow B w ((b2, cel [s'] T.t_linesmanref15_Groups) :: (b1, cel [s] T.t_linesmanref15_Groups) :: H), h3.drew, ?_⟩
      repeat (first | refine pu_not ?_ | refine pu_eql ?_ | refine pu_neq ?_ | refine pu_lss ?_ | refine pu_leq ?_ | refine pu_gtr ?_ | refine pu_geq ?_ | refine pu_add ?_ | refine pu_sub ?_ | refine pu_mul ?_ | refine pu_neg ?_ | refine fa_at ?_ | refine nl_ptr ?_ | refine ex20 ?_ | refine ex21 ?_ | refine ex30 ?_ | refine ex31 ?_ | refine ex32 ?_ | refine ln_rule ?_ | refine lnT_rule ?_ | refine pu_and ?_ | refine pu_or ?_ | refine pu_xor ?_ | refine pu_seq ?_ | refine pu_sne ?_)
      refine lds_here (fun w h => h) (.tail _ (.head _)) rfl ?_
      refine sl_lds (fun w h => h) hs.cons.cons (by omega) hat ?_
      repeat (first | refine pu_not ?_ | refine pu_eql ?_ | refine pu_neq ?_ | refine pu_lss ?_ | refine pu_leq ?_ | refine pu_gtr ?_ | refine pu_geq ?_ | refine pu_add ?_ | refine pu_sub ?_ | refine pu_mul ?_ | refine pu_neg ?_ | refine fa_at ?_ | refine nl_ptr ?_ | refine ex20 ?_ | refine ex21 ?_ | refine ex30 ?_ | refine ex31 ?_ | refine ex32 ?_ | refine ln_rule ?_ | refine lnT_rule ?_ | refine pu_and ?_ | refine pu_or ?_ | refine pu_xor ?_ | refine pu_seq ?_ | refine pu_sne ?_)
      refine lds_here (fun w h => h) (.head _) rfl ?_
      refine sl_lds (fun w h => h) hs'.cons.cons (by omega) hat' ?_
      repeat (first | refine pu_not ?_ | refine pu_eql ?_ | refine pu_neq ?_ | refine pu_lss ?_ | refine pu_leq ?_ | refine pu_gtr ?_ | refine pu_geq ?_ | refine pu_add ?_ | refine pu_sub ?_ | refine pu_mul ?_ | refine pu_neg ?_ | refine fa_at ?_ | refine nl_ptr ?_ | refine ex20 ?_ | refine ex21 ?_ | refine ex30 ?_ | refine ex31 ?_ | refine ex32 ?_ | refine ln_rule ?_ | refine lnT_rule ?_ | refine pu_and ?_ | refine pu_or ?_ | refine pu_xor ?_ | refine pu_seq ?_ | refine pu_sne ?_)
      refine cnd (fun hne => ?_) (fun he => ?_)
      · have e : decide (xs = ys) = false := by
          simp only [decide_eq_false_iff_not]
          rintro rfl
          simp at hne
        rw [e] at k; exact k _ h3.drew.drop.drop
      · have he : rAt xs i = rAt ys i := by simpa using he
        repeat (first | refine pu_not ?_ | refine pu_eql ?_ | refine pu_neq ?_ | refine pu_lss ?_ | refine pu_leq ?_ | refine pu_gtr ?_ | refine pu_geq ?_ | refine pu_add ?_ | refine pu_sub ?_ | refine pu_mul ?_ | refine pu_neg ?_ | refine fa_at ?_ | refine nl_ptr ?_ | refine ex20 ?_ | refine ex21 ?_ | refine ex30 ?_ | refine ex31 ?_ | refine ex32 ?_ | refine ln_rule ?_ | refine lnT_rule ?_ | refine pu_and ?_ | refine pu_or ?_ | refine pu_xor ?_ | refine pu_seq ?_ | refine pu_sne ?_)
        rw [wrap64_in (by omega) (by omega)]
        refine ⟨⟨i + 1, rfl, hlt, fun j hj => ?_, h3.drew⟩, by simp; omega⟩
        rcases Nat.lt_succ_iff_lt_or_eq.1 hj with hj | rfl
        · exact hall j hj
        · rw [e1, e2, he]
    · have e : decide (xs = ys) = true := by
        simp only [decide_eq_true_eq]
        refine List.ext_getElem? fun j => ?_
        by_cases hj : j < xs.length
        · exact hall j (by simp at hlt; omega)
        · rw [List.getElem?_eq_none (by omega), List.getElem?_eq_none (by omega)]
      rw [e] at k; exact k _ h3.drop.drop

/-! ### The program's -/
def gOf (xs : List Int) : GV := ⟨xs ++ List.replicate (64 - xs.length) 0, xs.length, true⟩
theorem gOf_wf {xs : List Int} (h : RWf xs) : (gOf xs).Wf := by
  have := h.len
  refine ⟨by simp [gOf]; omega, by simp [gOf], by simp [gOf]; omega, fun c hc => ?_⟩
  rcases List.mem_append.1 hc with hc | hc
  · exact h.pos c hc
  · obtain ⟨_, rfl⟩ := List.mem_replicate.1 hc; omega
theorem gOf_new (many : Nat) (h : many ≤ 64) : GV.new many = gOf (List.replicate many 0) := by
  simp only [GV.new, gOf, List.length_replicate, List.replicate_append_replicate]
  congr 2; omega
theorem gOf_cnt {xs : List Int} {i : Int} (h0 : 0 ≤ i) (h1 : i < xs.length) : (gOf xs).cnt i = rAt xs i := by
  have : i.toNat < xs.length := by omega
  simp [GV.cnt, gOf, rAt, List.getD, this, List.getElem?_append_left]
theorem gOf_add (xs : List Int) (i n : Int) : (gOf xs).add i n = (gOf (rAdd xs i n).1, (rAdd xs i n).2.1, (rAdd xs i n).2.2) := by
  have e0 : (gOf xs).add i n = if ¬ (0 ≤ i ∧ i < (gOf xs).many) then (gOf xs, 0, 4)
      else if n < - (gOf xs).cnt i ∨ n > 2147483647 - (gOf xs).cnt i then (gOf xs, 0, 250) else ({ gOf xs with of := (gOf xs).of.set i.toNat ((gOf xs).cnt i + n) }, (gOf xs).cnt i + n, 0) := by
    unfold GV.add
    rw [if_neg (by simp [gOf])]
  rw [e0]
  by_cases h1 : 0 ≤ i ∧ i < xs.length
  · have e1 : rAdd xs i n = if n < - rAt xs i ∨ n > 2147483647 - rAt xs i then (xs, 0, 250) else (xs.set i.toNat (rAt xs i + n), rAt xs i + n, 0) := by
      unfold rAdd
      rw [if_neg (not_not_intro h1)]
    have h2 : 0 ≤ i ∧ i < (gOf xs).many := h1
    rw [if_neg (not_not_intro h2), e1, gOf_cnt h1.1 h1.2]
    split
    · rfl
    · have : i.toNat < xs.length := by omega
      simp [gOf, List.set_append_left, this]
  · have e1 : rAdd xs i n = (xs, 0, 4) := by
      unfold rAdd
      rw [if_pos h1]
    have h2 : ¬ (0 ≤ i ∧ i < (gOf xs).many) := h1
    rw [if_pos h2, e1]

theorem copy_nil (h : Ow B w H) (k : ∀ w', Ow B w' H → K (.pointer none) w') : callW PG N.group_Groups_Copy [.pointer none] K PK w := by
  refine group_Groups_Copy.ok ?_
  unfold group_Groups_Copy.C
  refine none_nil h (fun w1 h1 => ?_)
  refine cnd_t rfl ?_
  exact k _ h1
theorem copy_not {b : Nat} {g : GV} (hg : g.Wf) (hm : g.made = false) (h : Ow B w H) (hb : (b, g.obj) ∈ H) (k : ∀ w', Ow B w' H → K (.pointer none) w') : callW PG N.group_Groups_Copy [ptr b] K PK w := by
  refine group_Groups_Copy.ok ?_
  unfold group_Groups_Copy.C
  refine none_spec hg h hb (fun w1 h1 => ?_)
  refine cnd_t (by simp [hm]) ?_
  exact k _ h1
theorem cells_len {g : GV} (hg : g.Wf) : g.cells.length = 66 := by simp [GV.cells, hg.len]
theorem copy_spec {b : Nat} {g : GV} (hg : g.Wf) (hm : g.made = true) (h : Ow B w H) (hb : (b, g.obj) ∈ H) (k : ∀ b' w', Ow B w' ((b', g.obj) :: H) → K (ptr b') w') : callW PG N.group_Groups_Copy [ptr b] K PK w := by
  refine group_Groups_Copy.ok ?_
  unfold group_Groups_Copy.C
  refine none_spec hg h hb (fun w1 h1 => ?_)
  refine cnd_f (by simp [hm]) ?_
  repeat (first | refine pu_not ?_ | refine pu_eql ?_ | refine pu_neq ?_ | refine pu_lss ?_ | refine pu_leq ?_ | refine pu_gtr ?_ | refine pu_geq ?_ | refine pu_add ?_ | refine pu_sub ?_ | refine pu_mul ?_ | refine pu_neg ?_ | refine fa_at ?_ | refine nl_ptr ?_ | refine ex20 ?_ | refine ex21 ?_ | refine ex30 ?_ | refine ex31 ?_ | refine ex32 ?_ | refine ln_rule ?_ | refine lnT_rule ?_ | refine pu_and ?_ | refine pu_or ?_ | refine pu_xor ?_ | refine pu_seq ?_ | refine pu_sne ?_)
  have hl := cells_len hg
  refine ldn_here h1 hb (vs := g.cells) (by rw [List.drop_zero, ← hl, List.take_length]) hl ?_
  refine al_rule h1 (l := (GV.mk (List.replicate 64 0) 0 false).cells) (by kernel_rfl) (fun b' w2 h2 => ?_)
  refine st_here (A := []) h2 g.cells rfl hl ?_ (by simp [GV.cells]) (fun w3 h3 => ?_)
  · simp [GV.cells, plainV, List.all_append]
  · have e : (GV.mk (List.replicate 64 0) 0 false).cells.drop (0 + 66) = [] := by rfl
    rw [e, List.take_zero, List.nil_append, List.append_nil] at h3
    exact k b' _ h3
theorem len_nil (h : Ow B w H) (k : ∀ w', Ow B w' H → K (vI 0) w') : callW PG N.group_Groups_Len [.pointer none] K PK w := by
  refine group_Groups_Len.ok ?_
  unfold group_Groups_Len.C
  refine none_nil h (fun w1 h1 => ?_)
  refine cnd_t rfl ?_
  exact k _ h1
theorem len_spec {b : Nat} {g : GV} (hg : g.Wf) (h : Ow B w H) (hb : (b, g.obj) ∈ H) (k : ∀ w', Ow B w' H → K (vI (if g.made = true then g.many else 0)) w') : callW PG N.group_Groups_Len [ptr b] K PK w := by
  refine group_Groups_Len.ok ?_
  unfold group_Groups_Len.C
  refine none_spec hg h hb (fun w1 h1 => ?_)
  refine cnd (fun hm => ?_) (fun hm => ?_)
  · rw [if_neg (by simpa using hm)] at k; exact k _ h1
  · rw [if_pos (by simpa using hm)] at k
    repeat (first | refine pu_not ?_ | refine pu_eql ?_ | refine pu_neq ?_ | refine pu_lss ?_ | refine pu_leq ?_ | refine pu_gtr ?_ | refine pu_geq ?_ | refine pu_add ?_ | refine pu_sub ?_ | refine pu_mul ?_ | refine pu_neg ?_ | refine fa_at ?_ | refine nl_ptr ?_ | refine ex20 ?_ | refine ex21 ?_ | refine ex30 ?_ | refine ex31 ?_ | refine ex32 ?_ | refine ln_rule ?_ | refine lnT_rule ?_ | refine pu_and ?_ | refine pu_or ?_ | refine pu_xor ?_ | refine pu_seq ?_ | refine pu_sne ?_)
    refine ld_here h1 hb (by simpa using GV.at_many hg) ?_
    exact k _ h1
theorem add_nil {i n : Value} (h : Ow B w H) (k : ∀ w', Ow B w' H → K (.tuple #[vI 0, vI 1]) w') : callW PG N.group_Groups_Add [.pointer none, i, n] K PK w := by
  refine group_Groups_Add.ok ?_
  unfold group_Groups_Add.C
  refine none_nil h (fun w1 h1 => ?_)
  refine cnd_t rfl ?_
  exact k _ h1
theorem count_nil {i : Value} (h : Ow B w H) (k : ∀ w', Ow B w' H → K (vI 0) w') : callW PG N.group_Groups_Count [.pointer none, i] K PK w := by
  refine group_Groups_Count.ok ?_
  unfold group_Groups_Count.C
  refine none_nil h (fun w1 h1 => ?_)
  refine cnd_t rfl ?_
  exact k _ h1
theorem done_nil {i : Value} (h : Ow B w H) (k : ∀ w', Ow B w' H → K (vB false) w') : callW PG N.group_Groups_Done [.pointer none, i] K PK w := by
  refine group_Groups_Done.ok ?_
  unfold group_Groups_Done.C
  refine none_nil h (fun w1 h1 => ?_)
  repeat (first | refine pu_not ?_ | refine pu_eql ?_ | refine pu_neq ?_ | refine pu_lss ?_ | refine pu_leq ?_ | refine pu_gtr ?_ | refine pu_geq ?_ | refine pu_add ?_ | refine pu_sub ?_ | refine pu_mul ?_ | refine pu_neg ?_ | refine fa_at ?_ | refine nl_ptr ?_ | refine ex20 ?_ | refine ex21 ?_ | refine ex30 ?_ | refine ex31 ?_ | refine ex32 ?_ | refine ln_rule ?_ | refine lnT_rule ?_ | refine pu_and ?_ | refine pu_or ?_ | refine pu_xor ?_ | refine pu_seq ?_ | refine pu_sne ?_)
  refine cnd_f rfl ?_
  exact k _ h1

/-! ### Which are the same -/
inductive GP (H : Hp) : Value → Bool → GV → Prop
  | nil (g : GV) : GP H (.pointer none) true g
  | at {b : Nat} {g : GV} : g.Wf → (b, g.obj) ∈ H → GP H (ptr b) (!g.made) g
theorem none_gp {x : Value} {r : Bool} {g : GV} (hp : GP H x r g) (h : Ow B w H) (k : ∀ w', Ow B w' H → K (vB r) w') : callW PG N.group_Groups_none [x] K PK w := by
  cases hp with
  | nil => exact none_nil h k
  | «at» h1 h2 => exact none_spec h1 h h2 k
theorem eq_counts {a b : List Int} {m n : Int} (ha : a.length = 64) (hb : b.length = 64) : EqR PG 10000 T.t_group_counts (.agg (a.map vI ++ [vI m]).toArray) (.agg (b.map vI ++ [vI n]).toArray) (decide (a = b) && ((m == n) && true)) := by
  refine eqr_struct (d := 9999) (by kernel_rfl) (by kernel_rfl) rfl ?_
  refine eqf_cons (z := some 64) (by simp) (by kernel_rfl) (ptn_at (vs := a.map vI) (by rw [List.drop_zero, List.take_left' (by simpa using ha)]) rfl) (ptn_at (vs := b.map vI) (by rw [List.drop_zero, List.take_left' (by simpa using hb)]) rfl) (eqr_ints (d := 9997) (by kernel_rfl) und_int64 (i := (PG.info? T.t_int64).get!) (by kernel_rfl) (by kernel_rfl) ha hb) ?_
  refine eqf_cons (z := none) (by simp) (by kernel_rfl) (pt_at (v := vI m) (by rw [List.getElem?_append_right (by simp [ha])]; simp [ha]) rfl) (pt_at (v := vI n) (by rw [List.getElem?_append_right (by simp [hb])]; simp [hb]) rfl) (eqr_int (d := 9998) und_int _ _) eqf_nil
theorem same_spec {x y : Value} {r r' : Bool} {g g' : GV} (hx : GP H x r g) (hy : GP H y r' g') (h : Ow B w H)
    (k : ∀ w', Ow B w' H → K (vB (if r = true ∨ r' = true then r && r' else decide (g.of = g'.of ∧ g.many = g'.many))) w') : callW PG N.group_Same [x, y] K PK w := by
  refine group_Same.ok ?_
  unfold group_Same.C
  refine none_gp hx h (fun w1 h1 => ?_)
  refine cnd (fun hr => ?_) (fun hr => ?_)
  · subst hr
    refine none_gp hx h1 (fun w2 h2 => ?_)
    refine cnd_t rfl ?_
    refine none_gp hy h2 (fun w3 h3 => ?_)
    simpa using k _ h3
  · subst hr
    refine none_gp hy h1 (fun w2 h2 => ?_)
    refine cnd (fun hr => ?_) (fun hr => ?_)
    · subst hr
      refine none_gp hx h2 (fun w3 h3 => ?_)
      refine cnd_f rfl ?_
      simpa using k _ h3
    · subst hr
      simp only [Bool.false_eq_true, or_self, if_false] at k
      generalize hfr : false = fr at hx hy
      cases hx with
      | nil => cases hfr
      | «at» hg1 hm1 =>
        generalize hfr2 : (!g.made) = fr2 at hy hfr
        cases hy with
        | nil => cases hfr
        | «at» hg2 hm2 =>
          refine ⟨fun w => Ow B w H, h2.drew, ?_⟩
          repeat (first | refine pu_not ?_ | refine pu_eql ?_ | refine pu_neq ?_ | refine pu_lss ?_ | refine pu_leq ?_ | refine pu_gtr ?_ | refine pu_geq ?_ | refine pu_add ?_ | refine pu_sub ?_ | refine pu_mul ?_ | refine pu_neg ?_ | refine fa_at ?_ | refine nl_ptr ?_ | refine ex20 ?_ | refine ex21 ?_ | refine ex30 ?_ | refine ex31 ?_ | refine ex32 ?_ | refine ln_rule ?_ | refine lnT_rule ?_ | refine pu_and ?_ | refine pu_or ?_ | refine pu_xor ?_ | refine pu_seq ?_ | refine pu_sne ?_)
          refine ldsn_here (fun w h => h) hm1 (vs := g.of.map vI ++ [vI g.many]) ?_ (by simp [hg1.len]) ?_
          · simp only [GV.cells]
            rw [show g.of.map vI ++ [vI g.many, vB g.made] = (g.of.map vI ++ [vI g.many]) ++ [vB g.made] by simp, List.drop_zero, List.take_left' (by simp [hg1.len])]
          · repeat (first | refine pu_not ?_ | refine pu_eql ?_ | refine pu_neq ?_ | refine pu_lss ?_ | refine pu_leq ?_ | refine pu_gtr ?_ | refine pu_geq ?_ | refine pu_add ?_ | refine pu_sub ?_ | refine pu_mul ?_ | refine pu_neg ?_ | refine fa_at ?_ | refine nl_ptr ?_ | refine ex20 ?_ | refine ex21 ?_ | refine ex30 ?_ | refine ex31 ?_ | refine ex32 ?_ | refine ln_rule ?_ | refine lnT_rule ?_ | refine pu_and ?_ | refine pu_or ?_ | refine pu_xor ?_ | refine pu_seq ?_ | refine pu_sne ?_)
            refine ldsn_here (fun w h => h) hm2 (vs := g'.of.map vI ++ [vI g'.many]) ?_ (by simp [hg2.len]) ?_
            · simp only [GV.cells]
              rw [show g'.of.map vI ++ [vI g'.many, vB g'.made] = (g'.of.map vI ++ [vI g'.many]) ++ [vB g'.made] by simp, List.drop_zero, List.take_left' (by simp [hg2.len])]
            · refine pu_aeql (by kernel_rfl) (eq_counts hg1.len hg2.len) ?_
              have e : (decide (g.of = g'.of) && ((g.many == g'.many) && true)) = decide (g.of = g'.of ∧ g.many = g'.many) := by simp [ibeq]
              rw [e]; exact k _ h2.drew
end
end Go.Proofs.Ytapnfbmcniebpaa
