/- Contracts of package group, fourth part: what is gone over. -/
import Derived.Test.YtapnfbmcniebpaaVgJ
set_option linter.unusedVariables false
set_option linter.unusedSimpArgs false
namespace Go.Proofs.Ytapnfbmcniebpaa
open Go Go.RowKit Vc
attribute [local irreducible] binV Op.unary convert

section
variable {B w : World} {H : Hp} {K : Value → World → Prop} {PK : List PanicEntry → World → Prop}
theorem mvo {S L C : Hp} (h : Ow B w (S ++ (L ++ C))) : Ow B w (L ++ (S ++ C)) := h.perm (List.perm_append_comm_assoc S L C)
def allL (xs : List Int) : List (List Value) := (List.range xs.length).map fun i : Nat => [vI i, vI (rAt xs i)]
theorem allL_at {xs : List Int} {i : Nat} (h : i < xs.length) : (allL xs)[i]? = some [vI i, vI (rAt xs i)] := by
  simp [allL, h]
theorem allL_len (xs : List Int) : (allL xs).length = xs.length := by simp [allL]
theorem allL_of {xs : List Int} {i : Nat} {args : List Value} (h : (allL xs)[i]? = some args) : i < xs.length ∧ args = [vI i, vI (rAt xs i)] := by
  have hlt := (List.getElem?_eq_some_iff.1 h).1
  rw [allL_len] at hlt
  rw [allL_at hlt] at h
  exact ⟨hlt, (Option.some.inj h).symm⟩
theorem all_seq {b : Nat} {s : Value} {xs : List Int} (hm : (b, cel [s] T.t_sl_int64) ∈ H) (hs : Sl H s (xs.map vI)) (hlen : xs.length < 2 ^ 62) : Seq PG B H (fnv N.slices_All_sl_int64_int64_1 #[ptr b]) (allL xs) := by
  refine Seq.fn slices_All_sl_int64_int64_1.okf ?_
  intro y J Z K PK w X hy hw j0 hr he
  refine slices_All_sl_int64_int64_1.ok ?_
  unfold slices_All_sl_int64_int64_1.C
  refine ld_here hw (List.mem_append_right _ hm) rfl ?_
  refine sl_ln hs ?_
  rw [List.length_map]
  refine ⟨fun l w => ∃ (i : Nat) (X : Hp), l = [vI i] ∧ i ≤ xs.length ∧ J i X ∧ Ow B w (X ++ H), fun l _ => match l with | [.int _ n] => xs.length - n.toNat | _ => 0, ⟨0, X, rfl, Nat.zero_le _, j0, hw⟩, ?_⟩
  rintro l w2 ⟨i, X, rfl, hi, hj, h2⟩ j1
  repeat (first | refine pu_not ?_ | refine pu_eql ?_ | refine pu_neq ?_ | refine pu_lss ?_ | refine pu_leq ?_ | refine pu_gtr ?_ | refine pu_geq ?_ | refine pu_add ?_ | refine pu_sub ?_ | refine pu_mul ?_ | refine pu_neg ?_ | refine fa_at ?_ | refine nl_ptr ?_ | refine ex20 ?_ | refine ex21 ?_ | refine ex30 ?_ | refine ex31 ?_ | refine ex32 ?_ | refine ln_rule ?_ | refine lnT_rule ?_ | refine pu_and ?_ | refine pu_or ?_ | refine pu_xor ?_ | refine pu_seq ?_ | refine pu_sne ?_)
  refine cnd (fun hlt => ?_) (fun hlt => ?_)
  · have hlt : i < xs.length := by simpa using hlt
    refine sl_ld h2 (hs.mono fun x hx => List.mem_append_right _ hx) (by omega) (rAt_vI (i := (i : Int)) (by omega) (by omega)) ?_
    refine hr i _ X H _ _ w2 (allL_at hlt) hj (fun x hx => hx) h2 (fun X' w3 h3 hj3 => ?_) (fun X' w3 h3 hz3 => ?_)
    · repeat (first | refine pu_not ?_ | refine pu_eql ?_ | refine pu_neq ?_ | refine pu_lss ?_ | refine pu_leq ?_ | refine pu_gtr ?_ | refine pu_geq ?_ | refine pu_add ?_ | refine pu_sub ?_ | refine pu_mul ?_ | refine pu_neg ?_ | refine fa_at ?_ | refine nl_ptr ?_ | refine ex20 ?_ | refine ex21 ?_ | refine ex30 ?_ | refine ex31 ?_ | refine ex32 ?_ | refine ln_rule ?_ | refine lnT_rule ?_ | refine pu_and ?_ | refine pu_or ?_ | refine pu_xor ?_ | refine pu_seq ?_ | refine pu_sne ?_)
      refine cnd_f rfl ?_
      repeat (first | refine pu_not ?_ | refine pu_eql ?_ | refine pu_neq ?_ | refine pu_lss ?_ | refine pu_leq ?_ | refine pu_gtr ?_ | refine pu_geq ?_ | refine pu_add ?_ | refine pu_sub ?_ | refine pu_mul ?_ | refine pu_neg ?_ | refine fa_at ?_ | refine nl_ptr ?_ | refine ex20 ?_ | refine ex21 ?_ | refine ex30 ?_ | refine ex31 ?_ | refine ex32 ?_ | refine ln_rule ?_ | refine lnT_rule ?_ | refine pu_and ?_ | refine pu_or ?_ | refine pu_xor ?_ | refine pu_seq ?_ | refine pu_sne ?_)
      rw [wrap64_in (by omega) (by omega)]
      exact ⟨⟨i + 1, X', rfl, hlt, hj3, h3⟩, by simp; omega⟩
    · repeat (first | refine pu_not ?_ | refine pu_eql ?_ | refine pu_neq ?_ | refine pu_lss ?_ | refine pu_leq ?_ | refine pu_gtr ?_ | refine pu_geq ?_ | refine pu_add ?_ | refine pu_sub ?_ | refine pu_mul ?_ | refine pu_neg ?_ | refine fa_at ?_ | refine nl_ptr ?_ | refine ex20 ?_ | refine ex21 ?_ | refine ex30 ?_ | refine ex31 ?_ | refine ex32 ?_ | refine ln_rule ?_ | refine lnT_rule ?_ | refine pu_and ?_ | refine pu_or ?_ | refine pu_xor ?_ | refine pu_seq ?_ | refine pu_sne ?_)
      refine cnd_t rfl ?_
      exact he _ X' w3 h3 (.inr hz3)
  · obtain rfl : i = xs.length := by simp at hlt; omega
    refine he _ X w2 h2 (.inl (by rw [allL_len]; exact hj))
theorem all_call {s : Value} (h : Ow B w H) (hc : s.cells = #[s]) (k : ∀ b w', Ow B w' ((b, cel [s] T.t_sl_int64) :: H) → K (fnv N.slices_All_sl_int64_int64_1 #[ptr b]) w') : callW PG N.slices_All_sl_int64_int64 [s] K PK w := by
  refine slices_All_sl_int64_int64.ok ?_
  unfold slices_All_sl_int64_int64.C
  refine al_rule h (l := [s]) hc (fun b w1 h1 => ?_)
  exact k b _ h1

def openL (xs : List Int) (n : Nat) : List (List Value) := ((List.range n).filter fun i : Nat => decide (0 < rAt xs (i : Int))).map fun i : Nat => [vI i, vI (rAt xs i)]
theorem openL_succ (xs : List Int) (n : Nat) : openL xs (n + 1) = openL xs n ++ (if 0 < rAt xs n then [[vI n, vI (rAt xs n)]] else []) := by
  unfold openL
  rw [List.range_succ, List.filter_append, List.map_append]
  congr 1
  by_cases h : 0 < rAt xs n <;> simp [h]
theorem openL_len (xs : List Int) (n : Nat) : (openL xs n).length = (opens xs n).length := by simp [openL, opens]
theorem openL_at {xs : List Int} {i : Nat} (hp : 0 < rAt xs i) : ∀ {n : Nat}, i < n → (openL xs n)[(openL xs i).length]? = some [vI i, vI (rAt xs i)]
  | 0, h => absurd h (by omega)
  | n + 1, h => by
    rw [openL_succ]
    rcases Nat.lt_succ_iff_lt_or_eq.1 h with h | rfl
    · have := openL_at hp h
      rw [List.getElem?_append_left (List.getElem?_eq_some_iff.1 this).1]
      exact this
    · rw [if_pos hp, List.getElem?_append_right (Nat.le_refl _)]
      simp
abbrev cntCell (xs : List Int) (m : Int) : Obj := cel (xs.map vI ++ [vI m]) T.t_group_counts
theorem open_seq {b : Nat} {xs : List Int} {m : Int} (hm : (b, cntCell xs m) ∈ H) (hl : xs.length = 64) : Seq PG B H (fnv N.group_Groups_Open_1 #[ptr b]) (openL xs 64) := by
  refine Seq.fn group_Groups_Open_1.okf ?_
  intro y J Z K PK w X hy hw j0 hr he
  refine group_Groups_Open_1.ok ?_
  unfold group_Groups_Open_1.C
  refine al_rule hw (l := [y]) (fn_cells hy) (fun b2 w1 h1 => ?_)
  repeat (first | refine pu_not ?_ | refine pu_eql ?_ | refine pu_neq ?_ | refine pu_lss ?_ | refine pu_leq ?_ | refine pu_gtr ?_ | refine pu_geq ?_ | refine pu_add ?_ | refine pu_sub ?_ | refine pu_mul ?_ | refine pu_neg ?_ | refine fa_at ?_ | refine nl_ptr ?_ | refine ex20 ?_ | refine ex21 ?_ | refine ex30 ?_ | refine ex31 ?_ | refine ex32 ?_ | refine ln_rule ?_ | refine lnT_rule ?_ | refine pu_and ?_ | refine pu_or ?_ | refine pu_xor ?_ | refine pu_seq ?_ | refine pu_sne ?_)
  refine pu_slarr (n := 64) (e := T.t_int64) (i := (PG.info? T.t_int64).get!) (by kernel_rfl) (by kernel_rfl) ?_
  refine all_call h1 rfl (fun b3 w2 h2 => ?_)
  have e : ∀ {Y : Hp} {w}, Ow B w ((b3, cel [.slice (some ⟨b, 0 + 0, none⟩) 64 64] T.t_sl_int64) :: (b2, cel [y] T.t_func_int_int64_bool) :: (Y ++ H)) →
    Ow B w (Y ++ ((b3, cel [.slice (some ⟨b, 0 + 0, none⟩) 64 64] T.t_sl_int64) :: (b2, cel [y] T.t_func_int_int64_bool) :: H)) := fun {Y w} h => h.perm (List.perm_append_comm_assoc [_, _] Y H)
  refine range_fn (X := X) (H := (b3, cel [.slice (some ⟨b, 0 + 0, none⟩) 64 64] T.t_sl_int64) :: (b2, cel [y] T.t_func_int_int64_bool) :: H) (A := group_Groups_Open_1.note) (fuel := 400) mixed
    (all_seq (xs := xs) (.head _) (sl_part (xs := xs.map vI) (.tail _ (.tail _ hm)) (by rw [List.drop_zero, List.take_left' (by simpa using hl)]) (by simpa using hl)) (by omega)) (by simp) (fun a ha => ?_) (e h2)
    (fun i Y => i ≤ 64 ∧ J (openL xs i).length Y) (fun j Y => j = .exit 0 ∧ Z Y) ⟨Nat.zero_le _, j0⟩ ?_ ?_ ?_
  · obtain ⟨i, hi⟩ := List.getElem?_of_mem ha
    obtain ⟨_, rfl⟩ := allL_of hi
    rfl
  · rintro l r n args Y F R w4 hL ⟨hn, hj⟩ hF h4 k1 k2 u
    obtain ⟨hlt, rfl⟩ := allL_of hL
    refine Eq.mpr (group_Groups_Open_1.Rd0_eq l R _ _ _ w4 u) ?_
    unfold group_Groups_Open_1.Rd0
    refine rbeg h4 (fun w5 h5 => ?_)
    repeat (first | refine pu_not ?_ | refine pu_eql ?_ | refine pu_neq ?_ | refine pu_lss ?_ | refine pu_leq ?_ | refine pu_gtr ?_ | refine pu_geq ?_ | refine pu_add ?_ | refine pu_sub ?_ | refine pu_mul ?_ | refine pu_neg ?_ | refine fa_at ?_ | refine nl_ptr ?_ | refine ex20 ?_ | refine ex21 ?_ | refine ex30 ?_ | refine ex31 ?_ | refine ex32 ?_ | refine ln_rule ?_ | refine lnT_rule ?_ | refine pu_and ?_ | refine pu_or ?_ | refine pu_xor ?_ | refine pu_seq ?_ | refine pu_sne ?_)
    refine cnd (fun hp => ?_) (fun hp => ?_)
    · have hp : 0 < rAt xs n := by simpa using hp
      have hb : (b2, cel [y] T.t_func_int_int64_bool) ∈ F := hF _ (.tail _ (.head _))
      refine ld_here h5 (.tail _ (List.mem_append_right _ hb)) rfl ?_
      refine hr _ _ Y ((l, recB r) :: F) _ _ w5 (openL_at hp (by omega)) hj (fun x hx => .tail _ (hF x (.tail _ (.tail _ hx)))) (h5.perm List.perm_middle.symm) (fun X' w6 h6 hj6 => ?_) (fun X' w6 h6 hz6 => ?_)
      · repeat (first | refine pu_not ?_ | refine pu_eql ?_ | refine pu_neq ?_ | refine pu_lss ?_ | refine pu_leq ?_ | refine pu_gtr ?_ | refine pu_geq ?_ | refine pu_add ?_ | refine pu_sub ?_ | refine pu_mul ?_ | refine pu_neg ?_ | refine fa_at ?_ | refine nl_ptr ?_ | refine ex20 ?_ | refine ex21 ?_ | refine ex30 ?_ | refine ex31 ?_ | refine ex32 ?_ | refine ln_rule ?_ | refine lnT_rule ?_ | refine pu_and ?_ | refine pu_or ?_ | refine pu_xor ?_ | refine pu_seq ?_ | refine pu_sne ?_)
        refine cnd_f rfl ?_
        refine rend_go (h6.perm List.perm_middle) (fun w7 h7 => k1 X' w7 ⟨by omega, ?_⟩ h7)
        rw [openL_succ, if_pos hp]
        simpa using hj6
      · repeat (first | refine pu_not ?_ | refine pu_eql ?_ | refine pu_neq ?_ | refine pu_lss ?_ | refine pu_leq ?_ | refine pu_gtr ?_ | refine pu_geq ?_ | refine pu_add ?_ | refine pu_sub ?_ | refine pu_mul ?_ | refine pu_neg ?_ | refine fa_at ?_ | refine nl_ptr ?_ | refine ex20 ?_ | refine ex21 ?_ | refine ex30 ?_ | refine ex31 ?_ | refine ex32 ?_ | refine ln_rule ?_ | refine lnT_rule ?_ | refine pu_and ?_ | refine pu_or ?_ | refine pu_xor ?_ | refine pu_seq ?_ | refine pu_sne ?_)
        refine cnd_t rfl ?_
        exact rend_stop (h6.perm List.perm_middle) (fun w7 h7 => k2 _ X' w7 ⟨rfl, hz6⟩ h7)
    · have hp : ¬ 0 < rAt xs n := by simpa using hp
      refine rend_go h5 (fun w7 h7 => k1 Y w7 ⟨by omega, ?_⟩ h7)
      rw [openL_succ, if_neg hp, List.append_nil]
      exact hj
  · rintro b4 Y w4 ⟨hn, hj⟩ h4
    rw [allL_len, hl] at hj
    refine lv_ret h4 (fun w8 h8 => ?_)
    exact he _ Y w8 (h8.sub ((List.Sublist.refl Y).append (.cons _ (.cons _ (.refl H))))) (.inl hj)
  · rintro b4 j Y w4 ⟨rfl, hz⟩ h4
    refine lv_ret h4 (fun w8 h8 => ?_)
    exact he _ Y w8 (h8.sub ((List.Sublist.refl Y).append (.cons _ (.cons _ (.refl H))))) (.inr hz)
theorem open_spec {x : Value} {r : Bool} {g : GV} (hp : GP H x r g) (h : Ow B w H)
    (k : ∀ b w', Ow B w' ((b, cntCell (if r = true then List.replicate 64 0 else g.of) (if r = true then 0 else g.many)) :: H) → K (fnv N.group_Groups_Open_1 #[ptr b]) w') : callW PG N.group_Groups_Open [x] K PK w := by
  refine group_Groups_Open.ok ?_
  unfold group_Groups_Open.C
  refine al_rule h (l := (List.replicate 64 0).map vI ++ [vI 0]) (by kernel_rfl) (fun b w1 h1 => ?_)
  have hp1 : GP ((b, cntCell (List.replicate 64 0) 0) :: H) x r g := by
    cases hp with
    | nil => exact .nil g
    | «at» h1 h2 => exact .at h1 (.tail _ h2)
  refine none_gp hp1 h1 (fun w2 h2 => ?_)
  cases hp with
  | nil =>
    repeat (first | refine pu_not ?_ | refine pu_eql ?_ | refine pu_neq ?_ | refine pu_lss ?_ | refine pu_leq ?_ | refine pu_gtr ?_ | refine pu_geq ?_ | refine pu_add ?_ | refine pu_sub ?_ | refine pu_mul ?_ | refine pu_neg ?_ | refine fa_at ?_ | refine nl_ptr ?_ | refine ex20 ?_ | refine ex21 ?_ | refine ex30 ?_ | refine ex31 ?_ | refine ex32 ?_ | refine ln_rule ?_ | refine lnT_rule ?_ | refine pu_and ?_ | refine pu_or ?_ | refine pu_xor ?_ | refine pu_seq ?_ | refine pu_sne ?_)
    refine cnd_f rfl ?_
    exact k b _ h2
  | «at» hg hm =>
    repeat (first | refine pu_not ?_ | refine pu_eql ?_ | refine pu_neq ?_ | refine pu_lss ?_ | refine pu_leq ?_ | refine pu_gtr ?_ | refine pu_geq ?_ | refine pu_add ?_ | refine pu_sub ?_ | refine pu_mul ?_ | refine pu_neg ?_ | refine fa_at ?_ | refine nl_ptr ?_ | refine ex20 ?_ | refine ex21 ?_ | refine ex30 ?_ | refine ex31 ?_ | refine ex32 ?_ | refine ln_rule ?_ | refine lnT_rule ?_ | refine pu_and ?_ | refine pu_or ?_ | refine pu_xor ?_ | refine pu_seq ?_ | refine pu_sne ?_)
    refine cnd (fun hr => ?_) (fun hr => ?_)
    · have hr : g.made = true := by simpa using hr
      rw [hr] at k
      repeat (first | refine pu_not ?_ | refine pu_eql ?_ | refine pu_neq ?_ | refine pu_lss ?_ | refine pu_leq ?_ | refine pu_gtr ?_ | refine pu_geq ?_ | refine pu_add ?_ | refine pu_sub ?_ | refine pu_mul ?_ | refine pu_neg ?_ | refine fa_at ?_ | refine nl_ptr ?_ | refine ex20 ?_ | refine ex21 ?_ | refine ex30 ?_ | refine ex31 ?_ | refine ex32 ?_ | refine ln_rule ?_ | refine lnT_rule ?_ | refine pu_and ?_ | refine pu_or ?_ | refine pu_xor ?_ | refine pu_seq ?_ | refine pu_sne ?_)
      refine ldn_here h2 (.tail _ hm) (vs := g.of.map vI ++ [vI g.many]) ?_ (by simp [hg.len]) ?_
      · simp only [GV.cells]
        rw [show g.of.map vI ++ [vI g.many, vB g.made] = (g.of.map vI ++ [vI g.many]) ++ [vB g.made] by simp, List.drop_zero, List.take_left' (by simp [hg.len])]
      · refine st_here (A := []) h2 (g.of.map vI ++ [vI g.many]) rfl (by simp [hg.len]) ?_ (by simp) (fun w3 h3 => ?_)
        · simp [plainV, List.all_append]
        · have e : ((List.replicate 64 (0 : Int)).map vI ++ [vI 0]).drop (0 + 65) = [] := by rfl
          rw [e, List.take_zero, List.nil_append, List.append_nil] at h3
          exact k b _ h3
    · have hr : g.made = false := by simpa using hr
      rw [hr] at k
      exact k b _ h2
end
end Go.Proofs.Ytapnfbmcniebpaa
