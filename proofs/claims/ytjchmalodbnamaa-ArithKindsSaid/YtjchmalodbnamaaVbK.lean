/- The kinds, one by one. -/
import Derived.Test.YtjchmalodbnamaaVbN
set_option linter.unusedVariables false
set_option linter.unusedSimpArgs false
namespace Go.Proofs.Ytjchmalodbnamaa
open Go Go.RowKit Vc
attribute [local irreducible] binV Op.unary convert

section
variable {B w : World} {H : Hp} {K : Value → World → Prop} {PK : List PanicEntry → World → Prop}
theorem kinds_spec (h : Ow B w H) (k : K (fnv N.arith_Kinds_1) w) : callW PG N.arith_Kinds [] K PK w := by
  refine arith_Kinds.ok ?_
  unfold arith_Kinds.C
  exact k
theorem kinds_seq : Seq PG B H (fnv N.arith_Kinds_1) everyL := by
  refine Seq.fn arith_Kinds_1.okf ?_
  intro y J Z K PK w X hy hw j0 hr he
  refine arith_Kinds_1.ok ?_
  unfold arith_Kinds_1.C
  refine al_rule hw (l := [y]) (fn_cells hy) (fun b w1 h1 => ?_)
  refine every_spec h1 ?_
  have e : ∀ {Y : Hp} {w}, Ow B w ((b, cel [y] T.t_func_api_Arith_string_bool) :: (Y ++ H)) → Ow B w (Y ++ ((b, cel [y] T.t_func_api_Arith_string_bool) :: H)) := fun h => h.perm List.perm_middle.symm
  refine range_fn (X := X) (H := (b, cel [y] T.t_func_api_Arith_string_bool) :: H) (A := arith_Kinds_1.note) (fuel := 400) mixed every_seq (by simp) every_two (e h1)
    J (fun j Y => j = .exit 0 ∧ Z Y) j0 ?_ ?_ ?_
  · rintro l r n args Y F R w4 hL hj hF h4 k1 k2 u
    obtain ⟨hlt, rfl⟩ := every_of hL
    refine Eq.mpr (arith_Kinds_1.Rd0_eq l R _ _ _ w4 u) ?_
    unfold arith_Kinds_1.Rd0
    refine rbeg h4 (fun w5 h5 => ?_)
    have hb : (b, cel [y] T.t_func_api_Arith_string_bool) ∈ F := hF _ (.head _)
    refine ld_here h5 (.tail _ (List.mem_append_right _ hb)) rfl ?_
    refine hr n _ Y ((l, recB r) :: F) _ _ w5 (every_at hlt) hj (fun x hx => .tail _ (hF x (.tail _ hx))) (h5.perm List.perm_middle.symm) (fun X' w6 h6 hj6 => ?_) (fun X' w6 h6 hz6 => ?_)
    · repeat (first | refine pu_not ?_ | refine pu_eql ?_ | refine pu_neq ?_ | refine pu_lss ?_ | refine pu_leq ?_ | refine pu_gtr ?_ | refine pu_geq ?_ | refine pu_add ?_ | refine pu_sub ?_ | refine pu_mul ?_ | refine pu_neg ?_ | refine fa_at ?_ | refine nl_ptr ?_ | refine ex20 ?_ | refine ex21 ?_ | refine ex30 ?_ | refine ex31 ?_ | refine ex32 ?_ | refine ln_rule ?_ | refine lnT_rule ?_ | refine pu_and ?_ | refine pu_or ?_ | refine pu_xor ?_ | refine pu_seq ?_ | refine pu_sne ?_)
      refine cnd_f rfl ?_
      exact rend_go (h6.perm List.perm_middle) (fun w7 h7 => k1 X' w7 hj6 h7)
    · repeat (first | refine pu_not ?_ | refine pu_eql ?_ | refine pu_neq ?_ | refine pu_lss ?_ | refine pu_leq ?_ | refine pu_gtr ?_ | refine pu_geq ?_ | refine pu_add ?_ | refine pu_sub ?_ | refine pu_mul ?_ | refine pu_neg ?_ | refine fa_at ?_ | refine nl_ptr ?_ | refine ex20 ?_ | refine ex21 ?_ | refine ex30 ?_ | refine ex31 ?_ | refine ex32 ?_ | refine ln_rule ?_ | refine lnT_rule ?_ | refine pu_and ?_ | refine pu_or ?_ | refine pu_xor ?_ | refine pu_seq ?_ | refine pu_sne ?_)
      refine cnd_t rfl ?_
      exact rend_stop (h6.perm List.perm_middle) (fun w7 h7 => k2 _ X' w7 ⟨rfl, hz6⟩ h7)
  · rintro b2 Y w4 hj h4
    refine lv_ret h4 (fun w8 h8 => ?_)
    exact he _ Y w8 (h8.sub ((List.Sublist.refl Y).append (List.sublist_cons_self _ H))) (.inl hj)
  · rintro b2 j Y w4 ⟨rfl, hz⟩ h4
    refine lv_ret h4 (fun w8 h8 => ?_)
    exact he _ Y w8 (h8.sub ((List.Sublist.refl Y).append (List.sublist_cons_self _ H))) (.inr hz)

def mkB (ms : List Nat) : Hp := ms.map fun b => (b, .deferred (some []))
def mkD (ms : List Nat) : D := ms.map fun b => { target := .collected b, args := #[] }
theorem lv_rets {XK : World → Prop} {RE : Ending → World → Prop} {C : Hp} : ∀ {ms : List Nat} {w : World}, Ow B w (mkB ms ++ C) → (∀ w', Ow B w' C → XK w') → LvW PG (mkD ms) .returning w (endV XK RE)
  | [], w, h, k => k w h
  | b :: ms, w, h, k => ⟨by simp, .inl ⟨b, rfl, h.mem _ _ List.mem_cons_self, lv_rets (h.put (A := []) (.deferred none)).drop k⟩⟩

theorem ArithKinds.law {v0 : Value} (g0 : FitV PG H T.t_int v0) (h : Ow B w H) (k : ∀ w', Ow B w' H → K (vB true) w') : callW PG N.linesmanlaw05_ArithKinds [v0] K PK w := by
  obtain ⟨many, rfl, hmany⟩ := g0.int und_int
  have hmany := wf_i64 hmany
  refine linesmanlaw05_ArithKinds.ok ?_
  unfold linesmanlaw05_ArithKinds.C
  refine al_rule h (l := [vI many]) rfl (fun bm w1 h1 => ?_)
  refine al_rule h1 (l := [vB false]) (by kernel_rfl) (fun br w2 h2 => ?_)
  refine refNames_spec h2 (fun bn w3 h3 => ?_)
  refine al_rule h3 (l := [.slice none 0 0]) (by kernel_rfl) (fun bs w4 h4 => ?_)
  refine st1_here (A := []) h4 rfl rfl (by simp) (fun w5 h5 => ?_)
  refine kinds_spec h5 ?_
  refine pu_fnil (ps := #[T.t_func_api_Arith_string_bool]) (rs := #[]) (v := false) (by kernel_rfl) ?_
  refine cnd_f rfl ?_
  refine al_rule h5 (l := [vI 0]) (by kernel_rfl) (fun bt w6 h6 => ?_)
  refine st1_here (A := []) h6 rfl rfl (by simp) (fun w7 h7 => ?_)
  simp only [List.nil_append, List.set_cons_zero] at h7
  generalize hD : ((bs, cel [.slice (some ⟨bn, 0, none⟩) 12 12] T.t_sl_string) :: (bn, cel (namesL.map Value.string) T.t_string) :: (br, cel [vB false] T.t_bool) :: (bm, cel [vI many] T.t_int) :: H : Hp) = D0 at h7
  have mS0 : (bs, cel [.slice (some ⟨bn, 0, none⟩) 12 12] T.t_sl_string) ∈ D0 := by rw [← hD]; exact .head _
  have mN0 : (bn, cel (namesL.map Value.string) T.t_string) ∈ D0 := by rw [← hD]; exact .tail _ (.head _)
  have mM0 : (bm, cel [vI many] T.t_int) ∈ D0 := by rw [← hD]; exact .tail _ (.tail _ (.tail _ (.head _)))
  refine ⟨fun l d w => ∃ (bt : Nat) (t : Nat) (ms : List Nat), l = [ptr bt] ∧ d = mkD ms ∧ ms.length = t ∧ t ≤ 2 ∧ Ow B w ((bt, cel [vI t] T.t_int) :: (mkB ms ++ D0)), fun l d w => 2 - d.length,
    ⟨bt, 0, [], rfl, rfl, rfl, by omega, h7⟩, ?_⟩
  rintro l d w8 ⟨bt, t, ms, rfl, rfl, hms, ht, h8⟩ j0
  refine ld_here h8 (.head _) rfl ?_
  repeat (first | refine pu_not ?_ | refine pu_eql ?_ | refine pu_neq ?_ | refine pu_lss ?_ | refine pu_leq ?_ | refine pu_gtr ?_ | refine pu_geq ?_ | refine pu_add ?_ | refine pu_sub ?_ | refine pu_mul ?_ | refine pu_neg ?_ | refine fa_at ?_ | refine nl_ptr ?_ | refine ex20 ?_ | refine ex21 ?_ | refine ex30 ?_ | refine ex31 ?_ | refine ex32 ?_ | refine ln_rule ?_ | refine lnT_rule ?_ | refine pu_and ?_ | refine pu_or ?_ | refine pu_xor ?_ | refine pu_seq ?_ | refine pu_sne ?_)
  refine cnd (fun hlt => ?_) (fun hlt => ?_)
  · have hlt : t < 2 := by simp at hlt; omega
    refine al_rule h8 (l := [vI 0]) (by kernel_rfl) (fun bk w9 h9 => ?_)
    refine st1_here (A := []) h9 rfl rfl (by simp) (fun w10 h10 => ?_)
    refine range_fn (X := [(bk, cel [vI 0] T.t_int)]) (H := (bt, cel [vI t] T.t_int) :: (mkB ms ++ D0)) (A := linesmanlaw05_ArithKinds.note) (fuel := 400) mixed kinds_seq (by simp) every_two h10
      (fun i Y => Y = [(bk, cel [vI i] T.t_int)] ∧ i ≤ 12 ∧ (t = 0 → i = 0 ∨ (i : Int) < many))
      (fun j Y => j = .exit 2 ∧ ∃ i : Nat, Y = [(bk, cel [vI i] T.t_int)] ∧ 1 ≤ i ∧ i ≤ 12 ∧ t = 0 ∧ many ≤ i ∧ (i = 1 ∨ (i : Int) - 1 < many)) ⟨rfl, by omega, fun _ => .inl rfl⟩ ?_ ?_ ?_
    · rintro l r n args Y F R w4 hL ⟨rfl, hn, hnm⟩ hF h4 k1 k2 u
      obtain ⟨hlt12, rfl⟩ := every_of hL
      refine Eq.mpr (linesmanlaw05_ArithKinds.Rd0_eq l R _ _ _ _ _ _ _ w4 u) ?_
      unfold linesmanlaw05_ArithKinds.Rd0
      refine rbeg h4 (fun w5 h5 => ?_)
      have mS : (bs, cel [.slice (some ⟨bn, 0, none⟩) 12 12] T.t_sl_string) ∈ F := hF _ (.tail _ (List.mem_append_right _ mS0))
      have mN : (bn, cel (namesL.map Value.string) T.t_string) ∈ F := hF _ (.tail _ (List.mem_append_right _ mN0))
      have mM : (bm, cel [vI many] T.t_int) ∈ F := hF _ (.tail _ (List.mem_append_right _ mM0))
      have mT : (bt, cel [vI t] T.t_int) ∈ F := hF _ (.head _)
      refine ld_here h5 (.tail _ (.head _)) rfl ?_
      refine ld_here h5 (.tail _ (.tail _ mS)) rfl ?_
      repeat (first | refine pu_not ?_ | refine pu_eql ?_ | refine pu_neq ?_ | refine pu_lss ?_ | refine pu_leq ?_ | refine pu_gtr ?_ | refine pu_geq ?_ | refine pu_add ?_ | refine pu_sub ?_ | refine pu_mul ?_ | refine pu_neg ?_ | refine fa_at ?_ | refine nl_ptr ?_ | refine ex20 ?_ | refine ex21 ?_ | refine ex30 ?_ | refine ex31 ?_ | refine ex32 ?_ | refine ln_rule ?_ | refine lnT_rule ?_ | refine pu_and ?_ | refine pu_or ?_ | refine pu_xor ?_ | refine pu_seq ?_ | refine pu_sne ?_)
      refine cnd_f (by simp; omega) ?_
      refine ld_here h5 (.tail _ (.head _)) rfl ?_
      repeat (first | refine pu_not ?_ | refine pu_eql ?_ | refine pu_neq ?_ | refine pu_lss ?_ | refine pu_leq ?_ | refine pu_gtr ?_ | refine pu_geq ?_ | refine pu_add ?_ | refine pu_sub ?_ | refine pu_mul ?_ | refine pu_neg ?_ | refine fa_at ?_ | refine nl_ptr ?_ | refine ex20 ?_ | refine ex21 ?_ | refine ex30 ?_ | refine ex31 ?_ | refine ex32 ?_ | refine ln_rule ?_ | refine lnT_rule ?_ | refine pu_and ?_ | refine pu_or ?_ | refine pu_xor ?_ | refine pu_seq ?_ | refine pu_sne ?_)
      rw [wrap64_in (by omega) (by omega)]
      refine cnd_f (by simp) ?_
      refine ld_here h5 (.tail _ (.tail _ mS)) rfl ?_
      refine ld_here h5 (.tail _ (.head _)) rfl ?_
      refine ixS_at (by omega) (by omega) ?_
      refine ld_here h5 (.tail _ (.tail _ mN)) (v := .string (nm n)) (by simpa using nm_at hlt12) ?_
      repeat (first | refine pu_not ?_ | refine pu_eql ?_ | refine pu_neq ?_ | refine pu_lss ?_ | refine pu_leq ?_ | refine pu_gtr ?_ | refine pu_geq ?_ | refine pu_add ?_ | refine pu_sub ?_ | refine pu_mul ?_ | refine pu_neg ?_ | refine fa_at ?_ | refine nl_ptr ?_ | refine ex20 ?_ | refine ex21 ?_ | refine ex30 ?_ | refine ex31 ?_ | refine ex32 ?_ | refine ln_rule ?_ | refine lnT_rule ?_ | refine pu_and ?_ | refine pu_or ?_ | refine pu_xor ?_ | refine pu_seq ?_ | refine pu_sne ?_)
      rw [bytes_eq]
      refine cnd_f (by simp) ?_
      refine ld_here h5 (.tail _ (.head _)) rfl ?_
      repeat (first | refine pu_not ?_ | refine pu_eql ?_ | refine pu_neq ?_ | refine pu_lss ?_ | refine pu_leq ?_ | refine pu_gtr ?_ | refine pu_geq ?_ | refine pu_add ?_ | refine pu_sub ?_ | refine pu_mul ?_ | refine pu_neg ?_ | refine fa_at ?_ | refine nl_ptr ?_ | refine ex20 ?_ | refine ex21 ?_ | refine ex30 ?_ | refine ex31 ?_ | refine ex32 ?_ | refine ln_rule ?_ | refine lnT_rule ?_ | refine pu_and ?_ | refine pu_or ?_ | refine pu_xor ?_ | refine pu_seq ?_ | refine pu_sne ?_)
      rw [wrap64_in (by omega) (by omega)]
      refine st1_here (A := [_]) h5 rfl rfl (by simp) (fun w6 h6 => ?_)
      refine ld_here h6 (.tail _ (.tail _ mT)) rfl ?_
      repeat (first | refine pu_not ?_ | refine pu_eql ?_ | refine pu_neq ?_ | refine pu_lss ?_ | refine pu_leq ?_ | refine pu_gtr ?_ | refine pu_geq ?_ | refine pu_add ?_ | refine pu_sub ?_ | refine pu_mul ?_ | refine pu_neg ?_ | refine fa_at ?_ | refine nl_ptr ?_ | refine ex20 ?_ | refine ex21 ?_ | refine ex30 ?_ | refine ex31 ?_ | refine ex32 ?_ | refine ln_rule ?_ | refine lnT_rule ?_ | refine pu_and ?_ | refine pu_or ?_ | refine pu_xor ?_ | refine pu_seq ?_ | refine pu_sne ?_)
      refine cnd (fun ht0 => ?_) (fun ht0 => ?_)
      · have ht0 : t = 0 := by simp at ht0; omega
        refine ld_here h6 (.tail _ (.head _)) rfl ?_
        refine ld_here h6 (.tail _ (.tail _ mM)) rfl ?_
        repeat (first | refine pu_not ?_ | refine pu_eql ?_ | refine pu_neq ?_ | refine pu_lss ?_ | refine pu_leq ?_ | refine pu_gtr ?_ | refine pu_geq ?_ | refine pu_add ?_ | refine pu_sub ?_ | refine pu_mul ?_ | refine pu_neg ?_ | refine fa_at ?_ | refine nl_ptr ?_ | refine ex20 ?_ | refine ex21 ?_ | refine ex30 ?_ | refine ex31 ?_ | refine ex32 ?_ | refine ln_rule ?_ | refine lnT_rule ?_ | refine pu_and ?_ | refine pu_or ?_ | refine pu_xor ?_ | refine pu_seq ?_ | refine pu_sne ?_)
        refine cnd (fun hge => ?_) (fun hge => ?_)
        · have hge : many ≤ (n : Int) + 1 := by simpa using hge
          refine rend_stop h6 (fun w7 h7 => k2 _ _ w7 ⟨rfl, n + 1, rfl, by omega, by omega, ht0, by omega, ?_⟩ h7)
          rcases hnm ht0 with h0 | h0
          · left; omega
          · right; omega
        · have hge : ¬ many ≤ (n : Int) + 1 := by simpa using hge
          exact rend_go h6 (fun w7 h7 => k1 _ w7 ⟨rfl, by omega, fun _ => .inr (by omega)⟩ h7)
      · have ht0 : ¬ t = 0 := by simp at ht0; omega
        exact rend_go h6 (fun w7 h7 => k1 _ w7 ⟨rfl, by omega, fun h => absurd h ht0⟩ h7)
    · rintro b Y w9 ⟨rfl, hn, hnm⟩ h9
      have hv0 : t = 0 → ((12 : Nat) : Int) = if (if many > 1 then many else 1) < 12 then (if many > 1 then many else 1) else 12 := fun h0 => by
        have := hnm h0
        rw [every_len] at this
        split <;> split <;> omega
      have hv1 : t = 1 → ((12 : Nat) : Int) = 12 := fun _ => rfl
      rw [every_len] at h9
      refine ld_here h9 (.tail _ (.tail _ (.head _))) rfl ?_
      repeat (first | refine pu_not ?_ | refine pu_eql ?_ | refine pu_neq ?_ | refine pu_lss ?_ | refine pu_leq ?_ | refine pu_gtr ?_ | refine pu_geq ?_ | refine pu_add ?_ | refine pu_sub ?_ | refine pu_mul ?_ | refine pu_neg ?_ | refine fa_at ?_ | refine nl_ptr ?_ | refine ex20 ?_ | refine ex21 ?_ | refine ex30 ?_ | refine ex31 ?_ | refine ex32 ?_ | refine ln_rule ?_ | refine lnT_rule ?_ | refine pu_and ?_ | refine pu_or ?_ | refine pu_xor ?_ | refine pu_seq ?_ | refine pu_sne ?_)
      refine cnd (fun ht0 => ?_) (fun ht0 => ?_)
      · have ht0 : t = 0 := by simp at ht0; omega
        refine ld_here h9 (.tail _ (.head _)) rfl ?_
        refine ld_here h9 (.tail _ (.tail _ (.tail _ (List.mem_append_right _ mS0)))) rfl ?_
        repeat (first | refine pu_not ?_ | refine pu_eql ?_ | refine pu_neq ?_ | refine pu_lss ?_ | refine pu_leq ?_ | refine pu_gtr ?_ | refine pu_geq ?_ | refine pu_add ?_ | refine pu_sub ?_ | refine pu_mul ?_ | refine pu_neg ?_ | refine fa_at ?_ | refine nl_ptr ?_ | refine ex20 ?_ | refine ex21 ?_ | refine ex30 ?_ | refine ex31 ?_ | refine ex32 ?_ | refine ln_rule ?_ | refine lnT_rule ?_ | refine pu_and ?_ | refine pu_or ?_ | refine pu_xor ?_ | refine pu_seq ?_ | refine pu_sne ?_)
        refine ld_here h9 (.tail _ (.tail _ (.tail _ (List.mem_append_right _ mM0)))) rfl ?_
        refine pu_max2 ?_
        refine pu_min2 ?_
        repeat (first | refine pu_not ?_ | refine pu_eql ?_ | refine pu_neq ?_ | refine pu_lss ?_ | refine pu_leq ?_ | refine pu_gtr ?_ | refine pu_geq ?_ | refine pu_add ?_ | refine pu_sub ?_ | refine pu_mul ?_ | refine pu_neg ?_ | refine fa_at ?_ | refine nl_ptr ?_ | refine ex20 ?_ | refine ex21 ?_ | refine ex30 ?_ | refine ex31 ?_ | refine ex32 ?_ | refine ln_rule ?_ | refine lnT_rule ?_ | refine pu_and ?_ | refine pu_or ?_ | refine pu_xor ?_ | refine pu_seq ?_ | refine pu_sne ?_)
        refine cnd_f ?_ ?_
        · have := hv0 ht0
          simp
          split <;> split at this <;> omega
        refine ld_here h9 (.tail _ (.tail _ (.head _))) rfl ?_
        repeat (first | refine pu_not ?_ | refine pu_eql ?_ | refine pu_neq ?_ | refine pu_lss ?_ | refine pu_leq ?_ | refine pu_gtr ?_ | refine pu_geq ?_ | refine pu_add ?_ | refine pu_sub ?_ | refine pu_mul ?_ | refine pu_neg ?_ | refine fa_at ?_ | refine nl_ptr ?_ | refine ex20 ?_ | refine ex21 ?_ | refine ex30 ?_ | refine ex31 ?_ | refine ex32 ?_ | refine ln_rule ?_ | refine lnT_rule ?_ | refine pu_and ?_ | refine pu_or ?_ | refine pu_xor ?_ | refine pu_seq ?_ | refine pu_sne ?_)
        refine cnd_f (by simp; omega) ?_
        refine ld_here h9 (.tail _ (.tail _ (.head _))) rfl ?_
        refine al_rule h9 (l := [vI 0]) (by kernel_rfl) (fun bt' w10 h10 => ?_)
        refine st1_here (A := []) h10 rfl rfl (by simp) (fun w11 h11 => ?_)
        refine ld_here h11 (.head _) rfl ?_
        repeat (first | refine pu_not ?_ | refine pu_eql ?_ | refine pu_neq ?_ | refine pu_lss ?_ | refine pu_leq ?_ | refine pu_gtr ?_ | refine pu_geq ?_ | refine pu_add ?_ | refine pu_sub ?_ | refine pu_mul ?_ | refine pu_neg ?_ | refine fa_at ?_ | refine nl_ptr ?_ | refine ex20 ?_ | refine ex21 ?_ | refine ex30 ?_ | refine ex31 ?_ | refine ex32 ?_ | refine ln_rule ?_ | refine lnT_rule ?_ | refine pu_and ?_ | refine pu_or ?_ | refine pu_xor ?_ | refine pu_seq ?_ | refine pu_sne ?_)
        rw [wrap64_in (by omega) (by omega)]
        refine st1_here (A := []) h11 rfl rfl (by simp) (fun w12 h12 => ?_)
        exact ⟨⟨bt', t + 1, b :: ms, rfl, rfl, by simp; omega, by omega, h12.sub (.cons_cons _ (.cons_cons _ (.cons _ (.cons _ (.refl _)))))⟩, by simp [mkD]; omega⟩
      · have ht0 : t = 1 := by simp at ht0; omega
        refine ld_here h9 (.tail _ (.tail _ (.head _))) rfl ?_
        repeat (first | refine pu_not ?_ | refine pu_eql ?_ | refine pu_neq ?_ | refine pu_lss ?_ | refine pu_leq ?_ | refine pu_gtr ?_ | refine pu_geq ?_ | refine pu_add ?_ | refine pu_sub ?_ | refine pu_mul ?_ | refine pu_neg ?_ | refine fa_at ?_ | refine nl_ptr ?_ | refine ex20 ?_ | refine ex21 ?_ | refine ex30 ?_ | refine ex31 ?_ | refine ex32 ?_ | refine ln_rule ?_ | refine lnT_rule ?_ | refine pu_and ?_ | refine pu_or ?_ | refine pu_xor ?_ | refine pu_seq ?_ | refine pu_sne ?_)
        refine cnd_t (by simp; omega) ?_
        refine ld_here h9 (.tail _ (.head _)) rfl ?_
        refine ld_here h9 (.tail _ (.tail _ (.tail _ (List.mem_append_right _ mS0)))) rfl ?_
        repeat (first | refine pu_not ?_ | refine pu_eql ?_ | refine pu_neq ?_ | refine pu_lss ?_ | refine pu_leq ?_ | refine pu_gtr ?_ | refine pu_geq ?_ | refine pu_add ?_ | refine pu_sub ?_ | refine pu_mul ?_ | refine pu_neg ?_ | refine fa_at ?_ | refine nl_ptr ?_ | refine ex20 ?_ | refine ex21 ?_ | refine ex30 ?_ | refine ex31 ?_ | refine ex32 ?_ | refine ln_rule ?_ | refine lnT_rule ?_ | refine pu_and ?_ | refine pu_or ?_ | refine pu_xor ?_ | refine pu_seq ?_ | refine pu_sne ?_)
        refine cnd_f (by have := hv1 ht0; simp <;> omega) ?_
        refine ld_here h9 (.tail _ (.tail _ (.head _))) rfl ?_
        refine al_rule h9 (l := [vI 0]) (by kernel_rfl) (fun bt' w10 h10 => ?_)
        refine st1_here (A := []) h10 rfl rfl (by simp) (fun w11 h11 => ?_)
        refine ld_here h11 (.head _) rfl ?_
        repeat (first | refine pu_not ?_ | refine pu_eql ?_ | refine pu_neq ?_ | refine pu_lss ?_ | refine pu_leq ?_ | refine pu_gtr ?_ | refine pu_geq ?_ | refine pu_add ?_ | refine pu_sub ?_ | refine pu_mul ?_ | refine pu_neg ?_ | refine fa_at ?_ | refine nl_ptr ?_ | refine ex20 ?_ | refine ex21 ?_ | refine ex30 ?_ | refine ex31 ?_ | refine ex32 ?_ | refine ln_rule ?_ | refine lnT_rule ?_ | refine pu_and ?_ | refine pu_or ?_ | refine pu_xor ?_ | refine pu_seq ?_ | refine pu_sne ?_)
        rw [wrap64_in (by omega) (by omega)]
        refine st1_here (A := []) h11 rfl rfl (by simp) (fun w12 h12 => ?_)
        exact ⟨⟨bt', t + 1, b :: ms, rfl, rfl, by simp; omega, by omega, h12.sub (.cons_cons _ (.cons_cons _ (.cons _ (.cons _ (.refl _)))))⟩, by simp [mkD]; omega⟩
    · rintro b j Y w9 ⟨rfl, i, rfl, hi1, hi2, ht, hmi, hi⟩ h9
      have hv0 : t = 0 → (i : Int) = if (if many > 1 then many else 1) < 12 then (if many > 1 then many else 1) else 12 := fun h0 => by
        split <;> split <;> omega
      have hv1 : t = 1 → (i : Int) = 12 := fun h1 => by omega
      refine ld_here h9 (.tail _ (.tail _ (.head _))) rfl ?_
      repeat (first | refine pu_not ?_ | refine pu_eql ?_ | refine pu_neq ?_ | refine pu_lss ?_ | refine pu_leq ?_ | refine pu_gtr ?_ | refine pu_geq ?_ | refine pu_add ?_ | refine pu_sub ?_ | refine pu_mul ?_ | refine pu_neg ?_ | refine fa_at ?_ | refine nl_ptr ?_ | refine ex20 ?_ | refine ex21 ?_ | refine ex30 ?_ | refine ex31 ?_ | refine ex32 ?_ | refine ln_rule ?_ | refine lnT_rule ?_ | refine pu_and ?_ | refine pu_or ?_ | refine pu_xor ?_ | refine pu_seq ?_ | refine pu_sne ?_)
      refine cnd (fun ht0 => ?_) (fun ht0 => ?_)
      · have ht0 : t = 0 := by simp at ht0; omega
        refine ld_here h9 (.tail _ (.head _)) rfl ?_
        refine ld_here h9 (.tail _ (.tail _ (.tail _ (List.mem_append_right _ mS0)))) rfl ?_
        repeat (first | refine pu_not ?_ | refine pu_eql ?_ | refine pu_neq ?_ | refine pu_lss ?_ | refine pu_leq ?_ | refine pu_gtr ?_ | refine pu_geq ?_ | refine pu_add ?_ | refine pu_sub ?_ | refine pu_mul ?_ | refine pu_neg ?_ | refine fa_at ?_ | refine nl_ptr ?_ | refine ex20 ?_ | refine ex21 ?_ | refine ex30 ?_ | refine ex31 ?_ | refine ex32 ?_ | refine ln_rule ?_ | refine lnT_rule ?_ | refine pu_and ?_ | refine pu_or ?_ | refine pu_xor ?_ | refine pu_seq ?_ | refine pu_sne ?_)
        refine ld_here h9 (.tail _ (.tail _ (.tail _ (List.mem_append_right _ mM0)))) rfl ?_
        refine pu_max2 ?_
        refine pu_min2 ?_
        repeat (first | refine pu_not ?_ | refine pu_eql ?_ | refine pu_neq ?_ | refine pu_lss ?_ | refine pu_leq ?_ | refine pu_gtr ?_ | refine pu_geq ?_ | refine pu_add ?_ | refine pu_sub ?_ | refine pu_mul ?_ | refine pu_neg ?_ | refine fa_at ?_ | refine nl_ptr ?_ | refine ex20 ?_ | refine ex21 ?_ | refine ex30 ?_ | refine ex31 ?_ | refine ex32 ?_ | refine ln_rule ?_ | refine lnT_rule ?_ | refine pu_and ?_ | refine pu_or ?_ | refine pu_xor ?_ | refine pu_seq ?_ | refine pu_sne ?_)
        refine cnd_f ?_ ?_
        · have := hv0 ht0
          simp
          split <;> split at this <;> omega
        refine ld_here h9 (.tail _ (.tail _ (.head _))) rfl ?_
        repeat (first | refine pu_not ?_ | refine pu_eql ?_ | refine pu_neq ?_ | refine pu_lss ?_ | refine pu_leq ?_ | refine pu_gtr ?_ | refine pu_geq ?_ | refine pu_add ?_ | refine pu_sub ?_ | refine pu_mul ?_ | refine pu_neg ?_ | refine fa_at ?_ | refine nl_ptr ?_ | refine ex20 ?_ | refine ex21 ?_ | refine ex30 ?_ | refine ex31 ?_ | refine ex32 ?_ | refine ln_rule ?_ | refine lnT_rule ?_ | refine pu_and ?_ | refine pu_or ?_ | refine pu_xor ?_ | refine pu_seq ?_ | refine pu_sne ?_)
        refine cnd_f (by simp; omega) ?_
        refine ld_here h9 (.tail _ (.tail _ (.head _))) rfl ?_
        refine al_rule h9 (l := [vI 0]) (by kernel_rfl) (fun bt' w10 h10 => ?_)
        refine st1_here (A := []) h10 rfl rfl (by simp) (fun w11 h11 => ?_)
        refine ld_here h11 (.head _) rfl ?_
        repeat (first | refine pu_not ?_ | refine pu_eql ?_ | refine pu_neq ?_ | refine pu_lss ?_ | refine pu_leq ?_ | refine pu_gtr ?_ | refine pu_geq ?_ | refine pu_add ?_ | refine pu_sub ?_ | refine pu_mul ?_ | refine pu_neg ?_ | refine fa_at ?_ | refine nl_ptr ?_ | refine ex20 ?_ | refine ex21 ?_ | refine ex30 ?_ | refine ex31 ?_ | refine ex32 ?_ | refine ln_rule ?_ | refine lnT_rule ?_ | refine pu_and ?_ | refine pu_or ?_ | refine pu_xor ?_ | refine pu_seq ?_ | refine pu_sne ?_)
        rw [wrap64_in (by omega) (by omega)]
        refine st1_here (A := []) h11 rfl rfl (by simp) (fun w12 h12 => ?_)
        exact ⟨⟨bt', t + 1, b :: ms, rfl, rfl, by simp; omega, by omega, h12.sub (.cons_cons _ (.cons_cons _ (.cons _ (.cons _ (.refl _)))))⟩, by simp [mkD]; omega⟩
      · have ht0 : t = 1 := by simp at ht0; omega
        refine ld_here h9 (.tail _ (.tail _ (.head _))) rfl ?_
        repeat (first | refine pu_not ?_ | refine pu_eql ?_ | refine pu_neq ?_ | refine pu_lss ?_ | refine pu_leq ?_ | refine pu_gtr ?_ | refine pu_geq ?_ | refine pu_add ?_ | refine pu_sub ?_ | refine pu_mul ?_ | refine pu_neg ?_ | refine fa_at ?_ | refine nl_ptr ?_ | refine ex20 ?_ | refine ex21 ?_ | refine ex30 ?_ | refine ex31 ?_ | refine ex32 ?_ | refine ln_rule ?_ | refine lnT_rule ?_ | refine pu_and ?_ | refine pu_or ?_ | refine pu_xor ?_ | refine pu_seq ?_ | refine pu_sne ?_)
        refine cnd_t (by simp; omega) ?_
        refine ld_here h9 (.tail _ (.head _)) rfl ?_
        refine ld_here h9 (.tail _ (.tail _ (.tail _ (List.mem_append_right _ mS0)))) rfl ?_
        repeat (first | refine pu_not ?_ | refine pu_eql ?_ | refine pu_neq ?_ | refine pu_lss ?_ | refine pu_leq ?_ | refine pu_gtr ?_ | refine pu_geq ?_ | refine pu_add ?_ | refine pu_sub ?_ | refine pu_mul ?_ | refine pu_neg ?_ | refine fa_at ?_ | refine nl_ptr ?_ | refine ex20 ?_ | refine ex21 ?_ | refine ex30 ?_ | refine ex31 ?_ | refine ex32 ?_ | refine ln_rule ?_ | refine lnT_rule ?_ | refine pu_and ?_ | refine pu_or ?_ | refine pu_xor ?_ | refine pu_seq ?_ | refine pu_sne ?_)
        refine cnd_f (by have := hv1 ht0; simp <;> omega) ?_
        refine ld_here h9 (.tail _ (.tail _ (.head _))) rfl ?_
        refine al_rule h9 (l := [vI 0]) (by kernel_rfl) (fun bt' w10 h10 => ?_)
        refine st1_here (A := []) h10 rfl rfl (by simp) (fun w11 h11 => ?_)
        refine ld_here h11 (.head _) rfl ?_
        repeat (first | refine pu_not ?_ | refine pu_eql ?_ | refine pu_neq ?_ | refine pu_lss ?_ | refine pu_leq ?_ | refine pu_gtr ?_ | refine pu_geq ?_ | refine pu_add ?_ | refine pu_sub ?_ | refine pu_mul ?_ | refine pu_neg ?_ | refine fa_at ?_ | refine nl_ptr ?_ | refine ex20 ?_ | refine ex21 ?_ | refine ex30 ?_ | refine ex31 ?_ | refine ex32 ?_ | refine ln_rule ?_ | refine lnT_rule ?_ | refine pu_and ?_ | refine pu_or ?_ | refine pu_xor ?_ | refine pu_seq ?_ | refine pu_sne ?_)
        rw [wrap64_in (by omega) (by omega)]
        refine st1_here (A := []) h11 rfl rfl (by simp) (fun w12 h12 => ?_)
        exact ⟨⟨bt', t + 1, b :: ms, rfl, rfl, by simp; omega, by omega, h12.sub (.cons_cons _ (.cons_cons _ (.cons _ (.cons _ (.refl _)))))⟩, by simp [mkD]; omega⟩
  · obtain rfl : t = 2 := by simp at hlt; omega
    rw [← hD] at h8
    have h9 := h8.drop
    refine works_spec h9 (fun w10 h10 => ?_)
    refine st1_here (A := mkB ms ++ [_, _]) (by simpa using h10) rfl rfl (by simp) (fun w11 h11 => ?_)
    refine lv_rets (C := [_, _] ++ _) (by rw [← List.append_assoc]; exact h11) (fun w12 h12 => ?_)
    refine ld_here h12 (.tail _ (.tail _ (.head _))) rfl ?_
    exact k w12 h12.drop.drop.drop.drop
end
end Go.Proofs.Ytjchmalodbnamaa
