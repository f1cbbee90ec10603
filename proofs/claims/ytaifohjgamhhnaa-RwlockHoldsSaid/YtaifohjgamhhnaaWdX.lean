/- The law RwlockHolds: its walk. -/
import Derived.Test.YtaifohjgamhhnaaWdG
import Derived.Test.YtaifohjgamhhnaaWnS
set_option linter.unusedVariables false
set_option linter.unusedSimpArgs false
namespace Go.Proofs.Ytaifohjgamhhnaa
open Go Go.RowKit Vc Vd
attribute [local irreducible] binV Op.unary convert nlW faW ldS ldW ixS ixA ixV ixT exW lnS lnT pu stW alW opW opU bsW mkW

section
variable {B w : World} {H F : Hp} {K : Value → World → Prop} {PK : List PanicEntry → World → Prop} {L L' : List Lk} {m b : Nat} {i y n d r : Int}
def one (k : Lk) : Int := if 0 < k.wr then 1 else 0
def okL (L : List Lk) : Prop := ∀ k ∈ L, 0 < k.wr → k.rd = []
def rsOf (L : List Lk) : List Int := (full L).map fun k => (k.rd.length : Int)
def wsOf (L : List Lk) : List Int := (full L).map one
theorem rs_at (h0 : 0 ≤ i) (h1 : i < L.length) : (iv (rsOf L))[i.toNat]? = some (vI ((gk L i).rd.length)) := by
  unfold rsOf full
  rw [List.getElem?_map, List.getElem?_map, List.getElem?_append_left (by omega), lk_some h0 h1]; rfl
theorem ws_at (h0 : 0 ≤ i) (h1 : i < L.length) : (iv (wsOf L))[i.toNat]? = some (vI (one (gk L i))) := by
  unfold wsOf full
  rw [List.getElem?_map, List.getElem?_map, List.getElem?_append_left (by omega), lk_some h0 h1]; rfl
theorem rs_len (hw : Wf m L) : (iv (rsOf L)).length = 64 := by
  have := hw.len
  simp [rsOf, full]; omega
theorem ws_len (hw : Wf m L) : (iv (wsOf L)).length = 64 := by
  have := hw.len
  simp [wsOf, full]; omega
theorem rs_set {k : Lk} {i : Nat} (h : i < L.length) : (iv (rsOf L)).set i (vI k.rd.length) = iv (rsOf (L.set i k)) := by
  unfold rsOf iv
  rw [← full_set k h, List.map_set, List.map_set]
theorem ws_set {k : Lk} {i : Nat} (h : i < L.length) : (iv (wsOf L)).set i (vI (one k)) = iv (wsOf (L.set i k)) := by
  unfold wsOf iv
  rw [← full_set k h, List.map_set, List.map_set]
/-- What a call does to the two sums. -/
def Step (L L' : List Lk) (i n d r : Int) : Prop := (r ≠ 0 ∧ L' = L) ∨ (r = 0 ∧ 0 ≤ i ∧ i < L.length ∧ ∃ k' : Lk, L' = L.set i.toNat k' ∧ (k'.rd.length : Int) = (gk L i).rd.length + n ∧ one k' = one (gk L i) + d)
theorem okL.set {k : Lk} {i : Nat} (h : okL L) (hk : 0 < k.wr → k.rd = []) : okL (L.set i k) := fun x hx => by
  rcases List.mem_or_eq_of_mem_set hx with hx | rfl
  · exact h x hx
  · exact hk
theorem read_step (hok : okL L) : Step L (rRead L i y).1 i 1 0 (rRead L i y).2 ∧ okL (rRead L i y).1 := by
  unfold rRead
  split
  · rename_i h; exact ⟨.inl ⟨h, rfl⟩, hok⟩
  · rename_i hr
    obtain ⟨e0, e1, e2, e3⟩ := right_ok (Decidable.not_not.1 hr)
    split
    · exact ⟨.inl ⟨by simp, rfl⟩, hok⟩
    · rename_i hw
      exact ⟨.inr ⟨rfl, e2, e3, _, rfl, by simp, by simp [one]⟩, hok.set fun h => absurd h hw⟩
theorem write_step (hok : okL L) : Step L (rWrite L i y).1 i 0 1 (rWrite L i y).2 ∧ okL (rWrite L i y).1 := by
  unfold rWrite
  split
  · rename_i h; exact ⟨.inl ⟨h, rfl⟩, hok⟩
  · rename_i hr
    obtain ⟨e0, e1, e2, e3⟩ := right_ok (Decidable.not_not.1 hr)
    split
    · exact ⟨.inl ⟨by simp, rfl⟩, hok⟩
    · rename_i hw
      split
      · exact ⟨.inl ⟨by simp, rfl⟩, hok⟩
      · rename_i hd
        have hd : (gk L i).rd = [] := Decidable.not_not.1 hd
        exact ⟨.inr ⟨rfl, e2, e3, _, rfl, by simp, by simp only [one]; rw [if_pos (show 0 < y + 1 by omega), if_neg hw]; rfl⟩, hok.set fun _ => hd⟩
theorem unread_step (hok : okL L) : Step L (rUnread L i y).1 i (-1) 0 (rUnread L i y).2.2 ∧ okL (rUnread L i y).1 := by
  unfold rUnread
  split
  · rename_i h; exact ⟨.inl ⟨h, rfl⟩, hok⟩
  · rename_i hr
    obtain ⟨e0, e1, e2, e3⟩ := right_ok (Decidable.not_not.1 hr)
    split
    · exact ⟨.inl ⟨by simp, rfl⟩, hok⟩
    · rename_i hd
      have hl := fnd_lt hd y
      refine ⟨.inr ⟨rfl, e2, e3, _, rfl, ?_, by simp [one]⟩, hok.set fun h => absurd (hok _ (lk_mem e2 e3) h) hd⟩
      show (((gk L i).rd.eraseIdx _).length : Int) = _
      rw [List.length_eraseIdx_of_lt hl]; omega
theorem unwrite_step {m : Nat} (hw : Wf m L) (hok : okL L) : Step L (rUnwrite L i).1 i 0 (-1) (rUnwrite L i).2.2 ∧ okL (rUnwrite L i).1 := by
  unfold rUnwrite
  split
  · rename_i h; exact ⟨.inl ⟨h, rfl⟩, hok⟩
  · rename_i hr
    obtain ⟨e0, e1, e2, e3⟩ := right_ok (Decidable.not_not.1 hr)
    have hks := hw.ks _ (lk_mem e2 e3)
    split
    · exact ⟨.inl ⟨by simp, rfl⟩, hok⟩
    · rename_i hz
      exact ⟨.inr ⟨rfl, e2, e3, _, rfl, by simp, by simp only [one]; rw [if_neg (show ¬ (0 : Int) < 0 by omega), if_pos (show 0 < (gk L i).wr by omega)]; rfl⟩, hok.set fun h => absurd h (by show ¬ (0 : Int) < 0; omega)⟩
theorem step_len (h : Step L L' i n d r) : L'.length = L.length := by
  rcases h with ⟨_, rfl⟩ | ⟨_, _, _, k, rfl, _⟩
  · rfl
  · rw [List.length_set]
theorem front {A : Hp} (h : Ow B w (A ++ (F ++ H))) : Ow B w (F ++ (A ++ H)) := h.perm (List.perm_append_comm_assoc A F H)
theorem drp {S : Hp} (h : Ow B w (S ++ H)) : Ow B w H := h.sub (List.sublist_append_right _ _)
abbrev xo (what i y : Int) : Obj := cel [vI what, vI i, vI y] T.t_linesmanlaw14_Act
theorem und_bool : PG.underlying T.t_bool = some .bool := by kernel_rfl
theorem neqb {KK : Value → Prop} {a b : Bool} (hab : a = b) (k : KK (vB false)) : pu PG (binV .neq T.t_bool false (vB a) (vB b)) KK := by
  refine pu_bneq und_bool ?_
  subst hab
  rw [bne_self_eq_false]; exact k
theorem k0_spec {R : Ending → World → Prop} {NN : List Value → World → Prop} {br bw bx j : Nat} {many what : Int} (st : Step L L' i n d r) (hok' : okL L') (hw : Wf m L) (lp : LP L' (m + 1) b F) (hlen : (L.length : Int) = many) (hm : m < 999999) (hn : -1 ≤ n ∧ n ≤ 1) (hd : -1 ≤ d ∧ d ≤ 1) (hj : j < 1000000)
    (h : Ow B w (F ++ ((bx, xo what i y) :: (bw, cel (iv (wsOf L)) T.t_64_int) :: (br, cel (iv (rsOf L)) T.t_64_int) :: H)))
    (kN : ∀ w', Ow B w' (F ++ ((bx, xo what i y) :: (bw, cel (iv (wsOf L')) T.t_64_int) :: (br, cel (iv (rsOf L')) T.t_64_int) :: H)) → NN [vI ((j : Int) + 1)] w') :
    linesmanlaw14_RwlockHolds.k0 R NN (vI many) (ptr b) (ptr br) (ptr bw) (vI j) (ptr bx) (vI r) (vI n) (vI d) w := by
  unfold linesmanlaw14_RwlockHolds.k0
  refine num_spec h (fun w1 h1 => ?_)
  repeat (first | refine pu_not ?_ | refine pu_eql ?_ | refine pu_neq ?_ | refine pu_lss ?_ | refine pu_leq ?_ | refine pu_gtr ?_ | refine pu_geq ?_ | refine pu_add ?_ | refine pu_sub ?_ | refine pu_mul ?_ | refine pu_neg ?_ | refine fa_at ?_ | refine nl_ptr ?_ | refine ex20 ?_ | refine ex21 ?_ | refine ex30 ?_ | refine ex31 ?_ | refine ex32 ?_ | refine ln_rule ?_ | refine lnT_rule ?_ | refine pu_and ?_ | refine pu_or ?_ | refine pu_xor ?_ | refine pu_seq ?_ | refine pu_sne ?_)
  rcases st with ⟨hr, rfl⟩ | ⟨rfl, h0, hlt, k', rfl, hk1, hk2⟩
  · refine cnd_t (by simpa using hr) ?_
    repeat (first | refine pu_not ?_ | refine pu_eql ?_ | refine pu_neq ?_ | refine pu_lss ?_ | refine pu_leq ?_ | refine pu_gtr ?_ | refine pu_geq ?_ | refine pu_add ?_ | refine pu_sub ?_ | refine pu_mul ?_ | refine pu_neg ?_ | refine fa_at ?_ | refine nl_ptr ?_ | refine ex20 ?_ | refine ex21 ?_ | refine ex30 ?_ | refine ex31 ?_ | refine ex32 ?_ | refine ln_rule ?_ | refine lnT_rule ?_ | refine pu_and ?_ | refine pu_or ?_ | refine pu_xor ?_ | refine pu_seq ?_ | refine pu_sne ?_)
    rw [wrap64_in (by omega) (by omega)]
    exact kN _ h1
  refine cnd_f rfl ?_
  have hks := hw.ks _ (lk_mem h0 hlt)
  have hw' := lp.wf
  have hks' := hw'.ks k' (List.mem_set (by omega) _)
  have hone : one (gk L i) = 0 ∨ one (gk L i) = 1 := by unfold one; split <;> simp
  have hone' : one k' = 0 ∨ one k' = 1 := by unfold one; split <;> simp
  have hl0 := hw.len
  have mx : ∀ {A C : Hp}, (bx, xo what i y) ∈ F ++ ((bx, xo what i y) :: (A ++ C)) := List.mem_append_right _ (.head _)
  repeat (first | refine pu_not ?_ | refine pu_eql ?_ | refine pu_neq ?_ | refine pu_lss ?_ | refine pu_leq ?_ | refine pu_gtr ?_ | refine pu_geq ?_ | refine pu_add ?_ | refine pu_sub ?_ | refine pu_mul ?_ | refine pu_neg ?_ | refine fa_at ?_ | refine nl_ptr ?_ | refine ex20 ?_ | refine ex21 ?_ | refine ex30 ?_ | refine ex31 ?_ | refine ex32 ?_ | refine ln_rule ?_ | refine lnT_rule ?_ | refine pu_and ?_ | refine pu_or ?_ | refine pu_xor ?_ | refine pu_seq ?_ | refine pu_sne ?_)
  refine ld_here h1 (List.mem_append_right _ (.head _)) rfl ?_
  repeat (first | refine pu_not ?_ | refine pu_eql ?_ | refine pu_neq ?_ | refine pu_lss ?_ | refine pu_leq ?_ | refine pu_gtr ?_ | refine pu_geq ?_ | refine pu_add ?_ | refine pu_sub ?_ | refine pu_mul ?_ | refine pu_neg ?_ | refine fa_at ?_ | refine nl_ptr ?_ | refine ex20 ?_ | refine ex21 ?_ | refine ex30 ?_ | refine ex31 ?_ | refine ex32 ?_ | refine ln_rule ?_ | refine lnT_rule ?_ | refine pu_and ?_ | refine pu_or ?_ | refine pu_xor ?_ | refine pu_seq ?_ | refine pu_sne ?_)
  refine cnd_f (by first | (simp; done) | (simp; omega)) ?_
  repeat (first | refine pu_not ?_ | refine pu_eql ?_ | refine pu_neq ?_ | refine pu_lss ?_ | refine pu_leq ?_ | refine pu_gtr ?_ | refine pu_geq ?_ | refine pu_add ?_ | refine pu_sub ?_ | refine pu_mul ?_ | refine pu_neg ?_ | refine fa_at ?_ | refine nl_ptr ?_ | refine ex20 ?_ | refine ex21 ?_ | refine ex30 ?_ | refine ex31 ?_ | refine ex32 ?_ | refine ln_rule ?_ | refine lnT_rule ?_ | refine pu_and ?_ | refine pu_or ?_ | refine pu_xor ?_ | refine pu_seq ?_ | refine pu_sne ?_)
  refine ld_here h1 (List.mem_append_right _ (.head _)) rfl ?_
  repeat (first | refine pu_not ?_ | refine pu_eql ?_ | refine pu_neq ?_ | refine pu_lss ?_ | refine pu_leq ?_ | refine pu_gtr ?_ | refine pu_geq ?_ | refine pu_add ?_ | refine pu_sub ?_ | refine pu_mul ?_ | refine pu_neg ?_ | refine fa_at ?_ | refine nl_ptr ?_ | refine ex20 ?_ | refine ex21 ?_ | refine ex30 ?_ | refine ex31 ?_ | refine ex32 ?_ | refine ln_rule ?_ | refine lnT_rule ?_ | refine pu_and ?_ | refine pu_or ?_ | refine pu_xor ?_ | refine pu_seq ?_ | refine pu_sne ?_)
  refine cnd_f (by first | (simp; done) | (simp; omega)) ?_
  refine ⟨fun w => Ow B w [(bx, xo what i y), (bw, cel (iv (wsOf L)) T.t_64_int)], h1.drew.sub ((List.Sublist.cons_cons _ (.cons_cons _ (List.nil_sublist _))).trans (List.sublist_append_right _ _)), ?_⟩
  repeat (first | refine pu_not ?_ | refine pu_eql ?_ | refine pu_neq ?_ | refine pu_lss ?_ | refine pu_leq ?_ | refine pu_gtr ?_ | refine pu_geq ?_ | refine pu_add ?_ | refine pu_sub ?_ | refine pu_mul ?_ | refine pu_neg ?_ | refine fa_at ?_ | refine nl_ptr ?_ | refine ex20 ?_ | refine ex21 ?_ | refine ex30 ?_ | refine ex31 ?_ | refine ex32 ?_ | refine ln_rule ?_ | refine lnT_rule ?_ | refine pu_and ?_ | refine pu_or ?_ | refine pu_xor ?_ | refine pu_seq ?_ | refine pu_sne ?_)
  refine ld_here h1.drew (List.mem_append_right _ (.head _)) rfl ?_
  repeat (first | refine pu_not ?_ | refine pu_eql ?_ | refine pu_neq ?_ | refine pu_lss ?_ | refine pu_leq ?_ | refine pu_gtr ?_ | refine pu_geq ?_ | refine pu_add ?_ | refine pu_sub ?_ | refine pu_mul ?_ | refine pu_neg ?_ | refine fa_at ?_ | refine nl_ptr ?_ | refine ex20 ?_ | refine ex21 ?_ | refine ex30 ?_ | refine ex31 ?_ | refine ex32 ?_ | refine ln_rule ?_ | refine lnT_rule ?_ | refine pu_and ?_ | refine pu_or ?_ | refine pu_xor ?_ | refine pu_seq ?_ | refine pu_sne ?_)
  refine lds_here (fun w h => h) (.head _) rfl ?_
  repeat (first | refine pu_not ?_ | refine pu_eql ?_ | refine pu_neq ?_ | refine pu_lss ?_ | refine pu_leq ?_ | refine pu_gtr ?_ | refine pu_geq ?_ | refine pu_add ?_ | refine pu_sub ?_ | refine pu_mul ?_ | refine pu_neg ?_ | refine fa_at ?_ | refine nl_ptr ?_ | refine ex20 ?_ | refine ex21 ?_ | refine ex30 ?_ | refine ex31 ?_ | refine ex32 ?_ | refine ln_rule ?_ | refine lnT_rule ?_ | refine pu_and ?_ | refine pu_or ?_ | refine pu_xor ?_ | refine pu_seq ?_ | refine pu_sne ?_)
  refine ld_here h1.drew (List.mem_append_right _ (.head _)) rfl ?_
  refine ixA_at h0 (by omega) ?_
  refine ld_here h1.drew (List.mem_append_right _ (.tail _ (.tail _ (.head _)))) (v := vI ((gk L i).rd.length)) (by simpa using rs_at h0 hlt) ?_
  repeat (first | refine pu_not ?_ | refine pu_eql ?_ | refine pu_neq ?_ | refine pu_lss ?_ | refine pu_leq ?_ | refine pu_gtr ?_ | refine pu_geq ?_ | refine pu_add ?_ | refine pu_sub ?_ | refine pu_mul ?_ | refine pu_neg ?_ | refine fa_at ?_ | refine nl_ptr ?_ | refine ex20 ?_ | refine ex21 ?_ | refine ex30 ?_ | refine ex31 ?_ | refine ex32 ?_ | refine ln_rule ?_ | refine lnT_rule ?_ | refine pu_and ?_ | refine pu_or ?_ | refine pu_xor ?_ | refine pu_seq ?_ | refine pu_sne ?_)
  rw [wrap64_in (by omega) (by omega)]
  repeat (first | refine pu_not ?_ | refine pu_eql ?_ | refine pu_neq ?_ | refine pu_lss ?_ | refine pu_leq ?_ | refine pu_gtr ?_ | refine pu_geq ?_ | refine pu_add ?_ | refine pu_sub ?_ | refine pu_mul ?_ | refine pu_neg ?_ | refine fa_at ?_ | refine nl_ptr ?_ | refine ex20 ?_ | refine ex21 ?_ | refine ex30 ?_ | refine ex31 ?_ | refine ex32 ?_ | refine ln_rule ?_ | refine lnT_rule ?_ | refine pu_and ?_ | refine pu_or ?_ | refine pu_xor ?_ | refine pu_seq ?_ | refine pu_sne ?_)
  refine lds_here (fun w h => h) (.head _) rfl ?_
  refine ixA_at h0 (by omega) ?_
  refine lds_here (fun w h => h) (.tail _ (.head _)) (v := vI (one (gk L i))) (by simpa using ws_at h0 hlt) ?_
  repeat (first | refine pu_not ?_ | refine pu_eql ?_ | refine pu_neq ?_ | refine pu_lss ?_ | refine pu_leq ?_ | refine pu_gtr ?_ | refine pu_geq ?_ | refine pu_add ?_ | refine pu_sub ?_ | refine pu_mul ?_ | refine pu_neg ?_ | refine fa_at ?_ | refine nl_ptr ?_ | refine ex20 ?_ | refine ex21 ?_ | refine ex30 ?_ | refine ex31 ?_ | refine ex32 ?_ | refine ln_rule ?_ | refine lnT_rule ?_ | refine pu_and ?_ | refine pu_or ?_ | refine pu_xor ?_ | refine pu_seq ?_ | refine pu_sne ?_)
  rw [wrap64_in (by omega) (by omega)]
  refine ixA_at h0 (by omega) ?_
  rw [← hk1, ← hk2]
  have h2 : Ow B w1.drew ((F ++ [(bx, xo what i y), (bw, cel (iv (wsOf L)) T.t_64_int)]) ++ (br, cel (iv (rsOf L)) T.t_64_int) :: H) := by simpa using h1.drew
  refine st1_here h2 rfl rfl (by rw [rs_len hw]; omega) (fun w3 h3 => ?_)
  rw [Nat.zero_add, Nat.mul_one, rs_set (by omega)] at h3
  refine ⟨h3.sub ?_, ?_⟩
  · rw [List.append_assoc]
    exact (List.Sublist.cons_cons _ (.cons_cons _ (List.nil_sublist _))).trans (List.sublist_append_right _ _)
  refine ixA_at h0 (by omega) ?_
  have h3 : Ow B w3 ((F ++ [(bx, xo what i y)]) ++ (bw, cel (iv (wsOf L)) T.t_64_int) :: (br, cel (iv (rsOf (L.set i.toNat k'))) T.t_64_int) :: H) := by simpa using h3
  refine st1_here h3 rfl rfl (by rw [ws_len hw]; omega) (fun w4 h4 => ?_)
  rw [Nat.zero_add, Nat.mul_one, ws_set (by omega)] at h4
  have h4 : Ow B w4 (F ++ ((bx, xo what i y) :: (bw, cel (iv (wsOf (L.set i.toNat k'))) T.t_64_int) :: (br, cel (iv (rsOf (L.set i.toNat k'))) T.t_64_int) :: H)) := by simpa using h4
  have hgk : gk (L.set i.toNat k') i = k' := by
    unfold gk
    rw [List.getD_eq_getElem?_getD, List.getElem?_set_self (by omega)]; rfl
  have hll : (L.set i.toNat k').length = L.length := List.length_set
  generalize hLL : L.set i.toNat k' = LL at *
  have hlt' : i < LL.length := by omega
  have hr' := rs_at h0 hlt'
  have hs' := ws_at h0 hlt'
  rw [hgk] at hr' hs'
  have hokk : 0 < k'.wr → k'.rd = [] := hok' k' (by rw [← hgk]; exact lk_mem h0 hlt')
  repeat (first | refine pu_not ?_ | refine pu_eql ?_ | refine pu_neq ?_ | refine pu_lss ?_ | refine pu_leq ?_ | refine pu_gtr ?_ | refine pu_geq ?_ | refine pu_add ?_ | refine pu_sub ?_ | refine pu_mul ?_ | refine pu_neg ?_ | refine fa_at ?_ | refine nl_ptr ?_ | refine ex20 ?_ | refine ex21 ?_ | refine ex30 ?_ | refine ex31 ?_ | refine ex32 ?_ | refine ln_rule ?_ | refine lnT_rule ?_ | refine pu_and ?_ | refine pu_or ?_ | refine pu_xor ?_ | refine pu_seq ?_ | refine pu_sne ?_)
  refine ld_here h4 (List.mem_append_right _ (.head _)) rfl ?_
  refine writer_spec lp h4 (fun w5 h5 => ?_)
  rw [hgk]
  repeat (first | refine pu_not ?_ | refine pu_eql ?_ | refine pu_neq ?_ | refine pu_lss ?_ | refine pu_leq ?_ | refine pu_gtr ?_ | refine pu_geq ?_ | refine pu_add ?_ | refine pu_sub ?_ | refine pu_mul ?_ | refine pu_neg ?_ | refine fa_at ?_ | refine nl_ptr ?_ | refine ex20 ?_ | refine ex21 ?_ | refine ex30 ?_ | refine ex31 ?_ | refine ex32 ?_ | refine ln_rule ?_ | refine lnT_rule ?_ | refine pu_and ?_ | refine pu_or ?_ | refine pu_xor ?_ | refine pu_seq ?_ | refine pu_sne ?_)
  refine ⟨fun w => Ow B w (F ++ ((bx, xo what i y) :: (bw, cel (iv (wsOf LL)) T.t_64_int) :: (br, cel (iv (rsOf LL)) T.t_64_int) :: H)), h5.drew, ?_⟩
  have h5 := h5.drew
  repeat (first | refine pu_not ?_ | refine pu_eql ?_ | refine pu_neq ?_ | refine pu_lss ?_ | refine pu_leq ?_ | refine pu_gtr ?_ | refine pu_geq ?_ | refine pu_add ?_ | refine pu_sub ?_ | refine pu_mul ?_ | refine pu_neg ?_ | refine fa_at ?_ | refine nl_ptr ?_ | refine ex20 ?_ | refine ex21 ?_ | refine ex30 ?_ | refine ex31 ?_ | refine ex32 ?_ | refine ln_rule ?_ | refine lnT_rule ?_ | refine pu_and ?_ | refine pu_or ?_ | refine pu_xor ?_ | refine pu_seq ?_ | refine pu_sne ?_)
  refine lds_here (fun w h => h) (List.mem_append_right _ (.head _)) rfl ?_
  refine ixA_at h0 (by omega) ?_
  refine lds_here (fun w h => h) (List.mem_append_right _ (.tail _ (.tail _ (.head _)))) (v := vI (k'.rd.length)) (by simpa using hr') ?_
  repeat (first | refine pu_not ?_ | refine pu_eql ?_ | refine pu_neq ?_ | refine pu_lss ?_ | refine pu_leq ?_ | refine pu_gtr ?_ | refine pu_geq ?_ | refine pu_add ?_ | refine pu_sub ?_ | refine pu_mul ?_ | refine pu_neg ?_ | refine fa_at ?_ | refine nl_ptr ?_ | refine ex20 ?_ | refine ex21 ?_ | refine ex30 ?_ | refine ex31 ?_ | refine ex32 ?_ | refine ln_rule ?_ | refine lnT_rule ?_ | refine pu_and ?_ | refine pu_or ?_ | refine pu_xor ?_ | refine pu_seq ?_ | refine pu_sne ?_)
  refine cnd_f (by first | (simp; done) | (simp; omega)) ?_
  repeat (first | refine pu_not ?_ | refine pu_eql ?_ | refine pu_neq ?_ | refine pu_lss ?_ | refine pu_leq ?_ | refine pu_gtr ?_ | refine pu_geq ?_ | refine pu_add ?_ | refine pu_sub ?_ | refine pu_mul ?_ | refine pu_neg ?_ | refine fa_at ?_ | refine nl_ptr ?_ | refine ex20 ?_ | refine ex21 ?_ | refine ex30 ?_ | refine ex31 ?_ | refine ex32 ?_ | refine ln_rule ?_ | refine lnT_rule ?_ | refine pu_and ?_ | refine pu_or ?_ | refine pu_xor ?_ | refine pu_seq ?_ | refine pu_sne ?_)
  refine lds_here (fun w h => h) (List.mem_append_right _ (.head _)) rfl ?_
  refine ixA_at h0 (by omega) ?_
  refine lds_here (fun w h => h) (List.mem_append_right _ (.tail _ (.head _))) (v := vI (one k')) (by simpa using hs') ?_
  repeat (first | refine pu_not ?_ | refine pu_eql ?_ | refine pu_neq ?_ | refine pu_lss ?_ | refine pu_leq ?_ | refine pu_gtr ?_ | refine pu_geq ?_ | refine pu_add ?_ | refine pu_sub ?_ | refine pu_mul ?_ | refine pu_neg ?_ | refine fa_at ?_ | refine nl_ptr ?_ | refine ex20 ?_ | refine ex21 ?_ | refine ex30 ?_ | refine ex31 ?_ | refine ex32 ?_ | refine ln_rule ?_ | refine lnT_rule ?_ | refine pu_and ?_ | refine pu_or ?_ | refine pu_xor ?_ | refine pu_seq ?_ | refine pu_sne ?_)
  refine cnd_f (by first | (simp; done) | (simp; omega)) ?_
  repeat (first | refine pu_not ?_ | refine pu_eql ?_ | refine pu_neq ?_ | refine pu_lss ?_ | refine pu_leq ?_ | refine pu_gtr ?_ | refine pu_geq ?_ | refine pu_add ?_ | refine pu_sub ?_ | refine pu_mul ?_ | refine pu_neg ?_ | refine fa_at ?_ | refine nl_ptr ?_ | refine ex20 ?_ | refine ex21 ?_ | refine ex30 ?_ | refine ex31 ?_ | refine ex32 ?_ | refine ln_rule ?_ | refine lnT_rule ?_ | refine pu_and ?_ | refine pu_or ?_ | refine pu_xor ?_ | refine pu_seq ?_ | refine pu_sne ?_)
  refine lds_here (fun w h => h) (List.mem_append_right _ (.head _)) rfl ?_
  refine ixA_at h0 (by omega) ?_
  refine lds_here (fun w h => h) (List.mem_append_right _ (.tail _ (.head _))) (v := vI (one k')) (by simpa using hs') ?_
  repeat (first | refine pu_not ?_ | refine pu_eql ?_ | refine pu_neq ?_ | refine pu_lss ?_ | refine pu_leq ?_ | refine pu_gtr ?_ | refine pu_geq ?_ | refine pu_add ?_ | refine pu_sub ?_ | refine pu_mul ?_ | refine pu_neg ?_ | refine fa_at ?_ | refine nl_ptr ?_ | refine ex20 ?_ | refine ex21 ?_ | refine ex30 ?_ | refine ex31 ?_ | refine ex32 ?_ | refine ln_rule ?_ | refine lnT_rule ?_ | refine pu_and ?_ | refine pu_or ?_ | refine pu_xor ?_ | refine pu_seq ?_ | refine pu_sne ?_)
  refine cnd_f (by first | (simp; done) | (simp; omega)) ?_
  repeat (first | refine pu_not ?_ | refine pu_eql ?_ | refine pu_neq ?_ | refine pu_lss ?_ | refine pu_leq ?_ | refine pu_gtr ?_ | refine pu_geq ?_ | refine pu_add ?_ | refine pu_sub ?_ | refine pu_mul ?_ | refine pu_neg ?_ | refine fa_at ?_ | refine nl_ptr ?_ | refine ex20 ?_ | refine ex21 ?_ | refine ex30 ?_ | refine ex31 ?_ | refine ex32 ?_ | refine ln_rule ?_ | refine lnT_rule ?_ | refine pu_and ?_ | refine pu_or ?_ | refine pu_xor ?_ | refine pu_seq ?_ | refine pu_sne ?_)
  refine lds_here (fun w h => h) (List.mem_append_right _ (.head _)) rfl ?_
  refine ixA_at h0 (by omega) ?_
  refine lds_here (fun w h => h) (List.mem_append_right _ (.tail _ (.tail _ (.head _)))) (v := vI (k'.rd.length)) (by simpa using hr') ?_
  repeat (first | refine pu_not ?_ | refine pu_eql ?_ | refine pu_neq ?_ | refine pu_lss ?_ | refine pu_leq ?_ | refine pu_gtr ?_ | refine pu_geq ?_ | refine pu_add ?_ | refine pu_sub ?_ | refine pu_mul ?_ | refine pu_neg ?_ | refine fa_at ?_ | refine nl_ptr ?_ | refine ex20 ?_ | refine ex21 ?_ | refine ex30 ?_ | refine ex31 ?_ | refine ex32 ?_ | refine ln_rule ?_ | refine lnT_rule ?_ | refine pu_and ?_ | refine pu_or ?_ | refine pu_xor ?_ | refine pu_seq ?_ | refine pu_sne ?_)
  refine cnd (fun hp => ?_) (fun hp => ?_)
  · have hp : 0 < k'.rd.length := by simpa using hp
    repeat (first | refine pu_not ?_ | refine pu_eql ?_ | refine pu_neq ?_ | refine pu_lss ?_ | refine pu_leq ?_ | refine pu_gtr ?_ | refine pu_geq ?_ | refine pu_add ?_ | refine pu_sub ?_ | refine pu_mul ?_ | refine pu_neg ?_ | refine fa_at ?_ | refine nl_ptr ?_ | refine ex20 ?_ | refine ex21 ?_ | refine ex30 ?_ | refine ex31 ?_ | refine ex32 ?_ | refine ln_rule ?_ | refine lnT_rule ?_ | refine pu_and ?_ | refine pu_or ?_ | refine pu_xor ?_ | refine pu_seq ?_ | refine pu_sne ?_)
    refine lds_here (fun w h => h) (List.mem_append_right _ (.head _)) rfl ?_
    refine ixA_at h0 (by omega) ?_
    refine lds_here (fun w h => h) (List.mem_append_right _ (.tail _ (.head _))) (v := vI (one k')) (by simpa using hs') ?_
    repeat (first | refine pu_not ?_ | refine pu_eql ?_ | refine pu_neq ?_ | refine pu_lss ?_ | refine pu_leq ?_ | refine pu_gtr ?_ | refine pu_geq ?_ | refine pu_add ?_ | refine pu_sub ?_ | refine pu_mul ?_ | refine pu_neg ?_ | refine fa_at ?_ | refine nl_ptr ?_ | refine ex20 ?_ | refine ex21 ?_ | refine ex30 ?_ | refine ex31 ?_ | refine ex32 ?_ | refine ln_rule ?_ | refine lnT_rule ?_ | refine pu_and ?_ | refine pu_or ?_ | refine pu_xor ?_ | refine pu_seq ?_ | refine pu_sne ?_)
    refine cnd_f ?_ ?_
    · have : ¬ 0 < k'.wr := fun hq => by rw [hokk hq] at hp; simp at hp
      unfold one
      rw [if_neg this]; rfl
    repeat (first | refine pu_not ?_ | refine pu_eql ?_ | refine pu_neq ?_ | refine pu_lss ?_ | refine pu_leq ?_ | refine pu_gtr ?_ | refine pu_geq ?_ | refine pu_add ?_ | refine pu_sub ?_ | refine pu_mul ?_ | refine pu_neg ?_ | refine fa_at ?_ | refine nl_ptr ?_ | refine ex20 ?_ | refine ex21 ?_ | refine ex30 ?_ | refine ex31 ?_ | refine ex32 ?_ | refine ln_rule ?_ | refine lnT_rule ?_ | refine pu_and ?_ | refine pu_or ?_ | refine pu_xor ?_ | refine pu_seq ?_ | refine pu_sne ?_)
    refine lds_here (fun w h => h) (List.mem_append_right _ (.head _)) rfl ?_
    repeat (first | refine pu_not ?_ | refine pu_eql ?_ | refine pu_neq ?_ | refine pu_lss ?_ | refine pu_leq ?_ | refine pu_gtr ?_ | refine pu_geq ?_ | refine pu_add ?_ | refine pu_sub ?_ | refine pu_mul ?_ | refine pu_neg ?_ | refine fa_at ?_ | refine nl_ptr ?_ | refine ex20 ?_ | refine ex21 ?_ | refine ex30 ?_ | refine ex31 ?_ | refine ex32 ?_ | refine ln_rule ?_ | refine lnT_rule ?_ | refine pu_and ?_ | refine pu_or ?_ | refine pu_xor ?_ | refine pu_seq ?_ | refine pu_sne ?_)
    refine lds_here (fun w h => h) (List.mem_append_right _ (.head _)) rfl ?_
    refine ixA_at h0 (by omega) ?_
    refine lds_here (fun w h => h) (List.mem_append_right _ (.tail _ (.tail _ (.head _)))) (v := vI (k'.rd.length)) (by simpa using hr') ?_
    refine readers_spec lp (by omega) h5 (fun S v w6 h6 ho => ?_)
    rw [if_pos h0, hgk] at ho
    have h6' := drp h6
    refine ⟨h6', ?_⟩
    refine sl_ln ho.sl ?_
    rw [List.length_map]
    repeat (first | refine pu_not ?_ | refine pu_eql ?_ | refine pu_neq ?_ | refine pu_lss ?_ | refine pu_leq ?_ | refine pu_gtr ?_ | refine pu_geq ?_ | refine pu_add ?_ | refine pu_sub ?_ | refine pu_mul ?_ | refine pu_neg ?_ | refine fa_at ?_ | refine nl_ptr ?_ | refine ex20 ?_ | refine ex21 ?_ | refine ex30 ?_ | refine ex31 ?_ | refine ex32 ?_ | refine ln_rule ?_ | refine lnT_rule ?_ | refine pu_and ?_ | refine pu_or ?_ | refine pu_xor ?_ | refine pu_seq ?_ | refine pu_sne ?_)
    refine cnd_f (by simp) ?_
    repeat (first | refine pu_not ?_ | refine pu_eql ?_ | refine pu_neq ?_ | refine pu_lss ?_ | refine pu_leq ?_ | refine pu_gtr ?_ | refine pu_geq ?_ | refine pu_add ?_ | refine pu_sub ?_ | refine pu_mul ?_ | refine pu_neg ?_ | refine fa_at ?_ | refine nl_ptr ?_ | refine ex20 ?_ | refine ex21 ?_ | refine ex30 ?_ | refine ex31 ?_ | refine ex32 ?_ | refine ln_rule ?_ | refine lnT_rule ?_ | refine pu_and ?_ | refine pu_or ?_ | refine pu_xor ?_ | refine pu_seq ?_ | refine pu_sne ?_)
    refine lds_here (fun w h => h) (List.mem_append_right _ (.head _)) rfl ?_
    refine ixA_at h0 (by omega) ?_
    refine lds_here (fun w h => h) (List.mem_append_right _ (.tail _ (.head _))) (v := vI (one k')) (by simpa using hs') ?_
    repeat (first | refine pu_not ?_ | refine pu_eql ?_ | refine pu_neq ?_ | refine pu_lss ?_ | refine pu_leq ?_ | refine pu_gtr ?_ | refine pu_geq ?_ | refine pu_add ?_ | refine pu_sub ?_ | refine pu_mul ?_ | refine pu_neg ?_ | refine fa_at ?_ | refine nl_ptr ?_ | refine ex20 ?_ | refine ex21 ?_ | refine ex30 ?_ | refine ex31 ?_ | refine ex32 ?_ | refine ln_rule ?_ | refine lnT_rule ?_ | refine pu_and ?_ | refine pu_or ?_ | refine pu_xor ?_ | refine pu_seq ?_ | refine pu_sne ?_)
    refine neqb ?_ ?_
    · unfold one
      by_cases hq : 0 < k'.wr <;> simp [hq, h0]
    refine cnd_f rfl ?_
    repeat (first | refine pu_not ?_ | refine pu_eql ?_ | refine pu_neq ?_ | refine pu_lss ?_ | refine pu_leq ?_ | refine pu_gtr ?_ | refine pu_geq ?_ | refine pu_add ?_ | refine pu_sub ?_ | refine pu_mul ?_ | refine pu_neg ?_ | refine fa_at ?_ | refine nl_ptr ?_ | refine ex20 ?_ | refine ex21 ?_ | refine ex30 ?_ | refine ex31 ?_ | refine ex32 ?_ | refine ln_rule ?_ | refine lnT_rule ?_ | refine pu_and ?_ | refine pu_or ?_ | refine pu_xor ?_ | refine pu_seq ?_ | refine pu_sne ?_)
    rw [wrap64_in (by omega) (by omega)]
    exact kN _ h6'
  · repeat (first | refine pu_not ?_ | refine pu_eql ?_ | refine pu_neq ?_ | refine pu_lss ?_ | refine pu_leq ?_ | refine pu_gtr ?_ | refine pu_geq ?_ | refine pu_add ?_ | refine pu_sub ?_ | refine pu_mul ?_ | refine pu_neg ?_ | refine fa_at ?_ | refine nl_ptr ?_ | refine ex20 ?_ | refine ex21 ?_ | refine ex30 ?_ | refine ex31 ?_ | refine ex32 ?_ | refine ln_rule ?_ | refine lnT_rule ?_ | refine pu_and ?_ | refine pu_or ?_ | refine pu_xor ?_ | refine pu_seq ?_ | refine pu_sne ?_)
    refine lds_here (fun w h => h) (List.mem_append_right _ (.head _)) rfl ?_
    repeat (first | refine pu_not ?_ | refine pu_eql ?_ | refine pu_neq ?_ | refine pu_lss ?_ | refine pu_leq ?_ | refine pu_gtr ?_ | refine pu_geq ?_ | refine pu_add ?_ | refine pu_sub ?_ | refine pu_mul ?_ | refine pu_neg ?_ | refine fa_at ?_ | refine nl_ptr ?_ | refine ex20 ?_ | refine ex21 ?_ | refine ex30 ?_ | refine ex31 ?_ | refine ex32 ?_ | refine ln_rule ?_ | refine lnT_rule ?_ | refine pu_and ?_ | refine pu_or ?_ | refine pu_xor ?_ | refine pu_seq ?_ | refine pu_sne ?_)
    refine lds_here (fun w h => h) (List.mem_append_right _ (.head _)) rfl ?_
    refine ixA_at h0 (by omega) ?_
    refine lds_here (fun w h => h) (List.mem_append_right _ (.tail _ (.tail _ (.head _)))) (v := vI (k'.rd.length)) (by simpa using hr') ?_
    refine readers_spec lp (by omega) h5 (fun S v w6 h6 ho => ?_)
    rw [if_pos h0, hgk] at ho
    have h6' := drp h6
    refine ⟨h6', ?_⟩
    refine sl_ln ho.sl ?_
    rw [List.length_map]
    repeat (first | refine pu_not ?_ | refine pu_eql ?_ | refine pu_neq ?_ | refine pu_lss ?_ | refine pu_leq ?_ | refine pu_gtr ?_ | refine pu_geq ?_ | refine pu_add ?_ | refine pu_sub ?_ | refine pu_mul ?_ | refine pu_neg ?_ | refine fa_at ?_ | refine nl_ptr ?_ | refine ex20 ?_ | refine ex21 ?_ | refine ex30 ?_ | refine ex31 ?_ | refine ex32 ?_ | refine ln_rule ?_ | refine lnT_rule ?_ | refine pu_and ?_ | refine pu_or ?_ | refine pu_xor ?_ | refine pu_seq ?_ | refine pu_sne ?_)
    refine cnd_f (by simp) ?_
    repeat (first | refine pu_not ?_ | refine pu_eql ?_ | refine pu_neq ?_ | refine pu_lss ?_ | refine pu_leq ?_ | refine pu_gtr ?_ | refine pu_geq ?_ | refine pu_add ?_ | refine pu_sub ?_ | refine pu_mul ?_ | refine pu_neg ?_ | refine fa_at ?_ | refine nl_ptr ?_ | refine ex20 ?_ | refine ex21 ?_ | refine ex30 ?_ | refine ex31 ?_ | refine ex32 ?_ | refine ln_rule ?_ | refine lnT_rule ?_ | refine pu_and ?_ | refine pu_or ?_ | refine pu_xor ?_ | refine pu_seq ?_ | refine pu_sne ?_)
    refine lds_here (fun w h => h) (List.mem_append_right _ (.head _)) rfl ?_
    refine ixA_at h0 (by omega) ?_
    refine lds_here (fun w h => h) (List.mem_append_right _ (.tail _ (.head _))) (v := vI (one k')) (by simpa using hs') ?_
    repeat (first | refine pu_not ?_ | refine pu_eql ?_ | refine pu_neq ?_ | refine pu_lss ?_ | refine pu_leq ?_ | refine pu_gtr ?_ | refine pu_geq ?_ | refine pu_add ?_ | refine pu_sub ?_ | refine pu_mul ?_ | refine pu_neg ?_ | refine fa_at ?_ | refine nl_ptr ?_ | refine ex20 ?_ | refine ex21 ?_ | refine ex30 ?_ | refine ex31 ?_ | refine ex32 ?_ | refine ln_rule ?_ | refine lnT_rule ?_ | refine pu_and ?_ | refine pu_or ?_ | refine pu_xor ?_ | refine pu_seq ?_ | refine pu_sne ?_)
    refine neqb ?_ ?_
    · unfold one
      by_cases hq : 0 < k'.wr <;> simp [hq, h0]
    refine cnd_f rfl ?_
    repeat (first | refine pu_not ?_ | refine pu_eql ?_ | refine pu_neq ?_ | refine pu_lss ?_ | refine pu_leq ?_ | refine pu_gtr ?_ | refine pu_geq ?_ | refine pu_add ?_ | refine pu_sub ?_ | refine pu_mul ?_ | refine pu_neg ?_ | refine fa_at ?_ | refine nl_ptr ?_ | refine ex20 ?_ | refine ex21 ?_ | refine ex30 ?_ | refine ex31 ?_ | refine ex32 ?_ | refine ln_rule ?_ | refine lnT_rule ?_ | refine pu_and ?_ | refine pu_or ?_ | refine pu_xor ?_ | refine pu_seq ?_ | refine pu_sne ?_)
    rw [wrap64_in (by omega) (by omega)]
    exact kN _ h6'
abbrev aC (a : Int × Int × Int) : List Value := [vI a.1, vI a.2.1, vI a.2.2]
theorem act_of {cs : List Value} (h : Fit PG H T.t_linesmanlaw14_Act cs) : ∃ a : Int × Int × Int, cs = aC a := by
  have hl : cs.length = 3 := h.len (by kernel_rfl) (by kernel_rfl)
  match cs, hl with
  | [x, y, z], _ =>
    obtain ⟨a, ha, _⟩ := (h.field (i := 0) (T := T.t_int) (off := 0) (n := 1) (by kernel_rfl)).of_int und_int
    obtain ⟨b, hb, _⟩ := (h.field (i := 1) (T := T.t_int) (off := 1) (n := 1) (by kernel_rfl)).of_int und_int
    obtain ⟨c, hc, _⟩ := (h.field (i := 2) (T := T.t_int) (off := 2) (n := 1) (by kernel_rfl)).of_int und_int
    refine ⟨(a, b, c), ?_⟩
    have e1 : [x] = [vI a] := ha
    have e2 : [y] = [vI b] := hb
    have e3 : [z] = [vI c] := hc
    cases e1; cases e2; cases e3
    rfl
theorem acts_of {v : Value} (h : FitV PG H T.t_sl_linesmanlaw14_Act v) : ∃ l : List (Int × Int × Int), Sls H v 3 (l.map aC) := by
  obtain ⟨xs, h1, h2⟩ := h.slice (e := T.t_linesmanlaw14_Act) (by kernel_rfl)
  have : ∃ l : List (Int × Int × Int), xs = l.map aC := by
    clear h1
    induction xs with
    | nil => exact ⟨[], rfl⟩
    | cons x xs ih =>
      obtain ⟨l, hl⟩ := ih fun y hy => h2 y (.tail _ hy)
      obtain ⟨a, ha⟩ := act_of (h2 x (.head _))
      exact ⟨a :: l, by rw [ha, hl]; rfl⟩
  obtain ⟨l, rfl⟩ := this
  have e : PG.cellsOf T.t_linesmanlaw14_Act = 3 := by kernel_rfl
  rw [e] at h1
  exact ⟨l, h1⟩
theorem acts_at {l : List (Int × Int × Int)} {i : Nat} (h : i < l.length) : (l.map aC)[(i : Int).toNat]? = some (aC l[i]) := by
  rw [Int.toNat_natCast, List.getElem?_map, List.getElem?_eq_getElem h]; rfl
theorem RwlockHolds.law {v0 v1 : Value} (g0 : FitV PG H T.t_int v0) (g1 : FitV PG H T.t_sl_linesmanlaw14_Act v1) (h : Ow B w H) (k : ∀ w', Ow B w' H → K (vB true) w') : callW PG N.linesmanlaw14_RwlockHolds [v0, v1] K PK w := by
  obtain ⟨many, rfl, _⟩ := g0.int und_int
  obtain ⟨l, hl⟩ := acts_of g1
  clear g0 g1
  refine linesmanlaw14_RwlockHolds.ok ?_
  unfold linesmanlaw14_RwlockHolds.C
  repeat (first | refine pu_not ?_ | refine pu_eql ?_ | refine pu_neq ?_ | refine pu_lss ?_ | refine pu_leq ?_ | refine pu_gtr ?_ | refine pu_geq ?_ | refine pu_add ?_ | refine pu_sub ?_ | refine pu_mul ?_ | refine pu_neg ?_ | refine fa_at ?_ | refine nl_ptr ?_ | refine ex20 ?_ | refine ex21 ?_ | refine ex30 ?_ | refine ex31 ?_ | refine ex32 ?_ | refine ln_rule ?_ | refine lnT_rule ?_ | refine pu_and ?_ | refine pu_or ?_ | refine pu_xor ?_ | refine pu_seq ?_ | refine pu_sne ?_)
  refine cnd (fun _ => works_spec h k) (fun hge => ?_)
  repeat (first | refine pu_not ?_ | refine pu_eql ?_ | refine pu_neq ?_ | refine pu_lss ?_ | refine pu_leq ?_ | refine pu_gtr ?_ | refine pu_geq ?_ | refine pu_add ?_ | refine pu_sub ?_ | refine pu_mul ?_ | refine pu_neg ?_ | refine fa_at ?_ | refine nl_ptr ?_ | refine ex20 ?_ | refine ex21 ?_ | refine ex30 ?_ | refine ex31 ?_ | refine ex32 ?_ | refine ln_rule ?_ | refine lnT_rule ?_ | refine pu_and ?_ | refine pu_or ?_ | refine pu_xor ?_ | refine pu_seq ?_ | refine pu_sne ?_)
  refine cnd (fun _ => works_spec h k) (fun hle => ?_)
  refine sls_ln hl ?_
  rw [List.length_map]
  repeat (first | refine pu_not ?_ | refine pu_eql ?_ | refine pu_neq ?_ | refine pu_lss ?_ | refine pu_leq ?_ | refine pu_gtr ?_ | refine pu_geq ?_ | refine pu_add ?_ | refine pu_sub ?_ | refine pu_mul ?_ | refine pu_neg ?_ | refine fa_at ?_ | refine nl_ptr ?_ | refine ex20 ?_ | refine ex21 ?_ | refine ex30 ?_ | refine ex31 ?_ | refine ex32 ?_ | refine ln_rule ?_ | refine lnT_rule ?_ | refine pu_and ?_ | refine pu_or ?_ | refine pu_xor ?_ | refine pu_seq ?_ | refine pu_sne ?_)
  refine cnd (fun _ => works_spec h k) (fun hll => ?_)
  have hm : 1 ≤ many ∧ many ≤ 64 := by simp at hge hle; omega
  have hll : l.length ≤ 100 := by simp at hll; omega
  clear hge hle
  obtain ⟨mn, rfl⟩ : ∃ n : Nat, many = n := ⟨many.toNat, by omega⟩
  refine new_spec h (fun hb => absurd (by omega) hb) (fun _ _ b F w1 lp h1 => ?_)
  rw [Int.toNat_natCast] at lp
  repeat (first | refine pu_not ?_ | refine pu_eql ?_ | refine pu_neq ?_ | refine pu_lss ?_ | refine pu_leq ?_ | refine pu_gtr ?_ | refine pu_geq ?_ | refine pu_add ?_ | refine pu_sub ?_ | refine pu_mul ?_ | refine pu_neg ?_ | refine fa_at ?_ | refine nl_ptr ?_ | refine ex20 ?_ | refine ex21 ?_ | refine ex30 ?_ | refine ex31 ?_ | refine ex32 ?_ | refine ln_rule ?_ | refine lnT_rule ?_ | refine pu_and ?_ | refine pu_or ?_ | refine pu_xor ?_ | refine pu_seq ?_ | refine pu_sne ?_)
  have hfull : full (List.replicate mn emp) = List.replicate 64 emp := by
    unfold full
    rw [List.length_replicate, List.replicate_append_replicate]
    congr 1; omega
  have hrs : iv (rsOf (List.replicate mn emp)) = List.replicate 64 (vI 0) := by unfold rsOf; rw [hfull]; rfl
  have hws : iv (wsOf (List.replicate mn emp)) = List.replicate 64 (vI 0) := by unfold wsOf; rw [hfull]; rfl
  refine al_rule h1 (l := List.replicate 64 (vI 0)) (by kernel_rfl) (fun br w2 h2 => ?_)
  refine al_rule h2 (l := List.replicate 64 (vI 0)) (by kernel_rfl) (fun bw w3 h3 => ?_)
  have h3 : Ow B w3 (F ++ ((bw, cel (iv (wsOf (List.replicate mn emp))) T.t_64_int) :: (br, cel (iv (rsOf (List.replicate mn emp))) T.t_64_int) :: H)) := by
    rw [hrs, hws]
    exact front (A := [_, _]) h3
  refine ⟨fun l' w => ∃ (i : Nat) (F : Hp) (L : List Lk), l' = [vI i] ∧ i ≤ l.length ∧ LP L i b F ∧ L.length = mn ∧ okL L ∧ Ow B w (F ++ ((bw, cel (iv (wsOf L)) T.t_64_int) :: (br, cel (iv (rsOf L)) T.t_64_int) :: H)), fun l' _ => match l' with | [.int _ n] => l.length - n.toNat | _ => 0, ⟨0, F, _, rfl, Nat.zero_le _, lp, List.length_replicate, fun k hk h0 => ?_, h3⟩, ?_⟩
  · obtain ⟨_, rfl⟩ := List.mem_replicate.1 hk; rfl
  clear lp h1 h2 h3
  rintro l' w4 ⟨i, F, L, rfl, hi, lp, hLl, hok, h4⟩ j
  refine sls_ln hl ?_
  rw [List.length_map]
  repeat (first | refine pu_not ?_ | refine pu_eql ?_ | refine pu_neq ?_ | refine pu_lss ?_ | refine pu_leq ?_ | refine pu_gtr ?_ | refine pu_geq ?_ | refine pu_add ?_ | refine pu_sub ?_ | refine pu_mul ?_ | refine pu_neg ?_ | refine fa_at ?_ | refine nl_ptr ?_ | refine ex20 ?_ | refine ex21 ?_ | refine ex30 ?_ | refine ex31 ?_ | refine ex32 ?_ | refine ln_rule ?_ | refine lnT_rule ?_ | refine pu_and ?_ | refine pu_or ?_ | refine pu_xor ?_ | refine pu_seq ?_ | refine pu_sne ?_)
  refine cnd (fun hlt => ?_) (fun hlt => ?_)
  · have hlt : i < l.length := by simpa using hlt
    refine sls_ld h4 (hl.mono fun x hx => List.mem_append_right _ (.tail _ (.tail _ hx))) (by omega) (acts_at hlt) ?_
    obtain ⟨what, i1, y⟩ := l[i]
    refine al_rule h4 (l := [vI 0, vI 0, vI 0]) (by kernel_rfl) (fun bx w5 h5 => ?_)
    refine st_here (A := []) h5 [vI what, vI i1, vI y] rfl rfl rfl (by simp) (fun w6 h6 => ?_)
    simp only [List.take_zero, List.nil_append, Nat.zero_add, List.drop_succ_cons, List.drop_zero, List.drop_nil, List.append_nil] at h6
    have h6 : Ow B w6 (F ++ ((bx, xo what i1 y) :: (bw, cel (iv (wsOf L)) T.t_64_int) :: (br, cel (iv (rsOf L)) T.t_64_int) :: H)) := front (A := [_]) h6
    repeat (first | refine pu_not ?_ | refine pu_eql ?_ | refine pu_neq ?_ | refine pu_lss ?_ | refine pu_leq ?_ | refine pu_gtr ?_ | refine pu_geq ?_ | refine pu_add ?_ | refine pu_sub ?_ | refine pu_mul ?_ | refine pu_neg ?_ | refine fa_at ?_ | refine nl_ptr ?_ | refine ex20 ?_ | refine ex21 ?_ | refine ex30 ?_ | refine ex31 ?_ | refine ex32 ?_ | refine ln_rule ?_ | refine lnT_rule ?_ | refine pu_and ?_ | refine pu_or ?_ | refine pu_xor ?_ | refine pu_seq ?_ | refine pu_sne ?_)
    refine ld_here h6 (List.mem_append_right _ (.head _)) rfl ?_
    repeat (first | refine pu_not ?_ | refine pu_eql ?_ | refine pu_neq ?_ | refine pu_lss ?_ | refine pu_leq ?_ | refine pu_gtr ?_ | refine pu_geq ?_ | refine pu_add ?_ | refine pu_sub ?_ | refine pu_mul ?_ | refine pu_neg ?_ | refine fa_at ?_ | refine nl_ptr ?_ | refine ex20 ?_ | refine ex21 ?_ | refine ex30 ?_ | refine ex31 ?_ | refine ex32 ?_ | refine ln_rule ?_ | refine lnT_rule ?_ | refine pu_and ?_ | refine pu_or ?_ | refine pu_xor ?_ | refine pu_seq ?_ | refine pu_sne ?_)
    refine cnd (fun h0 => ?_) (fun h0 => ?_)
    · refine cnd_t h0 ?_
      repeat (first | refine pu_not ?_ | refine pu_eql ?_ | refine pu_neq ?_ | refine pu_lss ?_ | refine pu_leq ?_ | refine pu_gtr ?_ | refine pu_geq ?_ | refine pu_add ?_ | refine pu_sub ?_ | refine pu_mul ?_ | refine pu_neg ?_ | refine fa_at ?_ | refine nl_ptr ?_ | refine ex20 ?_ | refine ex21 ?_ | refine ex30 ?_ | refine ex31 ?_ | refine ex32 ?_ | refine ln_rule ?_ | refine lnT_rule ?_ | refine pu_and ?_ | refine pu_or ?_ | refine pu_xor ?_ | refine pu_seq ?_ | refine pu_sne ?_)
      refine ld_here h6 (List.mem_append_right _ (.head _)) rfl ?_
      repeat (first | refine pu_not ?_ | refine pu_eql ?_ | refine pu_neq ?_ | refine pu_lss ?_ | refine pu_leq ?_ | refine pu_gtr ?_ | refine pu_geq ?_ | refine pu_add ?_ | refine pu_sub ?_ | refine pu_mul ?_ | refine pu_neg ?_ | refine fa_at ?_ | refine nl_ptr ?_ | refine ex20 ?_ | refine ex21 ?_ | refine ex30 ?_ | refine ex31 ?_ | refine ex32 ?_ | refine ln_rule ?_ | refine lnT_rule ?_ | refine pu_and ?_ | refine pu_or ?_ | refine pu_xor ?_ | refine pu_seq ?_ | refine pu_sne ?_)
      refine ld_here h6 (List.mem_append_right _ (.head _)) rfl ?_
      refine read_spec lp (by omega) h6 (fun F' w7 lp' h7 => ?_)
      obtain ⟨st, ok'⟩ := read_step (i := i1) (y := y) hok
      refine k0_spec st ok' lp.wf lp' (by omega) (by omega) (by omega) (by omega) (by omega) h7 (fun w8 h8 => ?_)
      refine ⟨⟨i + 1, F', _, rfl, hlt, lp', (step_len st).trans hLl, ok', h8.sub ((List.Sublist.refl F').append (.cons _ (.refl _)))⟩, by simp; omega⟩
    repeat (first | refine pu_not ?_ | refine pu_eql ?_ | refine pu_neq ?_ | refine pu_lss ?_ | refine pu_leq ?_ | refine pu_gtr ?_ | refine pu_geq ?_ | refine pu_add ?_ | refine pu_sub ?_ | refine pu_mul ?_ | refine pu_neg ?_ | refine fa_at ?_ | refine nl_ptr ?_ | refine ex20 ?_ | refine ex21 ?_ | refine ex30 ?_ | refine ex31 ?_ | refine ex32 ?_ | refine ln_rule ?_ | refine lnT_rule ?_ | refine pu_and ?_ | refine pu_or ?_ | refine pu_xor ?_ | refine pu_seq ?_ | refine pu_sne ?_)
    refine cnd (fun h1 => ?_) (fun h1 => ?_)
    · refine cnd_t h1 ?_
      repeat (first | refine pu_not ?_ | refine pu_eql ?_ | refine pu_neq ?_ | refine pu_lss ?_ | refine pu_leq ?_ | refine pu_gtr ?_ | refine pu_geq ?_ | refine pu_add ?_ | refine pu_sub ?_ | refine pu_mul ?_ | refine pu_neg ?_ | refine fa_at ?_ | refine nl_ptr ?_ | refine ex20 ?_ | refine ex21 ?_ | refine ex30 ?_ | refine ex31 ?_ | refine ex32 ?_ | refine ln_rule ?_ | refine lnT_rule ?_ | refine pu_and ?_ | refine pu_or ?_ | refine pu_xor ?_ | refine pu_seq ?_ | refine pu_sne ?_)
      refine ld_here h6 (List.mem_append_right _ (.head _)) rfl ?_
      repeat (first | refine pu_not ?_ | refine pu_eql ?_ | refine pu_neq ?_ | refine pu_lss ?_ | refine pu_leq ?_ | refine pu_gtr ?_ | refine pu_geq ?_ | refine pu_add ?_ | refine pu_sub ?_ | refine pu_mul ?_ | refine pu_neg ?_ | refine fa_at ?_ | refine nl_ptr ?_ | refine ex20 ?_ | refine ex21 ?_ | refine ex30 ?_ | refine ex31 ?_ | refine ex32 ?_ | refine ln_rule ?_ | refine lnT_rule ?_ | refine pu_and ?_ | refine pu_or ?_ | refine pu_xor ?_ | refine pu_seq ?_ | refine pu_sne ?_)
      refine ld_here h6 (List.mem_append_right _ (.head _)) rfl ?_
      refine read_spec lp (by omega) h6 (fun F' w7 lp' h7 => ?_)
      obtain ⟨st, ok'⟩ := read_step (i := i1) (y := y) hok
      refine k0_spec st ok' lp.wf lp' (by omega) (by omega) (by omega) (by omega) (by omega) h7 (fun w8 h8 => ?_)
      refine ⟨⟨i + 1, F', _, rfl, hlt, lp', (step_len st).trans hLl, ok', h8.sub ((List.Sublist.refl F').append (.cons _ (.refl _)))⟩, by simp; omega⟩
    repeat (first | refine pu_not ?_ | refine pu_eql ?_ | refine pu_neq ?_ | refine pu_lss ?_ | refine pu_leq ?_ | refine pu_gtr ?_ | refine pu_geq ?_ | refine pu_add ?_ | refine pu_sub ?_ | refine pu_mul ?_ | refine pu_neg ?_ | refine fa_at ?_ | refine nl_ptr ?_ | refine ex20 ?_ | refine ex21 ?_ | refine ex30 ?_ | refine ex31 ?_ | refine ex32 ?_ | refine ln_rule ?_ | refine lnT_rule ?_ | refine pu_and ?_ | refine pu_or ?_ | refine pu_xor ?_ | refine pu_seq ?_ | refine pu_sne ?_)
    refine cnd (fun h2 => ?_) (fun h2 => ?_)
    · repeat (first | refine pu_not ?_ | refine pu_eql ?_ | refine pu_neq ?_ | refine pu_lss ?_ | refine pu_leq ?_ | refine pu_gtr ?_ | refine pu_geq ?_ | refine pu_add ?_ | refine pu_sub ?_ | refine pu_mul ?_ | refine pu_neg ?_ | refine fa_at ?_ | refine nl_ptr ?_ | refine ex20 ?_ | refine ex21 ?_ | refine ex30 ?_ | refine ex31 ?_ | refine ex32 ?_ | refine ln_rule ?_ | refine lnT_rule ?_ | refine pu_and ?_ | refine pu_or ?_ | refine pu_xor ?_ | refine pu_seq ?_ | refine pu_sne ?_)
      refine ld_here h6 (List.mem_append_right _ (.head _)) rfl ?_
      repeat (first | refine pu_not ?_ | refine pu_eql ?_ | refine pu_neq ?_ | refine pu_lss ?_ | refine pu_leq ?_ | refine pu_gtr ?_ | refine pu_geq ?_ | refine pu_add ?_ | refine pu_sub ?_ | refine pu_mul ?_ | refine pu_neg ?_ | refine fa_at ?_ | refine nl_ptr ?_ | refine ex20 ?_ | refine ex21 ?_ | refine ex30 ?_ | refine ex31 ?_ | refine ex32 ?_ | refine ln_rule ?_ | refine lnT_rule ?_ | refine pu_and ?_ | refine pu_or ?_ | refine pu_xor ?_ | refine pu_seq ?_ | refine pu_sne ?_)
      refine ld_here h6 (List.mem_append_right _ (.head _)) rfl ?_
      refine read_spec lp (by omega) h6 (fun F' w7 lp' h7 => ?_)
      obtain ⟨st, ok'⟩ := read_step (i := i1) (y := y) hok
      refine k0_spec st ok' lp.wf lp' (by omega) (by omega) (by omega) (by omega) (by omega) h7 (fun w8 h8 => ?_)
      refine ⟨⟨i + 1, F', _, rfl, hlt, lp', (step_len st).trans hLl, ok', h8.sub ((List.Sublist.refl F').append (.cons _ (.refl _)))⟩, by simp; omega⟩
    repeat (first | refine pu_not ?_ | refine pu_eql ?_ | refine pu_neq ?_ | refine pu_lss ?_ | refine pu_leq ?_ | refine pu_gtr ?_ | refine pu_geq ?_ | refine pu_add ?_ | refine pu_sub ?_ | refine pu_mul ?_ | refine pu_neg ?_ | refine fa_at ?_ | refine nl_ptr ?_ | refine ex20 ?_ | refine ex21 ?_ | refine ex30 ?_ | refine ex31 ?_ | refine ex32 ?_ | refine ln_rule ?_ | refine lnT_rule ?_ | refine pu_and ?_ | refine pu_or ?_ | refine pu_xor ?_ | refine pu_seq ?_ | refine pu_sne ?_)
    refine cnd (fun h30 => ?_) (fun h30 => ?_)
    · refine cnd_t h30 ?_
      repeat (first | refine pu_not ?_ | refine pu_eql ?_ | refine pu_neq ?_ | refine pu_lss ?_ | refine pu_leq ?_ | refine pu_gtr ?_ | refine pu_geq ?_ | refine pu_add ?_ | refine pu_sub ?_ | refine pu_mul ?_ | refine pu_neg ?_ | refine fa_at ?_ | refine nl_ptr ?_ | refine ex20 ?_ | refine ex21 ?_ | refine ex30 ?_ | refine ex31 ?_ | refine ex32 ?_ | refine ln_rule ?_ | refine lnT_rule ?_ | refine pu_and ?_ | refine pu_or ?_ | refine pu_xor ?_ | refine pu_seq ?_ | refine pu_sne ?_)
      refine ld_here h6 (List.mem_append_right _ (.head _)) rfl ?_
      repeat (first | refine pu_not ?_ | refine pu_eql ?_ | refine pu_neq ?_ | refine pu_lss ?_ | refine pu_leq ?_ | refine pu_gtr ?_ | refine pu_geq ?_ | refine pu_add ?_ | refine pu_sub ?_ | refine pu_mul ?_ | refine pu_neg ?_ | refine fa_at ?_ | refine nl_ptr ?_ | refine ex20 ?_ | refine ex21 ?_ | refine ex30 ?_ | refine ex31 ?_ | refine ex32 ?_ | refine ln_rule ?_ | refine lnT_rule ?_ | refine pu_and ?_ | refine pu_or ?_ | refine pu_xor ?_ | refine pu_seq ?_ | refine pu_sne ?_)
      refine ld_here h6 (List.mem_append_right _ (.head _)) rfl ?_
      refine unread_spec lp (by omega) h6 (fun F' w7 lp' h7 => ?_)
      have lp' := lp'.mono (n := i + 1) (by omega)
      obtain ⟨st, ok'⟩ := unread_step (i := i1) (y := y) hok
      repeat (first | refine pu_not ?_ | refine pu_eql ?_ | refine pu_neq ?_ | refine pu_lss ?_ | refine pu_leq ?_ | refine pu_gtr ?_ | refine pu_geq ?_ | refine pu_add ?_ | refine pu_sub ?_ | refine pu_mul ?_ | refine pu_neg ?_ | refine fa_at ?_ | refine nl_ptr ?_ | refine ex20 ?_ | refine ex21 ?_ | refine ex30 ?_ | refine ex31 ?_ | refine ex32 ?_ | refine ln_rule ?_ | refine lnT_rule ?_ | refine pu_and ?_ | refine pu_or ?_ | refine pu_xor ?_ | refine pu_seq ?_ | refine pu_sne ?_)
      refine k0_spec st ok' lp.wf lp' (by omega) (by omega) (by omega) (by omega) (by omega) h7 (fun w8 h8 => ?_)
      refine ⟨⟨i + 1, F', _, rfl, hlt, lp', (step_len st).trans hLl, ok', h8.sub ((List.Sublist.refl F').append (.cons _ (.refl _)))⟩, by simp; omega⟩
    repeat (first | refine pu_not ?_ | refine pu_eql ?_ | refine pu_neq ?_ | refine pu_lss ?_ | refine pu_leq ?_ | refine pu_gtr ?_ | refine pu_geq ?_ | refine pu_add ?_ | refine pu_sub ?_ | refine pu_mul ?_ | refine pu_neg ?_ | refine fa_at ?_ | refine nl_ptr ?_ | refine ex20 ?_ | refine ex21 ?_ | refine ex30 ?_ | refine ex31 ?_ | refine ex32 ?_ | refine ln_rule ?_ | refine lnT_rule ?_ | refine pu_and ?_ | refine pu_or ?_ | refine pu_xor ?_ | refine pu_seq ?_ | refine pu_sne ?_)
    refine cnd (fun h40 => ?_) (fun h40 => ?_)
    · repeat (first | refine pu_not ?_ | refine pu_eql ?_ | refine pu_neq ?_ | refine pu_lss ?_ | refine pu_leq ?_ | refine pu_gtr ?_ | refine pu_geq ?_ | refine pu_add ?_ | refine pu_sub ?_ | refine pu_mul ?_ | refine pu_neg ?_ | refine fa_at ?_ | refine nl_ptr ?_ | refine ex20 ?_ | refine ex21 ?_ | refine ex30 ?_ | refine ex31 ?_ | refine ex32 ?_ | refine ln_rule ?_ | refine lnT_rule ?_ | refine pu_and ?_ | refine pu_or ?_ | refine pu_xor ?_ | refine pu_seq ?_ | refine pu_sne ?_)
      refine ld_here h6 (List.mem_append_right _ (.head _)) rfl ?_
      repeat (first | refine pu_not ?_ | refine pu_eql ?_ | refine pu_neq ?_ | refine pu_lss ?_ | refine pu_leq ?_ | refine pu_gtr ?_ | refine pu_geq ?_ | refine pu_add ?_ | refine pu_sub ?_ | refine pu_mul ?_ | refine pu_neg ?_ | refine fa_at ?_ | refine nl_ptr ?_ | refine ex20 ?_ | refine ex21 ?_ | refine ex30 ?_ | refine ex31 ?_ | refine ex32 ?_ | refine ln_rule ?_ | refine lnT_rule ?_ | refine pu_and ?_ | refine pu_or ?_ | refine pu_xor ?_ | refine pu_seq ?_ | refine pu_sne ?_)
      refine ld_here h6 (List.mem_append_right _ (.head _)) rfl ?_
      refine unread_spec lp (by omega) h6 (fun F' w7 lp' h7 => ?_)
      have lp' := lp'.mono (n := i + 1) (by omega)
      obtain ⟨st, ok'⟩ := unread_step (i := i1) (y := y) hok
      repeat (first | refine pu_not ?_ | refine pu_eql ?_ | refine pu_neq ?_ | refine pu_lss ?_ | refine pu_leq ?_ | refine pu_gtr ?_ | refine pu_geq ?_ | refine pu_add ?_ | refine pu_sub ?_ | refine pu_mul ?_ | refine pu_neg ?_ | refine fa_at ?_ | refine nl_ptr ?_ | refine ex20 ?_ | refine ex21 ?_ | refine ex30 ?_ | refine ex31 ?_ | refine ex32 ?_ | refine ln_rule ?_ | refine lnT_rule ?_ | refine pu_and ?_ | refine pu_or ?_ | refine pu_xor ?_ | refine pu_seq ?_ | refine pu_sne ?_)
      refine k0_spec st ok' lp.wf lp' (by omega) (by omega) (by omega) (by omega) (by omega) h7 (fun w8 h8 => ?_)
      refine ⟨⟨i + 1, F', _, rfl, hlt, lp', (step_len st).trans hLl, ok', h8.sub ((List.Sublist.refl F').append (.cons _ (.refl _)))⟩, by simp; omega⟩
    repeat (first | refine pu_not ?_ | refine pu_eql ?_ | refine pu_neq ?_ | refine pu_lss ?_ | refine pu_leq ?_ | refine pu_gtr ?_ | refine pu_geq ?_ | refine pu_add ?_ | refine pu_sub ?_ | refine pu_mul ?_ | refine pu_neg ?_ | refine fa_at ?_ | refine nl_ptr ?_ | refine ex20 ?_ | refine ex21 ?_ | refine ex30 ?_ | refine ex31 ?_ | refine ex32 ?_ | refine ln_rule ?_ | refine lnT_rule ?_ | refine pu_and ?_ | refine pu_or ?_ | refine pu_xor ?_ | refine pu_seq ?_ | refine pu_sne ?_)
    refine cnd (fun h50 => ?_) (fun h50 => ?_)
    · repeat (first | refine pu_not ?_ | refine pu_eql ?_ | refine pu_neq ?_ | refine pu_lss ?_ | refine pu_leq ?_ | refine pu_gtr ?_ | refine pu_geq ?_ | refine pu_add ?_ | refine pu_sub ?_ | refine pu_mul ?_ | refine pu_neg ?_ | refine fa_at ?_ | refine nl_ptr ?_ | refine ex20 ?_ | refine ex21 ?_ | refine ex30 ?_ | refine ex31 ?_ | refine ex32 ?_ | refine ln_rule ?_ | refine lnT_rule ?_ | refine pu_and ?_ | refine pu_or ?_ | refine pu_xor ?_ | refine pu_seq ?_ | refine pu_sne ?_)
      refine ld_here h6 (List.mem_append_right _ (.head _)) rfl ?_
      repeat (first | refine pu_not ?_ | refine pu_eql ?_ | refine pu_neq ?_ | refine pu_lss ?_ | refine pu_leq ?_ | refine pu_gtr ?_ | refine pu_geq ?_ | refine pu_add ?_ | refine pu_sub ?_ | refine pu_mul ?_ | refine pu_neg ?_ | refine fa_at ?_ | refine nl_ptr ?_ | refine ex20 ?_ | refine ex21 ?_ | refine ex30 ?_ | refine ex31 ?_ | refine ex32 ?_ | refine ln_rule ?_ | refine lnT_rule ?_ | refine pu_and ?_ | refine pu_or ?_ | refine pu_xor ?_ | refine pu_seq ?_ | refine pu_sne ?_)
      refine ld_here h6 (List.mem_append_right _ (.head _)) rfl ?_
      refine write_spec lp (by omega) h6 (fun F' w7 lp' h7 => ?_)
      have lp' := lp'.mono (n := i + 1) (by omega)
      obtain ⟨st, ok'⟩ := write_step (i := i1) (y := y) hok
      refine k0_spec st ok' lp.wf lp' (by omega) (by omega) (by omega) (by omega) (by omega) h7 (fun w8 h8 => ?_)
      refine ⟨⟨i + 1, F', _, rfl, hlt, lp', (step_len st).trans hLl, ok', h8.sub ((List.Sublist.refl F').append (.cons _ (.refl _)))⟩, by simp; omega⟩
    repeat (first | refine pu_not ?_ | refine pu_eql ?_ | refine pu_neq ?_ | refine pu_lss ?_ | refine pu_leq ?_ | refine pu_gtr ?_ | refine pu_geq ?_ | refine pu_add ?_ | refine pu_sub ?_ | refine pu_mul ?_ | refine pu_neg ?_ | refine fa_at ?_ | refine nl_ptr ?_ | refine ex20 ?_ | refine ex21 ?_ | refine ex30 ?_ | refine ex31 ?_ | refine ex32 ?_ | refine ln_rule ?_ | refine lnT_rule ?_ | refine pu_and ?_ | refine pu_or ?_ | refine pu_xor ?_ | refine pu_seq ?_ | refine pu_sne ?_)
    refine cnd (fun h60 => ?_) (fun h60 => ?_)
    · repeat (first | refine pu_not ?_ | refine pu_eql ?_ | refine pu_neq ?_ | refine pu_lss ?_ | refine pu_leq ?_ | refine pu_gtr ?_ | refine pu_geq ?_ | refine pu_add ?_ | refine pu_sub ?_ | refine pu_mul ?_ | refine pu_neg ?_ | refine fa_at ?_ | refine nl_ptr ?_ | refine ex20 ?_ | refine ex21 ?_ | refine ex30 ?_ | refine ex31 ?_ | refine ex32 ?_ | refine ln_rule ?_ | refine lnT_rule ?_ | refine pu_and ?_ | refine pu_or ?_ | refine pu_xor ?_ | refine pu_seq ?_ | refine pu_sne ?_)
      refine ld_here h6 (List.mem_append_right _ (.head _)) rfl ?_
      refine unwrite_spec lp (by omega) h6 (fun F' w7 lp' h7 => ?_)
      have lp' := lp'.mono (n := i + 1) (by omega)
      obtain ⟨st, ok'⟩ := unwrite_step (i := i1) lp.wf hok
      repeat (first | refine pu_not ?_ | refine pu_eql ?_ | refine pu_neq ?_ | refine pu_lss ?_ | refine pu_leq ?_ | refine pu_gtr ?_ | refine pu_geq ?_ | refine pu_add ?_ | refine pu_sub ?_ | refine pu_mul ?_ | refine pu_neg ?_ | refine fa_at ?_ | refine nl_ptr ?_ | refine ex20 ?_ | refine ex21 ?_ | refine ex30 ?_ | refine ex31 ?_ | refine ex32 ?_ | refine ln_rule ?_ | refine lnT_rule ?_ | refine pu_and ?_ | refine pu_or ?_ | refine pu_xor ?_ | refine pu_seq ?_ | refine pu_sne ?_)
      refine k0_spec st ok' lp.wf lp' (by omega) (by omega) (by omega) (by omega) (by omega) h7 (fun w8 h8 => ?_)
      refine ⟨⟨i + 1, F', _, rfl, hlt, lp', (step_len st).trans hLl, ok', h8.sub ((List.Sublist.refl F').append (.cons _ (.refl _)))⟩, by simp; omega⟩
    repeat (first | refine pu_not ?_ | refine pu_eql ?_ | refine pu_neq ?_ | refine pu_lss ?_ | refine pu_leq ?_ | refine pu_gtr ?_ | refine pu_geq ?_ | refine pu_add ?_ | refine pu_sub ?_ | refine pu_mul ?_ | refine pu_neg ?_ | refine fa_at ?_ | refine nl_ptr ?_ | refine ex20 ?_ | refine ex21 ?_ | refine ex30 ?_ | refine ex31 ?_ | refine ex32 ?_ | refine ln_rule ?_ | refine lnT_rule ?_ | refine pu_and ?_ | refine pu_or ?_ | refine pu_xor ?_ | refine pu_seq ?_ | refine pu_sne ?_)
    rw [wrap64_in (by omega) (by omega)]
    exact ⟨⟨i + 1, F, L, rfl, hlt, lp.mono (by omega), hLl, hok, h6.sub ((List.Sublist.refl F).append (.cons _ (.refl _)))⟩, by simp; omega⟩
  · refine num_spec h4 (fun w5 h5 => ?_)
    repeat (first | refine pu_not ?_ | refine pu_eql ?_ | refine pu_neq ?_ | refine pu_lss ?_ | refine pu_leq ?_ | refine pu_gtr ?_ | refine pu_geq ?_ | refine pu_add ?_ | refine pu_sub ?_ | refine pu_mul ?_ | refine pu_neg ?_ | refine fa_at ?_ | refine nl_ptr ?_ | refine ex20 ?_ | refine ex21 ?_ | refine ex30 ?_ | refine ex31 ?_ | refine ex32 ?_ | refine ln_rule ?_ | refine lnT_rule ?_ | refine pu_and ?_ | refine pu_or ?_ | refine pu_xor ?_ | refine pu_seq ?_ | refine pu_sne ?_)
    refine cnd_t rfl ?_
    exact works_spec h5 fun w' h' => k w' (drp h').drop.drop
end
end Go.Proofs.Ytaifohjgamhhnaa
