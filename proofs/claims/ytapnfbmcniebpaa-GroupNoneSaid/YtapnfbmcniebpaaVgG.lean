/- Contracts of package group. -/
import Derived.Test.YtapnfbmcniebpaaVnF0
import Derived.Test.YtapnfbmcniebpaaVcO
set_option linter.unusedVariables false
set_option linter.unusedSimpArgs false
namespace Go.Proofs.Ytapnfbmcniebpaa
open Go Go.RowKit Vc

section
variable {B w : World} {H : Hp} {K : Value → World → Prop} {PK : List PanicEntry → World → Prop}

/-- Groups as the program keeps them. -/
structure GV where
  of : List Int
  many : Int
  made : Bool
def GV.cells (g : GV) : List Value := g.of.map vI ++ [vI g.many, vB g.made]
def GV.obj (g : GV) : Obj := cel g.cells T.t_group_Groups
structure GV.Wf (g : GV) : Prop where
  len : g.of.length = 64
  lo : 0 ≤ g.many
  hi : g.many ≤ 64
  pos : ∀ c ∈ g.of, 0 ≤ c ∧ c ≤ 2147483647
theorem GV.at {g : GV} (h : g.Wf) {i : Nat} (hi : i < 64) : g.cells[i]? = some (vI (g.of.getD i 0)) := by
  unfold GV.cells
  rw [List.getElem?_append_left (by simp [h.len]; omega)]
  simp [List.getD, h.len, hi]
theorem GV.at_many {g : GV} (h : g.Wf) : g.cells[64]? = some (vI g.many) := by
  unfold GV.cells
  rw [List.getElem?_append_right (by simp [h.len])]
  simp [h.len]
theorem GV.at_made {g : GV} (h : g.Wf) : g.cells[65]? = some (vB g.made) := by
  unfold GV.cells
  rw [List.getElem?_append_right (by simp [h.len])]
  simp [h.len]

theorem und_ptr : PG.underlying T.t_ptr_group_Groups = some (.pointer T.t_group_Groups) := by kernel_rfl

theorem none_nil (h : Ow B w H) (k : ∀ w', Ow B w' H → K (vB true) w') : callW PG N.group_Groups_none [.pointer none] K PK w := by
  refine group_Groups_none.ok ?_
  unfold group_Groups_none.C
  refine pu_pnil und_ptr ?_
  refine cnd_t rfl ?_
  exact k w h
theorem none_spec {b : Nat} {g : GV} (hg : g.Wf) (h : Ow B w H) (hm : (b, g.obj) ∈ H) (k : ∀ w', Ow B w' H → K (vB !g.made) w') : callW PG N.group_Groups_none [ptr b] K PK w := by
  refine group_Groups_none.ok ?_
  unfold group_Groups_none.C
  refine pu_pnil und_ptr ?_
  refine cnd_f rfl ?_
  repeat (first | refine pu_not ?_ | refine pu_eql ?_ | refine pu_neq ?_ | refine pu_lss ?_ | refine pu_leq ?_ | refine pu_gtr ?_ | refine pu_geq ?_ | refine pu_add ?_ | refine pu_sub ?_ | refine pu_mul ?_ | refine pu_neg ?_ | refine fa_at ?_ | refine nl_ptr ?_ | refine ex20 ?_ | refine ex21 ?_ | refine ex30 ?_ | refine ex31 ?_ | refine ex32 ?_ | refine ln_rule ?_ | refine lnT_rule ?_ | refine pu_and ?_ | refine pu_or ?_ | refine pu_xor ?_ | refine pu_seq ?_ | refine pu_sne ?_)
  refine ld_here h hm (by simpa using GV.at_made hg) ?_
  repeat (first | refine pu_not ?_ | refine pu_eql ?_ | refine pu_neq ?_ | refine pu_lss ?_ | refine pu_leq ?_ | refine pu_gtr ?_ | refine pu_geq ?_ | refine pu_add ?_ | refine pu_sub ?_ | refine pu_mul ?_ | refine pu_neg ?_ | refine fa_at ?_ | refine nl_ptr ?_ | refine ex20 ?_ | refine ex21 ?_ | refine ex30 ?_ | refine ex31 ?_ | refine ex32 ?_ | refine ln_rule ?_ | refine lnT_rule ?_ | refine pu_and ?_ | refine pu_or ?_ | refine pu_xor ?_ | refine pu_seq ?_ | refine pu_sne ?_)
  exact k w h
theorem there_spec {b : Nat} {g : GV} {i : Int} (hg : g.Wf) (h : Ow B w H) (hm : (b, g.obj) ∈ H) (k : ∀ w', Ow B w' H → K (vB (decide (0 ≤ i ∧ i < g.many))) w') :
    callW PG N.group_counts_there [ptr b, vI i] K PK w := by
  refine group_counts_there.ok ?_
  unfold group_counts_there.C
  repeat (first | refine pu_not ?_ | refine pu_eql ?_ | refine pu_neq ?_ | refine pu_lss ?_ | refine pu_leq ?_ | refine pu_gtr ?_ | refine pu_geq ?_ | refine pu_add ?_ | refine pu_sub ?_ | refine pu_mul ?_ | refine pu_neg ?_ | refine fa_at ?_ | refine nl_ptr ?_ | refine ex20 ?_ | refine ex21 ?_ | refine ex30 ?_ | refine ex31 ?_ | refine ex32 ?_ | refine ln_rule ?_ | refine lnT_rule ?_ | refine pu_and ?_ | refine pu_or ?_ | refine pu_xor ?_ | refine pu_seq ?_ | refine pu_sne ?_)
  refine cnd (fun hi => ?_) (fun hi => ?_)
  · repeat (first | refine pu_not ?_ | refine pu_eql ?_ | refine pu_neq ?_ | refine pu_lss ?_ | refine pu_leq ?_ | refine pu_gtr ?_ | refine pu_geq ?_ | refine pu_add ?_ | refine pu_sub ?_ | refine pu_mul ?_ | refine pu_neg ?_ | refine fa_at ?_ | refine nl_ptr ?_ | refine ex20 ?_ | refine ex21 ?_ | refine ex30 ?_ | refine ex31 ?_ | refine ex32 ?_ | refine ln_rule ?_ | refine lnT_rule ?_ | refine pu_and ?_ | refine pu_or ?_ | refine pu_xor ?_ | refine pu_seq ?_ | refine pu_sne ?_)
    refine ld_here h hm (by simpa using GV.at_many hg) ?_
    repeat (first | refine pu_not ?_ | refine pu_eql ?_ | refine pu_neq ?_ | refine pu_lss ?_ | refine pu_leq ?_ | refine pu_gtr ?_ | refine pu_geq ?_ | refine pu_add ?_ | refine pu_sub ?_ | refine pu_mul ?_ | refine pu_neg ?_ | refine fa_at ?_ | refine nl_ptr ?_ | refine ex20 ?_ | refine ex21 ?_ | refine ex30 ?_ | refine ex31 ?_ | refine ex32 ?_ | refine ln_rule ?_ | refine lnT_rule ?_ | refine pu_and ?_ | refine pu_or ?_ | refine pu_xor ?_ | refine pu_seq ?_ | refine pu_sne ?_)
    have : decide (i < g.many) = decide (0 ≤ i ∧ i < g.many) := by simp at hi; simp [hi]
    rw [this]; exact k w h
  · have : false = decide (0 ≤ i ∧ i < g.many) := by simp at hi; simp; omega
    rw [this]; exact k w h

/-! ### slices.IndexFunc and its callers -/
theorem indexFunc_spec {s f : Value} {xs : List Value} {p : Value → Bool} (h : Ow B w H) (hs : Sl H s xs) (hlen : xs.length < 2 ^ 62) (hf : ∀ x ∈ xs, PF PG B H f [x] (vB (p x)))
    (k : ∀ w', Ow B w' H → K (vI (match xs.findIdx? p with | some i => i | none => -1)) w') : callW PG N.slices_IndexFunc_sl_int_int [s, f] K PK w := by
  refine slices_IndexFunc_sl_int_int.ok ?_
  unfold slices_IndexFunc_sl_int_int.C
  obtain ⟨a, cap, rfl, hcap, hx⟩ := hs
  repeat (first | refine pu_not ?_ | refine pu_eql ?_ | refine pu_neq ?_ | refine pu_lss ?_ | refine pu_leq ?_ | refine pu_gtr ?_ | refine pu_geq ?_ | refine pu_add ?_ | refine pu_sub ?_ | refine pu_mul ?_ | refine pu_neg ?_ | refine fa_at ?_ | refine nl_ptr ?_ | refine ex20 ?_ | refine ex21 ?_ | refine ex30 ?_ | refine ex31 ?_ | refine ex32 ?_ | refine ln_rule ?_ | refine lnT_rule ?_ | refine pu_and ?_ | refine pu_or ?_ | refine pu_xor ?_ | refine pu_seq ?_ | refine pu_sne ?_)
  refine ⟨fun l w => ∃ i : Nat, l = [vI i] ∧ i ≤ xs.length ∧ (∀ j x, j < i → xs[j]? = some x → p x = false) ∧ Ow B w H, fun l _ => match l with | [.int _ n] => xs.length - n.toNat | _ => 0, ⟨0, rfl, Nat.zero_le _, fun j x hj => absurd hj (by omega), h⟩, ?_⟩
  rintro l w1 ⟨i, rfl, hi, hno, h1⟩ j
  repeat (first | refine pu_not ?_ | refine pu_eql ?_ | refine pu_neq ?_ | refine pu_lss ?_ | refine pu_leq ?_ | refine pu_gtr ?_ | refine pu_geq ?_ | refine pu_add ?_ | refine pu_sub ?_ | refine pu_mul ?_ | refine pu_neg ?_ | refine fa_at ?_ | refine nl_ptr ?_ | refine ex20 ?_ | refine ex21 ?_ | refine ex30 ?_ | refine ex31 ?_ | refine ex32 ?_ | refine ln_rule ?_ | refine lnT_rule ?_ | refine pu_and ?_ | refine pu_or ?_ | refine pu_xor ?_ | refine pu_seq ?_ | refine pu_sne ?_)
  refine cnd (fun hlt => ?_) (fun hlt => ?_)
  · have hlt' : i < xs.length := by simp [gv] at hlt; exact hlt
    obtain ⟨q, rfl, hc⟩ := hx i _ (List.getElem?_eq_getElem hlt')
    refine ixS_rule (by simp [gv]) (by simp [gv]; omega) ?_
    refine ld_cell h1 (v := xs[i]) (by simpa [gv] using hc) ?_
    refine hf xs[i] (List.getElem_mem hlt') [] _ _ _ h1 (fun w2 h2 => ?_)
    refine cnd (fun hp => ?_) (fun hp => ?_)
    · have : xs.findIdx? p = some i := by
        rw [List.findIdx?_eq_some_iff_getElem]
        exact ⟨hlt', hp, fun j hj => by simpa using hno j _ hj (List.getElem?_eq_getElem (by omega))⟩
      have hk := k w2 h2
      rw [this] at hk
      exact hk
    · repeat (first | refine pu_not ?_ | refine pu_eql ?_ | refine pu_neq ?_ | refine pu_lss ?_ | refine pu_leq ?_ | refine pu_gtr ?_ | refine pu_geq ?_ | refine pu_add ?_ | refine pu_sub ?_ | refine pu_mul ?_ | refine pu_neg ?_ | refine fa_at ?_ | refine nl_ptr ?_ | refine ex20 ?_ | refine ex21 ?_ | refine ex30 ?_ | refine ex31 ?_ | refine ex32 ?_ | refine ln_rule ?_ | refine lnT_rule ?_ | refine pu_and ?_ | refine pu_or ?_ | refine pu_xor ?_ | refine pu_seq ?_ | refine pu_sne ?_)
      refine ⟨⟨i + 1, ?_, hlt', fun j x hj hx => ?_, h2⟩, ?_⟩
      · rw [wrap64_in (by omega) (by omega)]; rfl
      · rcases Nat.lt_succ_iff_lt_or_eq.1 hj with hj | rfl
        · exact hno j x hj hx
        · rw [List.getElem?_eq_getElem hlt'] at hx; cases hx; exact hp
      · rw [wrap64_in (by omega) (by omega)]; simp; omega
  · have hlt' : ¬ i < xs.length := by simp [gv] at hlt; omega
    have : xs.findIdx? p = none := by
      rw [List.findIdx?_eq_none_iff]
      intro x hx
      obtain ⟨j, hj, rfl⟩ := List.getElem_of_mem hx
      exact hno j _ (by omega) (List.getElem?_eq_getElem hj)
    have hk := k w1 h1
    rw [this] at hk
    exact hk
theorem containsFunc_spec {s f : Value} {xs : List Value} {p : Value → Bool} (h : Ow B w H) (hs : Sl H s xs) (hlen : xs.length < 2 ^ 62) (hf : ∀ x ∈ xs, PF PG B H f [x] (vB (p x)))
    (k : ∀ w', Ow B w' H → K (vB (xs.any p)) w') : callW PG N.slices_ContainsFunc_sl_int_int [s, f] K PK w := by
  refine slices_ContainsFunc_sl_int_int.ok ?_
  unfold slices_ContainsFunc_sl_int_int.C
  refine indexFunc_spec h hs hlen hf (fun w' h' => ?_)
  refine pu_geq ?_
  have hk := k w' h'
  have : xs.any p = decide ((match xs.findIdx? p with | some i => (i : Int) | none => -1) ≥ 0) := by
    rw [← List.findIdx?_isSome]
    cases xs.findIdx? p <;> simp
  rw [this] at hk
  exact hk
theorem all_spec {s f : Value} {xs : List Value} {p : Value → Bool} (h : Ow B w H) (hs : Sl H s xs) (hlen : xs.length < 2 ^ 62) (hf : ∀ x ∈ xs, PF PG B H f [x] (vB (p x)))
    (hfv : f.cells = #[f]) (k : ∀ w', Ow B w' H → K (vB (xs.all p)) w') : callW PG N.group_all_int [f, s] K PK w := by
  refine group_all_int.ok ?_
  unfold group_all_int.C
  refine al_rule h (l := [f]) (by rw [hfv]) (fun b w1 h1 => ?_)
  refine containsFunc_spec (p := fun x => !p x) h1 hs.cons hlen (fun x hx => ?_) (fun w2 h2 => ?_)
  · intro X K PK w hw k
    refine callV_fn group_all_int_1.okf ?_
    refine group_all_int_1.ok ?_
    unfold group_all_int_1.C
    refine ld_here hw (l := [f]) (List.mem_append_right _ (.head _)) rfl ?_
    have e : X ++ (b, cel [f] T.t_func_int_bool) :: H = (X ++ [(b, cel [f] T.t_func_int_bool)]) ++ H := by simp
    rw [e] at hw k
    refine hf x hx _ _ _ _ hw (fun w3 h3 => ?_)
    repeat (first | refine pu_not ?_ | refine pu_eql ?_ | refine pu_neq ?_ | refine pu_lss ?_ | refine pu_leq ?_ | refine pu_gtr ?_ | refine pu_geq ?_ | refine pu_add ?_ | refine pu_sub ?_ | refine pu_mul ?_ | refine pu_neg ?_ | refine fa_at ?_ | refine nl_ptr ?_ | refine ex20 ?_ | refine ex21 ?_ | refine ex30 ?_ | refine ex31 ?_ | refine ex32 ?_ | refine ln_rule ?_ | refine lnT_rule ?_ | refine pu_and ?_ | refine pu_or ?_ | refine pu_xor ?_ | refine pu_seq ?_ | refine pu_sne ?_)
    exact k w3 h3
  · repeat (first | refine pu_not ?_ | refine pu_eql ?_ | refine pu_neq ?_ | refine pu_lss ?_ | refine pu_leq ?_ | refine pu_gtr ?_ | refine pu_geq ?_ | refine pu_add ?_ | refine pu_sub ?_ | refine pu_mul ?_ | refine pu_neg ?_ | refine fa_at ?_ | refine nl_ptr ?_ | refine ex20 ?_ | refine ex21 ?_ | refine ex30 ?_ | refine ex31 ?_ | refine ex32 ?_ | refine ln_rule ?_ | refine lnT_rule ?_ | refine pu_and ?_ | refine pu_or ?_ | refine pu_xor ?_ | refine pu_seq ?_ | refine pu_sne ?_)
    have hk := k w2 h2.drop
    have : xs.all p = !(xs.any fun x => !p x) := by simp [List.all_eq_not_any_not]
    rw [this] at hk
    exact hk

/-! ### The calls -/
def GV.new (many : Int) : GV := ⟨List.replicate 64 0, many, true⟩
theorem GV.new_wf {many : Int} (h0 : 0 ≤ many) (h1 : many ≤ 64) : (GV.new many).Wf := ⟨rfl, h0, h1, fun c hc => by
  obtain ⟨_, rfl⟩ := List.mem_replicate.1 hc; omega⟩
theorem new_spec {many : Int} (h : Ow B w H) (kbad : ¬ (0 ≤ many ∧ many ≤ 64) → ∀ w', Ow B w' H → K (.tuple #[.pointer none, vI 2]) w')
    (k : 0 ≤ many → many ≤ 64 → ∀ b w', Ow B w' ((b, (GV.new many).obj) :: H) → K (.tuple #[ptr b, vI 0]) w') : callW PG N.group_New [vI many] K PK w := by
  refine group_New.ok ?_
  unfold group_New.C
  repeat (first | refine pu_not ?_ | refine pu_eql ?_ | refine pu_neq ?_ | refine pu_lss ?_ | refine pu_leq ?_ | refine pu_gtr ?_ | refine pu_geq ?_ | refine pu_add ?_ | refine pu_sub ?_ | refine pu_mul ?_ | refine pu_neg ?_ | refine fa_at ?_ | refine nl_ptr ?_ | refine ex20 ?_ | refine ex21 ?_ | refine ex30 ?_ | refine ex31 ?_ | refine ex32 ?_ | refine ln_rule ?_ | refine lnT_rule ?_ | refine pu_and ?_ | refine pu_or ?_ | refine pu_xor ?_ | refine pu_seq ?_ | refine pu_sne ?_)
  refine cnd (fun hlt => kbad (by simp at hlt; omega) w h) (fun hge => ?_)
  repeat (first | refine pu_not ?_ | refine pu_eql ?_ | refine pu_neq ?_ | refine pu_lss ?_ | refine pu_leq ?_ | refine pu_gtr ?_ | refine pu_geq ?_ | refine pu_add ?_ | refine pu_sub ?_ | refine pu_mul ?_ | refine pu_neg ?_ | refine fa_at ?_ | refine nl_ptr ?_ | refine ex20 ?_ | refine ex21 ?_ | refine ex30 ?_ | refine ex31 ?_ | refine ex32 ?_ | refine ln_rule ?_ | refine lnT_rule ?_ | refine pu_and ?_ | refine pu_or ?_ | refine pu_xor ?_ | refine pu_seq ?_ | refine pu_sne ?_)
  refine cnd (fun hgt => kbad (by simp at hgt; omega) w h) (fun hle => ?_)
  refine pu_of (v := .agg (((List.replicate 64 0).map vI ++ [vI many]).toArray)) (fun w => by kernel_rfl) ?_
  refine pu_of (v := .agg (GV.new many).cells.toArray) (fun w => by kernel_rfl) ?_
  refine al_rule h (l := (GV.new many).cells) rfl (fun b w1 h1 => ?_)
  exact k (by simp at hge; omega) (by simp at hle; omega) b w1 h1

def GV.cnt (g : GV) (i : Int) : Int := g.of.getD i.toNat 0
def GV.add (g : GV) (i n : Int) : GV × Int × Int :=
  if g.made = false then (g, 0, 1) else if ¬ (0 ≤ i ∧ i < g.many) then (g, 0, 4)
  else if n < - g.cnt i ∨ n > 2147483647 - g.cnt i then (g, 0, 250) else ({ g with of := g.of.set i.toNat (g.cnt i + n) }, g.cnt i + n, 0)
theorem GV.cnt_pos {g : GV} (h : g.Wf) {i : Int} (h0 : 0 ≤ i) (h1 : i < 64) : 0 ≤ g.cnt i ∧ g.cnt i ≤ 2147483647 := by
  refine h.pos _ ?_
  unfold GV.cnt
  have := h.len
  have hlt : i.toNat < g.of.length := by omega
  have e : g.of.getD i.toNat 0 = g.of[i.toNat] := by simp [List.getD, hlt]
  rw [e]; exact List.getElem_mem _
theorem GV.add_wf {g : GV} (h : g.Wf) (i n : Int) : (g.add i n).1.Wf := by
  unfold GV.add
  split
  · exact h
  · split
    · exact h
    · split
      · exact h
      · rename_i h1 h2 h3
        refine ⟨by simp [h.len], h.lo, h.hi, fun c hc => ?_⟩
        rcases List.mem_or_eq_of_mem_set hc with hc | rfl
        · exact h.pos c hc
        · have := h.hi
          have := GV.cnt_pos h (i := i) (by omega) (by omega)
          omega
theorem GV.cells_set {g : GV} (h : g.Wf) {i : Nat} (hi : i < 64) (c : Int) : g.cells.set i (vI c) = ({ g with of := g.of.set i c } : GV).cells := by
  unfold GV.cells
  rw [List.set_append_left _ _ (by simp [h.len]; omega)]
  simp [List.map_set]
theorem GV.at_cnt {g : GV} (h : g.Wf) {i : Int} (h0 : 0 ≤ i) (h1 : i < 64) : g.cells[i.toNat]? = some (vI (g.cnt i)) := GV.at h (by omega)

theorem add_spec {A C : Hp} {b : Nat} {g : GV} {i n : Int} (hg : g.Wf) (h : Ow B w (A ++ (b, g.obj) :: C))
    (k : ∀ w', Ow B w' (A ++ (b, (g.add i n).1.obj) :: C) → K (.tuple #[vI (g.add i n).2.1, vI (g.add i n).2.2]) w') : callW PG N.group_Groups_Add [ptr b, vI i, vI n] K PK w := by
  refine group_Groups_Add.ok ?_
  unfold group_Groups_Add.C
  refine none_spec hg h (by first | assumption | exact List.mem_append_right _ (.head _) | exact .head _ | exact .tail _ (.head _) | exact .tail _ (.tail _ (.head _)) | (exact .tail _ (by assumption)) | exact .tail _ (List.mem_append_right _ (.head _)) | exact .tail _ (.tail _ (by assumption)) | exact .tail _ (.tail _ (List.mem_append_right _ (.head _)))) (fun w1 h1 => ?_)
  refine cnd (fun hm => ?_) (fun hm => ?_)
  · have : g.add i n = (g, 0, 1) := by simp at hm; simp [GV.add, hm]
    rw [this] at k; exact k w1 h1
  · have hmade : g.made = true := by simpa using hm
    repeat (first | refine pu_not ?_ | refine pu_eql ?_ | refine pu_neq ?_ | refine pu_lss ?_ | refine pu_leq ?_ | refine pu_gtr ?_ | refine pu_geq ?_ | refine pu_add ?_ | refine pu_sub ?_ | refine pu_mul ?_ | refine pu_neg ?_ | refine fa_at ?_ | refine nl_ptr ?_ | refine ex20 ?_ | refine ex21 ?_ | refine ex30 ?_ | refine ex31 ?_ | refine ex32 ?_ | refine ln_rule ?_ | refine lnT_rule ?_ | refine pu_and ?_ | refine pu_or ?_ | refine pu_xor ?_ | refine pu_seq ?_ | refine pu_sne ?_)
    refine bs_rule h1 [vI i] (by kernel_rfl) (fun b2 w2 h2 => ?_)
    refine all_spec (p := fun x => match x with | .int _ m => decide (0 ≤ m ∧ m < g.many) | _ => false) h2 (xs := [vI i]) (sl_here (l := [vI i]) (.head _)) (by simp) ?_ rfl (fun w3 h3 => ?_)
    · intro x hx X K PK w hw k
      simp only [List.mem_singleton] at hx
      subst hx
      refine callV_fn group_counts_there.okf ?_
      exact there_spec (i := i) (b := b) hg hw (List.mem_append_right _ (.tail _ (List.mem_append_right _ (.head _)))) k
    · have h3 := h3.drop
      simp only [List.all_cons, List.all_nil, Bool.and_true]
      repeat (first | refine pu_not ?_ | refine pu_eql ?_ | refine pu_neq ?_ | refine pu_lss ?_ | refine pu_leq ?_ | refine pu_gtr ?_ | refine pu_geq ?_ | refine pu_add ?_ | refine pu_sub ?_ | refine pu_mul ?_ | refine pu_neg ?_ | refine fa_at ?_ | refine nl_ptr ?_ | refine ex20 ?_ | refine ex21 ?_ | refine ex30 ?_ | refine ex31 ?_ | refine ex32 ?_ | refine ln_rule ?_ | refine lnT_rule ?_ | refine pu_and ?_ | refine pu_or ?_ | refine pu_xor ?_ | refine pu_seq ?_ | refine pu_sne ?_)
      refine cnd (fun hr => ?_) (fun hr => ?_)
      · have : g.add i n = (g, 0, 4) := by simp at hr; simp [GV.add, hmade]; omega
        rw [this] at k; exact k w3 h3
      · have hr : 0 ≤ i ∧ i < g.many := by simpa using hr
        have hi64 : i < 64 := by have := hg.hi; omega
        have hc := GV.cnt_pos hg hr.1 hi64
        have hat := GV.at_cnt hg hr.1 hi64
        repeat (first | refine pu_not ?_ | refine pu_eql ?_ | refine pu_neq ?_ | refine pu_lss ?_ | refine pu_leq ?_ | refine pu_gtr ?_ | refine pu_geq ?_ | refine pu_add ?_ | refine pu_sub ?_ | refine pu_mul ?_ | refine pu_neg ?_ | refine fa_at ?_ | refine nl_ptr ?_ | refine ex20 ?_ | refine ex21 ?_ | refine ex30 ?_ | refine ex31 ?_ | refine ex32 ?_ | refine ln_rule ?_ | refine lnT_rule ?_ | refine pu_and ?_ | refine pu_or ?_ | refine pu_xor ?_ | refine pu_seq ?_ | refine pu_sne ?_)
        refine ixA_at hr.1 hi64 ?_
        refine ld_here h3 (List.mem_append_right _ (.head _)) (by simpa using hat) ?_
        repeat (first | refine pu_not ?_ | refine pu_eql ?_ | refine pu_neq ?_ | refine pu_lss ?_ | refine pu_leq ?_ | refine pu_gtr ?_ | refine pu_geq ?_ | refine pu_add ?_ | refine pu_sub ?_ | refine pu_mul ?_ | refine pu_neg ?_ | refine fa_at ?_ | refine nl_ptr ?_ | refine ex20 ?_ | refine ex21 ?_ | refine ex30 ?_ | refine ex31 ?_ | refine ex32 ?_ | refine ln_rule ?_ | refine lnT_rule ?_ | refine pu_and ?_ | refine pu_or ?_ | refine pu_xor ?_ | refine pu_seq ?_ | refine pu_sne ?_)
        rw [wrap64_in (by omega) (by omega)]
        refine cnd (fun hl => ?_) (fun hl => ?_)
        · have : g.add i n = (g, 0, 250) := by simp at hl; simp only [GV.add, hmade]; rw [if_neg (by simp), if_neg (by omega), if_pos (by omega)]
          rw [this] at k; exact k w3 h3
        · repeat (first | refine pu_not ?_ | refine pu_eql ?_ | refine pu_neq ?_ | refine pu_lss ?_ | refine pu_leq ?_ | refine pu_gtr ?_ | refine pu_geq ?_ | refine pu_add ?_ | refine pu_sub ?_ | refine pu_mul ?_ | refine pu_neg ?_ | refine fa_at ?_ | refine nl_ptr ?_ | refine ex20 ?_ | refine ex21 ?_ | refine ex30 ?_ | refine ex31 ?_ | refine ex32 ?_ | refine ln_rule ?_ | refine lnT_rule ?_ | refine pu_and ?_ | refine pu_or ?_ | refine pu_xor ?_ | refine pu_seq ?_ | refine pu_sne ?_)
          refine ixA_at hr.1 hi64 ?_
          refine ld_here h3 (List.mem_append_right _ (.head _)) (by simpa using hat) ?_
          repeat (first | refine pu_not ?_ | refine pu_eql ?_ | refine pu_neq ?_ | refine pu_lss ?_ | refine pu_leq ?_ | refine pu_gtr ?_ | refine pu_geq ?_ | refine pu_add ?_ | refine pu_sub ?_ | refine pu_mul ?_ | refine pu_neg ?_ | refine fa_at ?_ | refine nl_ptr ?_ | refine ex20 ?_ | refine ex21 ?_ | refine ex30 ?_ | refine ex31 ?_ | refine ex32 ?_ | refine ln_rule ?_ | refine lnT_rule ?_ | refine pu_and ?_ | refine pu_or ?_ | refine pu_xor ?_ | refine pu_seq ?_ | refine pu_sne ?_)
          rw [wrap64_in (by omega) (by omega)]
          refine cnd (fun hu => ?_) (fun hu => ?_)
          · have : g.add i n = (g, 0, 250) := by simp at hu; simp only [GV.add, hmade]; rw [if_neg (by simp), if_neg (by omega), if_pos (by omega)]
            rw [this] at k; exact k w3 h3
          · have hl : ¬ n < - g.cnt i := by simp at hl; omega
            have hu : ¬ n > 2147483647 - g.cnt i := by simp at hu; omega
            have hadd : g.add i n = ({ g with of := g.of.set i.toNat (g.cnt i + n) }, g.cnt i + n, 0) := by simp only [GV.add, hmade]; rw [if_neg (by simp), if_neg (by omega), if_neg (by omega)]
            rw [hadd] at k
            have h4 := h3.drew
            refine ⟨fun w => Ow B w (A ++ (b, g.obj) :: C), h4, ?_⟩
            repeat (first | refine pu_not ?_ | refine pu_eql ?_ | refine pu_neq ?_ | refine pu_lss ?_ | refine pu_leq ?_ | refine pu_gtr ?_ | refine pu_geq ?_ | refine pu_add ?_ | refine pu_sub ?_ | refine pu_mul ?_ | refine pu_neg ?_ | refine fa_at ?_ | refine nl_ptr ?_ | refine ex20 ?_ | refine ex21 ?_ | refine ex30 ?_ | refine ex31 ?_ | refine ex32 ?_ | refine ln_rule ?_ | refine lnT_rule ?_ | refine pu_and ?_ | refine pu_or ?_ | refine pu_xor ?_ | refine pu_seq ?_ | refine pu_sne ?_)
            refine ixA_at hr.1 hi64 ?_
            refine lds_here (fun w h => h) (List.mem_append_right _ (.head _)) (by simpa using hat) ?_
            repeat (first | refine pu_not ?_ | refine pu_eql ?_ | refine pu_neq ?_ | refine pu_lss ?_ | refine pu_leq ?_ | refine pu_gtr ?_ | refine pu_geq ?_ | refine pu_add ?_ | refine pu_sub ?_ | refine pu_mul ?_ | refine pu_neg ?_ | refine fa_at ?_ | refine nl_ptr ?_ | refine ex20 ?_ | refine ex21 ?_ | refine ex30 ?_ | refine ex31 ?_ | refine ex32 ?_ | refine ln_rule ?_ | refine lnT_rule ?_ | refine pu_and ?_ | refine pu_or ?_ | refine pu_xor ?_ | refine pu_seq ?_ | refine pu_sne ?_)
            refine ixA_at hr.1 hi64 ?_
            rw [wrap64_in (by omega) (by omega)]
            refine st1_here h4 rfl rfl (by simp [GV.cells, hg.len]; omega) (fun w5 h5 => ?_)
            have e : g.cells.set (0 + 0 + 0 + i.toNat * 1) (vI (g.cnt i + n)) = ({ g with of := g.of.set i.toNat (g.cnt i + n) } : GV).cells := by
              rw [← GV.cells_set hg (by omega)]; simp
            rw [e] at h5
            repeat (first | refine pu_not ?_ | refine pu_eql ?_ | refine pu_neq ?_ | refine pu_lss ?_ | refine pu_leq ?_ | refine pu_gtr ?_ | refine pu_geq ?_ | refine pu_add ?_ | refine pu_sub ?_ | refine pu_mul ?_ | refine pu_neg ?_ | refine fa_at ?_ | refine nl_ptr ?_ | refine ex20 ?_ | refine ex21 ?_ | refine ex30 ?_ | refine ex31 ?_ | refine ex32 ?_ | refine ln_rule ?_ | refine lnT_rule ?_ | refine pu_and ?_ | refine pu_or ?_ | refine pu_xor ?_ | refine pu_seq ?_ | refine pu_sne ?_)
            refine ixA_at hr.1 hi64 ?_
            have hw' := GV.add_wf hg i n
            rw [hadd] at hw'
            have hat' := GV.at_cnt hw' hr.1 hi64
            have hcn : ({ g with of := g.of.set i.toNat (g.cnt i + n) } : GV).cnt i = g.cnt i + n := by
              have := hg.len
              have hlt : i.toNat < g.of.length := by omega
              simp [GV.cnt, List.getD, List.getElem?_set, hlt]
            rw [hcn] at hat'
            refine ld_here h5 (List.mem_append_right _ (.head _)) (by simpa using hat') ?_
            exact k w5 h5

theorem count_spec {b : Nat} {g : GV} {i : Int} (hg : g.Wf) (h : Ow B w H) (hm : (b, g.obj) ∈ H)
    (k : ∀ w', Ow B w' H → K (vI (if g.made = true ∧ 0 ≤ i ∧ i < g.many then g.cnt i else 0)) w') : callW PG N.group_Groups_Count [ptr b, vI i] K PK w := by
  refine group_Groups_Count.ok ?_
  unfold group_Groups_Count.C
  refine none_spec hg h hm (fun w1 h1 => ?_)
  refine cnd (fun hn => ?_) (fun hn => ?_)
  · have : ¬ (g.made = true ∧ 0 ≤ i ∧ i < g.many) := by simp at hn; simp [hn]
    rw [if_neg this] at k; exact k w1 h1
  · have hmade : g.made = true := by simpa using hn
    repeat (first | refine pu_not ?_ | refine pu_eql ?_ | refine pu_neq ?_ | refine pu_lss ?_ | refine pu_leq ?_ | refine pu_gtr ?_ | refine pu_geq ?_ | refine pu_add ?_ | refine pu_sub ?_ | refine pu_mul ?_ | refine pu_neg ?_ | refine fa_at ?_ | refine nl_ptr ?_ | refine ex20 ?_ | refine ex21 ?_ | refine ex30 ?_ | refine ex31 ?_ | refine ex32 ?_ | refine ln_rule ?_ | refine lnT_rule ?_ | refine pu_and ?_ | refine pu_or ?_ | refine pu_xor ?_ | refine pu_seq ?_ | refine pu_sne ?_)
    refine there_spec hg h1 hm (fun w2 h2 => ?_)
    repeat (first | refine pu_not ?_ | refine pu_eql ?_ | refine pu_neq ?_ | refine pu_lss ?_ | refine pu_leq ?_ | refine pu_gtr ?_ | refine pu_geq ?_ | refine pu_add ?_ | refine pu_sub ?_ | refine pu_mul ?_ | refine pu_neg ?_ | refine fa_at ?_ | refine nl_ptr ?_ | refine ex20 ?_ | refine ex21 ?_ | refine ex30 ?_ | refine ex31 ?_ | refine ex32 ?_ | refine ln_rule ?_ | refine lnT_rule ?_ | refine pu_and ?_ | refine pu_or ?_ | refine pu_xor ?_ | refine pu_seq ?_ | refine pu_sne ?_)
    refine cnd (fun hr => ?_) (fun hr => ?_)
    · have : ¬ (g.made = true ∧ 0 ≤ i ∧ i < g.many) := by simp at hr; omega
      rw [if_neg this] at k; exact k w2 h2
    · have hr : 0 ≤ i ∧ i < g.many := by simpa using hr
      have hi64 : i < 64 := by have := hg.hi; omega
      rw [if_pos ⟨hmade, hr⟩] at k
      repeat (first | refine pu_not ?_ | refine pu_eql ?_ | refine pu_neq ?_ | refine pu_lss ?_ | refine pu_leq ?_ | refine pu_gtr ?_ | refine pu_geq ?_ | refine pu_add ?_ | refine pu_sub ?_ | refine pu_mul ?_ | refine pu_neg ?_ | refine fa_at ?_ | refine nl_ptr ?_ | refine ex20 ?_ | refine ex21 ?_ | refine ex30 ?_ | refine ex31 ?_ | refine ex32 ?_ | refine ln_rule ?_ | refine lnT_rule ?_ | refine pu_and ?_ | refine pu_or ?_ | refine pu_xor ?_ | refine pu_seq ?_ | refine pu_sne ?_)
      refine ixA_at hr.1 hi64 ?_
      refine ld_here h2 hm (by simpa using GV.at_cnt hg hr.1 hi64) ?_
      exact k w2 h2
theorem done_spec {b : Nat} {g : GV} {i : Int} (hg : g.Wf) (h : Ow B w H) (hm : (b, g.obj) ∈ H)
    (k : ∀ w', Ow B w' H → K (vB (decide (g.made = true ∧ 0 ≤ i ∧ i < g.many ∧ g.cnt i = 0))) w') : callW PG N.group_Groups_Done [ptr b, vI i] K PK w := by
  refine group_Groups_Done.ok ?_
  unfold group_Groups_Done.C
  refine none_spec hg h hm (fun w1 h1 => ?_)
  repeat (first | refine pu_not ?_ | refine pu_eql ?_ | refine pu_neq ?_ | refine pu_lss ?_ | refine pu_leq ?_ | refine pu_gtr ?_ | refine pu_geq ?_ | refine pu_add ?_ | refine pu_sub ?_ | refine pu_mul ?_ | refine pu_neg ?_ | refine fa_at ?_ | refine nl_ptr ?_ | refine ex20 ?_ | refine ex21 ?_ | refine ex30 ?_ | refine ex31 ?_ | refine ex32 ?_ | refine ln_rule ?_ | refine lnT_rule ?_ | refine pu_and ?_ | refine pu_or ?_ | refine pu_xor ?_ | refine pu_seq ?_ | refine pu_sne ?_)
  refine cnd (fun hn => ?_) (fun hn => ?_)
  · have hmade : g.made = true := by simpa using hn
    repeat (first | refine pu_not ?_ | refine pu_eql ?_ | refine pu_neq ?_ | refine pu_lss ?_ | refine pu_leq ?_ | refine pu_gtr ?_ | refine pu_geq ?_ | refine pu_add ?_ | refine pu_sub ?_ | refine pu_mul ?_ | refine pu_neg ?_ | refine fa_at ?_ | refine nl_ptr ?_ | refine ex20 ?_ | refine ex21 ?_ | refine ex30 ?_ | refine ex31 ?_ | refine ex32 ?_ | refine ln_rule ?_ | refine lnT_rule ?_ | refine pu_and ?_ | refine pu_or ?_ | refine pu_xor ?_ | refine pu_seq ?_ | refine pu_sne ?_)
    refine there_spec hg h1 hm (fun w2 h2 => ?_)
    refine cnd (fun hr => ?_) (fun hr => ?_)
    · have hr : 0 ≤ i ∧ i < g.many := by simpa using hr
      have hi64 : i < 64 := by have := hg.hi; omega
      repeat (first | refine pu_not ?_ | refine pu_eql ?_ | refine pu_neq ?_ | refine pu_lss ?_ | refine pu_leq ?_ | refine pu_gtr ?_ | refine pu_geq ?_ | refine pu_add ?_ | refine pu_sub ?_ | refine pu_mul ?_ | refine pu_neg ?_ | refine fa_at ?_ | refine nl_ptr ?_ | refine ex20 ?_ | refine ex21 ?_ | refine ex30 ?_ | refine ex31 ?_ | refine ex32 ?_ | refine ln_rule ?_ | refine lnT_rule ?_ | refine pu_and ?_ | refine pu_or ?_ | refine pu_xor ?_ | refine pu_seq ?_ | refine pu_sne ?_)
      refine ixA_at hr.1 hi64 ?_
      refine ld_here h2 hm (by simpa using GV.at_cnt hg hr.1 hi64) ?_
      repeat (first | refine pu_not ?_ | refine pu_eql ?_ | refine pu_neq ?_ | refine pu_lss ?_ | refine pu_leq ?_ | refine pu_gtr ?_ | refine pu_geq ?_ | refine pu_add ?_ | refine pu_sub ?_ | refine pu_mul ?_ | refine pu_neg ?_ | refine fa_at ?_ | refine nl_ptr ?_ | refine ex20 ?_ | refine ex21 ?_ | refine ex30 ?_ | refine ex31 ?_ | refine ex32 ?_ | refine ln_rule ?_ | refine lnT_rule ?_ | refine pu_and ?_ | refine pu_or ?_ | refine pu_xor ?_ | refine pu_seq ?_ | refine pu_sne ?_)
      have : (g.cnt i == 0) = decide (g.made = true ∧ 0 ≤ i ∧ i < g.many ∧ g.cnt i = 0) := by simp [hmade, hr]; rfl
      rw [this]; exact k w2 h2
    · have : false = decide (g.made = true ∧ 0 ≤ i ∧ i < g.many ∧ g.cnt i = 0) := by simp at hr; simp; omega
      rw [this]; exact k w2 h2
  · have : false = decide (g.made = true ∧ 0 ≤ i ∧ i < g.many ∧ g.cnt i = 0) := by simp at hn; simp [hn]
    rw [this]; exact k w1 h1

theorem num_spec {n : Int} (k : K (vI n) w) : callW PG N.linesmanlaw15_num [vI n] K PK w := by
  refine linesmanlaw15_num.ok ?_
  exact k

/-- The chapter's rows hold. -/
theorem works_spec (h : Ow B w H) (k : ∀ w', Ow B w' H → K (vB true) w') : callW PG N.linesmanlaw15_works [] K PK w := by
  refine linesmanlaw15_works.ok ?_
  unfold linesmanlaw15_works.C
  refine new_spec h (fun hb => absurd (by omega) hb) (fun _ _ b w1 h1 => ?_)
  have g0 := GV.new_wf (many := 1) (by omega) (by omega)
  generalize hg1 : GV.new 1 = g1 at h1 g0
  repeat (first | refine pu_not ?_ | refine pu_eql ?_ | refine pu_neq ?_ | refine pu_lss ?_ | refine pu_leq ?_ | refine pu_gtr ?_ | refine pu_geq ?_ | refine pu_add ?_ | refine pu_sub ?_ | refine pu_mul ?_ | refine pu_neg ?_ | refine fa_at ?_ | refine nl_ptr ?_ | refine ex20 ?_ | refine ex21 ?_ | refine ex30 ?_ | refine ex31 ?_ | refine ex32 ?_ | refine ln_rule ?_ | refine lnT_rule ?_ | refine pu_and ?_ | refine pu_or ?_ | refine pu_xor ?_ | refine pu_seq ?_ | refine pu_sne ?_)
  refine add_spec (A := []) g0 h1 (fun w2 h2 => ?_)
  have e1 : g1.add 0 2 = (⟨2 :: List.replicate 63 0, 1, true⟩, 2, 0) := by subst hg1; rfl
  rw [e1] at h2; rw [e1]; dsimp only
  have g1w : GV.Wf ⟨2 :: List.replicate 63 0, 1, true⟩ := by have := GV.add_wf g0 0 2; rw [e1] at this; exact this
  repeat (first | refine pu_not ?_ | refine pu_eql ?_ | refine pu_neq ?_ | refine pu_lss ?_ | refine pu_leq ?_ | refine pu_gtr ?_ | refine pu_geq ?_ | refine pu_add ?_ | refine pu_sub ?_ | refine pu_mul ?_ | refine pu_neg ?_ | refine fa_at ?_ | refine nl_ptr ?_ | refine ex20 ?_ | refine ex21 ?_ | refine ex30 ?_ | refine ex31 ?_ | refine ex32 ?_ | refine ln_rule ?_ | refine lnT_rule ?_ | refine pu_and ?_ | refine pu_or ?_ | refine pu_xor ?_ | refine pu_seq ?_ | refine pu_sne ?_)
  refine add_spec (A := []) g1w h2 (fun w3 h3 => ?_)
  have e2 : GV.add ⟨2 :: List.replicate 63 0, 1, true⟩ 0 (-3) = (⟨2 :: List.replicate 63 0, 1, true⟩, 0, 250) := by rfl
  rw [e2] at h3; rw [e2]; dsimp only
  repeat (first | refine pu_not ?_ | refine pu_eql ?_ | refine pu_neq ?_ | refine pu_lss ?_ | refine pu_leq ?_ | refine pu_gtr ?_ | refine pu_geq ?_ | refine pu_add ?_ | refine pu_sub ?_ | refine pu_mul ?_ | refine pu_neg ?_ | refine fa_at ?_ | refine nl_ptr ?_ | refine ex20 ?_ | refine ex21 ?_ | refine ex30 ?_ | refine ex31 ?_ | refine ex32 ?_ | refine ln_rule ?_ | refine lnT_rule ?_ | refine pu_and ?_ | refine pu_or ?_ | refine pu_xor ?_ | refine pu_seq ?_ | refine pu_sne ?_)
  refine add_spec (A := []) g1w h3 (fun w4 h4 => ?_)
  have e3 : GV.add ⟨2 :: List.replicate 63 0, 1, true⟩ 0 (-2) = (⟨0 :: List.replicate 63 0, 1, true⟩, 0, 0) := by rfl
  rw [e3] at h4; rw [e3]; dsimp only
  have g2w : GV.Wf ⟨0 :: List.replicate 63 0, 1, true⟩ := by have := GV.add_wf g1w 0 (-2); rw [e3] at this; exact this
  repeat (first | refine pu_not ?_ | refine pu_eql ?_ | refine pu_neq ?_ | refine pu_lss ?_ | refine pu_leq ?_ | refine pu_gtr ?_ | refine pu_geq ?_ | refine pu_add ?_ | refine pu_sub ?_ | refine pu_mul ?_ | refine pu_neg ?_ | refine fa_at ?_ | refine nl_ptr ?_ | refine ex20 ?_ | refine ex21 ?_ | refine ex30 ?_ | refine ex31 ?_ | refine ex32 ?_ | refine ln_rule ?_ | refine lnT_rule ?_ | refine pu_and ?_ | refine pu_or ?_ | refine pu_xor ?_ | refine pu_seq ?_ | refine pu_sne ?_)
  refine add_spec (A := []) g2w h4 (fun w5 h5 => ?_)
  have e4 : GV.add ⟨0 :: List.replicate 63 0, 1, true⟩ 0 2147483648 = (⟨0 :: List.replicate 63 0, 1, true⟩, 0, 250) := by rfl
  rw [e4] at h5; rw [e4]; dsimp only
  repeat (first | refine pu_not ?_ | refine pu_eql ?_ | refine pu_neq ?_ | refine pu_lss ?_ | refine pu_leq ?_ | refine pu_gtr ?_ | refine pu_geq ?_ | refine pu_add ?_ | refine pu_sub ?_ | refine pu_mul ?_ | refine pu_neg ?_ | refine fa_at ?_ | refine nl_ptr ?_ | refine ex20 ?_ | refine ex21 ?_ | refine ex30 ?_ | refine ex31 ?_ | refine ex32 ?_ | refine ln_rule ?_ | refine lnT_rule ?_ | refine pu_and ?_ | refine pu_or ?_ | refine pu_xor ?_ | refine pu_seq ?_ | refine pu_sne ?_)
  refine add_spec (A := []) g2w h5 (fun w6 h6 => ?_)
  have e5 : GV.add ⟨0 :: List.replicate 63 0, 1, true⟩ 1 1 = (⟨0 :: List.replicate 63 0, 1, true⟩, 0, 4) := by rfl
  rw [e5] at h6; rw [e5]; dsimp only
  repeat (first | refine pu_not ?_ | refine pu_eql ?_ | refine pu_neq ?_ | refine pu_lss ?_ | refine pu_leq ?_ | refine pu_gtr ?_ | refine pu_geq ?_ | refine pu_add ?_ | refine pu_sub ?_ | refine pu_mul ?_ | refine pu_neg ?_ | refine fa_at ?_ | refine nl_ptr ?_ | refine ex20 ?_ | refine ex21 ?_ | refine ex30 ?_ | refine ex31 ?_ | refine ex32 ?_ | refine ln_rule ?_ | refine lnT_rule ?_ | refine pu_and ?_ | refine pu_or ?_ | refine pu_xor ?_ | refine pu_seq ?_ | refine pu_sne ?_)
  refine num_spec ?_
  refine num_spec ?_
  repeat (first | refine pu_not ?_ | refine pu_eql ?_ | refine pu_neq ?_ | refine pu_lss ?_ | refine pu_leq ?_ | refine pu_gtr ?_ | refine pu_geq ?_ | refine pu_add ?_ | refine pu_sub ?_ | refine pu_mul ?_ | refine pu_neg ?_ | refine fa_at ?_ | refine nl_ptr ?_ | refine ex20 ?_ | refine ex21 ?_ | refine ex30 ?_ | refine ex31 ?_ | refine ex32 ?_ | refine ln_rule ?_ | refine lnT_rule ?_ | refine pu_and ?_ | refine pu_or ?_ | refine pu_xor ?_ | refine pu_seq ?_ | refine pu_sne ?_)
  refine num_spec ?_
  repeat (first | refine pu_not ?_ | refine pu_eql ?_ | refine pu_neq ?_ | refine pu_lss ?_ | refine pu_leq ?_ | refine pu_gtr ?_ | refine pu_geq ?_ | refine pu_add ?_ | refine pu_sub ?_ | refine pu_mul ?_ | refine pu_neg ?_ | refine fa_at ?_ | refine nl_ptr ?_ | refine ex20 ?_ | refine ex21 ?_ | refine ex30 ?_ | refine ex31 ?_ | refine ex32 ?_ | refine ln_rule ?_ | refine lnT_rule ?_ | refine pu_and ?_ | refine pu_or ?_ | refine pu_xor ?_ | refine pu_seq ?_ | refine pu_sne ?_)
  refine cnd_t (by decide) ?_
  repeat (first | refine pu_not ?_ | refine pu_eql ?_ | refine pu_neq ?_ | refine pu_lss ?_ | refine pu_leq ?_ | refine pu_gtr ?_ | refine pu_geq ?_ | refine pu_add ?_ | refine pu_sub ?_ | refine pu_mul ?_ | refine pu_neg ?_ | refine fa_at ?_ | refine nl_ptr ?_ | refine ex20 ?_ | refine ex21 ?_ | refine ex30 ?_ | refine ex31 ?_ | refine ex32 ?_ | refine ln_rule ?_ | refine lnT_rule ?_ | refine pu_and ?_ | refine pu_or ?_ | refine pu_xor ?_ | refine pu_seq ?_ | refine pu_sne ?_)
  refine cnd_t (by decide) ?_
  refine num_spec ?_
  repeat (first | refine pu_not ?_ | refine pu_eql ?_ | refine pu_neq ?_ | refine pu_lss ?_ | refine pu_leq ?_ | refine pu_gtr ?_ | refine pu_geq ?_ | refine pu_add ?_ | refine pu_sub ?_ | refine pu_mul ?_ | refine pu_neg ?_ | refine fa_at ?_ | refine nl_ptr ?_ | refine ex20 ?_ | refine ex21 ?_ | refine ex30 ?_ | refine ex31 ?_ | refine ex32 ?_ | refine ln_rule ?_ | refine lnT_rule ?_ | refine pu_and ?_ | refine pu_or ?_ | refine pu_xor ?_ | refine pu_seq ?_ | refine pu_sne ?_)
  refine cnd_t (by decide) ?_
  repeat (first | refine pu_not ?_ | refine pu_eql ?_ | refine pu_neq ?_ | refine pu_lss ?_ | refine pu_leq ?_ | refine pu_gtr ?_ | refine pu_geq ?_ | refine pu_add ?_ | refine pu_sub ?_ | refine pu_mul ?_ | refine pu_neg ?_ | refine fa_at ?_ | refine nl_ptr ?_ | refine ex20 ?_ | refine ex21 ?_ | refine ex30 ?_ | refine ex31 ?_ | refine ex32 ?_ | refine ln_rule ?_ | refine lnT_rule ?_ | refine pu_and ?_ | refine pu_or ?_ | refine pu_xor ?_ | refine pu_seq ?_ | refine pu_sne ?_)
  refine cnd_t (by decide) ?_
  refine done_spec g2w h6 (.head _) (fun w7 h7 => ?_)
  refine cnd_t (by decide) ?_
  refine num_spec ?_
  repeat (first | refine pu_not ?_ | refine pu_eql ?_ | refine pu_neq ?_ | refine pu_lss ?_ | refine pu_leq ?_ | refine pu_gtr ?_ | refine pu_geq ?_ | refine pu_add ?_ | refine pu_sub ?_ | refine pu_mul ?_ | refine pu_neg ?_ | refine fa_at ?_ | refine nl_ptr ?_ | refine ex20 ?_ | refine ex21 ?_ | refine ex30 ?_ | refine ex31 ?_ | refine ex32 ?_ | refine ln_rule ?_ | refine lnT_rule ?_ | refine pu_and ?_ | refine pu_or ?_ | refine pu_xor ?_ | refine pu_seq ?_ | refine pu_sne ?_)
  refine cnd_t (by decide) ?_
  refine num_spec ?_
  repeat (first | refine pu_not ?_ | refine pu_eql ?_ | refine pu_neq ?_ | refine pu_lss ?_ | refine pu_leq ?_ | refine pu_gtr ?_ | refine pu_geq ?_ | refine pu_add ?_ | refine pu_sub ?_ | refine pu_mul ?_ | refine pu_neg ?_ | refine fa_at ?_ | refine nl_ptr ?_ | refine ex20 ?_ | refine ex21 ?_ | refine ex30 ?_ | refine ex31 ?_ | refine ex32 ?_ | refine ln_rule ?_ | refine lnT_rule ?_ | refine pu_and ?_ | refine pu_or ?_ | refine pu_xor ?_ | refine pu_seq ?_ | refine pu_sne ?_)
  exact k w7 h7.drop
end
end Go.Proofs.Ytapnfbmcniebpaa
