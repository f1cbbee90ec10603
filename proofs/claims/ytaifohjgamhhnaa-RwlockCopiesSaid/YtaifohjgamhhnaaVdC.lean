/- Locks as they lie in memory; what is asked; Read. -/
import Derived.Test.YtaifohjgamhhnaaVdB
set_option linter.unusedVariables false
set_option linter.unusedSimpArgs false
namespace Go.Proofs.Ytaifohjgamhhnaa
open Go Go.RowKit Vc Vd
attribute [local irreducible] binV Op.unary convert nlW faW ldS ldW ixS ixA ixV ixT exW lnS lnT pu stW alW opW opU bsW mkW

section
variable {B w : World} {H : Hp} {K : Value → World → Prop} {PK : List PanicEntry → World → Prop}
structure Ent where
  S : Hp
  v : Value
  k : Lk
def Ent.cells (e : Ent) : List Value := [e.v, vI (if 0 < e.k.wr then e.k.wr - 1 else 0), vB (decide (0 < e.k.wr))]
abbrev iv (l : List Int) : List Value := l.map vI
theorem iv_plain (l : List Int) : (iv l).all plainV = true := List.all_eq_true.2 fun v hv => by
  obtain ⟨x, _, rfl⟩ := List.mem_map.1 hv
  rfl
def Ent.ok (e : Ent) : Prop := RdS T.t_int e.S e.v (iv e.k.rd)
def foot (es : List Ent) : Hp := es.flatMap Ent.S
def lcells (es : List Ent) : List Value := es.flatMap Ent.cells
theorem foot_app (a b : List Ent) : foot (a ++ b) = foot a ++ foot b := List.flatMap_append
theorem foot_cons (a : Ent) (b : List Ent) : foot (a :: b) = a.S ++ foot b := rfl
theorem lcells_app (a b : List Ent) : lcells (a ++ b) = lcells a ++ lcells b := List.flatMap_append
theorem lcells_cons (a : Ent) (b : List Ent) : lcells (a :: b) = a.cells ++ lcells b := rfl
theorem lcells_len : ∀ es : List Ent, (lcells es).length = es.length * 3
  | [] => rfl
  | e :: es => by rw [lcells_cons, List.length_append, lcells_len es]; simp [Ent.cells]; omega
theorem lcells_at {pre post : List Ent} {e : Ent} {t : List Value} {j : Nat} (hj : j < 3) : (lcells (pre ++ e :: post) ++ t)[pre.length * 3 + j]? = e.cells[j]? := by
  rw [lcells_app, lcells_cons, List.append_assoc, List.append_assoc, List.getElem?_append_right (by rw [lcells_len]; omega), lcells_len, Nat.add_sub_cancel_left, List.getElem?_append_left (by simp [Ent.cells]; omega)]
theorem at_rd {pre post : List Ent} {e : Ent} {t : List Value} : (lcells (pre ++ e :: post) ++ t)[pre.length * 3]? = some e.v := (lcells_at (j := 0) (by omega)).trans rfl
theorem at_wr {pre post : List Ent} {e : Ent} {t : List Value} : (lcells (pre ++ e :: post) ++ t)[pre.length * 3 + 1]? = some (vI (if 0 < e.k.wr then e.k.wr - 1 else 0)) := (lcells_at (j := 1) (by omega)).trans rfl
theorem at_wt {pre post : List Ent} {e : Ent} {t : List Value} : (lcells (pre ++ e :: post) ++ t)[pre.length * 3 + 2]? = some (vB (decide (0 < e.k.wr))) := (lcells_at (j := 2) (by omega)).trans rfl
theorem lcells_set {pre post : List Ent} {e e' : Ent} {t : List Value} {j : Nat} {x : Value} (hj : j < 3) (he : e.cells.set j x = e'.cells) : (lcells (pre ++ e :: post) ++ t).set (pre.length * 3 + j) x = lcells (pre ++ e' :: post) ++ t := by
  rw [lcells_app, lcells_cons, List.append_assoc, List.append_assoc, List.set_append_right _ _ (by rw [lcells_len]; omega), lcells_len, Nat.add_sub_cancel_left, List.set_append_left _ _ (by simp [Ent.cells]; omega), he, lcells_app, lcells_cons, List.append_assoc, List.append_assoc]
abbrev tail (many : Int) : List Value := [vI many, vB true]
abbrev obj (es : List Ent) (many : Int) : Obj := cel (lcells es ++ tail many) T.t_rwlock_Locks
theorem obj_len {es : List Ent} {many : Int} (h : es.length = 64) : (lcells es ++ tail many).length = 194 := by
  rw [List.length_append, lcells_len, h]; rfl
theorem at_many {es : List Ent} {many : Int} (h : es.length = 64) : (lcells es ++ tail many)[192]? = some (vI many) := by
  rw [List.getElem?_append_right (by rw [lcells_len]; omega), lcells_len, h]; rfl
theorem at_made {es : List Ent} {many : Int} (h : es.length = 64) : (lcells es ++ tail many)[193]? = some (vB true) := by
  rw [List.getElem?_append_right (by rw [lcells_len]; omega), lcells_len, h]; rfl
def full (L : List Lk) : List Lk := L ++ List.replicate (64 - L.length) emp
theorem full_lk {L : List Lk} (i : Int) : (full L).getD i.toNat emp = gk L i := by
  unfold full gk
  simp only [List.getD_eq_getElem?_getD]
  by_cases h : i.toNat < L.length
  · rw [List.getElem?_append_left h]
  · rw [List.getElem?_append_right (by omega), List.getElem?_eq_none (show L.length ≤ i.toNat by omega), List.getElem?_replicate]
    split <;> rfl
theorem full_set {L : List Lk} {i : Nat} (k : Lk) (h : i < L.length) : (full L).set i k = full (L.set i k) := by
  unfold full
  rw [List.set_append_left _ _ h, List.length_set]
/-- Locks at b, and all that they hold. -/
def LP (L : List Lk) (m : Nat) (b : Nat) (F : Hp) : Prop := ∃ es : List Ent, es.map Ent.k = full L ∧ (∀ e ∈ es, e.ok) ∧ Wf m L ∧ F = (b, obj es L.length) :: foot es
variable {L : List Lk} {m b : Nat} {F : Hp}
theorem LP.wf (h : LP L m b F) : Wf m L := let ⟨_, _, _, h, _⟩ := h; h
theorem LP.mono {n : Nat} (h : LP L m b F) (hn : m ≤ n) : LP L n b F := let ⟨es, h1, h2, h3, h4⟩ := h; ⟨es, h1, h2, h3.mono hn, h4⟩
theorem es_len {es : List Ent} (h : es.map Ent.k = full L) (hw : Wf m L) : es.length = 64 := by
  have := congrArg List.length h
  have hl := hw.len
  simp [full] at this
  omega
theorem LP.split (lp : LP L m b F) {i : Int} (h0 : 0 ≤ i) (h1 : i < 64) : ∃ (pre : List Ent) (e : Ent) (post : List Ent), F = (b, obj (pre ++ e :: post) L.length) :: (foot pre ++ (e.S ++ foot post)) ∧ (pre ++ e :: post).length = 64 ∧ pre.length = i.toNat ∧ e.ok ∧ e.k = gk L i ∧
    (∀ (e' : Ent) (m' : Nat), e'.ok → i < L.length → Wf m' (L.set i.toNat e'.k) → LP (L.set i.toNat e'.k) m' b ((b, obj (pre ++ e' :: post) L.length) :: (foot pre ++ (e'.S ++ foot post)))) := by
  obtain ⟨es, h2, h3, h4, rfl⟩ := lp
  have hl := es_len h2 h4
  have hlt : i.toNat < es.length := by omega
  have he : es = es.take i.toNat ++ es[i.toNat] :: es.drop (i.toNat + 1) := by rw [List.getElem_cons_drop, List.take_append_drop]
  have hp : (es.take i.toNat).length = i.toNat := by simp; omega
  have hk : es[i.toNat].k = gk L i := by
    rw [← full_lk, ← h2, List.getD_eq_getElem?_getD, List.getElem?_map, List.getElem?_eq_getElem hlt]
    rfl
  have hok := h3 _ (List.getElem_mem hlt)
  generalize es[i.toNat] = e at *
  generalize es.take i.toNat = pre at *
  generalize es.drop (i.toNat + 1) = post at *
  subst he
  refine ⟨pre, e, post, by rw [foot_app, foot_cons], hl, hp, hok, hk, fun e' m' hok' hi hw' => ⟨pre ++ e' :: post, ?_, ?_, hw', ?_⟩⟩
  · rw [← full_set _ (by omega), ← h2, List.map_append, List.map_append, ← hp]
    simp
  · intro x hx
    rcases List.mem_append.1 hx with hx | hx
    · exact h3 x (List.mem_append_left _ hx)
    · rcases List.mem_cons.1 hx with rfl | hx
      · exact hok'
      · exact h3 x (List.mem_append_right _ (.tail _ hx))
  · rw [foot_app, foot_cons, List.length_set]
theorem LP.head (lp : LP L m b F) : ∃ es : List Ent, es.length = 64 ∧ (b, obj es L.length) ∈ F := by
  obtain ⟨es, h2, h3, h4, rfl⟩ := lp
  exact ⟨es, es_len h2 h4, .head _⟩

theorem und_ptr : PG.underlying T.t_ptr_rwlock_Locks = some (.pointer T.t_rwlock_Locks) := by kernel_rfl
theorem none_nil (h : Ow B w H) (k : ∀ w', Ow B w' H → K (vB true) w') : callW PG N.rwlock_Locks_none [.pointer none] K PK w := by
  refine rwlock_Locks_none.ok ?_
  unfold rwlock_Locks_none.C
  refine pu_pnil und_ptr ?_
  refine cnd_t rfl ?_
  exact k w h
theorem none_spec (lp : LP L m b F) (h : Ow B w H) (hF : ∀ x, x ∈ F → x ∈ H) (k : ∀ w', Ow B w' H → K (vB false) w') : callW PG N.rwlock_Locks_none [ptr b] K PK w := by
  obtain ⟨es, hl, hm⟩ := lp.head
  refine rwlock_Locks_none.ok ?_
  unfold rwlock_Locks_none.C
  refine pu_pnil und_ptr ?_
  refine cnd_f rfl ?_
  repeat (first | refine pu_not ?_ | refine pu_eql ?_ | refine pu_neq ?_ | refine pu_lss ?_ | refine pu_leq ?_ | refine pu_gtr ?_ | refine pu_geq ?_ | refine pu_add ?_ | refine pu_sub ?_ | refine pu_mul ?_ | refine pu_neg ?_ | refine fa_at ?_ | refine nl_ptr ?_ | refine ex20 ?_ | refine ex21 ?_ | refine ex30 ?_ | refine ex31 ?_ | refine ex32 ?_ | refine ln_rule ?_ | refine lnT_rule ?_ | refine pu_and ?_ | refine pu_or ?_ | refine pu_xor ?_ | refine pu_seq ?_ | refine pu_sne ?_)
  refine ld_here h (hF _ hm) (by simpa using at_made hl) ?_
  repeat (first | refine pu_not ?_ | refine pu_eql ?_ | refine pu_neq ?_ | refine pu_lss ?_ | refine pu_leq ?_ | refine pu_gtr ?_ | refine pu_geq ?_ | refine pu_add ?_ | refine pu_sub ?_ | refine pu_mul ?_ | refine pu_neg ?_ | refine fa_at ?_ | refine nl_ptr ?_ | refine ex20 ?_ | refine ex21 ?_ | refine ex30 ?_ | refine ex31 ?_ | refine ex32 ?_ | refine ln_rule ?_ | refine lnT_rule ?_ | refine pu_and ?_ | refine pu_or ?_ | refine pu_xor ?_ | refine pu_seq ?_ | refine pu_sne ?_)
  exact k w h
theorem there_spec (lp : LP L m b F) (h : Ow B w H) (hF : ∀ x, x ∈ F → x ∈ H) {i : Int} (k : ∀ w', Ow B w' H → K (vB (decide (0 ≤ i ∧ i < L.length))) w') : callW PG N.rwlock_all_there [ptr b, vI i] K PK w := by
  obtain ⟨es, hl, hm⟩ := lp.head
  refine rwlock_all_there.ok ?_
  unfold rwlock_all_there.C
  repeat (first | refine pu_not ?_ | refine pu_eql ?_ | refine pu_neq ?_ | refine pu_lss ?_ | refine pu_leq ?_ | refine pu_gtr ?_ | refine pu_geq ?_ | refine pu_add ?_ | refine pu_sub ?_ | refine pu_mul ?_ | refine pu_neg ?_ | refine fa_at ?_ | refine nl_ptr ?_ | refine ex20 ?_ | refine ex21 ?_ | refine ex30 ?_ | refine ex31 ?_ | refine ex32 ?_ | refine ln_rule ?_ | refine lnT_rule ?_ | refine pu_and ?_ | refine pu_or ?_ | refine pu_xor ?_ | refine pu_seq ?_ | refine pu_sne ?_)
  refine cnd (fun hi => ?_) (fun hi => ?_)
  · repeat (first | refine pu_not ?_ | refine pu_eql ?_ | refine pu_neq ?_ | refine pu_lss ?_ | refine pu_leq ?_ | refine pu_gtr ?_ | refine pu_geq ?_ | refine pu_add ?_ | refine pu_sub ?_ | refine pu_mul ?_ | refine pu_neg ?_ | refine fa_at ?_ | refine nl_ptr ?_ | refine ex20 ?_ | refine ex21 ?_ | refine ex30 ?_ | refine ex31 ?_ | refine ex32 ?_ | refine ln_rule ?_ | refine lnT_rule ?_ | refine pu_and ?_ | refine pu_or ?_ | refine pu_xor ?_ | refine pu_seq ?_ | refine pu_sne ?_)
    refine ld_here h (hF _ hm) (by simpa using at_many hl) ?_
    repeat (first | refine pu_not ?_ | refine pu_eql ?_ | refine pu_neq ?_ | refine pu_lss ?_ | refine pu_leq ?_ | refine pu_gtr ?_ | refine pu_geq ?_ | refine pu_add ?_ | refine pu_sub ?_ | refine pu_mul ?_ | refine pu_neg ?_ | refine fa_at ?_ | refine nl_ptr ?_ | refine ex20 ?_ | refine ex21 ?_ | refine ex30 ?_ | refine ex31 ?_ | refine ex32 ?_ | refine ln_rule ?_ | refine lnT_rule ?_ | refine pu_and ?_ | refine pu_or ?_ | refine pu_xor ?_ | refine pu_seq ?_ | refine pu_sne ?_)
    have : decide (i < (L.length : Int)) = decide (0 ≤ i ∧ i < L.length) := by simp at hi; simp [hi]
    rw [this]; exact k w h
  · have : false = decide (0 ≤ i ∧ i < (L.length : Int)) := by simp at hi; simp; omega
    rw [this]; exact k w h
abbrev fnc (f : FuncId) (cap : Array Value) : Value := .func (.func f) #[] cap
theorem none_pf (lp : LP L m b F) (hF : ∀ x, x ∈ F → x ∈ H) : PF PG B H (.func (.func N.rwlock_Locks_none) #[ptr b] #[]) [] (vB false) := fun X K PK w hw k =>
  callV_fn rwlock_Locks_none.okf (none_spec lp hw (fun x hx => List.mem_append_right _ (hF x hx)) k)
theorem by_pf {b6 : Nat} {y : Int} (hm : (b6, cel [vI y] T.t_int) ∈ H) : PF PG B H (fnc N.rwlock_Locks_asked_1 #[ptr b6]) [] (vB (decide (y < 0 ∨ 65535 < y))) := fun X K PK w hw k => by
  refine callV_fn rwlock_Locks_asked_1.okf (rwlock_Locks_asked_1.ok ?_)
  unfold rwlock_Locks_asked_1.C
  have hm := List.mem_append_right X hm
  refine ld_here hw hm rfl ?_
  repeat (first | refine pu_not ?_ | refine pu_eql ?_ | refine pu_neq ?_ | refine pu_lss ?_ | refine pu_leq ?_ | refine pu_gtr ?_ | refine pu_geq ?_ | refine pu_add ?_ | refine pu_sub ?_ | refine pu_mul ?_ | refine pu_neg ?_ | refine fa_at ?_ | refine nl_ptr ?_ | refine ex20 ?_ | refine ex21 ?_ | refine ex30 ?_ | refine ex31 ?_ | refine ex32 ?_ | refine ln_rule ?_ | refine lnT_rule ?_ | refine pu_and ?_ | refine pu_or ?_ | refine pu_xor ?_ | refine pu_seq ?_ | refine pu_sne ?_)
  refine cnd (fun h0 => ?_) (fun h0 => ?_)
  · have e : decide (y < 0 ∨ 65535 < y) = true := by simp at h0; simp; omega
    rw [e] at k
    exact k w hw
  · refine ld_here hw hm rfl ?_
    repeat (first | refine pu_not ?_ | refine pu_eql ?_ | refine pu_neq ?_ | refine pu_lss ?_ | refine pu_leq ?_ | refine pu_gtr ?_ | refine pu_geq ?_ | refine pu_add ?_ | refine pu_sub ?_ | refine pu_mul ?_ | refine pu_neg ?_ | refine fa_at ?_ | refine nl_ptr ?_ | refine ex20 ?_ | refine ex21 ?_ | refine ex30 ?_ | refine ex31 ?_ | refine ex32 ?_ | refine ln_rule ?_ | refine lnT_rule ?_ | refine pu_and ?_ | refine pu_or ?_ | refine pu_xor ?_ | refine pu_seq ?_ | refine pu_sne ?_)
    have e : decide (y < 0 ∨ 65535 < y) = decide (y > 65535) := by simp at h0; simp; omega
    rw [e] at k
    exact k w hw
theorem not_there_pf (lp : LP L m b F) (hF : ∀ x, x ∈ F → x ∈ H) {b2 b4 : Nat} {i : Int} (h2 : (b2, cel [ptr b] T.t_ptr_rwlock_Locks) ∈ H) (h4 : (b4, cel [vI i] T.t_int) ∈ H) :
    PF PG B H (fnc N.rwlock_Locks_asked_2 #[ptr b2, ptr b4]) [] (vB (decide ¬ (0 ≤ i ∧ i < L.length))) := fun X K PK w hw k => by
  refine callV_fn rwlock_Locks_asked_2.okf (rwlock_Locks_asked_2.ok ?_)
  unfold rwlock_Locks_asked_2.C
  refine ⟨fun w => Ow B w (X ++ H), hw.drew, ?_⟩
  refine lds_here (fun w h => h) (List.mem_append_right _ h2) rfl ?_
  repeat (first | refine pu_not ?_ | refine pu_eql ?_ | refine pu_neq ?_ | refine pu_lss ?_ | refine pu_leq ?_ | refine pu_gtr ?_ | refine pu_geq ?_ | refine pu_add ?_ | refine pu_sub ?_ | refine pu_mul ?_ | refine pu_neg ?_ | refine fa_at ?_ | refine nl_ptr ?_ | refine ex20 ?_ | refine ex21 ?_ | refine ex30 ?_ | refine ex31 ?_ | refine ex32 ?_ | refine ln_rule ?_ | refine lnT_rule ?_ | refine pu_and ?_ | refine pu_or ?_ | refine pu_xor ?_ | refine pu_seq ?_ | refine pu_sne ?_)
  refine lds_here (fun w h => h) (List.mem_append_right _ h4) rfl ?_
  refine there_spec lp hw.drew (fun x hx => List.mem_append_right _ (hF x hx)) (fun w1 h1 => ?_)
  repeat (first | refine pu_not ?_ | refine pu_eql ?_ | refine pu_neq ?_ | refine pu_lss ?_ | refine pu_leq ?_ | refine pu_gtr ?_ | refine pu_geq ?_ | refine pu_add ?_ | refine pu_sub ?_ | refine pu_mul ?_ | refine pu_neg ?_ | refine fa_at ?_ | refine nl_ptr ?_ | refine ex20 ?_ | refine ex21 ?_ | refine ex30 ?_ | refine ex31 ?_ | refine ex32 ?_ | refine ln_rule ?_ | refine lnT_rule ?_ | refine pu_and ?_ | refine pu_or ?_ | refine pu_xor ?_ | refine pu_seq ?_ | refine pu_sne ?_)
  rw [← decide_not]
  exact k w1 h1
theorem flat_app (a b : List (Value × Int)) : flat (a ++ b) = flat a ++ flat b := List.flatMap_append
theorem und_slask : PG.underlying T.t_sl_rwlock_ask = some (.slice T.t_rwlock_ask) := by kernel_rfl
theorem info_ask : (PG.info? T.t_rwlock_ask).map (fun i => (i.zero, i.size, i.bytes)) = some (some (.agg #[.nilFunc, vI 0]), 2, 16) := by kernel_rfl
theorem asked_spec {i y r0 : Int} {bt n : Nat} {more : List (Value × Int)} (lp : LP L m b F) (h : Ow B w H) (hF : ∀ x, x ∈ F → x ∈ H) (ht : (bt, cel (flat more) T.t_rwlock_ask) ∈ H) (hn : more.length = n) (hf : ∀ p ∈ more, isFnV p.1 = true) (hlen : n < 50)
    (hr : right L i y = 0 → FirstR B H more r0) (k : ∀ w', Ow B w' H → K (vI (if right L i y ≠ 0 then right L i y else r0)) w') :
    callW PG N.rwlock_Locks_asked [ptr b, vI i, vI y, .slice (some ⟨bt, 0, none⟩) n n] K PK w := by
  refine rwlock_Locks_asked.ok ?_
  unfold rwlock_Locks_asked.C
  refine al_rule h (l := [ptr b]) rfl (fun b2 w1 h1 => ?_)
  refine al_rule h1 (l := [vI i]) rfl (fun b4 w2 h2 => ?_)
  refine al_rule h2 (l := [vI y]) rfl (fun b6 w3 h3 => ?_)
  refine ld_here h3 (.tail _ (.tail _ (.head _))) rfl ?_
  refine pu_build [.func (.func N.rwlock_Locks_none) #[ptr b] #[], vI 1] (by kernel_rfl) ?_
  refine pu_build [fnc N.rwlock_Locks_asked_1 #[ptr b6], vI 2] (by kernel_rfl) ?_
  refine pu_build [fnc N.rwlock_Locks_asked_2 #[ptr b2, ptr b4], vI 4] (by kernel_rfl) ?_
  refine bs_rule h3 (flat [(.func (.func N.rwlock_Locks_none) #[ptr b] #[], 1), (fnc N.rwlock_Locks_asked_1 #[ptr b6], 2), (fnc N.rwlock_Locks_asked_2 #[ptr b2, ptr b4], 4)]) (by kernel_rfl) (fun b7 w4 h4 => ?_)
  generalize hX : [((.func (.func N.rwlock_Locks_none) #[ptr b] #[] : Value), (1 : Int)), (fnc N.rwlock_Locks_asked_1 #[ptr b6], 2), (fnc N.rwlock_Locks_asked_2 #[ptr b2, ptr b4], 4)] = X at h4
  have hXl : X.length = 3 := by rw [← hX]; rfl
  obtain ⟨inf, i1, i2, i3, i4⟩ := info_of info_ask
  refine app_rule (A := []) (S := [(b7, cel (flat X) T.t_rwlock_ask)]) (xs := flat X) (ys := flat more) (H := H) h4 (Own.mk (Nat.le_refl _) (by simp [maxLen]) (by rw [flat_len, hXl]) (by rw [List.take_of_length_le]; rw [flat_len, hXl]; exact Nat.le_refl _)) (src_here ht (by rw [flat_len, hn])) (fun y hy => List.mem_append_right _ (.tail _ (.tail _ (.tail _ hy)))) (flat_plain hf) und_slask i1 i2 i3 i4 rfl (by omega) (by simp [maxLen]; omega) (by omega) (fun S' v' w5 h5 ho => ?_)
  rw [← flat_app] at ho
  refine first_spec (xs := X ++ more) (r := if right L i y ≠ 0 then right L i y else r0) h5 (by rw [List.length_append, hXl, hn]; exact ho) (fun x hx => List.mem_append_left _ hx) (by rw [List.length_append]; omega) ?_ ?_ (fun w6 h6 => ?_)
  · intro p hp
    rcases List.mem_append.1 hp with hp | hp
    · rw [← hX] at hp
      simp only [List.mem_cons, List.not_mem_nil, or_false] at hp
      rcases hp with rfl | rfl | rfl <;> rfl
    · exact hf p hp
  · have hall : ∀ x, x ∈ F → x ∈ [] ++ S' ++ (b6, cel [vI y] T.t_int) :: (b4, cel [vI i] T.t_int) :: (b2, cel [ptr b] T.t_ptr_rwlock_Locks) :: H := fun x hx => List.mem_append_right _ (.tail _ (.tail _ (.tail _ (hF x hx))))
    rw [← hX]
    refine ⟨false, none_pf lp hall, ?_⟩
    rw [if_neg (by simp)]
    refine ⟨_, by_pf (List.mem_append_right _ (.head _)), ?_⟩
    split
    · rename_i hy
      have hy : y < 0 ∨ 65535 < y := by simpa using hy
      have e : right L i y = 2 := by unfold right; rw [if_pos hy]
      rw [e, if_pos (by omega)]
    · rename_i hy
      have hy : ¬ (y < 0 ∨ 65535 < y) := by simpa using hy
      refine ⟨_, not_there_pf lp hall (List.mem_append_right _ (.tail _ (.tail _ (.head _)))) (List.mem_append_right _ (.tail _ (.head _))), ?_⟩
      split
      · rename_i hi
        have hi : ¬ (0 ≤ i ∧ i < (L.length : Int)) := of_decide_eq_true hi
        have e : right L i y = 4 := by unfold right; rw [if_neg hy, if_neg hi]
        rw [e, if_pos (by omega)]
      · rename_i hi
        have hi : 0 ≤ i ∧ i < (L.length : Int) := Decidable.not_not.1 fun hn => hi (decide_eq_true hn)
        have e : right L i y = 0 := by unfold right; rw [if_neg hy, if_pos hi]
        rw [e, if_neg (by omega)]
        have e2 : ([] ++ S' ++ (b6, cel [vI y] T.t_int) :: (b4, cel [vI i] T.t_int) :: (b2, cel [ptr b] T.t_ptr_rwlock_Locks) :: H : Hp) = (S' ++ [(b6, cel [vI y] T.t_int), (b4, cel [vI i] T.t_int), (b2, cel [ptr b] T.t_ptr_rwlock_Locks)]) ++ H := by simp
        rw [e2]
        exact (hr e).app _
  · refine k w6 (h6.sub ?_)
    exact (List.Sublist.refl H).cons _ |>.cons _ |>.cons _ |>.trans (List.sublist_append_right _ _)

/-! ### What is told of a lock -/
variable {b2 b4 : Nat} {i : Int}
theorem written_pf {f : FuncId} (hok : okFn PG f = true) (hC : ∀ {R : Ending → World → Prop} {x0 x1 : Value} {w : World}, (∃ H3 : World → Prop, H3 (World.drew w) ∧ (ldS none x0 H3 fun t4 => ldS none x1 H3 fun t5 => nlW t4 fun t6 => faW 0 t6 fun t7 => faW 0 t7 fun t8 => ixA 64 3 t8 t5 fun t9 => faW 2 t9 fun t10 => ldS none t10 H3 fun t11 => R (.returned t11) (World.drew w))) → Calls PG f #[x0, x1] w R)
    (lp : LP L m b F) (hF : ∀ x, x ∈ F → x ∈ H) (h2 : (b2, cel [ptr b] T.t_ptr_rwlock_Locks) ∈ H) (h4 : (b4, cel [vI i] T.t_int) ∈ H) (h0 : 0 ≤ i) (h1 : i < L.length) :
    PF PG B H (fnc f #[ptr b2, ptr b4]) [] (vB (decide (0 < (gk L i).wr))) := fun X K PK w hw k => by
  have hlen := lp.wf.len
  obtain ⟨pre, e, post, rfl, hl, hp, hok', hk, _⟩ := lp.split h0 (by omega)
  refine callV_fn hok (hC ?_)
  refine ⟨fun w => Ow B w (X ++ H), hw.drew, ?_⟩
  refine lds_here (fun w h => h) (List.mem_append_right _ h2) rfl ?_
  refine lds_here (fun w h => h) (List.mem_append_right _ h4) rfl ?_
  repeat (first | refine pu_not ?_ | refine pu_eql ?_ | refine pu_neq ?_ | refine pu_lss ?_ | refine pu_leq ?_ | refine pu_gtr ?_ | refine pu_geq ?_ | refine pu_add ?_ | refine pu_sub ?_ | refine pu_mul ?_ | refine pu_neg ?_ | refine fa_at ?_ | refine nl_ptr ?_ | refine ex20 ?_ | refine ex21 ?_ | refine ex30 ?_ | refine ex31 ?_ | refine ex32 ?_ | refine ln_rule ?_ | refine lnT_rule ?_ | refine pu_and ?_ | refine pu_or ?_ | refine pu_xor ?_ | refine pu_seq ?_ | refine pu_sne ?_)
  refine ixA_at h0 (by omega) ?_
  repeat (first | refine pu_not ?_ | refine pu_eql ?_ | refine pu_neq ?_ | refine pu_lss ?_ | refine pu_leq ?_ | refine pu_gtr ?_ | refine pu_geq ?_ | refine pu_add ?_ | refine pu_sub ?_ | refine pu_mul ?_ | refine pu_neg ?_ | refine fa_at ?_ | refine nl_ptr ?_ | refine ex20 ?_ | refine ex21 ?_ | refine ex30 ?_ | refine ex31 ?_ | refine ex32 ?_ | refine ln_rule ?_ | refine lnT_rule ?_ | refine pu_and ?_ | refine pu_or ?_ | refine pu_xor ?_ | refine pu_seq ?_ | refine pu_sne ?_)
  refine lds_here (fun w h => h) (List.mem_append_right _ (hF _ (.head _))) (v := vB (decide (0 < (gk L i).wr))) ?_ ?_
  · rw [← hp, ← hk]
    simpa using at_wt (pre := pre) (post := post) (e := e) (t := tail L.length)
  · exact k _ hw.drew
end
end Go.Proofs.Ytaifohjgamhhnaa
