/- Stacks: copy, frames, the slice of frames. -/
import Derived.Test.YtkkkcafkepnecaaGreatVsB
import Derived.Laws.CopyRow
import Derived.Laws.IdiomCopy
set_option linter.unusedVariables false
set_option linter.unusedSimpArgs false
namespace Go.Proofs.YtkkkcafkepnecaaGreat.Vc
open Go Go.RowKit
section
variable {P : Program} {B w : World} {KW : Value → World → Prop} {t e ty : TypeId} {H : Hp}
theorem Sl.cap {s : Value} {xs : List Value} (hs : Sl H s xs) : ∃ a c, s = .slice a xs.length c ∧ xs.length ≤ c := by
  obtain ⟨a, c, he, hc, _⟩ := hs
  exact ⟨a, c, he, hc⟩
theorem app_zero {a : Addr} {b : Option Addr} {n c c' : Nat} {i : TypeInfo} (ht : P.underlying t = some (.slice e)) (hi : P.info? e = some i) (hn : n ≤ c) (w : World) :
    (Builtin.append_ #[t, t] ty #[.slice (some a) n c, .slice b 0 c']).run P w = .ok (.slice (some a) n c) w := by
  cases b <;> simp [Builtin.append_, run_underlying ht, sizeOf, typeInfo, hi, Builtin.lenOf, Builtin.firstCells, loadCells, loadCellsFrom, hn, storeCells]
/-- copy, of cells, into a row from its beginning. -/
theorem cp_rule {A C H' : Hp} {g n cap : Nat} {l ys : List Value} {x : Value} (h : Ow B w (A ++ (g, cel l e) :: C)) (hs : Sl H' x ys) (hH : ∀ y, y ∈ H' → y ∈ A ++ (g, cel l e) :: C) (hn : ys.length ≤ n) (hl : n ≤ l.length)
    (hp : ∀ v ∈ ys, v.oneCell' = true) (ht : P.underlying t = some (.slice e)) (hi : (P.info? e).map (·.size) = some 1)
    (k : ∀ r w', Ow B w' (A ++ (g, cel (ys ++ l.drop ys.length) e) :: C) → KW r w') : opW P (Builtin.copy_ #[t, t] ty #[.slice (some ⟨g, 0, none⟩) n cap, x]) KW w := by
  obtain ⟨a, c, rfl, hc, hx⟩ := hs
  have hg := h.mem g _ (List.mem_append_right _ (.head _))
  cases a with
  | none =>
    have : ys = [] := by
      cases ys with
      | nil => rfl
      | cons y ys => obtain ⟨p, hp, _⟩ := hx 0 y rfl; cases hp
    subst this
    exact ⟨_, _, run_copy_none (P := P) w t t ty e _ none n cap 0 c ht hi (by simp), k _ _ (by simpa using h)⟩
  | some a =>
    have hr := run_copy_row (P := P) w t t ty e g 0 n cap a ys.length c l.toArray e ys ht hi hg (Nat.min_eq_left hn).symm
      (fun j v hj => by obtain ⟨p, hp, hcell⟩ := hx j v hj; cases hp; exact h.cell (hcell.mono hH)) (by simp; omega) hp
    refine ⟨_, _, hr, k _ _ ?_⟩
    have := setRow_ow (l' := ys ++ l.drop ys.length) h
    simpa using this
/-- A slice of rows of size cells: a row of its own, or a full part of one. -/
def Fro (e : TypeId) (size : Nat) (S : Hp) (v : Value) (rows : List (List Value)) : Prop :=
  (∀ x ∈ rows, x.length = size) ∧ (Own S e size v rows.length rows.flatten ∨ ∃ g l, v = .slice (some ⟨g, 0, none⟩) rows.length rows.length ∧ S = [(g, cel l e)] ∧ rows.length ≤ maxLen ∧ rows.length * size ≤ l.length ∧ l.take (rows.length * size) = rows.flatten)
variable {S : Hp} {v : Value} {rows : List (List Value)} {size : Nat}
theorem Fro.len (h : Fro e size S v rows) : ∃ a c, v = .slice a rows.length c ∧ rows.length ≤ c ∧ c ≤ maxLen := by
  obtain ⟨h0, ⟨hl, ⟨rfl, rfl, hn⟩ | ⟨g, cap, l, rfl, rfl, hc, hm, hlen, hx⟩⟩ | ⟨g, l, rfl, _, hm, _⟩⟩ := h
  · exact ⟨none, 0, by rw [hn], by omega, Nat.zero_le _⟩
  · exact ⟨_, _, rfl, hc, hm⟩
  · exact ⟨_, _, rfl, Nat.le_refl _, hm⟩
theorem Fro.max (h : Fro e size S v rows) : rows.length ≤ maxLen := by
  obtain ⟨h0, ho | ⟨g, l, rfl, _, hm, _⟩⟩ := h
  · exact ho.max
  · exact hm
theorem flatten_lenS : ∀ {rows : List (List Value)}, (∀ x ∈ rows, x.length = size) → rows.flatten.length = rows.length * size
  | [], _ => by simp
  | x :: rows, h => by
    rw [List.flatten_cons, List.length_append, h x (.head _), flatten_lenS fun y hy => h y (.tail _ hy), List.length_cons, Nat.add_mul, Nat.one_mul]
    omega
/-- The cells of a slice that is not empty. -/
theorem Fro.cells (h : Fro e size S v rows) (hr : rows ≠ []) : ∃ g l cap, v = .slice (some ⟨g, 0, none⟩) rows.length cap ∧ S = [(g, cel (rows.flatten ++ l) e)] ∧ rows.length ≤ cap ∧ cap ≤ maxLen ∧ ∀ rows' : List (List Value), rows'.length = rows.length → (∀ x ∈ rows', x.length = size) → Fro e size [(g, cel (rows'.flatten ++ l) e)] v rows' := by
  obtain ⟨h0, ⟨hl, ⟨rfl, rfl, hn⟩ | ⟨g, cap, l, rfl, rfl, hc, hm, hlen, hx⟩⟩ | ⟨g, l, rfl, rfl, hm, hlen, hx⟩⟩ := h
  · exact absurd (List.eq_nil_of_length_eq_zero hn) hr
  · refine ⟨g, l.drop (rows.length * size), cap, rfl, by rw [← hx, List.take_append_drop], hc, hm, fun rows' e1 e2 => ?_⟩
    have hf := flatten_lenS e2
    rw [← e1]
    have hcs : rows.length * size ≤ cap * size := Nat.mul_le_mul_right _ hc
    refine ⟨e2, .inl (Own.mk (by omega) hm (by rw [List.length_append, List.length_drop, hf, e1, hlen]; omega) ?_)⟩
    exact List.take_left' hf
  · refine ⟨g, l.drop (rows.length * size), rows.length, rfl, by rw [← hx, List.take_append_drop], Nat.le_refl _, hm, fun rows' e1 e2 => ?_⟩
    have hf := flatten_lenS e2
    rw [← e1]
    refine ⟨e2, .inr ⟨g, _, rfl, rfl, by omega, by rw [List.length_append, hf]; omega, List.take_left' hf⟩⟩
theorem Fro.sls (h : Fro e size S v rows) : Sls S v size rows := by
  have hmax := h.max
  by_cases hr : rows = []
  · subst hr
    obtain ⟨a, c, rfl, _, hc⟩ := h.len
    exact ⟨a, c, rfl, Nat.zero_le _, hc, by simp, by simp⟩
  · have h0 := h.1
    obtain ⟨g, l, cap, rfl, rfl, hc, hcm, _⟩ := h.cells hr
    refine ⟨some ⟨g, 0, none⟩, cap, rfl, hc, hcm, h0, fun i x hi => ⟨_, rfl, fun j y hj => ?_⟩⟩
    rw [add_mk]
    refine cell_here (.head _) ?_
    rw [Nat.zero_add]
    have hlt := (List.getElem?_eq_some_iff.1 hi).1
    have := flatten_at hj rows i h0 hi
    rw [List.getElem?_append_left (List.getElem?_eq_some_iff.1 this).1]
    exact this
/-- The last row. -/
theorem Fro.top {r : List Value} (h : Fro e size S v (rows ++ [r])) : ∃ g pre post cap, v = .slice (some ⟨g, 0, none⟩) (rows.length + 1) cap ∧ S = [(g, cel (pre ++ (r ++ post)) e)] ∧ pre.length = rows.length * size ∧
    ∀ r', r'.length = size → Fro e size [(g, cel (pre ++ (r' ++ post)) e)] v (rows ++ [r']) := by
  have h0 := h.1
  obtain ⟨g, l, cap, e1, e2, hc, _, hw⟩ := h.cells (by simp)
  refine ⟨g, rows.flatten, l, cap, by simpa using e1, by simpa using e2, flatten_lenS fun x hx => h0 x (List.mem_append_left _ hx), fun r' hr' => ?_⟩
  have := hw (rows ++ [r']) (by simp) (fun x hx => (List.mem_append.1 hx).elim (fun hx => h0 x (List.mem_append_left _ hx)) fun hx => by rw [List.mem_singleton.1 hx]; exact hr')
  simpa using this
/-- All but the last row; the capacity is cut, too. -/
theorem Fro.pop {r : List Value} (h : Fro e size S v (rows ++ [r])) : ∃ a c, v = .slice a (rows.length + 1) c ∧ rows.length ≤ c ∧ Fro e size S (Vc.cut v 0 rows.length rows.length) rows := by
  have h0 := h.1
  obtain ⟨g, l, cap, rfl, rfl, hc, _, hw⟩ := h.cells (by simp)
  have hf := flatten_lenS (rows := rows) fun x hx => h0 x (List.mem_append_left _ hx)
  have hm := h.max
  simp only [List.length_append, List.length_singleton] at hc hm ⊢
  refine ⟨_, _, rfl, by omega, fun x hx => h0 x (List.mem_append_left _ hx), .inr ⟨g, _, ?_, rfl, by omega, ?_, ?_⟩⟩
  · simp only [Vc.cut, Nat.sub_zero]
    split
    · rfl
    · simp [Addr.add]
  · simp [hf]
  · rw [List.flatten_append, List.append_assoc]
    exact List.take_left' hf
/-- append of a row. -/
theorem Fro.app {A C H' : Hp} {x z : Value} {bytes : Nat} {r : List Value} (h : Ow B w (A ++ S ++ C)) (hr : Fro e size S v rows) (hs : Src H' x 1 size r) (hH : ∀ y, y ∈ H' → y ∈ A ++ S ++ C)
    (hp : r.all plainV = true) (ht : P.underlying t = some (.slice e)) (hi : (P.info? e).map (fun i => (i.zero, i.size, i.bytes)) = some (some z, size, bytes)) (hz : z.cells.size = size) (hsz : 0 < size) (h63 : rows.length + 1 ≤ 1000000) (hb : bytes ≤ 1000)
    (k : ∀ S' v' w', Ow B w' (A ++ S' ++ C) → Fro e size S' v' (rows ++ [r]) → KW v' w') : opW P (Builtin.append_ #[t, t] ty #[v, x]) KW w := by
  obtain ⟨i, i1, i2, i3, i4⟩ := info_of hi
  obtain ⟨hrl, a, c, hx, hcell⟩ := id hs
  have hr1 : r.length = size := by omega
  have two : ∀ x ∈ rows ++ [r], x.length = size := fun x hx => (List.mem_append.1 hx).elim (hr.1 x) fun hx => by rw [List.mem_singleton.1 hx]; exact hr1
  have hbb : (rows.length + 1) * bytes ≤ 140737488355328 := Nat.le_trans (Nat.mul_le_mul h63 hb) (by omega)
  have hml : rows.length + 1 ≤ maxLen := by simp only [maxLen]; omega
  obtain ⟨h0, ho | ⟨g, l, rfl, rfl, hm, hlen, hxl⟩⟩ := hr
  · refine app_rule h ho hs hH hp ht i1 i2 i3 i4 hz hsz hml hbb (fun S' v' w' h' ho' => k S' v' w' h' ⟨two, .inl ?_⟩)
    have e1 : (rows ++ [r]).length = rows.length + 1 := by simp
    have e2 : (rows ++ [r]).flatten = rows.flatten ++ r := by simp
    rw [e1, e2]; exact ho'
  · cases a with
    | none =>
      cases r with
      | nil => simp at hr1; omega
      | cons y r => obtain ⟨p, hp, _⟩ := hcell 0 y rfl; cases hp
    | some b =>
      subst hx
      have hf := flatten_lenS h0
      have hold : ∀ (j : Nat) u, rows.flatten[j]? = some u → w.cell? ((⟨g, 0, none⟩ : Addr).add j) = some u := fun j u hj => by
        rw [add_mk]
        refine h.cell (cell_here (l := l) (e := e) (List.mem_append_left _ (List.mem_append_right _ (.head _))) ?_)
        rw [Nat.zero_add]
        have hlt := (List.getElem?_eq_some_iff.1 hj).1
        rw [← hxl, List.getElem?_take] at hj
        split at hj
        · exact hj
        · cases hj
      have hr := run_append_grow (P := P) w t ty e i z ht i1 i2 ⟨g, 0, none⟩ rows.length rows.length rows.flatten (by rw [i3]; exact hf) hold b 1 c r (by rw [i3]; omega)
        (fun j u hj => by obtain ⟨p, hp, hcell⟩ := hcell j u hj; cases hp; exact h.cell (hcell.mono hH)) (by omega) (by simp only [maxLen] at hml; omega) (growslice_fits (by omega) (by rw [i4]; exact hbb))
      refine ⟨_, _, hr, ?_⟩
      have hge := grownCap_ge w (rows.length + 1) rows.length e
      have hcm : grownCap w (rows.length + 1) rows.length e ≤ maxLen := grownCap_le_maxLen w (rows.length + 1) rows.length e hml
      generalize grownCap w (rows.length + 1) rows.length e = cap' at *
      have he : rows.flatten.toArray ++ r.toArray ++ Builtin.zeroCells z.cells (cap' - (rows.length + 1)) = (rows.flatten ++ r ++ (Builtin.zeroCells z.cells (cap' - (rows.length + 1))).toList).toArray := by simp
      rw [he]
      refine k [(w.heap.size, cel (rows.flatten ++ r ++ (Builtin.zeroCells z.cells (cap' - (rows.length + 1))).toList) e)] _ _ ?_ ⟨two, .inl ?_⟩
      · have h5 := (h.drew.alloc (cel (rows.flatten ++ r ++ (Builtin.zeroCells z.cells (cap' - (rows.length + 1))).toList) e))
        have h6 : Ow B _ ((w.drew.heap.size, cel (rows.flatten ++ r ++ (Builtin.zeroCells z.cells (cap' - (rows.length + 1))).toList) e) :: (A ++ C)) := h5.sub (.cons_cons _ (by rw [List.append_assoc]; exact (List.Sublist.refl A).append (.cons _ (.refl _))))
        have h7 := h6.perm (List.perm_middle (l₁ := A) (l₂ := C)).symm
        simpa using h7
      · have e1 : (rows ++ [r]).length = rows.length + 1 := by simp
        have e2 : (rows ++ [r]).flatten = rows.flatten ++ r := by simp
        rw [e1, e2]
        refine Own.mk hge hcm ?_ ?_
        · have : (Builtin.zeroCells z.cells (cap' - (rows.length + 1))).toList.length = (cap' - (rows.length + 1)) * size := by simp [Builtin.zeroCells, hz]
          rw [List.length_append, List.length_append, this, hf, hr1, ← Nat.succ_mul, ← Nat.add_mul]
          congr 1
          omega
        · refine List.take_left' ?_
          rw [List.length_append, hf, hr1, ← Nat.succ_mul]
end
end Go.Proofs.YtkkkcafkepnecaaGreat.Vc
