/- Vectors: the plain law. -/
import Derived.Test.YtobanjfpoeinhaaVcT
set_option linter.unusedVariables false
set_option linter.unusedSimpArgs false
namespace Go.Proofs.Ytobanjfpoeinhaa.Vx
open Go Go.Proofs.Ytobanjfpoeinhaa.Vc

abbrev qv (l : List Nat) : List Value := l.map v64
def Qd (l : List Nat) : Prop := ∀ x ∈ l, x < 18446744073709551616
def gt (l : List Nat) (i : Nat) : Nat := l.getD i 0
def gi (l : List Nat) (i : Int) : Nat := if i < 0 then 0 else gt l i.toNat
theorem gt_lt {l : List Nat} (h : Qd l) (i : Nat) : gt l i < 18446744073709551616 := by
  unfold gt
  by_cases hi : i < l.length
  · rw [List.getD_eq_getElem?_getD, List.getElem?_eq_getElem hi]; exact h _ (List.getElem_mem hi)
  · rw [List.getD_eq_getElem?_getD, List.getElem?_eq_none (by omega)]; decide
theorem gt_some {l : List Nat} {i : Nat} (h : i < l.length) : l[i]? = some (gt l i) := by simp [gt, List.getD, h]
theorem gt_none {l : List Nat} {i : Nat} (h : l.length ≤ i) : gt l i = 0 := by
  unfold gt
  rw [List.getD_eq_getElem?_getD, List.getElem?_eq_none h]; rfl
theorem qv_at {l : List Nat} {i : Nat} (h : i < l.length) : (qv l)[i]? = some (v64 (gt l i)) := by
  rw [List.getElem?_map, gt_some h]; rfl
theorem ext_gt {a b : List Nat} (hl : a.length = b.length) (h : ∀ i, i < a.length → gt a i = gt b i) : a = b := by
  refine List.ext_getElem? fun i => ?_
  by_cases hi : i < a.length
  · rw [gt_some hi, gt_some (by omega), h i hi]
  · rw [List.getElem?_eq_none (by omega), List.getElem?_eq_none (by omega)]
/-- Without its last zeros. -/
def trim : List Nat → List Nat
  | [] => []
  | x :: l => match trim l with
    | [] => if x = 0 then [] else [x]
    | y :: t => x :: y :: t
theorem trim_zero : ∀ {l : List Nat}, (∀ i, i < l.length → gt l i = 0) → trim l = []
  | [], _ => rfl
  | x :: l, h => by
    have h1 : trim l = [] := trim_zero fun i hi => h (i + 1) (by simp; omega)
    have h2 : x = 0 := h 0 (by simp)
    simp [trim, h1, h2]
theorem trim_of : ∀ {l : List Nat} {n : Nat}, n ≤ l.length → (∀ i, n ≤ i → i < l.length → gt l i = 0) → (n = 0 ∨ gt l (n - 1) ≠ 0) → l.take n = trim l
  | l, 0, _, hz, _ => by rw [trim_zero fun i hi => hz i (Nat.zero_le _) hi]; rfl
  | [], n + 1, h, _, _ => by simp at h
  | x :: l, n + 1, h, hz, hn => by
    simp only [List.length_cons] at h
    have hz' : ∀ i, n ≤ i → i < l.length → gt l i = 0 := fun i h1 h2 => hz (i + 1) (by omega) (by simp; omega)
    rcases Nat.eq_zero_or_pos n with rfl | hp
    · have h1 : trim l = [] := trim_zero fun i hi => hz' i (Nat.zero_le _) hi
      have h2 : x ≠ 0 := by
        rcases hn with hn | hn
        · omega
        · exact hn
      simp [trim, h1, h2]
    · have hn' : n = 0 ∨ gt l (n - 1) ≠ 0 := .inr (by
        rcases hn with hn | hn
        · omega
        · obtain ⟨m, rfl⟩ : ∃ m, n = m + 1 := ⟨n - 1, by omega⟩
          exact hn)
      have ih := trim_of (l := l) (n := n) (by omega) hz' hn'
      rw [List.take_succ_cons, ih]
      have hne : trim l ≠ [] := by
        rw [← ih]
        intro he
        have h3 : (l.take n).length = n := by rw [List.length_take]; omega
        rw [he] at h3
        simp only [List.length_nil] at h3
        omega
      cases ht : trim l with
      | nil => exact absurd ht hne
      | cons y t => simp [trim, ht]
theorem trim_gt : ∀ (l : List Nat) (i : Nat), gt (trim l) i = gt l i
  | [], _ => rfl
  | x :: l, i => by
    have ih := trim_gt l
    cases ht : trim l with
    | nil =>
      rw [ht] at ih
      by_cases hx : x = 0
      · have e : trim (x :: l) = [] := by simp [trim, ht, hx]
        rw [e]
        cases i with
        | zero => subst hx; rfl
        | succ i => exact ih i
      · have e : trim (x :: l) = [x] := by simp [trim, ht, hx]
        rw [e]
        cases i with
        | zero => rfl
        | succ i => exact ih i
    | cons y t =>
      have e : trim (x :: l) = x :: y :: t := by simp [trim, ht]
      rw [e]
      rw [ht] at ih
      cases i with
      | zero => rfl
      | succ i => exact ih i
theorem trim_len : ∀ (l : List Nat), (trim l).length ≤ l.length
  | [] => Nat.le_refl _
  | x :: l => by
    have := trim_len l
    cases ht : trim l with
    | nil => by_cases hx : x = 0 <;> simp [trim, ht, hx]
    | cons y t =>
      rw [ht] at this
      simp [trim, ht] at this ⊢
      omega
theorem trim_qd {l : List Nat} (h : Qd l) : Qd (trim l) := fun x hx => by
  obtain ⟨i, hi, rfl⟩ := List.getElem_of_mem hx
  have h1 := trim_gt l i
  have h2 := gt_some hi
  rw [List.getElem?_eq_getElem hi] at h2
  rw [Option.some.inj h2, h1]
  exact gt_lt h i
def right (l : List Nat) : Bool := l.all (fun x => decide (x ≤ 281474976710655)) && decide (l.length ≤ 65536)
def pack (id : Int) (c : Nat) : Nat × Nat := if 0 ≤ id ∧ id ≤ 65535 ∧ c ≤ 281474976710655 then (id.toNat * 281474976710656 + c, 0) else (0, 2)
def next (e fin : Nat) : Nat × Nat := if 1 ≤ fin ∧ fin ≤ 281474976710655 then (if e % 281474976710656 ≥ fin then (0, 130) else (e + 1, 0)) else (0, 2)
def epo (l : List Nat) (id : Int) : Nat × Nat := if right l = true then pack id (gi l id) else (0, 2)
def has (l : List Nat) (e : Nat) : Bool := decide (e % 281474976710656 ≤ gt l (e / 281474976710656))
def upTo (a b : List Nat) : Bool := decide (∀ i, i < a.length → gt a i ≤ gt b i)
theorem upTo_iff {a b : List Nat} : upTo a b = true ↔ ∀ i, gt a i ≤ gt b i := by
  unfold upTo
  rw [decide_eq_true_eq]
  constructor
  · intro h i
    by_cases hi : i < a.length
    · exact h i hi
    · rw [gt_none (by omega)]; omega
  · intro h i _; exact h i
def stands (a b : List Nat) : Nat := if upTo a b = true then (if upTo b a = true then 1 else 2) else (if upTo b a = true then 3 else 4)
/-- The join. -/
def jn : List Nat → List Nat → List Nat
  | [], c => c
  | x :: s, [] => x :: s
  | x :: s, y :: c => max x y :: jn s c
theorem jn_nil (s : List Nat) : jn s [] = s := by cases s <;> rfl
theorem jn_len : ∀ (s c : List Nat), (jn s c).length = max s.length c.length
  | [], c => by simp [jn]
  | x :: s, [] => by simp [jn]
  | x :: s, y :: c => by simp [jn, jn_len s c]
theorem jn_gt : ∀ (s c : List Nat) (i : Nat), gt (jn s c) i = max (gt s i) (gt c i)
  | [], c, i => by simp [jn, gt]
  | x :: s, [], i => by simp [jn, gt]
  | x :: s, y :: c, 0 => rfl
  | x :: s, y :: c, i + 1 => jn_gt s c i
theorem gt_set {l : List Nat} {i j x : Nat} (h : i < l.length) : gt (l.set i x) j = if j = i then x else gt l j := by
  unfold gt
  rw [List.getD_eq_getElem?_getD, List.getElem?_set, List.getD_eq_getElem?_getD]
  by_cases he : i = j
  · subst he; simp [h]
  · simp [he, Ne.symm he]
theorem gt_app {l : List Nat} {j : Nat} : gt (l ++ [0]) j = gt l j := by
  unfold gt
  rw [List.getD_eq_getElem?_getD, List.getD_eq_getElem?_getD]
  by_cases h : j < l.length
  · rw [List.getElem?_append_left h]
  · rw [List.getElem?_append_right (by omega), List.getElem?_eq_none (l := l) (by omega)]
    cases hj : j - l.length with
    | zero => rfl
    | succ k => rfl
theorem gt_take {l : List Nat} {n j : Nat} : gt (l.take n) j = if j < n then gt l j else 0 := by
  unfold gt
  rw [List.getD_eq_getElem?_getD, List.getD_eq_getElem?_getD, List.getElem?_take]
  split <;> rfl
/-- The list before the i-th clock is laid in. -/
def ext (t : List Nat) (i : Nat) : List Nat := if i = t.length then t ++ [0] else t
theorem jn_step {s c : List Nat} {i : Nat} (h : i < c.length) : (ext (jn s (c.take i)) i).set i (max (gt (ext (jn s (c.take i)) i) i) (gt c i)) = jn s (c.take (i + 1)) := by
  have hl : (jn s (c.take i)).length = max s.length i := by rw [jn_len, List.length_take]; omega
  have hx : (ext (jn s (c.take i)) i).length = max s.length (i + 1) := by
    unfold ext
    split
    · rw [List.length_append, hl]; simp; omega
    · rw [hl]; omega
  have hg : ∀ j, gt (ext (jn s (c.take i)) i) j = gt (jn s (c.take i)) j := fun j => by
    unfold ext
    split
    · exact gt_app
    · rfl
  refine ext_gt ?_ fun j hj => ?_
  · rw [List.length_set, hx, jn_len, List.length_take]; omega
  · rw [gt_set (by rw [hx]; omega), hg, hg, jn_gt, jn_gt, jn_gt, gt_take, gt_take, gt_take]
    by_cases he : j = i
    · subst he
      simp
    · by_cases h1 : j < i
      · simp [he, h1, show j < i + 1 by omega]
      · simp [he, h1, show ¬ j < i + 1 by omega]
theorem jn_qd {s c : List Nat} (hs : Qd s) (hc : Qd c) : Qd (jn s c) := fun x hx => by
  obtain ⟨i, hi, rfl⟩ := List.getElem_of_mem hx
  have h2 := gt_some hi
  rw [List.getElem?_eq_getElem hi] at h2
  rw [Option.some.inj h2, jn_gt]
  have := gt_lt hs i
  have := gt_lt hc i
  omega
def joins (ls : List (List Nat)) : List Nat := trim (ls.foldl jn [])
/-- Filled up to id. -/
def pad (l : List Nat) (id : Nat) : List Nat := l ++ List.replicate (id + 1 - l.length) 0
theorem pad_gt (l : List Nat) (id i : Nat) : gt (pad l id) i = gt l i := by
  unfold gt pad
  rw [List.getD_eq_getElem?_getD, List.getD_eq_getElem?_getD]
  by_cases h : i < l.length
  · rw [List.getElem?_append_left h]
  · rw [List.getElem?_append_right (by omega), List.getElem?_eq_none (l := l) (by omega), List.getElem?_replicate]
    split <;> rfl
theorem pad_len (l : List Nat) (id : Nat) : (pad l id).length = max l.length (id + 1) := by simp [pad]; omega
def tick (l : List Nat) (id : Int) (fin : Nat) : List Nat × Nat :=
  if (epo l id).2 ≠ 0 then ([], (epo l id).2) else if (next (epo l id).1 fin).2 ≠ 0 then ([], (next (epo l id).1 fin).2) else (trim ((pad l id.toNat).set id.toNat ((next (epo l id).1 fin).1 % 281474976710656)), 0)
def equalL (a b : List Nat) : Bool := decide (a.length = b.length) && (upTo a b && upTo b a)
theorem equal_iff {a b : List Nat} : equalL a b = true ↔ a = b := by
  unfold equalL
  simp only [Bool.and_eq_true, decide_eq_true_eq, upTo_iff]
  constructor
  · rintro ⟨h1, h2, h3⟩
    exact ext_gt h1 fun i _ => Nat.le_antisymm (h2 i) (h3 i)
  · rintro rfl; exact ⟨rfl, fun _ => Nat.le_refl _, fun _ => Nat.le_refl _⟩
end Go.Proofs.Ytobanjfpoeinhaa.Vx
