/- Locks: the plain law. -/
import Derived.Test.YtaifohjgamhhnaaVcT
set_option linter.unusedVariables false
set_option linter.unusedSimpArgs false
namespace Go.Proofs.Ytaifohjgamhhnaa.Vd
open Go Go.Proofs.Ytaifohjgamhhnaa.Vc

/-- A lock: its readers, and one more than its writer; 0: it has none. -/
structure Lk where
  rd : List Int
  wr : Int
deriving DecidableEq
def emp : Lk := ⟨[], 0⟩
def gk (L : List Lk) (i : Int) : Lk := L.getD i.toNat emp
def right (L : List Lk) (i y : Int) : Int := if y < 0 ∨ 65535 < y then 2 else if 0 ≤ i ∧ i < L.length then 0 else 4
def fnd (rd : List Int) (y : Int) : Nat := (rd.findIdx? (· == y)).getD 0
def rRead (L : List Lk) (i y : Int) : List Lk × Int :=
  if right L i y ≠ 0 then (L, right L i y) else if 0 < (gk L i).wr then (L, 240) else (L.set i.toNat ⟨(gk L i).rd ++ [y], (gk L i).wr⟩, 0)
def rWrite (L : List Lk) (i y : Int) : List Lk × Int :=
  if right L i y ≠ 0 then (L, right L i y) else if 0 < (gk L i).wr then (L, 240) else if (gk L i).rd ≠ [] then (L, 241) else (L.set i.toNat ⟨(gk L i).rd, y + 1⟩, 0)
def rUnread (L : List Lk) (i y : Int) : List Lk × Int × Int :=
  if right L i y ≠ 0 then (L, 0, right L i y) else if (gk L i).rd = [] then (L, 0, 242)
  else (L.set i.toNat ⟨(gk L i).rd.eraseIdx (fnd (gk L i).rd y), (gk L i).wr⟩, (gk L i).rd.getD (fnd (gk L i).rd y) 0, 0)
def rUnwrite (L : List Lk) (i : Int) : List Lk × Int × Int :=
  if right L i 0 ≠ 0 then (L, 0, right L i 0) else if (gk L i).wr = 0 then (L, 0, 242) else (L.set i.toNat ⟨(gk L i).rd, 0⟩, (gk L i).wr - 1, 0)
structure Wf (m : Nat) (L : List Lk) : Prop where
  len : L.length ≤ 64
  ks : ∀ k ∈ L, 0 ≤ k.wr ∧ k.wr ≤ 65536 ∧ k.rd.length ≤ m
theorem right_ok {L : List Lk} {i y : Int} (h : right L i y = 0) : 0 ≤ y ∧ y ≤ 65535 ∧ 0 ≤ i ∧ i < L.length := by
  unfold right at h
  split at h
  · cases h
  · split at h
    · omega
    · cases h
theorem lk_mem {L : List Lk} {i : Int} (h0 : 0 ≤ i) (h1 : i < L.length) : gk L i ∈ L := by
  have hlt : i.toNat < L.length := by omega
  have e : gk L i = L[i.toNat] := by simp [gk, List.getD, hlt]
  rw [e]; exact List.getElem_mem _
theorem lk_some {L : List Lk} {i : Int} (h0 : 0 ≤ i) (h1 : i < L.length) : L[i.toNat]? = some (gk L i) := by
  have hlt : i.toNat < L.length := by omega
  simp [gk, List.getD, hlt]
theorem Wf.mono {m n : Nat} {L : List Lk} (h : Wf m L) (hm : m ≤ n) : Wf n L := ⟨h.len, fun k hk => by have := h.ks k hk; omega⟩
theorem Wf.set {m : Nat} {L : List Lk} (h : Wf m L) (i : Nat) {k : Lk} (hk : 0 ≤ k.wr ∧ k.wr ≤ 65536 ∧ k.rd.length ≤ m) : Wf m (L.set i k) :=
  ⟨by rw [List.length_set]; exact h.len, fun x hx => by
    rcases List.mem_or_eq_of_mem_set hx with hx | rfl
    · exact h.ks x hx
    · exact hk⟩
theorem rRead_wf {m : Nat} {L : List Lk} (h : Wf m L) (i y : Int) : Wf (m + 1) (rRead L i y).1 := by
  unfold rRead
  split
  · exact h.mono (by omega)
  · rename_i hr
    obtain ⟨h0, h1, h2, h3⟩ := right_ok (Decidable.not_not.1 hr)
    have := h.ks _ (lk_mem h2 h3)
    split
    · exact h.mono (by omega)
    · exact (h.mono (by omega)).set _ ⟨this.1, this.2.1, by simp; omega⟩
theorem rWrite_wf {m : Nat} {L : List Lk} (h : Wf m L) (i y : Int) : Wf m (rWrite L i y).1 := by
  unfold rWrite
  split
  · exact h
  · rename_i hr
    obtain ⟨h0, h1, h2, h3⟩ := right_ok (Decidable.not_not.1 hr)
    have := h.ks _ (lk_mem h2 h3)
    split
    · exact h
    · split
      · exact h
      · exact h.set _ ⟨by show 0 ≤ y + 1; omega, by show y + 1 ≤ 65536; omega, this.2.2⟩
theorem rUnread_wf {m : Nat} {L : List Lk} (h : Wf m L) (i y : Int) : Wf m (rUnread L i y).1 := by
  unfold rUnread
  split
  · exact h
  · rename_i hr
    obtain ⟨h0, h1, h2, h3⟩ := right_ok (Decidable.not_not.1 hr)
    have := h.ks _ (lk_mem h2 h3)
    split
    · exact h
    · refine h.set _ ⟨this.1, this.2.1, ?_⟩
      have := List.length_eraseIdx_le (gk L i).rd (fnd (gk L i).rd y)
      show ((gk L i).rd.eraseIdx _).length ≤ m
      omega
theorem rUnwrite_wf {m : Nat} {L : List Lk} (h : Wf m L) (i : Int) : Wf m (rUnwrite L i).1 := by
  unfold rUnwrite
  split
  · exact h
  · rename_i hr
    obtain ⟨h0, h1, h2, h3⟩ := right_ok (Decidable.not_not.1 hr)
    have := h.ks _ (lk_mem h2 h3)
    split
    · exact h
    · exact h.set _ ⟨by show (0 : Int) ≤ 0; omega, by show (0 : Int) ≤ 65536; omega, this.2.2⟩
theorem fnd_lt {rd : List Int} (h : rd ≠ []) (y : Int) : fnd rd y < rd.length := by
  unfold fnd
  have hp : 0 < rd.length := List.length_pos_iff.2 h
  cases hf : rd.findIdx? (· == y) with
  | none => exact hp
  | some i => exact (List.findIdx?_eq_some_iff_getElem.1 hf).1
theorem erase_eq (rd : List Int) (n : Nat) : rd.take n ++ rd.drop (n + 1) = rd.eraseIdx n := by rw [List.eraseIdx_eq_take_drop_succ]
end Go.Proofs.Ytaifohjgamhhnaa.Vd
