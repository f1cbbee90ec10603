/- What is handed in, and how large it is at most. -/
import Derived.Test.YtkkkcafkepnecaaGreatVnR
import Derived.Test.YtkkkcafkepnecaaGreatVnS
import Derived.SizedLaws
set_option linter.unusedVariables false
set_option linter.unusedSimpArgs false
namespace Go.Proofs.YtkkkcafkepnecaaGreat.Vc
open Go Go.RowKit

/-- As Fit; and no slice is larger than what may be reached. -/
inductive FitZ (P : Program) (H : Hp) : TypeId → List Value → Prop
  | int {t : TypeId} {k : IntKind} {n : Int} : P.underlying t = some (.int k) → (Lit.int k n).wf = true → FitZ P H t [.int k n]
  | bool {t : TypeId} {b : Bool} : P.underlying t = some .bool → FitZ P H t [.bool b]
  | str {t : TypeId} {s : ByteArray} : P.underlying t = some .string → s.size ≤ maxLen → FitZ P H t [.string s]
  | nil {t e : TypeId} : P.underlying t = some (.slice e) → FitZ P H t [.slice none 0 0]
  | slice {t e : TypeId} {a : Addr} {len cap : Nat} (g : Nat → List Value) : P.underlying t = some (.slice e) → len ≤ cap → cap ≤ maxLen → len * P.bytesOf e ≤ reachBytes → (∀ i, i < len → (g i).length = P.cellsOf e) →
      (∀ i, i < len → ∀ j x, (g i)[j]? = some x → Cell H (a.add (i * P.cellsOf e + j)) x) → (∀ i, i < len → FitZ P H e (g i)) → FitZ P H t [.slice (some a) len cap]
  | struct {t : TypeId} {fs : Array Field} {cs : List Value} : P.underlying t = some (.struct fs) → cs.length = P.cellsOf t →
      (∀ (i : Nat) (f : Field), fs[i]? = some f → FitZ P H f.type ((cs.drop f.offset).take (P.cellsOf f.type))) → FitZ P H t cs
  | array {t e : TypeId} {n : Nat} {cs : List Value} : P.underlying t = some (.array n e) → cs.length = P.cellsOf t →
      (∀ i, i < n → FitZ P H e ((cs.drop (i * P.cellsOf e)).take (P.cellsOf e))) → FitZ P H t cs
theorem FitZ.fit {P : Program} {H : Hp} {t : TypeId} {cs : List Value} (h : FitZ P H t cs) : Fit P H t cs := by
  induction h with
  | int h1 h2 => exact .int h1 h2
  | bool h1 => exact .bool h1
  | str h1 h2 => exact .str h1 h2
  | nil h1 => exact .nil h1
  | slice g h1 h2 h3 h4 h5 h6 h7 ih => exact .slice g h1 h2 h3 h5 h6 ih
  | struct h1 h2 h3 ih => exact .struct h1 h2 ih
  | array h1 h2 h3 ih => exact .array h1 h2 ih
section
variable {H : Type} {enc : TypeId × Value → H} {P : Program} {w : World} {spare : Nat → Bool} {held : Bool}
theorem weightsAll_mem {e : TypeId} : ∀ {l : List (DataW H)} {d : DataW H}, d ∈ l → ∀ n ∈ d.weights P e, n ∈ DataW.weightsAll P e l
  | x :: l, d, hd, n, hn => by
    simp only [DataW.weightsAll, List.mem_append]
    rcases List.mem_cons.1 hd with rfl | hd
    · exact .inl hn
    · exact .inr (weightsAll_mem hd n hn)
theorem fitZ_of : ∀ (m fuel : Nat) (t : TypeId) (cs : List Value) (x : DataW H × List MemPlace), dataB P m t = true → DataW.trod enc P w 0 spare held fuel t cs = some x → (∀ n ∈ x.1.weights P t, n ≤ reachBytes) → FitZ P (blocks w) t cs
  | 0, _, _, _, _, h, _, _ => by cases h
  | m + 1, fuel, t, cs, x, h, hx, hz => by
    unfold dataB at h
    split at h
    · rename_i k ht
      obtain ⟨n, rfl, _, hw⟩ := DataW.trod_int ht hx
      exact .int ht hw
    · rename_i ht
      obtain ⟨b, rfl, _⟩ := DataW.trod_bool ht hx
      exact .bool ht
    · rename_i ht
      obtain ⟨s, rfl, _, hs⟩ := DataW.trod_string ht hx
      exact .str ht hs
    · rename_i e ht
      rcases DataW.trod_slice ht hx with ⟨rfl, _⟩ | ⟨a, len, cap, elems, rest, n, _, rfl, rfl, hb, hl, hm, hlen, hel, hsp, hns⟩
      · exact .nil ht
      · have hwt : ∀ n ∈ ((elems.map (·.1)).length + (rest.map (·.1)).length) * P.bytesOf e :: (DataW.weightsAll P e (elems.map (·.1)) ++ DataW.weightsAll P e (rest.map (·.1))), n ≤ reachBytes := by
          intro n hn
          refine hz n ?_
          simp only [DataW.weights, ht]
          exact hn
        have each : ∀ i, i < len → ∃ cs', w.cells? 0 (a.add (i * P.cellsOf e)) (P.cellsOf e) = some cs' ∧ ∃ y, DataW.trod enc P w 0 spare held n e cs' = some y ∧ ∀ n ∈ y.1.weights P e, n ≤ reachBytes := by
          intro i hi
          have h1 := hel i hi
          rw [List.getElem?_eq_getElem (by omega)] at h1
          obtain ⟨cs', h2, h3⟩ := Option.bind_eq_some_iff.1 h1
          refine ⟨cs', h2, _, h3, fun n hn => hwt n (List.mem_cons_of_mem _ (List.mem_append_left _ (weightsAll_mem (List.mem_map_of_mem (List.getElem_mem _)) n hn)))⟩
        obtain ⟨g, hg⟩ := Go.Deep.choose_lt each
        refine .slice g ht hl hm ?_ (fun i hi => ((World.cells?_some (hg i hi).1).2.1)) (fun i hi j v hj => ?_) (fun i hi => ?_)
        · have := hwt _ List.mem_cons_self
          simp only [List.length_map] at this
          refine Nat.le_trans (Nat.mul_le_mul_right _ ?_) this
          omega
        · have := (World.cells?_some (hg i hi).1).2.2 j (by have := (World.cells?_some (hg i hi).1).2.1; have := (List.getElem?_eq_some_iff.1 hj).1; omega)
          rw [Go.Deep.add_add] at this
          rw [hj] at this
          exact cell_blocks this
        · obtain ⟨y, hy, hyz⟩ := (hg i hi).2
          exact fitZ_of m _ _ _ _ h hy hyz
    · rename_i fs ht
      obtain ⟨xs, n, _, rfl, hl, hxl, hf⟩ := DataW.trod_struct ht hx
      refine .struct ht hl fun i f hif => ?_
      have h1 := hf i f hif
      have hi : i < fs.size := (Array.getElem?_eq_some_iff.1 hif).1
      rw [List.getElem?_eq_getElem (by omega)] at h1
      refine fitZ_of m _ _ _ _ (List.all_eq_true.1 h f ?_) h1 fun n hn => hz n ?_
      · obtain ⟨_, rfl⟩ := Array.getElem?_eq_some_iff.1 hif
        simp
      · simp only [DataW.weights, ht]
        refine DataW.weights_mem_each (j := i) ?_ ?_ n hn
        · rw [List.getElem?_map, Array.getElem?_toList, hif]; rfl
        · rw [List.getElem?_map, List.getElem?_eq_getElem (by omega)]; rfl
    · rename_i n e ht
      obtain ⟨xs, q, _, rfl, hl, hxl, hf⟩ := DataW.trod_array ht hx
      refine .array ht hl fun i hi => ?_
      have h1 := hf i hi
      rw [List.getElem?_eq_getElem (by omega)] at h1
      refine fitZ_of m _ _ _ _ h h1 fun n hn => hz n ?_
      simp only [DataW.weights, ht]
      exact weightsAll_mem (List.mem_map_of_mem (List.getElem_mem _)) n hn
    · cases h
/-- An argument, sized. -/
def FitZV (P : Program) (H : Hp) (t : TypeId) (v : Value) : Prop := FitZ P H t v.cells.toList ∧ FitV P H t v
theorem fitZV_of {t : TypeId} {v : Value} {d : DataW H} {ps : List MemPlace} {b0 : Nat} (m : Nat) (hd : dataB P m t = true) (hv : Value.okWide P w .any b0 t v) (h : DataW.Trod enc P w 0 spare held t v d ps) (hz : ∀ n ∈ d.weights P t, n ≤ reachBytes) : FitZV P (blocks w) t v := by
  refine ⟨?_, fitV_of m hd hv h⟩
  obtain ⟨fuel, h⟩ := h
  exact fitZ_of m _ _ _ _ hd h hz
theorem weights_arg {ts us : List TypeId} {ds gs : List (DataW H)} (h : (DataW.weightsEach P (ts ++ us) (ds ++ gs)).all (· ≤ reachBytes) = true) (hl : ts.length = ds.length) {j : Nat} {t : TypeId} {d : DataW H} (ht : ts[j]? = some t) (hd : ds[j]? = some d) : ∀ n ∈ d.weights P t, n ≤ reachBytes := fun n hn => by
  have h1 := (List.getElem?_eq_some_iff.1 ht).1
  have := List.all_eq_true.1 h n (DataW.weights_mem_each (j := j) (by rw [List.getElem?_append_left h1]; exact ht) (by rw [List.getElem?_append_left (by omega)]; exact hd) n hn)
  simpa using this
end
section
variable {P : Program} {H : Hp} {t : TypeId} {cs : List Value}
theorem FitZ.of_struct {fs : Array Field} (ht : P.underlying t = some (.struct fs)) (h : FitZ P H t cs) : ∀ (i : Nat) (f : Field), fs[i]? = some f → FitZ P H f.type ((cs.drop f.offset).take (P.cellsOf f.type)) := by
  cases h with
  | struct h1 h2 h3 => rw [ht] at h1; cases h1; exact h3
  | _ => simp_all
theorem FitZ.field {i : Nat} {T : TypeId} {off n : Nat} (h : FitZ P H t cs) (he : fieldB P t i = some (T, off, n)) : FitZ P H T ((cs.drop off).take n) := by
  unfold fieldB at he
  split at he
  · rename_i fs ht
    obtain ⟨f, hf, hq⟩ := Option.map_eq_some_iff.1 he
    simp only [Prod.mk.injEq] at hq
    obtain ⟨rfl, rfl, rfl⟩ := hq
    exact h.of_struct ht i f hf
  · cases he
theorem FitZ.of_slice {e : TypeId} (ht : P.underlying t = some (.slice e)) (h : FitZ P H t cs) : ∃ v xs, cs = [v] ∧ Sls H v (P.cellsOf e) xs ∧ (∀ x ∈ xs, FitZ P H e x) ∧ xs.length * P.bytesOf e ≤ reachBytes := by
  cases h with
  | nil h1 => exact ⟨_, [], rfl, ⟨none, 0, rfl, Nat.zero_le _, Nat.zero_le _, by simp, by simp⟩, by simp, by simp⟩
  | @slice _ e' a len cap g h1 h2 h3 h4 h5 h6 h7 =>
    rw [ht] at h1; cases h1
    refine ⟨_, (List.range len).map g, rfl, ⟨some a, cap, by simp, by simpa using h2, h3, ?_, fun i x hx => ⟨a, rfl, ?_⟩⟩, ?_, by simpa using h4⟩
    · intro x hx
      obtain ⟨i, hi, rfl⟩ := List.mem_map.1 hx
      exact h5 i (List.mem_range.1 hi)
    · simp only [List.getElem?_map, Option.map_eq_some_iff] at hx
      obtain ⟨i', hi', rfl⟩ := hx
      obtain ⟨hlt, rfl⟩ := List.getElem?_eq_some_iff.1 hi'
      simp only [List.length_range] at hlt
      simpa using h6 i hlt
    · intro x hx
      obtain ⟨i, hi, rfl⟩ := List.mem_map.1 hx
      exact h7 i (List.mem_range.1 hi)
  | _ h1 => rw [ht] at h1; cases h1
end
end Go.Proofs.YtkkkcafkepnecaaGreat.Vc
