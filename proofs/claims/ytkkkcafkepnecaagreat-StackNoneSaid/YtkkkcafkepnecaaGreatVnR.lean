/- From an argument's reading to what the walks hold of memory, and back to a row's end. -/
import Derived.Test.YtkkkcafkepnecaaGreatVcO
import Derived.OpenShut
import Derived.ShutString
import Derived.ChangeOld
import Derived.Carry
import Derived.Deep.Slices
set_option linter.unusedVariables false
set_option linter.unusedSimpArgs false
namespace Go.Proofs.YtkkkcafkepnecaaGreat.Vc
open Go Go.RowKit Go.ChangeShapes Go.WideShapes

/-- All blocks of a world. -/
def blocks (W : World) : Hp := (List.range W.heap.size).map fun b => (b, W.heap.getD b (.cells #[] 0))
theorem mem_blocks {W : World} {b : Nat} {o : Obj} : (b, o) ∈ blocks W ↔ W.heap[b]? = some o := by
  simp only [blocks, List.mem_map, List.mem_range, Prod.mk.injEq]
  constructor
  · rintro ⟨a, ha, rfl, rfl⟩
    simp [ha]
  · intro h
    obtain ⟨hb, he⟩ := Array.getElem?_eq_some_iff.1 h
    exact ⟨b, hb, rfl, by simp [hb, he]⟩
theorem ow_blocks (W : World) : Ow W W (blocks W) where
  os := rfl
  tape := rfl
  output := rfl
  mem := fun b o h => mem_blocks.1 h
  nd := by
    have : (blocks W).map Prod.fst = List.range W.heap.size := by
      simp only [blocks, List.map_map]
      exact List.map_id _
    rw [this]; exact List.nodup_range
theorem below_of {W W' : World} (h : Ow W W' (blocks W)) : Below W.heap.size W W' where
  os := h.os
  tape := h.tape
  output := h.output
  size := by
    by_cases h0 : W.heap.size = 0
    · omega
    · have := h.lt (b := W.heap.size - 1) (mem_blocks.2 (by rw [Array.getElem?_eq_getElem (by omega)]))
      omega
  block := fun k hk => by
    rw [h.mem k W.heap[k] (mem_blocks.2 (by simp [hk]))]
    simp [hk]
theorem cell_blocks {W : World} {p : Addr} {v : Value} (h : W.cell? p = some v) : Cell (blocks W) p v := by
  unfold World.cell? at h
  split at h
  · rename_i c e fz hb
    split at h
    · cases h
    · rename_i hs
      exact ⟨c, e, fz, mem_blocks.2 hb, by simpa using hs, h⟩
  · cases h

/-! ### What lies at a type -/
inductive Fit (P : Program) (H : Hp) : TypeId → List Value → Prop
  | int {t : TypeId} {k : IntKind} {n : Int} : P.underlying t = some (.int k) → (Lit.int k n).wf = true → Fit P H t [.int k n]
  | bool {t : TypeId} {b : Bool} : P.underlying t = some .bool → Fit P H t [.bool b]
  | str {t : TypeId} {s : ByteArray} : P.underlying t = some .string → s.size ≤ maxLen → Fit P H t [.string s]
  | nil {t e : TypeId} : P.underlying t = some (.slice e) → Fit P H t [.slice none 0 0]
  | slice {t e : TypeId} {a : Addr} {len cap : Nat} (g : Nat → List Value) : P.underlying t = some (.slice e) → len ≤ cap → cap ≤ maxLen → (∀ i, i < len → (g i).length = P.cellsOf e) →
      (∀ i, i < len → ∀ j x, (g i)[j]? = some x → Cell H (a.add (i * P.cellsOf e + j)) x) → (∀ i, i < len → Fit P H e (g i)) → Fit P H t [.slice (some a) len cap]
  | struct {t : TypeId} {fs : Array Field} {cs : List Value} : P.underlying t = some (.struct fs) → cs.length = P.cellsOf t →
      (∀ (i : Nat) (f : Field), fs[i]? = some f → Fit P H f.type ((cs.drop f.offset).take (P.cellsOf f.type))) → Fit P H t cs
  | array {t e : TypeId} {n : Nat} {cs : List Value} : P.underlying t = some (.array n e) → cs.length = P.cellsOf t →
      (∀ i, i < n → Fit P H e ((cs.drop (i * P.cellsOf e)).take (P.cellsOf e))) → Fit P H t cs
def dataB (P : Program) : Nat → TypeId → Bool
  | 0, _ => false
  | n + 1, t => match P.underlying t with
    | some (.int _) => true
    | some .bool => true
    | some .string => true
    | some (.slice e) => dataB P n e
    | some (.struct fs) => fs.toList.all fun f => dataB P n f.type
    | some (.array _ e) => dataB P n e
    | _ => false

section
variable {H : Type} {enc : TypeId × Value → H} {P : Program} {w : World} {spare : Nat → Bool} {held : Bool}
theorem fit_of : ∀ (m fuel : Nat) (t : TypeId) (cs : List Value) (x : DataW H × List MemPlace), dataB P m t = true → DataW.trod enc P w 0 spare held fuel t cs = some x → Fit P (blocks w) t cs
  | 0, _, _, _, _, h, _ => by cases h
  | m + 1, fuel, t, cs, x, h, hx => by
    unfold dataB at h
    split at h
    · rename_i k ht
      obtain ⟨n, rfl, _, hw⟩ := DataW.trod_int ht hx
      exact .int ht hw
    · rename_i ht
      obtain ⟨b, rfl, _⟩ := DataW.trod_bool ht hx
      exact .bool ht
    · rename_i ht
      obtain ⟨s, rfl, _, hs⟩ := DataW.trod_string ht hx
      exact .str ht hs
    · rename_i e ht
      rcases DataW.trod_slice ht hx with ⟨rfl, _⟩ | ⟨a, len, cap, elems, rest, n, _, rfl, rfl, hb, hl, hm, hlen, hel, hsp, hns⟩
      · exact .nil ht
      · have each : ∀ i, i < len → ∃ cs', w.cells? 0 (a.add (i * P.cellsOf e)) (P.cellsOf e) = some cs' ∧ ∃ y, DataW.trod enc P w 0 spare held n e cs' = some y := by
          intro i hi
          have h1 := hel i hi
          rw [List.getElem?_eq_getElem (by omega)] at h1
          obtain ⟨cs', h2, h3⟩ := Option.bind_eq_some_iff.1 h1
          exact ⟨cs', h2, _, h3⟩
        obtain ⟨g, hg⟩ := Go.Deep.choose_lt each
        refine .slice g ht hl hm (fun i hi => ((World.cells?_some (hg i hi).1).2.1)) (fun i hi j v hj => ?_) (fun i hi => ?_)
        · have := (World.cells?_some (hg i hi).1).2.2 j (by have := (World.cells?_some (hg i hi).1).2.1; have := (List.getElem?_eq_some_iff.1 hj).1; omega)
          rw [Go.Deep.add_add] at this
          rw [hj] at this
          exact cell_blocks this
        · obtain ⟨y, hy⟩ := (hg i hi).2
          exact fit_of m _ _ _ _ h hy
    · rename_i fs ht
      obtain ⟨xs, n, _, _, hl, hxl, hf⟩ := DataW.trod_struct ht hx
      refine .struct ht hl fun i f hif => ?_
      have h1 := hf i f hif
      have hi : i < fs.size := (Array.getElem?_eq_some_iff.1 hif).1
      rw [List.getElem?_eq_getElem (by omega)] at h1
      refine fit_of m _ _ _ _ (List.all_eq_true.1 h f ?_) h1
      obtain ⟨_, rfl⟩ := Array.getElem?_eq_some_iff.1 hif
      simp
    · rename_i n e ht
      obtain ⟨xs, q, _, _, hl, hxl, hf⟩ := DataW.trod_array ht hx
      refine .array ht hl fun i hi => ?_
      have h1 := hf i hi
      rw [List.getElem?_eq_getElem (by omega)] at h1
      exact fit_of m _ _ _ _ h h1
    · cases h
/-- An argument: outer form and inner one. -/
def FitV (P : Program) (H : Hp) (t : TypeId) (v : Value) : Prop := Fit P H t v.cells.toList ∧ match P.underlying t with
  | some (.struct _) | some (.array _ _) => ∃ cs : List Value, v = .agg cs.toArray
  | _ => plainV v = true
theorem fitV_of {t : TypeId} {v : Value} {d : DataW H} {ps : List MemPlace} {b0 : Nat} (m : Nat) (hd : dataB P m t = true) (hv : Value.okWide P w .any b0 t v) (h : DataW.Trod enc P w 0 spare held t v d ps) : FitV P (blocks w) t v := by
  obtain ⟨fuel, h⟩ := h
  refine ⟨fit_of m _ _ _ _ hd h, ?_⟩
  split
  · rename_i fs ht
    simp only [Value.okWide, ht] at hv
    obtain ⟨cs, rfl, _⟩ := hv
    exact ⟨cs.toList, by simp⟩
  · rename_i n e ht
    simp only [Value.okWide, ht] at hv
    obtain ⟨cs, rfl, _⟩ := hv
    exact ⟨cs.toList, by simp⟩
  · rename_i hns hna
    cases m with
    | zero => cases hd
    | succ m =>
    unfold dataB at hd
    split at hd
    · rename_i k ht; obtain ⟨n, rfl⟩ := okWide_int ht hv; rfl
    · rename_i ht; obtain ⟨n, rfl⟩ := okWide_bool ht hv; rfl
    · rename_i ht; obtain ⟨n, rfl⟩ := okWide_string ht hv; rfl
    · rename_i e ht; obtain ⟨a, l, c, rfl⟩ := okWide_slice ht hv; rfl
    · rename_i fs ht; exact absurd ht (hns _)
    · rename_i n e ht; exact absurd ht (hna _ _)
    · cases hd
end

section
variable {P : Program} {H : Hp} {t : TypeId} {v : Value}
theorem plain_cells {v : Value} (h : plainV v = true) : v.cells = #[v] := by cases v <;> first | rfl | cases h
theorem Fit.of_int {k : IntKind} {cs : List Value} (ht : P.underlying t = some (.int k)) (h : Fit P H t cs) : ∃ n, cs = [.int k n] ∧ (Lit.int k n).wf = true := by
  cases h <;> simp_all
theorem Fit.of_bool {cs : List Value} (ht : P.underlying t = some .bool) (h : Fit P H t cs) : ∃ b, cs = [.bool b] := by
  cases h <;> simp_all
theorem Fit.of_str {cs : List Value} (ht : P.underlying t = some .string) (h : Fit P H t cs) : ∃ s, cs = [.string s] ∧ s.size ≤ maxLen := by
  cases h <;> simp_all
theorem Fit.of_struct {fs : Array Field} {cs : List Value} (ht : P.underlying t = some (.struct fs)) (h : Fit P H t cs) : cs.length = P.cellsOf t ∧ ∀ (i : Nat) (f : Field), fs[i]? = some f → Fit P H f.type ((cs.drop f.offset).take (P.cellsOf f.type)) := by
  cases h with
  | struct h1 h2 h3 => rw [ht] at h1; cases h1; exact ⟨h2, h3⟩
  | _ => simp_all
theorem Fit.of_array {n : Nat} {e : TypeId} {cs : List Value} (ht : P.underlying t = some (.array n e)) (h : Fit P H t cs) : cs.length = P.cellsOf t ∧ ∀ i, i < n → Fit P H e ((cs.drop (i * P.cellsOf e)).take (P.cellsOf e)) := by
  cases h with
  | array h1 h2 h3 => rw [ht] at h1; cases h1; exact ⟨h2, h3⟩
  | _ => simp_all
/-- A slice that is read, of elements of some cells. -/
def Sls (H : Hp) (v : Value) (size : Nat) (xs : List (List Value)) : Prop :=
  ∃ a cap, v = .slice a xs.length cap ∧ xs.length ≤ cap ∧ cap ≤ maxLen ∧ (∀ x ∈ xs, x.length = size) ∧ ∀ i x, xs[i]? = some x → ∃ p, a = some p ∧ ∀ j y, x[j]? = some y → Cell H (p.add (i * size + j)) y
theorem Fit.of_slice {e : TypeId} {cs : List Value} (ht : P.underlying t = some (.slice e)) (h : Fit P H t cs) : ∃ v xs, cs = [v] ∧ Sls H v (P.cellsOf e) xs ∧ (∀ x ∈ xs, Fit P H e x) := by
  cases h with
  | nil h1 => exact ⟨_, [], rfl, ⟨none, 0, rfl, Nat.zero_le _, Nat.zero_le _, by simp, by simp⟩, by simp⟩
  | @slice _ e' a len cap g h1 h2 h3 h4 h5 h6 =>
    rw [ht] at h1; cases h1
    refine ⟨_, (List.range len).map g, rfl, ⟨some a, cap, by simp, by simpa using h2, h3, ?_, fun i x hx => ⟨a, rfl, ?_⟩⟩, ?_⟩
    · intro x hx
      obtain ⟨i, hi, rfl⟩ := List.mem_map.1 hx
      exact h4 i (List.mem_range.1 hi)
    · simp only [List.getElem?_map, Option.map_eq_some_iff] at hx
      obtain ⟨i', hi', rfl⟩ := hx
      obtain ⟨hlt, rfl⟩ := List.getElem?_eq_some_iff.1 hi'
      simp only [List.length_range] at hlt
      simpa using h5 i hlt
    · intro x hx
      obtain ⟨i, hi, rfl⟩ := List.mem_map.1 hx
      exact h6 i (List.mem_range.1 hi)
  | _ h1 => rw [ht] at h1; cases h1
theorem FitV.cells1 {x : Value} (hp : plainV v = true) (h : v.cells.toList = [x]) : v = x := by
  rw [plain_cells hp] at h; simpa using h
theorem FitV.int {k : IntKind} (ht : P.underlying t = some (.int k)) (h : FitV P H t v) : ∃ n, v = .int k n ∧ (Lit.int k n).wf = true := by
  obtain ⟨h1, h2⟩ := h
  rw [ht] at h2
  obtain ⟨n, hc, hw⟩ := h1.of_int ht
  exact ⟨n, FitV.cells1 h2 hc, hw⟩
theorem FitV.bool (ht : P.underlying t = some .bool) (h : FitV P H t v) : ∃ b, v = .bool b := by
  obtain ⟨h1, h2⟩ := h
  rw [ht] at h2
  obtain ⟨n, hc⟩ := h1.of_bool ht
  exact ⟨n, FitV.cells1 h2 hc⟩
theorem FitV.str (ht : P.underlying t = some .string) (h : FitV P H t v) : ∃ s, v = .string s ∧ s.size ≤ maxLen := by
  obtain ⟨h1, h2⟩ := h
  rw [ht] at h2
  obtain ⟨n, hc, hw⟩ := h1.of_str ht
  exact ⟨n, FitV.cells1 h2 hc, hw⟩
theorem FitV.slice {e : TypeId} (ht : P.underlying t = some (.slice e)) (h : FitV P H t v) : ∃ xs, Sls H v (P.cellsOf e) xs ∧ ∀ x ∈ xs, Fit P H e x := by
  obtain ⟨h1, h2⟩ := h
  rw [ht] at h2
  obtain ⟨n, xs, hc, hw⟩ := h1.of_slice ht
  cases FitV.cells1 h2 hc
  exact ⟨xs, hw⟩
theorem FitV.struct {fs : Array Field} (ht : P.underlying t = some (.struct fs)) (h : FitV P H t v) : ∃ cs : List Value, v = .agg cs.toArray ∧ Fit P H t cs := by
  obtain ⟨h1, h2⟩ := h
  rw [ht] at h2
  obtain ⟨cs, rfl⟩ := h2
  exact ⟨cs, rfl, by simpa [Value.cells] using h1⟩
theorem FitV.array {n : Nat} {e : TypeId} (ht : P.underlying t = some (.array n e)) (h : FitV P H t v) : ∃ cs : List Value, v = .agg cs.toArray ∧ Fit P H t cs := by
  obtain ⟨h1, h2⟩ := h
  rw [ht] at h2
  obtain ⟨cs, rfl⟩ := h2
  exact ⟨cs, rfl, by simpa [Value.cells] using h1⟩
/-- Of numbers. -/
theorem FitV.ints {e : TypeId} {k : IntKind} (ht : P.underlying t = some (.slice e)) (he : P.underlying e = some (.int k)) (hc : P.cellsOf e = 1) (h : FitV P H t v) :
    ∃ xs : List Int, Sl H v (xs.map (.int k ·)) ∧ xs.length ≤ maxLen ∧ ∀ x ∈ xs, (Lit.int k x).wf = true := by
  obtain ⟨ys, ⟨a, cap, rfl, h1, h2, h3, h4⟩, hf⟩ := h.slice ht
  have hy : ∀ y ∈ ys, ∃ n, y = [.int k n] ∧ (Lit.int k n).wf = true := fun y hy => (hf y hy).of_int he
  let nm : List Value → Int := fun y => match y with | [.int _ n] => n | _ => 0
  have e1 : ∀ y ∈ ys, y = [.int k (nm y)] ∧ (Lit.int k (nm y)).wf = true := fun y hm => by
    obtain ⟨n, rfl, hw⟩ := hy y hm
    exact ⟨rfl, hw⟩
  refine ⟨ys.map nm, ⟨a, cap, by simp, by simpa using h1, fun i x hx => ?_⟩, by simpa using Nat.le_trans h1 h2, ?_⟩
  · simp only [List.map_map, List.getElem?_map, Option.map_eq_some_iff] at hx
    obtain ⟨y, hy, rfl⟩ := hx
    obtain ⟨p, hp, hcell⟩ := h4 i y hy
    refine ⟨p, hp, ?_⟩
    have := hcell 0 (.int k (nm y)) (by rw [(e1 y (List.mem_of_getElem? hy)).1]; rfl)
    rw [hc] at this
    simpa using this
  · intro x hx
    obtain ⟨y, hy, rfl⟩ := List.mem_map.1 hx
    exact (e1 y hy).2
end

/-- A walk's end as a row wants it. -/
theorem calls_of {P : Program} {f : FuncId} {args : List Value} {W : World} {as : Array Value} (ha : as = args.toArray)
    (h : ∀ (K : Value → World → Prop) (PK : List PanicEntry → World → Prop), (∀ w', Ow W w' (blocks W) → K (.bool true) w') → callW P f args K PK W) :
    Calls P f as W fun e W' => e = .returned (.bool true) ∧ Below W.heap.size W W' := by
  subst ha
  refine Calls.mono (h (fun v w' => v = .bool true ∧ Ow W w' (blocks W)) (fun _ _ => False) fun w' h' => ⟨rfl, h'⟩) fun e w' he => ?_
  cases e with
  | returned v => obtain ⟨rfl, ho⟩ := he; exact ⟨rfl, below_of ho⟩
  | panicked ch => exact he.elim
  | outgrown => exact he.elim
end Go.Proofs.YtkkkcafkepnecaaGreat.Vc
