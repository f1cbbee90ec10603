/- Images: a program's bytes; what is right of a program. -/
import Derived.Test.YtkkkcafkepnecaaGreatII

set_option linter.unusedVariables false
set_option linter.unusedSimpArgs false
set_option linter.unnecessarySimpa false
namespace Go.Proofs.YtkkkcafkepnecaaGreat.Im
open Go Go.RowKit Vc Oc Dg

section
variable {p : Pr} {f : Fun} {i : Ins}
theorem site_fine {n m : Nat} (h : okP' p = true) (hf : p.fs[n]? = some f) (hi : f.code[m]? = some i) : fineI p f m i = true := by
  unfold okP' at h
  rw [Bool.and_eq_true] at h
  have h2 := h.2
  have hn := (List.getElem?_eq_some_iff.1 hf).1
  have hm := (List.getElem?_eq_some_iff.1 hi).1
  have hc : clen p.fs n = f.code.length := by unfold clen; rw [hf]
  have hmem := List.mem_of_getElem? (site_at hn (by rw [hc]; exact hm))
  have h3 : badS p = none := by
    cases hb : badS p
    · rfl
    · rw [hb] at h2; cases h2
  have h4 := List.find?_eq_none.1 h3 _ hmem
  have h5 : fineS p (n, m) = true := by
    cases hs : fineS p (n, m)
    · exact absurd (by rw [hs]; rfl) h4
    · rfl
  unfold fineS at h5
  simp only [hf, hi] at h5
  exact h5
theorem ok_ins (h : okP' p = true) (hf : f ∈ p.fs) (hi : i ∈ f.code) : okI i = true := by
  obtain ⟨n, hn⟩ := List.getElem?_of_mem hf
  obtain ⟨m, hm⟩ := List.getElem?_of_mem hi
  have := site_fine h hn hm
  unfold fineI fineL at this
  simp only [List.all_cons, List.all_nil, Bool.and_true, Bool.and_eq_true, id] at this
  unfold fitsI at this
  simp only [Bool.and_eq_true] at this
  exact this.1.1
structure Fits (p : Pr) : Prop where
  n : 1 ≤ p.fs.length ∧ p.fs.length ≤ 32
  mu : 0 ≤ p.mu ∧ p.mu ≤ 64
  rw : 0 ≤ p.rw ∧ p.rw ≤ 64
  gr : 0 ≤ p.gr ∧ p.gr ≤ 64
  f : ∀ f ∈ p.fs, (1 ≤ f.regs ∧ f.regs ≤ 16) ∧ 1 ≤ f.code.length ∧ f.code.length ≤ 512
theorem ok_fits (h : okP' p = true) : Fits p := by
  unfold okP' at h
  rw [Bool.and_eq_true] at h
  have h1 := h.1
  unfold numI at h1
  rw [List.all_eq_true] at h1
  have g : ∀ a b c : Int, (a, b, c) ∈ numL p → b ≤ a ∧ a ≤ c := fun a b c hm => by
    have := h1 _ hm
    simp only [inB, Bool.and_eq_true, decide_eq_true_eq] at this
    exact this
  have n := g p.fs.length 1 32 (by simp [numL])
  refine ⟨by omega, g p.mu 0 64 (by simp [numL]), g p.rw 0 64 (by simp [numL]), g p.gr 0 64 (by simp [numL]), fun f hf => ?_⟩
  have m1 : ((f.regs, 1, 16) : Int × Int × Int) ∈ numL p := List.mem_append_right _ (List.mem_flatMap.2 ⟨f, hf, by simp [fnum]⟩)
  have m2 : (((f.code.length : Int), 1, 512) : Int × Int × Int) ∈ numL p := List.mem_append_right _ (List.mem_flatMap.2 ⟨f, hf, by simp [fnum]⟩)
  have r1 := g _ _ _ m1
  have r2 := g _ _ _ m2
  exact ⟨r1, by omega⟩
/-- A function's bytes. -/
def codeB (l : List Ins) : List Nat := l.flatMap insB
def funB (f : Fun) : List Nat := f.regs.toNat :: (fx f.code.length 2 ++ codeB f.code)
def headB (p : Pr) : List Nat := magic ++ [p.mu.toNat, p.rw.toNat, p.gr.toNat, p.fs.length]
def bareB (p : Pr) : List Nat := headB p ++ p.fs.flatMap funB
def encB (p : Pr) : List Nat := bareB p ++ fx (sum (bareB p)) 8
theorem codeB_len : ∀ l : List Ins, (codeB l).length ≤ 17 * l.length
  | [] => by simp [codeB]
  | i :: l => by
    have := codeB_len l
    have := insB_len i
    simp only [codeB, List.flatMap_cons, List.length_append, List.length_cons] at *
    omega
theorem funB_len (f : Fun) : (funB f).length ≤ 3 + 17 * f.code.length := by
  have := codeB_len f.code
  simp only [funB, List.length_cons, List.length_append, fx_len]
  omega
theorem funs_len : ∀ l : List Fun, (∀ f ∈ l, f.code.length ≤ 512) → (l.flatMap funB).length ≤ 9000 * l.length
  | [], _ => by simp
  | f :: l, h => by
    have := funs_len l fun g hg => h g (.tail _ hg)
    have := funB_len f
    have := h f (.head _)
    simp only [List.flatMap_cons, List.length_append, List.length_cons]
    omega
theorem bare_len (h : okP' p = true) : (bareB p).length ≤ 300000 := by
  have hf := ok_fits h
  have := funs_len p.fs fun f hm => (hf.f f hm).2.2
  have := hf.n
  simp only [bareB, headB, magic, List.length_append, List.length_cons, List.length_nil]
  omega
theorem code_byt {l : List Ins} (h : ∀ i ∈ l, okI i = true) : Byt (codeB l) := fun x hx => by
  obtain ⟨i, hi, hx⟩ := List.mem_flatMap.1 hx
  exact insB_byt (h i hi) x hx
theorem funB_byt (hr : 0 ≤ f.regs ∧ f.regs < 256) (h : ∀ i ∈ f.code, okI i = true) : Byt (funB f) := fun x hx => by
  rcases List.mem_cons.1 hx with rfl | hx
  · omega
  · exact byt_app (fx_byt _ _) (code_byt h) x hx
theorem head_byt (h : okP' p = true) : Byt (headB p) := by
  have hf := ok_fits h
  have h1 := hf.n; have h2 := hf.mu; have h3 := hf.rw; have h4 := hf.gr
  refine byt_app (show ∀ x ∈ magic, x < 256 by decide) ?_
  intro x hx
  simp only [List.mem_cons, List.not_mem_nil, or_false] at hx
  rcases hx with rfl | rfl | rfl | rfl <;> omega
theorem funs_byt (h : okP' p = true) : Byt (p.fs.flatMap funB) := fun x hx => by
  obtain ⟨f, hf, hx⟩ := List.mem_flatMap.1 hx
  have hr := ((ok_fits h).f f hf).1
  exact funB_byt (by omega) (fun i hi => ok_ins h hf hi) x hx
theorem bare_byt (h : okP' p = true) : Byt (bareB p) := byt_app (head_byt h) (funs_byt h)
theorem enc_byt (h : okP' p = true) : Byt (encB p) := byt_app (bare_byt h) (fx_byt _ _)
theorem enc_len (h : okP' p = true) : (encB p).length ≤ 300008 := by
  have := bare_len h
  simp only [encB, List.length_append, fx_len]; omega
theorem fx_one {n : Nat} (h : n < 256) : fx n 1 = [n] := by
  rw [fx_cons]; simp [fx, Nat.mod_eq_of_lt h]
end
end Go.Proofs.YtkkkcafkepnecaaGreat.Im

