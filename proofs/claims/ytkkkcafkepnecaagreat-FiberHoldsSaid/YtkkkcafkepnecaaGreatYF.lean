/- Fibers: what Do does, in plain. -/
import Derived.Test.YtkkkcafkepnecaaGreatYC

set_option linter.unusedVariables false
set_option linter.unusedSimpArgs false
namespace Go.Proofs.YtkkkcafkepnecaaGreat
open Go Go.RowKit Vc Ar

section
variable {p : Pr} {t u : Frm} {lo l : List Frm} {f : Fun} {i : Ins} {fr word res : Int}
theorem regT_in {x : Int} (h0 : 0 ≤ x) (h1 : x < t.regs.length) : regT (t :: lo) x = regR t.regs x := by
  simp only [regT]
  rw [if_pos ⟨h0, h1⟩]
theorem want_local {fn pc : Nat} (h : localI i = true) : (wantW fr fn pc l i).1.kind = (wtL fr l i).1 := by
  have hop := localI_op h
  unfold wantW
  rw [if_neg (by omega), if_neg (by omega), if_neg (by omega), if_neg (by omega), if_neg (by omega)]
theorem want_other {fn pc : Nat} (hok : okI i = true) (h : ¬ localI i = true) : (i.op = 6 ∧ (wantW fr fn pc l i).1.kind = 2) ∨ (i.op ≠ 6 ∧ 3 ≤ (wantW fr fn pc l i).1.kind ∧ (wantW fr fn pc l i).1.kind ≤ 12) := by
  have hnn := ok_nn hok
  have hop : ¬ (i.op ≤ 5 ∨ i.op = 8 ∨ i.op = 9 ∨ i.op = 19) := by
    unfold localI at h
    rw [hok, Bool.true_and] at h
    exact fun hc => h (decide_eq_true hc)
  unfold wantW
  by_cases h6 : i.op = 6
  · rw [if_pos h6]; exact .inl ⟨h6, rfl⟩
  refine .inr ⟨h6, ?_⟩
  rw [if_neg h6]
  split
  · simp
  split
  · simp
  split
  · simp
  rw [if_pos (by omega)]
  simp only
  omega
theorem wtL_kind : (wtL fr l i).1 = 1 ∨ (wtL fr l i).1 = 13 ∨ (wtL fr l i).1 = 14 := by
  unfold wtL
  split
  · split <;> simp
  split
  · split <;> simp
  split
  · split <;> simp
  · simp
/-- What Do does at a top. -/
theorem do_top (g : Good p) (hI : Inv p (t :: lo)) (hfr : 1 ≤ fr) :
    ((wantW fr t.fn t.pc (t :: lo) (insF p t)).1.kind = 14 → (doF p fr word (t :: lo) res).1 = 270) ∧
    ((wantW fr t.fn t.pc (t :: lo) (insF p t)).1.kind ≠ 14 → (doF p fr word (t :: lo) res).1 = 0) ∧
    ((wantW fr t.fn t.pc (t :: lo) (insF p t)).1.kind = 13 ↔ (doF p fr word (t :: lo) res).2.1 = []) := by
  obtain ⟨f, hf⟩ := hI.fi t (.head _)
  obtain ⟨i, hi, hok, hrg, _, _, _, him⟩ := g.facts hf
  have sf := g.safe hI hf hi
  have hins := hf.ins hi
  have hnn := ok_nn hok
  have hn := g.num.2.2 f (List.mem_of_getElem? hf.hf)
  have hrl := hf.rl
  have hpne : ∀ reg w, (passF p reg w (t :: lo)).2 ≠ [] := fun reg w hc => by
    have := (pass_len (p := p) (reg := reg) (word := w) (l := t :: lo)).1
    rw [hc] at this
    simp at this
  unfold doF
  simp only [hins]
  by_cases hloc : localI i = true
  · rw [want_local hloc]
    have hk := wtL_kind (fr := fr) (l := t :: lo) (i := i)
    have hst : (wtL fr (t :: lo) i).1 ≠ 14 → stepF p fr (t :: lo) res = (0, doneF p i t lo res) := fun h14 => by
      unfold stepF
      rw [if_neg (by omega)]
      simp only [hins]
      have hr : refE t (lo.length + 1) i fr = 0 := by
        unfold refE
        rw [if_neg (by simp [hloc])]
        have h3 : ¬ (i.op = 3 ∧ (aDo i.imm (regR t.regs i.b) (regR t.regs i.c)).2 ≠ 0) := fun ⟨h3, he⟩ => by
          refine h14 ?_
          unfold wtL
          rw [if_pos h3, regT_in hnn.2.2.2.1 (sf.hb (.inr h3)), regT_in hnn.2.2.2.2 (sf.hc h3), if_neg he]
        rw [if_neg h3]
        have h8 : ¬ (i.op = 8 ∧ ¬ ((lo.length + 1 : Nat) : Int) < fr) := fun ⟨h8, he⟩ => by
          refine h14 ?_
          unfold wtL
          rw [if_neg (by omega), if_pos h8, if_pos (by simp only [List.length_cons]; omega)]
        rw [if_neg h8]
      rw [if_pos hr]
    refine ⟨fun h => by rw [if_pos h], fun h => ?_, ?_⟩
    · rw [if_neg h, if_pos (by omega), hst h]
    · by_cases h14 : (wtL fr (t :: lo) i).1 = 14
      · rw [if_pos h14, h14]; simp
      · rw [if_neg h14, if_pos (by omega), hst h14]
        have hop := localI_op hloc
        unfold wtL doneF
        simp only
        rcases hop with h | h | h | h | h | h | h | h <;> simp only [h] <;> (try simp)
        · split <;> simp
        · split <;> simp
        · cases lo with
          | nil => simp
          | cons u lo' => simp
  · have hc := want_other (fr := fr) (l := t :: lo) (fn := t.fn) (pc := t.pc) hok hloc
    have hpass : ∀ (reg w : Int), -1 ≤ reg → reg < t.regs.length → (passF p reg w (t :: lo)).1 = 0 := fun reg w h0 h1 => by
      simp only [passF, hins]
      rw [if_neg hloc, if_neg (by omega)]
    generalize hkk : (wantW fr t.fn t.pc (t :: lo) i).1.kind = k at hc ⊢
    clear hkk
    rcases hc with ⟨h6, rfl⟩ | ⟨h6, hk⟩
    · have ha : i.a < t.regs.length := by
        have := regs_ge hok (q := .a) rfl (by simp [nmd, h6])
        simp only [Pk.get] at this
        omega
      refine ⟨fun h => by omega, fun _ => ?_, ⟨fun h => by omega, fun h => absurd h ?_⟩⟩
      · rw [if_neg (by omega), if_neg (by omega), if_pos rfl]
        exact hpass _ _ (by omega) ha
      · rw [if_neg (by omega), if_neg (by omega), if_pos rfl]
        exact hpne _ _
    · refine ⟨fun h => by omega, fun _ => ?_, ⟨fun h => by omega, fun h => absurd h ?_⟩⟩
      · rw [if_neg (by omega), if_neg (by omega), if_neg (by omega)]
        exact hpass _ _ (by omega) (by omega)
      · rw [if_neg (by omega), if_neg (by omega), if_neg (by omega)]
        exact hpne _ _
theorem Inv.doF (g : Good p) (hI : Inv p l) (hw : IsU word) : Inv p (doF p fr word l res).2.1 := by
  unfold Go.Proofs.YtkkkcafkepnecaaGreat.doF
  split
  · exact hI
  · simp only
    split
    · exact hI
    split
    · exact hI.step g
    split
    · exact hI.pass g hw
    · exact hI.pass g zero_u
theorem do_len : (doF p fr word l res).2.1.length ≤ l.length + 1 := by
  unfold doF
  split
  · simp
  · rename_i t lo
    simp only
    split
    · simp
    split
    · exact step_len.1
    split
    · rw [pass_len.1]; omega
    · rw [pass_len.1]; omega
theorem do_end : doF p fr word [] res = (220, [], res) := rfl
end
end Go.Proofs.YtkkkcafkepnecaaGreat

