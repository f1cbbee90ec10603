/- Stacks: what holds of frames of a program that may be. -/
import Derived.Test.YtkkkcafkepnecaaGreatVsL
set_option linter.unusedVariables false
set_option linter.unusedSimpArgs false
namespace Go.Proofs.YtkkkcafkepnecaaGreat
open Go Go.RowKit Vc Ar

section
variable {p : Pr} {t u : Frm} {lo l : List Frm} {f : Fun} {i : Ins}
theorem site_fine {n m : Nat} (h : okP' p = true) (hf : p.fs[n]? = some f) (hi : f.code[m]? = some i) : fineI p f m i = true := by
  unfold okP' at h
  rw [Bool.and_eq_true] at h
  have h2 := h.2
  have hn := (List.getElem?_eq_some_iff.1 hf).1
  have hm := (List.getElem?_eq_some_iff.1 hi).1
  have hc : clen p.fs n = f.code.length := by unfold clen; rw [hf]
  have hmem := List.mem_of_getElem? (site_at hn (by rw [hc]; exact hm))
  have h3 : badS p = none := by
    cases hb : badS p
    · rfl
    · rw [hb] at h2; cases h2
  have h4 := List.find?_eq_none.1 h3 _ hmem
  have h5 : fineS p (n, m) = true := by
    cases hs : fineS p (n, m)
    · exact absurd (by rw [hs]; rfl) h4
    · rfl
  unfold fineS at h5
  simp only [hf, hi] at h5
  exact h5
theorem fine_parts {m : Nat} (h : fineI p f m i = true) : okI i = true ∧ regsI i ≤ f.regs ∧ jumpsI f i = true ∧ callsI p.fs i = true ∧ endsI f m i = true := by
  unfold fineI fineL at h
  simp only [List.all_cons, List.all_nil, Bool.and_true, Bool.and_eq_true, id] at h
  obtain ⟨h1, h2, h3, h4⟩ := h
  unfold fitsI at h1
  rw [Bool.and_eq_true] at h1
  exact ⟨h1.1, of_decide_eq_true h1.2, h2, h3, h4⟩
theorem regF_le (i : Ins) (n : Int) (q : Pk) : n ≤ regF i n q := by
  unfold regF
  split
  · split <;> omega
  · omega
theorem fold_ge (i : Ins) : ∀ (l : List Pk) (n : Int), n ≤ l.foldl (regF i) n
  | [], n => Int.le_refl n
  | q :: l, n => Int.le_trans (regF_le i n q) (fold_ge i l _)
theorem fold_mem (i : Ins) {q : Pk} (hr : q.isR = true) : ∀ (l : List Pk) (n : Int), q ∈ l → q.get i + 1 ≤ l.foldl (regF i) n
  | x :: l, n, h => by
    rcases List.mem_cons.1 h with rfl | h
    · refine Int.le_trans ?_ (fold_ge i l _)
      show q.get i + 1 ≤ regF i n q
      unfold regF
      rw [if_pos hr]
      split <;> omega
    · exact fold_mem i hr l _ h
theorem regs_ge (h : okI i = true) {q : Pk} (hr : q.isR = true) (hq : q ∈ nmd i.op) : q.get i + 1 ≤ regsI i := by
  have := fold_mem i hr _ 0 hq
  unfold regsI
  rw [if_pos h]
  split
  · split <;> omega
  · exact this
theorem regs_bc (h : okI i = true) (h8 : i.op = 8) : i.b + i.c ≤ regsI i := by
  unfold regsI
  rw [if_pos h, if_pos (.inl h8)]
  split <;> omega
structure FI (p : Pr) (t : Frm) (f : Fun) : Prop where
  hf : p.fs[t.fn]? = some f
  pc : t.pc < f.code.length
  rl : t.regs.length = f.regs.toNat
  u : AllU t.regs
def Dst : List Frm → Prop
  | [] => True
  | t :: lo => (∀ u lo', lo = u :: lo' → t.dest < u.regs.length) ∧ Dst lo
structure Inv (p : Pr) (l : List Frm) : Prop where
  fi : ∀ t ∈ l, ∃ f, FI p t f
  d : Dst l
/-- A program that may be, of words. -/
structure Good (p : Pr) : Prop where
  ok : okP' p = true
  im : ∀ f ∈ p.fs, immOk f.code
theorem Good.facts (g : Good p) (hf : FI p t f) : ∃ i, f.code[t.pc]? = some i ∧ okI i = true ∧ regsI i ≤ f.regs ∧ jumpsI f i = true ∧ callsI p.fs i = true ∧ endsI f t.pc i = true ∧ 0 ≤ i.imm ∧ i.imm < 4294967296 := by
  have hi := List.getElem?_eq_getElem hf.pc
  obtain ⟨h1, h2, h3, h4, h5⟩ := fine_parts (site_fine g.ok hf.hf hi)
  have h6 := g.im f (List.mem_of_getElem? hf.hf) _ (List.getElem_mem hf.pc)
  exact ⟨_, hi, h1, h2, h3, h4, h5, h6.1, h6.2⟩
theorem Good.num (g : Good p) : 1 ≤ p.fs.length ∧ p.fs.length ≤ 32 ∧ ∀ f ∈ p.fs, 1 ≤ f.regs ∧ f.regs ≤ 16 ∧ 1 ≤ f.code.length ∧ f.code.length ≤ 512 := num_facts (ok_num g.ok)
theorem Good.safe (g : Good p) (hI : Inv p (t :: lo)) (hf : FI p t f) (hi : f.code[t.pc]? = some i) : Safe p t lo f i := by
  obtain ⟨i', hi', h1, h2, h3, h4, h5, h6, h7⟩ := g.facts hf
  rw [hi] at hi'
  cases hi'
  have hn := g.num.2.2 f (List.mem_of_getElem? hf.hf)
  have hl := hf.rl
  have hnn := ok_nn h1
  have la : Pk.a ∈ nmd i.op → i.a < t.regs.length := fun hm => by
    have := regs_ge h1 (q := .a) rfl hm
    simp only [Pk.get] at this
    omega
  have lb : Pk.b ∈ nmd i.op → i.b < t.regs.length := fun hm => by
    have := regs_ge h1 (q := .b) rfl hm
    simp only [Pk.get] at this
    omega
  have lc : Pk.c ∈ nmd i.op → i.c < t.regs.length := fun hm => by
    have := regs_ge h1 (q := .c) rfl hm
    simp only [Pk.get] at this
    omega
  refine ⟨hf.hf, hi, ⟨h6, h7⟩, h1, fun h => la ?_, fun h => lb ?_, fun h => lc ?_, fun h8 => ?_, fun h9 u lo' hlo => ?_, hf.u, by omega, ?_⟩
  · rcases h with h | h | h | h | h <;> simp [nmd, h]
  · rcases h with h | h <;> simp [nmd, h]
  · simp [nmd, h]
  · refine ⟨by have := regs_bc h1 h8; omega, ?_⟩
    unfold callsI at h4
    rw [Bool.or_eq_true] at h4
    rcases h4 with h4 | h4
    · exact absurd h8 (of_decide_eq_true h4).1
    · split at h4
      · rename_i f' hf'
        exact ⟨f', hf', of_decide_eq_true h4, (g.num.2.2 f' (List.mem_of_getElem? hf')).2.1⟩
      · cases h4
  · exact hI.d.1 u lo' hlo
  · have := hf.pc; omega
theorem Good.safeL (g : Good p) (hI : Inv p l) : SafeL p l := fun t lo h => by
  subst h
  obtain ⟨f, hf⟩ := hI.fi t (.head _)
  obtain ⟨i, hi, _⟩ := g.facts hf
  exact ⟨f, i, g.safe hI hf hi⟩
theorem FI.ins (hf : FI p t f) (hi : f.code[t.pc]? = some i) : insF p t = i := by
  unfold insF
  rw [hf.hf]
  simp [hi]
theorem AllU.set {l : List Int} {n : Nat} {x : Int} (h : AllU l) (hx : IsU x) : AllU (l.set n x) := fun y hy => by
  rcases List.mem_or_eq_of_mem_set hy with hy | rfl
  · exact h y hy
  · exact hx
theorem zero_u : IsU 0 := ⟨by decide, by decide⟩
theorem AllU.padd {l : List Int} {n : Nat} (h : AllU l) : AllU (padd l n) := fun y hy => by
  rcases List.mem_append.1 hy with hy | hy
  · exact h y hy
  · rw [List.eq_of_mem_replicate hy]; exact zero_u
/-- The top is changed. -/
theorem Inv.top (hI : Inv p (t :: lo)) (hu : ∃ f, FI p u f) (hd : u.dest = t.dest) : Inv p (u :: lo) :=
  ⟨fun x hx => by
    rcases List.mem_cons.1 hx with rfl | hx
    · exact hu
    · exact hI.fi x (.tail _ hx), ⟨fun v lo' h => by rw [hd]; exact hI.d.1 v lo' h, hI.d.2⟩⟩
theorem Inv.tail (hI : Inv p (t :: lo)) : Inv p lo := ⟨fun x hx => hI.fi x (.tail _ hx), hI.d.2⟩
theorem ends_next (h : endsI f t.pc i = true) (h4 : i.op ≠ 4) (h9 : i.op ≠ 9) : t.pc + 1 < f.code.length := by
  unfold endsI at h
  rw [Bool.or_eq_true] at h
  rcases h with h | h
  · exact of_decide_eq_true h
  · unfold lvI at h
    rw [Bool.and_eq_true] at h
    have := of_decide_eq_true h.2
    omega
theorem jumps_in (h : jumpsI f i = true) (h45 : i.op = 4 ∨ i.op = 5) (h0 : 0 ≤ i.imm) : i.imm.toNat < f.code.length := by
  unfold jumpsI at h
  have := of_decide_eq_true h
  omega
theorem Inv.done {res : Int} (g : Good p) (hI : Inv p (t :: lo)) (hloc : localI (insF p t) = true) : Inv p (doneF p (insF p t) t lo res).1 := by
  obtain ⟨f, hf⟩ := hI.fi t (.head _)
  obtain ⟨i, hi, h1, h2, h3, h4, h5, h6⟩ := g.facts hf
  have sf := g.safe hI hf hi
  rw [hf.ins hi] at hloc ⊢
  have hset : ∀ (x y : Int), i.op ≠ 4 → i.op ≠ 9 → IsU y → Inv p ({ t with pc := t.pc + 1, regs := t.regs.set x.toNat y } :: lo) := fun x y q4 q9 hy => by
    refine hI.top ⟨f, hf.hf, ends_next h5 q4 q9, ?_, hf.u.set hy⟩ rfl
    rw [List.length_set]; exact hf.rl
  have hpc : ∀ n : Nat, n < f.code.length → Inv p ({ t with pc := n } :: lo) := fun n hn => hI.top ⟨f, hf.hf, hn, hf.rl, hf.u⟩ rfl
  unfold doneF
  simp only
  split
  · exact hset _ _ (by omega) (by omega) h6
  split
  · exact hset _ _ (by omega) (by omega) (hf.u.reg _)
  split
  · exact hset _ _ (by omega) (by omega) (aDo_u (hf.u.reg _) (hf.u.reg _))
  split
  · exact hpc _ (jumps_in h3 (.inl (by assumption)) h6.1)
  split
  · split
    · exact hpc _ (ends_next h5 (by omega) (by omega))
    · exact hpc _ (jumps_in h3 (.inr (by assumption)) h6.1)
  split
  · rename_i h8
    obtain ⟨hbc, f', hf', hcf, hfr⟩ := sf.call h8
    have hnn := ok_nn h1
    have e5 : p.fs.getD i.imm.toNat ⟨0, []⟩ = f' := by rw [List.getD, hf']; rfl
    rw [e5]
    have hn' := g.num.2.2 f' (List.mem_of_getElem? hf')
    have hwl : ((t.regs.take (i.b + i.c).toNat).drop i.b.toNat).length = i.c.toNat := by rw [List.length_drop, List.length_take]; omega
    refine ⟨fun x hx => ?_, ⟨fun u lo' hlo => ?_, (hpc _ (ends_next h5 (by omega) (by omega))).d⟩⟩
    · rcases List.mem_cons.1 hx with rfl | hx
      · refine ⟨f', hf', by show 0 < _; omega, padd_len (by rw [hwl]; omega), AllU.padd fun y hy => hf.u y (List.mem_of_mem_take (List.mem_of_mem_drop hy))⟩
      · exact (hpc _ (ends_next h5 (by omega) (by omega))).fi x hx
    · cases hlo
      show i.a.toNat < t.regs.length
      have := regs_ge h1 (q := .a) rfl (by simp [nmd, h8])
      simp only [Pk.get] at this
      have := hf.rl
      omega
  split
  · cases lo with
    | nil => exact ⟨fun x hx => (by cases hx), trivial⟩
    | cons u lo' =>
      obtain ⟨f', hf'⟩ := hI.fi u (.tail _ (.head _))
      refine hI.tail.top ⟨f', hf'.hf, hf'.pc, ?_, hf'.u.set (hf.u.reg _)⟩ rfl
      show (u.regs.set _ _).length = _
      rw [List.length_set]; exact hf'.rl
  · rename_i q1 q2 q3 q4 q5 q8 q9
    exact hpc _ (ends_next h5 q4 q9)
theorem refE_local {n : Nat} {most : Int} (h : refE t n i most = 0) : localI i = true := by
  unfold refE at h
  cases hl : localI i
  · rw [if_pos hl] at h; cases h
  · rfl
theorem Inv.step {most res : Int} (g : Good p) (hI : Inv p l) : Inv p (stepF p most l res).2.1 := by
  unfold stepF
  split
  · exact hI
  split
  · exact hI
  split
  · exact hI.done g (refE_local (by assumption))
  · exact hI
theorem Inv.pass {reg word : Int} (g : Good p) (hI : Inv p l) (hw : IsU word) : Inv p (passF p reg word l).2 := by
  unfold passF
  split
  · exact hI
  split
  · exact hI
  split
  · exact hI
  · rename_i t lo hl hr
    obtain ⟨f, hf⟩ := hI.fi t (.head _)
    obtain ⟨i, hi, h1, h2, h3, h4, h5, h6⟩ := g.facts hf
    rw [hf.ins hi] at hl
    have hop : i.op ≠ 4 ∧ i.op ≠ 9 := by
      unfold localI at hl
      rw [h1, Bool.true_and] at hl
      have : ¬ (i.op ≤ 5 ∨ i.op = 8 ∨ i.op = 9 ∨ i.op = 19) := fun h => hl (decide_eq_true h)
      omega
    refine hI.top ⟨f, hf.hf, ends_next h5 hop.1 hop.2, ?_, ?_⟩ rfl
    · show (if 0 ≤ reg then t.regs.set reg.toNat word else t.regs).length = _
      split
      · rw [List.length_set]; exact hf.rl
      · exact hf.rl
    · show AllU (if 0 ≤ reg then t.regs.set reg.toNat word else t.regs)
      split
      · exact hf.u.set hw
      · exact hf.u
/-- Where a stack begins. -/
theorem Inv.beg {x : Nat} {ws : List Int} (g : Good p) (hf : p.fs[x]? = some f) (hl : (ws.length : Int) ≤ f.regs) (hu : AllU ws) : Inv p [begF x f ws] := by
  have hn := g.num.2.2 f (List.mem_of_getElem? hf)
  refine ⟨fun t ht => ?_, ⟨fun u lo' h => (by cases h), trivial⟩⟩
  rw [List.mem_singleton.1 ht]
  exact ⟨f, hf, by show 0 < _; omega, padd_len (by omega), AllU.padd hu⟩
theorem Inv.regs (g : Good p) (hI : Inv p l) : ∀ m ∈ l, m.regs.length ≤ 1000 := fun m hm => by
  obtain ⟨f, hf⟩ := hI.fi m hm
  have := (g.num.2.2 f (List.mem_of_getElem? hf.hf)).2.1
  have := hf.rl
  omega
theorem done_len {res : Int} {i : Ins} : (doneF p i t lo res).1.length ≤ lo.length + 2 ∧ lo.length ≤ (doneF p i t lo res).1.length ∧ (i.op ≠ 8 → (doneF p i t lo res).1.length ≤ lo.length + 1) := by
  unfold doneF
  simp only
  split
  · simp
  split
  · simp
  split
  · simp
  split
  · simp
  split
  · split <;> simp
  split
  · simp; omega
  split
  · cases lo <;> simp
  · simp
/-- How deep a step goes. -/
theorem step_len {most res : Int} : (stepF p most l res).2.1.length ≤ l.length + 1 ∧ l.length ≤ (stepF p most l res).2.1.length + 1 ∧ ((stepF p most l res).2.1.length ≤ l.length ∨ ((stepF p most l res).2.1.length : Int) ≤ most) ∧ ((stepF p most l res).1 ≠ 0 → (stepF p most l res).2 = (l, res)) := by
  unfold stepF
  split
  · simp
  split
  · simp
  · rename_i t lo
    split
    · rename_i hr
      obtain ⟨d1, d2, d3⟩ := done_len (p := p) (i := insF p t) (t := t) (lo := lo) (res := res)
      simp only [List.length_cons]
      refine ⟨by omega, by omega, ?_, by simp⟩
      by_cases h8 : (insF p t).op = 8
      · refine .inr ?_
        have : ((lo.length + 1 : Nat) : Int) < most := by
          unfold refE at hr
          split at hr
          · cases hr
          split at hr
          · rename_i h; exact absurd hr h.2
          split at hr
          · cases hr
          · rename_i h; exact Decidable.byContradiction fun hn => h ⟨h8, hn⟩
        omega
      · have := d3 h8
        exact .inl (by omega)
    · simp
theorem pass_len {reg word : Int} : (passF p reg word l).2.length = l.length ∧ ((passF p reg word l).1 ≠ 0 → (passF p reg word l).2 = l) := by
  unfold passF
  split
  · simp
  split
  · simp
  split
  · simp
  · simp
end
end Go.Proofs.YtkkkcafkepnecaaGreat
