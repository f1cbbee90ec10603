/- Soundness of the conditions, operations first. -/
import Derived.Test.YtkkkcafkepnecaaGreatVcB
set_option linter.unusedVariables false
set_option linter.unusedSimpArgs false
namespace Go.Proofs.YtkkkcafkepnecaaGreat.Vc
open Go Go.RowKit

theorem evP_map (n : Nat) (s : S) (l : List (Nat × Operand)) : evP n s l = l.map fun (i, x) => (i, ev n s x) := by
  induction l with
  | nil => rfl
  | cons x l ih => obtain ⟨i, x⟩ := x; simp [evP, ih]
theorem evO_map (n : Nat) (s : S) (x : Option Operand) : evO n s x = x.map (ev n s) := by cases x <;> rfl
theorem evs_arr (n : Nat) (s : S) (a : Array Operand) : (evs n s a.toList).toArray = a.map (ev n s) := by
  rw [evs_map]; apply Array.ext' ; simp
theorem evP_arr (n : Nat) (s : S) (a : Array (Nat × Operand)) : (evP n s a.toList).toArray = a.map fun (i, x) => (i, ev n s x) := by
  rw [evP_map]; apply Array.ext' ; simp

theorem binV_eq (op : BinOp) (t : TypeId) (x y : Operand) (a b : Value) : (do eqGuard op t x y a b; binOp op t a b : Sem Value) = binV op t (cnst x || cnst y) a b := by
  unfold binV
  congr 1
  unfold eqGuard
  cases a <;> cases b <;> first | rfl | skip
  cases x <;> cases y <;> simp [cnst]

section
variable {P : Program} {n : Nat} {s : S}

theorem run_info {t : TypeId} {i : TypeInfo} (h : P.info? t = some i) (w : World) : (typeInfo t).run P w = .ok i w := by
  simp [typeInfo, go_sem, h]
theorem run_und {t : TypeId} {d : TypeDesc} (h : P.underlying t = some d) (w : World) : (underlying t).run P w = .ok d w := run_underlying h w
theorem run_size {t : TypeId} {i : TypeInfo} (h : P.info? t = some i) (w : World) : (sizeOf t).run P w = .ok i.size w := by
  simp [sizeOf, go_sem, run_info h]
theorem run_agg {t : TypeId} {d : TypeDesc} (h : P.underlying t = some d) (w : World) : (isAgg t).run P w = .ok (agT P t) w := by
  unfold isAgg agT
  simp only [Sem.run_bind, run_und h, Result.andThen, h]
  cases d <;> simp [go_sem]

theorem pt_sound {t : TypeId} {z : Option Nat} (h : ldSize P t = some z) {off : Nat} {x : Value} {K : Value → Prop} (hp : ptW off z x K) :
    ∃ cs v, x = .agg cs ∧ (∀ w, (part t cs off).run P w = .ok v w) ∧ K v := by
  unfold ldSize at h
  split at h
  · cases h
  · rename_i d hd
    split at h
    · cases h
    · rename_i i hi
      simp only [Option.some.injEq] at h
      cases hag : agT P t
      · rw [hag] at h; simp at h; subst h
        obtain ⟨cs, v, rfl, hv, hk⟩ := hp
        refine ⟨cs, v, rfl, fun w => ?_, hk⟩
        unfold part
        simp only [Sem.run_bind, run_agg hd, hag, Result.andThen, hv]
        simp [go_sem]
      · rw [hag] at h; simp at h; subst h
        obtain ⟨cs, rfl, hk⟩ := hp
        refine ⟨cs, _, rfl, fun w => ?_, hk⟩
        unfold part
        simp only [Sem.run_bind, run_agg hd, hag, Result.andThen, run_size hi]
        simp [go_sem, run_size hi]

theorem run_v {m : Sem Value} {v : Value} {w w' : World} (h : m.run P w = .ok v w') : (do pure (Next.value (← m)) : Sem Next).run P w = .ok (.value v) w' := by
  simp [Sem.run_bind, h, Result.andThen, go_sem]
theorem run_u {m : Sem Unit} {w w' : World} (h : m.run P w = .ok () w') : (do m; pure Next.skip : Sem Next).run P w = .ok .skip w' := by
  simp [Sem.run_bind, h, Result.andThen, go_sem]

theorem add_eq (a : Addr) (k : Nat) : a.add k = if k = 0 then a else { a with off := a.off + k, spot := none } := rfl

theorem puOp_sound (o : Oper) (K : Value → Prop) (hp : isPu P o.op = true) (h : puOp P n s o.op K) :
    ∃ v, (∀ w, (execOp (ev n s) o).run P w = .ok (.value v) w) ∧ K v := by
  obtain ⟨dst, op, ty, pos, after, guard⟩ := o
  cases op <;> simp only [isPu, Bool.false_eq_true] at hp <;> simp only [puOp] at h <;> simp only [execOp]
  case move x => exact ⟨_, fun w => by simp [go_sem], h⟩
  case assign x => exact ⟨_, fun w => by simp [go_sem], h⟩
  case pick c a b =>
    unfold condV at h
    split at h
    · rename_i hc; exact ⟨_, fun w => by simp [hc, asBool, go_sem], h⟩
    · rename_i hc; exact ⟨_, fun w => by simp [hc, asBool, go_sem], h⟩
    · exact h.elim
  case nilCheck x =>
    unfold nlW at h
    split at h
    · rename_i hx; exact ⟨_, fun w => by simp [hx, go_sem], h⟩
    · rename_i hx; exact ⟨_, fun w => by simp [hx, go_sem], h⟩
    · rename_i hx; exact ⟨_, fun w => by simp [hx, go_sem], h⟩
    · exact h.elim
  case fieldAddr t x f =>
    split at h
    · rename_i fs hu
      split at h
      · rename_i fl hf
        split at h
        · rename_i i hi
          cases hz : Nat.beq i.size 0
          · rw [hz] at h
            obtain ⟨a, hx, hk⟩ := h
            have hne : i.size ≠ 0 := fun e => by rw [e] at hz; cases hz
            refine ⟨_, fun w => run_v ?_, hk⟩
            simp [Instr.fieldAt, Instr.sureAddr, fieldPlace, hx, Sem.run_bind, run_und hu, Result.andThen, hf, go_sem, run_size hi, hne]
          · rw [hz] at h; exact h.elim
        · exact h.elim
      · exact h.elim
    · exact h.elim
  case field t x f =>
    split at h
    · rename_i fs hu
      split at h
      · rename_i fl hf
        split at h
        · rename_i z hz
          obtain ⟨cs, v, hx, hv, hk⟩ := pt_sound hz h
          refine ⟨v, fun w => run_v ?_, hk⟩
          have hv' := hv w
          simp only [Instr.field, hx, Sem.run_bind, run_und hu, Result.andThen, hf]
          simp only [asAgg, Sem.run_pure]; exact hv'
        · exact h.elim
      · exact h.elim
    · exact h.elim
  case indexAddr t x i =>
    split at h
    · rename_i len e hu
      split at h
      · rename_i inf hi
        obtain ⟨a, k, m, hx, hiv, h0, h1, hk⟩ := h
        refine ⟨_, fun w => run_v ?_, hk⟩
        simp [Instr.indexAt, Instr.sureAddr, hx, hiv, asIntOf, Sem.run_bind, run_und hu, Result.andThen, go_sem, h0, h1, run_size hi]
      · exact h.elim
    · rename_i e hu
      split at h
      · rename_i inf hi
        obtain ⟨a, len, cap, k, m, hx, hiv, h0, h1, hk⟩ := h
        refine ⟨_, fun w => run_v ?_, hk⟩
        simp [Instr.indexAt, Instr.sureAddr, hx, hiv, asIntOf, Sem.run_bind, run_und hu, Result.andThen, go_sem, h0, h1, run_size hi]
      · exact h.elim
    · exact h.elim
  case index t x i =>
    split at h
    · rename_i len e hu
      split at h
      · exact h.elim
      · rename_i de hde
        split at h
        · rename_i inf hi
          obtain ⟨k, m, hiv, h0, h1, hk⟩ := h
          have hz : ldSize P e = some (bif agT P e then some inf.size else none) := by simp [ldSize, hde, hi]
          obtain ⟨cs, v, hx, hv, hk⟩ := pt_sound hz hk
          refine ⟨v, fun w => run_v ?_, hk⟩
          have hv' := hv w
          simp only [Instr.index, hx, hiv, asIntOf, Sem.run_bind, Sem.run_pure, run_und hu, Result.andThen, h0, h1, and_self, if_true, run_size hi]; exact hv'
        · exact h.elim
    · rename_i hu
      obtain ⟨str, k, m, b, hx, hiv, h0, hb, hk⟩ := h
      refine ⟨_, fun w => run_v ?_, hk⟩
      simp [Instr.index, hx, hiv, asIntOf, Sem.run_bind, run_und hu, Result.andThen, go_sem, h0, hb]
    · exact h.elim
  case unOp o t x => obtain ⟨v, hv, hk⟩ := h; exact ⟨v, fun w => run_v (hv w), hk⟩
  case binOp o t x y t2 =>
    obtain ⟨v, hv, hk⟩ := h
    refine ⟨v, fun w => run_v ?_, hk⟩
    rw [binV_eq]; exact hv w
  case extract x i =>
    unfold exW at h
    split at h
    · rename_i vs hx
      obtain ⟨v, hv, hk⟩ := h
      exact ⟨v, fun w => run_v (by simp [Instr.extract, hx, hv, go_sem]), hk⟩
    · exact h.elim
  case makeFunc fn a b => exact ⟨_, fun w => run_v (by simp only [Instr.makeFunc, Sem.run_pure, evs_arr]), h⟩
  case makeInterface t x =>
    split at h
    · exact h.elim
    · rename_i d hni hu
      refine ⟨_, fun w => run_v ?_, h⟩
      unfold Instr.makeInterface
      simp only [Sem.run_bind, run_und hu, Result.andThen]
      cases d <;> first | rfl | (exact absurd hu (hni _))
    · exact h.elim
  case slice t x lo hi mx =>
    obtain ⟨v, hv, hk⟩ := h
    refine ⟨v, fun w => run_v ?_, hk⟩
    simp only [evO_map] at hv; exact hv w
  case build t ps =>
    obtain ⟨v, hv, hk⟩ := h
    refine ⟨v, fun w => run_v ?_, hk⟩
    simp only [evP_arr] at hv; exact hv w
  case typeAssert t x u b => obtain ⟨v, hv, hk⟩ := h; exact ⟨v, fun w => run_v (hv w), hk⟩
  case convert a b x =>
    split at h
    · obtain ⟨v, hv, hk⟩ := h; exact ⟨v, fun w => run_v (hv w), hk⟩
    · exact h.elim
  case call c =>
    obtain ⟨callee, args, argTypes⟩ := c
    cases callee <;> simp only [Bool.false_eq_true] at hp <;> simp only at h
    rename_i b
    cases b <;> simp only [Bool.false_eq_true] at hp <;> simp only at h
    case len =>
      unfold one1 at h
      rw [evs_map] at h
      split at h
      · rename_i e hu
        split at h
        · rename_i x hx
          unfold lnS at h
          split at h
          · rename_i a m c2
            have hargs : args.map (ev n s) = #[.slice a m c2] := by apply Array.ext'; simpa using hx
            obtain ⟨t0, ht0, hu0⟩ := Option.bind_eq_some_iff.1 hu
            refine ⟨_, fun w => ?_, h⟩
            simp [resolve, hargs, go_sem, invoke, builtin, Builtin.len_, ht0, Sem.run_bind, run_und hu0, Result.andThen, goInt]
          · exact h.elim
        · exact h.elim
      · rename_i hu
        split at h
        · rename_i x hx
          unfold lnT at h
          split at h
          · rename_i str
            have hargs : args.map (ev n s) = #[.string str] := by apply Array.ext'; simpa using hx
            obtain ⟨t0, ht0, hu0⟩ := Option.bind_eq_some_iff.1 hu
            refine ⟨_, fun w => ?_, h⟩
            simp [resolve, hargs, go_sem, invoke, builtin, Builtin.len_, ht0, Sem.run_bind, run_und hu0, Result.andThen, goInt]
          · exact h.elim
        · exact h.elim
      · exact h.elim
    case cap =>
      obtain ⟨v, hv, hk⟩ := h
      refine ⟨v, fun w => ?_, hk⟩
      have := hv w
      simp only [evs_arr] at this
      simp only [resolve, Sem.run_bind, Sem.run_pure, Result.andThen, invoke, builtin]
      rw [show Sem.run P (Builtin.cap_ argTypes ty (Array.map (ev n s) args)) w = .ok v w from this]
    case max =>
      obtain ⟨v, hv, hk⟩ := h
      refine ⟨v, fun w => ?_, hk⟩
      have := hv w
      simp only [evs_arr] at this
      simp only [resolve, Sem.run_bind, Sem.run_pure, Result.andThen, invoke, builtin]
      rw [show Sem.run P (Builtin.max_ argTypes ty (Array.map (ev n s) args)) w = .ok v w from this]
    case min =>
      obtain ⟨v, hv, hk⟩ := h
      refine ⟨v, fun w => ?_, hk⟩
      have := hv w
      simp only [evs_arr] at this
      simp only [resolve, Sem.run_bind, Sem.run_pure, Result.andThen, invoke, builtin]
      rw [show Sem.run P (Builtin.min_ argTypes ty (Array.map (ev n s) args)) w = .ok v w from this]
end
end Go.Proofs.YtkkkcafkepnecaaGreat.Vc
