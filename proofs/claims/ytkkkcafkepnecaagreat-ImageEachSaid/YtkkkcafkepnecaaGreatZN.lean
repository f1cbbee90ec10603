/- What is handed out may lie in new memory. -/
import Derived.Test.YtkkkcafkepnecaaGreatZC

set_option linter.unusedVariables false
set_option linter.unusedSimpArgs false
namespace Go.Proofs.YtkkkcafkepnecaaGreat.Vc
open Go Go.RowKit
section
variable {P : Program} {B w : World} {H : Hp}
/-- The function value g hands out m times something, the i-th such that T i. -/
def SeqX (P : Program) (B : World) (H : Hp) (g : Value) (m : Nat) (T : Nat → List Value → Hp → Prop) : Prop :=
  ∀ (y : Value) (J : Nat → Hp → Prop) (Z : Hp → Prop) (K : Value → World → Prop) (PK : List PanicEntry → World → Prop) (w : World) (X : Hp), isFnV y = true → Ow B w (X ++ H) → J 0 X →
    (∀ (i : Nat) (args : List Value) (X F : Hp) (K' : Value → World → Prop) (PK' : List PanicEntry → World → Prop) (w : World), i < m → T i args F → J i X → (∀ x, x ∈ H → x ∈ F) → Ow B w (X ++ F) →
      (∀ X' w', Ow B w' (X' ++ F) → J (i + 1) X' → K' (.bool true) w') → (∀ X' w', Ow B w' (X' ++ F) → Z X' → K' (.bool false) w') → callV P y args K' PK' w) →
    (∀ v X' w', Ow B w' (X' ++ H) → J m X' ∨ Z X' → K v w') → callF P g [y] K PK w
theorem SeqX.fn {f : FuncId} {first cap : Array Value} {m : Nat} {T : Nat → List Value → Hp → Prop} (hf : okFn P f = true)
    (h : ∀ (y : Value) (J : Nat → Hp → Prop) (Z : Hp → Prop) (K : Value → World → Prop) (PK : List PanicEntry → World → Prop) (w : World) (X : Hp), isFnV y = true → Ow B w (X ++ H) → J 0 X →
      (∀ (i : Nat) (args : List Value) (X F : Hp) (K' : Value → World → Prop) (PK' : List PanicEntry → World → Prop) (w : World), i < m → T i args F → J i X → (∀ x, x ∈ H → x ∈ F) → Ow B w (X ++ F) →
        (∀ X' w', Ow B w' (X' ++ F) → J (i + 1) X' → K' (.bool true) w') → (∀ X' w', Ow B w' (X' ++ F) → Z X' → K' (.bool false) w') → callV P y args K' PK' w) →
      (∀ v X' w', Ow B w' (X' ++ H) → J m X' ∨ Z X' → K v w') → callW P f (first.toList ++ [y] ++ cap.toList) K PK w) : SeqX P B H (.func (.func f) first cap) m T := by
  intro y J Z K PK w X hy hw j0 hr he
  exact ⟨f, first, cap, rfl, hf, h y J Z K PK w X hy hw j0 hr he⟩
variable {l : Nat} {r : Loop} {C : Hp} {XK : World → Prop} {R : Value → World → Prop}
variable {X : Hp} {n fuel : Nat} {lv : List (Nat × Value)} {ps : Array Tmp} {assign body : Code} {g : Value} {KN KR : D → World → Prop} {KE : List (Nat × (D → World → Prop))} {PK : List PanicEntry → D → World → Prop} {d : D}
  {A : Note} {m : Nat} {T : Nat → List Value → Hp → Prop}
theorem range_callX (hm : P.follows .mixedOrders = true) (hg : SeqX P B H g m T) (fn : FuncId) (tmps : Array Value) (r0 : Nat) (ht : tmps.size = n) (hlv : ∀ p ∈ lv, tmps[p.1]? = some p.2) (hps : ∀ i args F, T i args F → args.length = ps.size)
    (hw : Ow B w (X ++ H)) (J : Nat → Hp → Prop) (Z : Code → Hp → Prop) (j0 : J 0 X)
    (round : ∀ (l : Nat) (r : Loop) (i : Nat) (args : List Value) (X F : Hp) (R : Value → World → Prop) (w : World), r.defers = r0 → i < m → T i args F → J i X → (∀ x, x ∈ H → x ∈ F) → Ow B w ((l, recR r) :: (X ++ F)) →
      (∀ X' w', J (i + 1) X' → Ow B w' ((l, recR r) :: (X' ++ F)) → R (.bool true) w') → (∀ j X' w', Z j X' → Ow B w' ((l, recD r j) :: (X' ++ F)) → R (.bool false) w') →
      ∀ u : S, rndW P A n fuel l assign body (pset ps.toList args (ovrP lv u)) R w) {mk : D}
    (hend : ∀ X' w', J m X' → Ow B w' (X' ++ H) → KN mk w') (hZ : ∀ j X' w', Z j X' → Ow B w' (X' ++ H) → pend KN KR KE (some j) mk w') {PK0 : List PanicEntry → World → Prop} :
    callF P g [.func (.yield w.heap.size) #[] #[]]
      (fun _ w3 => ∃ r : Loop, w3.heap[w.heap.size]? = some (.loop r) ∧ r.state ≠ .busy ∧ pend KN KR KE r.pending mk (w3.putObj w.heap.size (.loop { r with state := .exhausted }))) PK0
      (w.alloc (.loop { state := .ready, pending := none, fn, tmps, params := ps, assign, body, defers := r0 })) := by
  refine hg _ (fun i Y => ∃ X, Y = (w.heap.size, recR { state := .ready, pending := none, fn, tmps, params := ps, assign, body, defers := r0 }) :: X ∧ J i X)
    (fun Y => ∃ j X, Y = (w.heap.size, recD { state := .ready, pending := none, fn, tmps, params := ps, assign, body, defers := r0 } j) :: X ∧ Z j X) _ _ _ _ rfl (hw.alloc _) ⟨X, rfl, j0⟩ ?_ ?_
  · rintro i args Y F K' PK' w1 hi hL ⟨X1, rfl, hj⟩ hF hw1 k1 k2
    refine yield_round (A := A) (fuel := fuel) hm (F := X1 ++ F) hw1 ht hlv (hps _ _ _ hL) fun u => ?_
    exact round _ _ i args X1 F K' w1 rfl hi hL hj hF hw1 (fun X' w' h1 h2 => k1 _ w' h2 ⟨X', rfl, h1⟩) (fun j X' w' h1 h2 => k2 _ w' h2 ⟨j, X', rfl, h1⟩) u
  · rintro v Y w1 hw1 hd
    rcases hd with ⟨X1, rfl, hj⟩ | ⟨j, X1, rfl, hz⟩
    · refine ⟨_, hw1.mem _ _ List.mem_cons_self, by simp, ?_⟩
      exact hend X1 _ hj ((hw1.put (A := []) (.loop { state := .exhausted, pending := none, fn, tmps, params := ps, assign, body, defers := r0 })).drop)
    · refine ⟨_, hw1.mem _ _ List.mem_cons_self, by simp, ?_⟩
      exact hZ j X1 _ hz ((hw1.put (A := []) (.loop { state := .exhausted, pending := some j, fn, tmps, params := ps, assign, body, defers := r0 })).drop)
/-- A range of a function's own. -/
theorem range_fnX (hm : P.follows .mixedOrders = true) (hg : SeqX P B H g m T) (hT : ∀ i args F F', (∀ x, x ∈ F → x ∈ F') → T i args F → T i args F') (hlv : ∀ p ∈ lv, p.1 < n) (hps : ∀ i args F, T i args F → args.length = ps.size)
    (hw : Ow B w (X ++ H)) (J : Nat → Hp → Prop) (Z : Code → Hp → Prop) (j0 : J 0 X)
    (round : ∀ (l : Nat) (r : Loop) (i : Nat) (args : List Value) (X F : Hp) (R : Value → World → Prop) (w : World), i < m → T i args F → J i X → (∀ x, x ∈ H → x ∈ F) → Ow B w ((l, recR r) :: (X ++ F)) →
      (∀ X' w', J (i + 1) X' → Ow B w' ((l, recR r) :: (X' ++ F)) → R (.bool true) w') → (∀ j X' w', Z j X' → Ow B w' ((l, recD r j) :: (X' ++ F)) → R (.bool false) w') →
      ∀ u : S, rndW P A n fuel l assign body (pset ps.toList args (ovrP lv u)) R w)
    (hend : ∀ b X' w', J m X' → Ow B w' ((b, .deferred (some [])) :: (X' ++ H)) → KN ({ target := .collected b, args := #[] } :: d) w')
    (hZ : ∀ b j X' w', Z j X' → Ow B w' ((b, .deferred (some [])) :: (X' ++ H)) → pend KN KR KE (some j) ({ target := .collected b, args := #[] } :: d) w') :
    RangeW P none n lv ps assign body g KN KR KE PK d w := by
  intro fn tmps ht hl
  refine ⟨_, _, _, ⟨rfl, rfl, rfl⟩, ?_⟩
  refine range_callX (X := (w.heap.size, .deferred (some [])) :: X) (A := A) (fuel := fuel) (lv := lv) hm hg fn tmps _ ht (fun p hp => hl p hp (hlv p hp)) hps (hw.alloc _)
    (fun i Y => ∃ X, Y = (w.heap.size, .deferred (some [])) :: X ∧ J i X) (fun j Y => ∃ X, Y = (w.heap.size, .deferred (some [])) :: X ∧ Z j X) ⟨X, rfl, j0⟩ ?_ ?_ ?_
  · rintro l r i args Y F R w1 _ hi hL ⟨X1, rfl, hj⟩ hF hw1 k1 k2 u
    have e : ∀ (Y : Hp) (o : Nat × Obj), (o :: ((w.heap.size, Obj.deferred (some [])) :: Y ++ F)).Perm (o :: (Y ++ (w.heap.size, Obj.deferred (some [])) :: F)) := fun Y o => (List.perm_middle.symm).cons o
    exact round l r i args X1 ((w.heap.size, .deferred (some [])) :: F) R w1 hi (hT _ _ _ _ (fun x hx => List.mem_cons_of_mem _ hx) hL) hj (fun x hx => List.mem_cons_of_mem _ (hF x hx)) (hw1.perm (e _ _))
      (fun X' w' h1 h2 => k1 _ w' ⟨X', rfl, h1⟩ (h2.perm (e _ _).symm)) (fun j X' w' h1 h2 => k2 j _ w' ⟨X', rfl, h1⟩ (h2.perm (e _ _).symm)) u
  · rintro Y w' ⟨X', rfl, hj⟩ hw'
    exact hend _ X' w' hj hw'
  · rintro j Y w' ⟨X', rfl, hz⟩ hw'
    exact hZ _ j X' w' hz hw'
end
end Go.Proofs.YtkkkcafkepnecaaGreat.Vc

