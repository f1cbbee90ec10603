/- Ranges over functions: what an iterator hands out, and the rule of a range over it. -/
import Derived.Test.YtkkkcafkepnecaaGreatVcO
set_option linter.unusedVariables false
set_option linter.unusedSimpArgs false
namespace Go.Proofs.YtkkkcafkepnecaaGreat.Vc
open Go Go.RowKit

abbrev recR (r : Loop) : Obj := .loop { r with state := .ready, pending := none }
abbrev recB (r : Loop) : Obj := .loop { r with state := .busy, pending := none }
abbrev recD (r : Loop) (j : Code) : Obj := .loop { r with state := .done, pending := some j }

section
variable {P : Program} {B w : World} {H : Hp}
def isFnV : Value → Bool
  | .func _ _ _ => true
  | _ => false
theorem fn_cells {y : Value} (h : isFnV y = true) : y.cells = #[y] := by cases y <;> first | rfl | cases h
theorem fn_plain {y : Value} (h : isFnV y = true) : plainV y = true := by cases y <;> first | rfl | cases h
/-- The function value g hands out L, one by one, as long as it is told to go on; it reads H alone. -/
def Seq (P : Program) (B : World) (H : Hp) (g : Value) (L : List (List Value)) : Prop :=
  ∀ (y : Value) (J : Nat → Hp → Prop) (Z : Hp → Prop) (K : Value → World → Prop) (PK : List PanicEntry → World → Prop) (w : World) (X : Hp), isFnV y = true → Ow B w (X ++ H) → J 0 X →
    (∀ (i : Nat) (args : List Value) (X F : Hp) (K' : Value → World → Prop) (PK' : List PanicEntry → World → Prop) (w : World), L[i]? = some args → J i X → (∀ x, x ∈ H → x ∈ F) → Ow B w (X ++ F) →
      (∀ X' w', Ow B w' (X' ++ F) → J (i + 1) X' → K' (.bool true) w') → (∀ X' w', Ow B w' (X' ++ F) → Z X' → K' (.bool false) w') → callV P y args K' PK' w) →
    (∀ v X' w', Ow B w' (X' ++ H) → J L.length X' ∨ Z X' → K v w') → callF P g [y] K PK w
theorem Seq.fn {f : FuncId} {first cap : Array Value} {L : List (List Value)} (hf : okFn P f = true)
    (h : ∀ (y : Value) (J : Nat → Hp → Prop) (Z : Hp → Prop) (K : Value → World → Prop) (PK : List PanicEntry → World → Prop) (w : World) (X : Hp), isFnV y = true → Ow B w (X ++ H) → J 0 X →
      (∀ (i : Nat) (args : List Value) (X F : Hp) (K' : Value → World → Prop) (PK' : List PanicEntry → World → Prop) (w : World), L[i]? = some args → J i X → (∀ x, x ∈ H → x ∈ F) → Ow B w (X ++ F) →
        (∀ X' w', Ow B w' (X' ++ F) → J (i + 1) X' → K' (.bool true) w') → (∀ X' w', Ow B w' (X' ++ F) → Z X' → K' (.bool false) w') → callV P y args K' PK' w) →
      (∀ v X' w', Ow B w' (X' ++ H) → J L.length X' ∨ Z X' → K v w') → callW P f (first.toList ++ [y] ++ cap.toList) K PK w) : Seq P B H (.func (.func f) first cap) L := by
  intro y J Z K PK w X hy hw j0 hr he
  exact ⟨f, first, cap, rfl, hf, h y J Z K PK w X hy hw j0 hr he⟩
theorem Seq.mono {H' : Hp} {g : Value} {L : List (List Value)} (h : Seq P B H g L) (hs : ∃ X, H'.Perm (X ++ H)) : Seq P B H' g L := by
  obtain ⟨X0, hp⟩ := hs
  intro y J Z K PK w X hy hw j0 hr he
  have e : (X ++ H').Perm ((X ++ X0) ++ H) := by rw [List.append_assoc]; exact hp.append_left X
  refine h y (fun i Y => ∃ X, Y = X ++ X0 ∧ J i X) (fun Y => ∃ X, Y = X ++ X0 ∧ Z X) K PK w (X ++ X0) hy (hw.perm e) ⟨X, rfl, j0⟩ ?_ ?_
  · rintro i args Y F K' PK' w hL ⟨X, rfl, hj⟩ hF hw' k1 k2
    refine hr i args X (X0 ++ F) K' PK' w hL hj (fun x hx => ?_) (by rw [← List.append_assoc]; exact hw') (fun X' w' h1 h2 => k1 (X' ++ X0) w' (by rw [List.append_assoc]; exact h1) ⟨_, rfl, h2⟩)
      (fun X' w' h1 h2 => k2 (X' ++ X0) w' (by rw [List.append_assoc]; exact h1) ⟨_, rfl, h2⟩)
    rcases List.mem_append.1 (hp.mem_iff.1 hx) with h1 | h1
    · exact List.mem_append_left _ h1
    · exact List.mem_append_right _ (hF x h1)
  · rintro v Y w' hw' hd
    rcases hd with ⟨X', rfl, hj⟩ | ⟨X', rfl, hz⟩
    · exact he v X' w' (hw'.perm (by rw [List.append_assoc]; exact (hp.append_left X').symm)) (.inl hj)
    · exact he v X' w' (hw'.perm (by rw [List.append_assoc]; exact (hp.append_left X').symm)) (.inr hz)
theorem Seq.cons {x : Nat × Obj} {g : Value} {L : List (List Value)} (h : Seq P B H g L) : Seq P B (x :: H) g L := h.mono ⟨[x], .refl _⟩

/-! ### A round's beginning and end -/
variable {l : Nat} {r : Loop} {C : Hp} {XK : World → Prop} {R : Value → World → Prop}
theorem rbeg (h : Ow B w ((l, recR r) :: C)) (k : ∀ w', Ow B w' ((l, recB r) :: C) → XK w') : rBeg l XK w :=
  ⟨_, h.mem _ _ List.mem_cons_self, rfl, k _ (h.put (A := []) _)⟩
theorem rend_go (h : Ow B w ((l, recB r) :: C)) (k : ∀ w', Ow B w' ((l, recR r) :: C) → R (.bool true) w') : rEnd l none R w :=
  ⟨_, h.mem _ _ List.mem_cons_self, k _ (h.put (A := []) _)⟩
theorem rend_stop {j : Code} (h : Ow B w ((l, recB r) :: C)) (k : ∀ w', Ow B w' ((l, recD r j) :: C) → R (.bool false) w') : rEnd l (some j) R w :=
  ⟨_, h.mem _ _ List.mem_cons_self, k _ (h.put (A := []) _)⟩

/-! ### A range -/
variable {X : Hp} {n fuel : Nat} {lv : List (Nat × Value)} {ps : Array Tmp} {assign body : Code} {g : Value} {KN KR : D → World → Prop} {KE : List (Nat × (D → World → Prop))} {PK : List PanicEntry → D → World → Prop} {d : D}
  {A : Note} {L : List (List Value)}
/-- A yield's call, out of its round. -/
theorem yield_round (hm : P.follows .mixedOrders = true) {F : Hp} {args : List Value} {K' : Value → World → Prop} {PK' : List PanicEntry → World → Prop} {fn : FuncId} {tmps : Array Value} {r0 : Nat}
    (hw : Ow B w ((l, recR { state := .ready, pending := none, fn, tmps, params := ps, assign, body, defers := r0 }) :: F)) (ht : tmps.size = n) (hlv : ∀ p ∈ lv, tmps[p.1]? = some p.2) (ha : args.length = ps.size)
    (h : ∀ u : S, rndW P A n fuel l assign body (pset ps.toList args (ovrP lv u)) K' w) : callV P (.func (.yield l) #[] #[]) args K' PK' w :=
  .inr ⟨l, rfl, rndW_sound hm (r := { state := .ready, pending := none, fn, tmps, params := ps, assign, body, defers := r0 }) (hw.mem _ _ List.mem_cons_self) ha ht hlv h⟩
theorem range_call (hm : P.follows .mixedOrders = true) (hg : Seq P B H g L) (fn : FuncId) (tmps : Array Value) (r0 : Nat) (ht : tmps.size = n) (hlv : ∀ p ∈ lv, tmps[p.1]? = some p.2) (hps : ∀ args ∈ L, args.length = ps.size)
    (hw : Ow B w (X ++ H)) (J : Nat → Hp → Prop) (Z : Code → Hp → Prop) (j0 : J 0 X)
    (round : ∀ (l : Nat) (r : Loop) (i : Nat) (args : List Value) (X F : Hp) (R : Value → World → Prop) (w : World), r.defers = r0 → L[i]? = some args → J i X → (∀ x, x ∈ H → x ∈ F) → Ow B w ((l, recR r) :: (X ++ F)) →
      (∀ X' w', J (i + 1) X' → Ow B w' ((l, recR r) :: (X' ++ F)) → R (.bool true) w') → (∀ j X' w', Z j X' → Ow B w' ((l, recD r j) :: (X' ++ F)) → R (.bool false) w') →
      ∀ u : S, rndW P A n fuel l assign body (pset ps.toList args (ovrP lv u)) R w) {m : D}
    (hend : ∀ X' w', J L.length X' → Ow B w' (X' ++ H) → KN m w') (hZ : ∀ j X' w', Z j X' → Ow B w' (X' ++ H) → pend KN KR KE (some j) m w') {PK0 : List PanicEntry → World → Prop} :
    callF P g [.func (.yield w.heap.size) #[] #[]]
      (fun _ w3 => ∃ r : Loop, w3.heap[w.heap.size]? = some (.loop r) ∧ r.state ≠ .busy ∧ pend KN KR KE r.pending m (w3.putObj w.heap.size (.loop { r with state := .exhausted }))) PK0
      (w.alloc (.loop { state := .ready, pending := none, fn, tmps, params := ps, assign, body, defers := r0 })) := by
  refine hg _ (fun i Y => ∃ X, Y = (w.heap.size, recR { state := .ready, pending := none, fn, tmps, params := ps, assign, body, defers := r0 }) :: X ∧ J i X)
    (fun Y => ∃ j X, Y = (w.heap.size, recD { state := .ready, pending := none, fn, tmps, params := ps, assign, body, defers := r0 } j) :: X ∧ Z j X) _ _ _ _ rfl (hw.alloc _) ⟨X, rfl, j0⟩ ?_ ?_
  · rintro i args Y F K' PK' w1 hL ⟨X1, rfl, hj⟩ hF hw1 k1 k2
    refine yield_round (A := A) (fuel := fuel) hm (F := X1 ++ F) hw1 ht hlv (hps _ (List.mem_of_getElem? hL)) fun u => ?_
    exact round _ _ i args X1 F K' w1 rfl hL hj hF hw1 (fun X' w' h1 h2 => k1 _ w' h2 ⟨X', rfl, h1⟩) (fun j X' w' h1 h2 => k2 _ w' h2 ⟨j, X', rfl, h1⟩) u
  · rintro v Y w1 hw1 hd
    rcases hd with ⟨X1, rfl, hj⟩ | ⟨j, X1, rfl, hz⟩
    · refine ⟨_, hw1.mem _ _ List.mem_cons_self, by simp, ?_⟩
      exact hend X1 _ hj ((hw1.put (A := []) (.loop { state := .exhausted, pending := none, fn, tmps, params := ps, assign, body, defers := r0 })).drop)
    · refine ⟨_, hw1.mem _ _ List.mem_cons_self, by simp, ?_⟩
      exact hZ j X1 _ hz ((hw1.put (A := []) (.loop { state := .exhausted, pending := some j, fn, tmps, params := ps, assign, body, defers := r0 })).drop)
/-- A range of a function's own. -/
theorem range_fn (hm : P.follows .mixedOrders = true) (hg : Seq P B H g L) (hlv : ∀ p ∈ lv, p.1 < n) (hps : ∀ args ∈ L, args.length = ps.size)
    (hw : Ow B w (X ++ H)) (J : Nat → Hp → Prop) (Z : Code → Hp → Prop) (j0 : J 0 X)
    (round : ∀ (l : Nat) (r : Loop) (i : Nat) (args : List Value) (X F : Hp) (R : Value → World → Prop) (w : World), L[i]? = some args → J i X → (∀ x, x ∈ H → x ∈ F) → Ow B w ((l, recR r) :: (X ++ F)) →
      (∀ X' w', J (i + 1) X' → Ow B w' ((l, recR r) :: (X' ++ F)) → R (.bool true) w') → (∀ j X' w', Z j X' → Ow B w' ((l, recD r j) :: (X' ++ F)) → R (.bool false) w') →
      ∀ u : S, rndW P A n fuel l assign body (pset ps.toList args (ovrP lv u)) R w)
    (hend : ∀ b X' w', J L.length X' → Ow B w' ((b, .deferred (some [])) :: (X' ++ H)) → KN ({ target := .collected b, args := #[] } :: d) w')
    (hZ : ∀ b j X' w', Z j X' → Ow B w' ((b, .deferred (some [])) :: (X' ++ H)) → pend KN KR KE (some j) ({ target := .collected b, args := #[] } :: d) w') :
    RangeW P none n lv ps assign body g KN KR KE PK d w := by
  intro fn tmps ht hl
  refine ⟨_, _, _, ⟨rfl, rfl, rfl⟩, ?_⟩
  refine range_call (X := (w.heap.size, .deferred (some [])) :: X) (A := A) (fuel := fuel) (lv := lv) hm hg fn tmps _ ht (fun p hp => hl p hp (hlv p hp)) hps (hw.alloc _)
    (fun i Y => ∃ X, Y = (w.heap.size, .deferred (some [])) :: X ∧ J i X) (fun j Y => ∃ X, Y = (w.heap.size, .deferred (some [])) :: X ∧ Z j X) ⟨X, rfl, j0⟩ ?_ ?_ ?_
  · rintro l r i args Y F R w1 _ hL ⟨X1, rfl, hj⟩ hF hw1 k1 k2 u
    have e : ∀ (Y : Hp) (o : Nat × Obj), (o :: ((w.heap.size, Obj.deferred (some [])) :: Y ++ F)).Perm (o :: (Y ++ (w.heap.size, Obj.deferred (some [])) :: F)) := fun Y o => (List.perm_middle.symm).cons o
    exact round l r i args X1 ((w.heap.size, .deferred (some [])) :: F) R w1 hL hj (fun x hx => List.mem_cons_of_mem _ (hF x hx)) (hw1.perm (e _ _))
      (fun X' w' h1 h2 => k1 _ w' ⟨X', rfl, h1⟩ (h2.perm (e _ _).symm)) (fun j X' w' h1 h2 => k2 j _ w' ⟨X', rfl, h1⟩ (h2.perm (e _ _).symm)) u
  · rintro Y w' ⟨X', rfl, hj⟩ hw'
    exact hend _ X' w' hj hw'
  · rintro j Y w' ⟨X', rfl, hz⟩ hw'
    exact hZ _ j X' w' hz hw'
/-- A range in a round. -/
theorem range_in {l0 : Nat} {rl : Loop} (hm : P.follows .mixedOrders = true) (h0 : w.heap[l0]? = some (.loop rl)) (hg : Seq P B H g L) (hlv : ∀ p ∈ lv, p.1 < n) (hps : ∀ args ∈ L, args.length = ps.size)
    (hw : Ow B w (X ++ H)) (J : Nat → Hp → Prop) (Z : Code → Hp → Prop) (j0 : J 0 X)
    (round : ∀ (l : Nat) (r : Loop) (i : Nat) (args : List Value) (X F : Hp) (R : Value → World → Prop) (w : World), L[i]? = some args → J i X → (∀ x, x ∈ H → x ∈ F) → Ow B w ((l, recR r) :: (X ++ F)) →
      (∀ X' w', J (i + 1) X' → Ow B w' ((l, recR r) :: (X' ++ F)) → R (.bool true) w') → (∀ j X' w', Z j X' → Ow B w' ((l, recD r j) :: (X' ++ F)) → R (.bool false) w') →
      ∀ u : S, rndW P A n fuel l assign body (pset ps.toList args (ovrP lv u)) R w)
    (hend : ∀ X' w', J L.length X' → Ow B w' (X' ++ H) → KN d w')
    (hZ : ∀ j X' w', Z j X' → Ow B w' (X' ++ H) → pend KN KR KE (some j) d w') :
    RangeW P (some l0) n lv ps assign body g KN KR KE PK d w := by
  intro fn tmps ht hl
  refine ⟨_, _, _, ⟨rl, h0, rfl, rfl, rfl⟩, ?_⟩
  exact range_call (A := A) (fuel := fuel) (lv := lv) hm hg fn tmps _ ht (fun p hp => hl p hp (hlv p hp)) hps hw J Z j0 (fun l r i args X F R w _ => round l r i args X F R w) hend hZ

/-! ### At the end -/
theorem lv_nil {u : FrameMode} {E : FrameMode → World → Prop} (k : E u w) : LvW P [] u w E := k
theorem lv_ret {XK : World → Prop} {RE : Ending → World → Prop} {b : Nat} (h : Ow B w ((b, .deferred (some [])) :: C)) (k : ∀ w', Ow B w' C → XK w') :
    LvW P [{ target := .collected b, args := #[] }] .returning w (endV XK RE) :=
  ⟨by simp, .inl ⟨b, rfl, h.mem _ _ List.mem_cons_self, k _ (h.put (A := []) (.deferred none)).drop⟩⟩
end
end Go.Proofs.YtkkkcafkepnecaaGreat.Vc
