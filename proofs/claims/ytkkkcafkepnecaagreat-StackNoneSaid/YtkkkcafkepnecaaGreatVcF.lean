/- Soundness of the conditions: code and functions. -/
import Derived.Test.YtkkkcafkepnecaaGreatVcE
set_option linter.unusedVariables false
set_option linter.unusedSimpArgs false
namespace Go.Proofs.YtkkkcafkepnecaaGreat.Vc
open Go Go.RowKit

section
variable {P : Program} {ro : Option Nat} {n : Nat} {Q : Q3} {a : Act} {w : World}

theorem stepR_scope {b : Frame} {k : List Item} {cs : List Frame} {c : Code} : step P (lone (b.atR a (.code (.scope c) :: k)) cs w) = .next (lone (b.atR a (.code c :: .inScope c :: k)) cs w) :=
  step_lone_go (by simp [stepG, stepG.exec, Frame.atR])
theorem stepR_inScope {b : Frame} {k : List Item} {cs : List Frame} {c : Code} : step P (lone (b.atR a (.inScope c :: k)) cs w) = .next (lone (b.atR a k) cs w) :=
  step_lone_go (by simp [stepG, stepG.exec, Frame.atR])
theorem stepsFW {m m' : Machine} (h : step P m = .next m') : StepsIn (Machine.fenced P (FW ro)) P m m' := .one (fenced_wide P m) h

/-- Behind a jump to a label of the scope no other jump is taken. -/
def noG (Q : Q3) : Q3 := fun e a w => match e with
  | .goto _ => False
  | e => Q e a w
def scG (P : Program) (ro : Option Nat) (c : Code) (Q : Q3) : Q3 := fun e a w => match e with
  | .goto l => ∃ rest, findLabel c l = some rest ∧ rest.wpIn (FW ro) 0 P (noG Q) a w
  | e => Q e a w
theorem wpIn_scope {c : Code} (h : c.wpIn (FW ro) 0 P (scG P ro c Q) a w) : (Code.scope c).wpIn (FW ro) 0 P Q a w := by
  intro b k cs hro hb hr
  obtain ⟨e, a₁, w₁, hq, harr⟩ := h b (.inScope c :: k) cs hro hb hr
  have h0 : StepsIn (Machine.fenced P (FW ro)) P (lone (b.atR a (.code (.scope c) :: k)) cs w) (lone (b.atR a (.code c :: .inScope c :: k)) cs w) := stepsFW stepR_scope
  have ex : ∀ i, exitTo i (Item.inScope c :: k) = exitTo i k := fun i => rfl
  cases e with
  | normal => exact ⟨.normal, a₁, w₁, hq, (h0.trans harr).trans (stepsFW stepR_inScope)⟩
  | exit id => exact ⟨.exit id, a₁, w₁, hq, .of_steps h0 ⟨fun k' hk => harr.1 k' (by rw [ex]; exact hk), fun hr hk => harr.2 hr (by rw [ex]; exact hk)⟩⟩
  | ret => exact ⟨_, a₁, w₁, hq, .of_steps h0 harr⟩
  | panic ch => exact ⟨_, a₁, w₁, hq, .of_steps h0 harr⟩
  | outgrown => exact ⟨_, a₁, w₁, hq, .of_steps (b := b) (k := k) (cs := cs) (e := .outgrown) h0 harr⟩
  | goto l =>
    obtain ⟨rest, hf, hrest⟩ := hq
    have hg : gotoIn l (.inScope c :: k) = some (.code rest :: .inScope c :: k) := by simp [gotoIn, hf]
    have h1 := h0.trans (harr.1 _ hg)
    obtain ⟨e₂, a₂, w₂, hq₂, harr₂⟩ := hrest b (.inScope c :: k) cs hro hb hr
    cases e₂ with
    | normal => exact ⟨.normal, a₂, w₂, hq₂, (h1.trans harr₂).trans (stepsFW stepR_inScope)⟩
    | exit id => exact ⟨.exit id, a₂, w₂, hq₂, .of_steps h1 ⟨fun k' hk => harr₂.1 k' (by rw [ex]; exact hk), fun hr hk => harr₂.2 hr (by rw [ex]; exact hk)⟩⟩
    | ret => exact ⟨_, a₂, w₂, hq₂, .of_steps h1 harr₂⟩
    | panic ch => exact ⟨_, a₂, w₂, hq₂, .of_steps h1 harr₂⟩
    | outgrown => exact ⟨_, a₂, w₂, hq₂, .of_steps (b := b) (k := k) (cs := cs) (e := .outgrown) h1 harr₂⟩
    | goto l' => exact hq₂.elim

theorem lift_mono {l l' : List Nat} {s0 s1 : S} {lay lay' : Bool} {d0 d1 : D} {K K' : K4} (hl : ∀ i, i ∈ l → i ∈ l') (hs : agree l' s1 s0) (hd : lay' = false → lay = false ∧ d0 = d1)
    (hk : ∀ e s d w, e ≠ .outgrown → K e s d w → K' e s d w) : ∀ e a w, lift n l s0 lay d0 K e a w → lift n l' s1 lay' d1 K' e a w := by
  intro e a w h
  cases e <;> first
    | exact h.elim
    | (obtain ⟨s, d, ha, hag, hdd, hkk⟩ := h
       exact ⟨s, d, ha, hs.trans (hag.mono hl), fun hf => (hdd (hd hf).1).trans (hd hf).2, hk _ _ _ _ (by simp) hkk⟩)
    | (obtain ⟨s, d, ha, hkk⟩ := h
       exact ⟨s, d, ha, hk _ _ _ _ (by simp) hkk⟩)

theorem follow_mixed (h : P.follow = Departure.all) : P.follows .mixedOrders = true := by
  show P.follow.contains _ = true
  rw [h]; rfl

theorem lays_region {id : Nat} {ops : Array Oper} {b : Bool} (h : lays (.region id ops b) = false) (i : Nat) (o : Oper) (hi : ops[i]? = some o) (c : Call) : o.op ≠ .defer c := by
  intro hc
  have hm : o ∈ ops.toList := by simpa using Array.mem_of_getElem? hi
  simp only [lays, List.any_eq_false] at h
  have := h o hm
  rw [hc] at this
  exact this rfl
theorem dn_start (ops : Array Oper) : Dn ops (Array.replicate ops.size false) := by
  intro k o _ hk
  exfalso
  by_cases h : k < ops.size <;> simp [h] at hk
theorem unl_start (ops : Array Oper) (l : Array Bool) : unl ops l ≤ ops.size := by
  unfold unl
  exact Nat.le_trans (List.length_filter_le _ _) (by simp)

theorem find_asg {l : Nat} : ∀ {a rest : Code}, findLabel a l = some rest → ∀ i, i ∈ asg rest → i ∈ asg a := by
  intro a
  induction a with
  | seq x y ihx ihy =>
    intro rest hf
    simp only [findLabel] at hf
    split at hf
    · rename_i r hx
      cases hf
      intro i hi
      rcases List.mem_append.1 hi with hi | hi
      · exact List.mem_append_left _ (ihx hx i hi)
      · exact List.mem_append_right _ hi
    · intro i hi; exact List.mem_append_right _ (ihy hf i hi)
  | label l' => intro rest hf; simp only [findLabel] at hf; split at hf <;> cases hf; intro i hi; cases hi
  | _ => intro rest hf; simp [findLabel] at hf
theorem find_lays {l : Nat} : ∀ {a rest : Code}, findLabel a l = some rest → lays a = false → lays rest = false := by
  intro a
  induction a with
  | seq x y ihx ihy =>
    intro rest hf hl
    have hl' : lays x = false ∧ lays y = false := by simpa [lays] using hl
    simp only [findLabel] at hf
    split at hf
    · rename_i r hx
      cases hf
      simp only [lays, ihx hx hl'.1, hl'.2, Bool.or_false]
    · exact ihy hf hl'.2
  | label l' => intro rest hf _; simp only [findLabel] at hf; split at hf <;> cases hf; rfl
  | _ => intro rest hf; simp [findLabel] at hf
/-- The body of a round on yield's frame: what the record bears. -/
theorem picks_map (s : S) (l : List Nat) : picks s l = l.map s := by induction l <;> simp_all [picks]
theorem ovr_picks (l : List Nat) (s u : S) (h : ∀ i, i ∉ l → u i = s i) : ovr l (picks s l) u = s := by
  induction l with
  | nil => funext j; exact h j (by simp)
  | cons i l ih =>
    funext j
    simp only [ovr, picks, List.headD_cons, List.tail_cons]
    cases hb : Nat.beq j i
    · have hne : j ≠ i := fun e => by rw [beq_iff.2 e] at hb; cases hb
      show ovr l (picks s l) u j = s j
      by_cases hj : j ∈ l
      · -- in l: the list gives it
        clear ih
        have key : ∀ (l : List Nat), j ∈ l → ovr l (picks s l) u j = s j := by
          intro l
          induction l with
          | nil => intro h; cases h
          | cons x l ihl =>
            intro hm
            simp only [ovr, picks, List.headD_cons, List.tail_cons]
            cases hx : Nat.beq j x
            · have : j ≠ x := fun e => by rw [beq_iff.2 e] at hx; cases hx
              exact ihl ((List.mem_cons.1 hm).resolve_left this)
            · rw [beq_iff.1 hx]; rfl
        exact key l hj
      · have key : ∀ (l : List Nat), j ∉ l → ovr l (picks s l) u j = u j := by
          intro l
          induction l with
          | nil => intro _; rfl
          | cons x l ihl =>
            intro hm
            simp only [ovr, picks, List.headD_cons, List.tail_cons]
            have hx : Nat.beq j x = false := by
              cases hx : Nat.beq j x
              · rfl
              · exact absurd (List.mem_cons.2 (.inl (beq_iff.1 hx))) hm
            rw [hx]
            exact ihl (fun h => hm (List.mem_cons_of_mem _ h))
        rw [key l hj]
        exact h j (by simp [hne, hj])
    · rw [beq_iff.1 hb]; rfl

theorem wpIn_loopG {F : Fence} {m0 : Nat} {c : Code} (I : Nat → Act → World → Prop) (m : Nat) (h₀ : I m a w)
    (round : ∀ m a w, I m a w → c.wpIn F m0 P (Exit.then (fun a' w' => ∃ m', m' < m ∧ I m' a' w') Q) a w) : (Code.loop c).wpIn F m0 P Q a w := by
  intro b k cs hro hb hr
  have key : ∀ m a w, I m a w → ∃ e a' w', Q e a' w' ∧ ArrivesIn (Machine.fenced P F) P (lone (b.atR a (.code c :: .inLoop c :: k)) cs w) b k cs e a' w' := by
    intro m
    induction m using Nat.strongRecOn with
    | _ m ih =>
      intro a w hI
      obtain ⟨e, a₁, w₁, hq, harr⟩ := round m a w hI b (.inLoop c :: k) cs hro hb hr
      cases e with
      | normal =>
        obtain ⟨m', hlt, hI₁⟩ := hq
        obtain ⟨e₂, a₂, w₂, hq₂, harr₂⟩ := ih m' hlt a₁ w₁ hI₁
        exact ⟨e₂, a₂, w₂, hq₂, .of_steps (StepsIn.trans harr (.one (fenced_calm hb hr rfl) stepR_inLoop)) harr₂⟩
      | exit id => exact ⟨_, a₁, w₁, hq, .pass (x := .inLoop c) rfl (fun _ _ => .inl (by simp)) harr⟩
      | goto l => exact ⟨_, a₁, w₁, hq, .pass (x := .inLoop c) rfl (fun _ _ => .inl (by simp)) harr⟩
      | ret => exact ⟨_, a₁, w₁, hq, .pass (x := .inLoop c) rfl (fun _ _ => .inl (by simp)) harr⟩
      | panic ch => exact ⟨_, a₁, w₁, hq, .pass (x := .inLoop c) rfl (fun _ _ => .inl (by simp)) harr⟩
      | outgrown => exact ⟨_, a₁, w₁, hq, .pass (x := .inLoop c) rfl (fun _ _ => .inl (by simp)) harr⟩
  obtain ⟨e, a', w', hq, harr⟩ := key m a w h₀
  exact ⟨e, a', w', hq, .of_steps (.one (fenced_calm hb hr rfl) stepR_loop) harr⟩

theorem mem_exits_find {KE : List (Nat × (D → World → Prop))} {id : Nat} {p : Nat × (D → World → Prop)} (h : KE.find? (fun p => p.1 == id) = some p) : p.1 = id := by
  have := List.find?_some h
  simpa using this

theorem range_sound {l : List Nat} {s0 s : S} {lay : Bool} {d0 d : D} {K : K4} {lv : List Nat} {ids : List Nat} {g : Operand} {ps : Array Tmp} {assign body : Code}
    (hl : lay = true) (hag : agree l s0 s)
    (h : RangeW P ro n (live s lv) ps assign body (ev n s g) (fun d w => K .normal s d w) (fun d w => K .ret s d w) (ids.map fun id => (id, fun d w => K (.exit id) s d w)) (fun c d w => K (.panic c) s d w) d w) :
    (Code.rangeFunc g ps assign body).wpIn (FW ro) 0 P (lift n l s0 lay d0 K) (act n s d) w := by
  refine wpIn_rangeFunc fun fn _ => ?_
  have hlive : ∀ p ∈ live s lv, p.1 < n → (rep n s)[p.1]? = some p.2 := by
    clear h
    induction lv with
    | nil => intro p hp; cases hp
    | cons i l ih =>
      intro p hp hlt
      rcases List.mem_cons.1 hp with rfl | hp
      · show (rep n s)[i]? = some (s i)
        rw [rep_get, if_pos hlt]
      · exact ih p hp hlt
  obtain ⟨r0, mark, w0, hw0, hcall⟩ := h fn (rep n s) (by simp) hlive
  have henter : (Instr.enterLoop fn (act n s d).tmps ps assign body ro).run P w = .ok (w0.heap.size, mark) (w0.alloc (.loop { state := .ready, pending := none, fn, tmps := rep n s, params := ps, assign, body, defers := r0 })) := by
    cases ro with
    | none =>
      obtain ⟨rfl, rfl, rfl⟩ := hw0
      rw [run_enterLoop_outer]
      simp [act]
    | some l0 =>
      obtain ⟨rl, hrl, rfl, rfl, rfl⟩ := hw0
      simp only [Instr.enterLoop, Sem.run_bind, run_getLoop hrl, Result.andThen, Sem.run_pure, run_newObj_alloc]
      rfl
  have hfin : ∀ (e : Ending) (w3 : World), (match e with
      | .returned v => ∃ r : Loop, w3.heap[w0.heap.size]? = some (.loop r) ∧ r.state ≠ .busy ∧ pend (fun d w => K .normal s d w) (fun d w => K .ret s d w) (ids.map fun id => (id, fun d w => K (.exit id) s d w)) r.pending (mark ++ d) (w3.putObj w0.heap.size (.loop { r with state := .exhausted }))
      | .panicked c => K (.panic c) s (mark ++ d) w3
      | .outgrown => False) → rangePost (FW ro) 0 P w0.heap.size (lift n l s0 lay d0 K) { act n s d with defers := mark ++ (act n s d).defers } e w3 := by
    intro e w3 he
    have hact : ({ act n s d with defers := mark ++ (act n s d).defers } : Act) = act n s (mark ++ d) := rfl
    cases e with
    | outgrown => exact he.elim
    | panicked c => exact ⟨s, mark ++ d, rfl, he⟩
    | returned v =>
      obtain ⟨r, hr, hb, hp⟩ := he
      have hr4 := run_endLoop (P := P) hr hb
      generalize w3.putObj w0.heap.size (.loop { r with state := .exhausted }) = w4 at hr4 hp
      refine ⟨r.pending, w4, hr4, ?_⟩
      rw [hact]
      have hfd : ∀ d', lay = false → d' = d0 := fun d' hf => by rw [hl] at hf; cases hf
      generalize r.pending = pe at *
      unfold pend at hp
      split at hp
      · exact ⟨s, _, rfl, hag, hfd _, hp⟩
      · exact wpIn_ret ⟨s, _, rfl, hag, hfd _, hp⟩
      · rename_i id
        split at hp
        · rename_i p hfind
          have hid := mem_exits_find hfind
          obtain ⟨i, _, hi⟩ := List.mem_map.1 (List.mem_of_find?_eq_some hfind)
          subst hi
          simp only at hid hp
          subst hid
          exact wpIn_exit ⟨s, _, rfl, hag, hfd _, hp⟩
        · exact hp.elim
      · exact hp.elim
  obtain ⟨f, first, cap, hg, hf, hc⟩ := hcall
  generalize hw1 : w0.alloc (.loop { state := .ready, pending := none, fn, tmps := rep n s, params := ps, assign, body, defers := r0 }) = w1 at henter hc
  refine ⟨w0.heap.size, mark, w1, { target := .fn (.func f) cap, args := first ++ #[.func (.yield w0.heap.size) #[] #[]] }, w1, f, (first ++ #[.func (.yield w0.heap.size) #[] #[]]) ++ cap, w1, henter, ?_, fun _ _ => trivial, ?_, fun h => by simp [FW] at h, ?_⟩
  · rw [ev_act]
    rw [resolve_run _ (rangeCall g w0.heap.size) 0 g rfl, hg]
    simp [rangeCall, Deferred.ofValue, Sem.run_pure, ev]
  · simp only [invoke]; exact okFn_run hf _ _
  · refine callsIn_FW (Calls.mono (show Calls P f _ _ _ from ?_) hfin)
    have : (first ++ #[.func (.yield w0.heap.size) #[] #[]]) ++ cap = (first.toList ++ [Value.func (.yield w0.heap.size) #[] #[]] ++ cap.toList).toArray := by apply Array.ext'; simp
    rw [this]
    refine Calls.mono hc fun e w' he => ?_
    cases e <;> exact he
end
end Go.Proofs.YtkkkcafkepnecaaGreat.Vc
