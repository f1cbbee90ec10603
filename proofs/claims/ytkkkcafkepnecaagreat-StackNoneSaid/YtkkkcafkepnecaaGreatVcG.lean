/- Soundness of the conditions: the whole. -/
import Derived.Test.YtkkkcafkepnecaaGreatVcF
set_option linter.unusedVariables false
set_option linter.unusedSimpArgs false
namespace Go.Proofs.YtkkkcafkepnecaaGreat.Vc
open Go Go.RowKit

section
variable {P : Program} {ro : Option Nat} {n : Nat}

theorem wpOpIn_monoQ {ops : Array Oper} {Q Q' : Q3} (hq : ∀ e a w, Q e a w → Q' e a w) {i : Nat} {K : Act → World → Prop} {a : Act} {w : World} (h : wpOpIn (FW ro) 0 P ops Q i K a w) : wpOpIn (FW ro) 0 P ops Q' i K a w := by
  unfold wpOpIn at *
  split
  · simpa [*] using h
  · rename_i o ho
    simp only [ho] at h
    split
    · rename_i hw
      simp only [hw, if_true] at h
      refine ⟨h.1, ?_⟩
      have h := h.2
      generalize (o.semAt (FW ro).round a.eval).run P w = r at *
      cases r with
      | ok x w' =>
        cases x <;> simp only [Oper.uponIn] at h ⊢ <;> first
          | exact h
          | exact ⟨h.1, CallsIn.mono h.2 (fun e w'' he => by cases e <;> first | exact he | exact hq _ _ _ he | exact (let ⟨a, w, x⟩ := he; ⟨a, w, hq _ _ _ x⟩))⟩
          | exact ⟨h.1, RoundIn.mono h.2 (fun e w'' he => by cases e <;> first | exact he | exact hq _ _ _ he | exact (let ⟨a, w, x⟩ := he; ⟨a, w, hq _ _ _ x⟩))⟩
      | halt x w' => cases x <;> simp only [Oper.uponIn] at h ⊢ <;> first | exact h | exact hq _ _ _ h
    · rename_i hw; simp only [hw] at h; exact h
theorem wpAnyIn_mono {ops : Array Oper} {Q Q' : Q3} (hq : ∀ e a w, Q e a w → Q' e a w) : ∀ {f : Nat} {listed : Array Bool} {a : Act} {w : World}, wpAnyIn (FW ro) 0 P .any ops Q f listed a w → wpAnyIn (FW ro) 0 P .any ops Q' f listed a w
  | 0, _, _, _, h => ⟨h.1, hq _ _ _ h.2⟩
  | f + 1, _, _, _, h => ⟨fun hr => hq _ _ _ (h.1 hr), fun i hi => wpOpIn_mono (fun a w h' => wpAnyIn_mono hq h') (wpOpIn_monoQ hq (h.2 i hi))⟩

theorem vc_sound (hm : P.follows .mixedOrders = true) (A : Note) : ∀ (f bid : Nat) (c : Code) (K : K4) (s : S) (d : D) (w : World), vc P A ro n f bid c K s d w →
    c.wpIn (FW ro) 0 P (lift n (asg c) s (lays c) d K) (act n s d) w := by
  intro f
  induction f with
  | zero => intro bid c K s d w h; exact h.elim
  | succ f ih =>
    intro bid c K s d w h
    have ar := agree.refl
    cases c with
    | skip => exact wpIn_skip ⟨s, d, rfl, ar _ _, fun _ => rfl, h⟩
    | label l => exact wpIn_label ⟨s, d, rfl, ar _ _, fun _ => rfl, h⟩
    | ret => exact wpIn_ret ⟨s, d, rfl, ar _ _, fun _ => rfl, h⟩
    | exit id => exact wpIn_exit ⟨s, d, rfl, ar _ _, fun _ => rfl, h⟩
    | goto l => exact wpIn_goto ⟨s, d, rfl, ar _ _, fun _ => rfl, h⟩
    | refuse y => exact h.elim
    | seq x y =>
      refine wpIn_seq (wpIn_mono (ih bid x _ s d w h) ?_)
      intro e a1 w1 he
      have la : ∀ i, i ∈ asg x → i ∈ asg (.seq x y) := fun i hi => List.mem_append_left _ hi
      have ll : lays (.seq x y) = false → lays x = false ∧ lays y = false := fun hf => by simpa [lays] using hf
      cases e with
      | normal =>
        obtain ⟨s1, d1, rfl, hag, hd, hk⟩ := he
        refine wpIn_mono (ih bid y K s1 d1 w1 hk) (lift_mono (fun i hi => List.mem_append_right _ hi) (hag.mono la) (fun hf => ⟨(ll hf).2, hd (ll hf).1⟩) fun _ _ _ _ _ h => h)
      | exit i => obtain ⟨s1, d1, rfl, hag, hd, hk⟩ := he; exact ⟨s1, d1, rfl, hag.mono la, fun hf => hd (ll hf).1, hk⟩
      | goto i => obtain ⟨s1, d1, rfl, hag, hd, hk⟩ := he; exact ⟨s1, d1, rfl, hag.mono la, fun hf => hd (ll hf).1, hk⟩
      | ret => obtain ⟨s1, d1, rfl, hag, hd, hk⟩ := he; exact ⟨s1, d1, rfl, hag.mono la, fun hf => hd (ll hf).1, hk⟩
      | panic c => obtain ⟨s1, d1, rfl, hk⟩ := he; exact ⟨s1, d1, rfl, hk⟩
      | outgrown => exact he.elim
    | cond x a b =>
      have ll : lays (.cond x a b) = false → lays a = false ∧ lays b = false := fun hf => by simpa [lays] using hf
      simp only [vc] at h
      unfold condV at h
      split at h
      · rename_i hx
        refine wpIn_cond_true (by rw [ev_act, hx]) (wpIn_mono (ih bid a K s d w h) (lift_mono (fun i hi => List.mem_append_left _ hi) (ar _ _) (fun hf => ⟨(ll hf).1, rfl⟩) fun _ _ _ _ _ h => h))
      · rename_i hx
        refine wpIn_cond_false (by rw [ev_act, hx]) (wpIn_mono (ih bid b K s d w h) (lift_mono (fun i hi => List.mem_append_right _ hi) (ar _ _) (fun hf => ⟨(ll hf).2, rfl⟩) fun _ _ _ _ _ h => h))
      · exact h.elim
    | block id a =>
      refine wpIn_block (wpIn_mono (ih id a _ s d w h) ?_)
      intro e a1 w1 he
      cases e with
      | normal => exact he
      | goto i => exact he
      | ret => exact he
      | panic c => exact he
      | outgrown => exact he.elim
      | exit i =>
        obtain ⟨s1, d1, rfl, hag, hd, hk⟩ := he
        simp only [Exit.inBlock]
        simp only at hk
        cases hb : Nat.beq i id
        · rw [hb] at hk
          have : i ≠ id := fun e => by rw [beq_iff.2 e] at hb; cases hb
          rw [if_neg this]
          exact ⟨s1, d1, rfl, hag, hd, hk⟩
        · rw [hb] at hk
          rw [if_pos (beq_iff.1 hb)]
          exact ⟨s1, d1, rfl, hag, hd, hk⟩
    | scope a =>
      refine wpIn_scope (wpIn_mono (ih bid a _ s d w h) ?_)
      intro e a1 w1 he
      cases e with
      | normal => exact he
      | exit i => exact he
      | ret => exact he
      | panic c => exact he
      | outgrown => exact he.elim
      | goto l =>
        obtain ⟨s1, d1, rfl, hag, hd, hk⟩ := he
        simp only at hk
        split at hk
        · rename_i rest hf
          refine ⟨rest, hf, wpIn_mono (ih bid rest _ s1 d1 w1 hk) ?_⟩
          have hsub : ∀ i, i ∈ asg rest → i ∈ asg (.scope a) := (find_asg hf : ∀ i, i ∈ asg rest → i ∈ asg a)
          have hlay : lays (.scope a) = false → lays rest = false := (find_lays hf : lays a = false → lays rest = false)
          intro e a2 w2 he
          cases e with
          | goto i => obtain ⟨s2, d2, rfl, _, _, hf⟩ := he; exact hf.elim
          | outgrown => exact he.elim
          | panic c => exact he
          | normal => obtain ⟨s2, d2, rfl, hag2, hd2, hk2⟩ := he; exact ⟨s2, d2, rfl, hag.trans (hag2.mono hsub), fun hf => (hd2 (hlay hf)).trans (hd hf), hk2⟩
          | ret => obtain ⟨s2, d2, rfl, hag2, hd2, hk2⟩ := he; exact ⟨s2, d2, rfl, hag.trans (hag2.mono hsub), fun hf => (hd2 (hlay hf)).trans (hd hf), hk2⟩
          | exit i => obtain ⟨s2, d2, rfl, hag2, hd2, hk2⟩ := he; exact ⟨s2, d2, rfl, hag.trans (hag2.mono hsub), fun hf => (hd2 (hlay hf)).trans (hd hf), hk2⟩
        · exact hk.elim
    | region id ops draw =>
      simp only [vc] at h
      have hno : lays (.region id ops draw) = false → ∀ (i : Nat) o, ops[i]? = some o → ∀ c, o.op ≠ .defer c := fun hf i o hi c => lays_region hf i o hi c
      cases draw
      · refine wpIn_region ?_
        rw [List.range_eq_range', show ops.size = ops.toList.length by simp]
        exact opsW_sound (KK := K) hno ops.toList 0 s d w rfl (ar _ _) (fun _ => rfl) h
      · simp only [cond_true] at h
        cases hns : Region.noSelect ops
        · rw [hns] at h; exact h.elim
        · rw [hns] at h
          simp only [Bool.not_true, cond_false] at h
          refine wpIn_region_any hm ?_
          cases hl : leftLd ops (Array.replicate ops.size false)
          · rw [hl] at h
            refine wpAnyIn_of_H (H := fun _ => True) _ _ _ _ ?_ |> wpAnyIn_mono lift_of_D
            exact drawW_sound (KK := K) hno hns ops.size _ s d w.drew (unl_start _ _) (dn_start _) (fun _ => trivial) (ar _ _) (fun _ => rfl) h
          · rw [hl] at h
            obtain ⟨H, hH, h⟩ := h
            refine wpAnyIn_of_H (H := H) _ _ _ _ ?_ |> wpAnyIn_mono lift_of_D
            exact drawW_sound (KK := K) hno hns ops.size _ s d w.drew (unl_start _ _) (dn_start _) (fun _ => hH) (ar _ _) (fun _ => rfl) h
    | loop a =>
      simp only [vc] at h
      cases hl : lays a
      · rw [hl] at h
        obtain ⟨I, μ, h0, hr⟩ := h
        refine wpIn_loopG (fun m a1 w1 => ∃ s1, a1 = act n s1 d ∧ agree (asg a) s s1 ∧ I (picks s1 (look bid A.car)) w1 ∧ μ (picks s1 (look bid A.car)) w1 = m) _ ⟨s, rfl, ar _ _, h0, rfl⟩ ?_
        rintro m a1 w1 ⟨s1, rfl, hag, hI, rfl⟩
        have hb := ih bid a _ _ d w1 (hr _ _ hI s1)
        rw [ovr_picks _ _ _ (fun _ _ => rfl), hag.mix] at hb
        refine wpIn_mono hb ?_
        intro e a2 w2 he
        have ll : lays (.loop a) = false := hl
        cases e with
        | normal =>
          obtain ⟨s2, d2, rfl, hag2, hd2, hI2, hlt⟩ := he
          rw [hd2 hl]
          exact ⟨_, hlt, s2, rfl, hag.trans hag2, hI2, rfl⟩
        | exit i => obtain ⟨s2, d2, rfl, hag2, hd2, hk⟩ := he; exact ⟨s2, d2, rfl, hag.trans hag2, fun _ => hd2 hl, hk⟩
        | goto i => obtain ⟨s2, d2, rfl, hag2, hd2, hk⟩ := he; exact ⟨s2, d2, rfl, hag.trans hag2, fun _ => hd2 hl, hk⟩
        | ret => obtain ⟨s2, d2, rfl, hag2, hd2, hk⟩ := he; exact ⟨s2, d2, rfl, hag.trans hag2, fun _ => hd2 hl, hk⟩
        | panic c => obtain ⟨s2, d2, rfl, hk⟩ := he; exact ⟨s2, d2, rfl, hk⟩
        | outgrown => exact he.elim
      · rw [hl] at h
        obtain ⟨I, μ, h0, hr⟩ := h
        refine wpIn_loopG (fun m a1 w1 => ∃ s1 d1, a1 = act n s1 d1 ∧ agree (asg a) s s1 ∧ I (picks s1 (look bid A.car)) d1 w1 ∧ μ (picks s1 (look bid A.car)) d1 w1 = m) _ ⟨s, d, rfl, ar _ _, h0, rfl⟩ ?_
        rintro m a1 w1 ⟨s1, d1, rfl, hag, hI, rfl⟩
        have hb := ih bid a _ _ d1 w1 (hr _ _ _ hI s1)
        rw [ovr_picks _ _ _ (fun _ _ => rfl), hag.mix] at hb
        refine wpIn_mono hb ?_
        intro e a2 w2 he
        have ll : lays (.loop a) = true := hl
        have no : ∀ {x : Prop}, lays (.loop a) = false → x := fun hf => by rw [ll] at hf; cases hf
        cases e with
        | normal =>
          obtain ⟨s2, d2, rfl, hag2, hd2, hI2, hlt⟩ := he
          exact ⟨_, hlt, s2, d2, rfl, hag.trans hag2, hI2, rfl⟩
        | exit i => obtain ⟨s2, d2, rfl, hag2, hd2, hk⟩ := he; exact ⟨s2, d2, rfl, hag.trans hag2, no, hk⟩
        | goto i => obtain ⟨s2, d2, rfl, hag2, hd2, hk⟩ := he; exact ⟨s2, d2, rfl, hag.trans hag2, no, hk⟩
        | ret => obtain ⟨s2, d2, rfl, hag2, hd2, hk⟩ := he; exact ⟨s2, d2, rfl, hag.trans hag2, no, hk⟩
        | panic c => obtain ⟨s2, d2, rfl, hk⟩ := he; exact ⟨s2, d2, rfl, hk⟩
        | outgrown => exact he.elim
    | rangeFunc g ps as body => exact range_sound rfl (ar _ _) h

/-! ### A function -/
def resF (tmps : Array Value) (x : ResultVar) : Sem Value := match x with
  | .tmp t => pure (tmps.getD t undef)
  | .cell a t => do loadVar t (← asAddr (tmps.getD a undef))
theorem results_eq (fn : Func) (tmps : Array Value) : results fn tmps = (do
    let vs ← fn.results.mapM (resF tmps)
    pure (if h : vs.size = 1 then vs[0] else .tuple vs)) := rfl
theorem results_run {fn : Func} {s : S} {w : World} {K : List Value → Prop} (h : resW P fn.ntmps s w fn.results.toList K) : ∃ v, (results fn (rep fn.ntmps s)).run P w = .ok v w ∧ ∃ vs, v = oneV vs ∧ K vs := by
  have key : ∀ (l : List ResultVar) (K : List Value → Prop), resW P fn.ntmps s w l K → ∃ vs, K vs ∧ (l.mapM (resF (rep fn.ntmps s))).run P w = .ok vs w := by
    intro l
    induction l with
    | nil => intro K h; exact ⟨[], h, by simp [Sem.run_pure]⟩
    | cons x l ih =>
      intro K h
      cases x with
      | tmp t =>
        obtain ⟨vs, hk, hr⟩ := ih _ h
        refine ⟨rd fn.ntmps s t :: vs, hk, ?_⟩
        rw [List.mapM_cons]
        simp only [resF, Sem.run_bind, Sem.run_pure, Result.andThen, hr]
        rw [Array.getD_eq_getD_getElem?, rep_getD]
      | cell a t =>
        simp only [resW] at h
        split at h
        · rename_i z hz
          obtain ⟨v, hv, h⟩ := h
          obtain ⟨vs, hk, hr⟩ := ih _ h
          refine ⟨v :: vs, hk, ?_⟩
          have hld := rd_sound hz hv
          have hadr : rd fn.ntmps s a = (rep fn.ntmps s).getD a undef := by rw [Array.getD_eq_getD_getElem?, rep_getD]
          rw [hadr] at hld
          have h1 : (resF (rep fn.ntmps s) (.cell a t)).run P w = .ok v w := by
            show (do loadVar t (← asAddr ((rep fn.ntmps s).getD a undef)) : Sem Value).run P w = .ok v w
            generalize (rep fn.ntmps s).getD a undef = x at hld ⊢
            unfold Instr.loadAt Instr.sureAddr at hld
            split at hld
            · simpa [asAddr, Sem.run_bind, Sem.run_pure, Result.andThen] using hld
            · simp [stuck, Sem.run_bind, Sem.run, Result.andThen] at hld
          rw [List.mapM_cons]
          simp only [Sem.run_bind, h1, Result.andThen, hr, Sem.run_pure]
        · exact h.elim
  obtain ⟨vs, hk, hr⟩ := key _ K h
  refine ⟨oneV vs, ?_, vs, rfl, hk⟩
  rw [results_eq]
  have harr : (fn.results.mapM (resF (rep fn.ntmps s))).run P w = .ok vs.toArray w := by
    rw [Array.mapM_eq_mapM_toList, map_eq_pure_bind]
    simp only [Sem.run_bind, hr, Sem.run_pure, Result.andThen, Function.comp]
  simp only [Sem.run_bind, harr, Result.andThen, Sem.run_pure]
  congr 1
  cases vs with
  | nil => rfl
  | cons v vs => cases vs with
    | nil => rfl
    | cons u vs => simp [oneV]

theorem LvW_sound {fn : Func} {s : S} {R : Ending → World → Prop} : ∀ (d : D) (u : FrameMode) (w : World), LvW P d u w (endU P fn.ntmps s fn.results.toList R) → LeavesInM (FW none) 0 P fn (rep fn.ntmps s) R d u w := by
  intro d
  induction d with
  | nil =>
    intro u w h
    cases u with
    | run => exact h.elim
    | returning =>
      obtain ⟨v, hr, vs, rfl, hk⟩ := results_run h
      exact ⟨_, hr, hk⟩
    | panicking ch => exact h
  | cons x d ih =>
    intro u w h
    obtain ⟨hu, h⟩ := h
    refine ⟨hu, ?_⟩
    rcases h with ⟨r, ht, hh, hn⟩ | ⟨f, ht, hf, hc⟩
    · exact .inl ⟨r, _, ht, run_takeDeferred hh, ih u _ hn⟩
    · refine .inr ⟨fun h => by simp [FW] at h, .func f, #[], f, x.args, ht, ?_, fun _ _ => trivial, ?_⟩
      · rw [ht]; simp only [invoke]
        have := okFn_run hf (x.args ++ #[]) w
        simpa using this
      · refine ⟨hc.1, fun c cs hcm hroom => ?_⟩
        obtain ⟨e, u', w', fr, hR, rest⟩ := hc.2 c cs hcm hroom
        refine ⟨e, u', w', fr, ?_, rest⟩
        cases e with
        | returned v => exact ih _ _ hR
        | panicked ch => exact ih _ _ hR
        | outgrown => exact hR.elim

/-- **A function's contract out of its conditions.** -/
theorem fnW_sound (hm : P.follows .mixedOrders = true) {A : Note} {fuel : Nat} {f : FuncId} {fn : Func} (hf : P.funcs[f]? = some fn) {args : List Value} {R : Ending → World → Prop} {w : World}
    (h : fnW P A fuel fn args R w) : Calls P f args.toArray w R := by
  unfold fnW at h
  split at h
  · exact h.elim
  · rename_i c hb
    cases hle : Nat.ble args.length fn.ntmps
    · rw [hle] at h; exact h.elim
    · rw [hle] at h
      simp only [cond_true] at h
      have hle' : args.toArray.size ≤ fn.ntmps := by simpa using Nat.le_of_ble_eq_true hle
      refine callsIn_wide.1 (show CallsIn (FW none) 0 P f args.toArray w R from callsIn_of_wp_marks hf hb trivial ?_)
      rw [rep_ini hle']
      refine wpIn_mono (vc_sound hm A fuel 0 c _ _ _ w h) ?_
      intro e a w' he
      cases e with
      | normal => obtain ⟨s, d, rfl, _, _, hk⟩ := he; exact LvW_sound d _ w' hk
      | ret => obtain ⟨s, d, rfl, _, _, hk⟩ := he; exact LvW_sound d _ w' hk
      | panic ch => obtain ⟨s, d, rfl, hk⟩ := he; exact LvW_sound d _ w' hk
      | exit i => obtain ⟨s, d, rfl, _, _, hk⟩ := he; exact hk.elim
      | goto i => obtain ⟨s, d, rfl, _, _, hk⟩ := he; exact hk.elim
      | outgrown => exact he.elim

theorem pset_fold (n : Nat) : ∀ (ps : List Tmp) (vs : List Value) (s : S), (ps.zip vs).foldl (fun tmps (p : Tmp × Value) => tmps.setIfInBounds p.1 p.2) (rep n s) = rep n (pset ps vs s)
  | [], vs, s => by simp [pset]
  | p :: ps, [], s => by simp [pset]
  | p :: ps, v :: vs, s => by
    simp only [List.zip_cons_cons, List.foldl_cons, pset, rep_set]
    exact pset_fold n ps vs _
theorem ovrP_self {lv : List (Nat × Value)} {u : S} (h : ∀ p ∈ lv, u p.1 = p.2) : ovrP lv u = u := by
  induction lv with
  | nil => rfl
  | cons p lv ih =>
    obtain ⟨i, v⟩ := p
    funext j
    simp only [ovrP, ih (fun p hp => h p (List.mem_cons_of_mem _ hp))]
    cases hb : Nat.beq j i
    · rfl
    · rw [beq_iff.1 hb]; exact (h (i, v) List.mem_cons_self).symm
theorem rEnd_run {l : Nat} {j : Option Code} {R : Value → World → Prop} {w : World} (h : rEnd l j R w) : ∃ v w', (Instr.endRound l j).run P w = .ok v w' ∧ R v w' := by
  obtain ⟨r, hr, h⟩ := h
  exact ⟨_, _, run_endRound j hr, h⟩
/-- **A round out of its conditions.** -/
theorem rndW_sound (hm : P.follows .mixedOrders = true) {A : Note} {fuel l : Nat} {r : Loop} {args : List Value} {R : Value → World → Prop} {PK : List PanicEntry → World → Prop} {w : World}
    (hr : w.heap[l]? = some (.loop r)) (ha : args.length = r.params.size) (hn : r.tmps.size = n) {lv : List (Nat × Value)} (hlv : ∀ p ∈ lv, r.tmps[p.1]? = some p.2)
    (h : ∀ u : S, rndW P A n fuel l r.assign r.body (pset r.params.toList args (ovrP lv u)) R w) : roundW P l args R PK w := by
  refine ⟨r, hr, ha, ?_⟩
  have ht : r.tmps = rep n fun i => r.tmps.getD i undef := by
    apply Array.ext
    · simp [hn]
    · intro i h3 h4; simp [rep, Array.getD, h3]
  have hfold : (r.params.zip args.toArray).foldl (fun tmps (t, a) => tmps.setIfInBounds t a) r.tmps = rep n (pset r.params.toList args (fun i => r.tmps.getD i undef)) := by
    rw [← Array.foldl_toList]
    rw [Array.toList_zip, ← pset_fold]
    rw [← ht]
  rw [hfold]
  have h := h (fun i => r.tmps.getD i undef)
  rw [ovrP_self (fun p hp => by
    have := hlv p hp
    simp only [Array.getD_eq_getD_getElem?, this, Option.getD_some])] at h
  generalize pset r.params.toList args (fun i => r.tmps.getD i undef) = s at h
  refine roundIn_of_wpIn trivial ?_
  refine wpIn_mono (vc_sound hm A fuel 0 r.assign _ s [] w h) ?_
  intro e a w1 he
  cases e with
  | normal =>
    obtain ⟨s1, d1, rfl, _, _, r1, hr1, hs1, hk⟩ := he
    refine ⟨_, run_beginRound hr1 hs1, wpIn_mono (vc_sound hm A fuel 0 r.body _ s1 d1 _ hk) ?_⟩
    intro e a w2 he
    cases e with
    | normal => obtain ⟨_, _, _, _, _, hk⟩ := he; exact rEnd_run hk
    | exit i => obtain ⟨_, _, _, _, _, hk⟩ := he; exact rEnd_run hk
    | goto i => obtain ⟨_, _, _, _, _, hk⟩ := he; exact rEnd_run hk
    | ret => obtain ⟨_, _, _, _, _, hk⟩ := he; exact rEnd_run hk
    | panic c => obtain ⟨_, _, _, hk⟩ := he; exact hk.elim
    | outgrown => exact he.elim
  | exit i => obtain ⟨_, _, _, _, _, hk⟩ := he; exact hk.elim
  | goto i => obtain ⟨_, _, _, _, _, hk⟩ := he; exact hk.elim
  | ret => obtain ⟨_, _, _, _, _, hk⟩ := he; exact hk.elim
  | panic c => obtain ⟨_, _, _, hk⟩ := he; exact hk.elim
  | outgrown => exact he.elim
end
end Go.Proofs.YtkkkcafkepnecaaGreat.Vc
