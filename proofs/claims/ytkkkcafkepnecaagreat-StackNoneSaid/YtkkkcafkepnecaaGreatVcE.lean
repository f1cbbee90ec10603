/- Soundness of the conditions: regions, in order and drawn. -/
import Derived.Test.YtkkkcafkepnecaaGreatVcD
set_option linter.unusedVariables false
set_option linter.unusedSimpArgs false
namespace Go.Proofs.YtkkkcafkepnecaaGreat.Vc
open Go Go.RowKit

section
variable {P : Program} {ro : Option Nat} {n : Nat} {Q : Q3} {ops : Array Oper}

def lift (n : Nat) (l : List Nat) (s0 : S) (lay : Bool) (d0 : D) (K : K4) : Q3 := fun e a w => match e with
  | .panic c => ∃ s d, a = act n s d ∧ K (.panic c) s d w
  | .outgrown => False
  | .normal => ∃ s d, a = act n s d ∧ agree l s0 s ∧ (lay = false → d = d0) ∧ K .normal s d w
  | .ret => ∃ s d, a = act n s d ∧ agree l s0 s ∧ (lay = false → d = d0) ∧ K .ret s d w
  | .exit i => ∃ s d, a = act n s d ∧ agree l s0 s ∧ (lay = false → d = d0) ∧ K (.exit i) s d w
  | .goto i => ∃ s d, a = act n s d ∧ agree l s0 s ∧ (lay = false → d = d0) ∧ K (.goto i) s d w

theorem rd_bool {s : S} {g : Nat} {b : Bool} (h : rd n s g = .bool b) : g < n ∧ s g = .bool b := by
  unfold rd at h
  by_cases hg : g < n
  · rw [blt_of hg] at h; exact ⟨hg, h⟩
  · rw [blt_not hg] at h; simp [undef] at h
theorem wr_self {s : S} {g : Nat} {v : Value} (h : s g = v) : wr s g v = s := by
  funext j
  by_cases hj : j = g
  · subst hj; rw [wr_same, h]
  · rw [wr_other _ _ hj]
theorem wanted_some {o : Oper} {j : Nat} {want : Bool} (hg : o.guard = some (j, want)) {s : S} {g : Nat} (hs : gslot ops j = some g) {b : Bool} (hb : rd n s g = .bool b) :
    Region.wanted o (yielded ops (rep n s)) = (b == want) := by
  obtain ⟨hlt, hv⟩ := rd_bool hb
  unfold gslot at hs
  simp only [Region.wanted, hg, yielded, hs, Option.bind_some, rep_get, hlt, if_true, hv]
  cases b <;> cases want <;> rfl

theorem wanted_und {o : Oper} {j : Nat} {want : Bool} (hg : o.guard = some (j, want)) {s : S} {g : Nat} (hs : gslot ops j = some g) {vs : Array Value} (hb : rd n s g = .tuple vs) :
    Region.wanted o (yielded ops (rep n s)) = false := by
  unfold gslot at hs
  simp only [Region.wanted, hg, yielded, hs, Option.bind_some, rep_get]
  by_cases hlt : g < n
  · have hv : s g = .tuple vs := by unfold rd at hb; rw [blt_of hlt] at hb; exact hb
    simp only [hlt, if_true, hv]
    cases want <;> rfl
  · simp only [hlt, if_false]
    cases want <;> rfl
/-- What a guard comes to: the operation is carried out, or passed by. -/
theorem grd_cases {o : Oper} {X K : S → D → World → Prop} {s : S} {d : D} {w : World} (h : grdW P ro n ops o X K s d w) :
    (Region.wanted o (yielded ops (rep n s)) = true ∧ X s d w) ∨ (Region.wanted o (yielded ops (rep n s)) = false ∧ K (wrO s o.dst undef) d w) := by
  unfold grdW at h
  cases hg : o.guard with
  | none => rw [hg] at h; exact .inl ⟨by simp [Region.wanted, hg], h⟩
  | some p =>
    obtain ⟨j, want⟩ := p
    rw [hg] at h
    simp only at h
    cases hs : gslot ops j with
    | none => rw [hs] at h; exact h.elim
    | some g =>
      rw [hs] at h
      simp only at h
      have cnd : condV (rd n s g) (bif want then X (wr s g (.bool true)) d w else K (wrO (wr s g (.bool true)) o.dst undef) d w)
          (bif want then K (wrO (wr s g (.bool false)) o.dst undef) d w else X (wr s g (.bool false)) d w) →
          (Region.wanted o (yielded ops (rep n s)) = true ∧ X s d w) ∨ (Region.wanted o (yielded ops (rep n s)) = false ∧ K (wrO s o.dst undef) d w) := fun h => by
        unfold condV at h
        split at h
        · rename_i hv
          have hw := wanted_some (n := n) hg hs hv
          rw [wr_self (rd_bool hv).2] at h
          cases want
          · exact .inr ⟨by rw [hw]; rfl, h⟩
          · exact .inl ⟨by rw [hw]; rfl, h⟩
        · rename_i hv
          have hw := wanted_some (n := n) hg hs hv
          rw [wr_self (rd_bool hv).2] at h
          cases want
          · exact .inl ⟨by rw [hw]; rfl, h⟩
          · exact .inr ⟨by rw [hw]; rfl, h⟩
        · exact h.elim
      have und : undV (rd n s g) (K (wrO s o.dst undef) d w) →
          (Region.wanted o (yielded ops (rep n s)) = true ∧ X s d w) ∨ (Region.wanted o (yielded ops (rep n s)) = false ∧ K (wrO s o.dst undef) d w) := fun h => by
        unfold undV at h
        split at h
        · rename_i vs hv; exact .inr ⟨wanted_und hg hs hv, h⟩
        · exact h.elim
      split at h
      · exact cnd h
      · split at h
        · exact h.elim
        · split at h
          · rename_i b hb
            revert h
            generalize (bif b then _ else _) = c
            intro h
            cases c
            · exact und h
            · exact cnd h
          · exact und h
          · exact h.elim
theorem grd_sound {i : Nat} {o : Oper} (hi : ops[i]? = some o) {X K : S → D → World → Prop} {NK : Act → World → Prop} {s : S} {d : D} {w : World}
    (hX : X s d w → o.wpIn (FW ro) 0 P (act n s d) w NK Q) (hK : K (wrO s o.dst undef) d w → NK (act n (wrO s o.dst undef) d) w)
    (h : grdW P ro n ops o X K s d w) : wpOpIn (FW ro) 0 P ops Q i NK (act n s d) w := by
  unfold wpOpIn
  simp only [hi]
  rcases grd_cases h with ⟨hw, h⟩ | ⟨hw, h⟩
  · rw [if_pos (by rw [show (act n s d).tmps = rep n s from rfl, hw])]; exact hX h
  · rw [if_neg (by rw [show (act n s d).tmps = rep n s from rfl, hw]; decide)]
    exact ⟨fun _ _ => trivial, by rw [put_act]; exact hK h⟩

/-- Slots that a region writes. -/
def dsts (ops : Array Oper) : List Nat := asg (.region 0 ops false)
theorem mem_dsts {i : Nat} {o : Oper} (hi : ops[i]? = some o) {t : Nat} (ht : t ∈ o.dst.toList) : t ∈ dsts ops := by
  simp only [dsts, asg, List.mem_flatMap]
  exact ⟨o, by simpa using Array.mem_of_getElem? hi, List.mem_append_left _ ht⟩

variable {K : S → D → World → Prop} {PK : List PanicEntry → S → D → World → Prop} {s0 : S} {d0 : D} {lay : Bool}

theorem opsW_sound {KK : K4} (hlay : lay = false → ∀ (i : Nat) o, ops[i]? = some o → ∀ c, o.op ≠ .defer c) : ∀ (l : List Oper) (k : Nat) (s : S) (d : D) (w : World), ops.toList.drop k = l → agree (dsts ops) s0 s → (lay = false → d = d0) →
    opsW P ro n ops (fun s d w => KK .normal s d w) (fun c s d w => KK (.panic c) s d w) l s d w →
    wpOpsIn (FW ro) 0 P ops (lift n (dsts ops) s0 lay d0 KK) (List.range' k l.length) (act n s d) w := by
  intro l
  induction l with
  | nil => intro k s d w _ hag hd h; exact ⟨s, d, rfl, hag, hd, h⟩
  | cons o l ih =>
    intro k s d w hdrop hag hd h
    have hi : ops[k]? = some o := by
      have : (ops.toList.drop k)[0]? = some o := by rw [hdrop]; rfl
      simpa using this
    have hdrop' : ops.toList.drop (k + 1) = l := by
      rw [← List.drop_drop, hdrop]; rfl
    simp only [List.length_cons, List.range'_succ]
    rw [wpOpsIn_cons]
    refine grd_sound hi (fun hx => ?_) (fun hk => ?_) h
    · refine Oper.wpIn_mono ?_ (stepW_sound o hx (fun c w' hp => ⟨s, d, rfl, hp⟩))
      rintro a w' ⟨s', d', rfl, hag', hd', hk⟩
      exact ih (k + 1) s' d' w' hdrop' (hag.trans (hag'.mono fun t ht => mem_dsts hi ht)) (fun hl => (hd' (hlay hl k o hi)).trans (hd hl)) hk
    · exact ih (k + 1) _ d w hdrop' (hag.trans ((agree_wrO _ _ _).mono fun t ht => mem_dsts hi ht)) hd hk

/-! ### Drawn -/
variable {H : World → Prop}
def keepB (P : Program) (ops : Array Oper) (H : World → Prop) (i : Nat) (w w' : World) : Prop := w' = w ∨ (heldJ P ops i = false ∧ (needH ops i = true → H w'))
def wpH (P : Program) (ro : Option Nat) (ops : Array Oper) (Q : Q3) (H : World → Prop) : Nat → Array Bool → Act → World → Prop
  | 0, listed, a, w => Region.ready .any ops listed = [] ∧ Q .normal a w
  | f + 1, listed, a, w => (Region.ready .any ops listed = [] → Q .normal a w) ∧
    ∀ i ∈ Region.ready .any ops listed, wpOpIn (FW ro) 0 P ops Q i (fun a' w' => keepB P ops H i w w' ∧ wpH P ro ops Q H f (listed.setIfInBounds i true) a' w') a w
theorem wpAnyIn_of_H : ∀ (f : Nat) (listed : Array Bool) (a : Act) (w : World), wpH P ro ops Q H f listed a w → wpAnyIn (FW ro) 0 P .any ops Q f listed a w
  | 0, _, _, _, h => h
  | f + 1, _, _, _, h => ⟨h.1, fun i hi => wpOpIn_mono (fun a' w' h' => wpAnyIn_of_H f _ a' w' h'.2) (h.2 i hi)⟩
/-- What is listed holds with each operation those ahead of it. -/
def Dn (ops : Array Oper) (listed : Array Bool) : Prop := ∀ (k : Nat) o, ops[k]? = some o → listed.getD k false = true → ∀ e ∈ o.after, Region.binds .any e = true → listed.getD e.on false = true
theorem getD_set_cases {listed : Array Bool} {i k : Nat} (h : (listed.setIfInBounds i true).getD k false = true) : k = i ∨ listed.getD k false = true := by
  by_cases hik : i = k
  · exact .inl hik.symm
  · rw [getD_set_ne false hik] at h; exact .inr h
theorem Dn.step {listed : Array Bool} (h : Dn ops listed) {i : Nat} (hi : i ∈ Region.ready .any ops listed) : Dn ops (listed.setIfInBounds i true) := by
  intro k o ho hk e he hb
  rcases getD_set_cases hk with rfl | hk
  · obtain ⟨_, o', ho', hall⟩ := mem_ready.1 hi
    rw [ho] at ho'; cases ho'
    exact getD_set_true (hall e he hb)
  · exact getD_set_true (h k o ho hk e he hb)
theorem reach_listed {listed : Array Bool} (h : Dn ops listed) : ∀ (f j k : Nat) (o : Oper), ops[j]? = some o → (∀ e ∈ o.after, Region.binds .any e = true → listed.getD e.on false = true) →
    reach ops f j k = true → listed.getD k false = true := by
  intro f
  induction f with
  | zero => intro j k o _ _ hr; cases hr
  | succ f ih =>
    intro j k o ho hall hr
    simp only [reach, ho] at hr
    obtain ⟨e, he, hr⟩ := List.any_eq_true.1 hr
    simp only [Bool.and_eq_true, Bool.or_eq_true] at hr
    have he' : e ∈ o.after := by simpa using he
    have hle := hall e he' hr.1
    rcases hr.2 with heq | hre
    · rw [beq_iff.1 heq] at hle; exact hle
    · cases hoe : ops[e.on]? with
      | none =>
        exfalso
        cases f with
        | zero => cases hre
        | succ f => simp [reach, hoe] at hre
      | some oe => exact ih e.on k oe hoe (fun e2 he2 hb2 => h e.on oe hoe hle e2 he2 hb2) hre

/-- In state a the operation leaves v and does nothing else, in every world that keeps what is held (if it is a load). -/
def Yd (P : Program) (ops : Array Oper) (H : World → Prop) (o : Oper) (v : Value) (a : Act) : Prop :=
  (Region.wanted o (yielded ops a.tmps) = true ∧ ∀ w, (isLd o.op = true → H w) → (execOp a.eval o).run P w = .ok (.value v) w) ∨
  (Region.wanted o (yielded ops a.tmps) = false ∧ v = undef)
theorem Yd.wpOp {i : Nat} {o : Oper} {v : Value} {a : Act} (hnd : ∀ c, o.op ≠ .defer c) (hi : ops[i]? = some o) (hy : Yd P ops H o v a) {K : Act → World → Prop} {w : World} (hH : isLd o.op = true → H w)
    (h : K (a.put o.dst v) w) : wpOpIn (FW ro) 0 P ops Q i K a w := by
  unfold wpOpIn
  simp only [hi]
  rcases hy with ⟨hw, hv⟩ | ⟨hw, rfl⟩
  · rw [if_pos hw]; exact wpIn_value hnd (hv w hH) h
  · rw [if_neg (by rw [hw]; decide)]; exact ⟨fun _ _ => trivial, h⟩
theorem Yd.of_same {o : Oper} {v : Value} {a a' : Act} (hy : Yd P ops H o v a) (he : execOp a'.eval o = execOp a.eval o)
    (hw : Region.wanted o (yielded ops a'.tmps) = Region.wanted o (yielded ops a.tmps)) : Yd P ops H o v a' := by
  unfold Yd at *
  rw [he, hw]
  exact hy
theorem semAt_put (o : Oper) (hs : ∀ cs b, o.op ≠ .select cs b) (a : Act) (dst : Option Tmp) (v : Value) (h : ∀ d, dst = some d → d ∉ o.looksAt ops) :
    o.semAt ro (a.put dst v).eval = o.semAt ro a.eval := by
  have he := execOp_put o hs a dst v h
  unfold Oper.semAt
  cases ro with
  | none => exact he
  | some l =>
    cases hop : o.op with
    | defer c =>
      have : resolve (a.put dst v).eval c o.type = resolve a.eval c o.type := resolve_congr c _ fun x hx => Act.eval_put fun d hd hxd => h d hd (by
        subst hxd
        exact List.mem_append_left _ (List.mem_filterMap.2 ⟨.tmp d, by simpa [hop, Op.operands] using hx, rfl⟩))
      simp only [this]
    | _ => exact he
theorem wpOp_putH {j : Nat} {oi oj : Oper} {v : Value} (hj : ops[j]? = some oj) (hap : oi.apart ops oj = true)
    (hsi : ∀ cs b, oi.op ≠ .select cs b) (hsj : ∀ cs b, oj.op ≠ .select cs b)
    (hQ : ∀ c a w, Q (.panic c) (a.put oi.dst v) w → Q (.panic c) a w) {K : Act → World → Prop} {a : Act} {w : World}
    (hy : Yd P ops H oi v a) (h : wpOpIn (FW ro) 0 P ops Q j K (a.put oi.dst v) w) :
    wpOpIn (FW ro) 0 P ops Q j (fun a' w' => Yd P ops H oi v a' ∧ K (a'.put oi.dst v) w') a w := by
  obtain ⟨h1, h2, h3⟩ := Oper.apart_spec hap
  have keep : ∀ (a : Act), Yd P ops H oi v a → ∀ u, Yd P ops H oi v (a.put oj.dst u) := fun a hy u =>
    hy.of_same (execOp_put oi hsi a oj.dst u h3) (wanted_put oi a oj.dst u h3)
  have keepD : ∀ d, Yd P ops H oi v { a with defers := d :: a.defers } := fun d => hy.of_same rfl rfl
  unfold wpOpIn at *
  simp only [hj] at *
  rw [wanted_put oj a oi.dst v h1] at h
  split
  · rename_i hw
    simp only [hw, if_true] at h
    refine ⟨fun _ _ => trivial, ?_⟩
    have h := h.2
    rw [show (FW ro).round = ro from rfl, semAt_put oj hsj a oi.dst v h1] at h
    rw [show (FW ro).round = ro from rfl]
    generalize (oj.semAt ro a.eval).run P w = r at *
    cases r with
    | ok x w' =>
      cases x <;> simp only [Oper.uponIn] at h ⊢
      case value u => exact ⟨keep a hy u, by rw [← Act.put_comm a v u h2]; exact h⟩
      case skip => exact ⟨keep a hy _, by rw [← Act.put_comm a v undef h2]; exact h⟩
      case defer d =>
        refine ⟨keep _ (keepD d) _, ?_⟩
        rw [← Act.put_comm _ v undef h2, ← Act.put_defers]
        exact h
      case enter f args =>
        refine ⟨h.1, CallsIn.mono h.2 fun e w'' he => ?_⟩
        cases e with
        | returned u => exact ⟨keep a hy u, by rw [← Act.put_comm a v u h2]; exact he⟩
        | panicked c => exact hQ _ _ _ he
        | outgrown => exact he
      case row row args => exact ⟨h.1, RowsIn.mono h.2 fun u w'' he => ⟨keep a hy u, by rw [← Act.put_comm a v u h2]; exact he⟩⟩
      case round l f tmps assign body =>
        refine ⟨h.1, RoundIn.mono h.2 fun e w'' he => ?_⟩
        cases e with
        | returned u => exact ⟨keep a hy u, by rw [← Act.put_comm a v u h2]; exact he⟩
        | panicked c => exact hQ _ _ _ he
        | outgrown => exact he
    | halt x w' =>
      cases x <;> simp only [Oper.uponIn] at h ⊢
      case panic u => exact hQ _ _ _ h
  · rename_i hw
    simp only [hw] at h
    exact ⟨fun _ _ => trivial, keep a hy _, by rw [← Act.put_comm a v undef h2]; exact h.2⟩

theorem leftLd_of {i : Nat} {oi : Oper} {listed : Array Bool} (hi : ops[i]? = some oi) (hl : isLd oi.op = true) (hun : listed.getD i true = false) : leftLd ops listed = true := by
  unfold leftLd
  rw [List.any_eq_true]
  exact ⟨i, List.mem_range.2 (Array.getElem?_eq_some_iff.1 hi).1, by simp only [hun, hi, hl]; rfl⟩
theorem of_leftLd {listed : Array Bool} (h : leftLd ops listed = true) : ∃ (k : Nat) (o : Oper), ops[k]? = some o ∧ isLd o.op = true ∧ listed.getD k true = false := by
  unfold leftLd at h
  rw [List.any_eq_true] at h
  obtain ⟨k, _, hk⟩ := h
  simp only [Bool.and_eq_true, Bool.not_eq_true'] at hk
  cases ho : ops[k]? with
  | none => rw [ho] at hk; cases hk.2
  | some o => rw [ho] at hk; exact ⟨k, o, ho, hk.2, hk.1⟩
theorem unlisted_set {listed : Array Bool} {j k : Nat} (h : (listed.setIfInBounds j true).getD k true = false) : listed.getD k true = false := by
  by_cases hjk : j = k
  · subst hjk
    by_cases hsz : j < listed.size
    · simp [hsz] at h
    · have : (listed.setIfInBounds j true).getD j true = listed.getD j true := by simp [Array.getElem?_eq_none (Nat.le_of_not_lt hsz)]
      rw [this] at h; exact h
  · rwa [getD_set_ne true hjk] at h
theorem leftLd_less {listed : Array Bool} {j : Nat} (h : leftLd ops (listed.setIfInBounds j true) = true) : leftLd ops listed = true := by
  obtain ⟨k, o, ho, hl, hu⟩ := of_leftLd h
  exact leftLd_of ho hl (unlisted_set hu)
/-- What is held stays held behind operation j. -/
theorem held_step {listed : Array Bool} {j : Nat} {w w' : World} (hdn : Dn ops listed) (hj : j ∈ Region.ready .any ops listed) (hH : leftLd ops listed = true → H w) (hk : keepB P ops H j w w') :
    leftLd ops (listed.setIfInBounds j true) = true → H w' := fun hl => by
  obtain ⟨_, oj, hoj, hall⟩ := mem_ready.1 hj
  rcases hk with hk | hk
  · subst hk; exact hH (leftLd_less hl)
  · refine hk.2 ?_
    obtain ⟨k, o, ho, hld, hu⟩ := of_leftLd hl
    have hu' := unlisted_set hu
    unfold needH
    rw [List.any_eq_true]
    refine ⟨k, List.mem_range.2 (Array.getElem?_eq_some_iff.1 ho).1, ?_⟩
    simp only [ho, hld, Bool.true_and, Bool.not_eq_true']
    cases hr : reach ops 3 j k
    · rfl
    · have := reach_listed hdn 3 j k oj hoj hall hr
      exfalso
      rcases Nat.lt_or_ge k listed.size with h | h
      · simp [h] at hu' this; rw [hu'] at this; cases this
      · simp [Array.getElem?_eq_none h] at this
theorem wpH_first {Y : World → Prop} {Inv : Array Bool → World → Prop} {i : Nat} {oi : Oper} {v : Value} (hi : ops[i]? = some oi) (hheld : isHeld P oi.op = true) (hsel : ∀ (j : Nat) (o : Oper) cs b, ops[j]? = some o → o.op ≠ .select cs b)
    (hQ : ∀ c a w, Q (.panic c) (a.put oi.dst v) w → Q (.panic c) a w)
    (hIY : ∀ listed w, listed.getD i true = false → Inv listed w → isLd oi.op = true → Y w)
    (hIS : ∀ listed j w w', Dn ops listed → i ∈ Region.ready .any ops listed → j ∈ Region.ready .any ops listed → j ≠ i → Inv listed w → keepB P ops H j w w' → Inv (listed.setIfInBounds j true) w') :
    ∀ (fuel : Nat) (listed : Array Bool) (a : Act) (w : World), Dn ops listed →
      (∀ j oj, ops[j]? = some oj → j ≠ i → listed.getD j true = false → (∀ e ∈ oj.after, Region.binds .any e = true → e.on ≠ i) → oi.apart ops oj = true) →
      i ∈ Region.ready .any ops listed → Yd P ops Y oi v a → Inv listed w →
      wpH P ro ops Q H fuel (listed.setIfInBounds i true) (a.put oi.dst v) w → wpH P ro ops Q H (fuel + 1) listed a w := by
  have hnd : ∀ c, oi.op ≠ .defer c := fun c hc => by rw [hc] at hheld; cases hheld
  have hkeep : ∀ w, keepB P ops H i w w := fun w => .inl rfl
  intro fuel
  induction fuel with
  | zero =>
    intro listed a w _ _ hr hy hI G
    have hun := (mem_ready.1 hr).1
    refine ⟨fun h => (by rw [h] at hr; cases hr), fun j hj => ?_⟩
    by_cases hji : j = i
    · subst hji; exact hy.wpOp hnd hi (fun hl => hIY listed w hun hI hl) ⟨hkeep w, G⟩
    · have := ready_mono hj hji
      rw [G.1] at this
      cases this
  | succ fuel ih =>
    intro listed a w hdn hfree hr hy hI G
    have hun := (mem_ready.1 hr).1
    refine ⟨fun h => (by rw [h] at hr; cases hr), fun j hj => ?_⟩
    by_cases hji : j = i
    · subst hji; exact hy.wpOp hnd hi (fun hl => hIY listed w hun hI hl) ⟨hkeep w, G⟩
    · have h1 := G.2 j (ready_mono hj hji)
      obtain ⟨hjun, oj, hoj, hall⟩ := mem_ready.1 hj
      have hnot : ∀ e ∈ oj.after, Region.binds .any e = true → e.on ≠ i := fun e he hb heq => by
        have h1 := hall e he hb
        rw [heq] at h1
        rcases Nat.lt_or_ge i listed.size with h' | h'
        · simp [h'] at hun h1; rw [hun] at h1; cases h1
        · simp [Array.getElem?_eq_none h'] at h1
      have h2 := wpOp_putH hoj (hfree j oj hoj hji hjun hnot) (fun cs b => hsel i oi cs b hi) (fun cs b => hsel j oj cs b hoj) hQ hy h1
      have hfree' : ∀ k ok, ops[k]? = some ok → k ≠ i → (listed.setIfInBounds j true).getD k true = false →
          (∀ e ∈ ok.after, Region.binds .any e = true → e.on ≠ i) → oi.apart ops ok = true := fun k ok hk hki hun' hno => by
        refine hfree k ok hk hki ?_ hno
        by_cases hjk : j = k
        · subst hjk; exact hjun
        · rw [getD_set_ne true hjk] at hun'; exact hun'
      refine wpOpIn_mono (fun a' w' h3 => ?_) h2
      obtain ⟨hy', hkj, G'⟩ := h3
      refine ⟨hkj, ih (listed.setIfInBounds j true) a' w' (hdn.step hj) hfree' (ready_mono hr (Ne.symm hji)) hy' (hIS listed j w w' hdn hr hj hji hI hkj) ?_⟩
      rw [Array.setIfInBounds_comm _ _ hji]
      exact G'
theorem early_held {i j : Nat} {w w' : World} {listed : Array Bool} (he : early P ops i = true) (hdn : Dn ops listed) (hr : i ∈ Region.ready .any ops listed) (hj : j ∈ Region.ready .any ops listed) (hk : keepB P ops H j w w') : w' = w := by
  rcases hk with hk | ⟨hk, _⟩
  · exact hk
  · exfalso
    obtain ⟨hjun, oj, hoj, hall⟩ := mem_ready.1 hj
    unfold early at he
    rw [Bool.and_eq_true] at he
    have h1 := List.all_eq_true.1 he.2 j (List.mem_range.2 (Array.getElem?_eq_some_iff.1 hoj).1)
    rw [hk, Bool.false_or] at h1
    have h2 := reach_listed hdn 3 j i oj hoj hall h1
    have hun := (mem_ready.1 hr).1
    rcases Nat.lt_or_ge i listed.size with h' | h'
    · simp [h'] at hun h2; rw [hun] at h2; cases h2
    · simp [Array.getElem?_eq_none h'] at h2
theorem wpH_take {i : Nat} {oi : Oper} {v : Value} {fuel : Nat} {listed : Array Bool} {a : Act} {w : World} (hi : ops[i]? = some oi) (hheld : isHeld P oi.op = true)
    (hs : Region.noSelect ops = true) (hf : Region.free .any ops listed i = true) (hr : i ∈ Region.ready .any ops listed) (hdn : Dn ops listed)
    (hQ : ∀ c a w, Q (.panic c) (a.put oi.dst v) w → Q (.panic c) a w) (hy : Yd P ops (fun w' => bif early P ops i then w' = w else H w') oi v a) (hH : leftLd ops listed = true → H w)
    (h : wpH P ro ops Q H fuel (listed.setIfInBounds i true) (a.put oi.dst v) w) : wpH P ro ops Q H (fuel + 1) listed a w := by
  cases he : early P ops i
  · rw [he] at hy
    exact wpH_first (Y := H) (Inv := fun listed w => leftLd ops listed = true → H w) hi hheld (Region.noSelect_spec hs) hQ (fun listed w hun hI hl => hI (leftLd_of hi hl hun)) (fun listed j w w' hdn hr hj hji hI hk => held_step hdn hj hI hk) fuel listed a w hdn (Region.free_spec hi hf) hr hy hH h
  · rw [he] at hy
    exact wpH_first (Y := fun w' => w' = w) (Inv := fun _ w' => w' = w) hi hheld (Region.noSelect_spec hs) hQ (fun listed w' _ hI _ => hI) (fun listed j w1 w2 hdn hr hj hji hI hk => (early_held he hdn hr hj hk).trans hI) fuel listed a w hdn (Region.free_spec hi hf) hr hy rfl h

theorem allP_all {f : Nat → Prop} : ∀ {l : List Nat}, allP f l → ∀ i ∈ l, f i
  | [], _, _, hi => by cases hi
  | [i], h, j, hj => by simp at hj; subst hj; exact h
  | i :: j :: l, h, k, hk => by
    rcases List.mem_cons.1 hk with rfl | hk
    · exact h.1
    · exact allP_all h.2 k hk

/-- What is asked of a panic out of a drawn region: whatever the slots. -/
def liftD (n : Nat) (l : List Nat) (s0 : S) (lay : Bool) (d0 : D) (K : K4) : Q3 := fun e a w => match e with
  | .panic c => a.tmps.size = n ∧ ∀ s', K (.panic c) s' a.defers w
  | e => lift n l s0 lay d0 K e a w
theorem liftD_panic {l : List Nat} {KK : K4} (c : List PanicEntry) (a : Act) (dst : Option Tmp) (v : Value) (w : World) (h : liftD n l s0 lay d0 KK (.panic c) (a.put dst v) w) : liftD n l s0 lay d0 KK (.panic c) a w := by
  cases dst with
  | none => exact h
  | some t => obtain ⟨h1, h2⟩ := h; exact ⟨by simpa [Act.put] using h1, h2⟩
theorem lift_of_D {l : List Nat} {KK : K4} (e : Exit) (a : Act) (w : World) (h : liftD n l s0 lay d0 KK e a w) : lift n l s0 lay d0 KK e a w := by
  cases e with
  | panic c =>
    obtain ⟨h1, h2⟩ := h
    refine ⟨fun i => a.tmps.getD i undef, a.defers, ?_, h2 _⟩
    have : a.tmps = rep n fun i => a.tmps.getD i undef := by
      apply Array.ext
      · simp [h1]
      · intro i h3 h4; simp [rep, Array.getD, h3]
    unfold act
    rw [← this]
  | _ => exact h

/-- A value for an operation that is held, guard and all. -/
theorem heldG_sound {i : Nat} {o : Oper} (hi : ops[i]? = some o) (hheld : isHeld P o.op = true) {s : S} {d : D} {w : World} {G : S → D → World → Prop}
    (h : grdW P ro n ops o (fun s d w => heldOp P n s H (early P ops i) w o.op (fun v => G (wrO s o.dst v) d w)) G s d w) :
    ∃ v, Yd P ops (fun w' => bif early P ops i then w' = w else H w') o v (act n s d) ∧ G (wrO s o.dst v) d w := by
  rcases grd_cases h with ⟨hw, h⟩ | ⟨hw, h⟩
  · obtain ⟨v, hv, hk⟩ := heldOp_sound o H _ _ _ hheld h
    exact ⟨v, .inl ⟨hw, fun w hl => by rw [ev_act]; exact hv w hl⟩, hk⟩
  · exact ⟨undef, .inr ⟨hw, rfl⟩, h⟩

theorem filter_le {p q : Nat → Bool} : ∀ l : List Nat, (∀ j ∈ l, q j = true → p j = true) → (l.filter q).length ≤ (l.filter p).length
  | [], _ => Nat.le_refl _
  | x :: l, h => by
    have ih := filter_le l fun j hj => h j (List.mem_cons_of_mem _ hj)
    simp only [List.filter_cons]
    cases hq : q x
    · cases p x <;> simp <;> omega
    · rw [h x List.mem_cons_self hq]; simpa using ih
theorem filter_lt {p q : Nat → Bool} {i : Nat} (hp : p i = true) (hq : q i = false) : ∀ l : List Nat, (∀ j ∈ l, q j = true → p j = true) → i ∈ l → (l.filter q).length < (l.filter p).length
  | x :: l, h, hi => by
    have h' := fun j hj => h j (List.mem_cons_of_mem _ hj)
    simp only [List.filter_cons]
    rcases List.mem_cons.1 hi with rfl | hi
    · rw [hp, hq]; simp; have := filter_le l h'; omega
    · have ih := filter_lt hp hq l h' hi
      cases hqx : q x
      · cases p x <;> simp <;> omega
      · rw [h x List.mem_cons_self hqx]; simpa using ih
def unl (ops : Array Oper) (listed : Array Bool) : Nat := ((List.range ops.size).filter fun i => !listed.getD i true).length
theorem unl_step {listed : Array Bool} {i : Nat} (hi : i ∈ Region.ready .any ops listed) : unl ops (listed.setIfInBounds i true) < unl ops listed := by
  obtain ⟨hu, o, ho, _⟩ := mem_ready.1 hi
  refine filter_lt (i := i) (by rw [hu]; rfl) ?_ _ (fun j _ hj => ?_) (List.mem_range.2 (Array.getElem?_eq_some_iff.1 ho).1)
  · have hsz : i < listed.size := by
      rcases Nat.lt_or_ge i listed.size with h | h
      · exact h
      · simp [Array.getElem?_eq_none h] at hu
    simp [hsz]
  · simp only [Bool.not_eq_true'] at hj ⊢
    exact unlisted_set hj
theorem ready_nil {listed : Array Bool} (h : unl ops listed = 0) : Region.ready .any ops listed = [] := by
  cases hr : Region.ready .any ops listed with
  | nil => rfl
  | cons r rs =>
    have := unl_step (ops := ops) (listed := listed) (i := r) (by rw [hr]; exact List.mem_cons_self)
    omega

theorem drawW_sound {KK : K4} (hlay : lay = false → ∀ (i : Nat) o, ops[i]? = some o → ∀ c, o.op ≠ .defer c) (hns : Region.noSelect ops = true) : ∀ (f : Nat) (listed : Array Bool) (s : S) (d : D) (w : World),
    unl ops listed ≤ f → Dn ops listed → (leftLd ops listed = true → H w) → agree (dsts ops) s0 s → (lay = false → d = d0) →
    drawW P ro n ops H (fun s d w => KK .normal s d w) (fun c s d w => KK (.panic c) s d w) (f + 1) listed s d w →
    wpH P ro ops (liftD n (dsts ops) s0 lay d0 KK) H f listed (act n s d) w := by
  intro f
  induction f with
  | zero =>
    intro listed s d w hu hdn hH hag hd h
    have hr := ready_nil (Nat.le_zero.1 hu)
    unfold drawW at h
    rw [hr] at h
    exact ⟨hr, s, d, rfl, hag, hd, h⟩
  | succ f ih =>
    intro listed s d w hu hdn hH hag hd h
    unfold drawW at h
    cases hr : Region.ready .any ops listed with
    | nil => rw [hr] at h; exact ⟨fun _ => ⟨s, d, rfl, hag, hd, h⟩, by rw [hr]; simp⟩
    | cons r rs =>
      rw [hr] at h
      simp only at h
      split at h
      · rename_i i hfind
        split at h
        · exact h.elim
        · rename_i o ho
          have htk := List.find?_some hfind
          unfold takeB at htk; rw [ho] at htk; simp only [Bool.and_eq_true] at htk
          have hir : i ∈ Region.ready .any ops listed := by rw [hr]; exact List.mem_of_find?_eq_some hfind
          obtain ⟨v, hy, hk⟩ := heldG_sound ho htk.1 h
          refine wpH_take ho htk.1 hns htk.2 hir hdn (fun c a w => liftD_panic c a _ _ w) hy hH ?_
          rw [put_act]
          exact ih _ _ d w (by have := unl_step hir; omega) (hdn.step hir) (fun hl => hH (leftLd_less hl)) (hag.trans ((agree_wrO _ _ _).mono fun t ht => mem_dsts ho ht)) hd hk
      · refine ⟨fun h0 => (by rw [hr] at h0; cases h0), fun i hir => ?_⟩
        have hir' : i ∈ r :: rs := by rw [← hr]; exact hir
        have h0 := allP_all h i hir'
        split at h0
        · exact h0.elim
        · rename_i o ho
          have hun := (mem_ready.1 hir).1
          have hu' := unl_step hir
          cases hheld : isHeld P o.op
          · rw [hheld] at h0
            simp only [cond_false] at h0
            have step : ∀ s' d' w', keepB P ops H i w w' → agree o.dst.toList s s' → ((∀ c, o.op ≠ .defer c) → d' = d) →
                drawW P ro n ops H (fun s d w => KK .normal s d w) (fun c s d w => KK (.panic c) s d w) (f + 1) (listed.setIfInBounds i true) s' d' w' →
                keepB P ops H i w w' ∧ wpH P ro ops (liftD n (dsts ops) s0 lay d0 KK) H f (listed.setIfInBounds i true) (act n s' d') w' := fun s' d' w' hn hag' hd' hk =>
              ⟨hn, ih _ s' d' w' (by omega) (hdn.step hir) (held_step hdn hir hH hn) (hag.trans (hag'.mono fun t ht => mem_dsts ho ht)) (fun hl => (hd' (hlay hl i o ho)).trans (hd hl)) hk⟩
            refine grd_sound ho (fun hx => ?_) (fun hk => step _ d w (.inl rfl) (agree_wrO _ _ _) (fun _ => rfl) hk) h0
            refine Oper.wpIn_mono ?_ (stepW_sound o hx (fun c w' hp => ⟨by simp [act], hp⟩))
            rintro a w' ⟨s', d', rfl, hag', hd', hk⟩
            have hhj : heldJ P ops i = false := by unfold heldJ; rw [ho]; exact hheld
            cases hn : needH ops i
            · rw [hn] at hk; exact step s' d' w' (.inr ⟨hhj, fun h => by rw [hn] at h; cases h⟩) hag' hd' hk
            · rw [hn] at hk; exact step s' d' w' (.inr ⟨hhj, fun _ => hk.1⟩) hag' hd' hk.2
          · rw [hheld] at h0
            simp only [cond_true] at h0
            obtain ⟨v, hy, hk⟩ := heldG_sound ho hheld h0
            have hnd : ∀ c, o.op ≠ .defer c := fun c hc => by rw [hc] at hheld; cases hheld
            refine hy.wpOp hnd ho (fun hl => ?_) ⟨.inl rfl, ?_⟩
            · cases early P ops i
              · exact hH (leftLd_of ho hl hun)
              · rfl
            rw [put_act]
            exact ih _ _ d w (by omega) (hdn.step hir) (fun hl => hH (leftLd_less hl)) (hag.trans ((agree_wrO _ _ _).mono fun t ht => mem_dsts ho ht)) hd hk
end
end Go.Proofs.YtkkkcafkepnecaaGreat.Vc
