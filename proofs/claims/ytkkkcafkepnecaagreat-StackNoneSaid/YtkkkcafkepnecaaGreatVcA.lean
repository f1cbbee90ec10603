/- A calculus of conditions for Go code as the model has it, computed by recursion over the code; its soundness. -/
import Derived.RangeFuncLeaves
import Derived.RangeFuncRecord
import Derived.RangeFuncOwn
import Derived.OrdersIn
import Derived.OrdersHeld
import Derived.LoopNIn
import Derived.KernelRfl
import Derived.Below
import Derived.TacticsIn
set_option linter.unusedVariables false
set_option linter.unusedSimpArgs false
namespace Go.Proofs.YtkkkcafkepnecaaGreat.Vc
open Go Go.RowKit

/-! ### Slots -/
abbrev S := Nat → Value
abbrev D := List Deferred
def rd (n : Nat) (s : S) (i : Nat) : Value := bif Nat.blt i n then s i else undef
def wr (s : S) (i : Nat) (v : Value) : S := fun j => bif Nat.beq j i then v else s j
def wrO (s : S) (dst : Option Nat) (v : Value) : S := match dst with | none => s | some i => wr s i v
def rep (n : Nat) (s : S) : Array Value := Array.ofFn (n := n) fun i => s i.val
def act (n : Nat) (s : S) (d : D) : Act := ⟨rep n s, d⟩
def ev (n : Nat) (s : S) (x : Operand) : Value := match x with
  | .tmp t => rd n s t
  | .const v => v
  | .global g => .pointer (some ⟨g, 0, none⟩)
  | .func f => .func (.func f) #[] #[]
def evs (n : Nat) (s : S) : List Operand → List Value
  | [] => []
  | x :: l => ev n s x :: evs n s l
def ini (l : List Value) : S := fun i => l.getD i undef
def memb (i : Nat) : List Nat → Bool
  | [] => false
  | x :: l => bif Nat.beq i x then true else memb i l
def mix (l : List Nat) (s u : S) : S := fun i => bif memb i l then u i else s i
/-- Outside l the slots are the same. -/
def agree (l : List Nat) (s s' : S) : Prop := ∀ i, memb i l = false → s' i = s i

theorem beq_iff {i j : Nat} : Nat.beq i j = true ↔ i = j := ⟨Nat.eq_of_beq_eq_true, fun h => by subst h; simp⟩
theorem blt_of {i j : Nat} (h : i < j) : Nat.blt i j = true := by simp [Nat.blt]; omega
theorem blt_not {i j : Nat} (h : ¬ i < j) : Nat.blt i j = false := by
  cases hb : Nat.blt i j
  · rfl
  · simp [Nat.blt] at hb; omega
theorem wr_same (s : S) (i : Nat) (v : Value) : wr s i v i = v := by simp [wr]
theorem wr_other (s : S) {i j : Nat} (v : Value) (h : j ≠ i) : wr s i v j = s j := by
  have : Nat.beq j i = false := by
    cases hb : Nat.beq j i
    · rfl
    · exact absurd (beq_iff.1 hb) h
  simp [wr, this]
theorem rep_get (n : Nat) (s : S) (i : Nat) : (rep n s)[i]? = if i < n then some (s i) else none := by
  simp [rep, Array.getElem?_ofFn]
theorem rep_getD (n : Nat) (s : S) (i : Nat) : (rep n s)[i]?.getD undef = rd n s i := by
  rw [rep_get]
  unfold rd
  by_cases h : i < n
  · rw [blt_of h]; simp [h]
  · rw [blt_not h]; simp [h]
@[simp] theorem rep_size (n : Nat) (s : S) : (rep n s).size = n := by simp [rep]
theorem rep_set (n : Nat) (s : S) (i : Nat) (v : Value) : (rep n s).setIfInBounds i v = rep n (wr s i v) := by
  apply Array.ext
  · simp
  · intro j h1 h2
    have hj : j < n := by simpa using h2
    rw [Array.getElem_setIfInBounds]
    · by_cases h : i = j
      · subst h; simp [rep, wr_same]
      · simp [rep, h, wr_other s v (Ne.symm h)]
    · simpa using hj
theorem ev_act (n : Nat) (s : S) (d : D) : (act n s d).eval = ev n s := by
  funext x
  cases x with
  | tmp t => simp only [Act.eval, act, ev, Array.getD_eq_getD_getElem?]; exact rep_getD n s t
  | _ => rfl
theorem put_act (n : Nat) (s : S) (d : D) (dst : Option Nat) (v : Value) : (act n s d).put dst v = act n (wrO s dst v) d := by
  cases dst <;> simp [Act.put, act, wrO, rep_set]
theorem evs_map (n : Nat) (s : S) (l : List Operand) : evs n s l = l.map (ev n s) := by
  induction l <;> simp_all [evs]
theorem rep_ini {n : Nat} {args : Array Value} (h : args.size ≤ n) : args ++ Array.replicate (n - args.size) undef = rep n (ini args.toList) := by
  apply Array.ext
  · simp; omega
  · intro j h1 h2
    have hj : j < n := by simpa using h2
    simp only [rep, ini, Array.getElem_ofFn]
    by_cases hja : j < args.size
    · rw [Array.getElem_append_left hja]; simp [List.getD, hja]
    · rw [Array.getElem_append_right (by omega)]; simp [List.getD, hja]
theorem memb_iff {i : Nat} {l : List Nat} : memb i l = true ↔ i ∈ l := by
  induction l with
  | nil => simp [memb]
  | cons x l ih =>
    simp only [memb, List.mem_cons]
    cases hb : Nat.beq i x
    · have : i ≠ x := fun e => by rw [beq_iff.2 e] at hb; cases hb
      simp [this, ih]
    · simp [beq_iff.1 hb]
theorem agree.refl (l : List Nat) (s : S) : agree l s s := fun _ _ => rfl
theorem agree.mono {l l' : List Nat} {s s' : S} (h : agree l s s') (hl : ∀ i, i ∈ l → i ∈ l') : agree l' s s' := fun i hi =>
  h i (by cases hm : memb i l; · rfl
          · rw [memb_iff.2 (hl i (memb_iff.1 hm))] at hi; cases hi)
theorem agree.trans {l : List Nat} {s s' s'' : S} (h : agree l s s') (h' : agree l s' s'') : agree l s s'' := fun i hi => (h' i hi).trans (h i hi)
theorem agree.wr {l : List Nat} (s : S) {i : Nat} (v : Value) (h : i ∈ l) : agree l s (wr s i v) := fun j hj => wr_other _ _ (fun e => by
  subst e; rw [memb_iff.2 h] at hj; cases hj)
theorem agree.mix {l : List Nat} {s s' : S} (h : agree l s s') : mix l s s' = s' := by
  funext i
  unfold Vc.mix
  cases hm : memb i l
  · simp [h i hm]
  · simp

/-! ### The frame: no fence -/
abbrev FW (ro : Option Nat) : Fence := { fn := fun _ => True, depth := none, alive := false, round := ro }
theorem room_FW (ro : Option Nat) (k : Nat) : (FW ro).room k := fun _ h => by simp [FW] at h
abbrev Wp (P : Program) (ro : Option Nat) (c : Code) (Q : Exit → Act → World → Prop) (a : Act) (w : World) : Prop := c.wpIn (FW ro) 0 P Q a w

/-- A call that returns or panics. -/
def callW (P : Program) (f : FuncId) (args : List Value) (K : Value → World → Prop) (PK : List PanicEntry → World → Prop) (w : World) : Prop :=
  Calls P f args.toArray w fun
    | .returned v, w' => K v w'
    | .panicked ch, w' => PK ch w'
    | .outgrown, _ => False
theorem callsIn_FW {ro : Option Nat} {n : Nat} {P : Program} {f : FuncId} {args : Array Value} {w : World} {R : Ending → World → Prop} (h : Calls P f args w R) : CallsIn (FW ro) n P f args w R :=
  callsIn_wide.2 h

/-- One round, of the record l. -/
def roundW (P : Program) (l : Nat) (args : List Value) (K : Value → World → Prop) (PK : List PanicEntry → World → Prop) (w : World) : Prop :=
  ∃ r : Loop, w.heap[l]? = some (.loop r) ∧ args.length = r.params.size ∧
    RoundIn (FW none) 0 P l r.fn ((r.params.zip args.toArray).foldl (fun tmps (t, a) => tmps.setIfInBounds t a) r.tmps) r.assign r.body w fun
      | .returned v, w' => K v w'
      | .panicked ch, w' => PK ch w'
      | .outgrown, _ => False

def okFn (P : Program) (f : FuncId) : Bool := match P.funcs[f]? with
  | some fn => fn.body.isSome && !(fn.name == "runtime.NumGoroutine")
  | none => false
theorem okFn_run {P : Program} {f : FuncId} (h : okFn P f = true) (args : Array Value) (w : World) : (callFunc f args).run P w = .ok (.enter f args) w := by
  unfold okFn at h
  split at h
  · rename_i fn hf
    simp at h
    obtain ⟨hb, hn⟩ := h
    obtain ⟨c, hc⟩ := Option.isSome_iff_exists.1 hb
    simp [callFunc, go_sem, hf, hn, hc]
  · cases h

/-- A call of a function value. -/
def callV (P : Program) (fv : Value) (args : List Value) (K : Value → World → Prop) (PK : List PanicEntry → World → Prop) (w : World) : Prop :=
  (∃ f first cap, fv = .func (.func f) first cap ∧ okFn P f = true ∧ callW P f (first.toList ++ args ++ cap.toList) K PK w) ∨
  (∃ l, fv = .func (.yield l) #[] #[] ∧ roundW P l args K PK w)

/-- A call of a function value that is no yield. -/
def callF (P : Program) (fv : Value) (args : List Value) (K : Value → World → Prop) (PK : List PanicEntry → World → Prop) (w : World) : Prop :=
  ∃ f first cap, fv = .func (.func f) first cap ∧ okFn P f = true ∧ callW P f (first.toList ++ args ++ cap.toList) K PK w
theorem callW.mono {P : Program} {f : FuncId} {args : List Value} {K K' : Value → World → Prop} {PK PK' : List PanicEntry → World → Prop} {w : World}
    (h : callW P f args K PK w) (hk : ∀ v w', K v w' → K' v w') (hp : ∀ c w', PK c w' → PK' c w') : callW P f args K' PK' w :=
  Calls.mono h fun e w' he => by cases e <;> first | exact hk _ _ he | exact hp _ _ he | exact he
theorem roundW.mono {P : Program} {l : Nat} {args : List Value} {K K' : Value → World → Prop} {PK PK' : List PanicEntry → World → Prop} {w : World}
    (h : roundW P l args K PK w) (hk : ∀ v w', K v w' → K' v w') (hp : ∀ c w', PK c w' → PK' c w') : roundW P l args K' PK' w := by
  obtain ⟨r, h1, h2, h3⟩ := h
  exact ⟨r, h1, h2, h3.mono fun e w' he => by cases e <;> first | exact hk _ _ he | exact hp _ _ he | exact he⟩
theorem callV.mono {P : Program} {fv : Value} {args : List Value} {K K' : Value → World → Prop} {PK PK' : List PanicEntry → World → Prop} {w : World}
    (h : callV P fv args K PK w) (hk : ∀ v w', K v w' → K' v w') (hp : ∀ c w', PK c w' → PK' c w') : callV P fv args K' PK' w := by
  rcases h with ⟨f, a, b, h1, h2, h3⟩ | ⟨l, h1, h2⟩
  · exact .inl ⟨f, a, b, h1, h2, h3.mono hk hp⟩
  · exact .inr ⟨l, h1, h2.mono hk hp⟩

/-! ### Atoms -/
/-- By a bool. -/
@[irreducible] def condV (v : Value) (X Y : Prop) : Prop := match v with
  | .bool true => X
  | .bool false => Y
  | _ => False
/-- What is reckoned without the world. -/
def pu (P : Program) (m : Sem Value) (K : Value → Prop) : Prop := ∃ v, (∀ w, m.run P w = .ok v w) ∧ K v
/-- What is done in the world. -/
def opW (P : Program) (m : Sem Value) (K : Value → World → Prop) (w : World) : Prop := ∃ v w', m.run P w = .ok v w' ∧ K v w'
def opU (P : Program) (m : Sem Unit) (K : World → Prop) (w : World) : Prop := ∃ w', m.run P w = .ok () w' ∧ K w'
/-- A field's place. -/
def faW (off : Nat) (x : Value) (K : Value → Prop) : Prop := ∃ a, x = .pointer (some a) ∧ K (.pointer (some (a.add off)))
def nlW (x : Value) (K : Value → Prop) : Prop := match x with
  | .pointer (some a) => K (.pointer (some a))
  | .func (.func f) a b => K (.func (.func f) a b)
  | .func (.yield l) a b => K (.func (.yield l) a b)
  | _ => False
/-- An element's place: of an array, of a slice. -/
def ixA (len size : Nat) (x i : Value) (K : Value → Prop) : Prop :=
  ∃ a k n, x = .pointer (some a) ∧ i = .int k n ∧ 0 ≤ n ∧ n < (len : Int) ∧ K (.pointer (some (a.add (n.toNat * size))))
def ixS (size : Nat) (x i : Value) (K : Value → Prop) : Prop :=
  ∃ a len cap k n, x = .slice (some a) len cap ∧ i = .int k n ∧ 0 ≤ n ∧ n < (len : Int) ∧ K (.pointer (some (a.add (n.toNat * size))))
/-- A part of a struct or an array that is at hand: size: of how many cells; none: a plain one. -/
def ptW (off : Nat) (size : Option Nat) (x : Value) (K : Value → Prop) : Prop := match size with
  | some n => ∃ cs, x = .agg cs ∧ K (.agg (cs.extract off (off + n)))
  | none => ∃ cs v, x = .agg cs ∧ cs[off]? = some v ∧ K v
def ixV (len size : Nat) (ag : Bool) (x i : Value) (K : Value → Prop) : Prop :=
  ∃ k n, i = .int k n ∧ 0 ≤ n ∧ n < (len : Int) ∧ ptW (n.toNat * size) (bif ag then some size else none) x K
def ixT (x i : Value) (K : Value → Prop) : Prop :=
  ∃ s k n b, x = .string s ∧ i = .int k n ∧ 0 ≤ n ∧ s[n.toNat]? = some b ∧ K (.int .u8 b.toNat)
def exW (i : Nat) (x : Value) (K : Value → Prop) : Prop := match x with
  | .tuple vs => ∃ v, vs[i]? = some v ∧ K v
  | _ => False
def lnW (x : Value) (K : Value → Prop) : Prop := match x with
  | .slice _ n _ => K (.int .i64 n)
  | .string s => K (.int .i64 s.size)
  | _ => False
/-- A read. size: of how many cells; none: a plain one. -/
def rdW (size : Option Nat) (x : Value) (w : World) (v : Value) : Prop := match size with
  | none => ∃ a, x = .pointer (some a) ∧ w.cell? a = some v
  | some n => ∃ (a : Addr) (vs : List Value), x = .pointer (some a) ∧ vs.length = n ∧ (∀ (i : Nat) u, vs[i]? = some u → w.cell? (a.add i) = some u) ∧ v = .agg vs.toArray
def ldW (size : Option Nat) (x : Value) (w : World) (K : Value → Prop) : Prop := ∃ v, rdW size x w v ∧ K v
def ldS (size : Option Nat) (x : Value) (H : World → Prop) (K : Value → Prop) : Prop := ∃ v, (∀ w, H w → rdW size x w v) ∧ K v

/-! ### Memory -/
/-- A new row of cells. -/
def alW (cs : Array Value) (t : TypeId) (K : Value → World → Prop) (w : World) : Prop := K (.pointer (some ⟨w.heap.size, 0, none⟩)) (w.alloc (.cells cs t))
def plainV (v : Value) : Bool := match v with
  | .agg _ => false
  | .tuple _ => false
  | _ => true
def wrL (c : Array Value) : Nat → List Value → Array Value
  | _, [] => c
  | i, v :: vs => wrL (c.setIfInBounds i v) (i + 1) vs
/-- A store of n cells. -/
def stW (n : Nat) (x v : Value) (K : World → Prop) (w : World) : Prop :=
  ∃ (a : Addr) (c : Array Value) (e : TypeId) (fz : Nat × Nat), x = .pointer (some a) ∧ w.heap[a.block]? = some (.cells c e fz) ∧ v.cells.size = n ∧ (∀ u ∈ v.cells.toList, plainV u = true) ∧
    a.spot = none ∧ a.off + n ≤ c.size ∧ (a.off + n ≤ fz.1 ∨ fz.2 ≤ a.off) ∧ K (w.putObj a.block (.cells (wrL c a.off v.cells.toList) e fz))
def bsC (P : Program) (e : TypeId) (len : Nat) (ps : List (Nat × Value)) : Option (Array Value) := match P.info? e with
  | none => none
  | some i => match i.zero with
    | none => none
    | some z => Instr.fill (fun k => some (k * i.size, i.size)) ((Array.range (len * i.size)).map (z.cells[· % z.cells.size]!)) ps
/-- A slice that is written out. -/
def bsW (e : TypeId) (len : Nat) (cs : Option (Array Value)) (K : Value → World → Prop) (w : World) : Prop :=
  ∃ c, cs = some c ∧ K (.slice (some ⟨w.heap.size, 0, none⟩) len len) (w.alloc (.cells c e))
/-- make of a slice. -/
def mkW (e : TypeId) (size bytes : Nat) (z : Option Value) (l c : Value) (K : Value → World → Prop) (w : World) : Prop :=
  ∃ (v : Value) (k k' : IntKind) (n m : Nat), z = some v ∧ l = .int k n ∧ c = .int k' m ∧ n ≤ m ∧ m < 2 ^ 48 ∧ bytes * m ≤ 2 ^ 48 ∧
    K (.slice (some ⟨w.heap.size, 0, none⟩) n m) (w.alloc (.cells ((Array.range (m * size)).map (v.cells[· % v.cells.size]!)) e))
end Go.Proofs.YtkkkcafkepnecaaGreat.Vc
