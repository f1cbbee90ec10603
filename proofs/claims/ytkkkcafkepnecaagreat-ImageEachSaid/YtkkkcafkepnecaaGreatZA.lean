/- A calculus of conditions for Go code as the model has it, computed by recursion over the code; its soundness. -/
import Derived.RangeFuncLeaves
import Derived.RangeFuncRecord
import Derived.RangeFuncOwn
import Derived.OrdersIn
import Derived.OrdersHeld
import Derived.LoopNIn
import Derived.KernelRfl
import Derived.Below
import Derived.TacticsIn
import Derived.MapKept
import Derived.Maps.AppendAt
import Derived.Laws.StructEq
import Derived.ChangeKeysEq

set_option linter.unusedVariables false
set_option linter.unusedSimpArgs false
namespace Go.Proofs.YtkkkcafkepnecaaGreat.Vc
open Go Go.RowKit

/-! ### Slots -/
abbrev S := Nat → Value
abbrev D := List Deferred
def rd (n : Nat) (s : S) (i : Nat) : Value := bif Nat.blt i n then s i else undef
def wr (s : S) (i : Nat) (v : Value) : S := fun j => bif Nat.beq j i then v else s j
def wrO (s : S) (dst : Option Nat) (v : Value) : S := match dst with | none => s | some i => wr s i v
def rep (n : Nat) (s : S) : Array Value := Array.ofFn (n := n) fun i => s i.val
def act (n : Nat) (s : S) (d : D) : Act := ⟨rep n s, d⟩
def ev (n : Nat) (s : S) (x : Operand) : Value := match x with
  | .tmp t => rd n s t
  | .const v => v
  | .global g => .pointer (some ⟨g, 0, none⟩)
  | .func f => .func (.func f) #[] #[]
def evs (n : Nat) (s : S) : List Operand → List Value
  | [] => []
  | x :: l => ev n s x :: evs n s l
def ini (l : List Value) : S := fun i => l.getD i undef
def memb (i : Nat) : List Nat → Bool
  | [] => false
  | x :: l => bif Nat.beq i x then true else memb i l
def mix (l : List Nat) (s u : S) : S := fun i => bif memb i l then u i else s i
/-- Outside l the slots are the same. -/
def agree (l : List Nat) (s s' : S) : Prop := ∀ i, memb i l = false → s' i = s i

theorem beq_iff {i j : Nat} : Nat.beq i j = true ↔ i = j := ⟨Nat.eq_of_beq_eq_true, fun h => by subst h; simp⟩
theorem blt_of {i j : Nat} (h : i < j) : Nat.blt i j = true := by simp [Nat.blt]; omega
theorem blt_not {i j : Nat} (h : ¬ i < j) : Nat.blt i j = false := by
  cases hb : Nat.blt i j
  · rfl
  · simp [Nat.blt] at hb; omega
theorem wr_same (s : S) (i : Nat) (v : Value) : wr s i v i = v := by simp [wr]
theorem wr_other (s : S) {i j : Nat} (v : Value) (h : j ≠ i) : wr s i v j = s j := by
  have : Nat.beq j i = false := by
    cases hb : Nat.beq j i
    · rfl
    · exact absurd (beq_iff.1 hb) h
  simp [wr, this]
theorem rep_get (n : Nat) (s : S) (i : Nat) : (rep n s)[i]? = if i < n then some (s i) else none := by
  simp [rep, Array.getElem?_ofFn]
theorem rep_getD (n : Nat) (s : S) (i : Nat) : (rep n s)[i]?.getD undef = rd n s i := by
  rw [rep_get]
  unfold rd
  by_cases h : i < n
  · rw [blt_of h]; simp [h]
  · rw [blt_not h]; simp [h]
@[simp] theorem rep_size (n : Nat) (s : S) : (rep n s).size = n := by simp [rep]
theorem rep_set (n : Nat) (s : S) (i : Nat) (v : Value) : (rep n s).setIfInBounds i v = rep n (wr s i v) := by
  apply Array.ext
  · simp
  · intro j h1 h2
    have hj : j < n := by simpa using h2
    rw [Array.getElem_setIfInBounds]
    · by_cases h : i = j
      · subst h; simp [rep, wr_same]
      · simp [rep, h, wr_other s v (Ne.symm h)]
    · simpa using hj
theorem ev_act (n : Nat) (s : S) (d : D) : (act n s d).eval = ev n s := by
  funext x
  cases x with
  | tmp t => simp only [Act.eval, act, ev, Array.getD_eq_getD_getElem?]; exact rep_getD n s t
  | _ => rfl
theorem put_act (n : Nat) (s : S) (d : D) (dst : Option Nat) (v : Value) : (act n s d).put dst v = act n (wrO s dst v) d := by
  cases dst <;> simp [Act.put, act, wrO, rep_set]
theorem evs_map (n : Nat) (s : S) (l : List Operand) : evs n s l = l.map (ev n s) := by
  induction l <;> simp_all [evs]
theorem rep_ini {n : Nat} {args : Array Value} (h : args.size ≤ n) : args ++ Array.replicate (n - args.size) undef = rep n (ini args.toList) := by
  apply Array.ext
  · simp; omega
  · intro j h1 h2
    have hj : j < n := by simpa using h2
    simp only [rep, ini, Array.getElem_ofFn]
    by_cases hja : j < args.size
    · rw [Array.getElem_append_left hja]; simp [List.getD, hja]
    · rw [Array.getElem_append_right (by omega)]; simp [List.getD, hja]
theorem memb_iff {i : Nat} {l : List Nat} : memb i l = true ↔ i ∈ l := by
  induction l with
  | nil => simp [memb]
  | cons x l ih =>
    simp only [memb, List.mem_cons]
    cases hb : Nat.beq i x
    · have : i ≠ x := fun e => by rw [beq_iff.2 e] at hb; cases hb
      simp [this, ih]
    · simp [beq_iff.1 hb]
theorem agree.refl (l : List Nat) (s : S) : agree l s s := fun _ _ => rfl
theorem agree.mono {l l' : List Nat} {s s' : S} (h : agree l s s') (hl : ∀ i, i ∈ l → i ∈ l') : agree l' s s' := fun i hi =>
  h i (by cases hm : memb i l; · rfl
          · rw [memb_iff.2 (hl i (memb_iff.1 hm))] at hi; cases hi)
theorem agree.trans {l : List Nat} {s s' s'' : S} (h : agree l s s') (h' : agree l s' s'') : agree l s s'' := fun i hi => (h' i hi).trans (h i hi)
theorem agree.wr {l : List Nat} (s : S) {i : Nat} (v : Value) (h : i ∈ l) : agree l s (wr s i v) := fun j hj => wr_other _ _ (fun e => by
  subst e; rw [memb_iff.2 h] at hj; cases hj)
theorem agree.mix {l : List Nat} {s s' : S} (h : agree l s s') : mix l s s' = s' := by
  funext i
  unfold Vc.mix
  cases hm : memb i l
  · simp [h i hm]
  · simp

/-! ### The frame: no fence -/
abbrev FW (ro : Option Nat) : Fence := { fn := fun _ => True, depth := none, alive := false, round := ro }
/-- A call that returns or panics. -/
def callW (P : Program) (f : FuncId) (args : List Value) (K : Value → World → Prop) (PK : List PanicEntry → World → Prop) (w : World) : Prop :=
  Calls P f args.toArray w fun
    | .returned v, w' => K v w'
    | .panicked ch, w' => PK ch w'
    | .outgrown, _ => False
theorem callsIn_FW {ro : Option Nat} {n : Nat} {P : Program} {f : FuncId} {args : Array Value} {w : World} {R : Ending → World → Prop} (h : Calls P f args w R) : CallsIn (FW ro) n P f args w R :=
  callsIn_wide.2 h

/-- One round, of the record l. -/
def roundW (P : Program) (l : Nat) (args : List Value) (K : Value → World → Prop) (PK : List PanicEntry → World → Prop) (w : World) : Prop :=
  ∃ r : Loop, w.heap[l]? = some (.loop r) ∧ args.length = r.params.size ∧
    RoundIn (FW none) 0 P l r.fn ((r.params.zip args.toArray).foldl (fun tmps (t, a) => tmps.setIfInBounds t a) r.tmps) r.assign r.body w fun
      | .returned v, w' => K v w'
      | .panicked ch, w' => PK ch w'
      | .outgrown, _ => False

def okFn (P : Program) (f : FuncId) : Bool := match P.funcs[f]? with
  | some fn => fn.body.isSome && !(fn.name == "runtime.NumGoroutine")
  | none => false
theorem okFn_run {P : Program} {f : FuncId} (h : okFn P f = true) (args : Array Value) (w : World) : (callFunc f args).run P w = .ok (.enter f args) w := by
  unfold okFn at h
  split at h
  · rename_i fn hf
    simp at h
    obtain ⟨hb, hn⟩ := h
    obtain ⟨c, hc⟩ := Option.isSome_iff_exists.1 hb
    simp [callFunc, go_sem, hf, hn, hc]
  · cases h

/-- A call of a function value. -/
def callV (P : Program) (fv : Value) (args : List Value) (K : Value → World → Prop) (PK : List PanicEntry → World → Prop) (w : World) : Prop :=
  (∃ f first cap, fv = .func (.func f) first cap ∧ okFn P f = true ∧ callW P f (first.toList ++ args ++ cap.toList) K PK w) ∨
  (∃ l, fv = .func (.yield l) #[] #[] ∧ roundW P l args K PK w)

/-- A call of a function value that is no yield. -/
def callF (P : Program) (fv : Value) (args : List Value) (K : Value → World → Prop) (PK : List PanicEntry → World → Prop) (w : World) : Prop :=
  ∃ f first cap, fv = .func (.func f) first cap ∧ okFn P f = true ∧ callW P f (first.toList ++ args ++ cap.toList) K PK w
theorem callW.mono {P : Program} {f : FuncId} {args : List Value} {K K' : Value → World → Prop} {PK PK' : List PanicEntry → World → Prop} {w : World}
    (h : callW P f args K PK w) (hk : ∀ v w', K v w' → K' v w') (hp : ∀ c w', PK c w' → PK' c w') : callW P f args K' PK' w :=
  Calls.mono h fun e w' he => by cases e <;> first | exact hk _ _ he | exact hp _ _ he | exact he
theorem roundW.mono {P : Program} {l : Nat} {args : List Value} {K K' : Value → World → Prop} {PK PK' : List PanicEntry → World → Prop} {w : World}
    (h : roundW P l args K PK w) (hk : ∀ v w', K v w' → K' v w') (hp : ∀ c w', PK c w' → PK' c w') : roundW P l args K' PK' w := by
  obtain ⟨r, h1, h2, h3⟩ := h
  exact ⟨r, h1, h2, h3.mono fun e w' he => by cases e <;> first | exact hk _ _ he | exact hp _ _ he | exact he⟩
theorem callV.mono {P : Program} {fv : Value} {args : List Value} {K K' : Value → World → Prop} {PK PK' : List PanicEntry → World → Prop} {w : World}
    (h : callV P fv args K PK w) (hk : ∀ v w', K v w' → K' v w') (hp : ∀ c w', PK c w' → PK' c w') : callV P fv args K' PK' w := by
  rcases h with ⟨f, a, b, h1, h2, h3⟩ | ⟨l, h1, h2⟩
  · exact .inl ⟨f, a, b, h1, h2, h3.mono hk hp⟩
  · exact .inr ⟨l, h1, h2.mono hk hp⟩

/-! ### Atoms -/
/-- By a bool. -/
@[irreducible] def condV (v : Value) (X Y : Prop) : Prop := match v with
  | .bool true => X
  | .bool false => Y
  | _ => False
/-- What is reckoned without the world. -/
def pu (P : Program) (m : Sem Value) (K : Value → Prop) : Prop := ∃ v, (∀ w, m.run P w = .ok v w) ∧ K v
/-- What is done in the world. -/
def opW (P : Program) (m : Sem Value) (K : Value → World → Prop) (w : World) : Prop := ∃ v w', m.run P w = .ok v w' ∧ K v w'
def opU (P : Program) (m : Sem Unit) (K : World → Prop) (w : World) : Prop := ∃ w', m.run P w = .ok () w' ∧ K w'
/-- A field's place. -/
def faW (off : Nat) (x : Value) (K : Value → Prop) : Prop := ∃ a, x = .pointer (some a) ∧ K (.pointer (some (a.add off)))
def nlW (x : Value) (K : Value → Prop) : Prop := match x with
  | .pointer (some a) => K (.pointer (some a))
  | .func (.func f) a b => K (.func (.func f) a b)
  | .func (.yield l) a b => K (.func (.yield l) a b)
  | _ => False
/-- An element's place: of an array, of a slice. -/
def ixA (len size : Nat) (x i : Value) (K : Value → Prop) : Prop :=
  ∃ a k n, x = .pointer (some a) ∧ i = .int k n ∧ 0 ≤ n ∧ n < (len : Int) ∧ K (.pointer (some (a.add (n.toNat * size))))
def ixS (size : Nat) (x i : Value) (K : Value → Prop) : Prop :=
  ∃ a len cap k n, x = .slice (some a) len cap ∧ i = .int k n ∧ 0 ≤ n ∧ n < (len : Int) ∧ K (.pointer (some (a.add (n.toNat * size))))
/-- A part of a struct or an array that is at hand: size: of how many cells; none: a plain one. -/
def ptW (off : Nat) (size : Option Nat) (x : Value) (K : Value → Prop) : Prop := match size with
  | some n => ∃ cs, x = .agg cs ∧ K (.agg (cs.extract off (off + n)))
  | none => ∃ cs v, x = .agg cs ∧ cs[off]? = some v ∧ K v
def ixV (len size : Nat) (ag : Bool) (x i : Value) (K : Value → Prop) : Prop :=
  ∃ k n, i = .int k n ∧ 0 ≤ n ∧ n < (len : Int) ∧ ptW (n.toNat * size) (bif ag then some size else none) x K
def ixT (x i : Value) (K : Value → Prop) : Prop :=
  ∃ s k n b, x = .string s ∧ i = .int k n ∧ 0 ≤ n ∧ s[n.toNat]? = some b ∧ K (.int .u8 b.toNat)
def exW (i : Nat) (x : Value) (K : Value → Prop) : Prop := match x with
  | .tuple vs => ∃ v, vs[i]? = some v ∧ K v
  | _ => False
/-- A read. size: of how many cells; none: a plain one. -/
def rdW (size : Option Nat) (x : Value) (w : World) (v : Value) : Prop := match size with
  | none => ∃ a, x = .pointer (some a) ∧ w.cell? a = some v
  | some n => ∃ (a : Addr) (vs : List Value), x = .pointer (some a) ∧ vs.length = n ∧ (∀ (i : Nat) u, vs[i]? = some u → w.cell? (a.add i) = some u) ∧ v = .agg vs.toArray
def ldW (size : Option Nat) (x : Value) (w : World) (K : Value → Prop) : Prop := ∃ v, rdW size x w v ∧ K v
def ldS (size : Option Nat) (x : Value) (H : World → Prop) (K : Value → Prop) : Prop := ∃ v, (∀ w, H w → rdW size x w v) ∧ K v

/-! ### Memory -/
/-- A new row of cells. -/
def alW (cs : Array Value) (t : TypeId) (K : Value → World → Prop) (w : World) : Prop := K (.pointer (some ⟨w.heap.size, 0, none⟩)) (w.alloc (.cells cs t))
def plainV (v : Value) : Bool := match v with
  | .agg _ => false
  | .tuple _ => false
  | _ => true
def wrL (c : Array Value) : Nat → List Value → Array Value
  | _, [] => c
  | i, v :: vs => wrL (c.setIfInBounds i v) (i + 1) vs
/-- A store of n cells. -/
def stW (n : Nat) (x v : Value) (K : World → Prop) (w : World) : Prop :=
  ∃ (a : Addr) (c : Array Value) (e : TypeId) (fz : Nat × Nat), x = .pointer (some a) ∧ w.heap[a.block]? = some (.cells c e fz) ∧ v.cells.size = n ∧ (∀ u ∈ v.cells.toList, plainV u = true) ∧
    a.spot = none ∧ a.off + n ≤ c.size ∧ (a.off + n ≤ fz.1 ∨ fz.2 ≤ a.off) ∧ K (w.putObj a.block (.cells (wrL c a.off v.cells.toList) e fz))
def bsC (P : Program) (e : TypeId) (len : Nat) (ps : List (Nat × Value)) : Option (Array Value) := match P.info? e with
  | none => none
  | some i => match i.zero with
    | none => none
    | some z => Instr.fill (fun k => some (k * i.size, i.size)) ((Array.range (len * i.size)).map (z.cells[· % z.cells.size]!)) ps
/-- A slice that is written out. -/
def bsW (e : TypeId) (len : Nat) (cs : Option (Array Value)) (K : Value → World → Prop) (w : World) : Prop :=
  ∃ c, cs = some c ∧ K (.slice (some ⟨w.heap.size, 0, none⟩) len len) (w.alloc (.cells c e))
/-- make of a slice. -/
def mkW (e : TypeId) (size bytes : Nat) (z : Option Value) (l c : Value) (K : Value → World → Prop) (w : World) : Prop :=
  ∃ (v : Value) (k k' : IntKind) (n m : Nat), z = some v ∧ l = .int k n ∧ c = .int k' m ∧ n ≤ m ∧ m < 2 ^ 48 ∧ bytes * m ≤ 2 ^ 48 ∧
    K (.slice (some ⟨w.heap.size, 0, none⟩) n m) (w.alloc (.cells ((Array.range (m * size)).map (v.cells[· % v.cells.size]!)) e))
end Go.Proofs.YtkkkcafkepnecaaGreat.Vc

/-! The conditions themselves: operations, regions, code, functions. -/
set_option linter.unusedVariables false
namespace Go.Proofs.YtkkkcafkepnecaaGreat.Vc
open Go Go.RowKit

def agT (P : Program) (t : TypeId) : Bool := match P.underlying t with
  | some (.struct _) => true
  | some (.array _ _) => true
  | _ => false
/-- none: no such type; some none: a plain one; some (some n): of n cells, put together. -/
def ldSize (P : Program) (t : TypeId) : Option (Option Nat) := match P.underlying t with
  | none => none
  | some _ => match P.info? t with
    | none => none
    | some i => some (bif agT P t then some i.size else none)
def cnst (x : Operand) : Bool := match x with
  | .const _ => true
  | _ => false
def binV (op : BinOp) (t : TypeId) (c : Bool) (x y : Value) : Sem Value := do
  eqGuard op t (bif c then .const .nilIface else .tmp 0) (.tmp 0) x y
  binOp op t x y
def evO (n : Nat) (s : S) (x : Option Operand) : Option Value := match x with
  | none => none
  | some y => some (ev n s y)
def evP (n : Nat) (s : S) : List (Nat × Operand) → List (Nat × Value)
  | [] => []
  | (i, x) :: l => (i, ev n s x) :: evP n s l

def lnS (x : Value) (K : Value → Prop) : Prop := match x with
  | .slice _ n _ => K (.int .i64 n)
  | _ => False
def lnT (x : Value) (K : Value → Prop) : Prop := match x with
  | .string s => K (.int .i64 s.size)
  | _ => False
def one1 (f : Value → (Value → Prop) → Prop) (l : List Value) (K : Value → Prop) : Prop := match l with
  | [x] => f x K
  | _ => False
/-- Is it reckoned without the world? -/
def isPu (P : Program) (op : Op) : Bool := match op with
  | .move _ | .assign _ | .pick _ _ _ | .nilCheck _ | .fieldAddr _ _ _ | .field _ _ _ | .indexAddr _ _ _ | .index _ _ _ | .unOp _ _ _ | .binOp _ _ _ _ _
  | .extract _ _ | .makeFunc _ _ _ | .makeInterface _ _ | .slice _ _ _ _ _ | .build _ _ | .typeAssert _ _ _ _ => true
  | .convert _ b _ => match P.underlying b with
    | some (.int _) => true
    | _ => false
  | .call c => match c.callee with
    | .builtin .len => match (c.argTypes[0]?).bind P.underlying with
      | some (.slice _) => true
      | some .string => true
      | _ => false
    | .builtin .cap => true
    | .builtin .max => true
    | .builtin .min => true
    | _ => false
  | _ => false
def isLd (op : Op) : Bool := match op with
  | .load _ _ => true
  | _ => false

def puOp (P : Program) (n : Nat) (s : S) (op : Op) (K : Value → Prop) : Prop := match op with
  | .move x => K (ev n s x)
  | .assign x => K (ev n s x)
  | .pick c a b => condV (ev n s c) (K (ev n s a)) (K (ev n s b))
  | .nilCheck x => nlW (ev n s x) K
  | .fieldAddr t x f => match P.underlying t with
    | some (.struct fs) => match fs[f]? with
      | some fl => match P.info? fl.type with
        | some i => bif Nat.beq i.size 0 then False else faW fl.offset (ev n s x) K
        | none => False
      | none => False
    | _ => False
  | .field t x f => match P.underlying t with
    | some (.struct fs) => match fs[f]? with
      | some fl => match ldSize P fl.type with
        | some z => ptW fl.offset z (ev n s x) K
        | none => False
      | none => False
    | _ => False
  | .indexAddr t x i => match P.underlying t with
    | some (.array len e) => match P.info? e with
      | some inf => ixA len inf.size (ev n s x) (ev n s i) K
      | none => False
    | some (.slice e) => match P.info? e with
      | some inf => ixS inf.size (ev n s x) (ev n s i) K
      | none => False
    | _ => False
  | .index t x i => match P.underlying t with
    | some (.array len e) => match P.underlying e with
      | none => False
      | some _ => match P.info? e with
        | some inf => ixV len inf.size (agT P e) (ev n s x) (ev n s i) K
        | none => False
    | some .string => ixT (ev n s x) (ev n s i) K
    | _ => False
  | .unOp o t x => pu P (Op.unary o (ev n s x)) K
  | .binOp o t x y _ => pu P (binV o t (cnst x || cnst y) (ev n s x) (ev n s y)) K
  | .extract x i => exW i (ev n s x) K
  | .makeFunc fn a b => K (.func fn (evs n s a.toList).toArray (evs n s b.toList).toArray)
  | .makeInterface t x => match P.underlying t with
    | some (.interface _) => False
    | some _ => K (.iface t (ev n s x))
    | none => False
  | .slice t x lo hi mx => pu P (Instr.sliceAt t (ev n s x) (evO n s lo) (evO n s hi) (evO n s mx)) K
  | .build t ps => pu P (Instr.build t (evP n s ps.toList).toArray) K
  | .typeAssert x t u b => pu P (Instr.typeAssert (ev n s x) t u b) K
  | .convert a b x => match P.underlying b with
    | some (.int _) => pu P (convert a b (ev n s x)) K
    | _ => False
  | .call c => match c.callee with
    | .builtin .len => match (c.argTypes[0]?).bind P.underlying with
      | some (.slice _) => one1 lnS (evs n s c.args.toList) K
      | some .string => one1 lnT (evs n s c.args.toList) K
      | _ => False
    | .builtin .cap => pu P (Builtin.cap_ c.argTypes 0 (evs n s c.args.toList).toArray) K
    | .builtin .max => pu P (Builtin.max_ c.argTypes 0 (evs n s c.args.toList).toArray) K
    | .builtin .min => pu P (Builtin.min_ c.argTypes 0 (evs n s c.args.toList).toArray) K
    | _ => False
  | _ => False

def pnW (x : Value) (PK : List PanicEntry → World → Prop) (w : World) : Prop := match x with
  | .iface t v => PK [{ v := .iface t v, recovered := false }] w
  | _ => False
/-- What is done in the world; but for defers. -/
def efOp (P : Program) (n : Nat) (s : S) (op : Op) (ty : TypeId) (K : Value → World → Prop) (PK : List PanicEntry → World → Prop) (w : World) : Prop := match op with
  | .load t a => match ldSize P t with
    | some z => ldW z (ev n s a) w (fun v => K v w)
    | none => False
  | .store t a v => match P.info? t with
    | some i => stW i.size (ev n s a) (ev n s v) (fun w' => K undef w') w
    | none => False
  | .alloc t => match P.info? t with
    | some i => match i.zero with
      | some z => alW z.cells t K w
      | none => False
    | none => False
  | .box t x => alW (ev n s x).cells t K w
  | .buildSlice t l ps => match P.underlying t with
    | some (.slice e) => match P.info? e with
      | some i => bif Nat.ble 1 i.size && Nat.ble (l * i.size) 16777216 then bsW e l (bsC P e l (evP n s ps.toList)) K w else False
      | none => False
    | _ => False
  | .makeMap t r => opW P (Instr.makeMap t (evO n s r)) K w
  | .makeSlice t l c => match P.underlying t with
    | some (.slice e) => match P.info? e with
      | some i => bif Nat.ble 1 i.size then mkW e i.size i.bytes i.zero (ev n s l) (ev n s c) K w else False
      | none => False
    | _ => False
  | .insert t m k v => opU P (Instr.mapUpdate t (ev n s m) (ev n s k) (ev n s v)) (fun w' => K undef w') w
  | .mapUpdate t m k v => opU P (Instr.mapUpdate t (ev n s m) (ev n s k) (ev n s v)) (fun w' => K undef w') w
  | .mapEntry t m k => opW P (Instr.mapEntry t (ev n s m) (ev n s k)) K w
  | .entryStore t m k v => opU P (Instr.entryStore t (ev n s m) (ev n s k) (ev n s v)) (fun w' => K undef w') w
  | .lookup t x i b => opW P (Instr.lookup t (ev n s x) (ev n s i) b) K w
  | .range t x => opW P (Instr.range t (ev n s x)) K w
  | .next x b => opW P (Instr.next (ev n s x) b ty) K w
  | .entry x => opW P (Instr.entry (ev n s x)) K w
  | .convert a b x => opW P (convert a b (ev n s x)) K w
  | .panic x => pnW (ev n s x) PK w
  | .call c => match c.callee with
    | .value (.func f) => bif okFn P f then callW P f (evs n s c.args.toList) K PK w else False
    | .value x => callV P (ev n s x) (evs n s c.args.toList) K PK w
    | .builtin .append => opW P (Builtin.append_ c.argTypes ty (evs n s c.args.toList).toArray) K w
    | .builtin .copy => opW P (Builtin.copy_ c.argTypes ty (evs n s c.args.toList).toArray) K w
    | .builtin .clear => opW P (Builtin.clear_ c.argTypes ty (evs n s c.args.toList).toArray) K w
    | .builtin .delete => opW P (Builtin.delete_ c.argTypes ty (evs n s c.args.toList).toArray) K w
    | .builtin .len => opW P (Builtin.len_ c.argTypes ty (evs n s c.args.toList).toArray) K w
    | _ => False
  | _ => False

/-- One operation, no guard. -/
def stepW (P : Program) (ro : Option Nat) (n : Nat) (o : Oper) (K : S → D → World → Prop) (PK : List PanicEntry → S → D → World → Prop) (s : S) (d : D) (w : World) : Prop :=
  bif isPu P o.op then puOp P n s o.op (fun v => K (wrO s o.dst v) d w)
  else match o.op with
    | .defer c => match ro, c.callee with
      | none, .value (.func f) => K (wrO s o.dst undef) ({ target := .fn (.func f) #[], args := (evs n s c.args.toList).toArray } :: d) w
      | _, _ => False
    | _ => efOp P n s o.op o.type (fun v w' => K (wrO s o.dst v) d w') (fun c w' => PK c s d w') w

def gslot (ops : Array Oper) (j : Nat) : Option Nat := (ops[j]?).bind (·.dst)
def undV (v : Value) (Z : Prop) : Prop := match v with
  | .tuple _ => Z
  | _ => False
/-- X where the guard lets the operation be carried out, K where it is passed by. A guard that was itself passed by lets nothing be carried out. -/
def grdW (P : Program) (ro : Option Nat) (n : Nat) (ops : Array Oper) (o : Oper) (X K : S → D → World → Prop) (s : S) (d : D) (w : World) : Prop := match o.guard with
  | none => X s d w
  | some (j, want) => match gslot ops j with
    | none => False
    | some g => match (ops[j]?).bind (·.guard) with
      | none => condV (rd n s g)
        (bif want then X (wr s g (.bool true)) d w else K (wrO (wr s g (.bool true)) o.dst undef) d w)
        (bif want then K (wrO (wr s g (.bool false)) o.dst undef) d w else X (wr s g (.bool false)) d w)
      | some (j2, want2) => match gslot ops j2 with
        | none => False
        | some g2 => match rd n s g2 with
          | .bool b => bif (bif b then want2 else !want2) then condV (rd n s g)
              (bif want then X (wr s g (.bool true)) d w else K (wrO (wr s g (.bool true)) o.dst undef) d w)
              (bif want then K (wrO (wr s g (.bool false)) o.dst undef) d w else X (wr s g (.bool false)) d w)
            else undV (rd n s g) (K (wrO s o.dst undef) d w)
          | .tuple _ => undV (rd n s g) (K (wrO s o.dst undef) d w)
          | _ => False
def opsW (P : Program) (ro : Option Nat) (n : Nat) (ops : Array Oper) (K : S → D → World → Prop) (PK : List PanicEntry → S → D → World → Prop) : List Oper → S → D → World → Prop
  | [], s, d, w => K s d w
  | o :: l, s, d, w => grdW P ro n ops o (stepW P ro n o (opsW P ro n ops K PK l) PK) (opsW P ro n ops K PK l) s d w

/-! ### A region that draws its order -/
def isHeld (P : Program) (op : Op) : Bool := isPu P op || isLd op
def heldOp (P : Program) (n : Nat) (s : S) (H : World → Prop) (e : Bool) (w : World) (op : Op) (K : Value → Prop) : Prop := match op with
  | .load t a => match ldSize P t with
    | some z => bif e then ldW z (ev n s a) w K else ldS z (ev n s a) H K
    | none => False
  | _ => puOp P n s op K
def leftLd (ops : Array Oper) (listed : Array Bool) : Bool := (List.range ops.size).any fun j => !listed.getD j true && match ops[j]? with
  | some o => isLd o.op
  | none => false
def takeB (P : Program) (ops : Array Oper) (listed : Array Bool) (i : Nat) : Bool := match ops[i]? with
  | some o => isHeld P o.op && Region.free .any ops listed i
  | none => false
/-- Is k ahead of j, by at most f edges? -/
def reach (ops : Array Oper) : Nat → Nat → Nat → Bool
  | 0, _, _ => false
  | f + 1, j, k => match ops[j]? with
    | none => false
    | some o => o.after.toList.any fun e => Region.binds .any e && (Nat.beq e.on k || reach ops f e.on k)
/-- May a load come up behind operation j? -/
def needH (ops : Array Oper) (j : Nat) : Bool := (List.range ops.size).any fun k => (match ops[k]? with
  | some o => isLd o.op
  | none => false) && !(reach ops 3 j k)
def heldJ (P : Program) (ops : Array Oper) (j : Nat) : Bool := match ops[j]? with
  | some o => isHeld P o.op
  | none => true
def isSt (op : Op) : Bool := match op with
  | .store _ _ _ => true
  | _ => false
/-- Has the region a store that a load may come up behind? -/
def fancy (ops : Array Oper) : Bool := (List.range ops.size).any fun j => (match ops[j]? with
  | some o => isSt o.op
  | none => false) && needH ops j
/-- Is operation k ahead of all that may change something? Then it reads the world as it is at first. -/
def early (P : Program) (ops : Array Oper) (k : Nat) : Bool := fancy ops && (List.range ops.size).all fun j => heldJ P ops j || reach ops 3 j k
def allP (f : Nat → Prop) : List Nat → Prop
  | [] => True
  | [i] => f i
  | i :: j :: l => f i ∧ allP f (j :: l)
def asg : Code → List Nat
  | .region _ ops _ => ops.toList.flatMap fun o => o.dst.toList ++ (match o.guard with | some (j, _) => (gslot ops j).toList | none => [])
  | .seq a b => asg a ++ asg b
  | .cond _ a b => asg a ++ asg b
  | .block _ c => asg c
  | .loop c => asg c
  | .scope c => asg c
  | _ => []
def drawW (P : Program) (ro : Option Nat) (n : Nat) (ops : Array Oper) (H : World → Prop) (K : S → D → World → Prop) (PK : List PanicEntry → S → D → World → Prop) :
    Nat → Array Bool → S → D → World → Prop
  | 0, _, _, _, _ => False
  | f + 1, listed, s, d, w => match Region.ready .any ops listed with
    | [] => K s d w
    | r :: rs => match (r :: rs).find? (takeB P ops listed) with
      | some i => match ops[i]? with
        | none => False
        | some o => grdW P ro n ops o (fun s d w => heldOp P n s H (early P ops i) w o.op (fun v => drawW P ro n ops H K PK f (listed.setIfInBounds i true) (wrO s o.dst v) d w))
            (drawW P ro n ops H K PK f (listed.setIfInBounds i true)) s d w
      | none => allP (fun i => match ops[i]? with
        | none => False
        | some o => grdW P ro n ops o
            (bif isHeld P o.op then (fun s d w => heldOp P n s H (early P ops i) w o.op (fun v => drawW P ro n ops H K PK f (listed.setIfInBounds i true) (wrO s o.dst v) d w))
             else stepW P ro n o (fun s d w => bif needH ops i then (H w ∧ drawW P ro n ops H K PK f (listed.setIfInBounds i true) s d w) else drawW P ro n ops H K PK f (listed.setIfInBounds i true) s d w)
              (fun c s d w => ∀ s', PK c (mix (asg (.region 0 ops false)) s s') d w))
            (drawW P ro n ops H K PK f (listed.setIfInBounds i true)) s d w) (r :: rs)

/-! ### Code -/
abbrev K4 := Exit → S → D → World → Prop
/-- Does it lay deferred calls? -/
def lays : Code → Bool
  | .region _ ops _ => ops.toList.any fun o => match o.op with | .defer _ => true | _ => false
  | .seq a b => lays a || lays b
  | .cond _ a b => lays a || lays b
  | .block _ c => lays c
  | .loop c => lays c
  | .scope c => lays c
  | .rangeFunc _ _ _ _ => true
  | _ => false
def picks (s : S) : List Nat → List Value
  | [] => []
  | i :: l => s i :: picks s l
def live (s : S) : List Nat → List (Nat × Value)
  | [] => []
  | i :: l => (i, s i) :: live s l
def ovr : List Nat → List Value → S → S
  | i :: c, l, u => fun j => bif Nat.beq j i then l.headD undef else ovr c l.tail u j
  | [], _, u => u
def LoopW (init : List Value) (B : List Value → (List Value → World → Prop) → World → Prop) (w : World) : Prop :=
  ∃ (I : List Value → World → Prop) (μ : List Value → World → Nat), I init w ∧ ∀ l w, I l w → B l (fun l' w' => I l' w' ∧ μ l' w' < μ l w) w
def LoopD (init : List Value) (B : List Value → D → (List Value → D → World → Prop) → World → Prop) (d : D) (w : World) : Prop :=
  ∃ (I : List Value → D → World → Prop) (μ : List Value → D → World → Nat), I init d w ∧ ∀ l d w, I l d w → B l d (fun l' d' w' => I l' d' w' ∧ μ l' d' w' < μ l d w) w
def pend (KN KR : D → World → Prop) (KE : List (Nat × (D → World → Prop))) (j : Option Code) (d : D) (w : World) : Prop := match j with
  | none => KN d w
  | some .ret => KR d w
  | some (.exit id) => match KE.find? (fun p => p.1 == id) with
    | some p => p.2 d w
    | none => False
  | _ => False
/-- A range over a function: the record lies at l, its mark (at an outermost one) is laid; the function is called with yield; then what is pending. -/
def RangeW (P : Program) (ro : Option Nat) (n : Nat) (lv : List (Nat × Value)) (ps : Array Tmp) (assign body : Code) (g : Value) (KN KR : D → World → Prop) (KE : List (Nat × (D → World → Prop)))
    (PK : List PanicEntry → D → World → Prop) (d : D) (w : World) : Prop :=
  ∀ (fn : FuncId) (tmps : Array Value), tmps.size = n → (∀ p ∈ lv, p.1 < n → tmps[p.1]? = some p.2) →
    ∃ (r0 : Nat) (mark : D) (w0 : World), (match ro with
      | none => r0 = w.heap.size ∧ mark = [{ target := .collected w.heap.size, args := #[] }] ∧ w0 = w.alloc (.deferred (some []))
      | some l0 => ∃ rl : Loop, w.heap[l0]? = some (.loop rl) ∧ r0 = rl.defers ∧ mark = [] ∧ w0 = w) ∧
    callF P g [.func (.yield w0.heap.size) #[] #[]]
      (fun _ w3 => ∃ r : Loop, w3.heap[w0.heap.size]? = some (.loop r) ∧ r.state ≠ .busy ∧ pend KN KR KE r.pending (mark ++ d) (w3.putObj w0.heap.size (.loop { r with state := .exhausted })))
      (fun c w3 => PK c (mark ++ d) w3)
      (w0.alloc (.loop { state := .ready, pending := none, fn, tmps, params := ps, assign, body, defers := r0 }))
def exits : Code → List Nat
  | .exit id => [id]
  | .seq a b => exits a ++ exits b
  | .cond _ a b => exits a ++ exits b
  | .block id c => (exits c).filter (fun i => !(Nat.beq i id))
  | .loop c => exits c
  | .scope c => exits c
  | .rangeFunc _ _ _ c => exits c
  | _ => []
def nub : List Nat → List Nat
  | [] => []
  | i :: l => bif memb i l then nub l else i :: nub l
/-- What is told of a function's code: for the block of each loop, the slots that its rounds hand on; for that of each range over a function, the slots that its body reads. -/
structure Note where
  car : List (Nat × List Nat)
  lv : List (Nat × List Nat)
def look (i : Nat) : List (Nat × List Nat) → List Nat
  | [] => []
  | (j, l) :: r => bif Nat.beq i j then l else look i r

def vc (P : Program) (A : Note) (ro : Option Nat) (n : Nat) : Nat → Nat → Code → K4 → S → D → World → Prop
  | 0, _, _, _, _, _, _ => False
  | f + 1, bid, c, K, s, d, w => match c with
    | .skip => K .normal s d w
    | .label _ => K .normal s d w
    | .ret => K .ret s d w
    | .exit id => K (.exit id) s d w
    | .goto l => K (.goto l) s d w
    | .seq a b => vc P A ro n f bid a (fun e s d w => match e with
      | .normal => vc P A ro n f bid b K s d w
      | .exit id => K (.exit id) s d w
      | .goto l => K (.goto l) s d w
      | .ret => K .ret s d w
      | .panic c => K (.panic c) s d w
      | .outgrown => False) s d w
    | .cond x a b => condV (ev n s x) (vc P A ro n f bid a K s d w) (vc P A ro n f bid b K s d w)
    | .block id a => vc P A ro n f id a (fun e s d w => match e with
      | .normal => K .normal s d w
      | .exit i => bif Nat.beq i id then K .normal s d w else K (.exit i) s d w
      | .goto l => K (.goto l) s d w
      | .ret => K .ret s d w
      | .panic c => K (.panic c) s d w
      | .outgrown => False) s d w
    | .scope a => vc P A ro n f bid a (fun e s d w => match e with
      | .normal => K .normal s d w
      | .exit i => K (.exit i) s d w
      | .goto l => match findLabel a l with
        | some rest => vc P A ro n f bid rest (fun e s d w => match e with
          | .normal => K .normal s d w
          | .exit i => K (.exit i) s d w
          | .goto _ => False
          | .ret => K .ret s d w
          | .panic c => K (.panic c) s d w
          | .outgrown => False) s d w
        | none => False
      | .ret => K .ret s d w
      | .panic c => K (.panic c) s d w
      | .outgrown => False) s d w
    | .region _ ops draw => bif draw then
        (bif !(Region.noSelect ops) then False else bif leftLd ops (Array.replicate ops.size false) then
          ∃ H : World → Prop, H w.drew ∧ drawW P ro n ops H (fun s d w => K .normal s d w) (fun c s d w => K (.panic c) s d w) (ops.size + 1) (Array.replicate ops.size false) s d w.drew
        else drawW P ro n ops (fun _ => True) (fun s d w => K .normal s d w) (fun c s d w => K (.panic c) s d w) (ops.size + 1) (Array.replicate ops.size false) s d w.drew)
      else opsW P ro n ops (fun s d w => K .normal s d w) (fun c s d w => K (.panic c) s d w) ops.toList s d w
    | .loop a => bif lays a then
        LoopD (picks s (look bid A.car)) (fun l d N w => ∀ j : S, vc P A ro n f bid a (fun e s' d' w' => match e with
          | .normal => N (picks s' (look bid A.car)) d' w'
          | .exit i => K (.exit i) s' d' w'
          | .goto l => K (.goto l) s' d' w'
          | .ret => K .ret s' d' w'
          | .panic c => K (.panic c) s' d' w'
          | .outgrown => False) (mix (asg a) s (ovr (look bid A.car) l j)) d w) d w
      else
        LoopW (picks s (look bid A.car)) (fun l N w => ∀ j : S, vc P A ro n f bid a (fun e s' d' w' => match e with
          | .normal => N (picks s' (look bid A.car)) w'
          | .exit i => K (.exit i) s' d' w'
          | .goto l => K (.goto l) s' d' w'
          | .ret => K .ret s' d' w'
          | .panic c => K (.panic c) s' d' w'
          | .outgrown => False) (mix (asg a) s (ovr (look bid A.car) l j)) d w) w
    | .rangeFunc g ps assign body => RangeW P ro n (live s (look bid A.lv)) ps assign body (ev n s g) (fun d w => K .normal s d w) (fun d w => K .ret s d w)
        ((nub (exits body)).map fun id => (id, fun d w => K (.exit id) s d w)) (fun c d w => K (.panic c) s d w) d w
    | .refuse _ => False

/-! ### A function -/
def LvW (P : Program) : D → FrameMode → World → (FrameMode → World → Prop) → Prop
  | [], u, w, E => E u w
  | d :: ds, u, w, E => u ≠ .run ∧
      ((∃ r, d.target = .collected r ∧ w.heap[r]? = some (.deferred (some [])) ∧ LvW P ds u (w.putObj r (.deferred none)) E) ∨
       (∃ f, d.target = .fn (.func f) #[] ∧ okFn P f = true ∧ CallsDIn (FW none) 0 P f d.args u w fun
          | .returned _, u', w' => LvW P ds (settle u') w' E
          | .panicked chain, u', w' => LvW P ds (raised u' chain) w' E
          | .outgrown, _, _ => False))
def resW (P : Program) (n : Nat) (s : S) (w : World) : List ResultVar → (List Value → Prop) → Prop
  | [], K => K []
  | .tmp t :: l, K => resW P n s w l (fun vs => K (rd n s t :: vs))
  | .cell a t :: l, K => match ldSize P t with
    | some z => ldW z (rd n s a) w (fun v => resW P n s w l (fun vs => K (v :: vs)))
    | none => False
def oneV (vs : List Value) : Value := match vs with
  | [v] => v
  | vs => .tuple vs.toArray
def endV (X : World → Prop) (R : Ending → World → Prop) (u : FrameMode) (w : World) : Prop := match u with
  | .returning => X w
  | .panicking ch => R (.panicked ch) w
  | .run => False
def endU (P : Program) (n : Nat) (s : S) (rs : List ResultVar) (R : Ending → World → Prop) : FrameMode → World → Prop :=
  endV (fun w => resW P n s w rs (fun vs => R (.returned (oneV vs)) w)) R
def endK (P : Program) (n : Nat) (rs : List ResultVar) (R : Ending → World → Prop) : K4 := fun e s d w => match e with
  | .normal => LvW P d .returning w (endU P n s rs R)
  | .ret => LvW P d .returning w (endU P n s rs R)
  | .panic c => LvW P d (.panicking c) w (endU P n s rs R)
  | _ => False
def fnW (P : Program) (A : Note) (fuel : Nat) (fn : Func) (args : List Value) (R : Ending → World → Prop) (w : World) : Prop := match fn.body with
  | none => False
  | some c => bif Nat.ble args.length fn.ntmps then vc P A none fn.ntmps fuel 0 c (endK P fn.ntmps fn.results.toList R) (ini args) [] w else False

/-! ### A round -/
def rEnd (l : Nat) (j : Option Code) (R : Value → World → Prop) (w : World) : Prop :=
  ∃ r : Loop, w.heap[l]? = some (.loop r) ∧ R (.bool j.isNone) (w.putObj l (.loop { r with state := if j.isNone then .ready else .done, pending := j }))
def rBeg (l : Nat) (X : World → Prop) (w : World) : Prop :=
  ∃ r : Loop, w.heap[l]? = some (.loop r) ∧ r.state = .ready ∧ X (w.putObj l (.loop { r with state := .busy }))
def rndW (P : Program) (A : Note) (n fuel l : Nat) (assign body : Code) (s : S) (R : Value → World → Prop) (w : World) : Prop :=
  vc P A (some l) n fuel 0 assign (fun e s d w => match e with
    | .normal => rBeg l (fun w => vc P A (some l) n fuel 0 body (fun e _ _ w => match e with
        | .normal => rEnd l none R w
        | .ret => rEnd l (some .ret) R w
        | .exit i => rEnd l (some (.exit i)) R w
        | .goto i => rEnd l (some (.goto i)) R w
        | _ => False) s d w) w
    | _ => False) s [] w
def pset : List Tmp → List Value → S → S
  | p :: ps, v :: vs, s => pset ps vs (wr s p v)
  | _, _, s => s
def ovrP : List (Nat × Value) → S → S
  | (i, v) :: l, u => fun j => bif Nat.beq j i then v else ovrP l u j
  | [], u => u
/-- The k-th of some values. -/
def gv : List Value → Nat → Value
  | l, 0 => l.headD undef
  | l, k + 1 => gv l.tail k
/-- A piece of code, by the way to it. -/
def sub : List Nat → Code → Code
  | [], c => c
  | 0 :: p, .seq a _ => sub p a
  | _ :: p, .seq _ b => sub p b
  | 0 :: p, .cond _ a _ => sub p a
  | _ :: p, .cond _ _ b => sub p b
  | _ :: p, .block _ c => sub p c
  | _ :: p, .loop c => sub p c
  | _ :: p, .scope c => sub p c
  | 0 :: p, .rangeFunc _ _ a _ => sub p a
  | _ :: p, .rangeFunc _ _ _ b => sub p b
  | _, c => c
def bodyOf (f : Func) : Code := f.body.getD .skip
/-- The cells of a type's zero; the zero. -/
def zo (P : Program) (t : TypeId) : Option Value := (P.info? t).bind (·.zero)
def zc (P : Program) (t : TypeId) : Array Value := ((zo P t).getD undef).cells
def bs (l : List Nat) : ByteArray := ⟨(l.map UInt8.ofNat).toArray⟩
end Go.Proofs.YtkkkcafkepnecaaGreat.Vc

/-! Soundness of the conditions, operations first. -/
set_option linter.unusedVariables false
set_option linter.unusedSimpArgs false
namespace Go.Proofs.YtkkkcafkepnecaaGreat.Vc
open Go Go.RowKit

theorem evP_map (n : Nat) (s : S) (l : List (Nat × Operand)) : evP n s l = l.map fun (i, x) => (i, ev n s x) := by
  induction l with
  | nil => rfl
  | cons x l ih => obtain ⟨i, x⟩ := x; simp [evP, ih]
theorem evO_map (n : Nat) (s : S) (x : Option Operand) : evO n s x = x.map (ev n s) := by cases x <;> rfl
theorem evs_arr (n : Nat) (s : S) (a : Array Operand) : (evs n s a.toList).toArray = a.map (ev n s) := by
  rw [evs_map]; apply Array.ext' ; simp
theorem evP_arr (n : Nat) (s : S) (a : Array (Nat × Operand)) : (evP n s a.toList).toArray = a.map fun (i, x) => (i, ev n s x) := by
  rw [evP_map]; apply Array.ext' ; simp

theorem binV_eq (op : BinOp) (t : TypeId) (x y : Operand) (a b : Value) : (do eqGuard op t x y a b; binOp op t a b : Sem Value) = binV op t (cnst x || cnst y) a b := by
  unfold binV
  congr 1
  unfold eqGuard
  cases a <;> cases b <;> first | rfl | skip
  cases x <;> cases y <;> simp [cnst]

section
variable {P : Program} {n : Nat} {s : S}

theorem run_info {t : TypeId} {i : TypeInfo} (h : P.info? t = some i) (w : World) : (typeInfo t).run P w = .ok i w := by
  simp [typeInfo, go_sem, h]
theorem run_und {t : TypeId} {d : TypeDesc} (h : P.underlying t = some d) (w : World) : (underlying t).run P w = .ok d w := run_underlying h w
theorem run_size {t : TypeId} {i : TypeInfo} (h : P.info? t = some i) (w : World) : (sizeOf t).run P w = .ok i.size w := by
  simp [sizeOf, go_sem, run_info h]
theorem run_agg {t : TypeId} {d : TypeDesc} (h : P.underlying t = some d) (w : World) : (isAgg t).run P w = .ok (agT P t) w := by
  unfold isAgg agT
  simp only [Sem.run_bind, run_und h, Result.andThen, h]
  cases d <;> simp [go_sem]

theorem pt_sound {t : TypeId} {z : Option Nat} (h : ldSize P t = some z) {off : Nat} {x : Value} {K : Value → Prop} (hp : ptW off z x K) :
    ∃ cs v, x = .agg cs ∧ (∀ w, (part t cs off).run P w = .ok v w) ∧ K v := by
  unfold ldSize at h
  split at h
  · cases h
  · rename_i d hd
    split at h
    · cases h
    · rename_i i hi
      simp only [Option.some.injEq] at h
      cases hag : agT P t
      · rw [hag] at h; simp at h; subst h
        obtain ⟨cs, v, rfl, hv, hk⟩ := hp
        refine ⟨cs, v, rfl, fun w => ?_, hk⟩
        unfold part
        simp only [Sem.run_bind, run_agg hd, hag, Result.andThen, hv]
        simp [go_sem]
      · rw [hag] at h; simp at h; subst h
        obtain ⟨cs, rfl, hk⟩ := hp
        refine ⟨cs, _, rfl, fun w => ?_, hk⟩
        unfold part
        simp only [Sem.run_bind, run_agg hd, hag, Result.andThen, run_size hi]
        simp [go_sem, run_size hi]

theorem run_v {m : Sem Value} {v : Value} {w w' : World} (h : m.run P w = .ok v w') : (do pure (Next.value (← m)) : Sem Next).run P w = .ok (.value v) w' := by
  simp [Sem.run_bind, h, Result.andThen, go_sem]
theorem run_u {m : Sem Unit} {w w' : World} (h : m.run P w = .ok () w') : (do m; pure Next.skip : Sem Next).run P w = .ok .skip w' := by
  simp [Sem.run_bind, h, Result.andThen, go_sem]

theorem puOp_sound (o : Oper) (K : Value → Prop) (hp : isPu P o.op = true) (h : puOp P n s o.op K) :
    ∃ v, (∀ w, (execOp (ev n s) o).run P w = .ok (.value v) w) ∧ K v := by
  obtain ⟨dst, op, ty, pos, after, guard⟩ := o
  cases op <;> simp only [isPu, Bool.false_eq_true] at hp <;> simp only [puOp] at h <;> simp only [execOp]
  case move x => exact ⟨_, fun w => by simp [go_sem], h⟩
  case assign x => exact ⟨_, fun w => by simp [go_sem], h⟩
  case pick c a b =>
    unfold condV at h
    split at h
    · rename_i hc; exact ⟨_, fun w => by simp [hc, asBool, go_sem], h⟩
    · rename_i hc; exact ⟨_, fun w => by simp [hc, asBool, go_sem], h⟩
    · exact h.elim
  case nilCheck x =>
    unfold nlW at h
    split at h
    · rename_i hx; exact ⟨_, fun w => by simp [hx, go_sem], h⟩
    · rename_i hx; exact ⟨_, fun w => by simp [hx, go_sem], h⟩
    · rename_i hx; exact ⟨_, fun w => by simp [hx, go_sem], h⟩
    · exact h.elim
  case fieldAddr t x f =>
    split at h
    · rename_i fs hu
      split at h
      · rename_i fl hf
        split at h
        · rename_i i hi
          cases hz : Nat.beq i.size 0
          · rw [hz] at h
            obtain ⟨a, hx, hk⟩ := h
            have hne : i.size ≠ 0 := fun e => by rw [e] at hz; cases hz
            refine ⟨_, fun w => run_v ?_, hk⟩
            simp [Instr.fieldAt, Instr.sureAddr, fieldPlace, hx, Sem.run_bind, run_und hu, Result.andThen, hf, go_sem, run_size hi, hne]
          · rw [hz] at h; exact h.elim
        · exact h.elim
      · exact h.elim
    · exact h.elim
  case field t x f =>
    split at h
    · rename_i fs hu
      split at h
      · rename_i fl hf
        split at h
        · rename_i z hz
          obtain ⟨cs, v, hx, hv, hk⟩ := pt_sound hz h
          refine ⟨v, fun w => run_v ?_, hk⟩
          have hv' := hv w
          simp only [Instr.field, hx, Sem.run_bind, run_und hu, Result.andThen, hf]
          simp only [asAgg, Sem.run_pure]; exact hv'
        · exact h.elim
      · exact h.elim
    · exact h.elim
  case indexAddr t x i =>
    split at h
    · rename_i len e hu
      split at h
      · rename_i inf hi
        obtain ⟨a, k, m, hx, hiv, h0, h1, hk⟩ := h
        refine ⟨_, fun w => run_v ?_, hk⟩
        simp [Instr.indexAt, Instr.sureAddr, hx, hiv, asIntOf, Sem.run_bind, run_und hu, Result.andThen, go_sem, h0, h1, run_size hi]
      · exact h.elim
    · rename_i e hu
      split at h
      · rename_i inf hi
        obtain ⟨a, len, cap, k, m, hx, hiv, h0, h1, hk⟩ := h
        refine ⟨_, fun w => run_v ?_, hk⟩
        simp [Instr.indexAt, Instr.sureAddr, hx, hiv, asIntOf, Sem.run_bind, run_und hu, Result.andThen, go_sem, h0, h1, run_size hi]
      · exact h.elim
    · exact h.elim
  case index t x i =>
    split at h
    · rename_i len e hu
      split at h
      · exact h.elim
      · rename_i de hde
        split at h
        · rename_i inf hi
          obtain ⟨k, m, hiv, h0, h1, hk⟩ := h
          have hz : ldSize P e = some (bif agT P e then some inf.size else none) := by simp [ldSize, hde, hi]
          obtain ⟨cs, v, hx, hv, hk⟩ := pt_sound hz hk
          refine ⟨v, fun w => run_v ?_, hk⟩
          have hv' := hv w
          simp only [Instr.index, hx, hiv, asIntOf, Sem.run_bind, Sem.run_pure, run_und hu, Result.andThen, h0, h1, and_self, if_true, run_size hi]; exact hv'
        · exact h.elim
    · rename_i hu
      obtain ⟨str, k, m, b, hx, hiv, h0, hb, hk⟩ := h
      refine ⟨_, fun w => run_v ?_, hk⟩
      simp [Instr.index, hx, hiv, asIntOf, Sem.run_bind, run_und hu, Result.andThen, go_sem, h0, hb]
    · exact h.elim
  case unOp o t x => obtain ⟨v, hv, hk⟩ := h; exact ⟨v, fun w => run_v (hv w), hk⟩
  case binOp o t x y t2 =>
    obtain ⟨v, hv, hk⟩ := h
    refine ⟨v, fun w => run_v ?_, hk⟩
    rw [binV_eq]; exact hv w
  case extract x i =>
    unfold exW at h
    split at h
    · rename_i vs hx
      obtain ⟨v, hv, hk⟩ := h
      exact ⟨v, fun w => run_v (by simp [Instr.extract, hx, hv, go_sem]), hk⟩
    · exact h.elim
  case makeFunc fn a b => exact ⟨_, fun w => run_v (by simp only [Instr.makeFunc, Sem.run_pure, evs_arr]), h⟩
  case makeInterface t x =>
    split at h
    · exact h.elim
    · rename_i d hni hu
      refine ⟨_, fun w => run_v ?_, h⟩
      unfold Instr.makeInterface
      simp only [Sem.run_bind, run_und hu, Result.andThen]
      cases d <;> first | rfl | (exact absurd hu (hni _))
    · exact h.elim
  case slice t x lo hi mx =>
    obtain ⟨v, hv, hk⟩ := h
    refine ⟨v, fun w => run_v ?_, hk⟩
    simp only [evO_map] at hv; exact hv w
  case build t ps =>
    obtain ⟨v, hv, hk⟩ := h
    refine ⟨v, fun w => run_v ?_, hk⟩
    simp only [evP_arr] at hv; exact hv w
  case typeAssert t x u b => obtain ⟨v, hv, hk⟩ := h; exact ⟨v, fun w => run_v (hv w), hk⟩
  case convert a b x =>
    split at h
    · obtain ⟨v, hv, hk⟩ := h; exact ⟨v, fun w => run_v (hv w), hk⟩
    · exact h.elim
  case call c =>
    obtain ⟨callee, args, argTypes⟩ := c
    cases callee <;> simp only [Bool.false_eq_true] at hp <;> simp only at h
    rename_i b
    cases b <;> simp only [Bool.false_eq_true] at hp <;> simp only at h
    case len =>
      unfold one1 at h
      rw [evs_map] at h
      split at h
      · rename_i e hu
        split at h
        · rename_i x hx
          unfold lnS at h
          split at h
          · rename_i a m c2
            have hargs : args.map (ev n s) = #[.slice a m c2] := by apply Array.ext'; simpa using hx
            obtain ⟨t0, ht0, hu0⟩ := Option.bind_eq_some_iff.1 hu
            refine ⟨_, fun w => ?_, h⟩
            simp [resolve, hargs, go_sem, invoke, builtin, Builtin.len_, ht0, Sem.run_bind, run_und hu0, Result.andThen, goInt]
          · exact h.elim
        · exact h.elim
      · rename_i hu
        split at h
        · rename_i x hx
          unfold lnT at h
          split at h
          · rename_i str
            have hargs : args.map (ev n s) = #[.string str] := by apply Array.ext'; simpa using hx
            obtain ⟨t0, ht0, hu0⟩ := Option.bind_eq_some_iff.1 hu
            refine ⟨_, fun w => ?_, h⟩
            simp [resolve, hargs, go_sem, invoke, builtin, Builtin.len_, ht0, Sem.run_bind, run_und hu0, Result.andThen, goInt]
          · exact h.elim
        · exact h.elim
      · exact h.elim
    case cap =>
      obtain ⟨v, hv, hk⟩ := h
      refine ⟨v, fun w => ?_, hk⟩
      have := hv w
      simp only [evs_arr] at this
      simp only [resolve, Sem.run_bind, Sem.run_pure, Result.andThen, invoke, builtin]
      rw [show Sem.run P (Builtin.cap_ argTypes ty (Array.map (ev n s) args)) w = .ok v w from this]
    case max =>
      obtain ⟨v, hv, hk⟩ := h
      refine ⟨v, fun w => ?_, hk⟩
      have := hv w
      simp only [evs_arr] at this
      simp only [resolve, Sem.run_bind, Sem.run_pure, Result.andThen, invoke, builtin]
      rw [show Sem.run P (Builtin.max_ argTypes ty (Array.map (ev n s) args)) w = .ok v w from this]
    case min =>
      obtain ⟨v, hv, hk⟩ := h
      refine ⟨v, fun w => ?_, hk⟩
      have := hv w
      simp only [evs_arr] at this
      simp only [resolve, Sem.run_bind, Sem.run_pure, Result.andThen, invoke, builtin]
      rw [show Sem.run P (Builtin.min_ argTypes ty (Array.map (ev n s) args)) w = .ok v w from this]
end
end Go.Proofs.YtkkkcafkepnecaaGreat.Vc

/-! Soundness of the conditions, regions. -/
set_option linter.unusedVariables false
set_option linter.unusedSimpArgs false
namespace Go.Proofs.YtkkkcafkepnecaaGreat.Vc
open Go Go.RowKit

section
variable {P : Program} {n : Nat} {s : S}

theorem run_load {a : Addr} {v : Value} {w : World} (h : w.cell? a = some v) : (load a).run P w = .ok v w := by
  simp [load, Sem.run, h]
theorem run_loadCellsFrom (a : Addr) {w : World} : ∀ (vs : List Value) (i : Nat) (acc : Array Value), (∀ (j : Nat) u, vs[j]? = some u → w.cell? (a.add (i + j)) = some u) →
    (loadCellsFrom a i vs.length acc).run P w = .ok (acc ++ vs.toArray) w
  | [], i, acc, _ => by simp [loadCellsFrom, go_sem]
  | v :: vs, i, acc, h => by
    simp only [List.length_cons, loadCellsFrom, Sem.run_bind]
    have h0 := h 0 v rfl
    simp only [Nat.add_zero] at h0
    rw [run_load h0]
    simp only [Result.andThen]
    rw [run_loadCellsFrom a vs (i + 1) (acc.push v) (fun j u hu => by
      have := h (j + 1) u (by simpa using hu)
      rw [show i + 1 + j = i + (j + 1) by omega]; exact this)]
    simp
theorem rd_sound {t : TypeId} {z : Option Nat} (hz : ldSize P t = some z) {x v : Value} {w : World} (h : rdW z x w v) : (Instr.loadAt t x).run P w = .ok v w := by
  unfold ldSize at hz
  split at hz
  · cases hz
  · rename_i d hd
    split at hz
    · cases hz
    · rename_i i hi
      simp only [Option.some.injEq] at hz
      cases hag : agT P t
      · rw [hag] at hz; simp at hz; subst hz
        obtain ⟨a, rfl, hc⟩ := h
        simp [Instr.loadAt, Instr.sureAddr, loadVar, Sem.run_bind, Sem.run_pure, Result.andThen, run_agg hd, hag, run_load hc]
      · rw [hag] at hz; simp at hz; subst hz
        obtain ⟨a, vs, rfl, hl, hc, rfl⟩ := h
        simp only [Instr.loadAt, Instr.sureAddr, loadVar, Sem.run_bind, Sem.run_pure, Result.andThen, run_agg hd, hag, if_true, run_size hi, loadCells]
        rw [← hl, run_loadCellsFrom a vs 0 #[] (fun j u hu => by simpa using hc j u hu)]
        simp
theorem heldOp_sound (o : Oper) (H : World → Prop) (e : Bool) (w0 : World) (K : Value → Prop) (hp : isHeld P o.op = true) (h : heldOp P n s H e w0 o.op K) :
    ∃ v, (∀ w, (isLd o.op = true → (bif e then w = w0 else H w)) → (execOp (ev n s) o).run P w = .ok (.value v) w) ∧ K v := by
  unfold isHeld at hp
  cases hl : isLd o.op
  · rw [hl, Bool.or_false] at hp
    have h' : puOp P n s o.op K := by
      unfold heldOp at h
      split at h
      · rename_i heq; rw [heq] at hl; cases hl
      · exact h
    obtain ⟨v, hv, hk⟩ := puOp_sound o K hp h'
    exact ⟨v, fun w _ => hv w, hk⟩
  · obtain ⟨dst, op, ty, pos, after, guard⟩ := o
    cases op <;> simp only [isLd, Bool.false_eq_true] at hl
    rename_i t a
    simp only [heldOp] at h
    split at h
    · rename_i z hz
      cases e
      · obtain ⟨v, hv, hk⟩ := h
        exact ⟨v, fun w hw => run_v (rd_sound hz (hv w (hw rfl))), hk⟩
      · obtain ⟨v, hv, hk⟩ := h
        refine ⟨v, fun w hw => ?_, hk⟩
        have hw : w = w0 := hw rfl
        subst hw
        exact run_v (rd_sound hz hv)
    · exact h.elim

/-! ### One operation -/
abbrev Q3 := Exit → Act → World → Prop
variable {ro : Option Nat} {Q : Q3} {K : S → D → World → Prop} {PK : List PanicEntry → S → D → World → Prop} {d : D} {w : World}

theorem wpIn_value {o : Oper} {a : Act} {next : Act → World → Prop} {v : Value} {w' : World} (hd : ∀ c, o.op ≠ .defer c) (h : (execOp a.eval o).run P w = .ok (.value v) w') (hn : next (a.put o.dst v) w') :
    o.wpIn (FW ro) 0 P a w next Q := ⟨fun _ _ => trivial, by rw [Oper.semAt_eq _ _ _ hd, h]; exact hn⟩
theorem wpIn_skip' {o : Oper} {a : Act} {next : Act → World → Prop} {w' : World} (hd : ∀ c, o.op ≠ .defer c) (h : (execOp a.eval o).run P w = .ok .skip w') (hn : next (a.put o.dst undef) w') :
    o.wpIn (FW ro) 0 P a w next Q := ⟨fun _ _ => trivial, by rw [Oper.semAt_eq _ _ _ hd, h]; exact hn⟩
theorem wpIn_call {o : Oper} {a : Act} {next : Act → World → Prop} {f : FuncId} {args : List Value} {K : Value → World → Prop} {PK : List PanicEntry → World → Prop} (hd : ∀ c, o.op ≠ .defer c) (hf : okFn P f = true)
    (h : (execOp a.eval o).run P w = (callFunc f args.toArray).run P w) (hc : callW P f args K PK w) (hk : ∀ v w', K v w' → next (a.put o.dst v) w') (hp : ∀ c w', PK c w' → Q (.panic c) a w') :
    o.wpIn (FW ro) 0 P a w next Q := ⟨fun _ _ => trivial, by
  rw [Oper.semAt_eq _ _ _ hd, h, okFn_run hf]
  refine ⟨fun h => by simp [FW] at h, callsIn_FW (Calls.mono hc fun e w' he => ?_)⟩
  cases e with
  | returned v => exact hk _ _ he
  | panicked c => exact hp _ _ he
  | outgrown => exact he.elim⟩
theorem wpIn_round {o : Oper} {a : Act} {next : Act → World → Prop} {l : Nat} {args : List Value} {K : Value → World → Prop} {PK : List PanicEntry → World → Prop} (hd : ∀ c, o.op ≠ .defer c)
    (h : (execOp a.eval o).run P w = (Instr.yield l args.toArray).run P w) (hc : roundW P l args K PK w) (hk : ∀ v w', K v w' → next (a.put o.dst v) w') (hp : ∀ c w', PK c w' → Q (.panic c) a w') :
    o.wpIn (FW ro) 0 P a w next Q := ⟨fun _ _ => trivial, by
  obtain ⟨r, hl, hs, hr⟩ := hc
  rw [Oper.semAt_eq _ _ _ hd, h, run_yield hl (by simpa using hs)]
  refine ⟨fun h => by simp [FW] at h, ?_⟩
  refine RoundIn.mono (show RoundIn (FW ro) 0 P l _ _ _ _ _ _ from hr) fun e w' he => ?_
  cases e with
  | returned v => exact hk _ _ he
  | panicked c => exact hp _ _ he
  | outgrown => exact he.elim⟩

theorem resolve_run (ρ : Operand → Value) (c : Call) (ty : TypeId) (x : Operand) (hc : c.callee = .value x) (w : World) : (resolve ρ c ty).run P w = (Deferred.ofValue (ρ x) (c.args.map ρ)).run P w := by
  unfold resolve; rw [hc]
theorem call_run {ρ : Operand → Value} {dst : Option Tmp} {c : Call} {ty : TypeId} {pos : String} {after : Array Edge} {guard : Option (Nat × Bool)} {x : Operand} (hc : c.callee = .value x) {fn : Fn} {first cap : Array Value}
    (hx : ρ x = .func fn first cap) (w : World) : (execOp ρ ⟨dst, .call c, ty, pos, after, guard⟩).run P w = (invoke (.fn fn cap) (first ++ c.args.map ρ)).run P w := by
  simp only [execOp, Sem.run_bind, resolve_run ρ c ty x hc, hx, Deferred.ofValue, Sem.run_pure, Result.andThen]

theorem putObj_putObj (w : World) (r : Nat) (o o' : Obj) : (w.putObj r o).putObj r o' = w.putObj r o' := by
  simp [World.putObj]
theorem setCell_put {w : World} {a : Addr} {c : Array Value} {e : TypeId} {fz : Nat × Nat} (h : w.heap[a.block]? = some (.cells c e fz)) (hs : a.spot = none) (v : Value) :
    w.setCell a v = w.putObj a.block (.cells (c.setIfInBounds a.off v) e fz) := by
  have hlt : a.block < w.heap.size := (Array.getElem?_eq_some_iff.1 h).1
  have hv : w.heap[a.block] = .cells c e fz := (Array.getElem?_eq_some_iff.1 h).2
  unfold World.setCell World.putObj
  congr 1
  apply Array.ext
  · simp
  · intro i h1 h2
    have h3 : i < w.heap.size := by simpa using h2
    rw [Array.getElem_modify, Array.getElem_setIfInBounds h3]
    by_cases hi : a.block = i
    · subst hi; simp [hv, hs]
    · simp [hi]
theorem run_storeCells {a : Addr} (hs : a.spot = none) {e : TypeId} {fz : Nat × Nat} : ∀ (vs : List Value) (i : Nat) (w : World) (c : Array Value), w.heap[a.block]? = some (.cells c e fz) →
    (∀ u ∈ vs, plainV u = true) → a.off + i + vs.length ≤ c.size → (a.off + i + vs.length ≤ fz.1 ∨ fz.2 ≤ a.off + i) →
    (storeCells a vs i).run P w = .ok () (w.putObj a.block (.cells (wrL c (a.off + i) vs) e fz))
  | [], i, w, c, h, _, _, _ => by
    have hlt : a.block < w.heap.size := (Array.getElem?_eq_some_iff.1 h).1
    have hv : w.heap[a.block] = .cells c e fz := (Array.getElem?_eq_some_iff.1 h).2
    simp only [storeCells, Sem.run_pure, wrL]
    congr 1
    unfold World.putObj
    have : w.heap.setIfInBounds a.block (.cells c e fz) = w.heap := by
      apply Array.ext
      · simp
      · intro i h1 h2
        rw [Array.getElem_setIfInBounds (by simpa using h1)]
        by_cases hi : a.block = i
        · subst hi; simp [hv]
        · simp [hi]
    rw [this]
  | v :: vs, i, w, c, h, hp, hle, hfz => by
    simp only [List.length_cons] at hle hfz
    have hadd : a.add i = ⟨a.block, a.off + i, none⟩ := by
      unfold Addr.add
      split
      · rename_i h0; subst h0; cases a; simp_all
      · cases a; simp_all
    have hb : (a.add i).block = a.block := by rw [hadd]
    have hoff : (a.add i).off = a.off + i := by rw [hadd]
    have hsp : (a.add i).spot = none := by rw [hadd]
    have hcell : w.cell? (a.add i) = some c[a.off + i] := by
      simp only [World.cell?, hb, h, hsp, hoff]
      simp only [Option.isSome_none, Bool.false_eq_true, if_false]
      exact Array.getElem?_eq_getElem (by omega)
    have hfr : w.frozen? (a.add i) = false := by
      simp only [World.frozen?, hb, h, hoff, Bool.and_eq_false_iff, decide_eq_false_iff_not]
      omega
    have hset := setCell_put (w := w) (a := a.add i) (by rw [hb]; exact h) hsp v
    rw [hb, hoff] at hset
    have hstore : (store (a.add i) v).run P w = .ok () (w.putObj a.block (.cells (c.setIfInBounds (a.off + i) v) e fz)) := by
      have hpv := hp v List.mem_cons_self
      unfold store
      cases v <;> simp only [plainV, Bool.false_eq_true] at hpv <;> simp [Sem.run, hcell, hfr, hset]
    simp only [storeCells, Sem.run_bind, hstore, Result.andThen]
    have hlt : a.block < w.heap.size := (Array.getElem?_eq_some_iff.1 h).1
    rw [run_storeCells hs vs (i + 1) _ _ (World.putObj_heap_same hlt) (fun u hu => hp u (List.mem_cons_of_mem _ hu)) (by simp; omega) (by omega)]
    rw [putObj_putObj]
    rfl
theorem st_sound {t : TypeId} {i : TypeInfo} (hi : P.info? t = some i) {x v : Value} {K : World → Prop} {w : World} (h : stW i.size x v K w) : ∃ w', (Instr.storeAt t x v).run P w = .ok () w' ∧ K w' := by
  obtain ⟨a, c, e, fz, rfl, hb, hsz, hpl, hsp, hle, hfz, hk⟩ := h
  refine ⟨_, ?_, hk⟩
  have hl : v.cells.toList.length = i.size := by simpa using hsz
  have := run_storeCells (P := P) hsp v.cells.toList 0 w c hb hpl (by omega) (by rw [hl]; simpa using hfz)
  simp only [Nat.add_zero] at this
  simp only [Instr.storeAt, Instr.sureAddr, storeVar, Sem.run_bind, Sem.run_pure, Result.andThen, run_size hi, hsz, ne_eq, not_true, if_false, this]
theorem al_run {t : TypeId} {i : TypeInfo} {z : Value} (hi : P.info? t = some i) (hz : i.zero = some z) (w : World) :
    (Instr.alloc t true (.tuple #[])).run P w = .ok (.pointer (some ⟨w.heap.size, 0, none⟩)) (w.alloc (.cells z.cells t)) := by
  simp only [Instr.alloc, zeroValue, Sem.run_bind, run_info hi, Result.andThen, hz, Sem.run_pure, newVar, newRow, run_newObj_alloc]
theorem bx_run (t : TypeId) (v : Value) (w : World) : (Instr.box t v).run P w = .ok (.pointer (some ⟨w.heap.size, 0, none⟩)) (w.alloc (.cells v.cells t)) := by
  simp only [Instr.box, Sem.run_bind, Result.andThen, Sem.run_pure, newVar, newRow, run_newObj_alloc]
theorem bs_run {t e : TypeId} {i : TypeInfo} {len : Nat} {ps : List (Nat × Value)} {c : Array Value} (hu : P.underlying t = some (.slice e)) (hi : P.info? e = some i) (h1 : 1 ≤ i.size) (h2 : len * i.size ≤ 16777216)
    (hc : bsC P e len ps = some c) (w : World) : (Instr.buildSlice t len ps.toArray).run P w = .ok (.slice (some ⟨w.heap.size, 0, none⟩) len len) (w.alloc (.cells c e)) := by
  unfold bsC at hc
  rw [hi] at hc
  simp only at hc
  split at hc
  · cases hc
  · rename_i z hz
    have hcm : ¬ (len * i.size > 2 ^ 24) := by omega
    have hzr : (zeroValue e).run P w = .ok z w := by simp only [zeroValue, Sem.run_bind, run_info hi, Result.andThen, hz, Sem.run_pure]
    simp only [Instr.buildSlice, Sem.run_bind, run_und hu, Result.andThen, run_size hi, hcm, if_false, Sem.run_pure]
    by_cases h0 : len * i.size = 0
    · rw [h0] at hc
      have hr : Array.range 0 = #[] := rfl
      simp only [hr, List.map_toArray, List.map_nil] at hc
      simp only [h0, if_true, Sem.run_pure, hr, List.map_toArray, List.map_nil, hc, newRow, Sem.run_bind, run_newObj_alloc, Result.andThen]
    · simp only [h0, if_false, Sem.run_bind, hzr, Result.andThen, Sem.run_pure, hc, newRow, run_newObj_alloc]
theorem wrap64_in {n : Int} (h0 : -9223372036854775808 ≤ n) (h1 : n < 9223372036854775808) : IntKind.i64.wrap n = n := by
  have e1 : (2 : Int) ^ (64 - 1) = 9223372036854775808 := rfl
  have e2 : (2 : Int) ^ 64 = 18446744073709551616 := rfl
  simp only [IntKind.wrap, IntKind.bits, IntKind.signed, Bool.true_and, decide_eq_true_eq, e1, e2]
  split <;> omega
theorem mk_run {t e : TypeId} {i : TypeInfo} {l c : Value} {K : Value → World → Prop} {w : World} (hu : P.underlying t = some (.slice e)) (hi : P.info? e = some i) (h1 : 1 ≤ i.size) (h : mkW e i.size i.bytes i.zero l c K w) :
    ∃ v w', (Instr.makeSlice t l c).run P w = .ok v w' ∧ K v w' := by
  obtain ⟨z, k, k', n, m, hz, rfl, rfl, hnm, hm, hb, hk⟩ := h
  refine ⟨_, _, ?_, hk⟩
  have hzr : (zeroValue e).run P w = .ok z w := by simp only [zeroValue, Sem.run_bind, run_info hi, Result.andThen, hz, Sem.run_pure]
  have w1 : IntKind.i64.wrap (n : Int) = n := wrap64_in (by omega) (by omega)
  have w2 : IntKind.i64.wrap (m : Int) = m := wrap64_in (by omega) (by omega)
  have hbi : ¬ ((i.bytes : Int) * (m : Int) > 2 ^ 48) := by
    rw [← Int.natCast_mul]
    omega
  have hm0 : ¬ ((m : Int) < 0) := by omega
  have hn0 : ¬ ((n : Int) < 0) := by omega
  have hgt : ¬ ((n : Int) > (m : Int)) := by omega
  have hcl : (0 : Nat) ≤ m := by omega
  simp only [Instr.makeSlice, Sem.run_bind, run_und hu, Result.andThen, asInt, asIntOf, Sem.run_pure, run_info hi, w1, w2]
  simp only [hbi, hm0, hn0, hgt, decide_false, Bool.or_false, Bool.false_eq_true, or_false, if_false, askRoom, Int.toNat_natCast]
  have hroom : (if m * i.bytes > roomBytes then mark Mark.noRoom else pure () : Sem Unit).run P w = .ok () w := by
    split <;> simp [mark, Sem.run, Sem.run_pure]
  simp only [Sem.run_bind, hroom, Result.andThen, run_size hi]
  by_cases h0 : m * i.size = 0
  · have hr : Array.range 0 = #[] := rfl
    simp only [h0, if_true, Sem.run_pure, hr, List.map_toArray, List.map_nil, newRow, Sem.run_bind, run_newObj_alloc, Result.andThen]
  · simp only [h0, if_false, Sem.run_bind, hzr, Result.andThen, Sem.run_pure, newRow, run_newObj_alloc]
theorem agree_wrO (s : S) (dst : Option Nat) (v : Value) : agree dst.toList s (wrO s dst v) := by
  cases dst with
  | none => exact agree.refl _ _
  | some i => exact agree.wr _ _ (by simp)

theorem efOp_sound (o : Oper) {K : Value → World → Prop} {PK : List PanicEntry → World → Prop} {a : Act} {next : Act → World → Prop} (ha : a.eval = ev n s) (hd : ∀ c, o.op ≠ .defer c)
    (h : efOp P n s o.op o.type K PK w) (hk : ∀ v w', K v w' → next (a.put o.dst v) w') (hp : ∀ c w', PK c w' → Q (.panic c) a w') : o.wpIn (FW ro) 0 P a w next Q := by
  obtain ⟨dst, op, ty, pos, after, guard⟩ := o
  have vv : ∀ {m : Sem Value}, execOp a.eval ⟨dst, op, ty, pos, after, guard⟩ = (do pure (Next.value (← m))) → opW P m K w → Oper.wpIn (FW ro) 0 P ⟨dst, op, ty, pos, after, guard⟩ a w next Q := by
    rintro m he ⟨v, w', hm, hkv⟩
    exact wpIn_value hd (by rw [he]; exact run_v hm) (hk _ _ hkv)
  have uu : ∀ {m : Sem Unit}, execOp a.eval ⟨dst, op, ty, pos, after, guard⟩ = (do m; pure Next.skip) → opU P m (fun w' => K undef w') w → Oper.wpIn (FW ro) 0 P ⟨dst, op, ty, pos, after, guard⟩ a w next Q := by
    rintro m he ⟨w', hm, hkv⟩
    exact wpIn_skip' hd (by rw [he]; exact run_u hm) (hk _ _ hkv)
  cases op <;> simp only [efOp] at h
  case load t x =>
    split at h
    · rename_i z hz
      obtain ⟨v, hv, hkv⟩ := h
      exact wpIn_value hd (by rw [ha]; exact run_v (rd_sound hz hv)) (hk _ _ hkv)
    · exact h.elim
  case store t x v =>
    split at h
    · rename_i i hi
      obtain ⟨w', hw, hkv⟩ := st_sound hi h
      exact uu (by rw [ha]; rfl) ⟨w', hw, hkv⟩
    · exact h.elim
  case alloc t =>
    split at h
    · rename_i i hi
      split at h
      · rename_i z hz
        exact vv rfl ⟨_, _, al_run hi hz w, h⟩
      · exact h.elim
    · exact h.elim
  case box t x => exact vv (by rw [ha]; rfl) ⟨_, _, bx_run t _ w, h⟩
  case buildSlice t l ps =>
    split at h
    · rename_i e hu
      split at h
      · rename_i i hi
        cases hb : Nat.ble 1 i.size && Nat.ble (l * i.size) 16777216
        · rw [hb] at h; exact h.elim
        · rw [hb] at h
          simp only [Bool.and_eq_true] at hb
          obtain ⟨c, hc, hkv⟩ := h
          exact vv (by rw [ha]; simp only [execOp, ← evP_arr]) ⟨_, _, bs_run hu hi (Nat.le_of_ble_eq_true hb.1) (Nat.le_of_ble_eq_true hb.2) hc w, hkv⟩
      · exact h.elim
    · exact h.elim
  case makeMap t r => exact vv (by rw [ha]; simp only [execOp, evO_map]) h
  case makeSlice t l c =>
    split at h
    · rename_i e hu
      split at h
      · rename_i i hi
        cases hb : Nat.ble 1 i.size
        · rw [hb] at h; exact h.elim
        · rw [hb] at h
          exact vv (by rw [ha]; rfl) (mk_run hu hi (Nat.le_of_ble_eq_true hb) h)
      · exact h.elim
    · exact h.elim
  case insert t m k v => exact uu (by rw [ha]; rfl) h
  case mapUpdate t m k v => exact uu (by rw [ha]; rfl) h
  case mapEntry t m k => exact vv (by rw [ha]; rfl) h
  case entryStore t m k v => exact uu (by rw [ha]; rfl) h
  case lookup t x i b => exact vv (by rw [ha]; rfl) h
  case range t x => exact vv (by rw [ha]; rfl) h
  case next x b => exact vv (by rw [ha]; rfl) h
  case entry x => exact vv (by rw [ha]; rfl) h
  case convert t u x => exact vv (by rw [ha]; rfl) h
  case panic x =>
    unfold pnW at h
    split at h
    · rename_i t v hx
      refine ⟨fun _ _ => trivial, ?_⟩
      have : (Oper.semAt ro a.eval ⟨dst, .panic x, ty, pos, after, guard⟩).run P w = .halt (.panic (.iface t v)) w := by
        rw [Oper.semAt_eq _ _ _ hd, ha]
        simp [execOp, Instr.panic, hx, go_sem, goPanic]
      show Oper.uponIn _ _ _ _ _ _ _ ((Oper.semAt ro a.eval ⟨dst, .panic x, ty, pos, after, guard⟩).run P w)
      rw [this]
      exact hp _ _ h
    · exact h.elim
  case call c =>
    obtain ⟨callee, args, argTypes⟩ := c
    cases callee with
    | invoke r m => exact h.elim
    | builtin b =>
      have bb : ∀ {m : Sem Value} , (∀ cs, builtin b argTypes ty cs (args.map (ev n s)) = (do pure (Next.value (← m)))) → opW P m K w → Oper.wpIn (FW ro) 0 P ⟨dst, .call ⟨.builtin b, args, argTypes⟩, ty, pos, after, guard⟩ a w next Q := by
        rintro m he ⟨v, w', hm, hkv⟩
        refine wpIn_value hd ?_ (hk _ _ hkv)
        rw [ha]
        simp only [execOp, resolve, Sem.run_bind, Sem.run_pure, Result.andThen, invoke, he]
        simp [hm]
      cases b <;> simp only [evs_arr] at h
      case append => exact bb (fun _ => rfl) h
      case copy => exact bb (fun _ => rfl) h
      case clear => exact bb (fun _ => rfl) h
      case delete => exact bb (fun _ => rfl) h
      case len => exact bb (fun _ => rfl) h
      all_goals exact h.elim
    | value x =>
      have general : callV P (ev n s x) (evs n s args.toList) K PK w → Oper.wpIn (FW ro) 0 P ⟨dst, .call ⟨.value x, args, argTypes⟩, ty, pos, after, guard⟩ a w next Q := by
        rintro (⟨f, first, cap, hx, hf, hc⟩ | ⟨l, hx, hc⟩)
        · refine wpIn_call hd hf ?_ hc hk hp
          rw [ha, call_run rfl hx]
          simp only [invoke]
          congr 2
          apply Array.ext'
          simp [evs_map]
        · refine wpIn_round hd ?_ hc hk hp
          rw [ha, call_run rfl hx]
          simp only [invoke]
          congr 2
          apply Array.ext'
          simp [evs_map]
      cases x with
      | func f =>
        simp only at h
        cases hf : okFn P f
        · rw [hf] at h; exact h.elim
        · rw [hf] at h
          exact general (.inl ⟨f, #[], #[], rfl, hf, by simpa using h⟩)
      | tmp t => exact general h
      | const v => exact general h
      | global g => exact general h
  all_goals exact h.elim

theorem stepW_sound (o : Oper) (h : stepW P ro n o K PK s d w) (hp : ∀ c w', PK c s d w' → Q (.panic c) (act n s d) w') :
    o.wpIn (FW ro) 0 P (act n s d) w (fun a w => ∃ s' d', a = act n s' d' ∧ agree o.dst.toList s s' ∧ ((∀ c, o.op ≠ .defer c) → d' = d) ∧ K s' d' w) Q := by
  have ha := ev_act n s d
  unfold stepW at h
  cases hpu : isPu P o.op
  · rw [hpu] at h
    simp only [cond_false] at h
    cases hop : o.op with
    | defer c =>
      rw [hop] at h
      simp only at h
      split at h
      · rename_i f hc
        refine ⟨fun _ _ => trivial, ?_⟩
        have : (Oper.semAt none (act n s d).eval o).run P w = .ok (.defer { target := .fn (.func f) #[], args := (evs n s c.args.toList).toArray }) w := by
          rw [Oper.semAt_none, ha]
          obtain ⟨dst, op, ty, pos, after, guard⟩ := o
          simp only at hop; subst hop
          simp only [execOp, Sem.run_bind, resolve_run _ c ty _ hc, ev, Deferred.ofValue, Sem.run_pure, Result.andThen, evs_arr]
          congr 3
          apply Array.ext'
          simp
        show Oper.uponIn _ _ _ _ _ _ _ ((Oper.semAt none (act n s d).eval o).run P w)
        rw [this]
        refine ⟨wrO s o.dst undef, _, ?_, agree_wrO _ _ _, fun hn => absurd rfl (hn c), h⟩
        exact put_act n s _ o.dst undef
      · exact h.elim
    | _ =>
      rw [hop] at h
      simp only at h
      rw [← hop] at h
      refine efOp_sound o ha (by rw [hop]; intro c hc; cases hc) h (fun v w' hk => ⟨_, d, put_act n s d o.dst v, agree_wrO _ _ _, fun _ => rfl, hk⟩) hp
  · rw [hpu] at h
    simp only [cond_true] at h
    obtain ⟨v, hv, hk⟩ := puOp_sound o _ hpu h
    have hd : ∀ c, o.op ≠ .defer c := fun c hc => by rw [hc] at hpu; cases hpu
    exact wpIn_value hd (by rw [ha]; exact hv w) ⟨_, d, put_act n s d o.dst v, agree_wrO _ _ _, fun _ => rfl, hk⟩
end
end Go.Proofs.YtkkkcafkepnecaaGreat.Vc

/-! Soundness of the conditions: regions, in order and drawn. -/
set_option linter.unusedVariables false
set_option linter.unusedSimpArgs false
namespace Go.Proofs.YtkkkcafkepnecaaGreat.Vc
open Go Go.RowKit

section
variable {P : Program} {ro : Option Nat} {n : Nat} {Q : Q3} {ops : Array Oper}

def lift (n : Nat) (l : List Nat) (s0 : S) (lay : Bool) (d0 : D) (K : K4) : Q3 := fun e a w => match e with
  | .panic c => ∃ s d, a = act n s d ∧ K (.panic c) s d w
  | .outgrown => False
  | .normal => ∃ s d, a = act n s d ∧ agree l s0 s ∧ (lay = false → d = d0) ∧ K .normal s d w
  | .ret => ∃ s d, a = act n s d ∧ agree l s0 s ∧ (lay = false → d = d0) ∧ K .ret s d w
  | .exit i => ∃ s d, a = act n s d ∧ agree l s0 s ∧ (lay = false → d = d0) ∧ K (.exit i) s d w
  | .goto i => ∃ s d, a = act n s d ∧ agree l s0 s ∧ (lay = false → d = d0) ∧ K (.goto i) s d w

theorem rd_bool {s : S} {g : Nat} {b : Bool} (h : rd n s g = .bool b) : g < n ∧ s g = .bool b := by
  unfold rd at h
  by_cases hg : g < n
  · rw [blt_of hg] at h; exact ⟨hg, h⟩
  · rw [blt_not hg] at h; simp [undef] at h
theorem wr_self {s : S} {g : Nat} {v : Value} (h : s g = v) : wr s g v = s := by
  funext j
  by_cases hj : j = g
  · subst hj; rw [wr_same, h]
  · rw [wr_other _ _ hj]
theorem wanted_some {o : Oper} {j : Nat} {want : Bool} (hg : o.guard = some (j, want)) {s : S} {g : Nat} (hs : gslot ops j = some g) {b : Bool} (hb : rd n s g = .bool b) :
    Region.wanted o (yielded ops (rep n s)) = (b == want) := by
  obtain ⟨hlt, hv⟩ := rd_bool hb
  unfold gslot at hs
  simp only [Region.wanted, hg, yielded, hs, Option.bind_some, rep_get, hlt, if_true, hv]
  cases b <;> cases want <;> rfl

theorem wanted_und {o : Oper} {j : Nat} {want : Bool} (hg : o.guard = some (j, want)) {s : S} {g : Nat} (hs : gslot ops j = some g) {vs : Array Value} (hb : rd n s g = .tuple vs) :
    Region.wanted o (yielded ops (rep n s)) = false := by
  unfold gslot at hs
  simp only [Region.wanted, hg, yielded, hs, Option.bind_some, rep_get]
  by_cases hlt : g < n
  · have hv : s g = .tuple vs := by unfold rd at hb; rw [blt_of hlt] at hb; exact hb
    simp only [hlt, if_true, hv]
    cases want <;> rfl
  · simp only [hlt, if_false]
    cases want <;> rfl
/-- What a guard comes to: the operation is carried out, or passed by. -/
theorem grd_cases {o : Oper} {X K : S → D → World → Prop} {s : S} {d : D} {w : World} (h : grdW P ro n ops o X K s d w) :
    (Region.wanted o (yielded ops (rep n s)) = true ∧ X s d w) ∨ (Region.wanted o (yielded ops (rep n s)) = false ∧ K (wrO s o.dst undef) d w) := by
  unfold grdW at h
  cases hg : o.guard with
  | none => rw [hg] at h; exact .inl ⟨by simp [Region.wanted, hg], h⟩
  | some p =>
    obtain ⟨j, want⟩ := p
    rw [hg] at h
    simp only at h
    cases hs : gslot ops j with
    | none => rw [hs] at h; exact h.elim
    | some g =>
      rw [hs] at h
      simp only at h
      have cnd : condV (rd n s g) (bif want then X (wr s g (.bool true)) d w else K (wrO (wr s g (.bool true)) o.dst undef) d w)
          (bif want then K (wrO (wr s g (.bool false)) o.dst undef) d w else X (wr s g (.bool false)) d w) →
          (Region.wanted o (yielded ops (rep n s)) = true ∧ X s d w) ∨ (Region.wanted o (yielded ops (rep n s)) = false ∧ K (wrO s o.dst undef) d w) := fun h => by
        unfold condV at h
        split at h
        · rename_i hv
          have hw := wanted_some (n := n) hg hs hv
          rw [wr_self (rd_bool hv).2] at h
          cases want
          · exact .inr ⟨by rw [hw]; rfl, h⟩
          · exact .inl ⟨by rw [hw]; rfl, h⟩
        · rename_i hv
          have hw := wanted_some (n := n) hg hs hv
          rw [wr_self (rd_bool hv).2] at h
          cases want
          · exact .inl ⟨by rw [hw]; rfl, h⟩
          · exact .inr ⟨by rw [hw]; rfl, h⟩
        · exact h.elim
      have und : undV (rd n s g) (K (wrO s o.dst undef) d w) →
          (Region.wanted o (yielded ops (rep n s)) = true ∧ X s d w) ∨ (Region.wanted o (yielded ops (rep n s)) = false ∧ K (wrO s o.dst undef) d w) := fun h => by
        unfold undV at h
        split at h
        · rename_i vs hv; exact .inr ⟨wanted_und hg hs hv, h⟩
        · exact h.elim
      split at h
      · exact cnd h
      · split at h
        · exact h.elim
        · split at h
          · rename_i b hb
            revert h
            generalize (bif b then _ else _) = c
            intro h
            cases c
            · exact und h
            · exact cnd h
          · exact und h
          · exact h.elim
theorem grd_sound {i : Nat} {o : Oper} (hi : ops[i]? = some o) {X K : S → D → World → Prop} {NK : Act → World → Prop} {s : S} {d : D} {w : World}
    (hX : X s d w → o.wpIn (FW ro) 0 P (act n s d) w NK Q) (hK : K (wrO s o.dst undef) d w → NK (act n (wrO s o.dst undef) d) w)
    (h : grdW P ro n ops o X K s d w) : wpOpIn (FW ro) 0 P ops Q i NK (act n s d) w := by
  unfold wpOpIn
  simp only [hi]
  rcases grd_cases h with ⟨hw, h⟩ | ⟨hw, h⟩
  · rw [if_pos (by rw [show (act n s d).tmps = rep n s from rfl, hw])]; exact hX h
  · rw [if_neg (by rw [show (act n s d).tmps = rep n s from rfl, hw]; decide)]
    exact ⟨fun _ _ => trivial, by rw [put_act]; exact hK h⟩

/-- Slots that a region writes. -/
def dsts (ops : Array Oper) : List Nat := asg (.region 0 ops false)
theorem mem_dsts {i : Nat} {o : Oper} (hi : ops[i]? = some o) {t : Nat} (ht : t ∈ o.dst.toList) : t ∈ dsts ops := by
  simp only [dsts, asg, List.mem_flatMap]
  exact ⟨o, by simpa using Array.mem_of_getElem? hi, List.mem_append_left _ ht⟩

variable {K : S → D → World → Prop} {PK : List PanicEntry → S → D → World → Prop} {s0 : S} {d0 : D} {lay : Bool}

theorem opsW_sound {KK : K4} (hlay : lay = false → ∀ (i : Nat) o, ops[i]? = some o → ∀ c, o.op ≠ .defer c) : ∀ (l : List Oper) (k : Nat) (s : S) (d : D) (w : World), ops.toList.drop k = l → agree (dsts ops) s0 s → (lay = false → d = d0) →
    opsW P ro n ops (fun s d w => KK .normal s d w) (fun c s d w => KK (.panic c) s d w) l s d w →
    wpOpsIn (FW ro) 0 P ops (lift n (dsts ops) s0 lay d0 KK) (List.range' k l.length) (act n s d) w := by
  intro l
  induction l with
  | nil => intro k s d w _ hag hd h; exact ⟨s, d, rfl, hag, hd, h⟩
  | cons o l ih =>
    intro k s d w hdrop hag hd h
    have hi : ops[k]? = some o := by
      have : (ops.toList.drop k)[0]? = some o := by rw [hdrop]; rfl
      simpa using this
    have hdrop' : ops.toList.drop (k + 1) = l := by
      rw [← List.drop_drop, hdrop]; rfl
    simp only [List.length_cons, List.range'_succ]
    rw [wpOpsIn_cons]
    refine grd_sound hi (fun hx => ?_) (fun hk => ?_) h
    · refine Oper.wpIn_mono ?_ (stepW_sound o hx (fun c w' hp => ⟨s, d, rfl, hp⟩))
      rintro a w' ⟨s', d', rfl, hag', hd', hk⟩
      exact ih (k + 1) s' d' w' hdrop' (hag.trans (hag'.mono fun t ht => mem_dsts hi ht)) (fun hl => (hd' (hlay hl k o hi)).trans (hd hl)) hk
    · exact ih (k + 1) _ d w hdrop' (hag.trans ((agree_wrO _ _ _).mono fun t ht => mem_dsts hi ht)) hd hk

/-! ### Drawn -/
variable {H : World → Prop}
def keepB (P : Program) (ops : Array Oper) (H : World → Prop) (i : Nat) (w w' : World) : Prop := w' = w ∨ (heldJ P ops i = false ∧ (needH ops i = true → H w'))
def wpH (P : Program) (ro : Option Nat) (ops : Array Oper) (Q : Q3) (H : World → Prop) : Nat → Array Bool → Act → World → Prop
  | 0, listed, a, w => Region.ready .any ops listed = [] ∧ Q .normal a w
  | f + 1, listed, a, w => (Region.ready .any ops listed = [] → Q .normal a w) ∧
    ∀ i ∈ Region.ready .any ops listed, wpOpIn (FW ro) 0 P ops Q i (fun a' w' => keepB P ops H i w w' ∧ wpH P ro ops Q H f (listed.setIfInBounds i true) a' w') a w
theorem wpAnyIn_of_H : ∀ (f : Nat) (listed : Array Bool) (a : Act) (w : World), wpH P ro ops Q H f listed a w → wpAnyIn (FW ro) 0 P .any ops Q f listed a w
  | 0, _, _, _, h => h
  | f + 1, _, _, _, h => ⟨h.1, fun i hi => wpOpIn_mono (fun a' w' h' => wpAnyIn_of_H f _ a' w' h'.2) (h.2 i hi)⟩
/-- What is listed holds with each operation those ahead of it. -/
def Dn (ops : Array Oper) (listed : Array Bool) : Prop := ∀ (k : Nat) o, ops[k]? = some o → listed.getD k false = true → ∀ e ∈ o.after, Region.binds .any e = true → listed.getD e.on false = true
theorem getD_set_cases {listed : Array Bool} {i k : Nat} (h : (listed.setIfInBounds i true).getD k false = true) : k = i ∨ listed.getD k false = true := by
  by_cases hik : i = k
  · exact .inl hik.symm
  · rw [getD_set_ne false hik] at h; exact .inr h
theorem Dn.step {listed : Array Bool} (h : Dn ops listed) {i : Nat} (hi : i ∈ Region.ready .any ops listed) : Dn ops (listed.setIfInBounds i true) := by
  intro k o ho hk e he hb
  rcases getD_set_cases hk with rfl | hk
  · obtain ⟨_, o', ho', hall⟩ := mem_ready.1 hi
    rw [ho] at ho'; cases ho'
    exact getD_set_true (hall e he hb)
  · exact getD_set_true (h k o ho hk e he hb)
theorem reach_listed {listed : Array Bool} (h : Dn ops listed) : ∀ (f j k : Nat) (o : Oper), ops[j]? = some o → (∀ e ∈ o.after, Region.binds .any e = true → listed.getD e.on false = true) →
    reach ops f j k = true → listed.getD k false = true := by
  intro f
  induction f with
  | zero => intro j k o _ _ hr; cases hr
  | succ f ih =>
    intro j k o ho hall hr
    simp only [reach, ho] at hr
    obtain ⟨e, he, hr⟩ := List.any_eq_true.1 hr
    simp only [Bool.and_eq_true, Bool.or_eq_true] at hr
    have he' : e ∈ o.after := by simpa using he
    have hle := hall e he' hr.1
    rcases hr.2 with heq | hre
    · rw [beq_iff.1 heq] at hle; exact hle
    · cases hoe : ops[e.on]? with
      | none =>
        exfalso
        cases f with
        | zero => cases hre
        | succ f => simp [reach, hoe] at hre
      | some oe => exact ih e.on k oe hoe (fun e2 he2 hb2 => h e.on oe hoe hle e2 he2 hb2) hre

/-- In state a the operation leaves v and does nothing else, in every world that keeps what is held (if it is a load). -/
def Yd (P : Program) (ops : Array Oper) (H : World → Prop) (o : Oper) (v : Value) (a : Act) : Prop :=
  (Region.wanted o (yielded ops a.tmps) = true ∧ ∀ w, (isLd o.op = true → H w) → (execOp a.eval o).run P w = .ok (.value v) w) ∨
  (Region.wanted o (yielded ops a.tmps) = false ∧ v = undef)
theorem Yd.wpOp {i : Nat} {o : Oper} {v : Value} {a : Act} (hnd : ∀ c, o.op ≠ .defer c) (hi : ops[i]? = some o) (hy : Yd P ops H o v a) {K : Act → World → Prop} {w : World} (hH : isLd o.op = true → H w)
    (h : K (a.put o.dst v) w) : wpOpIn (FW ro) 0 P ops Q i K a w := by
  unfold wpOpIn
  simp only [hi]
  rcases hy with ⟨hw, hv⟩ | ⟨hw, rfl⟩
  · rw [if_pos hw]; exact wpIn_value hnd (hv w hH) h
  · rw [if_neg (by rw [hw]; decide)]; exact ⟨fun _ _ => trivial, h⟩
theorem Yd.of_same {o : Oper} {v : Value} {a a' : Act} (hy : Yd P ops H o v a) (he : execOp a'.eval o = execOp a.eval o)
    (hw : Region.wanted o (yielded ops a'.tmps) = Region.wanted o (yielded ops a.tmps)) : Yd P ops H o v a' := by
  unfold Yd at *
  rw [he, hw]
  exact hy
theorem semAt_put (o : Oper) (hs : ∀ cs b, o.op ≠ .select cs b) (a : Act) (dst : Option Tmp) (v : Value) (h : ∀ d, dst = some d → d ∉ o.looksAt ops) :
    o.semAt ro (a.put dst v).eval = o.semAt ro a.eval := by
  have he := execOp_put o hs a dst v h
  unfold Oper.semAt
  cases ro with
  | none => exact he
  | some l =>
    cases hop : o.op with
    | defer c =>
      have : resolve (a.put dst v).eval c o.type = resolve a.eval c o.type := resolve_congr c _ fun x hx => Act.eval_put fun d hd hxd => h d hd (by
        subst hxd
        exact List.mem_append_left _ (List.mem_filterMap.2 ⟨.tmp d, by simpa [hop, Op.operands] using hx, rfl⟩))
      simp only [this]
    | _ => exact he
theorem wpOp_putH {j : Nat} {oi oj : Oper} {v : Value} (hj : ops[j]? = some oj) (hap : oi.apart ops oj = true)
    (hsi : ∀ cs b, oi.op ≠ .select cs b) (hsj : ∀ cs b, oj.op ≠ .select cs b)
    (hQ : ∀ c a w, Q (.panic c) (a.put oi.dst v) w → Q (.panic c) a w) {K : Act → World → Prop} {a : Act} {w : World}
    (hy : Yd P ops H oi v a) (h : wpOpIn (FW ro) 0 P ops Q j K (a.put oi.dst v) w) :
    wpOpIn (FW ro) 0 P ops Q j (fun a' w' => Yd P ops H oi v a' ∧ K (a'.put oi.dst v) w') a w := by
  obtain ⟨h1, h2, h3⟩ := Oper.apart_spec hap
  have keep : ∀ (a : Act), Yd P ops H oi v a → ∀ u, Yd P ops H oi v (a.put oj.dst u) := fun a hy u =>
    hy.of_same (execOp_put oi hsi a oj.dst u h3) (wanted_put oi a oj.dst u h3)
  have keepD : ∀ d, Yd P ops H oi v { a with defers := d :: a.defers } := fun d => hy.of_same rfl rfl
  unfold wpOpIn at *
  simp only [hj] at *
  rw [wanted_put oj a oi.dst v h1] at h
  split
  · rename_i hw
    simp only [hw, if_true] at h
    refine ⟨fun _ _ => trivial, ?_⟩
    have h := h.2
    rw [show (FW ro).round = ro from rfl, semAt_put oj hsj a oi.dst v h1] at h
    rw [show (FW ro).round = ro from rfl]
    generalize (oj.semAt ro a.eval).run P w = r at *
    cases r with
    | ok x w' =>
      cases x <;> simp only [Oper.uponIn] at h ⊢
      case value u => exact ⟨keep a hy u, by rw [← Act.put_comm a v u h2]; exact h⟩
      case skip => exact ⟨keep a hy _, by rw [← Act.put_comm a v undef h2]; exact h⟩
      case defer d =>
        refine ⟨keep _ (keepD d) _, ?_⟩
        rw [← Act.put_comm _ v undef h2, ← Act.put_defers]
        exact h
      case enter f args =>
        refine ⟨h.1, CallsIn.mono h.2 fun e w'' he => ?_⟩
        cases e with
        | returned u => exact ⟨keep a hy u, by rw [← Act.put_comm a v u h2]; exact he⟩
        | panicked c => exact hQ _ _ _ he
        | outgrown => exact he
      case row row args => exact ⟨h.1, RowsIn.mono h.2 fun u w'' he => ⟨keep a hy u, by rw [← Act.put_comm a v u h2]; exact he⟩⟩
      case round l f tmps assign body =>
        refine ⟨h.1, RoundIn.mono h.2 fun e w'' he => ?_⟩
        cases e with
        | returned u => exact ⟨keep a hy u, by rw [← Act.put_comm a v u h2]; exact he⟩
        | panicked c => exact hQ _ _ _ he
        | outgrown => exact he
    | halt x w' =>
      cases x <;> simp only [Oper.uponIn] at h ⊢
      case panic u => exact hQ _ _ _ h
  · rename_i hw
    simp only [hw] at h
    exact ⟨fun _ _ => trivial, keep a hy _, by rw [← Act.put_comm a v undef h2]; exact h.2⟩

theorem leftLd_of {i : Nat} {oi : Oper} {listed : Array Bool} (hi : ops[i]? = some oi) (hl : isLd oi.op = true) (hun : listed.getD i true = false) : leftLd ops listed = true := by
  unfold leftLd
  rw [List.any_eq_true]
  exact ⟨i, List.mem_range.2 (Array.getElem?_eq_some_iff.1 hi).1, by simp only [hun, hi, hl]; rfl⟩
theorem of_leftLd {listed : Array Bool} (h : leftLd ops listed = true) : ∃ (k : Nat) (o : Oper), ops[k]? = some o ∧ isLd o.op = true ∧ listed.getD k true = false := by
  unfold leftLd at h
  rw [List.any_eq_true] at h
  obtain ⟨k, _, hk⟩ := h
  simp only [Bool.and_eq_true, Bool.not_eq_true'] at hk
  cases ho : ops[k]? with
  | none => rw [ho] at hk; cases hk.2
  | some o => rw [ho] at hk; exact ⟨k, o, ho, hk.2, hk.1⟩
theorem unlisted_set {listed : Array Bool} {j k : Nat} (h : (listed.setIfInBounds j true).getD k true = false) : listed.getD k true = false := by
  by_cases hjk : j = k
  · subst hjk
    by_cases hsz : j < listed.size
    · simp [hsz] at h
    · have : (listed.setIfInBounds j true).getD j true = listed.getD j true := by simp [Array.getElem?_eq_none (Nat.le_of_not_lt hsz)]
      rw [this] at h; exact h
  · rwa [getD_set_ne true hjk] at h
theorem leftLd_less {listed : Array Bool} {j : Nat} (h : leftLd ops (listed.setIfInBounds j true) = true) : leftLd ops listed = true := by
  obtain ⟨k, o, ho, hl, hu⟩ := of_leftLd h
  exact leftLd_of ho hl (unlisted_set hu)
/-- What is held stays held behind operation j. -/
theorem held_step {listed : Array Bool} {j : Nat} {w w' : World} (hdn : Dn ops listed) (hj : j ∈ Region.ready .any ops listed) (hH : leftLd ops listed = true → H w) (hk : keepB P ops H j w w') :
    leftLd ops (listed.setIfInBounds j true) = true → H w' := fun hl => by
  obtain ⟨_, oj, hoj, hall⟩ := mem_ready.1 hj
  rcases hk with hk | hk
  · subst hk; exact hH (leftLd_less hl)
  · refine hk.2 ?_
    obtain ⟨k, o, ho, hld, hu⟩ := of_leftLd hl
    have hu' := unlisted_set hu
    unfold needH
    rw [List.any_eq_true]
    refine ⟨k, List.mem_range.2 (Array.getElem?_eq_some_iff.1 ho).1, ?_⟩
    simp only [ho, hld, Bool.true_and, Bool.not_eq_true']
    cases hr : reach ops 3 j k
    · rfl
    · have := reach_listed hdn 3 j k oj hoj hall hr
      exfalso
      rcases Nat.lt_or_ge k listed.size with h | h
      · simp [h] at hu' this; rw [hu'] at this; cases this
      · simp [Array.getElem?_eq_none h] at this
theorem wpH_first {Y : World → Prop} {Inv : Array Bool → World → Prop} {i : Nat} {oi : Oper} {v : Value} (hi : ops[i]? = some oi) (hheld : isHeld P oi.op = true) (hsel : ∀ (j : Nat) (o : Oper) cs b, ops[j]? = some o → o.op ≠ .select cs b)
    (hQ : ∀ c a w, Q (.panic c) (a.put oi.dst v) w → Q (.panic c) a w)
    (hIY : ∀ listed w, listed.getD i true = false → Inv listed w → isLd oi.op = true → Y w)
    (hIS : ∀ listed j w w', Dn ops listed → i ∈ Region.ready .any ops listed → j ∈ Region.ready .any ops listed → j ≠ i → Inv listed w → keepB P ops H j w w' → Inv (listed.setIfInBounds j true) w') :
    ∀ (fuel : Nat) (listed : Array Bool) (a : Act) (w : World), Dn ops listed →
      (∀ j oj, ops[j]? = some oj → j ≠ i → listed.getD j true = false → (∀ e ∈ oj.after, Region.binds .any e = true → e.on ≠ i) → oi.apart ops oj = true) →
      i ∈ Region.ready .any ops listed → Yd P ops Y oi v a → Inv listed w →
      wpH P ro ops Q H fuel (listed.setIfInBounds i true) (a.put oi.dst v) w → wpH P ro ops Q H (fuel + 1) listed a w := by
  have hnd : ∀ c, oi.op ≠ .defer c := fun c hc => by rw [hc] at hheld; cases hheld
  have hkeep : ∀ w, keepB P ops H i w w := fun w => .inl rfl
  intro fuel
  induction fuel with
  | zero =>
    intro listed a w _ _ hr hy hI G
    have hun := (mem_ready.1 hr).1
    refine ⟨fun h => (by rw [h] at hr; cases hr), fun j hj => ?_⟩
    by_cases hji : j = i
    · subst hji; exact hy.wpOp hnd hi (fun hl => hIY listed w hun hI hl) ⟨hkeep w, G⟩
    · have := ready_mono hj hji
      rw [G.1] at this
      cases this
  | succ fuel ih =>
    intro listed a w hdn hfree hr hy hI G
    have hun := (mem_ready.1 hr).1
    refine ⟨fun h => (by rw [h] at hr; cases hr), fun j hj => ?_⟩
    by_cases hji : j = i
    · subst hji; exact hy.wpOp hnd hi (fun hl => hIY listed w hun hI hl) ⟨hkeep w, G⟩
    · have h1 := G.2 j (ready_mono hj hji)
      obtain ⟨hjun, oj, hoj, hall⟩ := mem_ready.1 hj
      have hnot : ∀ e ∈ oj.after, Region.binds .any e = true → e.on ≠ i := fun e he hb heq => by
        have h1 := hall e he hb
        rw [heq] at h1
        rcases Nat.lt_or_ge i listed.size with h' | h'
        · simp [h'] at hun h1; rw [hun] at h1; cases h1
        · simp [Array.getElem?_eq_none h'] at h1
      have h2 := wpOp_putH hoj (hfree j oj hoj hji hjun hnot) (fun cs b => hsel i oi cs b hi) (fun cs b => hsel j oj cs b hoj) hQ hy h1
      have hfree' : ∀ k ok, ops[k]? = some ok → k ≠ i → (listed.setIfInBounds j true).getD k true = false →
          (∀ e ∈ ok.after, Region.binds .any e = true → e.on ≠ i) → oi.apart ops ok = true := fun k ok hk hki hun' hno => by
        refine hfree k ok hk hki ?_ hno
        by_cases hjk : j = k
        · subst hjk; exact hjun
        · rw [getD_set_ne true hjk] at hun'; exact hun'
      refine wpOpIn_mono (fun a' w' h3 => ?_) h2
      obtain ⟨hy', hkj, G'⟩ := h3
      refine ⟨hkj, ih (listed.setIfInBounds j true) a' w' (hdn.step hj) hfree' (ready_mono hr (Ne.symm hji)) hy' (hIS listed j w w' hdn hr hj hji hI hkj) ?_⟩
      rw [Array.setIfInBounds_comm _ _ hji]
      exact G'
theorem early_held {i j : Nat} {w w' : World} {listed : Array Bool} (he : early P ops i = true) (hdn : Dn ops listed) (hr : i ∈ Region.ready .any ops listed) (hj : j ∈ Region.ready .any ops listed) (hk : keepB P ops H j w w') : w' = w := by
  rcases hk with hk | ⟨hk, _⟩
  · exact hk
  · exfalso
    obtain ⟨hjun, oj, hoj, hall⟩ := mem_ready.1 hj
    unfold early at he
    rw [Bool.and_eq_true] at he
    have h1 := List.all_eq_true.1 he.2 j (List.mem_range.2 (Array.getElem?_eq_some_iff.1 hoj).1)
    rw [hk, Bool.false_or] at h1
    have h2 := reach_listed hdn 3 j i oj hoj hall h1
    have hun := (mem_ready.1 hr).1
    rcases Nat.lt_or_ge i listed.size with h' | h'
    · simp [h'] at hun h2; rw [hun] at h2; cases h2
    · simp [Array.getElem?_eq_none h'] at h2
theorem wpH_take {i : Nat} {oi : Oper} {v : Value} {fuel : Nat} {listed : Array Bool} {a : Act} {w : World} (hi : ops[i]? = some oi) (hheld : isHeld P oi.op = true)
    (hs : Region.noSelect ops = true) (hf : Region.free .any ops listed i = true) (hr : i ∈ Region.ready .any ops listed) (hdn : Dn ops listed)
    (hQ : ∀ c a w, Q (.panic c) (a.put oi.dst v) w → Q (.panic c) a w) (hy : Yd P ops (fun w' => bif early P ops i then w' = w else H w') oi v a) (hH : leftLd ops listed = true → H w)
    (h : wpH P ro ops Q H fuel (listed.setIfInBounds i true) (a.put oi.dst v) w) : wpH P ro ops Q H (fuel + 1) listed a w := by
  cases he : early P ops i
  · rw [he] at hy
    exact wpH_first (Y := H) (Inv := fun listed w => leftLd ops listed = true → H w) hi hheld (Region.noSelect_spec hs) hQ (fun listed w hun hI hl => hI (leftLd_of hi hl hun)) (fun listed j w w' hdn hr hj hji hI hk => held_step hdn hj hI hk) fuel listed a w hdn (Region.free_spec hi hf) hr hy hH h
  · rw [he] at hy
    exact wpH_first (Y := fun w' => w' = w) (Inv := fun _ w' => w' = w) hi hheld (Region.noSelect_spec hs) hQ (fun listed w' _ hI _ => hI) (fun listed j w1 w2 hdn hr hj hji hI hk => (early_held he hdn hr hj hk).trans hI) fuel listed a w hdn (Region.free_spec hi hf) hr hy rfl h

theorem allP_all {f : Nat → Prop} : ∀ {l : List Nat}, allP f l → ∀ i ∈ l, f i
  | [], _, _, hi => by cases hi
  | [i], h, j, hj => by simp at hj; subst hj; exact h
  | i :: j :: l, h, k, hk => by
    rcases List.mem_cons.1 hk with rfl | hk
    · exact h.1
    · exact allP_all h.2 k hk

/-- What is asked of a panic out of a drawn region: whatever the region's own slots. -/
def liftD (n : Nat) (l : List Nat) (s0 : S) (lay : Bool) (d0 : D) (K : K4) : Q3 := fun e a w => match e with
  | .panic c => a.tmps.size = n ∧ (∀ j, memb j l = false → j < n → a.tmps.getD j undef = s0 j) ∧ ∀ s', agree l s0 s' → K (.panic c) s' a.defers w
  | e => lift n l s0 lay d0 K e a w
theorem memb_ne {t j : Nat} {l : List Nat} (ht : t ∈ l) (hj : memb j l = false) : j ≠ t := fun e => by
  subst e; rw [memb_iff.2 ht] at hj; cases hj
theorem liftD_panic {l : List Nat} {KK : K4} (c : List PanicEntry) (a : Act) (dst : Option Tmp) (hdst : ∀ t ∈ dst.toList, t ∈ l) (v : Value) (w : World) (h : liftD n l s0 lay d0 KK (.panic c) (a.put dst v) w) : liftD n l s0 lay d0 KK (.panic c) a w := by
  cases dst with
  | none => exact h
  | some t =>
    obtain ⟨h1, h2, h3⟩ := h
    refine ⟨by simpa [Act.put] using h1, fun j hj hn => ?_, h3⟩
    have hne : t ≠ j := fun e => memb_ne (hdst t (by simp)) hj e.symm
    rw [← h2 j hj hn]
    simp [Act.put, Array.getD_eq_getD_getElem?, Array.getElem?_setIfInBounds, hne]
theorem lift_of_D {l : List Nat} {KK : K4} (e : Exit) (a : Act) (w : World) (h : liftD n l s0 lay d0 KK e a w) : lift n l s0 lay d0 KK e a w := by
  cases e with
  | panic c =>
    obtain ⟨h1, h2, h3⟩ := h
    refine ⟨fun i => bif Nat.blt i n then a.tmps.getD i undef else s0 i, a.defers, ?_, h3 _ fun j hj => ?_⟩
    · have : a.tmps = rep n fun i => bif Nat.blt i n then a.tmps.getD i undef else s0 i := by
        apply Array.ext
        · simp [h1]
        · intro i h3 h4
          have hb : Nat.blt i n = true := Nat.ble_eq_true_of_le (by omega)
          simp [rep, Array.getD, h3, hb]
      unfold act
      rw [← this]
    · cases hb : Nat.blt j n
      · rfl
      · exact h2 j hj (Nat.le_of_ble_eq_true hb)
  | _ => exact h

/-- A value for an operation that is held, guard and all. -/
theorem heldG_sound {i : Nat} {o : Oper} (hi : ops[i]? = some o) (hheld : isHeld P o.op = true) {s : S} {d : D} {w : World} {G : S → D → World → Prop}
    (h : grdW P ro n ops o (fun s d w => heldOp P n s H (early P ops i) w o.op (fun v => G (wrO s o.dst v) d w)) G s d w) :
    ∃ v, Yd P ops (fun w' => bif early P ops i then w' = w else H w') o v (act n s d) ∧ G (wrO s o.dst v) d w := by
  rcases grd_cases h with ⟨hw, h⟩ | ⟨hw, h⟩
  · obtain ⟨v, hv, hk⟩ := heldOp_sound o H _ _ _ hheld h
    exact ⟨v, .inl ⟨hw, fun w hl => by rw [ev_act]; exact hv w hl⟩, hk⟩
  · exact ⟨undef, .inr ⟨hw, rfl⟩, h⟩

theorem filter_le {p q : Nat → Bool} : ∀ l : List Nat, (∀ j ∈ l, q j = true → p j = true) → (l.filter q).length ≤ (l.filter p).length
  | [], _ => Nat.le_refl _
  | x :: l, h => by
    have ih := filter_le l fun j hj => h j (List.mem_cons_of_mem _ hj)
    simp only [List.filter_cons]
    cases hq : q x
    · cases p x <;> simp <;> omega
    · rw [h x List.mem_cons_self hq]; simpa using ih
theorem filter_lt {p q : Nat → Bool} {i : Nat} (hp : p i = true) (hq : q i = false) : ∀ l : List Nat, (∀ j ∈ l, q j = true → p j = true) → i ∈ l → (l.filter q).length < (l.filter p).length
  | x :: l, h, hi => by
    have h' := fun j hj => h j (List.mem_cons_of_mem _ hj)
    simp only [List.filter_cons]
    rcases List.mem_cons.1 hi with rfl | hi
    · rw [hp, hq]; simp; have := filter_le l h'; omega
    · have ih := filter_lt hp hq l h' hi
      cases hqx : q x
      · cases p x <;> simp <;> omega
      · rw [h x List.mem_cons_self hqx]; simpa using ih
def unl (ops : Array Oper) (listed : Array Bool) : Nat := ((List.range ops.size).filter fun i => !listed.getD i true).length
theorem unl_step {listed : Array Bool} {i : Nat} (hi : i ∈ Region.ready .any ops listed) : unl ops (listed.setIfInBounds i true) < unl ops listed := by
  obtain ⟨hu, o, ho, _⟩ := mem_ready.1 hi
  refine filter_lt (i := i) (by rw [hu]; rfl) ?_ _ (fun j _ hj => ?_) (List.mem_range.2 (Array.getElem?_eq_some_iff.1 ho).1)
  · have hsz : i < listed.size := by
      rcases Nat.lt_or_ge i listed.size with h | h
      · exact h
      · simp [Array.getElem?_eq_none h] at hu
    simp [hsz]
  · simp only [Bool.not_eq_true'] at hj ⊢
    exact unlisted_set hj
theorem ready_nil {listed : Array Bool} (h : unl ops listed = 0) : Region.ready .any ops listed = [] := by
  cases hr : Region.ready .any ops listed with
  | nil => rfl
  | cons r rs =>
    have := unl_step (ops := ops) (listed := listed) (i := r) (by rw [hr]; exact List.mem_cons_self)
    omega

theorem drawW_sound {KK : K4} (hlay : lay = false → ∀ (i : Nat) o, ops[i]? = some o → ∀ c, o.op ≠ .defer c) (hns : Region.noSelect ops = true) : ∀ (f : Nat) (listed : Array Bool) (s : S) (d : D) (w : World),
    unl ops listed ≤ f → Dn ops listed → (leftLd ops listed = true → H w) → agree (dsts ops) s0 s → (lay = false → d = d0) →
    drawW P ro n ops H (fun s d w => KK .normal s d w) (fun c s d w => KK (.panic c) s d w) (f + 1) listed s d w →
    wpH P ro ops (liftD n (dsts ops) s0 lay d0 KK) H f listed (act n s d) w := by
  intro f
  induction f with
  | zero =>
    intro listed s d w hu hdn hH hag hd h
    have hr := ready_nil (Nat.le_zero.1 hu)
    unfold drawW at h
    rw [hr] at h
    exact ⟨hr, s, d, rfl, hag, hd, h⟩
  | succ f ih =>
    intro listed s d w hu hdn hH hag hd h
    unfold drawW at h
    cases hr : Region.ready .any ops listed with
    | nil => rw [hr] at h; exact ⟨fun _ => ⟨s, d, rfl, hag, hd, h⟩, by rw [hr]; simp⟩
    | cons r rs =>
      rw [hr] at h
      simp only at h
      split at h
      · rename_i i hfind
        split at h
        · exact h.elim
        · rename_i o ho
          have htk := List.find?_some hfind
          unfold takeB at htk; rw [ho] at htk; simp only [Bool.and_eq_true] at htk
          have hir : i ∈ Region.ready .any ops listed := by rw [hr]; exact List.mem_of_find?_eq_some hfind
          obtain ⟨v, hy, hk⟩ := heldG_sound ho htk.1 h
          refine wpH_take ho htk.1 hns htk.2 hir hdn (fun c a w => liftD_panic c a _ (fun t ht => mem_dsts ho ht) _ w) hy hH ?_
          rw [put_act]
          exact ih _ _ d w (by have := unl_step hir; omega) (hdn.step hir) (fun hl => hH (leftLd_less hl)) (hag.trans ((agree_wrO _ _ _).mono fun t ht => mem_dsts ho ht)) hd hk
      · refine ⟨fun h0 => (by rw [hr] at h0; cases h0), fun i hir => ?_⟩
        have hir' : i ∈ r :: rs := by rw [← hr]; exact hir
        have h0 := allP_all h i hir'
        split at h0
        · exact h0.elim
        · rename_i o ho
          have hun := (mem_ready.1 hir).1
          have hu' := unl_step hir
          cases hheld : isHeld P o.op
          · rw [hheld] at h0
            simp only [cond_false] at h0
            have step : ∀ s' d' w', keepB P ops H i w w' → agree o.dst.toList s s' → ((∀ c, o.op ≠ .defer c) → d' = d) →
                drawW P ro n ops H (fun s d w => KK .normal s d w) (fun c s d w => KK (.panic c) s d w) (f + 1) (listed.setIfInBounds i true) s' d' w' →
                keepB P ops H i w w' ∧ wpH P ro ops (liftD n (dsts ops) s0 lay d0 KK) H f (listed.setIfInBounds i true) (act n s' d') w' := fun s' d' w' hn hag' hd' hk =>
              ⟨hn, ih _ s' d' w' (by omega) (hdn.step hir) (held_step hdn hir hH hn) (hag.trans (hag'.mono fun t ht => mem_dsts ho ht)) (fun hl => (hd' (hlay hl i o ho)).trans (hd hl)) hk⟩
            refine grd_sound ho (fun hx => ?_) (fun hk => step _ d w (.inl rfl) (agree_wrO _ _ _) (fun _ => rfl) hk) h0
            have hpan : ∀ (c : List PanicEntry) (w' : World), (∀ s', KK (.panic c) (mix (asg (.region 0 ops false)) s s') d w') → liftD n (dsts ops) s0 lay d0 KK (.panic c) (act n s d) w' := fun c w' hp =>
              ⟨by simp [act], fun j hj hn => (by simp [act, rep, Array.getD, hn]; exact hag j hj), fun s' hs' => by
                have e : agree (asg (.region 0 ops false)) s s' := fun i hi => (hs' i hi).trans (hag i hi).symm
                have := hp s'; rw [e.mix] at this; exact this⟩
            refine Oper.wpIn_mono ?_ (stepW_sound o hx hpan)
            rintro a w' ⟨s', d', rfl, hag', hd', hk⟩
            have hhj : heldJ P ops i = false := by unfold heldJ; rw [ho]; exact hheld
            cases hn : needH ops i
            · rw [hn] at hk; exact step s' d' w' (.inr ⟨hhj, fun h => by rw [hn] at h; cases h⟩) hag' hd' hk
            · rw [hn] at hk; exact step s' d' w' (.inr ⟨hhj, fun _ => hk.1⟩) hag' hd' hk.2
          · rw [hheld] at h0
            simp only [cond_true] at h0
            obtain ⟨v, hy, hk⟩ := heldG_sound ho hheld h0
            have hnd : ∀ c, o.op ≠ .defer c := fun c hc => by rw [hc] at hheld; cases hheld
            refine hy.wpOp hnd ho (fun hl => ?_) ⟨.inl rfl, ?_⟩
            · cases early P ops i
              · exact hH (leftLd_of ho hl hun)
              · rfl
            rw [put_act]
            exact ih _ _ d w (by omega) (hdn.step hir) (fun hl => hH (leftLd_less hl)) (hag.trans ((agree_wrO _ _ _).mono fun t ht => mem_dsts ho ht)) hd hk
end
end Go.Proofs.YtkkkcafkepnecaaGreat.Vc

/-! Soundness of the conditions: code and functions. -/
set_option linter.unusedVariables false
set_option linter.unusedSimpArgs false
namespace Go.Proofs.YtkkkcafkepnecaaGreat.Vc
open Go Go.RowKit

section
variable {P : Program} {ro : Option Nat} {n : Nat} {Q : Q3} {a : Act} {w : World}

theorem stepR_scope {b : Frame} {k : List Item} {cs : List Frame} {c : Code} : step P (lone (b.atR a (.code (.scope c) :: k)) cs w) = .next (lone (b.atR a (.code c :: .inScope c :: k)) cs w) :=
  step_lone_go (by simp [stepG, stepG.exec, Frame.atR])
theorem stepR_inScope {b : Frame} {k : List Item} {cs : List Frame} {c : Code} : step P (lone (b.atR a (.inScope c :: k)) cs w) = .next (lone (b.atR a k) cs w) :=
  step_lone_go (by simp [stepG, stepG.exec, Frame.atR])
theorem stepsFW {m m' : Machine} (h : step P m = .next m') : StepsIn (Machine.fenced P (FW ro)) P m m' := .one (fenced_wide P m) h

/-- Behind a jump to a label of the scope no other jump is taken. -/
def noG (Q : Q3) : Q3 := fun e a w => match e with
  | .goto _ => False
  | e => Q e a w
def scG (P : Program) (ro : Option Nat) (c : Code) (Q : Q3) : Q3 := fun e a w => match e with
  | .goto l => ∃ rest, findLabel c l = some rest ∧ rest.wpIn (FW ro) 0 P (noG Q) a w
  | e => Q e a w
theorem wpIn_scope {c : Code} (h : c.wpIn (FW ro) 0 P (scG P ro c Q) a w) : (Code.scope c).wpIn (FW ro) 0 P Q a w := by
  intro b k cs hro hb hr
  obtain ⟨e, a₁, w₁, hq, harr⟩ := h b (.inScope c :: k) cs hro hb hr
  have h0 : StepsIn (Machine.fenced P (FW ro)) P (lone (b.atR a (.code (.scope c) :: k)) cs w) (lone (b.atR a (.code c :: .inScope c :: k)) cs w) := stepsFW stepR_scope
  have ex : ∀ i, exitTo i (Item.inScope c :: k) = exitTo i k := fun i => rfl
  cases e with
  | normal => exact ⟨.normal, a₁, w₁, hq, (h0.trans harr).trans (stepsFW stepR_inScope)⟩
  | exit id => exact ⟨.exit id, a₁, w₁, hq, .of_steps h0 ⟨fun k' hk => harr.1 k' (by rw [ex]; exact hk), fun hr hk => harr.2 hr (by rw [ex]; exact hk)⟩⟩
  | ret => exact ⟨_, a₁, w₁, hq, .of_steps h0 harr⟩
  | panic ch => exact ⟨_, a₁, w₁, hq, .of_steps h0 harr⟩
  | outgrown => exact ⟨_, a₁, w₁, hq, .of_steps (b := b) (k := k) (cs := cs) (e := .outgrown) h0 harr⟩
  | goto l =>
    obtain ⟨rest, hf, hrest⟩ := hq
    have hg : gotoIn l (.inScope c :: k) = some (.code rest :: .inScope c :: k) := by simp [gotoIn, hf]
    have h1 := h0.trans (harr.1 _ hg)
    obtain ⟨e₂, a₂, w₂, hq₂, harr₂⟩ := hrest b (.inScope c :: k) cs hro hb hr
    cases e₂ with
    | normal => exact ⟨.normal, a₂, w₂, hq₂, (h1.trans harr₂).trans (stepsFW stepR_inScope)⟩
    | exit id => exact ⟨.exit id, a₂, w₂, hq₂, .of_steps h1 ⟨fun k' hk => harr₂.1 k' (by rw [ex]; exact hk), fun hr hk => harr₂.2 hr (by rw [ex]; exact hk)⟩⟩
    | ret => exact ⟨_, a₂, w₂, hq₂, .of_steps h1 harr₂⟩
    | panic ch => exact ⟨_, a₂, w₂, hq₂, .of_steps h1 harr₂⟩
    | outgrown => exact ⟨_, a₂, w₂, hq₂, .of_steps (b := b) (k := k) (cs := cs) (e := .outgrown) h1 harr₂⟩
    | goto l' => exact hq₂.elim

theorem lift_mono {l l' : List Nat} {s0 s1 : S} {lay lay' : Bool} {d0 d1 : D} {K K' : K4} (hl : ∀ i, i ∈ l → i ∈ l') (hs : agree l' s1 s0) (hd : lay' = false → lay = false ∧ d0 = d1)
    (hk : ∀ e s d w, e ≠ .outgrown → K e s d w → K' e s d w) : ∀ e a w, lift n l s0 lay d0 K e a w → lift n l' s1 lay' d1 K' e a w := by
  intro e a w h
  cases e <;> first
    | exact h.elim
    | (obtain ⟨s, d, ha, hag, hdd, hkk⟩ := h
       exact ⟨s, d, ha, hs.trans (hag.mono hl), fun hf => (hdd (hd hf).1).trans (hd hf).2, hk _ _ _ _ (by simp) hkk⟩)
    | (obtain ⟨s, d, ha, hkk⟩ := h
       exact ⟨s, d, ha, hk _ _ _ _ (by simp) hkk⟩)

theorem lays_region {id : Nat} {ops : Array Oper} {b : Bool} (h : lays (.region id ops b) = false) (i : Nat) (o : Oper) (hi : ops[i]? = some o) (c : Call) : o.op ≠ .defer c := by
  intro hc
  have hm : o ∈ ops.toList := by simpa using Array.mem_of_getElem? hi
  simp only [lays, List.any_eq_false] at h
  have := h o hm
  rw [hc] at this
  exact this rfl
theorem dn_start (ops : Array Oper) : Dn ops (Array.replicate ops.size false) := by
  intro k o _ hk
  exfalso
  by_cases h : k < ops.size <;> simp [h] at hk
theorem unl_start (ops : Array Oper) (l : Array Bool) : unl ops l ≤ ops.size := by
  unfold unl
  exact Nat.le_trans (List.length_filter_le _ _) (by simp)

theorem find_asg {l : Nat} : ∀ {a rest : Code}, findLabel a l = some rest → ∀ i, i ∈ asg rest → i ∈ asg a := by
  intro a
  induction a with
  | seq x y ihx ihy =>
    intro rest hf
    simp only [findLabel] at hf
    split at hf
    · rename_i r hx
      cases hf
      intro i hi
      rcases List.mem_append.1 hi with hi | hi
      · exact List.mem_append_left _ (ihx hx i hi)
      · exact List.mem_append_right _ hi
    · intro i hi; exact List.mem_append_right _ (ihy hf i hi)
  | label l' => intro rest hf; simp only [findLabel] at hf; split at hf <;> cases hf; intro i hi; cases hi
  | _ => intro rest hf; simp [findLabel] at hf
theorem find_lays {l : Nat} : ∀ {a rest : Code}, findLabel a l = some rest → lays a = false → lays rest = false := by
  intro a
  induction a with
  | seq x y ihx ihy =>
    intro rest hf hl
    have hl' : lays x = false ∧ lays y = false := by simpa [lays] using hl
    simp only [findLabel] at hf
    split at hf
    · rename_i r hx
      cases hf
      simp only [lays, ihx hx hl'.1, hl'.2, Bool.or_false]
    · exact ihy hf hl'.2
  | label l' => intro rest hf _; simp only [findLabel] at hf; split at hf <;> cases hf; rfl
  | _ => intro rest hf; simp [findLabel] at hf
theorem ovr_picks (l : List Nat) (s u : S) (h : ∀ i, i ∉ l → u i = s i) : ovr l (picks s l) u = s := by
  induction l with
  | nil => funext j; exact h j (by simp)
  | cons i l ih =>
    funext j
    simp only [ovr, picks, List.headD_cons, List.tail_cons]
    cases hb : Nat.beq j i
    · have hne : j ≠ i := fun e => by rw [beq_iff.2 e] at hb; cases hb
      show ovr l (picks s l) u j = s j
      by_cases hj : j ∈ l
      · -- in l: the list gives it
        clear ih
        have key : ∀ (l : List Nat), j ∈ l → ovr l (picks s l) u j = s j := by
          intro l
          induction l with
          | nil => intro h; cases h
          | cons x l ihl =>
            intro hm
            simp only [ovr, picks, List.headD_cons, List.tail_cons]
            cases hx : Nat.beq j x
            · have : j ≠ x := fun e => by rw [beq_iff.2 e] at hx; cases hx
              exact ihl ((List.mem_cons.1 hm).resolve_left this)
            · rw [beq_iff.1 hx]; rfl
        exact key l hj
      · have key : ∀ (l : List Nat), j ∉ l → ovr l (picks s l) u j = u j := by
          intro l
          induction l with
          | nil => intro _; rfl
          | cons x l ihl =>
            intro hm
            simp only [ovr, picks, List.headD_cons, List.tail_cons]
            have hx : Nat.beq j x = false := by
              cases hx : Nat.beq j x
              · rfl
              · exact absurd (List.mem_cons.2 (.inl (beq_iff.1 hx))) hm
            rw [hx]
            exact ihl (fun h => hm (List.mem_cons_of_mem _ h))
        rw [key l hj]
        exact h j (by simp [hne, hj])
    · rw [beq_iff.1 hb]; rfl

theorem wpIn_loopG {F : Fence} {m0 : Nat} {c : Code} (I : Nat → Act → World → Prop) (m : Nat) (h₀ : I m a w)
    (round : ∀ m a w, I m a w → c.wpIn F m0 P (Exit.then (fun a' w' => ∃ m', m' < m ∧ I m' a' w') Q) a w) : (Code.loop c).wpIn F m0 P Q a w := by
  intro b k cs hro hb hr
  have key : ∀ m a w, I m a w → ∃ e a' w', Q e a' w' ∧ ArrivesIn (Machine.fenced P F) P (lone (b.atR a (.code c :: .inLoop c :: k)) cs w) b k cs e a' w' := by
    intro m
    induction m using Nat.strongRecOn with
    | _ m ih =>
      intro a w hI
      obtain ⟨e, a₁, w₁, hq, harr⟩ := round m a w hI b (.inLoop c :: k) cs hro hb hr
      cases e with
      | normal =>
        obtain ⟨m', hlt, hI₁⟩ := hq
        obtain ⟨e₂, a₂, w₂, hq₂, harr₂⟩ := ih m' hlt a₁ w₁ hI₁
        exact ⟨e₂, a₂, w₂, hq₂, .of_steps (StepsIn.trans harr (.one (fenced_calm hb hr rfl) stepR_inLoop)) harr₂⟩
      | exit id => exact ⟨_, a₁, w₁, hq, .pass (x := .inLoop c) rfl (fun _ _ => .inl (by simp)) harr⟩
      | goto l => exact ⟨_, a₁, w₁, hq, .pass (x := .inLoop c) rfl (fun _ _ => .inl (by simp)) harr⟩
      | ret => exact ⟨_, a₁, w₁, hq, .pass (x := .inLoop c) rfl (fun _ _ => .inl (by simp)) harr⟩
      | panic ch => exact ⟨_, a₁, w₁, hq, .pass (x := .inLoop c) rfl (fun _ _ => .inl (by simp)) harr⟩
      | outgrown => exact ⟨_, a₁, w₁, hq, .pass (x := .inLoop c) rfl (fun _ _ => .inl (by simp)) harr⟩
  obtain ⟨e, a', w', hq, harr⟩ := key m a w h₀
  exact ⟨e, a', w', hq, .of_steps (.one (fenced_calm hb hr rfl) stepR_loop) harr⟩

theorem mem_exits_find {KE : List (Nat × (D → World → Prop))} {id : Nat} {p : Nat × (D → World → Prop)} (h : KE.find? (fun p => p.1 == id) = some p) : p.1 = id := by
  have := List.find?_some h
  simpa using this

theorem range_sound {l : List Nat} {s0 s : S} {lay : Bool} {d0 d : D} {K : K4} {lv : List Nat} {ids : List Nat} {g : Operand} {ps : Array Tmp} {assign body : Code}
    (hl : lay = true) (hag : agree l s0 s)
    (h : RangeW P ro n (live s lv) ps assign body (ev n s g) (fun d w => K .normal s d w) (fun d w => K .ret s d w) (ids.map fun id => (id, fun d w => K (.exit id) s d w)) (fun c d w => K (.panic c) s d w) d w) :
    (Code.rangeFunc g ps assign body).wpIn (FW ro) 0 P (lift n l s0 lay d0 K) (act n s d) w := by
  refine wpIn_rangeFunc fun fn _ => ?_
  have hlive : ∀ p ∈ live s lv, p.1 < n → (rep n s)[p.1]? = some p.2 := by
    clear h
    induction lv with
    | nil => intro p hp; cases hp
    | cons i l ih =>
      intro p hp hlt
      rcases List.mem_cons.1 hp with rfl | hp
      · show (rep n s)[i]? = some (s i)
        rw [rep_get, if_pos hlt]
      · exact ih p hp hlt
  obtain ⟨r0, mark, w0, hw0, hcall⟩ := h fn (rep n s) (by simp) hlive
  have henter : (Instr.enterLoop fn (act n s d).tmps ps assign body ro).run P w = .ok (w0.heap.size, mark) (w0.alloc (.loop { state := .ready, pending := none, fn, tmps := rep n s, params := ps, assign, body, defers := r0 })) := by
    cases ro with
    | none =>
      obtain ⟨rfl, rfl, rfl⟩ := hw0
      rw [run_enterLoop_outer]
      simp [act]
    | some l0 =>
      obtain ⟨rl, hrl, rfl, rfl, rfl⟩ := hw0
      simp only [Instr.enterLoop, Sem.run_bind, run_getLoop hrl, Result.andThen, Sem.run_pure, run_newObj_alloc]
      rfl
  have hfin : ∀ (e : Ending) (w3 : World), (match e with
      | .returned v => ∃ r : Loop, w3.heap[w0.heap.size]? = some (.loop r) ∧ r.state ≠ .busy ∧ pend (fun d w => K .normal s d w) (fun d w => K .ret s d w) (ids.map fun id => (id, fun d w => K (.exit id) s d w)) r.pending (mark ++ d) (w3.putObj w0.heap.size (.loop { r with state := .exhausted }))
      | .panicked c => K (.panic c) s (mark ++ d) w3
      | .outgrown => False) → rangePost (FW ro) 0 P w0.heap.size (lift n l s0 lay d0 K) { act n s d with defers := mark ++ (act n s d).defers } e w3 := by
    intro e w3 he
    have hact : ({ act n s d with defers := mark ++ (act n s d).defers } : Act) = act n s (mark ++ d) := rfl
    cases e with
    | outgrown => exact he.elim
    | panicked c => exact ⟨s, mark ++ d, rfl, he⟩
    | returned v =>
      obtain ⟨r, hr, hb, hp⟩ := he
      have hr4 := run_endLoop (P := P) hr hb
      generalize w3.putObj w0.heap.size (.loop { r with state := .exhausted }) = w4 at hr4 hp
      refine ⟨r.pending, w4, hr4, ?_⟩
      rw [hact]
      have hfd : ∀ d', lay = false → d' = d0 := fun d' hf => by rw [hl] at hf; cases hf
      generalize r.pending = pe at *
      unfold pend at hp
      split at hp
      · exact ⟨s, _, rfl, hag, hfd _, hp⟩
      · exact wpIn_ret ⟨s, _, rfl, hag, hfd _, hp⟩
      · rename_i id
        split at hp
        · rename_i p hfind
          have hid := mem_exits_find hfind
          obtain ⟨i, _, hi⟩ := List.mem_map.1 (List.mem_of_find?_eq_some hfind)
          subst hi
          simp only at hid hp
          subst hid
          exact wpIn_exit ⟨s, _, rfl, hag, hfd _, hp⟩
        · exact hp.elim
      · exact hp.elim
  obtain ⟨f, first, cap, hg, hf, hc⟩ := hcall
  generalize hw1 : w0.alloc (.loop { state := .ready, pending := none, fn, tmps := rep n s, params := ps, assign, body, defers := r0 }) = w1 at henter hc
  refine ⟨w0.heap.size, mark, w1, { target := .fn (.func f) cap, args := first ++ #[.func (.yield w0.heap.size) #[] #[]] }, w1, f, (first ++ #[.func (.yield w0.heap.size) #[] #[]]) ++ cap, w1, henter, ?_, fun _ _ => trivial, ?_, fun h => by simp [FW] at h, ?_⟩
  · rw [ev_act]
    rw [resolve_run _ (rangeCall g w0.heap.size) 0 g rfl, hg]
    simp [rangeCall, Deferred.ofValue, Sem.run_pure, ev]
  · simp only [invoke]; exact okFn_run hf _ _
  · refine callsIn_FW (Calls.mono (show Calls P f _ _ _ from ?_) hfin)
    have : (first ++ #[.func (.yield w0.heap.size) #[] #[]]) ++ cap = (first.toList ++ [Value.func (.yield w0.heap.size) #[] #[]] ++ cap.toList).toArray := by apply Array.ext'; simp
    rw [this]
    refine Calls.mono hc fun e w' he => ?_
    cases e <;> exact he
end
end Go.Proofs.YtkkkcafkepnecaaGreat.Vc

/-! Soundness of the conditions: the whole. -/
set_option linter.unusedVariables false
set_option linter.unusedSimpArgs false
namespace Go.Proofs.YtkkkcafkepnecaaGreat.Vc
open Go Go.RowKit

section
variable {P : Program} {ro : Option Nat} {n : Nat}

theorem wpOpIn_monoQ {ops : Array Oper} {Q Q' : Q3} (hq : ∀ e a w, Q e a w → Q' e a w) {i : Nat} {K : Act → World → Prop} {a : Act} {w : World} (h : wpOpIn (FW ro) 0 P ops Q i K a w) : wpOpIn (FW ro) 0 P ops Q' i K a w := by
  unfold wpOpIn at *
  split
  · simpa [*] using h
  · rename_i o ho
    simp only [ho] at h
    split
    · rename_i hw
      simp only [hw, if_true] at h
      refine ⟨h.1, ?_⟩
      have h := h.2
      generalize (o.semAt (FW ro).round a.eval).run P w = r at *
      cases r with
      | ok x w' =>
        cases x <;> simp only [Oper.uponIn] at h ⊢ <;> first
          | exact h
          | exact ⟨h.1, CallsIn.mono h.2 (fun e w'' he => by cases e <;> first | exact he | exact hq _ _ _ he | exact (let ⟨a, w, x⟩ := he; ⟨a, w, hq _ _ _ x⟩))⟩
          | exact ⟨h.1, RoundIn.mono h.2 (fun e w'' he => by cases e <;> first | exact he | exact hq _ _ _ he | exact (let ⟨a, w, x⟩ := he; ⟨a, w, hq _ _ _ x⟩))⟩
      | halt x w' => cases x <;> simp only [Oper.uponIn] at h ⊢ <;> first | exact h | exact hq _ _ _ h
    · rename_i hw; simp only [hw] at h; exact h
theorem wpAnyIn_mono {ops : Array Oper} {Q Q' : Q3} (hq : ∀ e a w, Q e a w → Q' e a w) : ∀ {f : Nat} {listed : Array Bool} {a : Act} {w : World}, wpAnyIn (FW ro) 0 P .any ops Q f listed a w → wpAnyIn (FW ro) 0 P .any ops Q' f listed a w
  | 0, _, _, _, h => ⟨h.1, hq _ _ _ h.2⟩
  | f + 1, _, _, _, h => ⟨fun hr => hq _ _ _ (h.1 hr), fun i hi => wpOpIn_mono (fun a w h' => wpAnyIn_mono hq h') (wpOpIn_monoQ hq (h.2 i hi))⟩

theorem vc_sound (hm : P.follows .mixedOrders = true) (A : Note) : ∀ (f bid : Nat) (c : Code) (K : K4) (s : S) (d : D) (w : World), vc P A ro n f bid c K s d w →
    c.wpIn (FW ro) 0 P (lift n (asg c) s (lays c) d K) (act n s d) w := by
  intro f
  induction f with
  | zero => intro bid c K s d w h; exact h.elim
  | succ f ih =>
    intro bid c K s d w h
    have ar := agree.refl
    cases c with
    | skip => exact wpIn_skip ⟨s, d, rfl, ar _ _, fun _ => rfl, h⟩
    | label l => exact wpIn_label ⟨s, d, rfl, ar _ _, fun _ => rfl, h⟩
    | ret => exact wpIn_ret ⟨s, d, rfl, ar _ _, fun _ => rfl, h⟩
    | exit id => exact wpIn_exit ⟨s, d, rfl, ar _ _, fun _ => rfl, h⟩
    | goto l => exact wpIn_goto ⟨s, d, rfl, ar _ _, fun _ => rfl, h⟩
    | refuse y => exact h.elim
    | seq x y =>
      refine wpIn_seq (wpIn_mono (ih bid x _ s d w h) ?_)
      intro e a1 w1 he
      have la : ∀ i, i ∈ asg x → i ∈ asg (.seq x y) := fun i hi => List.mem_append_left _ hi
      have ll : lays (.seq x y) = false → lays x = false ∧ lays y = false := fun hf => by simpa [lays] using hf
      cases e with
      | normal =>
        obtain ⟨s1, d1, rfl, hag, hd, hk⟩ := he
        refine wpIn_mono (ih bid y K s1 d1 w1 hk) (lift_mono (fun i hi => List.mem_append_right _ hi) (hag.mono la) (fun hf => ⟨(ll hf).2, hd (ll hf).1⟩) fun _ _ _ _ _ h => h)
      | exit i => obtain ⟨s1, d1, rfl, hag, hd, hk⟩ := he; exact ⟨s1, d1, rfl, hag.mono la, fun hf => hd (ll hf).1, hk⟩
      | goto i => obtain ⟨s1, d1, rfl, hag, hd, hk⟩ := he; exact ⟨s1, d1, rfl, hag.mono la, fun hf => hd (ll hf).1, hk⟩
      | ret => obtain ⟨s1, d1, rfl, hag, hd, hk⟩ := he; exact ⟨s1, d1, rfl, hag.mono la, fun hf => hd (ll hf).1, hk⟩
      | panic c => obtain ⟨s1, d1, rfl, hk⟩ := he; exact ⟨s1, d1, rfl, hk⟩
      | outgrown => exact he.elim
    | cond x a b =>
      have ll : lays (.cond x a b) = false → lays a = false ∧ lays b = false := fun hf => by simpa [lays] using hf
      simp only [vc] at h
      unfold condV at h
      split at h
      · rename_i hx
        refine wpIn_cond_true (by rw [ev_act, hx]) (wpIn_mono (ih bid a K s d w h) (lift_mono (fun i hi => List.mem_append_left _ hi) (ar _ _) (fun hf => ⟨(ll hf).1, rfl⟩) fun _ _ _ _ _ h => h))
      · rename_i hx
        refine wpIn_cond_false (by rw [ev_act, hx]) (wpIn_mono (ih bid b K s d w h) (lift_mono (fun i hi => List.mem_append_right _ hi) (ar _ _) (fun hf => ⟨(ll hf).2, rfl⟩) fun _ _ _ _ _ h => h))
      · exact h.elim
    | block id a =>
      refine wpIn_block (wpIn_mono (ih id a _ s d w h) ?_)
      intro e a1 w1 he
      cases e with
      | normal => exact he
      | goto i => exact he
      | ret => exact he
      | panic c => exact he
      | outgrown => exact he.elim
      | exit i =>
        obtain ⟨s1, d1, rfl, hag, hd, hk⟩ := he
        simp only [Exit.inBlock]
        simp only at hk
        cases hb : Nat.beq i id
        · rw [hb] at hk
          have : i ≠ id := fun e => by rw [beq_iff.2 e] at hb; cases hb
          rw [if_neg this]
          exact ⟨s1, d1, rfl, hag, hd, hk⟩
        · rw [hb] at hk
          rw [if_pos (beq_iff.1 hb)]
          exact ⟨s1, d1, rfl, hag, hd, hk⟩
    | scope a =>
      refine wpIn_scope (wpIn_mono (ih bid a _ s d w h) ?_)
      intro e a1 w1 he
      cases e with
      | normal => exact he
      | exit i => exact he
      | ret => exact he
      | panic c => exact he
      | outgrown => exact he.elim
      | goto l =>
        obtain ⟨s1, d1, rfl, hag, hd, hk⟩ := he
        simp only at hk
        split at hk
        · rename_i rest hf
          refine ⟨rest, hf, wpIn_mono (ih bid rest _ s1 d1 w1 hk) ?_⟩
          have hsub : ∀ i, i ∈ asg rest → i ∈ asg (.scope a) := (find_asg hf : ∀ i, i ∈ asg rest → i ∈ asg a)
          have hlay : lays (.scope a) = false → lays rest = false := (find_lays hf : lays a = false → lays rest = false)
          intro e a2 w2 he
          cases e with
          | goto i => obtain ⟨s2, d2, rfl, _, _, hf⟩ := he; exact hf.elim
          | outgrown => exact he.elim
          | panic c => exact he
          | normal => obtain ⟨s2, d2, rfl, hag2, hd2, hk2⟩ := he; exact ⟨s2, d2, rfl, hag.trans (hag2.mono hsub), fun hf => (hd2 (hlay hf)).trans (hd hf), hk2⟩
          | ret => obtain ⟨s2, d2, rfl, hag2, hd2, hk2⟩ := he; exact ⟨s2, d2, rfl, hag.trans (hag2.mono hsub), fun hf => (hd2 (hlay hf)).trans (hd hf), hk2⟩
          | exit i => obtain ⟨s2, d2, rfl, hag2, hd2, hk2⟩ := he; exact ⟨s2, d2, rfl, hag.trans (hag2.mono hsub), fun hf => (hd2 (hlay hf)).trans (hd hf), hk2⟩
        · exact hk.elim
    | region id ops draw =>
      simp only [vc] at h
      have hno : lays (.region id ops draw) = false → ∀ (i : Nat) o, ops[i]? = some o → ∀ c, o.op ≠ .defer c := fun hf i o hi c => lays_region hf i o hi c
      cases draw
      · refine wpIn_region ?_
        rw [List.range_eq_range', show ops.size = ops.toList.length by simp]
        exact opsW_sound (KK := K) hno ops.toList 0 s d w rfl (ar _ _) (fun _ => rfl) h
      · simp only [cond_true] at h
        cases hns : Region.noSelect ops
        · rw [hns] at h; exact h.elim
        · rw [hns] at h
          simp only [Bool.not_true, cond_false] at h
          refine wpIn_region_any hm ?_
          cases hl : leftLd ops (Array.replicate ops.size false)
          · rw [hl] at h
            refine wpAnyIn_of_H (H := fun _ => True) _ _ _ _ ?_ |> wpAnyIn_mono lift_of_D
            exact drawW_sound (KK := K) hno hns ops.size _ s d w.drew (unl_start _ _) (dn_start _) (fun _ => trivial) (ar _ _) (fun _ => rfl) h
          · rw [hl] at h
            obtain ⟨H, hH, h⟩ := h
            refine wpAnyIn_of_H (H := H) _ _ _ _ ?_ |> wpAnyIn_mono lift_of_D
            exact drawW_sound (KK := K) hno hns ops.size _ s d w.drew (unl_start _ _) (dn_start _) (fun _ => hH) (ar _ _) (fun _ => rfl) h
    | loop a =>
      simp only [vc] at h
      cases hl : lays a
      · rw [hl] at h
        obtain ⟨I, μ, h0, hr⟩ := h
        refine wpIn_loopG (fun m a1 w1 => ∃ s1, a1 = act n s1 d ∧ agree (asg a) s s1 ∧ I (picks s1 (look bid A.car)) w1 ∧ μ (picks s1 (look bid A.car)) w1 = m) _ ⟨s, rfl, ar _ _, h0, rfl⟩ ?_
        rintro m a1 w1 ⟨s1, rfl, hag, hI, rfl⟩
        have hb := ih bid a _ _ d w1 (hr _ _ hI s1)
        rw [ovr_picks _ _ _ (fun _ _ => rfl), hag.mix] at hb
        refine wpIn_mono hb ?_
        intro e a2 w2 he
        have ll : lays (.loop a) = false := hl
        cases e with
        | normal =>
          obtain ⟨s2, d2, rfl, hag2, hd2, hI2, hlt⟩ := he
          rw [hd2 hl]
          exact ⟨_, hlt, s2, rfl, hag.trans hag2, hI2, rfl⟩
        | exit i => obtain ⟨s2, d2, rfl, hag2, hd2, hk⟩ := he; exact ⟨s2, d2, rfl, hag.trans hag2, fun _ => hd2 hl, hk⟩
        | goto i => obtain ⟨s2, d2, rfl, hag2, hd2, hk⟩ := he; exact ⟨s2, d2, rfl, hag.trans hag2, fun _ => hd2 hl, hk⟩
        | ret => obtain ⟨s2, d2, rfl, hag2, hd2, hk⟩ := he; exact ⟨s2, d2, rfl, hag.trans hag2, fun _ => hd2 hl, hk⟩
        | panic c => obtain ⟨s2, d2, rfl, hk⟩ := he; exact ⟨s2, d2, rfl, hk⟩
        | outgrown => exact he.elim
      · rw [hl] at h
        obtain ⟨I, μ, h0, hr⟩ := h
        refine wpIn_loopG (fun m a1 w1 => ∃ s1 d1, a1 = act n s1 d1 ∧ agree (asg a) s s1 ∧ I (picks s1 (look bid A.car)) d1 w1 ∧ μ (picks s1 (look bid A.car)) d1 w1 = m) _ ⟨s, d, rfl, ar _ _, h0, rfl⟩ ?_
        rintro m a1 w1 ⟨s1, d1, rfl, hag, hI, rfl⟩
        have hb := ih bid a _ _ d1 w1 (hr _ _ _ hI s1)
        rw [ovr_picks _ _ _ (fun _ _ => rfl), hag.mix] at hb
        refine wpIn_mono hb ?_
        intro e a2 w2 he
        have ll : lays (.loop a) = true := hl
        have no : ∀ {x : Prop}, lays (.loop a) = false → x := fun hf => by rw [ll] at hf; cases hf
        cases e with
        | normal =>
          obtain ⟨s2, d2, rfl, hag2, hd2, hI2, hlt⟩ := he
          exact ⟨_, hlt, s2, d2, rfl, hag.trans hag2, hI2, rfl⟩
        | exit i => obtain ⟨s2, d2, rfl, hag2, hd2, hk⟩ := he; exact ⟨s2, d2, rfl, hag.trans hag2, no, hk⟩
        | goto i => obtain ⟨s2, d2, rfl, hag2, hd2, hk⟩ := he; exact ⟨s2, d2, rfl, hag.trans hag2, no, hk⟩
        | ret => obtain ⟨s2, d2, rfl, hag2, hd2, hk⟩ := he; exact ⟨s2, d2, rfl, hag.trans hag2, no, hk⟩
        | panic c => obtain ⟨s2, d2, rfl, hk⟩ := he; exact ⟨s2, d2, rfl, hk⟩
        | outgrown => exact he.elim
    | rangeFunc g ps as body => exact range_sound rfl (ar _ _) h

/-! ### A function -/
def resF (tmps : Array Value) (x : ResultVar) : Sem Value := match x with
  | .tmp t => pure (tmps.getD t undef)
  | .cell a t => do loadVar t (← asAddr (tmps.getD a undef))
theorem results_eq (fn : Func) (tmps : Array Value) : results fn tmps = (do
    let vs ← fn.results.mapM (resF tmps)
    pure (if h : vs.size = 1 then vs[0] else .tuple vs)) := rfl
theorem results_run {fn : Func} {s : S} {w : World} {K : List Value → Prop} (h : resW P fn.ntmps s w fn.results.toList K) : ∃ v, (results fn (rep fn.ntmps s)).run P w = .ok v w ∧ ∃ vs, v = oneV vs ∧ K vs := by
  have key : ∀ (l : List ResultVar) (K : List Value → Prop), resW P fn.ntmps s w l K → ∃ vs, K vs ∧ (l.mapM (resF (rep fn.ntmps s))).run P w = .ok vs w := by
    intro l
    induction l with
    | nil => intro K h; exact ⟨[], h, by simp [Sem.run_pure]⟩
    | cons x l ih =>
      intro K h
      cases x with
      | tmp t =>
        obtain ⟨vs, hk, hr⟩ := ih _ h
        refine ⟨rd fn.ntmps s t :: vs, hk, ?_⟩
        rw [List.mapM_cons]
        simp only [resF, Sem.run_bind, Sem.run_pure, Result.andThen, hr]
        rw [Array.getD_eq_getD_getElem?, rep_getD]
      | cell a t =>
        simp only [resW] at h
        split at h
        · rename_i z hz
          obtain ⟨v, hv, h⟩ := h
          obtain ⟨vs, hk, hr⟩ := ih _ h
          refine ⟨v :: vs, hk, ?_⟩
          have hld := rd_sound hz hv
          have hadr : rd fn.ntmps s a = (rep fn.ntmps s).getD a undef := by rw [Array.getD_eq_getD_getElem?, rep_getD]
          rw [hadr] at hld
          have h1 : (resF (rep fn.ntmps s) (.cell a t)).run P w = .ok v w := by
            show (do loadVar t (← asAddr ((rep fn.ntmps s).getD a undef)) : Sem Value).run P w = .ok v w
            generalize (rep fn.ntmps s).getD a undef = x at hld ⊢
            unfold Instr.loadAt Instr.sureAddr at hld
            split at hld
            · simpa [asAddr, Sem.run_bind, Sem.run_pure, Result.andThen] using hld
            · simp [stuck, Sem.run_bind, Sem.run, Result.andThen] at hld
          rw [List.mapM_cons]
          simp only [Sem.run_bind, h1, Result.andThen, hr, Sem.run_pure]
        · exact h.elim
  obtain ⟨vs, hk, hr⟩ := key _ K h
  refine ⟨oneV vs, ?_, vs, rfl, hk⟩
  rw [results_eq]
  have harr : (fn.results.mapM (resF (rep fn.ntmps s))).run P w = .ok vs.toArray w := by
    rw [Array.mapM_eq_mapM_toList, map_eq_pure_bind]
    simp only [Sem.run_bind, hr, Sem.run_pure, Result.andThen, Function.comp]
  simp only [Sem.run_bind, harr, Result.andThen, Sem.run_pure]
  congr 1
  cases vs with
  | nil => rfl
  | cons v vs => cases vs with
    | nil => rfl
    | cons u vs => simp [oneV]

theorem LvW_sound {fn : Func} {s : S} {R : Ending → World → Prop} : ∀ (d : D) (u : FrameMode) (w : World), LvW P d u w (endU P fn.ntmps s fn.results.toList R) → LeavesInM (FW none) 0 P fn (rep fn.ntmps s) R d u w := by
  intro d
  induction d with
  | nil =>
    intro u w h
    cases u with
    | run => exact h.elim
    | returning =>
      obtain ⟨v, hr, vs, rfl, hk⟩ := results_run h
      exact ⟨_, hr, hk⟩
    | panicking ch => exact h
  | cons x d ih =>
    intro u w h
    obtain ⟨hu, h⟩ := h
    refine ⟨hu, ?_⟩
    rcases h with ⟨r, ht, hh, hn⟩ | ⟨f, ht, hf, hc⟩
    · exact .inl ⟨r, _, ht, run_takeDeferred hh, ih u _ hn⟩
    · refine .inr ⟨fun h => by simp [FW] at h, .func f, #[], f, x.args, ht, ?_, fun _ _ => trivial, ?_⟩
      · rw [ht]; simp only [invoke]
        have := okFn_run hf (x.args ++ #[]) w
        simpa using this
      · refine ⟨hc.1, fun c cs hcm hroom => ?_⟩
        obtain ⟨e, u', w', fr, hR, rest⟩ := hc.2 c cs hcm hroom
        refine ⟨e, u', w', fr, ?_, rest⟩
        cases e with
        | returned v => exact ih _ _ hR
        | panicked ch => exact ih _ _ hR
        | outgrown => exact hR.elim

/-- **A function's contract out of its conditions.** -/
theorem fnW_sound (hm : P.follows .mixedOrders = true) {A : Note} {fuel : Nat} {f : FuncId} {fn : Func} (hf : P.funcs[f]? = some fn) {args : List Value} {R : Ending → World → Prop} {w : World}
    (h : fnW P A fuel fn args R w) : Calls P f args.toArray w R := by
  unfold fnW at h
  split at h
  · exact h.elim
  · rename_i c hb
    cases hle : Nat.ble args.length fn.ntmps
    · rw [hle] at h; exact h.elim
    · rw [hle] at h
      simp only [cond_true] at h
      have hle' : args.toArray.size ≤ fn.ntmps := by simpa using Nat.le_of_ble_eq_true hle
      refine callsIn_wide.1 (show CallsIn (FW none) 0 P f args.toArray w R from callsIn_of_wp_marks hf hb trivial ?_)
      rw [rep_ini hle']
      refine wpIn_mono (vc_sound hm A fuel 0 c _ _ _ w h) ?_
      intro e a w' he
      cases e with
      | normal => obtain ⟨s, d, rfl, _, _, hk⟩ := he; exact LvW_sound d _ w' hk
      | ret => obtain ⟨s, d, rfl, _, _, hk⟩ := he; exact LvW_sound d _ w' hk
      | panic ch => obtain ⟨s, d, rfl, hk⟩ := he; exact LvW_sound d _ w' hk
      | exit i => obtain ⟨s, d, rfl, _, _, hk⟩ := he; exact hk.elim
      | goto i => obtain ⟨s, d, rfl, _, _, hk⟩ := he; exact hk.elim
      | outgrown => exact he.elim

theorem pset_fold (n : Nat) : ∀ (ps : List Tmp) (vs : List Value) (s : S), (ps.zip vs).foldl (fun tmps (p : Tmp × Value) => tmps.setIfInBounds p.1 p.2) (rep n s) = rep n (pset ps vs s)
  | [], vs, s => by simp [pset]
  | p :: ps, [], s => by simp [pset]
  | p :: ps, v :: vs, s => by
    simp only [List.zip_cons_cons, List.foldl_cons, pset, rep_set]
    exact pset_fold n ps vs _
theorem ovrP_self {lv : List (Nat × Value)} {u : S} (h : ∀ p ∈ lv, u p.1 = p.2) : ovrP lv u = u := by
  induction lv with
  | nil => rfl
  | cons p lv ih =>
    obtain ⟨i, v⟩ := p
    funext j
    simp only [ovrP, ih (fun p hp => h p (List.mem_cons_of_mem _ hp))]
    cases hb : Nat.beq j i
    · rfl
    · rw [beq_iff.1 hb]; exact (h (i, v) List.mem_cons_self).symm
theorem rEnd_run {l : Nat} {j : Option Code} {R : Value → World → Prop} {w : World} (h : rEnd l j R w) : ∃ v w', (Instr.endRound l j).run P w = .ok v w' ∧ R v w' := by
  obtain ⟨r, hr, h⟩ := h
  exact ⟨_, _, run_endRound j hr, h⟩
/-- **A round out of its conditions.** -/
theorem rndW_sound (hm : P.follows .mixedOrders = true) {A : Note} {fuel l : Nat} {r : Loop} {args : List Value} {R : Value → World → Prop} {PK : List PanicEntry → World → Prop} {w : World}
    (hr : w.heap[l]? = some (.loop r)) (ha : args.length = r.params.size) (hn : r.tmps.size = n) {lv : List (Nat × Value)} (hlv : ∀ p ∈ lv, r.tmps[p.1]? = some p.2)
    (h : ∀ u : S, rndW P A n fuel l r.assign r.body (pset r.params.toList args (ovrP lv u)) R w) : roundW P l args R PK w := by
  refine ⟨r, hr, ha, ?_⟩
  have ht : r.tmps = rep n fun i => r.tmps.getD i undef := by
    apply Array.ext
    · simp [hn]
    · intro i h3 h4; simp [rep, Array.getD, h3]
  have hfold : (r.params.zip args.toArray).foldl (fun tmps (t, a) => tmps.setIfInBounds t a) r.tmps = rep n (pset r.params.toList args (fun i => r.tmps.getD i undef)) := by
    rw [← Array.foldl_toList]
    rw [Array.toList_zip, ← pset_fold]
    rw [← ht]
  rw [hfold]
  have h := h (fun i => r.tmps.getD i undef)
  rw [ovrP_self (fun p hp => by
    have := hlv p hp
    simp only [Array.getD_eq_getD_getElem?, this, Option.getD_some])] at h
  generalize pset r.params.toList args (fun i => r.tmps.getD i undef) = s at h
  refine roundIn_of_wpIn trivial ?_
  refine wpIn_mono (vc_sound hm A fuel 0 r.assign _ s [] w h) ?_
  intro e a w1 he
  cases e with
  | normal =>
    obtain ⟨s1, d1, rfl, _, _, r1, hr1, hs1, hk⟩ := he
    refine ⟨_, run_beginRound hr1 hs1, wpIn_mono (vc_sound hm A fuel 0 r.body _ s1 d1 _ hk) ?_⟩
    intro e a w2 he
    cases e with
    | normal => obtain ⟨_, _, _, _, _, hk⟩ := he; exact rEnd_run hk
    | exit i => obtain ⟨_, _, _, _, _, hk⟩ := he; exact rEnd_run hk
    | goto i => obtain ⟨_, _, _, _, _, hk⟩ := he; exact rEnd_run hk
    | ret => obtain ⟨_, _, _, _, _, hk⟩ := he; exact rEnd_run hk
    | panic c => obtain ⟨_, _, _, hk⟩ := he; exact hk.elim
    | outgrown => exact he.elim
  | exit i => obtain ⟨_, _, _, _, _, hk⟩ := he; exact hk.elim
  | goto i => obtain ⟨_, _, _, _, _, hk⟩ := he; exact hk.elim
  | ret => obtain ⟨_, _, _, _, _, hk⟩ := he; exact hk.elim
  | panic c => obtain ⟨_, _, _, hk⟩ := he; exact hk.elim
  | outgrown => exact he.elim
end
end Go.Proofs.YtkkkcafkepnecaaGreat.Vc

/-! What is held of memory, as a list of blocks; the rules of the conditions over it. -/
set_option linter.unusedVariables false
set_option linter.unusedSimpArgs false
namespace Go.Proofs.YtkkkcafkepnecaaGreat.Vc
open Go Go.RowKit

abbrev Hp := List (Nat × Obj)
/-- The outside is as in B; the blocks of H are as listed, all of them different ones. -/
structure Ow (B : World) (w : World) (H : Hp) : Prop where
  os : w.os = B.os
  tape : w.tape = B.tape
  output : w.output = B.output
  mem : ∀ b o, (b, o) ∈ H → w.heap[b]? = some o
  nd : (H.map Prod.fst).Nodup

/-- Shorter words. -/
abbrev ptr (b : Nat) (off : Nat := 0) : Value := .pointer (some ⟨b, off, none⟩)
abbrev vI (n : Int) : Value := .int .i64 n
abbrev vB (b : Bool) : Value := .bool b
abbrev cel (l : List Value) (e : TypeId) : Obj := .cells l.toArray e (0, 0)

section
variable {B w : World} {H : Hp}

theorem Ow.lt (h : Ow B w H) {b : Nat} {o : Obj} (hm : (b, o) ∈ H) : b < w.heap.size := (Array.getElem?_eq_some_iff.1 (h.mem b o hm)).1
theorem Ow.fresh (h : Ow B w H) : w.heap.size ∉ H.map Prod.fst := fun hm => by
  obtain ⟨p, hp, he⟩ := List.mem_map.1 hm
  have := h.lt (b := p.1) (o := p.2) hp
  omega
theorem Ow.alloc (h : Ow B w H) (o : Obj) : Ow B (w.alloc o) ((w.heap.size, o) :: H) where
  os := h.os
  tape := h.tape
  output := h.output
  mem := fun b o' hm => by
    rcases List.mem_cons.1 hm with he | hm
    · cases he; exact World.alloc_heap_new w o
    · have := h.lt hm
      rw [Below.heap_alloc w o b this]; exact h.mem b o' hm
  nd := by simpa using ⟨by simpa using h.fresh, h.nd⟩
theorem Ow.drew (h : Ow B w H) : Ow B w.drew H := ⟨h.os, h.tape, h.output, h.mem, h.nd⟩
theorem Ow.sub {H' : Hp} (h : Ow B w H) (hs : H'.Sublist H) : Ow B w H' :=
  ⟨h.os, h.tape, h.output, fun b o hm => h.mem b o (hs.subset hm), h.nd.sublist (hs.map _)⟩
theorem Ow.drop {p : Nat × Obj} (h : Ow B w (p :: H)) : Ow B w H := h.sub (List.sublist_cons_self p H)
theorem Ow.perm {H' : Hp} (h : Ow B w H) (hp : H.Perm H') : Ow B w H' :=
  ⟨h.os, h.tape, h.output, fun b o hm => h.mem b o (hp.mem_iff.2 hm), (hp.map Prod.fst).nodup_iff.1 h.nd⟩
theorem Ow.put {A C : Hp} {b : Nat} {o : Obj} (h : Ow B w (A ++ (b, o) :: C)) (o' : Obj) : Ow B (w.putObj b o') (A ++ (b, o') :: C) where
  os := h.os
  tape := h.tape
  output := h.output
  nd := by have := h.nd; simpa using this
  mem := fun c o'' hm => by
    have hb : b < w.heap.size := h.lt (List.mem_append_right _ List.mem_cons_self)
    have hnd : (A.map Prod.fst ++ b :: C.map Prod.fst).Nodup := by have := h.nd; simpa using this
    have hne : ∀ x, (c, x) ∈ A ++ C → c ≠ b := fun x hx e => by
      subst e
      rw [List.perm_middle.nodup_iff] at hnd
      have hx' : c ∈ A.map Prod.fst ++ C.map Prod.fst := by
        rw [← List.map_append]; exact List.mem_map.2 ⟨_, hx, rfl⟩
      exact (List.nodup_cons.1 hnd).1 hx'
    rcases List.mem_append.1 hm with hA | hC
    · rw [World.putObj_heap_other (hne o'' (List.mem_append_left _ hA))]
      exact h.mem c o'' (List.mem_append_left _ hA)
    · rcases List.mem_cons.1 hC with he | hC
      · cases he; exact World.putObj_heap_same hb
      · rw [World.putObj_heap_other (hne o'' (List.mem_append_right _ hC))]
        exact h.mem c o'' (List.mem_append_right _ (List.mem_cons_of_mem _ hC))
theorem Ow.ne {A C : Hp} {b : Nat} {o : Obj} (h : Ow B w (A ++ (b, o) :: C)) {c : Nat} {o' : Obj} (hm : (c, o') ∈ A ++ C) : c ≠ b := fun e => by
  have hnd : (A.map Prod.fst ++ b :: C.map Prod.fst).Nodup := by have := h.nd; simpa using this
  rw [List.perm_middle.nodup_iff] at hnd
  refine (List.nodup_cons.1 hnd).1 ?_
  rw [← List.map_append]; exact List.mem_map.2 ⟨_, hm, e⟩

/-! ### What lies in a cell -/
def Cell (H : Hp) (p : Addr) (v : Value) : Prop := ∃ c e fz, (p.block, Obj.cells c e fz) ∈ H ∧ p.spot = none ∧ c[p.off]? = some v
theorem Cell.mono {H' : Hp} {p : Addr} {v : Value} (h : Cell H p v) (hs : ∀ x, x ∈ H → x ∈ H') : Cell H' p v := by
  obtain ⟨c, e, fz, hm, h⟩ := h; exact ⟨c, e, fz, hs _ hm, h⟩
theorem Cell.cons {x : Nat × Obj} {p : Addr} {v : Value} (h : Cell H p v) : Cell (x :: H) p v := h.mono fun _ => List.mem_cons_of_mem _
theorem Ow.cell (h : Ow B w H) {p : Addr} {v : Value} (hc : Cell H p v) : w.cell? p = some v := by
  obtain ⟨c, e, fz, hm, hs, hv⟩ := hc
  simp only [World.cell?, h.mem _ _ hm, hs]
  simpa using hv
theorem cell_here {b off : Nat} {l : List Value} {e : TypeId} {v : Value} (hm : (b, cel l e) ∈ H) (hv : l[off]? = some v) : Cell H ⟨b, off, none⟩ v :=
  ⟨_, _, _, hm, rfl, by simpa using hv⟩

/-! ### The atoms -/
variable {K : Value → Prop} {KW : Value → World → Prop} {KU : World → Prop}
theorem ld_cell (h : Ow B w H) {p : Addr} {v : Value} (hc : Cell H p v) (k : K v) : ldW none (.pointer (some p)) w K := ⟨v, ⟨p, rfl, h.cell hc⟩, k⟩
theorem ld_here (h : Ow B w H) {b off : Nat} {l : List Value} {e : TypeId} {v : Value} (hm : (b, cel l e) ∈ H) (hv : l[off]? = some v) (k : K v) : ldW none (ptr b off) w K :=
  ld_cell h (cell_here hm hv) k
theorem add_mk (b off n : Nat) : (⟨b, off, none⟩ : Addr).add n = ⟨b, off + n, none⟩ := by unfold Addr.add; split <;> simp_all
theorem ldn_here (h : Ow B w H) {b off n : Nat} {l : List Value} {e : TypeId} (hm : (b, cel l e) ∈ H) {vs : List Value} (hv : (l.drop off).take n = vs) (hl : vs.length = n) (k : K (.agg vs.toArray)) :
    ldW (some n) (ptr b off) w K := by
  refine ⟨_, ⟨_, vs, rfl, hl, fun i u hu => ?_, rfl⟩, k⟩
  rw [add_mk]
  refine h.cell (cell_here hm ?_)
  rw [← hv] at hu
  rw [List.getElem?_take] at hu
  split at hu
  · simpa using hu
  · cases hu
theorem lds_here {Q : World → Prop} {b off : Nat} {l : List Value} {e : TypeId} {v : Value} (h : ∀ w, Q w → Ow B w H) (hm : (b, cel l e) ∈ H) (hv : l[off]? = some v) (k : K v) : ldS none (ptr b off) Q K :=
  ⟨v, fun w hw => ⟨_, rfl, (h w hw).cell (cell_here hm hv)⟩, k⟩
theorem lds_cell {Q : World → Prop} {p : Addr} {v : Value} (h : ∀ w, Q w → Ow B w H) (hc : Cell H p v) (k : K v) : ldS none (.pointer (some p)) Q K :=
  ⟨v, fun w hw => ⟨_, rfl, (h w hw).cell hc⟩, k⟩
theorem fa_rule {off : Nat} {a : Addr} (k : K (.pointer (some (a.add off)))) : faW off (.pointer (some a)) K := ⟨a, rfl, k⟩
theorem fa_at {off b o : Nat} (k : K (ptr b (o + off))) : faW off (ptr b o) K := ⟨_, rfl, by rw [add_mk]; exact k⟩
theorem ixA_at {len size b o : Nat} {n : Int} {kd : IntKind} (h0 : 0 ≤ n) (h1 : n < (len : Int)) (k : K (ptr b (o + n.toNat * size))) : ixA len size (ptr b o) (.int kd n) K :=
  ⟨_, _, _, rfl, rfl, h0, h1, by rw [add_mk]; exact k⟩
theorem ixS_at {size b o len cap : Nat} {n : Int} {kd : IntKind} (h0 : 0 ≤ n) (h1 : n < (len : Int)) (k : K (ptr b (o + n.toNat * size))) : ixS size (.slice (some ⟨b, o, none⟩) len cap) (.int kd n) K :=
  ⟨_, _, _, _, _, rfl, rfl, h0, h1, by rw [add_mk]; exact k⟩
theorem ixS_rule {size len cap : Nat} {a : Addr} {n : Int} {kd : IntKind} (h0 : 0 ≤ n) (h1 : n < (len : Int)) (k : K (.pointer (some (a.add (n.toNat * size))))) : ixS size (.slice (some a) len cap) (.int kd n) K :=
  ⟨_, _, _, _, _, rfl, rfl, h0, h1, k⟩
theorem al_rule (h : Ow B w H) {l : List Value} {cs : Array Value} {t : TypeId} (hc : cs = l.toArray) (k : ∀ b w', Ow B w' ((b, cel l t) :: H) → KW (ptr b) w') : alW cs t KW w := by
  subst hc; exact k _ _ (h.alloc _)
theorem wrL_list : ∀ (vs l : List Value) (off : Nat), off + vs.length ≤ l.length → wrL l.toArray off vs = (l.take off ++ vs ++ l.drop (off + vs.length)).toArray
  | [], l, off, _ => by simp [wrL]
  | v :: vs, l, off, hle => by
    simp only [List.length_cons] at hle
    simp only [wrL, List.setIfInBounds_toArray]
    rw [wrL_list vs _ (off + 1) (by simp; omega)]
    congr 1
    apply List.ext_getElem?
    intro i
    simp only [List.getElem?_append, List.getElem?_take, List.getElem?_drop, List.getElem?_set, List.length_take, List.length_set, List.length_append, List.length_cons, List.getElem?_cons]
    grind
theorem st_here {A C : Hp} {b off n : Nat} {l : List Value} {e : TypeId} {v : Value} (h : Ow B w (A ++ (b, cel l e) :: C)) (vs : List Value) (hv : v.cells = vs.toArray) (hn : vs.length = n) (hp : vs.all plainV = true)
    (hle : off + n ≤ l.length) (k : ∀ w', Ow B w' (A ++ (b, cel (l.take off ++ vs ++ l.drop (off + n)) e) :: C) → KU w') : stW n (ptr b off) v KU w := by
  refine ⟨_, l.toArray, e, (0, 0), rfl, h.mem _ _ (List.mem_append_right _ List.mem_cons_self), by rw [hv]; simpa using hn, ?_, rfl, by simpa using hle, .inr (Nat.zero_le _), ?_⟩
  · rw [hv]; intro u hu; exact List.all_eq_true.1 hp u (by simpa using hu)
  · rw [hv, wrL_list vs l off (by rw [hn]; exact hle), hn]
    exact k _ (h.put _)
theorem st1_here {A C : Hp} {b off : Nat} {l : List Value} {e : TypeId} {v : Value} (h : Ow B w (A ++ (b, cel l e) :: C)) (hv : v.cells = #[v]) (hp : plainV v = true)
    (hlt : off < l.length) (k : ∀ w', Ow B w' (A ++ (b, cel (l.set off v) e) :: C) → KU w') : stW 1 (ptr b off) v KU w := by
  refine ⟨_, l.toArray, e, (0, 0), rfl, h.mem _ _ (List.mem_append_right _ List.mem_cons_self), by rw [hv]; rfl, ?_, rfl, by simp; omega, .inr (Nat.zero_le _), ?_⟩
  · rw [hv]; intro u hu; simp at hu; subst hu; exact hp
  · rw [hv]; simp only [wrL, List.setIfInBounds_toArray]
    exact k _ (h.put _)
theorem bs_rule (h : Ow B w H) {e : TypeId} {len : Nat} {cs : Option (Array Value)} (l : List Value) (hc : cs = some l.toArray) (k : ∀ b w', Ow B w' ((b, cel l e) :: H) → KW (.slice (some ⟨b, 0, none⟩) len len) w') : bsW e len cs KW w :=
  ⟨_, hc, k _ _ (h.alloc _)⟩
theorem ibeq (a b : Int) : (a == b) = decide (a = b) := rfl
theorem cnd {b : Bool} {X Y : Prop} (ht : b = true → X) (hf : b = false → Y) : condV (.bool b) X Y := by
  unfold condV
  cases b
  · exact hf rfl
  · exact ht rfl
theorem cnd_t {b : Bool} {X Y : Prop} (hb : b = true) (h : X) : condV (.bool b) X Y := by subst hb; unfold condV; exact h
theorem cnd_f {b : Bool} {X Y : Prop} (hb : b = false) (h : Y) : condV (.bool b) X Y := by subst hb; unfold condV; exact h

/-! ### Reckoning -/
variable {P : Program}
theorem pu_of {m : Sem Value} {v : Value} (h : ∀ w, m.run P w = .ok v w) (k : K v) : pu P m K := ⟨v, h, k⟩
section ints
variable {t : TypeId} {c : Bool} {kd : IntKind} {a b : Int}
def grdV (x : Value) : Bool := match x with
  | .nilIface => true
  | .agg _ => true
  | _ => false
theorem eqg_run {op : BinOp} {x y : Value} {x' y' : Operand} (hx : grdV x = false) (w : World) : (eqGuard op t x' y' x y).run P w = .ok () w := by
  cases op
  case eql => cases x <;> simp only [grdV, Bool.true_eq_false] at hx <;> cases y <;> rfl
  case neq => cases x <;> simp only [grdV, Bool.true_eq_false] at hx <;> cases y <;> rfl
  all_goals rfl
theorem binV_run {op : BinOp} {x y v : Value} (hx : grdV x = false) (h : ∀ w, (binOp op t x y).run P w = .ok v w) (w : World) : (binV op t c x y).run P w = .ok v w := by
  unfold binV
  simp only [Sem.run_bind, eqg_run hx, Result.andThen, h]
theorem int_bin {op : BinOp} {v : Value} (h : ∀ w, (binOp op t (.int kd a) (.int kd b)).run P w = .ok v w) (k : K v) : pu P (binV op t c (.int kd a) (.int kd b)) K :=
  ⟨v, binV_run rfl h, k⟩
theorem pu_add (k : K (.int kd (kd.wrap (a + b)))) : pu P (binV .add t c (.int kd a) (.int kd b)) K := int_bin (fun w => by simp [binOp, Op.intArith, Sem.run_pure]) k
theorem pu_sub (k : K (.int kd (kd.wrap (a - b)))) : pu P (binV .sub t c (.int kd a) (.int kd b)) K := int_bin (fun w => by simp [binOp, Op.intArith, Sem.run_pure]) k
theorem pu_mul (k : K (.int kd (kd.wrap (a * b)))) : pu P (binV .mul t c (.int kd a) (.int kd b)) K := int_bin (fun w => by simp [binOp, Op.intArith, Sem.run_pure]) k
theorem pu_eql (k : K (.bool (a == b))) : pu P (binV .eql t c (.int kd a) (.int kd b)) K := int_bin (fun w => by simp [binOp, Op.intCmp, Sem.run_pure]) k
theorem pu_neq (k : K (.bool (a != b))) : pu P (binV .neq t c (.int kd a) (.int kd b)) K := int_bin (fun w => by simp [binOp, Op.intCmp, Sem.run_pure]) k
theorem pu_lss (k : K (.bool (decide (a < b)))) : pu P (binV .lss t c (.int kd a) (.int kd b)) K := int_bin (fun w => by simp [binOp, Op.intCmp, Sem.run_pure]) k
theorem pu_leq (k : K (.bool (decide (a ≤ b)))) : pu P (binV .leq t c (.int kd a) (.int kd b)) K := int_bin (fun w => by simp [binOp, Op.intCmp, Sem.run_pure]) k
theorem pu_gtr (k : K (.bool (decide (a > b)))) : pu P (binV .gtr t c (.int kd a) (.int kd b)) K := int_bin (fun w => by simp [binOp, Op.intCmp, Sem.run_pure]) k
theorem pu_geq (k : K (.bool (decide (a ≥ b)))) : pu P (binV .geq t c (.int kd a) (.int kd b)) K := int_bin (fun w => by simp [binOp, Op.intCmp, Sem.run_pure]) k
theorem pu_neg (k : K (.int kd (kd.wrap (0 - a)))) : pu P (Op.unary .neg (.int kd a)) K := ⟨_, fun w => by simp [Op.unary, Op.intArith, Sem.run_pure], k⟩
end ints
theorem pu_not {b : Bool} (k : K (.bool !b)) : pu P (Op.unary .not (.bool b)) K := ⟨_, fun w => by simp [Op.unary, Sem.run_pure], k⟩
theorem run_eqB {m : Sem Bool} {r : Bool} {w : World} (h : m.run P w = .ok r w) : (do pure (.bool (← m)) : Sem Value).run P w = .ok (.bool r) w := by
  simp only [Sem.run_bind, h, Result.andThen, Sem.run_pure]
theorem eq_pnil {t e : TypeId} (ht : P.underlying t = some (.pointer e)) (a : Option Addr) (w : World) : (Op.equal t (.pointer a) (.pointer none)).run P w = .ok a.isNone w := by
  have : ∀ d, (Op.equalIn (d + 1) t (.pointer a) (.pointer none)).run P w = .ok a.isNone w := fun d => by cases a <;> simp only [Op.equalIn, Sem.run_bind, run_und ht, Result.andThen, Sem.run_pure, Option.isNone]
  exact this 9999
theorem eq_fnil {t : TypeId} {ps rs : Array TypeId} {v : Bool} (ht : P.underlying t = some (.func ps rs v)) (f : Fn) (a b : Array Value) (w : World) : (Op.equal t (.func f a b) .nilFunc).run P w = .ok false w := by
  have : ∀ d, (Op.equalIn (d + 1) t (.func f a b) .nilFunc).run P w = .ok false w := fun d => by simp only [Op.equalIn, Sem.run_bind, run_und ht, Result.andThen, Sem.run_pure]
  exact this 9999
theorem pu_pnil {t e : TypeId} {c : Bool} (ht : P.underlying t = some (.pointer e)) {a : Option Addr} (k : K (.bool a.isNone)) : pu P (binV .eql t c (.pointer a) (.pointer none)) K :=
  ⟨_, binV_run rfl (fun w => run_eqB (eq_pnil ht a w)), k⟩
theorem pu_fnil {t : TypeId} {ps rs : Array TypeId} {v : Bool} {c : Bool} (ht : P.underlying t = some (.func ps rs v)) {f : Fn} {a b : Array Value} (k : K (.bool false)) : pu P (binV .eql t c (.func f a b) .nilFunc) K :=
  ⟨_, binV_run rfl (fun w => run_eqB (eq_fnil ht f a b w)), k⟩
theorem pu_min2 {ts : Array TypeId} {kd : IntKind} {a b : Int} (k : K (.int kd (if b < a then b else a))) : pu P (Builtin.min_ ts 0 #[.int kd a, .int kd b]) K :=
  ⟨_, fun w => by simp [Builtin.min_, Builtin.min2, Sem.run_bind, Sem.run_pure, List.foldlM], k⟩
theorem pu_max2 {ts : Array TypeId} {kd : IntKind} {a b : Int} (k : K (.int kd (if b > a then b else a))) : pu P (Builtin.max_ ts 0 #[.int kd a, .int kd b]) K :=
  ⟨_, fun w => by simp [Builtin.max_, Builtin.max2, Sem.run_bind, Sem.run_pure, List.foldlM], k⟩
theorem pu_cvt {s t : TypeId} {kd kd' : IntKind} (hs : ∃ d, P.underlying s = some d) (ht : P.underlying t = some (.int kd')) {n : Int} (k : K (.int kd' (kd'.wrap n))) : pu P (convert s t (.int kd n)) K := by
  obtain ⟨d, hd⟩ := hs
  refine ⟨_, fun w => ?_, k⟩
  simp only [convert, Sem.run_bind, run_und hd, run_und ht, Result.andThen]
  cases d <;> simp [Conv.intToInt, Sem.run_pure]
theorem nl_ptr {a : Addr} (k : K (.pointer (some a))) : nlW (.pointer (some a)) K := k
theorem ex20 {a b : Value} (k : K a) : exW 0 (.tuple #[a, b]) K := ⟨a, rfl, k⟩
theorem ex21 {a b : Value} (k : K b) : exW 1 (.tuple #[a, b]) K := ⟨b, rfl, k⟩
theorem ex30 {a b c : Value} (k : K a) : exW 0 (.tuple #[a, b, c]) K := ⟨a, rfl, k⟩
theorem ex31 {a b c : Value} (k : K b) : exW 1 (.tuple #[a, b, c]) K := ⟨b, rfl, k⟩
theorem ex32 {a b c : Value} (k : K c) : exW 2 (.tuple #[a, b, c]) K := ⟨c, rfl, k⟩
theorem ln_rule {a : Option Addr} {n c : Nat} (k : K (vI n)) : lnS (.slice a n c) K := k
theorem lnT_rule {s : ByteArray} (k : K (vI s.size)) : lnT (.string s) K := k
theorem pt_at {off : Nat} {l : List Value} {v : Value} (h : l[off]? = some v) (k : K v) : ptW off none (.agg l.toArray) K := ⟨_, v, rfl, by simpa using h, k⟩
theorem callV_fn {f : FuncId} {first cap : Array Value} {args : List Value} {PK : List PanicEntry → World → Prop} (hf : okFn P f = true) (h : callW P f (first.toList ++ args ++ cap.toList) KW PK w) :
    callV P (.func (.func f) first cap) args KW PK w := .inl ⟨f, first, cap, rfl, hf, h⟩

/-! ### Slices that are read -/
/-- The slice v holds xs, in blocks of H. -/
def Sl (H : Hp) (v : Value) (xs : List Value) : Prop :=
  ∃ a cap, v = .slice a xs.length cap ∧ xs.length ≤ cap ∧ ∀ i x, xs[i]? = some x → ∃ p, a = some p ∧ Cell H (p.add i) x
theorem Sl.mono {H' : Hp} {v : Value} {xs : List Value} (h : Sl H v xs) (hs : ∀ x, x ∈ H → x ∈ H') : Sl H' v xs := by
  obtain ⟨a, cap, hv, hc, h⟩ := h
  exact ⟨a, cap, hv, hc, fun i x hx => let ⟨p, hp, hcell⟩ := h i x hx; ⟨p, hp, hcell.mono hs⟩⟩
theorem Sl.cons {x : Nat × Obj} {v : Value} {xs : List Value} (h : Sl H v xs) : Sl (x :: H) v xs := h.mono fun _ => List.mem_cons_of_mem _
theorem sl_here {b : Nat} {l : List Value} {e : TypeId} (hm : (b, cel l e) ∈ H) : Sl H (.slice (some ⟨b, 0, none⟩) l.length l.length) l :=
  ⟨_, _, rfl, Nat.le_refl _, fun i x hx => ⟨_, rfl, by rw [add_mk]; exact cell_here hm (by simpa using hx)⟩⟩
/-- A function value that only tells r of x, whatever else lies beside H. -/
def PF (P : Program) (B : World) (H : Hp) (f : Value) (xs : List Value) (r : Value) : Prop :=
  ∀ (X : Hp) (K : Value → World → Prop) (PK : List PanicEntry → World → Prop) (w : World), Ow B w (X ++ H) → (∀ w', Ow B w' (X ++ H) → K r w') → callV P f xs K PK w
theorem PF.cons {x : Nat × Obj} {f : Value} {xs : List Value} {r : Value} (h : PF P B H f xs r) : PF P B (x :: H) f xs r := by
  intro X K PK w hw k
  have e : X ++ x :: H = (X ++ [x]) ++ H := by simp
  rw [e] at hw k
  exact h _ K PK w hw k
end
end Go.Proofs.YtkkkcafkepnecaaGreat.Vc

/-! Ranges over functions: what an iterator hands out, and the rule of a range over it. -/
set_option linter.unusedVariables false
set_option linter.unusedSimpArgs false
namespace Go.Proofs.YtkkkcafkepnecaaGreat.Vc
open Go Go.RowKit

abbrev recR (r : Loop) : Obj := .loop { r with state := .ready, pending := none }
abbrev recB (r : Loop) : Obj := .loop { r with state := .busy, pending := none }
abbrev recD (r : Loop) (j : Code) : Obj := .loop { r with state := .done, pending := some j }

section
variable {P : Program} {B w : World} {H : Hp}
def isFnV : Value → Bool
  | .func _ _ _ => true
  | _ => false
theorem fn_cells {y : Value} (h : isFnV y = true) : y.cells = #[y] := by cases y <;> first | rfl | cases h
/-- The function value g hands out L, one by one, as long as it is told to go on; it reads H alone. -/
def Seq (P : Program) (B : World) (H : Hp) (g : Value) (L : List (List Value)) : Prop :=
  ∀ (y : Value) (J : Nat → Hp → Prop) (Z : Hp → Prop) (K : Value → World → Prop) (PK : List PanicEntry → World → Prop) (w : World) (X : Hp), isFnV y = true → Ow B w (X ++ H) → J 0 X →
    (∀ (i : Nat) (args : List Value) (X F : Hp) (K' : Value → World → Prop) (PK' : List PanicEntry → World → Prop) (w : World), L[i]? = some args → J i X → (∀ x, x ∈ H → x ∈ F) → Ow B w (X ++ F) →
      (∀ X' w', Ow B w' (X' ++ F) → J (i + 1) X' → K' (.bool true) w') → (∀ X' w', Ow B w' (X' ++ F) → Z X' → K' (.bool false) w') → callV P y args K' PK' w) →
    (∀ v X' w', Ow B w' (X' ++ H) → J L.length X' ∨ Z X' → K v w') → callF P g [y] K PK w
theorem Seq.fn {f : FuncId} {first cap : Array Value} {L : List (List Value)} (hf : okFn P f = true)
    (h : ∀ (y : Value) (J : Nat → Hp → Prop) (Z : Hp → Prop) (K : Value → World → Prop) (PK : List PanicEntry → World → Prop) (w : World) (X : Hp), isFnV y = true → Ow B w (X ++ H) → J 0 X →
      (∀ (i : Nat) (args : List Value) (X F : Hp) (K' : Value → World → Prop) (PK' : List PanicEntry → World → Prop) (w : World), L[i]? = some args → J i X → (∀ x, x ∈ H → x ∈ F) → Ow B w (X ++ F) →
        (∀ X' w', Ow B w' (X' ++ F) → J (i + 1) X' → K' (.bool true) w') → (∀ X' w', Ow B w' (X' ++ F) → Z X' → K' (.bool false) w') → callV P y args K' PK' w) →
      (∀ v X' w', Ow B w' (X' ++ H) → J L.length X' ∨ Z X' → K v w') → callW P f (first.toList ++ [y] ++ cap.toList) K PK w) : Seq P B H (.func (.func f) first cap) L := by
  intro y J Z K PK w X hy hw j0 hr he
  exact ⟨f, first, cap, rfl, hf, h y J Z K PK w X hy hw j0 hr he⟩
theorem Seq.mono {H' : Hp} {g : Value} {L : List (List Value)} (h : Seq P B H g L) (hs : ∃ X, H'.Perm (X ++ H)) : Seq P B H' g L := by
  obtain ⟨X0, hp⟩ := hs
  intro y J Z K PK w X hy hw j0 hr he
  have e : (X ++ H').Perm ((X ++ X0) ++ H) := by rw [List.append_assoc]; exact hp.append_left X
  refine h y (fun i Y => ∃ X, Y = X ++ X0 ∧ J i X) (fun Y => ∃ X, Y = X ++ X0 ∧ Z X) K PK w (X ++ X0) hy (hw.perm e) ⟨X, rfl, j0⟩ ?_ ?_
  · rintro i args Y F K' PK' w hL ⟨X, rfl, hj⟩ hF hw' k1 k2
    refine hr i args X (X0 ++ F) K' PK' w hL hj (fun x hx => ?_) (by rw [← List.append_assoc]; exact hw') (fun X' w' h1 h2 => k1 (X' ++ X0) w' (by rw [List.append_assoc]; exact h1) ⟨_, rfl, h2⟩)
      (fun X' w' h1 h2 => k2 (X' ++ X0) w' (by rw [List.append_assoc]; exact h1) ⟨_, rfl, h2⟩)
    rcases List.mem_append.1 (hp.mem_iff.1 hx) with h1 | h1
    · exact List.mem_append_left _ h1
    · exact List.mem_append_right _ (hF x h1)
  · rintro v Y w' hw' hd
    rcases hd with ⟨X', rfl, hj⟩ | ⟨X', rfl, hz⟩
    · exact he v X' w' (hw'.perm (by rw [List.append_assoc]; exact (hp.append_left X').symm)) (.inl hj)
    · exact he v X' w' (hw'.perm (by rw [List.append_assoc]; exact (hp.append_left X').symm)) (.inr hz)
theorem Seq.cons {x : Nat × Obj} {g : Value} {L : List (List Value)} (h : Seq P B H g L) : Seq P B (x :: H) g L := h.mono ⟨[x], .refl _⟩

/-! ### A round's beginning and end -/
variable {l : Nat} {r : Loop} {C : Hp} {XK : World → Prop} {R : Value → World → Prop}
theorem rbeg (h : Ow B w ((l, recR r) :: C)) (k : ∀ w', Ow B w' ((l, recB r) :: C) → XK w') : rBeg l XK w :=
  ⟨_, h.mem _ _ List.mem_cons_self, rfl, k _ (h.put (A := []) _)⟩
theorem rend_go (h : Ow B w ((l, recB r) :: C)) (k : ∀ w', Ow B w' ((l, recR r) :: C) → R (.bool true) w') : rEnd l none R w :=
  ⟨_, h.mem _ _ List.mem_cons_self, k _ (h.put (A := []) _)⟩
theorem rend_stop {j : Code} (h : Ow B w ((l, recB r) :: C)) (k : ∀ w', Ow B w' ((l, recD r j) :: C) → R (.bool false) w') : rEnd l (some j) R w :=
  ⟨_, h.mem _ _ List.mem_cons_self, k _ (h.put (A := []) _)⟩

/-! ### A range -/
variable {X : Hp} {n fuel : Nat} {lv : List (Nat × Value)} {ps : Array Tmp} {assign body : Code} {g : Value} {KN KR : D → World → Prop} {KE : List (Nat × (D → World → Prop))} {PK : List PanicEntry → D → World → Prop} {d : D}
  {A : Note} {L : List (List Value)}
/-- A yield's call, out of its round. -/
theorem yield_round (hm : P.follows .mixedOrders = true) {F : Hp} {args : List Value} {K' : Value → World → Prop} {PK' : List PanicEntry → World → Prop} {fn : FuncId} {tmps : Array Value} {r0 : Nat}
    (hw : Ow B w ((l, recR { state := .ready, pending := none, fn, tmps, params := ps, assign, body, defers := r0 }) :: F)) (ht : tmps.size = n) (hlv : ∀ p ∈ lv, tmps[p.1]? = some p.2) (ha : args.length = ps.size)
    (h : ∀ u : S, rndW P A n fuel l assign body (pset ps.toList args (ovrP lv u)) K' w) : callV P (.func (.yield l) #[] #[]) args K' PK' w :=
  .inr ⟨l, rfl, rndW_sound hm (r := { state := .ready, pending := none, fn, tmps, params := ps, assign, body, defers := r0 }) (hw.mem _ _ List.mem_cons_self) ha ht hlv h⟩
theorem range_call (hm : P.follows .mixedOrders = true) (hg : Seq P B H g L) (fn : FuncId) (tmps : Array Value) (r0 : Nat) (ht : tmps.size = n) (hlv : ∀ p ∈ lv, tmps[p.1]? = some p.2) (hps : ∀ args ∈ L, args.length = ps.size)
    (hw : Ow B w (X ++ H)) (J : Nat → Hp → Prop) (Z : Code → Hp → Prop) (j0 : J 0 X)
    (round : ∀ (l : Nat) (r : Loop) (i : Nat) (args : List Value) (X F : Hp) (R : Value → World → Prop) (w : World), r.defers = r0 → L[i]? = some args → J i X → (∀ x, x ∈ H → x ∈ F) → Ow B w ((l, recR r) :: (X ++ F)) →
      (∀ X' w', J (i + 1) X' → Ow B w' ((l, recR r) :: (X' ++ F)) → R (.bool true) w') → (∀ j X' w', Z j X' → Ow B w' ((l, recD r j) :: (X' ++ F)) → R (.bool false) w') →
      ∀ u : S, rndW P A n fuel l assign body (pset ps.toList args (ovrP lv u)) R w) {m : D}
    (hend : ∀ X' w', J L.length X' → Ow B w' (X' ++ H) → KN m w') (hZ : ∀ j X' w', Z j X' → Ow B w' (X' ++ H) → pend KN KR KE (some j) m w') {PK0 : List PanicEntry → World → Prop} :
    callF P g [.func (.yield w.heap.size) #[] #[]]
      (fun _ w3 => ∃ r : Loop, w3.heap[w.heap.size]? = some (.loop r) ∧ r.state ≠ .busy ∧ pend KN KR KE r.pending m (w3.putObj w.heap.size (.loop { r with state := .exhausted }))) PK0
      (w.alloc (.loop { state := .ready, pending := none, fn, tmps, params := ps, assign, body, defers := r0 })) := by
  refine hg _ (fun i Y => ∃ X, Y = (w.heap.size, recR { state := .ready, pending := none, fn, tmps, params := ps, assign, body, defers := r0 }) :: X ∧ J i X)
    (fun Y => ∃ j X, Y = (w.heap.size, recD { state := .ready, pending := none, fn, tmps, params := ps, assign, body, defers := r0 } j) :: X ∧ Z j X) _ _ _ _ rfl (hw.alloc _) ⟨X, rfl, j0⟩ ?_ ?_
  · rintro i args Y F K' PK' w1 hL ⟨X1, rfl, hj⟩ hF hw1 k1 k2
    refine yield_round (A := A) (fuel := fuel) hm (F := X1 ++ F) hw1 ht hlv (hps _ (List.mem_of_getElem? hL)) fun u => ?_
    exact round _ _ i args X1 F K' w1 rfl hL hj hF hw1 (fun X' w' h1 h2 => k1 _ w' h2 ⟨X', rfl, h1⟩) (fun j X' w' h1 h2 => k2 _ w' h2 ⟨j, X', rfl, h1⟩) u
  · rintro v Y w1 hw1 hd
    rcases hd with ⟨X1, rfl, hj⟩ | ⟨j, X1, rfl, hz⟩
    · refine ⟨_, hw1.mem _ _ List.mem_cons_self, by simp, ?_⟩
      exact hend X1 _ hj ((hw1.put (A := []) (.loop { state := .exhausted, pending := none, fn, tmps, params := ps, assign, body, defers := r0 })).drop)
    · refine ⟨_, hw1.mem _ _ List.mem_cons_self, by simp, ?_⟩
      exact hZ j X1 _ hz ((hw1.put (A := []) (.loop { state := .exhausted, pending := some j, fn, tmps, params := ps, assign, body, defers := r0 })).drop)
/-- A range of a function's own. -/
theorem range_fn (hm : P.follows .mixedOrders = true) (hg : Seq P B H g L) (hlv : ∀ p ∈ lv, p.1 < n) (hps : ∀ args ∈ L, args.length = ps.size)
    (hw : Ow B w (X ++ H)) (J : Nat → Hp → Prop) (Z : Code → Hp → Prop) (j0 : J 0 X)
    (round : ∀ (l : Nat) (r : Loop) (i : Nat) (args : List Value) (X F : Hp) (R : Value → World → Prop) (w : World), L[i]? = some args → J i X → (∀ x, x ∈ H → x ∈ F) → Ow B w ((l, recR r) :: (X ++ F)) →
      (∀ X' w', J (i + 1) X' → Ow B w' ((l, recR r) :: (X' ++ F)) → R (.bool true) w') → (∀ j X' w', Z j X' → Ow B w' ((l, recD r j) :: (X' ++ F)) → R (.bool false) w') →
      ∀ u : S, rndW P A n fuel l assign body (pset ps.toList args (ovrP lv u)) R w)
    (hend : ∀ b X' w', J L.length X' → Ow B w' ((b, .deferred (some [])) :: (X' ++ H)) → KN ({ target := .collected b, args := #[] } :: d) w')
    (hZ : ∀ b j X' w', Z j X' → Ow B w' ((b, .deferred (some [])) :: (X' ++ H)) → pend KN KR KE (some j) ({ target := .collected b, args := #[] } :: d) w') :
    RangeW P none n lv ps assign body g KN KR KE PK d w := by
  intro fn tmps ht hl
  refine ⟨_, _, _, ⟨rfl, rfl, rfl⟩, ?_⟩
  refine range_call (X := (w.heap.size, .deferred (some [])) :: X) (A := A) (fuel := fuel) (lv := lv) hm hg fn tmps _ ht (fun p hp => hl p hp (hlv p hp)) hps (hw.alloc _)
    (fun i Y => ∃ X, Y = (w.heap.size, .deferred (some [])) :: X ∧ J i X) (fun j Y => ∃ X, Y = (w.heap.size, .deferred (some [])) :: X ∧ Z j X) ⟨X, rfl, j0⟩ ?_ ?_ ?_
  · rintro l r i args Y F R w1 _ hL ⟨X1, rfl, hj⟩ hF hw1 k1 k2 u
    have e : ∀ (Y : Hp) (o : Nat × Obj), (o :: ((w.heap.size, Obj.deferred (some [])) :: Y ++ F)).Perm (o :: (Y ++ (w.heap.size, Obj.deferred (some [])) :: F)) := fun Y o => (List.perm_middle.symm).cons o
    exact round l r i args X1 ((w.heap.size, .deferred (some [])) :: F) R w1 hL hj (fun x hx => List.mem_cons_of_mem _ (hF x hx)) (hw1.perm (e _ _))
      (fun X' w' h1 h2 => k1 _ w' ⟨X', rfl, h1⟩ (h2.perm (e _ _).symm)) (fun j X' w' h1 h2 => k2 j _ w' ⟨X', rfl, h1⟩ (h2.perm (e _ _).symm)) u
  · rintro Y w' ⟨X', rfl, hj⟩ hw'
    exact hend _ X' w' hj hw'
  · rintro j Y w' ⟨X', rfl, hz⟩ hw'
    exact hZ _ j X' w' hz hw'
/-! ### At the end -/
theorem lv_ret {XK : World → Prop} {RE : Ending → World → Prop} {b : Nat} (h : Ow B w ((b, .deferred (some [])) :: C)) (k : ∀ w', Ow B w' C → XK w') :
    LvW P [{ target := .collected b, args := #[] }] .returning w (endV XK RE) :=
  ⟨by simp, .inl ⟨b, rfl, h.mem _ _ List.mem_cons_self, k _ (h.put (A := []) (.deferred none)).drop⟩⟩
end
end Go.Proofs.YtkkkcafkepnecaaGreat.Vc

/-! More rules: division, bits, shifts, texts, structs that are built, maps by numbers. -/
set_option linter.unusedVariables false
set_option linter.unusedSimpArgs false
namespace Go.Proofs.YtkkkcafkepnecaaGreat.Vc
open Go Go.RowKit

theorem wrapu32 (n : Int) : IntKind.u32.wrap n = n % 4294967296 := by
  have e2 : (2 : Int) ^ 32 = 4294967296 := rfl
  simp [IntKind.wrap, IntKind.bits, IntKind.signed, e2]
theorem wrapu64 (n : Int) : IntKind.u64.wrap n = n % 18446744073709551616 := by
  have e2 : (2 : Int) ^ 64 = 18446744073709551616 := rfl
  simp [IntKind.wrap, IntKind.bits, IntKind.signed, e2]
theorem wrapu8 (n : Int) : IntKind.u8.wrap n = n % 256 := by
  have e2 : (2 : Int) ^ 8 = 256 := rfl
  simp [IntKind.wrap, IntKind.bits, IntKind.signed, e2]
theorem wf_u32 {n : Int} (h : (Lit.int .u32 n).wf = true) : 0 ≤ n ∧ n < 4294967296 := by
  simp [Lit.wf, IntKind.min, IntKind.max, IntKind.signed, IntKind.bits] at h; omega
theorem wf_u8 {n : Int} (h : (Lit.int .u8 n).wf = true) : 0 ≤ n ∧ n < 256 := by
  simp [Lit.wf, IntKind.min, IntKind.max, IntKind.signed, IntKind.bits] at h; omega
theorem wf_i64 {n : Int} (h : (Lit.int .i64 n).wf = true) : -9223372036854775808 ≤ n ∧ n < 9223372036854775808 := by
  simp [Lit.wf, IntKind.min, IntKind.max, IntKind.signed, IntKind.bits] at h; omega

section
variable {P : Program} {K : Value → Prop} {t : TypeId} {c : Bool} {kd : IntKind} {a b : Int}
theorem pu_quo (hb : b ≠ 0) (k : K (.int kd (kd.wrap (a.tdiv b)))) : pu P (binV .quo t c (.int kd a) (.int kd b)) K := int_bin (fun w => by simp [binOp, Op.intDiv, hb, Sem.run_pure]) k
theorem pu_rem (hb : b ≠ 0) (k : K (.int kd (a.tmod b))) : pu P (binV .rem t c (.int kd a) (.int kd b)) K := int_bin (fun w => by simp [binOp, Op.intDiv, hb, Sem.run_pure]) k
@[irreducible] def andI (kd : IntKind) (a b : Int) : Int := kd.wrap (BitVec.ofInt kd.bits a &&& BitVec.ofInt kd.bits b).toNat
@[irreducible] def orI (kd : IntKind) (a b : Int) : Int := kd.wrap (BitVec.ofInt kd.bits a ||| BitVec.ofInt kd.bits b).toNat
@[irreducible] def xorI (kd : IntKind) (a b : Int) : Int := kd.wrap (BitVec.ofInt kd.bits a ^^^ BitVec.ofInt kd.bits b).toNat
theorem pu_and (k : K (.int kd (andI kd a b))) : pu P (binV .and t c (.int kd a) (.int kd b)) K := int_bin (fun w => by simp [binOp, Op.intBits, Sem.run_pure, andI]) k
theorem pu_or (k : K (.int kd (orI kd a b))) : pu P (binV .or t c (.int kd a) (.int kd b)) K := int_bin (fun w => by simp [binOp, Op.intBits, Sem.run_pure, orI]) k
theorem pu_xor (k : K (.int kd (xorI kd a b))) : pu P (binV .xor t c (.int kd a) (.int kd b)) K := int_bin (fun w => by simp [binOp, Op.intBits, Sem.run_pure, xorI]) k
theorem pu_shl {kd' : IntKind} (hb : 0 ≤ b) (k : K (.int kd (kd.wrap (a * 2 ^ min b.toNat kd.bits)))) : pu P (binV .shl t c (.int kd a) (.int kd' b)) K :=
  ⟨_, binV_run rfl (fun w => by have : ¬ b < 0 := by omega
                                simp [binOp, Op.shift, this, Sem.run_pure]), k⟩
theorem pu_shr {kd' : IntKind} (hb : 0 ≤ b) (k : K (.int kd (a.fdiv (2 ^ min b.toNat kd.bits)))) : pu P (binV .shr t c (.int kd a) (.int kd' b)) K :=
  ⟨_, binV_run rfl (fun w => by have : ¬ b < 0 := by omega
                                simp [binOp, Op.shift, this, Sem.run_pure]), k⟩
/-- Of texts. -/
theorem pu_seq {x y : ByteArray} (k : K (.bool (x.toList == y.toList))) : pu P (binV .eql t c (.string x) (.string y)) K := ⟨_, binV_run rfl (fun w => by simp [binOp, Op.stringOp, Sem.run_pure]), k⟩
theorem pu_sne {x y : ByteArray} (k : K (.bool !(x.toList == y.toList))) : pu P (binV .neq t c (.string x) (.string y)) K := ⟨_, binV_run rfl (fun w => by simp [binOp, Op.stringOp, Sem.run_pure]), k⟩
theorem bytes_data (x : ByteArray) : x.toList = x.data.toList := by simp [ByteArray.toList_eq]
theorem bytes_eq {x y : ByteArray} : (x.toList == y.toList) = decide (x = y) := by
  by_cases h : x = y
  · simp [h]
  · simp only [h, decide_false, beq_eq_false_iff_ne, ne_eq]
    intro e
    rw [bytes_data, bytes_data] at e
    exact h (by cases x; cases y; simp_all)
/-- What is built out of parts. -/
def bldC (P : Program) (t : TypeId) (ps : Array (Nat × Value)) : Option (Array Value) := match zo P t with
  | none => none
  | some z => match P.underlying t with
    | some (.struct fs) => match fs.toList.mapM fun f => (P.info? f.type).map fun i => (f.offset, i.size) with
      | some pl => Instr.fill (pl[·]?) z.cells ps.toList
      | none => none
    | some (.array _ e) => match P.info? e with
      | some i => Instr.fill (fun k => some (k * i.size, i.size)) z.cells ps.toList
      | none => none
    | _ => none
theorem run_zero {t : TypeId} {z : Value} (h : zo P t = some z) (w : World) : (zeroValue t).run P w = .ok z w := by
  unfold zo at h
  obtain ⟨i, hi, hz⟩ := Option.bind_eq_some_iff.1 h
  simp [zeroValue, go_sem, run_info hi, hz]
theorem run_places : ∀ {fs : List Field} {pl : List (Nat × Nat)}, (fs.mapM fun f => (P.info? f.type).map fun i => (f.offset, i.size)) = some pl → ∀ w, (fs.mapM fun f => (do pure (f.offset, ← sizeOf f.type) : Sem (Nat × Nat))).run P w = .ok pl w
  | [], pl, h, w => by simp only [List.mapM_nil] at h ⊢; cases h; rfl
  | f :: fs, pl, h, w => by
    rw [List.mapM_cons] at h ⊢
    simp only [Option.bind_eq_bind, Option.bind_eq_some_iff, Option.pure_def, Option.some.injEq] at h
    obtain ⟨p, hp, pl', hpl, rfl⟩ := h
    obtain ⟨i, hi, rfl⟩ := Option.map_eq_some_iff.1 hp
    simp only [Sem.run_bind, run_size hi, Result.andThen, Sem.run_pure, run_places hpl w]
theorem bld_run {ps : Array (Nat × Value)} {cs : Array Value} (h : bldC P t ps = some cs) (w : World) : (Instr.build t ps).run P w = .ok (.agg cs) w := by
  unfold bldC at h
  split at h
  · cases h
  · rename_i z hz
    split at h
    · rename_i fs hu
      split at h
      · rename_i pl hpl
        have h1 := run_places hpl w
        have h2 : (fs.mapM fun f => (do pure (f.offset, ← sizeOf f.type) : Sem (Nat × Nat))).run P w = .ok pl.toArray w := by
          rw [Array.mapM_eq_mapM_toList]
          show ((fs.toList.mapM fun f => (do pure (f.offset, ← sizeOf f.type) : Sem (Nat × Nat))).bind (Sem.pure ∘ List.toArray)).run P w = _
          have h4 : ∀ m : Sem (List (Nat × Nat)), m.run P w = .ok pl w → (m.bind (Sem.pure ∘ List.toArray)).run P w = .ok pl.toArray w := fun m hm => by
            have h5 : ∀ f : List (Nat × Nat) → Sem (Array (Nat × Nat)), (m.bind f).run P w = (m >>= f).run P w := fun f => rfl
            rw [h5, Sem.run_bind, hm]
            rfl
          exact h4 _ h1
        have h3 : Instr.fill (fun i => pl.toArray[i]?) z.cells ps.toList = some cs := by simpa using h
        simp only [Instr.build, Sem.run_bind, run_zero hz, Result.andThen, run_und hu, h2, h3, Sem.run_pure]
      · cases h
    · rename_i e hu
      split at h
      · rename_i i hi
        simp only [Instr.build, Sem.run_bind, run_zero hz, Result.andThen, run_und hu, run_size hi, h, Sem.run_pure]
      · cases h
    · cases h
theorem pu_build {ps : Array (Nat × Value)} (cs : List Value) (h : bldC P t ps = some cs.toArray) (k : K (.agg cs.toArray)) : pu P (Instr.build t ps) K := ⟨_, bld_run h, k⟩
theorem ixV_rule {len : Nat} {l : List Value} {n : Int} {kd : IntKind} {v : Value} (h0 : 0 ≤ n) (h1 : n < (len : Int)) (hv : l[n.toNat]? = some v) (k : K v) : ixV len 1 false (.agg l.toArray) (.int kd n) K :=
  ⟨_, _, rfl, h0, h1, _, v, rfl, by simpa using hv, k⟩
end

theorem ldsn_here {B : World} {H : Hp} {Q : World → Prop} {K : Value → Prop} {b off n : Nat} {l : List Value} {e : TypeId} (h : ∀ w, Q w → Ow B w H) (hm : (b, cel l e) ∈ H) {vs : List Value} (hv : (l.drop off).take n = vs) (hl : vs.length = n)
    (k : K (.agg vs.toArray)) : ldS (some n) (ptr b off) Q K := by
  refine ⟨_, fun w hw => ?_, k⟩
  obtain ⟨v, hr, hk⟩ := ldn_here (K := fun v => v = .agg vs.toArray) (h w hw) hm hv hl rfl
  subst hk; exact hr
/-! ### Maps by numbers -/
def mpE (kd : IntKind) : List (Int × Value) → Nat → List MapEntry
  | [], _ => []
  | (k, v) :: l, i => { key := .int kd k, val := v, born := i } :: mpE kd l (i + 1)
abbrev mpo (kd : IntKind) (l : List (Int × Value)) : Obj := .map (mpE kd l 0).toArray l.length
def lk : List (Int × Value) → Int → Option Value
  | [], _ => none
  | (k, v) :: l, x => bif decide (x = k) then some v else lk l x
section
variable {P : Program} {B w : World} {H : Hp} {KW : Value → World → Prop} {KU : World → Prop} {t kt et : TypeId} {kd : IntKind}
theorem findNow_mp (x : Int) : ∀ (l : List (Int × Value)) (b i : Nat), ∃ j, Instr.findNow (.int kd) (.int kd x) (mpE kd l b) i = some ((lk l x).map fun v => (j, v))
  | [], _, _ => ⟨0, rfl⟩
  | (k, v) :: l, b, i => by
    obtain ⟨j, hj⟩ := findNow_mp x l (b + 1) (i + 1)
    by_cases h : x = k
    · exact ⟨i, by simp [mpE, Instr.findNow, Instr.sameNow, lk, h]⟩
    · exact ⟨j, by
      have e : (x == k) = false := by simp [h]
      simp [mpE, Instr.findNow, Instr.sameNow, lk, h, hj, e]⟩
theorem checkKey_int {e : Bool} {n : Nat} {x : Int} (hk : P.underlying kt = some (.int kd)) (w : World) : (Instr.checkKey e (n + 1) kt (.int kd x)).run P w = .ok () w := by
  simp only [Instr.checkKey, Sem.run_bind, run_und hk, Result.andThen, Sem.run_pure]
theorem findKey_mp (hk : P.underlying kt = some (.int kd)) (x : Int) (l : List (Int × Value)) (b : Nat) (w : World) : ∃ j, (Instr.findKey kt (.int kd x) (mpE kd l b)).run P w = .ok ((lk l x).map fun v => (j, v)) w := by
  obtain ⟨j, hj⟩ := findNow_mp (kd := kd) x l b 0
  exact ⟨j, by simp only [Instr.findKey, Sem.run_bind, run_und hk, Result.andThen, hj, Sem.run_pure]⟩
theorem mpE_snoc (k : Int) (v : Value) : ∀ (l : List (Int × Value)) (b : Nat), mpE kd (l ++ [(k, v)]) b = mpE kd l b ++ [{ key := .int kd k, val := v, born := b + l.length }]
  | [], b => by simp [mpE]
  | (k', v') :: l, b => by simp [mpE, mpE_snoc k v l (b + 1)]; omega
theorem get_map {r : Nat} {es : Array MapEntry} {clock : Nat} (hb : w.heap[r]? = some (.map es clock)) : (getObj r).run P w = .ok (.map es clock) w := by
  simp [getObj, Sem.run, hb]
theorem set_map {r : Nat} {es : Array MapEntry} {clock : Nat} (o : Obj) (hb : w.heap[r]? = some (.map es clock)) : (setObj r o).run P w = .ok () (w.putObj r o) := by
  simp [setObj, Sem.run, hb, World.putObj]
theorem mk_rule (h : Ow B w H) (k : ∀ b w', Ow B w' ((b, mpo kd []) :: H) → KW (.map (some b)) w') : opW P (Instr.makeMap t none) KW w :=
  ⟨_, _, rfl, k _ _ (h.alloc _)⟩
theorem mu_rule {A C : Hp} {b : Nat} {l : List (Int × Value)} {x : Int} {v : Value} (h : Ow B w (A ++ (b, mpo kd l) :: C)) (ht : P.underlying t = some (.map kt et)) (hk : P.underlying kt = some (.int kd)) (hn : lk l x = none)
    (k : ∀ w', Ow B w' (A ++ (b, mpo kd (l ++ [(x, v)])) :: C) → KU w') : opU P (Instr.mapUpdate t (.map (some b)) (.int kd x) v) KU w := by
  have hb := h.mem b _ (List.mem_append_right _ List.mem_cons_self)
  obtain ⟨j, hj⟩ := findKey_mp hk x l 0 w
  refine ⟨_, ?_, k _ (h.put _)⟩
  simp only [Instr.mapUpdate, Sem.run_bind, run_und ht, Result.andThen, get_map hb, checkKey_int hk, hj, hn, Option.map_none]
  rw [set_map _ hb]
  simp [mpo, mpE_snoc]
end
end Go.Proofs.YtkkkcafkepnecaaGreat.Vc

/-! Slices of one's own: append and make. -/
set_option linter.unusedVariables false
set_option linter.unusedSimpArgs false
namespace Go.Proofs.YtkkkcafkepnecaaGreat.Vc
open Go Go.RowKit

/-- The slice v holds xs (n elements of size cells) in a row of its own, which S is; or it is nil. -/
def Own (S : Hp) (e : TypeId) (size : Nat) (v : Value) (n : Nat) (xs : List Value) : Prop :=
  xs.length = n * size ∧ ((S = [] ∧ v = .slice none 0 0 ∧ n = 0) ∨
    ∃ g cap l, S = [(g, cel l e)] ∧ v = .slice (some ⟨g, 0, none⟩) n cap ∧ n ≤ cap ∧ cap ≤ maxLen ∧ l.length = cap * size ∧ l.take (n * size) = xs)
theorem own_none (e : TypeId) (size : Nat) : Own [] e size (.slice none 0 0) 0 [] := ⟨by simp, .inl ⟨rfl, rfl, rfl⟩⟩
theorem Own.mk {g cap : Nat} {l xs : List Value} {e : TypeId} {size n : Nat} (hc : n ≤ cap) (hm : cap ≤ maxLen) (hl : l.length = cap * size) (hx : l.take (n * size) = xs) : Own [(g, cel l e)] e size (.slice (some ⟨g, 0, none⟩) n cap) n xs :=
  ⟨by rw [← hx, List.length_take, hl]; exact Nat.min_eq_left (Nat.mul_le_mul_right _ hc), .inr ⟨g, cap, l, rfl, rfl, hc, hm, hl, hx⟩⟩
theorem Own.sl {S : Hp} {e : TypeId} {v : Value} {n : Nat} {xs : List Value} (h : Own S e 1 v n xs) : Sl S v xs := by
  obtain ⟨hl, ⟨rfl, rfl, rfl⟩ | ⟨g, cap, l, rfl, rfl, hc, hm, hlen, hx⟩⟩ := h
  · have : xs = [] := List.eq_nil_of_length_eq_zero (by simpa using hl)
    subst this
    exact ⟨none, 0, rfl, Nat.zero_le _, by simp⟩
  · have hn : xs.length = n := by simpa using hl
    refine ⟨some ⟨g, 0, none⟩, cap, by rw [hn], by rw [hn]; exact hc, fun i x hi => ⟨_, rfl, ?_⟩⟩
    rw [add_mk]
    refine cell_here List.mem_cons_self ?_
    rw [← hx] at hi
    simp only [Nat.mul_one, List.getElem?_take] at hi
    split at hi
    · simpa using hi
    · cases hi
theorem Own.len {S : Hp} {e : TypeId} {v : Value} {n size : Nat} {xs : List Value} (h : Own S e size v n xs) : ∃ a c, v = .slice a n c := by
  obtain ⟨hl, ⟨rfl, rfl, rfl⟩ | ⟨g, cap, l, rfl, rfl, hc, hm, hlen, hx⟩⟩ := h
  · exact ⟨_, _, rfl⟩
  · exact ⟨_, _, rfl⟩
theorem Own.max {S : Hp} {e : TypeId} {v : Value} {n size : Nat} {xs : List Value} (h : Own S e size v n xs) : n ≤ maxLen := by
  obtain ⟨hl, ⟨rfl, rfl, rfl⟩ | ⟨g, cap, l, rfl, rfl, hc, hm, hlen, hx⟩⟩ := h
  · exact Nat.zero_le _
  · omega

/-- What is appended: m elements, cells ys. -/
def Src (H : Hp) (x : Value) (m size : Nat) (ys : List Value) : Prop :=
  ys.length = m * size ∧ ∃ a c, x = .slice a m c ∧ ∀ j y, ys[j]? = some y → ∃ p, a = some p ∧ Cell H (p.add j) y
theorem Sl.src {H : Hp} {x : Value} {ys : List Value} (h : Sl H x ys) : Src H x ys.length 1 ys := by
  obtain ⟨a, cap, rfl, hc, h⟩ := h
  exact ⟨by simp, a, cap, rfl, h⟩
theorem src_here {H : Hp} {b len : Nat} {l : List Value} {e : TypeId} {size : Nat} (hm : (b, cel l e) ∈ H) (hl : l.length = len * size) : Src H (.slice (some ⟨b, 0, none⟩) len len) len size l :=
  ⟨hl, _, _, rfl, fun j y hy => ⟨_, rfl, by rw [add_mk]; exact cell_here hm (by simpa using hy)⟩⟩

section
variable {P : Program} {B w : World} {KW : Value → World → Prop} {t e ty : TypeId}
theorem app_nil {v : Value} {n size : Nat} {xs : List Value} {S : Hp} {a : Option Addr} {c : Nat} {i : TypeInfo} (ht : P.underlying t = some (.slice e)) (hi : P.info? e = some i) (ho : Own S e size v n xs) (ha : a = none) :
    (Builtin.append_ #[t, t] ty #[v, .slice a 0 c]).run P w = .ok v w := by
  subst ha
  obtain ⟨hl, ⟨rfl, rfl, rfl⟩ | ⟨g, cap, l, rfl, rfl, hc, hm, hlen, hx⟩⟩ := ho
  · simp [Builtin.append_, run_underlying ht, sizeOf, typeInfo, hi, Builtin.lenOf, Builtin.firstCells, loadCells, loadCellsFrom]
  · simp [Builtin.append_, run_underlying ht, sizeOf, typeInfo, hi, Builtin.lenOf, Builtin.firstCells, loadCells, loadCellsFrom, hc, storeCells]
/-- append. -/
theorem app_rule {A C S H : Hp} {v x : Value} {n m size bytes : Nat} {xs ys : List Value} {i : TypeInfo} {z : Value} (h : Ow B w (A ++ S ++ C)) (ho : Own S e size v n xs) (hs : Src H x m size ys) (hH : ∀ y, y ∈ H → y ∈ A ++ S ++ C)
    (hp : ys.all plainV = true) (ht : P.underlying t = some (.slice e)) (hi : P.info? e = some i) (hz : i.zero = some z) (hsize : i.size = size) (hby : i.bytes = bytes) (hzs : z.cells.size = size) (hsz : 0 < size)
    (h63 : n + m ≤ maxLen) (hbytes : (n + m) * bytes ≤ 140737488355328)
    (k : ∀ S' v' w', Ow B w' (A ++ S' ++ C) → Own S' e size v' (n + m) (xs ++ ys) → KW v' w') : opW P (Builtin.append_ #[t, t] ty #[v, x]) KW w := by
  obtain ⟨hyl, a, c, rfl, hcell⟩ := hs
  cases a with
  | none =>
    have hy0 : ys = [] := by
      cases ys with
      | nil => rfl
      | cons y ys => obtain ⟨p, hp, _⟩ := hcell 0 y rfl; cases hp
    subst hy0
    have hm0 : m = 0 := by
      simp only [List.length_nil] at hyl
      rcases Nat.mul_eq_zero.1 hyl.symm with h0 | h0
      · exact h0
      · omega
    subst hm0
    exact ⟨_, _, app_nil ht hi ho rfl, k S v w h (by simpa using ho)⟩
  | some a =>
    have hown : w.ownsRow 0 e size v n xs := by
      obtain ⟨hl, ⟨rfl, rfl, rfl⟩ | ⟨g, cap, l, rfl, rfl, hc, hm, hlen, hx⟩⟩ := ho
      · exact ⟨hl, .inl ⟨rfl, rfl⟩⟩
      · exact ⟨hl, .inr ⟨g, cap, l.toArray, rfl, Nat.zero_le _, h.mem _ _ (List.mem_append_left _ (List.mem_append_right _ List.mem_cons_self)), hc, hm, by simpa using hlen, by simpa using hx⟩⟩
    have one : ∀ u ∈ ys, u.oneCell' = true := fun u hu => by
      have := List.all_eq_true.1 hp u hu
      cases u <;> first | rfl | cases this
    obtain ⟨v', w', hr, hown', hgr, hnil, hblk⟩ := run_append_own_at (P := P) w 0 t ty e i z size bytes ht hi hz hsize hby hzs hsz v n xs hown a m c ys hyl
      (fun j u hj => by obtain ⟨p, hp, hc⟩ := hcell j u hj; cases hp; exact h.cell (hc.mono hH)) one h63 hbytes (Nat.zero_le _)
    refine ⟨_, _, hr, ?_⟩
    have others : ∀ b o, (b, o) ∈ A ++ C → w'.heap[b]? = some o := fun b o hm => by
      have hm' : (b, o) ∈ A ++ S ++ C := by
        rcases List.mem_append.1 hm with h1 | h1
        · exact List.mem_append_left _ (List.mem_append_left _ h1)
        · exact List.mem_append_right _ h1
      rw [← h.mem b o hm']
      refine hgr.block b (h.lt hm') ?_
      intro hb
      obtain ⟨hl, ⟨rfl, rfl, rfl⟩ | ⟨g, cap, l, rfl, rfl, hc, hm2, hlen, hx⟩⟩ := ho
      · simp [Value.ownBlock] at hb
      · have hb : b = g := by simpa [Value.ownBlock] using hb
        have h2 : Ow B w (A ++ (g, cel l e) :: C) := by simpa using h
        exact h2.ne hm hb
    have ndAC : ((A ++ C).map Prod.fst).Nodup := by
      refine h.nd.sublist (List.Sublist.map _ ?_)
      rw [List.append_assoc]
      exact List.Sublist.append_left (List.sublist_append_right _ _) _
    obtain ⟨hl', ⟨rfl, hn0⟩ | ⟨g', cap', cur', rfl, _, hg', hc', hm', hlen', hx'⟩⟩ := hown'
    · refine k [] _ w' ⟨hgr.os.trans h.os, hgr.tape.trans h.tape, hgr.output.trans h.output, fun b o hm => others b o (by simpa using hm), by simpa using ndAC⟩ ⟨hl', .inl ⟨rfl, rfl, hn0⟩⟩
    · refine k [(g', cel cur'.toList e)] _ w' ⟨hgr.os.trans h.os, hgr.tape.trans h.tape, hgr.output.trans h.output, fun b o hm => ?_, ?_⟩ ⟨hl', .inr ⟨g', cap', cur'.toList, rfl, rfl, hc', hm', by simpa using hlen', hx'⟩⟩
      · simp only [List.append_assoc, List.cons_append, List.nil_append, List.mem_append, List.mem_cons] at hm
        rcases hm with h1 | h1 | h1
        · exact others b o (List.mem_append_left _ h1)
        · cases h1; simpa using hg'
        · exact others b o (List.mem_append_right _ h1)
      · have hnew : g' ∉ (A ++ C).map Prod.fst := by
          intro hmem
          obtain ⟨p, hp', he⟩ := List.mem_map.1 hmem
          obtain ⟨b, o⟩ := p
          simp only at he
          subst he
          have hm2 : (b, o) ∈ A ++ S ++ C := by
            rcases List.mem_append.1 hp' with h1 | h1
            · exact List.mem_append_left _ (List.mem_append_left _ h1)
            · exact List.mem_append_right _ h1
          rcases hblk with hb | hb
          · simp only [Value.ownBlock] at hb
            obtain ⟨hl, ⟨rfl, rfl, rfl⟩ | ⟨g, cap, l, rfl, rfl, hc, hm3, hlen, hx⟩⟩ := ho
            · simp [Value.ownBlock] at hb
            · simp only [Value.ownBlock, Option.some.injEq] at hb
              have h2 : Ow B w (A ++ (g, cel l e) :: C) := by simpa using h
              exact h2.ne hp' hb
          · simp only [Value.ownBlock, Option.some.injEq] at hb
            have := h.lt hm2
            omega
        have : (A ++ [(g', cel cur'.toList e)] ++ C).Perm ((g', cel cur'.toList e) :: (A ++ C)) := by
          rw [List.append_assoc]; exact List.perm_middle
        rw [(this.map Prod.fst).nodup_iff]
        simp only [List.map_cons, List.nodup_cons]
        exact ⟨hnew, ndAC⟩

/-- make. -/
theorem mkW_rule {H : Hp} {size bytes n m : Nat} {z : Value} {zo : Option Value} {kd kd' : IntKind} {l c : Value} (h : Ow B w H) (hz : zo = some z) (hl : l = .int kd n) (hc : c = .int kd' m) (hnm : n ≤ m) (hm : m < 2 ^ 48) (hb : bytes * m ≤ 2 ^ 48)
    (k : ∀ b w', Ow B w' ((b, cel ((List.range (m * size)).map (z.cells[· % z.cells.size]!)) e) :: H) → KW (.slice (some ⟨b, 0, none⟩) n m) w') : mkW e size bytes zo l c KW w := by
  refine ⟨z, kd, kd', n, m, hz, hl, hc, hnm, hm, hb, ?_⟩
  have he : (Array.range (m * size)).map (z.cells[· % z.cells.size]!) = ((List.range (m * size)).map (z.cells[· % z.cells.size]!)).toArray := by
    apply Array.ext'
    simp [Array.toList_range]
  rw [he]
  exact k _ _ (h.alloc _)
theorem zeros_one {z : Value} (hz : z.cells = #[z]) (m : Nat) : (List.range (m * 1)).map (z.cells[· % z.cells.size]!) = List.replicate m z := by
  rw [hz]
  apply List.ext_getElem
  · simp
  · intro i h1 h2
    simp [Nat.mod_one]
end
end Go.Proofs.YtkkkcafkepnecaaGreat.Vc

/-! Helpers: parts of own slices, structs of one cell, equality of structs and arrays. -/
set_option linter.unusedVariables false
set_option linter.unusedSimpArgs false
namespace Go.Proofs.YtkkkcafkepnecaaGreat.Vc
open Go Go.RowKit

section
variable {P : Program} {B w : World} {H : Hp} {K : Value → Prop} {KW : Value → World → Prop} {KU : World → Prop}
theorem info_of {e : TypeId} {size bytes : Nat} {z : Value} (h : (P.info? e).map (fun i => (i.zero, i.size, i.bytes)) = some (some z, size, bytes)) : ∃ i, P.info? e = some i ∧ i.zero = some z ∧ i.size = size ∧ i.bytes = bytes := by
  obtain ⟨i, hi, he⟩ := Option.map_eq_some_iff.1 h
  simp only [Prod.mk.injEq] at he
  exact ⟨i, hi, he.1, he.2.1, he.2.2⟩
def isFnT (P : Program) (t : TypeId) : Bool := match P.underlying t with
  | some (.func _ _ _) => true
  | _ => false
theorem pu_fnl {t : TypeId} {c : Bool} (ht : isFnT P t = true) {f : Fn} {a b : Array Value} (k : K (.bool false)) : pu P (binV .eql t c (.func f a b) .nilFunc) K := by
  unfold isFnT at ht
  split at ht
  · rename_i h; exact pu_fnil h k
  · cases ht
/-- append, of slices of numbers. -/
theorem app1 {A C S H' : Hp} {v x : Value} {n bytes : Nat} {t e ty : TypeId} {xs ys : List Value} {z : Value} (h : Ow B w (A ++ S ++ C)) (ho : Own S e 1 v n xs) (hs : Sl H' x ys) (hH : ∀ y, y ∈ H' → y ∈ A ++ S ++ C)
    (hp : ys.all plainV = true) (ht : P.underlying t = some (.slice e)) (hi : (P.info? e).map (fun i => (i.zero, i.size, i.bytes)) = some (some z, 1, bytes)) (hz : z.cells.size = 1) (h63 : n + ys.length ≤ maxLen) (hb : (n + ys.length) * bytes ≤ 140737488355328)
    (k : ∀ S' v' w', Ow B w' (A ++ S' ++ C) → Own S' e 1 v' (n + ys.length) (xs ++ ys) → KW v' w') : opW P (Builtin.append_ #[t, t] ty #[v, x]) KW w := by
  obtain ⟨i, h1, h2, h3, h4⟩ := info_of hi
  exact app_rule h ho hs.src hH hp ht h1 h2 h3 h4 hz (by omega) h63 hb k
/-- A read at an index of a slice. -/
theorem sl_ld {s v : Value} {xs : List Value} {n : Int} {kd : IntKind} (h : Ow B w H) (hs : Sl H s xs) (h0 : 0 ≤ n) (hv : xs[n.toNat]? = some v) (k : K v) : ixS 1 s (.int kd n) fun p => ldW none p w K := by
  obtain ⟨a, cap, rfl, hc, hx⟩ := hs
  obtain ⟨p, rfl, hcell⟩ := hx _ _ hv
  have hlt := (List.getElem?_eq_some_iff.1 hv).1
  refine ixS_rule h0 (by omega) ?_
  rw [Nat.mul_one]
  exact ld_cell h hcell k
theorem sl_lds {Q : World → Prop} {s v : Value} {xs : List Value} {n : Int} {kd : IntKind} (h : ∀ w, Q w → Ow B w H) (hs : Sl H s xs) (h0 : 0 ≤ n) (hv : xs[n.toNat]? = some v) (k : K v) : ixS 1 s (.int kd n) fun p => ldS none p Q K := by
  obtain ⟨a, cap, rfl, hc, hx⟩ := hs
  obtain ⟨p, rfl, hcell⟩ := hx _ _ hv
  have hlt := (List.getElem?_eq_some_iff.1 hv).1
  refine ixS_rule h0 (by omega) ?_
  rw [Nat.mul_one]
  exact lds_cell h hcell k
theorem Sl.len {s : Value} {xs : List Value} (hs : Sl H s xs) : ∃ a c, s = .slice a xs.length c := by
  obtain ⟨a, cap, rfl, hc, hx⟩ := hs
  exact ⟨a, cap, rfl⟩
theorem sl_ln {s : Value} {xs : List Value} (hs : Sl H s xs) (k : K (vI xs.length)) : lnS s K := by
  obtain ⟨a, cap, rfl, hc, hx⟩ := hs
  exact k
theorem sl_cells {s : Value} {xs : List Value} (hs : Sl H s xs) : s.cells = #[s] := by
  obtain ⟨a, cap, rfl, hc, hx⟩ := hs
  rfl
/-- A write at an index of an own slice. -/
theorem own_set {A C S : Hp} {e : TypeId} {v x : Value} {n : Nat} {xs : List Value} {i : Int} {kd : IntKind} (h : Ow B w (A ++ S ++ C)) (ho : Own S e 1 v n xs) (h0 : 0 ≤ i) (h1 : i < n) (hc : x.cells = #[x]) (hp : plainV x = true)
    (k : ∀ S' w', Ow B w' (A ++ S' ++ C) → Own S' e 1 v n (xs.set i.toNat x) → KU w') : ixS 1 v (.int kd i) fun p => stW 1 p x KU w := by
  obtain ⟨hl, ⟨rfl, rfl, rfl⟩ | ⟨g, cap, l, rfl, rfl, hcap, hm, hlen, hx⟩⟩ := ho
  · omega
  · refine ixS_at h0 h1 ?_
    have h' : Ow B w (A ++ (g, cel l e) :: C) := by simpa using h
    refine st1_here h' hc hp (by simp at hlen; omega) (fun w' hw' => ?_)
    simp only [Nat.mul_one, Nat.zero_add] at hw'
    refine k [(g, cel (l.set i.toNat x) e)] w' (by simpa using hw') ?_
    refine Own.mk hcap hm (by simpa using hlen) ?_
    rw [← hx, Nat.mul_one, List.take_set]
/-- An array's cells as a slice. -/
theorem pu_slarr {t e : TypeId} {i : TypeInfo} {n b o : Nat} (ht : P.underlying t = some (.array n e)) (hi : P.info? e = some i) (k : K (.slice (some ⟨b, o, none⟩) n n)) : pu P (Instr.sliceAt t (ptr b o) none none none) K := by
  refine ⟨_, fun w => ?_, k⟩
  simp only [Instr.sliceAt, Sem.run_bind, run_und ht, Result.andThen, Instr.sureAddr, Sem.run_pure, Instr.sliceBounds, run_size hi, Nat.sub_zero, Nat.zero_mul, add_mk, Nat.add_zero, ite_self]
theorem sl_part {b o n : Nat} {l xs : List Value} {e : TypeId} (hm : (b, cel l e) ∈ H) (hx : (l.drop o).take n = xs) (hn : xs.length = n) : Sl H (.slice (some ⟨b, o, none⟩) n n) xs := by
  subst hn
  refine ⟨_, _, rfl, Nat.le_refl _, fun i x hi => ⟨_, rfl, ?_⟩⟩
  rw [add_mk]
  refine cell_here hm ?_
  rw [← hx, List.getElem?_take] at hi
  split at hi
  · simpa using hi
  · cases hi

/-! ### Equality -/
def EqR (P : Program) (d : Nat) (t : TypeId) (x y : Value) (r : Bool) : Prop := ∀ w, (Op.equalIn d t x y).run P w = .ok r w
theorem eqr_int {d : Nat} {t : TypeId} {k : IntKind} (ht : P.underlying t = some (.int k)) {kd : IntKind} (a b : Int) : EqR P (d + 1) t (.int kd a) (.int kd b) (a == b) := fun w => by
  simp only [Op.equalIn, Sem.run_bind, run_und ht, Result.andThen, Sem.run_pure, if_true]
def EqF (P : Program) (d : Nat) (xs ys : Array Value) (fs : List Field) (r : Bool) : Prop := ∀ w, (Op.eqFields d xs ys fs).run P w = .ok r w
theorem eqf_nil {d : Nat} {xs ys : Array Value} : EqF P d xs ys [] true := fun w => rfl
theorem eqf_cons {d : Nat} {xs ys : Array Value} {f : Field} {fs : List Field} {r r' : Bool} {z : Option Nat} {a b : Value} (hn : f.name ≠ "_") (hz : ldSize P f.type = some z) (hx : ptW f.offset z (.agg xs) (fun v => v = a)) (hy : ptW f.offset z (.agg ys) (fun v => v = b))
    (h : EqR P d f.type a b r) (hr : EqF P d xs ys fs r') : EqF P d xs ys (f :: fs) (r && r') := fun w => by
  obtain ⟨cs, v, e1, h1, rfl⟩ := pt_sound hz hx
  obtain ⟨cs', v', e2, h2, rfl⟩ := pt_sound hz hy
  cases e1; cases e2
  simp only [Op.eqFields, hn, ne_eq, not_false_eq_true, if_true, Sem.run_bind, h1, h2, Result.andThen, h w, Sem.run_ite, Sem.run_pure, hr w]
  cases r <;> simp
theorem eqr_struct {d : Nat} {t : TypeId} {xs ys : Array Value} {fs : List Field} {r : Bool} (ht : P.underlying t = some (.struct (P.fieldsOf t))) (hp : P.stoodInHeld t = false) (hf : (P.fieldsOf t).toList = fs) (h : EqF P d xs ys fs r) :
    EqR P (d + 1) t (.agg xs) (.agg ys) r := fun w => by
  rw [run_equalIn_struct w d t xs ys ht hp, hf]
  exact h w
theorem pu_aneq {t : TypeId} {c : Bool} {xs ys : Array Value} {r : Bool} (hg : P.eqGuardType P.depth t = false) (h : EqR P 10000 t (.agg xs) (.agg ys) r) (k : K (.bool !r)) : pu P (binV .neq t c (.agg xs) (.agg ys)) K := by
  refine ⟨_, fun w => ?_, k⟩
  unfold binV
  simp only [Sem.run_bind, run_eqGuard_agg w .neq t _ _ xs ys hg, Result.andThen, run_neq_struct, h w]
end
end Go.Proofs.YtkkkcafkepnecaaGreat.Vc

