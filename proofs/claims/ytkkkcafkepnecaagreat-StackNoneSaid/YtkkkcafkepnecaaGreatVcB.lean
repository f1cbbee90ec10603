/- The conditions themselves: operations, regions, code, functions. -/
import Derived.Test.YtkkkcafkepnecaaGreatVcA
set_option linter.unusedVariables false
namespace Go.Proofs.YtkkkcafkepnecaaGreat.Vc
open Go Go.RowKit

def agT (P : Program) (t : TypeId) : Bool := match P.underlying t with
  | some (.struct _) => true
  | some (.array _ _) => true
  | _ => false
/-- none: no such type; some none: a plain one; some (some n): of n cells, put together. -/
def ldSize (P : Program) (t : TypeId) : Option (Option Nat) := match P.underlying t with
  | none => none
  | some _ => match P.info? t with
    | none => none
    | some i => some (bif agT P t then some i.size else none)
def cnst (x : Operand) : Bool := match x with
  | .const _ => true
  | _ => false
def binV (op : BinOp) (t : TypeId) (c : Bool) (x y : Value) : Sem Value := do
  eqGuard op t (bif c then .const .nilIface else .tmp 0) (.tmp 0) x y
  binOp op t x y
def evO (n : Nat) (s : S) (x : Option Operand) : Option Value := match x with
  | none => none
  | some y => some (ev n s y)
def evP (n : Nat) (s : S) : List (Nat × Operand) → List (Nat × Value)
  | [] => []
  | (i, x) :: l => (i, ev n s x) :: evP n s l

def lnS (x : Value) (K : Value → Prop) : Prop := match x with
  | .slice _ n _ => K (.int .i64 n)
  | _ => False
def lnT (x : Value) (K : Value → Prop) : Prop := match x with
  | .string s => K (.int .i64 s.size)
  | _ => False
def one1 (f : Value → (Value → Prop) → Prop) (l : List Value) (K : Value → Prop) : Prop := match l with
  | [x] => f x K
  | _ => False
/-- Is it reckoned without the world? -/
def isPu (P : Program) (op : Op) : Bool := match op with
  | .move _ | .assign _ | .pick _ _ _ | .nilCheck _ | .fieldAddr _ _ _ | .field _ _ _ | .indexAddr _ _ _ | .index _ _ _ | .unOp _ _ _ | .binOp _ _ _ _ _
  | .extract _ _ | .makeFunc _ _ _ | .makeInterface _ _ | .slice _ _ _ _ _ | .build _ _ | .typeAssert _ _ _ _ => true
  | .convert _ b _ => match P.underlying b with
    | some (.int _) => true
    | _ => false
  | .call c => match c.callee with
    | .builtin .len => match (c.argTypes[0]?).bind P.underlying with
      | some (.slice _) => true
      | some .string => true
      | _ => false
    | .builtin .cap => true
    | .builtin .max => true
    | .builtin .min => true
    | _ => false
  | _ => false
def isLd (op : Op) : Bool := match op with
  | .load _ _ => true
  | _ => false

def puOp (P : Program) (n : Nat) (s : S) (op : Op) (K : Value → Prop) : Prop := match op with
  | .move x => K (ev n s x)
  | .assign x => K (ev n s x)
  | .pick c a b => condV (ev n s c) (K (ev n s a)) (K (ev n s b))
  | .nilCheck x => nlW (ev n s x) K
  | .fieldAddr t x f => match P.underlying t with
    | some (.struct fs) => match fs[f]? with
      | some fl => match P.info? fl.type with
        | some i => bif Nat.beq i.size 0 then False else faW fl.offset (ev n s x) K
        | none => False
      | none => False
    | _ => False
  | .field t x f => match P.underlying t with
    | some (.struct fs) => match fs[f]? with
      | some fl => match ldSize P fl.type with
        | some z => ptW fl.offset z (ev n s x) K
        | none => False
      | none => False
    | _ => False
  | .indexAddr t x i => match P.underlying t with
    | some (.array len e) => match P.info? e with
      | some inf => ixA len inf.size (ev n s x) (ev n s i) K
      | none => False
    | some (.slice e) => match P.info? e with
      | some inf => ixS inf.size (ev n s x) (ev n s i) K
      | none => False
    | _ => False
  | .index t x i => match P.underlying t with
    | some (.array len e) => match P.underlying e with
      | none => False
      | some _ => match P.info? e with
        | some inf => ixV len inf.size (agT P e) (ev n s x) (ev n s i) K
        | none => False
    | some .string => ixT (ev n s x) (ev n s i) K
    | _ => False
  | .unOp o t x => pu P (Op.unary o (ev n s x)) K
  | .binOp o t x y _ => pu P (binV o t (cnst x || cnst y) (ev n s x) (ev n s y)) K
  | .extract x i => exW i (ev n s x) K
  | .makeFunc fn a b => K (.func fn (evs n s a.toList).toArray (evs n s b.toList).toArray)
  | .makeInterface t x => match P.underlying t with
    | some (.interface _) => False
    | some _ => K (.iface t (ev n s x))
    | none => False
  | .slice t x lo hi mx => pu P (Instr.sliceAt t (ev n s x) (evO n s lo) (evO n s hi) (evO n s mx)) K
  | .build t ps => pu P (Instr.build t (evP n s ps.toList).toArray) K
  | .typeAssert x t u b => pu P (Instr.typeAssert (ev n s x) t u b) K
  | .convert a b x => match P.underlying b with
    | some (.int _) => pu P (convert a b (ev n s x)) K
    | _ => False
  | .call c => match c.callee with
    | .builtin .len => match (c.argTypes[0]?).bind P.underlying with
      | some (.slice _) => one1 lnS (evs n s c.args.toList) K
      | some .string => one1 lnT (evs n s c.args.toList) K
      | _ => False
    | .builtin .cap => pu P (Builtin.cap_ c.argTypes 0 (evs n s c.args.toList).toArray) K
    | .builtin .max => pu P (Builtin.max_ c.argTypes 0 (evs n s c.args.toList).toArray) K
    | .builtin .min => pu P (Builtin.min_ c.argTypes 0 (evs n s c.args.toList).toArray) K
    | _ => False
  | _ => False

def pnW (x : Value) (PK : List PanicEntry → World → Prop) (w : World) : Prop := match x with
  | .iface t v => PK [{ v := .iface t v, recovered := false }] w
  | _ => False
/-- What is done in the world; but for defers. -/
def efOp (P : Program) (n : Nat) (s : S) (op : Op) (ty : TypeId) (K : Value → World → Prop) (PK : List PanicEntry → World → Prop) (w : World) : Prop := match op with
  | .load t a => match ldSize P t with
    | some z => ldW z (ev n s a) w (fun v => K v w)
    | none => False
  | .store t a v => match P.info? t with
    | some i => stW i.size (ev n s a) (ev n s v) (fun w' => K undef w') w
    | none => False
  | .alloc t => match P.info? t with
    | some i => match i.zero with
      | some z => alW z.cells t K w
      | none => False
    | none => False
  | .box t x => alW (ev n s x).cells t K w
  | .buildSlice t l ps => match P.underlying t with
    | some (.slice e) => match P.info? e with
      | some i => bif Nat.ble 1 i.size && Nat.ble (l * i.size) 16777216 then bsW e l (bsC P e l (evP n s ps.toList)) K w else False
      | none => False
    | _ => False
  | .makeMap t r => opW P (Instr.makeMap t (evO n s r)) K w
  | .makeSlice t l c => match P.underlying t with
    | some (.slice e) => match P.info? e with
      | some i => bif Nat.ble 1 i.size then mkW e i.size i.bytes i.zero (ev n s l) (ev n s c) K w else False
      | none => False
    | _ => False
  | .insert t m k v => opU P (Instr.mapUpdate t (ev n s m) (ev n s k) (ev n s v)) (fun w' => K undef w') w
  | .mapUpdate t m k v => opU P (Instr.mapUpdate t (ev n s m) (ev n s k) (ev n s v)) (fun w' => K undef w') w
  | .mapEntry t m k => opW P (Instr.mapEntry t (ev n s m) (ev n s k)) K w
  | .entryStore t m k v => opU P (Instr.entryStore t (ev n s m) (ev n s k) (ev n s v)) (fun w' => K undef w') w
  | .lookup t x i b => opW P (Instr.lookup t (ev n s x) (ev n s i) b) K w
  | .range t x => opW P (Instr.range t (ev n s x)) K w
  | .next x b => opW P (Instr.next (ev n s x) b ty) K w
  | .entry x => opW P (Instr.entry (ev n s x)) K w
  | .convert a b x => opW P (convert a b (ev n s x)) K w
  | .panic x => pnW (ev n s x) PK w
  | .call c => match c.callee with
    | .value (.func f) => bif okFn P f then callW P f (evs n s c.args.toList) K PK w else False
    | .value x => callV P (ev n s x) (evs n s c.args.toList) K PK w
    | .builtin .append => opW P (Builtin.append_ c.argTypes ty (evs n s c.args.toList).toArray) K w
    | .builtin .copy => opW P (Builtin.copy_ c.argTypes ty (evs n s c.args.toList).toArray) K w
    | .builtin .clear => opW P (Builtin.clear_ c.argTypes ty (evs n s c.args.toList).toArray) K w
    | .builtin .delete => opW P (Builtin.delete_ c.argTypes ty (evs n s c.args.toList).toArray) K w
    | .builtin .len => opW P (Builtin.len_ c.argTypes ty (evs n s c.args.toList).toArray) K w
    | _ => False
  | _ => False

/-- One operation, no guard. -/
def stepW (P : Program) (ro : Option Nat) (n : Nat) (o : Oper) (K : S → D → World → Prop) (PK : List PanicEntry → S → D → World → Prop) (s : S) (d : D) (w : World) : Prop :=
  bif isPu P o.op then puOp P n s o.op (fun v => K (wrO s o.dst v) d w)
  else match o.op with
    | .defer c => match ro, c.callee with
      | none, .value (.func f) => K (wrO s o.dst undef) ({ target := .fn (.func f) #[], args := (evs n s c.args.toList).toArray } :: d) w
      | _, _ => False
    | _ => efOp P n s o.op o.type (fun v w' => K (wrO s o.dst v) d w') (fun c w' => PK c s d w') w

def gslot (ops : Array Oper) (j : Nat) : Option Nat := (ops[j]?).bind (·.dst)
def undV (v : Value) (Z : Prop) : Prop := match v with
  | .tuple _ => Z
  | _ => False
/-- X where the guard lets the operation be carried out, K where it is passed by. A guard that was itself passed by lets nothing be carried out. -/
def grdW (P : Program) (ro : Option Nat) (n : Nat) (ops : Array Oper) (o : Oper) (X K : S → D → World → Prop) (s : S) (d : D) (w : World) : Prop := match o.guard with
  | none => X s d w
  | some (j, want) => match gslot ops j with
    | none => False
    | some g => match (ops[j]?).bind (·.guard) with
      | none => condV (rd n s g)
        (bif want then X (wr s g (.bool true)) d w else K (wrO (wr s g (.bool true)) o.dst undef) d w)
        (bif want then K (wrO (wr s g (.bool false)) o.dst undef) d w else X (wr s g (.bool false)) d w)
      | some (j2, want2) => match gslot ops j2 with
        | none => False
        | some g2 => match rd n s g2 with
          | .bool b => bif (bif b then want2 else !want2) then condV (rd n s g)
              (bif want then X (wr s g (.bool true)) d w else K (wrO (wr s g (.bool true)) o.dst undef) d w)
              (bif want then K (wrO (wr s g (.bool false)) o.dst undef) d w else X (wr s g (.bool false)) d w)
            else undV (rd n s g) (K (wrO s o.dst undef) d w)
          | .tuple _ => undV (rd n s g) (K (wrO s o.dst undef) d w)
          | _ => False
def opsW (P : Program) (ro : Option Nat) (n : Nat) (ops : Array Oper) (K : S → D → World → Prop) (PK : List PanicEntry → S → D → World → Prop) : List Oper → S → D → World → Prop
  | [], s, d, w => K s d w
  | o :: l, s, d, w => grdW P ro n ops o (stepW P ro n o (opsW P ro n ops K PK l) PK) (opsW P ro n ops K PK l) s d w

/-! ### A region that draws its order -/
def isHeld (P : Program) (op : Op) : Bool := isPu P op || isLd op
def heldOp (P : Program) (n : Nat) (s : S) (H : World → Prop) (e : Bool) (w : World) (op : Op) (K : Value → Prop) : Prop := match op with
  | .load t a => match ldSize P t with
    | some z => bif e then ldW z (ev n s a) w K else ldS z (ev n s a) H K
    | none => False
  | _ => puOp P n s op K
def leftLd (ops : Array Oper) (listed : Array Bool) : Bool := (List.range ops.size).any fun j => !listed.getD j true && match ops[j]? with
  | some o => isLd o.op
  | none => false
def takeB (P : Program) (ops : Array Oper) (listed : Array Bool) (i : Nat) : Bool := match ops[i]? with
  | some o => isHeld P o.op && Region.free .any ops listed i
  | none => false
/-- Is k ahead of j, by at most f edges? -/
def reach (ops : Array Oper) : Nat → Nat → Nat → Bool
  | 0, _, _ => false
  | f + 1, j, k => match ops[j]? with
    | none => false
    | some o => o.after.toList.any fun e => Region.binds .any e && (Nat.beq e.on k || reach ops f e.on k)
/-- May a load come up behind operation j? -/
def needH (ops : Array Oper) (j : Nat) : Bool := (List.range ops.size).any fun k => (match ops[k]? with
  | some o => isLd o.op
  | none => false) && !(reach ops 3 j k)
def heldJ (P : Program) (ops : Array Oper) (j : Nat) : Bool := match ops[j]? with
  | some o => isHeld P o.op
  | none => true
def isSt (op : Op) : Bool := match op with
  | .store _ _ _ => true
  | _ => false
/-- Has the region a store that a load may come up behind? -/
def fancy (ops : Array Oper) : Bool := (List.range ops.size).any fun j => (match ops[j]? with
  | some o => isSt o.op
  | none => false) && needH ops j
/-- Is operation k ahead of all that may change something? Then it reads the world as it is at first. -/
def early (P : Program) (ops : Array Oper) (k : Nat) : Bool := fancy ops && (List.range ops.size).all fun j => heldJ P ops j || reach ops 3 j k
def allP (f : Nat → Prop) : List Nat → Prop
  | [] => True
  | [i] => f i
  | i :: j :: l => f i ∧ allP f (j :: l)
def drawW (P : Program) (ro : Option Nat) (n : Nat) (ops : Array Oper) (H : World → Prop) (K : S → D → World → Prop) (PK : List PanicEntry → S → D → World → Prop) :
    Nat → Array Bool → S → D → World → Prop
  | 0, _, _, _, _ => False
  | f + 1, listed, s, d, w => match Region.ready .any ops listed with
    | [] => K s d w
    | r :: rs => match (r :: rs).find? (takeB P ops listed) with
      | some i => match ops[i]? with
        | none => False
        | some o => grdW P ro n ops o (fun s d w => heldOp P n s H (early P ops i) w o.op (fun v => drawW P ro n ops H K PK f (listed.setIfInBounds i true) (wrO s o.dst v) d w))
            (drawW P ro n ops H K PK f (listed.setIfInBounds i true)) s d w
      | none => allP (fun i => match ops[i]? with
        | none => False
        | some o => grdW P ro n ops o
            (bif isHeld P o.op then (fun s d w => heldOp P n s H (early P ops i) w o.op (fun v => drawW P ro n ops H K PK f (listed.setIfInBounds i true) (wrO s o.dst v) d w))
             else stepW P ro n o (fun s d w => bif needH ops i then (H w ∧ drawW P ro n ops H K PK f (listed.setIfInBounds i true) s d w) else drawW P ro n ops H K PK f (listed.setIfInBounds i true) s d w)
              (fun c s d w => ∀ s', PK c s' d w))
            (drawW P ro n ops H K PK f (listed.setIfInBounds i true)) s d w) (r :: rs)

/-! ### Code -/
abbrev K4 := Exit → S → D → World → Prop
def asg : Code → List Nat
  | .region _ ops _ => ops.toList.flatMap fun o => o.dst.toList ++ (match o.guard with | some (j, _) => (gslot ops j).toList | none => [])
  | .seq a b => asg a ++ asg b
  | .cond _ a b => asg a ++ asg b
  | .block _ c => asg c
  | .loop c => asg c
  | .scope c => asg c
  | _ => []
/-- Does it lay deferred calls? -/
def lays : Code → Bool
  | .region _ ops _ => ops.toList.any fun o => match o.op with | .defer _ => true | _ => false
  | .seq a b => lays a || lays b
  | .cond _ a b => lays a || lays b
  | .block _ c => lays c
  | .loop c => lays c
  | .scope c => lays c
  | .rangeFunc _ _ _ _ => true
  | _ => false
def picks (s : S) : List Nat → List Value
  | [] => []
  | i :: l => s i :: picks s l
def live (s : S) : List Nat → List (Nat × Value)
  | [] => []
  | i :: l => (i, s i) :: live s l
def ovr : List Nat → List Value → S → S
  | i :: c, l, u => fun j => bif Nat.beq j i then l.headD undef else ovr c l.tail u j
  | [], _, u => u
def LoopW (init : List Value) (B : List Value → (List Value → World → Prop) → World → Prop) (w : World) : Prop :=
  ∃ (I : List Value → World → Prop) (μ : List Value → World → Nat), I init w ∧ ∀ l w, I l w → B l (fun l' w' => I l' w' ∧ μ l' w' < μ l w) w
def LoopD (init : List Value) (B : List Value → D → (List Value → D → World → Prop) → World → Prop) (d : D) (w : World) : Prop :=
  ∃ (I : List Value → D → World → Prop) (μ : List Value → D → World → Nat), I init d w ∧ ∀ l d w, I l d w → B l d (fun l' d' w' => I l' d' w' ∧ μ l' d' w' < μ l d w) w
def pend (KN KR : D → World → Prop) (KE : List (Nat × (D → World → Prop))) (j : Option Code) (d : D) (w : World) : Prop := match j with
  | none => KN d w
  | some .ret => KR d w
  | some (.exit id) => match KE.find? (fun p => p.1 == id) with
    | some p => p.2 d w
    | none => False
  | _ => False
/-- A range over a function: the record lies at l, its mark (at an outermost one) is laid; the function is called with yield; then what is pending. -/
def RangeW (P : Program) (ro : Option Nat) (n : Nat) (lv : List (Nat × Value)) (ps : Array Tmp) (assign body : Code) (g : Value) (KN KR : D → World → Prop) (KE : List (Nat × (D → World → Prop)))
    (PK : List PanicEntry → D → World → Prop) (d : D) (w : World) : Prop :=
  ∀ (fn : FuncId) (tmps : Array Value), tmps.size = n → (∀ p ∈ lv, p.1 < n → tmps[p.1]? = some p.2) →
    ∃ (r0 : Nat) (mark : D) (w0 : World), (match ro with
      | none => r0 = w.heap.size ∧ mark = [{ target := .collected w.heap.size, args := #[] }] ∧ w0 = w.alloc (.deferred (some []))
      | some l0 => ∃ rl : Loop, w.heap[l0]? = some (.loop rl) ∧ r0 = rl.defers ∧ mark = [] ∧ w0 = w) ∧
    callF P g [.func (.yield w0.heap.size) #[] #[]]
      (fun _ w3 => ∃ r : Loop, w3.heap[w0.heap.size]? = some (.loop r) ∧ r.state ≠ .busy ∧ pend KN KR KE r.pending (mark ++ d) (w3.putObj w0.heap.size (.loop { r with state := .exhausted })))
      (fun c w3 => PK c (mark ++ d) w3)
      (w0.alloc (.loop { state := .ready, pending := none, fn, tmps, params := ps, assign, body, defers := r0 }))
def exits : Code → List Nat
  | .exit id => [id]
  | .seq a b => exits a ++ exits b
  | .cond _ a b => exits a ++ exits b
  | .block id c => (exits c).filter (fun i => !(Nat.beq i id))
  | .loop c => exits c
  | .scope c => exits c
  | .rangeFunc _ _ _ c => exits c
  | _ => []
def nub : List Nat → List Nat
  | [] => []
  | i :: l => bif memb i l then nub l else i :: nub l
/-- What is told of a function's code: for the block of each loop, the slots that its rounds hand on; for that of each range over a function, the slots that its body reads. -/
structure Note where
  car : List (Nat × List Nat)
  lv : List (Nat × List Nat)
def look (i : Nat) : List (Nat × List Nat) → List Nat
  | [] => []
  | (j, l) :: r => bif Nat.beq i j then l else look i r

def vc (P : Program) (A : Note) (ro : Option Nat) (n : Nat) : Nat → Nat → Code → K4 → S → D → World → Prop
  | 0, _, _, _, _, _, _ => False
  | f + 1, bid, c, K, s, d, w => match c with
    | .skip => K .normal s d w
    | .label _ => K .normal s d w
    | .ret => K .ret s d w
    | .exit id => K (.exit id) s d w
    | .goto l => K (.goto l) s d w
    | .seq a b => vc P A ro n f bid a (fun e s d w => match e with
      | .normal => vc P A ro n f bid b K s d w
      | .exit id => K (.exit id) s d w
      | .goto l => K (.goto l) s d w
      | .ret => K .ret s d w
      | .panic c => K (.panic c) s d w
      | .outgrown => False) s d w
    | .cond x a b => condV (ev n s x) (vc P A ro n f bid a K s d w) (vc P A ro n f bid b K s d w)
    | .block id a => vc P A ro n f id a (fun e s d w => match e with
      | .normal => K .normal s d w
      | .exit i => bif Nat.beq i id then K .normal s d w else K (.exit i) s d w
      | .goto l => K (.goto l) s d w
      | .ret => K .ret s d w
      | .panic c => K (.panic c) s d w
      | .outgrown => False) s d w
    | .scope a => vc P A ro n f bid a (fun e s d w => match e with
      | .normal => K .normal s d w
      | .exit i => K (.exit i) s d w
      | .goto l => match findLabel a l with
        | some rest => vc P A ro n f bid rest (fun e s d w => match e with
          | .normal => K .normal s d w
          | .exit i => K (.exit i) s d w
          | .goto _ => False
          | .ret => K .ret s d w
          | .panic c => K (.panic c) s d w
          | .outgrown => False) s d w
        | none => False
      | .ret => K .ret s d w
      | .panic c => K (.panic c) s d w
      | .outgrown => False) s d w
    | .region _ ops draw => bif draw then
        (bif !(Region.noSelect ops) then False else bif leftLd ops (Array.replicate ops.size false) then
          ∃ H : World → Prop, H w.drew ∧ drawW P ro n ops H (fun s d w => K .normal s d w) (fun c s d w => K (.panic c) s d w) (ops.size + 1) (Array.replicate ops.size false) s d w.drew
        else drawW P ro n ops (fun _ => True) (fun s d w => K .normal s d w) (fun c s d w => K (.panic c) s d w) (ops.size + 1) (Array.replicate ops.size false) s d w.drew)
      else opsW P ro n ops (fun s d w => K .normal s d w) (fun c s d w => K (.panic c) s d w) ops.toList s d w
    | .loop a => bif lays a then
        LoopD (picks s (look bid A.car)) (fun l d N w => ∀ j : S, vc P A ro n f bid a (fun e s' d' w' => match e with
          | .normal => N (picks s' (look bid A.car)) d' w'
          | .exit i => K (.exit i) s' d' w'
          | .goto l => K (.goto l) s' d' w'
          | .ret => K .ret s' d' w'
          | .panic c => K (.panic c) s' d' w'
          | .outgrown => False) (mix (asg a) s (ovr (look bid A.car) l j)) d w) d w
      else
        LoopW (picks s (look bid A.car)) (fun l N w => ∀ j : S, vc P A ro n f bid a (fun e s' d' w' => match e with
          | .normal => N (picks s' (look bid A.car)) w'
          | .exit i => K (.exit i) s' d' w'
          | .goto l => K (.goto l) s' d' w'
          | .ret => K .ret s' d' w'
          | .panic c => K (.panic c) s' d' w'
          | .outgrown => False) (mix (asg a) s (ovr (look bid A.car) l j)) d w) w
    | .rangeFunc g ps assign body => RangeW P ro n (live s (look bid A.lv)) ps assign body (ev n s g) (fun d w => K .normal s d w) (fun d w => K .ret s d w)
        ((nub (exits body)).map fun id => (id, fun d w => K (.exit id) s d w)) (fun c d w => K (.panic c) s d w) d w
    | .refuse _ => False

/-! ### A function -/
def LvW (P : Program) : D → FrameMode → World → (FrameMode → World → Prop) → Prop
  | [], u, w, E => E u w
  | d :: ds, u, w, E => u ≠ .run ∧
      ((∃ r, d.target = .collected r ∧ w.heap[r]? = some (.deferred (some [])) ∧ LvW P ds u (w.putObj r (.deferred none)) E) ∨
       (∃ f, d.target = .fn (.func f) #[] ∧ okFn P f = true ∧ CallsDIn (FW none) 0 P f d.args u w fun
          | .returned _, u', w' => LvW P ds (settle u') w' E
          | .panicked chain, u', w' => LvW P ds (raised u' chain) w' E
          | .outgrown, _, _ => False))
def resW (P : Program) (n : Nat) (s : S) (w : World) : List ResultVar → (List Value → Prop) → Prop
  | [], K => K []
  | .tmp t :: l, K => resW P n s w l (fun vs => K (rd n s t :: vs))
  | .cell a t :: l, K => match ldSize P t with
    | some z => ldW z (rd n s a) w (fun v => resW P n s w l (fun vs => K (v :: vs)))
    | none => False
def oneV (vs : List Value) : Value := match vs with
  | [v] => v
  | vs => .tuple vs.toArray
def endV (X : World → Prop) (R : Ending → World → Prop) (u : FrameMode) (w : World) : Prop := match u with
  | .returning => X w
  | .panicking ch => R (.panicked ch) w
  | .run => False
def endU (P : Program) (n : Nat) (s : S) (rs : List ResultVar) (R : Ending → World → Prop) : FrameMode → World → Prop :=
  endV (fun w => resW P n s w rs (fun vs => R (.returned (oneV vs)) w)) R
def endK (P : Program) (n : Nat) (rs : List ResultVar) (R : Ending → World → Prop) : K4 := fun e s d w => match e with
  | .normal => LvW P d .returning w (endU P n s rs R)
  | .ret => LvW P d .returning w (endU P n s rs R)
  | .panic c => LvW P d (.panicking c) w (endU P n s rs R)
  | _ => False
def fnW (P : Program) (A : Note) (fuel : Nat) (fn : Func) (args : List Value) (R : Ending → World → Prop) (w : World) : Prop := match fn.body with
  | none => False
  | some c => bif Nat.ble args.length fn.ntmps then vc P A none fn.ntmps fuel 0 c (endK P fn.ntmps fn.results.toList R) (ini args) [] w else False

/-! ### A round -/
def rEnd (l : Nat) (j : Option Code) (R : Value → World → Prop) (w : World) : Prop :=
  ∃ r : Loop, w.heap[l]? = some (.loop r) ∧ R (.bool j.isNone) (w.putObj l (.loop { r with state := if j.isNone then .ready else .done, pending := j }))
def rBeg (l : Nat) (X : World → Prop) (w : World) : Prop :=
  ∃ r : Loop, w.heap[l]? = some (.loop r) ∧ r.state = .ready ∧ X (w.putObj l (.loop { r with state := .busy }))
def rndW (P : Program) (A : Note) (n fuel l : Nat) (assign body : Code) (s : S) (R : Value → World → Prop) (w : World) : Prop :=
  vc P A (some l) n fuel 0 assign (fun e s d w => match e with
    | .normal => rBeg l (fun w => vc P A (some l) n fuel 0 body (fun e _ _ w => match e with
        | .normal => rEnd l none R w
        | .ret => rEnd l (some .ret) R w
        | .exit i => rEnd l (some (.exit i)) R w
        | .goto i => rEnd l (some (.goto i)) R w
        | _ => False) s d w) w
    | _ => False) s [] w
def pset : List Tmp → List Value → S → S
  | p :: ps, v :: vs, s => pset ps vs (wr s p v)
  | _, _, s => s
def ovrP : List (Nat × Value) → S → S
  | (i, v) :: l, u => fun j => bif Nat.beq j i then v else ovrP l u j
  | [], u => u
/-- The k-th of some values. -/
def gv : List Value → Nat → Value
  | l, 0 => l.headD undef
  | l, k + 1 => gv l.tail k
/-- A piece of code, by the way to it. -/
def sub : List Nat → Code → Code
  | [], c => c
  | 0 :: p, .seq a _ => sub p a
  | _ :: p, .seq _ b => sub p b
  | 0 :: p, .cond _ a _ => sub p a
  | _ :: p, .cond _ _ b => sub p b
  | _ :: p, .block _ c => sub p c
  | _ :: p, .loop c => sub p c
  | _ :: p, .scope c => sub p c
  | 0 :: p, .rangeFunc _ _ a _ => sub p a
  | _ :: p, .rangeFunc _ _ _ b => sub p b
  | _, c => c
def rgPs : Code → Array Tmp
  | .rangeFunc _ ps _ _ => ps
  | _ => #[]
def bodyOf (f : Func) : Code := f.body.getD .skip
/-- The cells of a type's zero; the zero. -/
def zo (P : Program) (t : TypeId) : Option Value := (P.info? t).bind (·.zero)
def zc (P : Program) (t : TypeId) : Array Value := ((zo P t).getD undef).cells
def bs (l : List Nat) : ByteArray := ⟨(l.map UInt8.ofNat).toArray⟩
end Go.Proofs.YtkkkcafkepnecaaGreat.Vc
