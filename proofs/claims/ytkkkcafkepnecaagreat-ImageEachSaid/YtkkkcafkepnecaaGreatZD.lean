/- Programs that are handed in; the law ProgramAt. -/
import Derived.Test.YtkkkcafkepnecaaGreatZC
import Derived.Test.YtkkkcafkepnecaaGreatZB
import Derived.RecoverIn
import Derived.Test.YtkkkcafkepnecaaGreatFB

set_option linter.unusedVariables false
set_option linter.unusedSimpArgs false
namespace Go.Proofs.YtkkkcafkepnecaaGreat
open Go Go.RowKit Vc
attribute [local irreducible] binV Op.unary convert nlW faW ldS ldW ixS ixA ixV ixT exW lnS lnT pu stW alW opW opU bsW mkW

section
variable {B w : World} {H X : Hp} {K : Value → World → Prop} {PK : List PanicEntry → World → Prop} {KK : Value → Prop} {v : Value} {p : Pr}
theorem ins_of {cs : List Value} (h : Fit PG H T.t_api_Ins cs) : ∃ i : Ins, cs = i.cells ∧ 0 ≤ i.imm ∧ i.imm < 4294967296 := by
  have hl : cs.length = 5 := h.len (by kernel_rfl) (by kernel_rfl)
  match cs, hl with
  | [x, y, z, u, t], _ =>
    obtain ⟨a, ha, _⟩ := (h.field (i := 0) (T := T.t_api_Op) (off := 0) (n := 1) (by kernel_rfl)).of_int und_op
    obtain ⟨b, hb, _⟩ := (h.field (i := 1) (T := T.t_int) (off := 1) (n := 1) (by kernel_rfl)).of_int und_int
    obtain ⟨c, hc, _⟩ := (h.field (i := 2) (T := T.t_int) (off := 2) (n := 1) (by kernel_rfl)).of_int und_int
    obtain ⟨d, hd, _⟩ := (h.field (i := 3) (T := T.t_int) (off := 3) (n := 1) (by kernel_rfl)).of_int und_int
    obtain ⟨e, he, hw⟩ := (h.field (i := 4) (T := T.t_uint32) (off := 4) (n := 1) (by kernel_rfl)).of_int und_u32
    refine ⟨⟨a, b, c, d, e⟩, ?_, wf_u32 hw⟩
    have e1 : [x] = [vI a] := ha
    have e2 : [y] = [vI b] := hb
    have e3 : [z] = [vI c] := hc
    have e4 : [u] = [vI d] := hd
    have e5 : [t] = [.int .u32 e] := he
    cases e1; cases e2; cases e3; cases e4; cases e5
    rfl
theorem code_of : ∀ {ys : List (List Value)}, (∀ y ∈ ys, Fit PG H T.t_api_Ins y) → ∃ l : List Ins, ys = icode l ∧ immOk l
  | [], _ => ⟨[], rfl, fun i hi => by cases hi⟩
  | y :: ys, h => by
    obtain ⟨l, rfl, h2⟩ := code_of fun z hz => h z (.tail _ hz)
    obtain ⟨i, rfl, hi⟩ := ins_of (h y (.head _))
    refine ⟨i :: l, rfl, fun x hx => ?_⟩
    rcases List.mem_cons.1 hx with rfl | hx
    · exact hi
    · exact h2 x hx
theorem cells_ins : PG.cellsOf T.t_api_Ins = 5 := by kernel_rfl
theorem cells_func : PG.cellsOf T.t_api_Func = 2 := by kernel_rfl
theorem und_slins : PG.underlying T.t_sl_api_Ins = some (.slice T.t_api_Ins) := by kernel_rfl
theorem und_slfunc : PG.underlying T.t_sl_api_Func = some (.slice T.t_api_Func) := by kernel_rfl
theorem fun_of {cs : List Value} (h : Fit PG H T.t_api_Func cs) : ∃ (f : Fun) (c : Value), cs = [vI f.regs, c] ∧ Sls H c 5 (icode f.code) ∧ immOk f.code := by
  have hl : cs.length = 2 := h.len (by kernel_rfl) (by kernel_rfl)
  match cs, hl with
  | [x, y], _ =>
    obtain ⟨a, ha, _⟩ := (h.field (i := 0) (T := T.t_int) (off := 0) (n := 1) (by kernel_rfl)).of_int und_int
    obtain ⟨c, ys, hc, hs, hf⟩ := (h.field (i := 1) (T := T.t_sl_api_Ins) (off := 1) (n := 1) (by kernel_rfl)).of_slice und_slins
    obtain ⟨l, rfl, hm⟩ := code_of hf
    have e1 : [x] = [vI a] := ha
    have e2 : [y] = [c] := hc
    cases e1; cases e2
    rw [cells_ins] at hs
    exact ⟨⟨a, l⟩, y, rfl, hs, hm⟩
theorem funs_of : ∀ {ys : List (List Value)}, (∀ y ∈ ys, Fit PG H T.t_api_Func y) → ∃ ps : List (Value × Fun), ys = frows ps ∧ ∀ q ∈ ps, Sls H q.1 5 (icode q.2.code) ∧ immOk q.2.code
  | [], _ => ⟨[], rfl, fun q hq => by cases hq⟩
  | y :: ys, h => by
    obtain ⟨ps, rfl, h2⟩ := funs_of fun z hz => h z (.tail _ hz)
    obtain ⟨f, c, rfl, h3, h4⟩ := fun_of (h y (.head _))
    refine ⟨(c, f) :: ps, rfl, fun q hq => ?_⟩
    rcases List.mem_cons.1 hq with rfl | hq
    · exact ⟨h3, h4⟩
    · exact h2 q hq
theorem prog_of' {cs : List Value} (h : Fit PG H T.t_api_Program cs) : ∃ (p : Pr) (v : Value), cs = p.cells v ∧ fsIn H v p.fs := by
  have hl : cs.length = 4 := h.len (by kernel_rfl) (by kernel_rfl)
  match cs, hl with
  | [x, y, z, u], _ =>
    obtain ⟨c, ys, hc, hs, hf⟩ := (h.field (i := 0) (T := T.t_sl_api_Func) (off := 0) (n := 1) (by kernel_rfl)).of_slice und_slfunc
    obtain ⟨ps, rfl, hm⟩ := funs_of hf
    obtain ⟨a, ha, _⟩ := (h.field (i := 1) (T := T.t_int) (off := 1) (n := 1) (by kernel_rfl)).of_int und_int
    obtain ⟨b, hb, _⟩ := (h.field (i := 2) (T := T.t_int) (off := 2) (n := 1) (by kernel_rfl)).of_int und_int
    obtain ⟨d, hd, _⟩ := (h.field (i := 3) (T := T.t_int) (off := 3) (n := 1) (by kernel_rfl)).of_int und_int
    have e1 : [x] = [c] := hc
    have e2 : [y] = [vI a] := ha
    have e3 : [z] = [vI b] := hb
    have e4 : [u] = [vI d] := hd
    cases e1; cases e2; cases e3; cases e4
    rw [cells_func] at hs
    exact ⟨⟨ps.map Prod.snd, a, b, d⟩, x, rfl, ps, rfl, hs, hm⟩
theorem prog_of {v0 : Value} (g : FitV PG H T.t_api_Program v0) : ∃ (p : Pr) (v : Value), v0 = .agg (p.cells v).toArray ∧ fsIn H v p.fs := by
  obtain ⟨cs, rfl, hf⟩ := g.agg (by kernel_rfl)
  obtain ⟨p, v, rfl, h⟩ := prog_of' hf
  exact ⟨p, v, rfl, h⟩
end
end Go.Proofs.YtkkkcafkepnecaaGreat

/-! Programs: which are the same; how much there is. -/
set_option linter.unusedVariables false
set_option linter.unusedSimpArgs false
namespace Go.Proofs.YtkkkcafkepnecaaGreat
open Go Go.RowKit Vc
attribute [local irreducible] binV Op.unary convert nlW faW ldS ldW ixS ixA ixV ixT exW lnS lnT pu stW alW opW opU bsW mkW
deriving instance DecidableEq for Fun
deriving instance DecidableEq for Pr

section
variable {B w : World} {H X : Hp} {K : Value → World → Prop} {PK : List PanicEntry → World → Prop} {KK : Value → Prop} {v v' : Value} {p q : Pr}
theorem icode_at {l : List Ins} {n : Nat} (h : n < l.length) : (icode l)[(n : Int).toNat]? = some l[n].cells := by
  rw [Int.toNat_natCast, List.getElem?_map, List.getElem?_eq_getElem h]; rfl
theorem pr_ne : decide (p = q) = (decide (p.mu = q.mu) && (decide (p.rw = q.rw) && (decide (p.gr = q.gr) && decide (p.fs = q.fs)))) := by
  cases p; cases q
  by_cases h1 : ‹Int› = ‹Int› <;> simp [Bool.decide_and]
  all_goals (rw [Bool.eq_iff_iff]; simp; constructor <;> (intro h; obtain ⟨a, b, c, d⟩ := h; exact ⟨by assumption, by assumption, by assumption, by assumption⟩))
end
end Go.Proofs.YtkkkcafkepnecaaGreat

/-! Programs: copies. -/
set_option linter.unusedVariables false
set_option linter.unusedSimpArgs false
namespace Go.Proofs.YtkkkcafkepnecaaGreat.Vc
open Go Go.RowKit
section
variable {P : Program} {B w : World} {H : Hp} {K : Value → Prop} {KU : World → Prop} {t e : TypeId}
theorem eq_slnil {t e : TypeId} (ht : P.underlying t = some (.slice e)) (a : Option Addr) (n c : Nat) (w : World) : (Op.equal t (.slice a n c) (.slice none 0 0)).run P w = .ok a.isNone w := by
  have : ∀ d, (Op.equalIn (d + 1) t (.slice a n c) (.slice none 0 0)).run P w = .ok a.isNone w := fun d => by cases a <;> simp only [Op.equalIn, Sem.run_bind, run_und ht, Result.andThen, Sem.run_pure, Option.isNone]
  exact this 9999
theorem pu_slnil {t e : TypeId} {c : Bool} {KK : Value → Prop} (ht : P.underlying t = some (.slice e)) {a : Option Addr} {n cc : Nat} (k : KK (vB a.isNone)) : pu P (binV .eql t c (.slice a n cc) (.slice none 0 0)) KK :=
  pu_of (binV_run rfl (fun w => run_eqB (eq_slnil ht a n cc w))) k
end
end Go.Proofs.YtkkkcafkepnecaaGreat.Vc
namespace Go.Proofs.YtkkkcafkepnecaaGreat
open Go Go.RowKit Vc
attribute [local irreducible] binV Op.unary convert nlW faW ldS ldW ixS ixA ixV ixT exW lnS lnT pu stW alW opW opU bsW mkW

section
variable {B w : World} {H X : Hp} {K : Value → World → Prop} {PK : List PanicEntry → World → Prop} {KK : Value → Prop} {v v' : Value} {p q : Pr}
theorem info_func : (PG.info? T.t_api_Func).map (fun i => (i.zero, i.size, i.bytes)) = some (some (.agg #[vI 0, .slice none 0 0]), 2, 32) := by kernel_rfl
theorem info_ins : (PG.info? T.t_api_Ins).map (fun i => (i.zero, i.size, i.bytes)) = some (some (.agg #[vI 0, vI 0, vI 0, vI 0, .int .u32 0]), 5, 40) := by kernel_rfl
/-- A function that is owned. -/
structure CE where
  S : Hp
  c : Value
  f : Fun
def CE.ok (e : CE) : Prop := Vc.Own e.S T.t_api_Ins 5 e.c (icode e.f.code).length (icode e.f.code).flatten
def crow (e : CE) : List Value := [vI e.f.regs, e.c]
def crows (es : List CE) : List (List Value) := es.map crow
def cfoot (es : List CE) : Hp := es.flatMap CE.S
theorem crows_two (es : List CE) : ∀ x ∈ crows es, x.length = 2 := fun x hx => by
  obtain ⟨e, _, rfl⟩ := List.mem_map.1 hx
  rfl
theorem icode_five (l : List Ins) : ∀ x ∈ icode l, x.length = 5 := fun x hx => by
  obtain ⟨e, _, rfl⟩ := List.mem_map.1 hx
  rfl
theorem CE.sls {e : CE} (h : e.ok) : Sls e.S e.c 5 (icode e.f.code) := own_sls (icode_five _) h
/-- A program's functions, all of them owned. -/
def CpP (F : Hp) (v : Value) (fs : List Fun) : Prop := ∃ (Sf : Hp) (es : List CE), es.map CE.f = fs ∧ (∀ e ∈ es, e.ok) ∧ Vc.Own Sf T.t_api_Func 2 v (crows es).length (crows es).flatten ∧ F = Sf ++ cfoot es
theorem CpP.ins {F : Hp} {fs : List Fun} (h : CpP F v fs) (hm : ∀ f ∈ fs, immOk f.code) : fsIn F v fs := by
  obtain ⟨Sf, es, h1, h2, h3, rfl⟩ := h
  refine ⟨es.map fun e => (e.c, e.f), ?_, ?_, ?_⟩
  · rw [List.map_map, ← h1]; rfl
  · have : frows (es.map fun e => (e.c, e.f)) = crows es := by
      unfold frows crows
      rw [List.map_map]; rfl
    rw [this]
    exact (own_sls (crows_two es) h3).mono fun x hx => List.mem_append_left _ hx
  · intro q hq
    obtain ⟨e, he, rfl⟩ := List.mem_map.1 hq
    exact ⟨(CE.sls (h2 e he)).mono fun x hx => List.mem_append_right _ (List.mem_flatMap.2 ⟨e, he, hx⟩), hm _ (by rw [← h1]; exact List.mem_map_of_mem he)⟩
end
end Go.Proofs.YtkkkcafkepnecaaGreat

/-! What is given up with is caught: deferred functions that recover. -/
set_option linter.unusedVariables false
set_option linter.unusedSimpArgs false
namespace Go.Proofs.YtkkkcafkepnecaaGreat.Vc
open Go Go.RowKit
section
variable {P : Program} {B w : World}
/-- What a deferred function that recovers meets: the frame's mode, what recover tells, the mode behind it. -/
def Meets (u : FrameMode) (x : Value) (u' : FrameMode) : Prop :=
  (u = .returning ∧ x = .nilIface ∧ u' = .returning) ∨ ∃ v older, u = .panicking ({ v, recovered := false } :: older) ∧ x = v ∧ u' = .panicking ({ v, recovered := true } :: older)
def restK (E : World → Prop) : K4 := fun e _ d w => match e with
  | .normal => d = [] ∧ E w
  | _ => False
theorem caught_gen (hm : P.follows .mixedOrders = true) {A : Note} {f : FuncId} {fn : Func} {o1 o2 : Oper} {id a b fuel : Nat} {rest : Code} {args : List Value} {x : Value} {u u' : FrameMode} {R : Ending → FrameMode → World → Prop} {E : World → Prop}
    (hf : P.funcs[f]? = some fn) (hb : fn.body = some (.seq (.region id #[o1, o2] false) rest))
    (h1 : o1.dst = some a ∧ o1.guard = none ∧ o1.op = .call { callee := .builtin .recover, args := #[], argTypes := #[] }) (h2 : o2.dst = some b ∧ o2.guard = none ∧ o2.op = .assign (.tmp a))
    (hr : fn.results = #[]) (hn : args.length ≤ fn.ntmps) (ha : a < fn.ntmps) (hu : Meets u x u')
    (h : vc P A none fn.ntmps fuel 0 rest (restK E) (wr (wr (ini args) a x) b x) [] w)
    (hE : ∀ w', E w' → R (.returned (.tuple #[])) u' w') : CallsDIn (FW none) 0 P f args.toArray u w R := by
  refine callsDIn_of_wpSIn hf hb trivial fun c₀ cs hmode => ?_
  refine wpSIn_seq (wpSIn_region ?_)
  obtain ⟨h1a, h1b, h1c⟩ := h1
  obtain ⟨h2a, h2b, h2c⟩ := h2
  have hrec : ∃ c₁ : Frame, c₁ = { c₀ with mode := u' } ∧ ((∃ r, recoverD (c₀ :: cs) = some (r, c₁ :: cs) ∧ x = r) ∨ (recoverD (c₀ :: cs) = none ∧ x = .nilIface ∧ c₁ = c₀)) := by
    refine ⟨_, rfl, ?_⟩
    rcases hu with ⟨rfl, rfl, rfl⟩ | ⟨v, older, rfl, rfl, rfl⟩
    · refine .inr ⟨by simp [recoverD, hmode], rfl, ?_⟩
      cases c₀; simp only at hmode; subst hmode; rfl
    · exact .inl ⟨_, by simp [recoverD, hmode], rfl⟩
  have ht : (args.toArray ++ Array.replicate (fn.ntmps - args.toArray.size) undef) = rep fn.ntmps (ini args) := rep_ini (args := args.toArray) (by simpa using hn)
  have hgo : ∀ cs' : List Frame, (∃ c₁ : Frame, c₁ = { c₀ with mode := u' } ∧ cs' = c₁ :: cs) → (rest.wpSIn (FW none) 0 P (bodyPostS P fn c₀ cs R)) (act fn.ntmps (wr (wr (ini args) a x) b x) []) cs' w := by
    rintro _ ⟨c₁, rfl, rfl⟩
    refine wpSIn_of_wpIn rfl (wpIn_mono (vc_sound hm A fuel 0 rest _ _ _ w h) ?_)
    intro e a' w' he
    cases e with
    | normal =>
      obtain ⟨s, d, rfl, _, _, rfl, hk⟩ := he
      refine ⟨rfl, u', rfl, .tuple #[], ?_, hE _ hk⟩
      simp [results, hr, Sem.run_bind, Sem.run_pure, Result.andThen]
    | ret => obtain ⟨s, d, rfl, _, _, hk⟩ := he; exact hk.elim
    | panic ch => obtain ⟨s, d, rfl, hk⟩ := he; exact hk.elim
    | exit i => obtain ⟨s, d, rfl, _, _, hk⟩ := he; exact hk.elim
    | goto i => obtain ⟨s, d, rfl, _, _, hk⟩ := he; exact hk.elim
    | outgrown => exact he.elim
  have hl : List.range (#[o1, o2] : Array Oper).size = [0, 1] := rfl
  have w1 : ∀ t, Region.wanted o1 t = true := fun t => by simp [Region.wanted, h1b]
  have w2 : ∀ t, Region.wanted o2 t = true := fun t => by simp [Region.wanted, h2b]
  have r1 : ∀ ev w, (execOp ev o1).run P w = .ok .recover w := fun ev w => by
    obtain ⟨d1, op1, t1, p1, af1, g1⟩ := o1
    simp only at h1c
    subst h1c
    simp [execOp, resolve, invoke, builtin, Sem.run_bind, Sem.run_pure, Result.andThen]
  have r2 : ∀ ev w, (execOp ev o2).run P w = .ok (.value (ev (.tmp a))) w := fun ev w => by
    obtain ⟨d1, op1, t1, p1, af1, g1⟩ := o2
    simp only at h2c
    subst h2c
    simp [execOp, go_sem]
  have fin : ∀ cs', (∃ c₁ : Frame, c₁ = { c₀ with mode := u' } ∧ cs' = c₁ :: cs) → wpOpsSIn (FW none) 0 P #[o1, o2] (Exit.thenS (rest.wpSIn (FW none) 0 P (bodyPostS P fn c₀ cs R)) (bodyPostS P fn c₀ cs R)) [1] (act fn.ntmps (wr (ini args) a x) []) cs' w := fun cs' hcs => by
    simp only [wpOpsSIn, show (#[o1, o2] : Array Oper)[1]? = some o2 from rfl, w2, if_true, r2]
    refine ⟨fun _ _ => trivial, ?_⟩
    rw [h2a, put_act, ev_act]
    have e1 : ev fn.ntmps (wr (ini args) a x) (.tmp a) = x := by simp [ev, rd, blt_of ha, wr_same]
    rw [e1]
    exact hgo cs' hcs
  rw [hl, ht]
  generalize hrs : [1] = rs at *
  simp only [wpOpsSIn, show (#[o1, o2] : Array Oper)[0]? = some o1 from rfl, w1, if_true, r1]
  refine ⟨fun _ _ => trivial, ?_⟩
  have eput : ∀ y, Act.put { tmps := rep fn.ntmps (ini args), defers := [] } o1.dst y = act fn.ntmps (wr (ini args) a y) [] := fun y => by
    rw [h1a]; exact put_act fn.ntmps (ini args) [] (some a) y
  obtain ⟨c₁, hc1, ⟨r, hr1, rfl⟩ | ⟨hr1, rfl, rfl⟩⟩ := hrec
  · rw [hr1]
    simp only [eput]
    exact fin _ ⟨_, hc1, rfl⟩
  · rw [hr1]
    simp only [eput]
    exact fin _ ⟨_, hc1, rfl⟩
theorem as_iface {t u : TypeId} {v : Value} {d : TypeDesc} {K : Value → Prop} (hd : P.underlying t = some d) (hn : ∀ m, d ≠ .interface m) (k : K (.tuple #[v, .bool true])) : pu P (Instr.typeAssert (.iface t v) u t true) K := by
  refine ⟨_, fun w => ?_, k⟩
  unfold Instr.typeAssert
  simp only [Sem.run_bind, run_und hd, Result.andThen]
  cases d <;> first | (exact absurd rfl (hn _)) | simp [Sem.run_pure]
theorem if_nil {t : TypeId} {K : Value → Prop} {ms} (ht : P.underlying t = some (.interface ms)) (k : K (.bool false)) : pu P (binV .neq t true .nilIface .nilIface) K := by
  refine ⟨_, fun w => ?_, k⟩
  have : ∀ d, (Op.equalIn (d + 1) t .nilIface .nilIface).run P w = .ok true w := fun d => by simp only [Op.equalIn, Sem.run_bind, run_und ht, Result.andThen, Sem.run_pure]
  have e : (Op.equal t .nilIface .nilIface).run P w = .ok true w := this 9999
  unfold binV
  simp [eqGuard, binOp, Sem.run_bind, Result.andThen, Sem.run_pure, e]
theorem if_val {t u : TypeId} {v : Value} {K : Value → Prop} {ms} (ht : P.underlying t = some (.interface ms)) (k : K (.bool true)) : pu P (binV .neq t true (.iface u v) .nilIface) K := by
  refine ⟨_, fun w => ?_, k⟩
  have : ∀ d, (Op.equalIn (d + 1) t (.iface u v) .nilIface).run P w = .ok false w := fun d => by simp only [Op.equalIn, Sem.run_bind, run_und ht, Result.andThen, Sem.run_pure]
  have e : (Op.equal t (.iface u v) .nilIface).run P w = .ok false w := this 9999
  unfold binV
  simp [eqGuard, binOp, Sem.run_bind, Result.andThen, Sem.run_pure, e]
end
end Go.Proofs.YtkkkcafkepnecaaGreat.Vc
namespace Go.Proofs.YtkkkcafkepnecaaGreat
open Go Go.RowKit Vc
def restOf (f : Func) : Code := sub [1] (bodyOf f)
theorem image_caught_eq (E : World → Prop) (x0 x1 x : Value) (w : World) : vc PG ⟨[], []⟩ none 23 400 0 (restOf Tryz.f110) (restK E) (wr (wr (ini [x0, x1]) 7 x) 4 x) [] w =
    (pu PG (binV .neq T.t_interface true x .nilIface) fun t7 => condV t7 (pu PG (Instr.typeAssert x T.t_interface T.t_api_Errno true) fun t10 => exW 0 t10 fun t11 => exW 1 t10 fun t12 => pu PG (Op.unary .not t12) fun t14 => condV t14 (pnW x (fun _ _ => False) w) (callV PG x1 [] (fun _ w => nlW x0 fun t18 => stW 1 t18 t11 (fun w => ([] : D) = [] ∧ E w) w) (fun _ _ => False) w)) (([] : D) = [] ∧ E w)) := by kernel_rfl
theorem instr_caught_eq (E : World → Prop) (x0 x1 x : Value) (w : World) : vc PG ⟨[], []⟩ none 23 400 0 (restOf Tryz.f222) (restK E) (wr (wr (ini [x0, x1]) 7 x) 4 x) [] w =
    (pu PG (binV .neq T.t_interface true x .nilIface) fun t7 => condV t7 (pu PG (Instr.typeAssert x T.t_interface T.t_api_Errno true) fun t10 => exW 0 t10 fun t11 => exW 1 t10 fun t12 => pu PG (Op.unary .not t12) fun t14 => condV t14 (pnW x (fun _ _ => False) w) (callV PG x1 [] (fun _ w => nlW x0 fun t18 => stW 1 t18 t11 (fun w => ([] : D) = [] ∧ E w) w) (fun _ _ => False) w)) (([] : D) = [] ∧ E w)) := by kernel_rfl
abbrev errV (e : Int) : Value := .iface T.t_api_Errno (vI e)
abbrev pan (e : Int) : List PanicEntry := [{ v := errV e, recovered := false }]
abbrev dfr (f : FuncId) (args : List Value) : Deferred := { target := .fn (.func f) #[], args := args.toArray }
def isAny (P : Program) (t : TypeId) : Bool := match P.underlying t with
  | some (.interface _) => true
  | _ => false
theorem und_any : ∃ ms, PG.underlying T.t_interface = some (.interface ms) := by
  have h : isAny PG T.t_interface = true := by kernel_rfl
  unfold isAny at h
  split at h
  · rename_i ms hm; exact ⟨ms, hm⟩
  · cases h
def opAt (f : Func) (i : Nat) : Oper := match sub [0] (bodyOf f) with
  | .region _ ops _ => ops.getD i default
  | _ => default
theorem und_errno : PG.underlying T.t_api_Errno = some (.int .i64) := by kernel_rfl
section
attribute [local irreducible] binV Op.unary convert nlW faW ldS ldW ixS ixA ixV ixT exW lnS lnT pu stW alW opW opU bsW mkW
variable {B w : World} {H A C : Hp} {X : World → Prop} {R : Ending → World → Prop} {b : Nat} {u : Value} {e : Int}
theorem rest_nil {x : Value} {f : Value → Prop} {Y : Prop} (hx : x = .nilIface) (h : Y) : pu PG (binV .neq T.t_interface true x .nilIface) fun t7 => condV t7 (f t7) Y := by
  subst hx
  obtain ⟨ms, hm⟩ := und_any
  exact if_nil hm (cnd_f rfl h)
theorem rest_val {x : Value} {f : Value → Value → Prop} {Y : Prop} (hx : x = errV e) (h : f (vI e) (vB true)) : pu PG (binV .neq T.t_interface true x .nilIface) fun t7 => condV t7 (pu PG (Instr.typeAssert x T.t_interface T.t_api_Errno true) fun t10 => exW 0 t10 fun t11 => exW 1 t10 fun t12 => f t11 t12) Y := by
  subst hx
  obtain ⟨ms, hm⟩ := und_any
  refine if_val hm (cnd_t rfl ?_)
  exact as_iface und_errno (fun m => by simp) (ex20 (ex21 h))
theorem image_lv_ret {cl : Value} (k : X w) : LvW PG (dfr N.image_caught [ptr b, cl] :: []) .returning w (endV X R) := by
  refine ⟨by simp, .inr ⟨N.image_caught, rfl, by kernel_rfl, ?_⟩⟩
  refine caught_gen (A := ⟨[], []⟩) (fn := Tryz.f110) (a := 7) (b := 4) (fuel := 400) (id := 0) (o1 := opAt Tryz.f110 0) (o2 := opAt Tryz.f110 1) (rest := restOf Tryz.f110) (E := fun w' => w' = w) mixed Tryz.func110 (by kernel_rfl) ⟨by kernel_rfl, by kernel_rfl, by kernel_rfl⟩ ⟨by kernel_rfl, by kernel_rfl, by kernel_rfl⟩ (by kernel_rfl) (of_decide_eq_true (by kernel_rfl)) (of_decide_eq_true (by kernel_rfl)) (.inl ⟨rfl, rfl, rfl⟩) ?_ ?_
  · exact (image_caught_eq _ _ _ _ _).mpr (rest_nil rfl ⟨rfl, rfl⟩)
  · rintro w' rfl; exact k
/-- The closure cl clears; then the error is told. -/
theorem image_lv_pan {cl : Value} (hc : ∀ K : Value → World → Prop, (∀ v w', Ow B w' (A ++ (b, cel [u] T.t_api_Errno) :: C) → K v w') → callV PG cl [] K (fun _ _ => False) w) (k : ∀ w', Ow B w' (A ++ (b, cel [vI e] T.t_api_Errno) :: C) → X w') : LvW PG (dfr N.image_caught [ptr b, cl] :: []) (.panicking (pan e)) w (endV X R) := by
  refine ⟨by simp, .inr ⟨N.image_caught, rfl, by kernel_rfl, ?_⟩⟩
  refine caught_gen (A := ⟨[], []⟩) (fn := Tryz.f110) (a := 7) (b := 4) (fuel := 400) (id := 0) (o1 := opAt Tryz.f110 0) (o2 := opAt Tryz.f110 1) (rest := restOf Tryz.f110) (E := fun w' => Ow B w' (A ++ (b, cel [vI e] T.t_api_Errno) :: C)) mixed Tryz.func110 (by kernel_rfl) ⟨by kernel_rfl, by kernel_rfl, by kernel_rfl⟩ ⟨by kernel_rfl, by kernel_rfl, by kernel_rfl⟩ (by kernel_rfl) (of_decide_eq_true (by kernel_rfl)) (of_decide_eq_true (by kernel_rfl)) (.inr ⟨_, _, rfl, rfl, rfl⟩) ?_ ?_
  · refine (image_caught_eq _ _ _ _ _).mpr (rest_val (e := e) rfl ?_)
    refine pu_not (cnd_f rfl ?_)
    refine hc _ (fun v w1 h1 => ?_)
    refine nl_ptr ?_
    refine st1_here h1 rfl rfl (by simp) (fun w2 h2 => ⟨rfl, h2⟩)
  · intro w' h'; exact k _ h'
theorem instr_lv_ret {cl : Value} (k : X w) : LvW PG (dfr N.instr_caught [ptr b, cl] :: []) .returning w (endV X R) := by
  refine ⟨by simp, .inr ⟨N.instr_caught, rfl, by kernel_rfl, ?_⟩⟩
  refine caught_gen (A := ⟨[], []⟩) (fn := Tryz.f222) (a := 7) (b := 4) (fuel := 400) (id := 0) (o1 := opAt Tryz.f222 0) (o2 := opAt Tryz.f222 1) (rest := restOf Tryz.f222) (E := fun w' => w' = w) mixed Tryz.func222 (by kernel_rfl) ⟨by kernel_rfl, by kernel_rfl, by kernel_rfl⟩ ⟨by kernel_rfl, by kernel_rfl, by kernel_rfl⟩ (by kernel_rfl) (of_decide_eq_true (by kernel_rfl)) (of_decide_eq_true (by kernel_rfl)) (.inl ⟨rfl, rfl, rfl⟩) ?_ ?_
  · exact (instr_caught_eq _ _ _ _ _).mpr (rest_nil rfl ⟨rfl, rfl⟩)
  · rintro w' rfl; exact k
theorem instr_lv_pan {cl : Value} (hc : ∀ K : Value → World → Prop, (∀ v w', Ow B w' (A ++ (b, cel [u] T.t_api_Errno) :: C) → K v w') → callV PG cl [] K (fun _ _ => False) w) (k : ∀ w', Ow B w' (A ++ (b, cel [vI e] T.t_api_Errno) :: C) → X w') : LvW PG (dfr N.instr_caught [ptr b, cl] :: []) (.panicking (pan e)) w (endV X R) := by
  refine ⟨by simp, .inr ⟨N.instr_caught, rfl, by kernel_rfl, ?_⟩⟩
  refine caught_gen (A := ⟨[], []⟩) (fn := Tryz.f222) (a := 7) (b := 4) (fuel := 400) (id := 0) (o1 := opAt Tryz.f222 0) (o2 := opAt Tryz.f222 1) (rest := restOf Tryz.f222) (E := fun w' => Ow B w' (A ++ (b, cel [vI e] T.t_api_Errno) :: C)) mixed Tryz.func222 (by kernel_rfl) ⟨by kernel_rfl, by kernel_rfl, by kernel_rfl⟩ ⟨by kernel_rfl, by kernel_rfl, by kernel_rfl⟩ (by kernel_rfl) (of_decide_eq_true (by kernel_rfl)) (of_decide_eq_true (by kernel_rfl)) (.inr ⟨_, _, rfl, rfl, rfl⟩) ?_ ?_
  · refine (instr_caught_eq _ _ _ _ _).mpr (rest_val (e := e) rfl ?_)
    refine pu_not (cnd_f rfl ?_)
    refine hc _ (fun v w1 h1 => ?_)
    refine nl_ptr ?_
    refine st1_here h1 rfl rfl (by simp) (fun w2 h2 => ⟨rfl, h2⟩)
  · intro w' h'; exact k _ h'
end
end Go.Proofs.YtkkkcafkepnecaaGreat

