/- What is given up with is caught: deferred functions that recover. -/
import Derived.Test.YtkkkcafkepnecaaGreatVnF1
import Derived.Test.YtkkkcafkepnecaaGreatVnR
import Derived.RecoverIn
set_option linter.unusedVariables false
set_option linter.unusedSimpArgs false
namespace Go.Proofs.YtkkkcafkepnecaaGreat.Vc
open Go Go.RowKit
section
variable {P : Program} {B w : World}
/-- What a deferred function that recovers meets: the frame's mode, what recover tells, the mode behind it. -/
def Meets (u : FrameMode) (x : Value) (u' : FrameMode) : Prop :=
  (u = .returning ∧ x = .nilIface ∧ u' = .returning) ∨ ∃ v older, u = .panicking ({ v, recovered := false } :: older) ∧ x = v ∧ u' = .panicking ({ v, recovered := true } :: older)
def restK (E : World → Prop) : K4 := fun e _ d w => match e with
  | .normal => d = [] ∧ E w
  | _ => False
theorem caught_gen (hm : P.follows .mixedOrders = true) {A : Note} {f : FuncId} {fn : Func} {o1 o2 : Oper} {id a b fuel : Nat} {rest : Code} {args : List Value} {x : Value} {u u' : FrameMode} {R : Ending → FrameMode → World → Prop} {E : World → Prop}
    (hf : P.funcs[f]? = some fn) (hb : fn.body = some (.seq (.region id #[o1, o2] false) rest))
    (h1 : o1.dst = some a ∧ o1.guard = none ∧ o1.op = .call { callee := .builtin .recover, args := #[], argTypes := #[] }) (h2 : o2.dst = some b ∧ o2.guard = none ∧ o2.op = .assign (.tmp a))
    (hr : fn.results = #[]) (hn : args.length ≤ fn.ntmps) (ha : a < fn.ntmps) (hu : Meets u x u')
    (h : vc P A none fn.ntmps fuel 0 rest (restK E) (wr (wr (ini args) a x) b x) [] w)
    (hE : ∀ w', E w' → R (.returned (.tuple #[])) u' w') : CallsDIn (FW none) 0 P f args.toArray u w R := by
  refine callsDIn_of_wpSIn hf hb trivial fun c₀ cs hmode => ?_
  refine wpSIn_seq (wpSIn_region ?_)
  obtain ⟨h1a, h1b, h1c⟩ := h1
  obtain ⟨h2a, h2b, h2c⟩ := h2
  have hrec : ∃ c₁ : Frame, c₁ = { c₀ with mode := u' } ∧ ((∃ r, recoverD (c₀ :: cs) = some (r, c₁ :: cs) ∧ x = r) ∨ (recoverD (c₀ :: cs) = none ∧ x = .nilIface ∧ c₁ = c₀)) := by
    refine ⟨_, rfl, ?_⟩
    rcases hu with ⟨rfl, rfl, rfl⟩ | ⟨v, older, rfl, rfl, rfl⟩
    · refine .inr ⟨by simp [recoverD, hmode], rfl, ?_⟩
      cases c₀; simp only at hmode; subst hmode; rfl
    · exact .inl ⟨_, by simp [recoverD, hmode], rfl⟩
  have ht : (args.toArray ++ Array.replicate (fn.ntmps - args.toArray.size) undef) = rep fn.ntmps (ini args) := rep_ini (args := args.toArray) (by simpa using hn)
  have hgo : ∀ cs' : List Frame, (∃ c₁ : Frame, c₁ = { c₀ with mode := u' } ∧ cs' = c₁ :: cs) → (rest.wpSIn (FW none) 0 P (bodyPostS P fn c₀ cs R)) (act fn.ntmps (wr (wr (ini args) a x) b x) []) cs' w := by
    rintro _ ⟨c₁, rfl, rfl⟩
    refine wpSIn_of_wpIn rfl (wpIn_mono (vc_sound hm A fuel 0 rest _ _ _ w h) ?_)
    intro e a' w' he
    cases e with
    | normal =>
      obtain ⟨s, d, rfl, _, _, rfl, hk⟩ := he
      refine ⟨rfl, u', rfl, .tuple #[], ?_, hE _ hk⟩
      simp [results, hr, Sem.run_bind, Sem.run_pure, Result.andThen]
    | ret => obtain ⟨s, d, rfl, _, _, hk⟩ := he; exact hk.elim
    | panic ch => obtain ⟨s, d, rfl, hk⟩ := he; exact hk.elim
    | exit i => obtain ⟨s, d, rfl, _, _, hk⟩ := he; exact hk.elim
    | goto i => obtain ⟨s, d, rfl, _, _, hk⟩ := he; exact hk.elim
    | outgrown => exact he.elim
  have hl : List.range (#[o1, o2] : Array Oper).size = [0, 1] := rfl
  have w1 : ∀ t, Region.wanted o1 t = true := fun t => by simp [Region.wanted, h1b]
  have w2 : ∀ t, Region.wanted o2 t = true := fun t => by simp [Region.wanted, h2b]
  have r1 : ∀ ev w, (execOp ev o1).run P w = .ok .recover w := fun ev w => by
    obtain ⟨d1, op1, t1, p1, af1, g1⟩ := o1
    simp only at h1c
    subst h1c
    simp [execOp, resolve, invoke, builtin, Sem.run_bind, Sem.run_pure, Result.andThen]
  have r2 : ∀ ev w, (execOp ev o2).run P w = .ok (.value (ev (.tmp a))) w := fun ev w => by
    obtain ⟨d1, op1, t1, p1, af1, g1⟩ := o2
    simp only at h2c
    subst h2c
    simp [execOp, go_sem]
  have fin : ∀ cs', (∃ c₁ : Frame, c₁ = { c₀ with mode := u' } ∧ cs' = c₁ :: cs) → wpOpsSIn (FW none) 0 P #[o1, o2] (Exit.thenS (rest.wpSIn (FW none) 0 P (bodyPostS P fn c₀ cs R)) (bodyPostS P fn c₀ cs R)) [1] (act fn.ntmps (wr (ini args) a x) []) cs' w := fun cs' hcs => by
    simp only [wpOpsSIn, show (#[o1, o2] : Array Oper)[1]? = some o2 from rfl, w2, if_true, r2]
    refine ⟨fun _ _ => trivial, ?_⟩
    rw [h2a, put_act, ev_act]
    have e1 : ev fn.ntmps (wr (ini args) a x) (.tmp a) = x := by simp [ev, rd, blt_of ha, wr_same]
    rw [e1]
    exact hgo cs' hcs
  rw [hl, ht]
  generalize hrs : [1] = rs at *
  simp only [wpOpsSIn, show (#[o1, o2] : Array Oper)[0]? = some o1 from rfl, w1, if_true, r1]
  refine ⟨fun _ _ => trivial, ?_⟩
  have eput : ∀ y, Act.put { tmps := rep fn.ntmps (ini args), defers := [] } o1.dst y = act fn.ntmps (wr (ini args) a y) [] := fun y => by
    rw [h1a]; exact put_act fn.ntmps (ini args) [] (some a) y
  obtain ⟨c₁, hc1, ⟨r, hr1, rfl⟩ | ⟨hr1, rfl, rfl⟩⟩ := hrec
  · rw [hr1]
    simp only [eput]
    exact fin _ ⟨_, hc1, rfl⟩
  · rw [hr1]
    simp only [eput]
    exact fin _ ⟨_, hc1, rfl⟩
theorem as_iface {t u : TypeId} {v : Value} {d : TypeDesc} {K : Value → Prop} (hd : P.underlying t = some d) (hn : ∀ m, d ≠ .interface m) (k : K (.tuple #[v, .bool true])) : pu P (Instr.typeAssert (.iface t v) u t true) K := by
  refine ⟨_, fun w => ?_, k⟩
  unfold Instr.typeAssert
  simp only [Sem.run_bind, run_und hd, Result.andThen]
  cases d <;> first | (exact absurd rfl (hn _)) | simp [Sem.run_pure]
theorem if_nil {t : TypeId} {K : Value → Prop} {ms} (ht : P.underlying t = some (.interface ms)) (k : K (.bool false)) : pu P (binV .neq t true .nilIface .nilIface) K := by
  refine ⟨_, fun w => ?_, k⟩
  have : ∀ d, (Op.equalIn (d + 1) t .nilIface .nilIface).run P w = .ok true w := fun d => by simp only [Op.equalIn, Sem.run_bind, run_und ht, Result.andThen, Sem.run_pure]
  have e : (Op.equal t .nilIface .nilIface).run P w = .ok true w := this 9999
  unfold binV
  simp [eqGuard, binOp, Sem.run_bind, Result.andThen, Sem.run_pure, e]
theorem if_val {t u : TypeId} {v : Value} {K : Value → Prop} {ms} (ht : P.underlying t = some (.interface ms)) (k : K (.bool true)) : pu P (binV .neq t true (.iface u v) .nilIface) K := by
  refine ⟨_, fun w => ?_, k⟩
  have : ∀ d, (Op.equalIn (d + 1) t (.iface u v) .nilIface).run P w = .ok false w := fun d => by simp only [Op.equalIn, Sem.run_bind, run_und ht, Result.andThen, Sem.run_pure]
  have e : (Op.equal t (.iface u v) .nilIface).run P w = .ok false w := this 9999
  unfold binV
  simp [eqGuard, binOp, Sem.run_bind, Result.andThen, Sem.run_pure, e]
end
end Go.Proofs.YtkkkcafkepnecaaGreat.Vc
namespace Go.Proofs.YtkkkcafkepnecaaGreat
open Go Go.RowKit Vc
def restOf (f : Func) : Code := sub [1] (bodyOf f)
theorem stack_caught_eq (E : World → Prop) (x0 x : Value) (w : World) : vc PG ⟨[], []⟩ none 19 400 0 (restOf Tryz.f79) (restK E) (wr (wr (ini [x0]) 5 x) 2 x) [] w =
    (pu PG (binV .neq T.t_interface true x .nilIface) fun t7 => condV t7 (pu PG (Instr.typeAssert x T.t_interface T.t_api_Errno true) fun t10 => exW 0 t10 fun t11 => exW 1 t10 fun t12 => pu PG (Op.unary .not t12) fun t14 => condV t14 (pnW x (fun _ _ => False) w) (nlW x0 fun t18 => stW 1 t18 t11 (fun w => ([] : D) = [] ∧ E w) w)) (([] : D) = [] ∧ E w)) := by kernel_rfl
theorem fiber_caught_eq (E : World → Prop) (x0 x : Value) (w : World) : vc PG ⟨[], []⟩ none 19 400 0 (restOf Tryz.f101) (restK E) (wr (wr (ini [x0]) 5 x) 2 x) [] w =
    (pu PG (binV .neq T.t_interface true x .nilIface) fun t7 => condV t7 (pu PG (Instr.typeAssert x T.t_interface T.t_api_Errno true) fun t10 => exW 0 t10 fun t11 => exW 1 t10 fun t12 => pu PG (Op.unary .not t12) fun t14 => condV t14 (pnW x (fun _ _ => False) w) (nlW x0 fun t18 => stW 1 t18 t11 (fun w => ([] : D) = [] ∧ E w) w)) (([] : D) = [] ∧ E w)) := by kernel_rfl
theorem image_caught_eq (E : World → Prop) (x0 x1 x : Value) (w : World) : vc PG ⟨[], []⟩ none 23 400 0 (restOf Tryz.f110) (restK E) (wr (wr (ini [x0, x1]) 7 x) 4 x) [] w =
    (pu PG (binV .neq T.t_interface true x .nilIface) fun t7 => condV t7 (pu PG (Instr.typeAssert x T.t_interface T.t_api_Errno true) fun t10 => exW 0 t10 fun t11 => exW 1 t10 fun t12 => pu PG (Op.unary .not t12) fun t14 => condV t14 (pnW x (fun _ _ => False) w) (callV PG x1 [] (fun _ w => nlW x0 fun t18 => stW 1 t18 t11 (fun w => ([] : D) = [] ∧ E w) w) (fun _ _ => False) w)) (([] : D) = [] ∧ E w)) := by kernel_rfl
theorem instr_caught_eq (E : World → Prop) (x0 x1 x : Value) (w : World) : vc PG ⟨[], []⟩ none 23 400 0 (restOf Tryz.f222) (restK E) (wr (wr (ini [x0, x1]) 7 x) 4 x) [] w =
    (pu PG (binV .neq T.t_interface true x .nilIface) fun t7 => condV t7 (pu PG (Instr.typeAssert x T.t_interface T.t_api_Errno true) fun t10 => exW 0 t10 fun t11 => exW 1 t10 fun t12 => pu PG (Op.unary .not t12) fun t14 => condV t14 (pnW x (fun _ _ => False) w) (callV PG x1 [] (fun _ w => nlW x0 fun t18 => stW 1 t18 t11 (fun w => ([] : D) = [] ∧ E w) w) (fun _ _ => False) w)) (([] : D) = [] ∧ E w)) := by kernel_rfl
abbrev errV (e : Int) : Value := .iface T.t_api_Errno (vI e)
abbrev pan (e : Int) : List PanicEntry := [{ v := errV e, recovered := false }]
abbrev dfr (f : FuncId) (args : List Value) : Deferred := { target := .fn (.func f) #[], args := args.toArray }
def isAny (P : Program) (t : TypeId) : Bool := match P.underlying t with
  | some (.interface _) => true
  | _ => false
theorem und_any : ∃ ms, PG.underlying T.t_interface = some (.interface ms) := by
  have h : isAny PG T.t_interface = true := by kernel_rfl
  unfold isAny at h
  split at h
  · rename_i ms hm; exact ⟨ms, hm⟩
  · cases h
def opAt (f : Func) (i : Nat) : Oper := match sub [0] (bodyOf f) with
  | .region _ ops _ => ops.getD i default
  | _ => default
theorem und_errno : PG.underlying T.t_api_Errno = some (.int .i64) := by kernel_rfl
section
attribute [local irreducible] binV Op.unary convert nlW faW ldS ldW ixS ixA ixV ixT exW lnS lnT pu stW alW opW opU bsW mkW
variable {B w : World} {H A C : Hp} {X : World → Prop} {R : Ending → World → Prop} {b : Nat} {u : Value} {e : Int}
theorem rest_nil {x : Value} {f : Value → Prop} {Y : Prop} (hx : x = .nilIface) (h : Y) : pu PG (binV .neq T.t_interface true x .nilIface) fun t7 => condV t7 (f t7) Y := by
  subst hx
  obtain ⟨ms, hm⟩ := und_any
  exact if_nil hm (cnd_f rfl h)
theorem rest_val {x : Value} {f : Value → Value → Prop} {Y : Prop} (hx : x = errV e) (h : f (vI e) (vB true)) : pu PG (binV .neq T.t_interface true x .nilIface) fun t7 => condV t7 (pu PG (Instr.typeAssert x T.t_interface T.t_api_Errno true) fun t10 => exW 0 t10 fun t11 => exW 1 t10 fun t12 => f t11 t12) Y := by
  subst hx
  obtain ⟨ms, hm⟩ := und_any
  refine if_val hm (cnd_t rfl ?_)
  exact as_iface und_errno (fun m => by simp) (ex20 (ex21 h))
theorem stack_lv_ret (k : X w) : LvW PG (dfr N.stack_caught [ptr b] :: []) .returning w (endV X R) := by
  refine ⟨by simp, .inr ⟨N.stack_caught, rfl, by kernel_rfl, ?_⟩⟩
  refine caught_gen (A := ⟨[], []⟩) (fn := Tryz.f79) (a := 5) (b := 2) (fuel := 400) (id := 0) (o1 := opAt Tryz.f79 0) (o2 := opAt Tryz.f79 1) (rest := restOf Tryz.f79) (E := fun w' => w' = w) mixed Tryz.func79 (by kernel_rfl) ⟨by kernel_rfl, by kernel_rfl, by kernel_rfl⟩ ⟨by kernel_rfl, by kernel_rfl, by kernel_rfl⟩ (by kernel_rfl) (of_decide_eq_true (by kernel_rfl)) (of_decide_eq_true (by kernel_rfl)) (.inl ⟨rfl, rfl, rfl⟩) ?_ ?_
  · exact (stack_caught_eq _ _ _ _).mpr (rest_nil rfl ⟨rfl, rfl⟩)
  · rintro w' rfl; exact k
theorem stack_lv_pan (h : Ow B w (A ++ (b, cel [u] T.t_api_Errno) :: C)) (k : ∀ w', Ow B w' (A ++ (b, cel [vI e] T.t_api_Errno) :: C) → X w') : LvW PG (dfr N.stack_caught [ptr b] :: []) (.panicking (pan e)) w (endV X R) := by
  refine ⟨by simp, .inr ⟨N.stack_caught, rfl, by kernel_rfl, ?_⟩⟩
  refine caught_gen (A := ⟨[], []⟩) (fn := Tryz.f79) (a := 5) (b := 2) (fuel := 400) (id := 0) (o1 := opAt Tryz.f79 0) (o2 := opAt Tryz.f79 1) (rest := restOf Tryz.f79) (E := fun w' => Ow B w' (A ++ (b, cel [vI e] T.t_api_Errno) :: C)) mixed Tryz.func79 (by kernel_rfl) ⟨by kernel_rfl, by kernel_rfl, by kernel_rfl⟩ ⟨by kernel_rfl, by kernel_rfl, by kernel_rfl⟩ (by kernel_rfl) (of_decide_eq_true (by kernel_rfl)) (of_decide_eq_true (by kernel_rfl)) (.inr ⟨_, _, rfl, rfl, rfl⟩) ?_ ?_
  · refine (stack_caught_eq _ _ _ _).mpr (rest_val (e := e) rfl ?_)
    refine pu_not (cnd_f rfl ?_)
    refine nl_ptr ?_
    refine st1_here h rfl rfl (by simp) (fun w1 h1 => ⟨rfl, h1⟩)
  · intro w' h'; exact k _ h'
theorem fiber_lv_ret (k : X w) : LvW PG (dfr N.fiber_caught [ptr b] :: []) .returning w (endV X R) := by
  refine ⟨by simp, .inr ⟨N.fiber_caught, rfl, by kernel_rfl, ?_⟩⟩
  refine caught_gen (A := ⟨[], []⟩) (fn := Tryz.f101) (a := 5) (b := 2) (fuel := 400) (id := 0) (o1 := opAt Tryz.f101 0) (o2 := opAt Tryz.f101 1) (rest := restOf Tryz.f101) (E := fun w' => w' = w) mixed Tryz.func101 (by kernel_rfl) ⟨by kernel_rfl, by kernel_rfl, by kernel_rfl⟩ ⟨by kernel_rfl, by kernel_rfl, by kernel_rfl⟩ (by kernel_rfl) (of_decide_eq_true (by kernel_rfl)) (of_decide_eq_true (by kernel_rfl)) (.inl ⟨rfl, rfl, rfl⟩) ?_ ?_
  · exact (fiber_caught_eq _ _ _ _).mpr (rest_nil rfl ⟨rfl, rfl⟩)
  · rintro w' rfl; exact k
theorem fiber_lv_pan (h : Ow B w (A ++ (b, cel [u] T.t_api_Errno) :: C)) (k : ∀ w', Ow B w' (A ++ (b, cel [vI e] T.t_api_Errno) :: C) → X w') : LvW PG (dfr N.fiber_caught [ptr b] :: []) (.panicking (pan e)) w (endV X R) := by
  refine ⟨by simp, .inr ⟨N.fiber_caught, rfl, by kernel_rfl, ?_⟩⟩
  refine caught_gen (A := ⟨[], []⟩) (fn := Tryz.f101) (a := 5) (b := 2) (fuel := 400) (id := 0) (o1 := opAt Tryz.f101 0) (o2 := opAt Tryz.f101 1) (rest := restOf Tryz.f101) (E := fun w' => Ow B w' (A ++ (b, cel [vI e] T.t_api_Errno) :: C)) mixed Tryz.func101 (by kernel_rfl) ⟨by kernel_rfl, by kernel_rfl, by kernel_rfl⟩ ⟨by kernel_rfl, by kernel_rfl, by kernel_rfl⟩ (by kernel_rfl) (of_decide_eq_true (by kernel_rfl)) (of_decide_eq_true (by kernel_rfl)) (.inr ⟨_, _, rfl, rfl, rfl⟩) ?_ ?_
  · refine (fiber_caught_eq _ _ _ _).mpr (rest_val (e := e) rfl ?_)
    refine pu_not (cnd_f rfl ?_)
    refine nl_ptr ?_
    refine st1_here h rfl rfl (by simp) (fun w1 h1 => ⟨rfl, h1⟩)
  · intro w' h'; exact k _ h'
theorem image_lv_ret {cl : Value} (k : X w) : LvW PG (dfr N.image_caught [ptr b, cl] :: []) .returning w (endV X R) := by
  refine ⟨by simp, .inr ⟨N.image_caught, rfl, by kernel_rfl, ?_⟩⟩
  refine caught_gen (A := ⟨[], []⟩) (fn := Tryz.f110) (a := 7) (b := 4) (fuel := 400) (id := 0) (o1 := opAt Tryz.f110 0) (o2 := opAt Tryz.f110 1) (rest := restOf Tryz.f110) (E := fun w' => w' = w) mixed Tryz.func110 (by kernel_rfl) ⟨by kernel_rfl, by kernel_rfl, by kernel_rfl⟩ ⟨by kernel_rfl, by kernel_rfl, by kernel_rfl⟩ (by kernel_rfl) (of_decide_eq_true (by kernel_rfl)) (of_decide_eq_true (by kernel_rfl)) (.inl ⟨rfl, rfl, rfl⟩) ?_ ?_
  · exact (image_caught_eq _ _ _ _ _).mpr (rest_nil rfl ⟨rfl, rfl⟩)
  · rintro w' rfl; exact k
/-- The closure cl clears; then the error is told. -/
theorem image_lv_pan {cl : Value} (hc : ∀ K : Value → World → Prop, (∀ v w', Ow B w' (A ++ (b, cel [u] T.t_api_Errno) :: C) → K v w') → callV PG cl [] K (fun _ _ => False) w) (k : ∀ w', Ow B w' (A ++ (b, cel [vI e] T.t_api_Errno) :: C) → X w') : LvW PG (dfr N.image_caught [ptr b, cl] :: []) (.panicking (pan e)) w (endV X R) := by
  refine ⟨by simp, .inr ⟨N.image_caught, rfl, by kernel_rfl, ?_⟩⟩
  refine caught_gen (A := ⟨[], []⟩) (fn := Tryz.f110) (a := 7) (b := 4) (fuel := 400) (id := 0) (o1 := opAt Tryz.f110 0) (o2 := opAt Tryz.f110 1) (rest := restOf Tryz.f110) (E := fun w' => Ow B w' (A ++ (b, cel [vI e] T.t_api_Errno) :: C)) mixed Tryz.func110 (by kernel_rfl) ⟨by kernel_rfl, by kernel_rfl, by kernel_rfl⟩ ⟨by kernel_rfl, by kernel_rfl, by kernel_rfl⟩ (by kernel_rfl) (of_decide_eq_true (by kernel_rfl)) (of_decide_eq_true (by kernel_rfl)) (.inr ⟨_, _, rfl, rfl, rfl⟩) ?_ ?_
  · refine (image_caught_eq _ _ _ _ _).mpr (rest_val (e := e) rfl ?_)
    refine pu_not (cnd_f rfl ?_)
    refine hc _ (fun v w1 h1 => ?_)
    refine nl_ptr ?_
    refine st1_here h1 rfl rfl (by simp) (fun w2 h2 => ⟨rfl, h2⟩)
  · intro w' h'; exact k _ h'
theorem instr_lv_ret {cl : Value} (k : X w) : LvW PG (dfr N.instr_caught [ptr b, cl] :: []) .returning w (endV X R) := by
  refine ⟨by simp, .inr ⟨N.instr_caught, rfl, by kernel_rfl, ?_⟩⟩
  refine caught_gen (A := ⟨[], []⟩) (fn := Tryz.f222) (a := 7) (b := 4) (fuel := 400) (id := 0) (o1 := opAt Tryz.f222 0) (o2 := opAt Tryz.f222 1) (rest := restOf Tryz.f222) (E := fun w' => w' = w) mixed Tryz.func222 (by kernel_rfl) ⟨by kernel_rfl, by kernel_rfl, by kernel_rfl⟩ ⟨by kernel_rfl, by kernel_rfl, by kernel_rfl⟩ (by kernel_rfl) (of_decide_eq_true (by kernel_rfl)) (of_decide_eq_true (by kernel_rfl)) (.inl ⟨rfl, rfl, rfl⟩) ?_ ?_
  · exact (instr_caught_eq _ _ _ _ _).mpr (rest_nil rfl ⟨rfl, rfl⟩)
  · rintro w' rfl; exact k
theorem instr_lv_pan {cl : Value} (hc : ∀ K : Value → World → Prop, (∀ v w', Ow B w' (A ++ (b, cel [u] T.t_api_Errno) :: C) → K v w') → callV PG cl [] K (fun _ _ => False) w) (k : ∀ w', Ow B w' (A ++ (b, cel [vI e] T.t_api_Errno) :: C) → X w') : LvW PG (dfr N.instr_caught [ptr b, cl] :: []) (.panicking (pan e)) w (endV X R) := by
  refine ⟨by simp, .inr ⟨N.instr_caught, rfl, by kernel_rfl, ?_⟩⟩
  refine caught_gen (A := ⟨[], []⟩) (fn := Tryz.f222) (a := 7) (b := 4) (fuel := 400) (id := 0) (o1 := opAt Tryz.f222 0) (o2 := opAt Tryz.f222 1) (rest := restOf Tryz.f222) (E := fun w' => Ow B w' (A ++ (b, cel [vI e] T.t_api_Errno) :: C)) mixed Tryz.func222 (by kernel_rfl) ⟨by kernel_rfl, by kernel_rfl, by kernel_rfl⟩ ⟨by kernel_rfl, by kernel_rfl, by kernel_rfl⟩ (by kernel_rfl) (of_decide_eq_true (by kernel_rfl)) (of_decide_eq_true (by kernel_rfl)) (.inr ⟨_, _, rfl, rfl, rfl⟩) ?_ ?_
  · refine (instr_caught_eq _ _ _ _ _).mpr (rest_val (e := e) rfl ?_)
    refine pu_not (cnd_f rfl ?_)
    refine hc _ (fun v w1 h1 => ?_)
    refine nl_ptr ?_
    refine st1_here h1 rfl rfl (by simp) (fun w2 h2 => ⟨rfl, h2⟩)
  · intro w' h'; exact k _ h'
end
end Go.Proofs.YtkkkcafkepnecaaGreat
