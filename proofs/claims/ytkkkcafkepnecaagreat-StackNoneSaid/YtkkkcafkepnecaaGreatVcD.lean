/- Soundness of the conditions, regions. -/
import Derived.Test.YtkkkcafkepnecaaGreatVcC
set_option linter.unusedVariables false
set_option linter.unusedSimpArgs false
namespace Go.Proofs.YtkkkcafkepnecaaGreat.Vc
open Go Go.RowKit

section
variable {P : Program} {n : Nat} {s : S}

theorem run_load {a : Addr} {v : Value} {w : World} (h : w.cell? a = some v) : (load a).run P w = .ok v w := by
  simp [load, Sem.run, h]
theorem run_loadCellsFrom (a : Addr) {w : World} : ∀ (vs : List Value) (i : Nat) (acc : Array Value), (∀ (j : Nat) u, vs[j]? = some u → w.cell? (a.add (i + j)) = some u) →
    (loadCellsFrom a i vs.length acc).run P w = .ok (acc ++ vs.toArray) w
  | [], i, acc, _ => by simp [loadCellsFrom, go_sem]
  | v :: vs, i, acc, h => by
    simp only [List.length_cons, loadCellsFrom, Sem.run_bind]
    have h0 := h 0 v rfl
    simp only [Nat.add_zero] at h0
    rw [run_load h0]
    simp only [Result.andThen]
    rw [run_loadCellsFrom a vs (i + 1) (acc.push v) (fun j u hu => by
      have := h (j + 1) u (by simpa using hu)
      rw [show i + 1 + j = i + (j + 1) by omega]; exact this)]
    simp
theorem rd_sound {t : TypeId} {z : Option Nat} (hz : ldSize P t = some z) {x v : Value} {w : World} (h : rdW z x w v) : (Instr.loadAt t x).run P w = .ok v w := by
  unfold ldSize at hz
  split at hz
  · cases hz
  · rename_i d hd
    split at hz
    · cases hz
    · rename_i i hi
      simp only [Option.some.injEq] at hz
      cases hag : agT P t
      · rw [hag] at hz; simp at hz; subst hz
        obtain ⟨a, rfl, hc⟩ := h
        simp [Instr.loadAt, Instr.sureAddr, loadVar, Sem.run_bind, Sem.run_pure, Result.andThen, run_agg hd, hag, run_load hc]
      · rw [hag] at hz; simp at hz; subst hz
        obtain ⟨a, vs, rfl, hl, hc, rfl⟩ := h
        simp only [Instr.loadAt, Instr.sureAddr, loadVar, Sem.run_bind, Sem.run_pure, Result.andThen, run_agg hd, hag, if_true, run_size hi, loadCells]
        rw [← hl, run_loadCellsFrom a vs 0 #[] (fun j u hu => by simpa using hc j u hu)]
        simp
theorem heldOp_sound (o : Oper) (H : World → Prop) (e : Bool) (w0 : World) (K : Value → Prop) (hp : isHeld P o.op = true) (h : heldOp P n s H e w0 o.op K) :
    ∃ v, (∀ w, (isLd o.op = true → (bif e then w = w0 else H w)) → (execOp (ev n s) o).run P w = .ok (.value v) w) ∧ K v := by
  unfold isHeld at hp
  cases hl : isLd o.op
  · rw [hl, Bool.or_false] at hp
    have h' : puOp P n s o.op K := by
      unfold heldOp at h
      split at h
      · rename_i heq; rw [heq] at hl; cases hl
      · exact h
    obtain ⟨v, hv, hk⟩ := puOp_sound o K hp h'
    exact ⟨v, fun w _ => hv w, hk⟩
  · obtain ⟨dst, op, ty, pos, after, guard⟩ := o
    cases op <;> simp only [isLd, Bool.false_eq_true] at hl
    rename_i t a
    simp only [heldOp] at h
    split at h
    · rename_i z hz
      cases e
      · obtain ⟨v, hv, hk⟩ := h
        exact ⟨v, fun w hw => run_v (rd_sound hz (hv w (hw rfl))), hk⟩
      · obtain ⟨v, hv, hk⟩ := h
        refine ⟨v, fun w hw => ?_, hk⟩
        have hw : w = w0 := hw rfl
        subst hw
        exact run_v (rd_sound hz hv)
    · exact h.elim

/-! ### One operation -/
abbrev Q3 := Exit → Act → World → Prop
variable {ro : Option Nat} {Q : Q3} {K : S → D → World → Prop} {PK : List PanicEntry → S → D → World → Prop} {d : D} {w : World}

theorem about_triv (o : Oper) (w : World) (ρ : Operand → Value) : ∀ f, o.about P w ρ = some f → (FW ro).fn f := fun _ _ => trivial
theorem wpIn_value {o : Oper} {a : Act} {next : Act → World → Prop} {v : Value} {w' : World} (hd : ∀ c, o.op ≠ .defer c) (h : (execOp a.eval o).run P w = .ok (.value v) w') (hn : next (a.put o.dst v) w') :
    o.wpIn (FW ro) 0 P a w next Q := ⟨fun _ _ => trivial, by rw [Oper.semAt_eq _ _ _ hd, h]; exact hn⟩
theorem wpIn_skip' {o : Oper} {a : Act} {next : Act → World → Prop} {w' : World} (hd : ∀ c, o.op ≠ .defer c) (h : (execOp a.eval o).run P w = .ok .skip w') (hn : next (a.put o.dst undef) w') :
    o.wpIn (FW ro) 0 P a w next Q := ⟨fun _ _ => trivial, by rw [Oper.semAt_eq _ _ _ hd, h]; exact hn⟩
theorem wpIn_call {o : Oper} {a : Act} {next : Act → World → Prop} {f : FuncId} {args : List Value} {K : Value → World → Prop} {PK : List PanicEntry → World → Prop} (hd : ∀ c, o.op ≠ .defer c) (hf : okFn P f = true)
    (h : (execOp a.eval o).run P w = (callFunc f args.toArray).run P w) (hc : callW P f args K PK w) (hk : ∀ v w', K v w' → next (a.put o.dst v) w') (hp : ∀ c w', PK c w' → Q (.panic c) a w') :
    o.wpIn (FW ro) 0 P a w next Q := ⟨fun _ _ => trivial, by
  rw [Oper.semAt_eq _ _ _ hd, h, okFn_run hf]
  refine ⟨fun h => by simp [FW] at h, callsIn_FW (Calls.mono hc fun e w' he => ?_)⟩
  cases e with
  | returned v => exact hk _ _ he
  | panicked c => exact hp _ _ he
  | outgrown => exact he.elim⟩
theorem wpIn_round {o : Oper} {a : Act} {next : Act → World → Prop} {l : Nat} {args : List Value} {K : Value → World → Prop} {PK : List PanicEntry → World → Prop} (hd : ∀ c, o.op ≠ .defer c)
    (h : (execOp a.eval o).run P w = (Instr.yield l args.toArray).run P w) (hc : roundW P l args K PK w) (hk : ∀ v w', K v w' → next (a.put o.dst v) w') (hp : ∀ c w', PK c w' → Q (.panic c) a w') :
    o.wpIn (FW ro) 0 P a w next Q := ⟨fun _ _ => trivial, by
  obtain ⟨r, hl, hs, hr⟩ := hc
  rw [Oper.semAt_eq _ _ _ hd, h, run_yield hl (by simpa using hs)]
  refine ⟨fun h => by simp [FW] at h, ?_⟩
  refine RoundIn.mono (show RoundIn (FW ro) 0 P l _ _ _ _ _ _ from hr) fun e w' he => ?_
  cases e with
  | returned v => exact hk _ _ he
  | panicked c => exact hp _ _ he
  | outgrown => exact he.elim⟩

theorem resolve_run (ρ : Operand → Value) (c : Call) (ty : TypeId) (x : Operand) (hc : c.callee = .value x) (w : World) : (resolve ρ c ty).run P w = (Deferred.ofValue (ρ x) (c.args.map ρ)).run P w := by
  unfold resolve; rw [hc]
theorem call_run {ρ : Operand → Value} {dst : Option Tmp} {c : Call} {ty : TypeId} {pos : String} {after : Array Edge} {guard : Option (Nat × Bool)} {x : Operand} (hc : c.callee = .value x) {fn : Fn} {first cap : Array Value}
    (hx : ρ x = .func fn first cap) (w : World) : (execOp ρ ⟨dst, .call c, ty, pos, after, guard⟩).run P w = (invoke (.fn fn cap) (first ++ c.args.map ρ)).run P w := by
  simp only [execOp, Sem.run_bind, resolve_run ρ c ty x hc, hx, Deferred.ofValue, Sem.run_pure, Result.andThen]

theorem wrL_size : ∀ (vs : List Value) (c : Array Value) (i : Nat), (wrL c i vs).size = c.size
  | [], _, _ => rfl
  | v :: vs, c, i => by simp [wrL, wrL_size vs]
theorem putObj_putObj (w : World) (r : Nat) (o o' : Obj) : (w.putObj r o).putObj r o' = w.putObj r o' := by
  simp [World.putObj]
theorem setCell_put {w : World} {a : Addr} {c : Array Value} {e : TypeId} {fz : Nat × Nat} (h : w.heap[a.block]? = some (.cells c e fz)) (hs : a.spot = none) (v : Value) :
    w.setCell a v = w.putObj a.block (.cells (c.setIfInBounds a.off v) e fz) := by
  have hlt : a.block < w.heap.size := (Array.getElem?_eq_some_iff.1 h).1
  have hv : w.heap[a.block] = .cells c e fz := (Array.getElem?_eq_some_iff.1 h).2
  unfold World.setCell World.putObj
  congr 1
  apply Array.ext
  · simp
  · intro i h1 h2
    have h3 : i < w.heap.size := by simpa using h2
    rw [Array.getElem_modify, Array.getElem_setIfInBounds h3]
    by_cases hi : a.block = i
    · subst hi; simp [hv, hs]
    · simp [hi]
theorem run_storeCells {a : Addr} (hs : a.spot = none) {e : TypeId} {fz : Nat × Nat} : ∀ (vs : List Value) (i : Nat) (w : World) (c : Array Value), w.heap[a.block]? = some (.cells c e fz) →
    (∀ u ∈ vs, plainV u = true) → a.off + i + vs.length ≤ c.size → (a.off + i + vs.length ≤ fz.1 ∨ fz.2 ≤ a.off + i) →
    (storeCells a vs i).run P w = .ok () (w.putObj a.block (.cells (wrL c (a.off + i) vs) e fz))
  | [], i, w, c, h, _, _, _ => by
    have hlt : a.block < w.heap.size := (Array.getElem?_eq_some_iff.1 h).1
    have hv : w.heap[a.block] = .cells c e fz := (Array.getElem?_eq_some_iff.1 h).2
    simp only [storeCells, Sem.run_pure, wrL]
    congr 1
    unfold World.putObj
    have : w.heap.setIfInBounds a.block (.cells c e fz) = w.heap := by
      apply Array.ext
      · simp
      · intro i h1 h2
        rw [Array.getElem_setIfInBounds (by simpa using h1)]
        by_cases hi : a.block = i
        · subst hi; simp [hv]
        · simp [hi]
    rw [this]
  | v :: vs, i, w, c, h, hp, hle, hfz => by
    simp only [List.length_cons] at hle hfz
    have hadd : a.add i = ⟨a.block, a.off + i, none⟩ := by
      unfold Addr.add
      split
      · rename_i h0; subst h0; cases a; simp_all
      · cases a; simp_all
    have hb : (a.add i).block = a.block := by rw [hadd]
    have hoff : (a.add i).off = a.off + i := by rw [hadd]
    have hsp : (a.add i).spot = none := by rw [hadd]
    have hcell : w.cell? (a.add i) = some c[a.off + i] := by
      simp only [World.cell?, hb, h, hsp, hoff]
      simp only [Option.isSome_none, Bool.false_eq_true, if_false]
      exact Array.getElem?_eq_getElem (by omega)
    have hfr : w.frozen? (a.add i) = false := by
      simp only [World.frozen?, hb, h, hoff, Bool.and_eq_false_iff, decide_eq_false_iff_not]
      omega
    have hset := setCell_put (w := w) (a := a.add i) (by rw [hb]; exact h) hsp v
    rw [hb, hoff] at hset
    have hstore : (store (a.add i) v).run P w = .ok () (w.putObj a.block (.cells (c.setIfInBounds (a.off + i) v) e fz)) := by
      have hpv := hp v List.mem_cons_self
      unfold store
      cases v <;> simp only [plainV, Bool.false_eq_true] at hpv <;> simp [Sem.run, hcell, hfr, hset]
    simp only [storeCells, Sem.run_bind, hstore, Result.andThen]
    have hlt : a.block < w.heap.size := (Array.getElem?_eq_some_iff.1 h).1
    rw [run_storeCells hs vs (i + 1) _ _ (World.putObj_heap_same hlt) (fun u hu => hp u (List.mem_cons_of_mem _ hu)) (by simp; omega) (by omega)]
    rw [putObj_putObj]
    rfl
theorem st_sound {t : TypeId} {i : TypeInfo} (hi : P.info? t = some i) {x v : Value} {K : World → Prop} {w : World} (h : stW i.size x v K w) : ∃ w', (Instr.storeAt t x v).run P w = .ok () w' ∧ K w' := by
  obtain ⟨a, c, e, fz, rfl, hb, hsz, hpl, hsp, hle, hfz, hk⟩ := h
  refine ⟨_, ?_, hk⟩
  have hl : v.cells.toList.length = i.size := by simpa using hsz
  have := run_storeCells (P := P) hsp v.cells.toList 0 w c hb hpl (by omega) (by rw [hl]; simpa using hfz)
  simp only [Nat.add_zero] at this
  simp only [Instr.storeAt, Instr.sureAddr, storeVar, Sem.run_bind, Sem.run_pure, Result.andThen, run_size hi, hsz, ne_eq, not_true, if_false, this]
theorem al_run {t : TypeId} {i : TypeInfo} {z : Value} (hi : P.info? t = some i) (hz : i.zero = some z) (w : World) :
    (Instr.alloc t true (.tuple #[])).run P w = .ok (.pointer (some ⟨w.heap.size, 0, none⟩)) (w.alloc (.cells z.cells t)) := by
  simp only [Instr.alloc, zeroValue, Sem.run_bind, run_info hi, Result.andThen, hz, Sem.run_pure, newVar, newRow, run_newObj_alloc]
theorem bx_run (t : TypeId) (v : Value) (w : World) : (Instr.box t v).run P w = .ok (.pointer (some ⟨w.heap.size, 0, none⟩)) (w.alloc (.cells v.cells t)) := by
  simp only [Instr.box, Sem.run_bind, Result.andThen, Sem.run_pure, newVar, newRow, run_newObj_alloc]
theorem bs_run {t e : TypeId} {i : TypeInfo} {len : Nat} {ps : List (Nat × Value)} {c : Array Value} (hu : P.underlying t = some (.slice e)) (hi : P.info? e = some i) (h1 : 1 ≤ i.size) (h2 : len * i.size ≤ 16777216)
    (hc : bsC P e len ps = some c) (w : World) : (Instr.buildSlice t len ps.toArray).run P w = .ok (.slice (some ⟨w.heap.size, 0, none⟩) len len) (w.alloc (.cells c e)) := by
  unfold bsC at hc
  rw [hi] at hc
  simp only at hc
  split at hc
  · cases hc
  · rename_i z hz
    have hcm : ¬ (len * i.size > 2 ^ 24) := by omega
    have hzr : (zeroValue e).run P w = .ok z w := by simp only [zeroValue, Sem.run_bind, run_info hi, Result.andThen, hz, Sem.run_pure]
    simp only [Instr.buildSlice, Sem.run_bind, run_und hu, Result.andThen, run_size hi, hcm, if_false, Sem.run_pure]
    by_cases h0 : len * i.size = 0
    · rw [h0] at hc
      have hr : Array.range 0 = #[] := rfl
      simp only [hr, List.map_toArray, List.map_nil] at hc
      simp only [h0, if_true, Sem.run_pure, hr, List.map_toArray, List.map_nil, hc, newRow, Sem.run_bind, run_newObj_alloc, Result.andThen]
    · simp only [h0, if_false, Sem.run_bind, hzr, Result.andThen, Sem.run_pure, hc, newRow, run_newObj_alloc]
theorem wrap64_in {n : Int} (h0 : -9223372036854775808 ≤ n) (h1 : n < 9223372036854775808) : IntKind.i64.wrap n = n := by
  have e1 : (2 : Int) ^ (64 - 1) = 9223372036854775808 := rfl
  have e2 : (2 : Int) ^ 64 = 18446744073709551616 := rfl
  simp only [IntKind.wrap, IntKind.bits, IntKind.signed, Bool.true_and, decide_eq_true_eq, e1, e2]
  split <;> omega
theorem mk_run {t e : TypeId} {i : TypeInfo} {l c : Value} {K : Value → World → Prop} {w : World} (hu : P.underlying t = some (.slice e)) (hi : P.info? e = some i) (h1 : 1 ≤ i.size) (h : mkW e i.size i.bytes i.zero l c K w) :
    ∃ v w', (Instr.makeSlice t l c).run P w = .ok v w' ∧ K v w' := by
  obtain ⟨z, k, k', n, m, hz, rfl, rfl, hnm, hm, hb, hk⟩ := h
  refine ⟨_, _, ?_, hk⟩
  have hzr : (zeroValue e).run P w = .ok z w := by simp only [zeroValue, Sem.run_bind, run_info hi, Result.andThen, hz, Sem.run_pure]
  have w1 : IntKind.i64.wrap (n : Int) = n := wrap64_in (by omega) (by omega)
  have w2 : IntKind.i64.wrap (m : Int) = m := wrap64_in (by omega) (by omega)
  have hbi : ¬ ((i.bytes : Int) * (m : Int) > 2 ^ 48) := by
    rw [← Int.natCast_mul]
    omega
  have hm0 : ¬ ((m : Int) < 0) := by omega
  have hn0 : ¬ ((n : Int) < 0) := by omega
  have hgt : ¬ ((n : Int) > (m : Int)) := by omega
  have hcl : (0 : Nat) ≤ m := by omega
  simp only [Instr.makeSlice, Sem.run_bind, run_und hu, Result.andThen, asInt, asIntOf, Sem.run_pure, run_info hi, w1, w2]
  simp only [hbi, hm0, hn0, hgt, decide_false, Bool.or_false, Bool.false_eq_true, or_false, if_false, askRoom, Int.toNat_natCast]
  have hroom : (if m * i.bytes > roomBytes then mark Mark.noRoom else pure () : Sem Unit).run P w = .ok () w := by
    split <;> simp [mark, Sem.run, Sem.run_pure]
  simp only [Sem.run_bind, hroom, Result.andThen, run_size hi]
  by_cases h0 : m * i.size = 0
  · have hr : Array.range 0 = #[] := rfl
    simp only [h0, if_true, Sem.run_pure, hr, List.map_toArray, List.map_nil, newRow, Sem.run_bind, run_newObj_alloc, Result.andThen]
  · simp only [h0, if_false, Sem.run_bind, hzr, Result.andThen, Sem.run_pure, newRow, run_newObj_alloc]
theorem agree_wrO (s : S) (dst : Option Nat) (v : Value) : agree dst.toList s (wrO s dst v) := by
  cases dst with
  | none => exact agree.refl _ _
  | some i => exact agree.wr _ _ (by simp)

/-- What follows an operation, of frames: some slots and deferred calls that agree with what was there. -/
def nxt (n : Nat) (l : List Nat) (s : S) (K : S → D → World → Prop) : Act → World → Prop := fun a w => ∃ s' d', a = act n s' d' ∧ agree l s s' ∧ K s' d' w

theorem efOp_sound (o : Oper) {K : Value → World → Prop} {PK : List PanicEntry → World → Prop} {a : Act} {next : Act → World → Prop} (ha : a.eval = ev n s) (hd : ∀ c, o.op ≠ .defer c)
    (h : efOp P n s o.op o.type K PK w) (hk : ∀ v w', K v w' → next (a.put o.dst v) w') (hp : ∀ c w', PK c w' → Q (.panic c) a w') : o.wpIn (FW ro) 0 P a w next Q := by
  obtain ⟨dst, op, ty, pos, after, guard⟩ := o
  have vv : ∀ {m : Sem Value}, execOp a.eval ⟨dst, op, ty, pos, after, guard⟩ = (do pure (Next.value (← m))) → opW P m K w → Oper.wpIn (FW ro) 0 P ⟨dst, op, ty, pos, after, guard⟩ a w next Q := by
    rintro m he ⟨v, w', hm, hkv⟩
    exact wpIn_value hd (by rw [he]; exact run_v hm) (hk _ _ hkv)
  have uu : ∀ {m : Sem Unit}, execOp a.eval ⟨dst, op, ty, pos, after, guard⟩ = (do m; pure Next.skip) → opU P m (fun w' => K undef w') w → Oper.wpIn (FW ro) 0 P ⟨dst, op, ty, pos, after, guard⟩ a w next Q := by
    rintro m he ⟨w', hm, hkv⟩
    exact wpIn_skip' hd (by rw [he]; exact run_u hm) (hk _ _ hkv)
  cases op <;> simp only [efOp] at h
  case load t x =>
    split at h
    · rename_i z hz
      obtain ⟨v, hv, hkv⟩ := h
      exact wpIn_value hd (by rw [ha]; exact run_v (rd_sound hz hv)) (hk _ _ hkv)
    · exact h.elim
  case store t x v =>
    split at h
    · rename_i i hi
      obtain ⟨w', hw, hkv⟩ := st_sound hi h
      exact uu (by rw [ha]; rfl) ⟨w', hw, hkv⟩
    · exact h.elim
  case alloc t =>
    split at h
    · rename_i i hi
      split at h
      · rename_i z hz
        exact vv rfl ⟨_, _, al_run hi hz w, h⟩
      · exact h.elim
    · exact h.elim
  case box t x => exact vv (by rw [ha]; rfl) ⟨_, _, bx_run t _ w, h⟩
  case buildSlice t l ps =>
    split at h
    · rename_i e hu
      split at h
      · rename_i i hi
        cases hb : Nat.ble 1 i.size && Nat.ble (l * i.size) 16777216
        · rw [hb] at h; exact h.elim
        · rw [hb] at h
          simp only [Bool.and_eq_true] at hb
          obtain ⟨c, hc, hkv⟩ := h
          exact vv (by rw [ha]; simp only [execOp, ← evP_arr]) ⟨_, _, bs_run hu hi (Nat.le_of_ble_eq_true hb.1) (Nat.le_of_ble_eq_true hb.2) hc w, hkv⟩
      · exact h.elim
    · exact h.elim
  case makeMap t r => exact vv (by rw [ha]; simp only [execOp, evO_map]) h
  case makeSlice t l c =>
    split at h
    · rename_i e hu
      split at h
      · rename_i i hi
        cases hb : Nat.ble 1 i.size
        · rw [hb] at h; exact h.elim
        · rw [hb] at h
          exact vv (by rw [ha]; rfl) (mk_run hu hi (Nat.le_of_ble_eq_true hb) h)
      · exact h.elim
    · exact h.elim
  case insert t m k v => exact uu (by rw [ha]; rfl) h
  case mapUpdate t m k v => exact uu (by rw [ha]; rfl) h
  case mapEntry t m k => exact vv (by rw [ha]; rfl) h
  case entryStore t m k v => exact uu (by rw [ha]; rfl) h
  case lookup t x i b => exact vv (by rw [ha]; rfl) h
  case range t x => exact vv (by rw [ha]; rfl) h
  case next x b => exact vv (by rw [ha]; rfl) h
  case entry x => exact vv (by rw [ha]; rfl) h
  case convert t u x => exact vv (by rw [ha]; rfl) h
  case panic x =>
    unfold pnW at h
    split at h
    · rename_i t v hx
      refine ⟨fun _ _ => trivial, ?_⟩
      have : (Oper.semAt ro a.eval ⟨dst, .panic x, ty, pos, after, guard⟩).run P w = .halt (.panic (.iface t v)) w := by
        rw [Oper.semAt_eq _ _ _ hd, ha]
        simp [execOp, Instr.panic, hx, go_sem, goPanic]
      show Oper.uponIn _ _ _ _ _ _ _ ((Oper.semAt ro a.eval ⟨dst, .panic x, ty, pos, after, guard⟩).run P w)
      rw [this]
      exact hp _ _ h
    · exact h.elim
  case call c =>
    obtain ⟨callee, args, argTypes⟩ := c
    cases callee with
    | invoke r m => exact h.elim
    | builtin b =>
      have bb : ∀ {m : Sem Value} , (∀ cs, builtin b argTypes ty cs (args.map (ev n s)) = (do pure (Next.value (← m)))) → opW P m K w → Oper.wpIn (FW ro) 0 P ⟨dst, .call ⟨.builtin b, args, argTypes⟩, ty, pos, after, guard⟩ a w next Q := by
        rintro m he ⟨v, w', hm, hkv⟩
        refine wpIn_value hd ?_ (hk _ _ hkv)
        rw [ha]
        simp only [execOp, resolve, Sem.run_bind, Sem.run_pure, Result.andThen, invoke, he]
        simp [hm]
      cases b <;> simp only [evs_arr] at h
      case append => exact bb (fun _ => rfl) h
      case copy => exact bb (fun _ => rfl) h
      case clear => exact bb (fun _ => rfl) h
      case delete => exact bb (fun _ => rfl) h
      case len => exact bb (fun _ => rfl) h
      all_goals exact h.elim
    | value x =>
      have general : callV P (ev n s x) (evs n s args.toList) K PK w → Oper.wpIn (FW ro) 0 P ⟨dst, .call ⟨.value x, args, argTypes⟩, ty, pos, after, guard⟩ a w next Q := by
        rintro (⟨f, first, cap, hx, hf, hc⟩ | ⟨l, hx, hc⟩)
        · refine wpIn_call hd hf ?_ hc hk hp
          rw [ha, call_run rfl hx]
          simp only [invoke]
          congr 2
          apply Array.ext'
          simp [evs_map]
        · refine wpIn_round hd ?_ hc hk hp
          rw [ha, call_run rfl hx]
          simp only [invoke]
          congr 2
          apply Array.ext'
          simp [evs_map]
      cases x with
      | func f =>
        simp only at h
        cases hf : okFn P f
        · rw [hf] at h; exact h.elim
        · rw [hf] at h
          exact general (.inl ⟨f, #[], #[], rfl, hf, by simpa using h⟩)
      | tmp t => exact general h
      | const v => exact general h
      | global g => exact general h
  all_goals exact h.elim

theorem stepW_sound (o : Oper) (h : stepW P ro n o K PK s d w) (hp : ∀ c w', PK c s d w' → Q (.panic c) (act n s d) w') :
    o.wpIn (FW ro) 0 P (act n s d) w (fun a w => ∃ s' d', a = act n s' d' ∧ agree o.dst.toList s s' ∧ ((∀ c, o.op ≠ .defer c) → d' = d) ∧ K s' d' w) Q := by
  have ha := ev_act n s d
  unfold stepW at h
  cases hpu : isPu P o.op
  · rw [hpu] at h
    simp only [cond_false] at h
    cases hop : o.op with
    | defer c =>
      rw [hop] at h
      simp only at h
      split at h
      · rename_i f hc
        refine ⟨fun _ _ => trivial, ?_⟩
        have : (Oper.semAt none (act n s d).eval o).run P w = .ok (.defer { target := .fn (.func f) #[], args := (evs n s c.args.toList).toArray }) w := by
          rw [Oper.semAt_none, ha]
          obtain ⟨dst, op, ty, pos, after, guard⟩ := o
          simp only at hop; subst hop
          simp only [execOp, Sem.run_bind, resolve_run _ c ty _ hc, ev, Deferred.ofValue, Sem.run_pure, Result.andThen, evs_arr]
          congr 3
          apply Array.ext'
          simp
        show Oper.uponIn _ _ _ _ _ _ _ ((Oper.semAt none (act n s d).eval o).run P w)
        rw [this]
        refine ⟨wrO s o.dst undef, _, ?_, agree_wrO _ _ _, fun hn => absurd rfl (hn c), h⟩
        exact put_act n s _ o.dst undef
      · exact h.elim
    | _ =>
      rw [hop] at h
      simp only at h
      rw [← hop] at h
      refine efOp_sound o ha (by rw [hop]; intro c hc; cases hc) h (fun v w' hk => ⟨_, d, put_act n s d o.dst v, agree_wrO _ _ _, fun _ => rfl, hk⟩) hp
  · rw [hpu] at h
    simp only [cond_true] at h
    obtain ⟨v, hv, hk⟩ := puOp_sound o _ hpu h
    have hd : ∀ c, o.op ≠ .defer c := fun c hc => by rw [hc] at hpu; cases hpu
    exact wpIn_value hd (by rw [ha]; exact hv w) ⟨_, d, put_act n s d o.dst v, agree_wrO _ _ _, fun _ => rfl, hk⟩
end
end Go.Proofs.YtkkkcafkepnecaaGreat.Vc
