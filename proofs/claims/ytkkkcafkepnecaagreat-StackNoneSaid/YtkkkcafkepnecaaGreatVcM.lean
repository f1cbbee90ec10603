/- More rules: division, bits, shifts, texts, structs that are built, maps by numbers. -/
import Derived.Test.YtkkkcafkepnecaaGreatVcS
import Derived.MapKept
set_option linter.unusedVariables false
set_option linter.unusedSimpArgs false
namespace Go.Proofs.YtkkkcafkepnecaaGreat.Vc
open Go Go.RowKit

theorem wrap32_in {n : Int} (h0 : -2147483648 ≤ n) (h1 : n < 2147483648) : IntKind.i32.wrap n = n := by
  have e1 : (2 : Int) ^ (32 - 1) = 2147483648 := rfl
  have e2 : (2 : Int) ^ 32 = 4294967296 := rfl
  simp only [IntKind.wrap, IntKind.bits, IntKind.signed, Bool.true_and, decide_eq_true_eq, e1, e2]
  split <;> omega
theorem wrapu32 (n : Int) : IntKind.u32.wrap n = n % 4294967296 := by
  have e2 : (2 : Int) ^ 32 = 4294967296 := rfl
  simp [IntKind.wrap, IntKind.bits, IntKind.signed, e2]
theorem wrapu64 (n : Int) : IntKind.u64.wrap n = n % 18446744073709551616 := by
  have e2 : (2 : Int) ^ 64 = 18446744073709551616 := rfl
  simp [IntKind.wrap, IntKind.bits, IntKind.signed, e2]
theorem wrapu8 (n : Int) : IntKind.u8.wrap n = n % 256 := by
  have e2 : (2 : Int) ^ 8 = 256 := rfl
  simp [IntKind.wrap, IntKind.bits, IntKind.signed, e2]
theorem wrapi64 (n : Int) : IntKind.i64.wrap n = (if n % 18446744073709551616 ≥ 9223372036854775808 then n % 18446744073709551616 - 18446744073709551616 else n % 18446744073709551616) := by
  have e1 : (2 : Int) ^ (64 - 1) = 9223372036854775808 := rfl
  have e2 : (2 : Int) ^ 64 = 18446744073709551616 := rfl
  simp [IntKind.wrap, IntKind.bits, IntKind.signed, e1, e2]
theorem wrapi32 (n : Int) : IntKind.i32.wrap n = (if n % 4294967296 ≥ 2147483648 then n % 4294967296 - 4294967296 else n % 4294967296) := by
  have e1 : (2 : Int) ^ (32 - 1) = 2147483648 := rfl
  have e2 : (2 : Int) ^ 32 = 4294967296 := rfl
  simp [IntKind.wrap, IntKind.bits, IntKind.signed, e1, e2]
theorem wf_u32 {n : Int} (h : (Lit.int .u32 n).wf = true) : 0 ≤ n ∧ n < 4294967296 := by
  simp [Lit.wf, IntKind.min, IntKind.max, IntKind.signed, IntKind.bits] at h; omega
theorem wf_u64 {n : Int} (h : (Lit.int .u64 n).wf = true) : 0 ≤ n ∧ n < 18446744073709551616 := by
  simp [Lit.wf, IntKind.min, IntKind.max, IntKind.signed, IntKind.bits] at h; omega
theorem wf_u8 {n : Int} (h : (Lit.int .u8 n).wf = true) : 0 ≤ n ∧ n < 256 := by
  simp [Lit.wf, IntKind.min, IntKind.max, IntKind.signed, IntKind.bits] at h; omega
theorem wf_i64 {n : Int} (h : (Lit.int .i64 n).wf = true) : -9223372036854775808 ≤ n ∧ n < 9223372036854775808 := by
  simp [Lit.wf, IntKind.min, IntKind.max, IntKind.signed, IntKind.bits] at h; omega

section
variable {P : Program} {K : Value → Prop} {t : TypeId} {c : Bool} {kd : IntKind} {a b : Int}
theorem pu_quo (hb : b ≠ 0) (k : K (.int kd (kd.wrap (a.tdiv b)))) : pu P (binV .quo t c (.int kd a) (.int kd b)) K := int_bin (fun w => by simp [binOp, Op.intDiv, hb, Sem.run_pure]) k
theorem pu_rem (hb : b ≠ 0) (k : K (.int kd (a.tmod b))) : pu P (binV .rem t c (.int kd a) (.int kd b)) K := int_bin (fun w => by simp [binOp, Op.intDiv, hb, Sem.run_pure]) k
@[irreducible] def andI (kd : IntKind) (a b : Int) : Int := kd.wrap (BitVec.ofInt kd.bits a &&& BitVec.ofInt kd.bits b).toNat
@[irreducible] def orI (kd : IntKind) (a b : Int) : Int := kd.wrap (BitVec.ofInt kd.bits a ||| BitVec.ofInt kd.bits b).toNat
@[irreducible] def xorI (kd : IntKind) (a b : Int) : Int := kd.wrap (BitVec.ofInt kd.bits a ^^^ BitVec.ofInt kd.bits b).toNat
theorem pu_and (k : K (.int kd (andI kd a b))) : pu P (binV .and t c (.int kd a) (.int kd b)) K := int_bin (fun w => by simp [binOp, Op.intBits, Sem.run_pure, andI]) k
theorem pu_or (k : K (.int kd (orI kd a b))) : pu P (binV .or t c (.int kd a) (.int kd b)) K := int_bin (fun w => by simp [binOp, Op.intBits, Sem.run_pure, orI]) k
theorem pu_xor (k : K (.int kd (xorI kd a b))) : pu P (binV .xor t c (.int kd a) (.int kd b)) K := int_bin (fun w => by simp [binOp, Op.intBits, Sem.run_pure, xorI]) k
theorem pu_shl {kd' : IntKind} (hb : 0 ≤ b) (k : K (.int kd (kd.wrap (a * 2 ^ min b.toNat kd.bits)))) : pu P (binV .shl t c (.int kd a) (.int kd' b)) K :=
  ⟨_, binV_run rfl (fun w => by have : ¬ b < 0 := by omega
                                simp [binOp, Op.shift, this, Sem.run_pure]), k⟩
theorem pu_shr {kd' : IntKind} (hb : 0 ≤ b) (k : K (.int kd (a.fdiv (2 ^ min b.toNat kd.bits)))) : pu P (binV .shr t c (.int kd a) (.int kd' b)) K :=
  ⟨_, binV_run rfl (fun w => by have : ¬ b < 0 := by omega
                                simp [binOp, Op.shift, this, Sem.run_pure]), k⟩
/-- Of texts. -/
theorem pu_seq {x y : ByteArray} (k : K (.bool (x.toList == y.toList))) : pu P (binV .eql t c (.string x) (.string y)) K := ⟨_, binV_run rfl (fun w => by simp [binOp, Op.stringOp, Sem.run_pure]), k⟩
theorem pu_sne {x y : ByteArray} (k : K (.bool !(x.toList == y.toList))) : pu P (binV .neq t c (.string x) (.string y)) K := ⟨_, binV_run rfl (fun w => by simp [binOp, Op.stringOp, Sem.run_pure]), k⟩
theorem bytes_data (x : ByteArray) : x.toList = x.data.toList := by simp [ByteArray.toList_eq]
theorem bytes_eq {x y : ByteArray} : (x.toList == y.toList) = decide (x = y) := by
  by_cases h : x = y
  · simp [h]
  · simp only [h, decide_false, beq_eq_false_iff_ne, ne_eq]
    intro e
    rw [bytes_data, bytes_data] at e
    exact h (by cases x; cases y; simp_all)
/-- What is built out of parts. -/
def bldC (P : Program) (t : TypeId) (ps : Array (Nat × Value)) : Option (Array Value) := match zo P t with
  | none => none
  | some z => match P.underlying t with
    | some (.struct fs) => match fs.toList.mapM fun f => (P.info? f.type).map fun i => (f.offset, i.size) with
      | some pl => Instr.fill (pl[·]?) z.cells ps.toList
      | none => none
    | some (.array _ e) => match P.info? e with
      | some i => Instr.fill (fun k => some (k * i.size, i.size)) z.cells ps.toList
      | none => none
    | _ => none
theorem run_zero {t : TypeId} {z : Value} (h : zo P t = some z) (w : World) : (zeroValue t).run P w = .ok z w := by
  unfold zo at h
  obtain ⟨i, hi, hz⟩ := Option.bind_eq_some_iff.1 h
  simp [zeroValue, go_sem, run_info hi, hz]
theorem run_places : ∀ {fs : List Field} {pl : List (Nat × Nat)}, (fs.mapM fun f => (P.info? f.type).map fun i => (f.offset, i.size)) = some pl → ∀ w, (fs.mapM fun f => (do pure (f.offset, ← sizeOf f.type) : Sem (Nat × Nat))).run P w = .ok pl w
  | [], pl, h, w => by simp only [List.mapM_nil] at h ⊢; cases h; rfl
  | f :: fs, pl, h, w => by
    rw [List.mapM_cons] at h ⊢
    simp only [Option.bind_eq_bind, Option.bind_eq_some_iff, Option.pure_def, Option.some.injEq] at h
    obtain ⟨p, hp, pl', hpl, rfl⟩ := h
    obtain ⟨i, hi, rfl⟩ := Option.map_eq_some_iff.1 hp
    simp only [Sem.run_bind, run_size hi, Result.andThen, Sem.run_pure, run_places hpl w]
theorem bld_run {ps : Array (Nat × Value)} {cs : Array Value} (h : bldC P t ps = some cs) (w : World) : (Instr.build t ps).run P w = .ok (.agg cs) w := by
  unfold bldC at h
  split at h
  · cases h
  · rename_i z hz
    split at h
    · rename_i fs hu
      split at h
      · rename_i pl hpl
        have h1 := run_places hpl w
        have h2 : (fs.mapM fun f => (do pure (f.offset, ← sizeOf f.type) : Sem (Nat × Nat))).run P w = .ok pl.toArray w := by
          rw [Array.mapM_eq_mapM_toList]
          show ((fs.toList.mapM fun f => (do pure (f.offset, ← sizeOf f.type) : Sem (Nat × Nat))).bind (Sem.pure ∘ List.toArray)).run P w = _
          have h4 : ∀ m : Sem (List (Nat × Nat)), m.run P w = .ok pl w → (m.bind (Sem.pure ∘ List.toArray)).run P w = .ok pl.toArray w := fun m hm => by
            have h5 : ∀ f : List (Nat × Nat) → Sem (Array (Nat × Nat)), (m.bind f).run P w = (m >>= f).run P w := fun f => rfl
            rw [h5, Sem.run_bind, hm]
            rfl
          exact h4 _ h1
        have h3 : Instr.fill (fun i => pl.toArray[i]?) z.cells ps.toList = some cs := by simpa using h
        simp only [Instr.build, Sem.run_bind, run_zero hz, Result.andThen, run_und hu, h2, h3, Sem.run_pure]
      · cases h
    · rename_i e hu
      split at h
      · rename_i i hi
        simp only [Instr.build, Sem.run_bind, run_zero hz, Result.andThen, run_und hu, run_size hi, h, Sem.run_pure]
      · cases h
    · cases h
theorem pu_build {ps : Array (Nat × Value)} (cs : List Value) (h : bldC P t ps = some cs.toArray) (k : K (.agg cs.toArray)) : pu P (Instr.build t ps) K := ⟨_, bld_run h, k⟩
theorem ixV_rule {len : Nat} {l : List Value} {n : Int} {kd : IntKind} {v : Value} (h0 : 0 ≤ n) (h1 : n < (len : Int)) (hv : l[n.toNat]? = some v) (k : K v) : ixV len 1 false (.agg l.toArray) (.int kd n) K :=
  ⟨_, _, rfl, h0, h1, _, v, rfl, by simpa using hv, k⟩
end

theorem ldsn_here {B : World} {H : Hp} {Q : World → Prop} {K : Value → Prop} {b off n : Nat} {l : List Value} {e : TypeId} (h : ∀ w, Q w → Ow B w H) (hm : (b, cel l e) ∈ H) {vs : List Value} (hv : (l.drop off).take n = vs) (hl : vs.length = n)
    (k : K (.agg vs.toArray)) : ldS (some n) (ptr b off) Q K := by
  refine ⟨_, fun w hw => ?_, k⟩
  obtain ⟨v, hr, hk⟩ := ldn_here (K := fun v => v = .agg vs.toArray) (h w hw) hm hv hl rfl
  subst hk; exact hr
/-! ### Maps by numbers -/
def mpE (kd : IntKind) : List (Int × Value) → Nat → List MapEntry
  | [], _ => []
  | (k, v) :: l, i => { key := .int kd k, val := v, born := i } :: mpE kd l (i + 1)
abbrev mpo (kd : IntKind) (l : List (Int × Value)) : Obj := .map (mpE kd l 0).toArray l.length
def lk : List (Int × Value) → Int → Option Value
  | [], _ => none
  | (k, v) :: l, x => bif decide (x = k) then some v else lk l x
section
variable {P : Program} {B w : World} {H : Hp} {KW : Value → World → Prop} {KU : World → Prop} {t kt et : TypeId} {kd : IntKind}
theorem findNow_mp (x : Int) : ∀ (l : List (Int × Value)) (b i : Nat), ∃ j, Instr.findNow (.int kd) (.int kd x) (mpE kd l b) i = some ((lk l x).map fun v => (j, v))
  | [], _, _ => ⟨0, rfl⟩
  | (k, v) :: l, b, i => by
    obtain ⟨j, hj⟩ := findNow_mp x l (b + 1) (i + 1)
    by_cases h : x = k
    · exact ⟨i, by simp [mpE, Instr.findNow, Instr.sameNow, lk, h]⟩
    · exact ⟨j, by
      have e : (x == k) = false := by simp [h]
      simp [mpE, Instr.findNow, Instr.sameNow, lk, h, hj, e]⟩
theorem checkKey_int {e : Bool} {n : Nat} {x : Int} (hk : P.underlying kt = some (.int kd)) (w : World) : (Instr.checkKey e (n + 1) kt (.int kd x)).run P w = .ok () w := by
  simp only [Instr.checkKey, Sem.run_bind, run_und hk, Result.andThen, Sem.run_pure]
theorem findKey_mp (hk : P.underlying kt = some (.int kd)) (x : Int) (l : List (Int × Value)) (b : Nat) (w : World) : ∃ j, (Instr.findKey kt (.int kd x) (mpE kd l b)).run P w = .ok ((lk l x).map fun v => (j, v)) w := by
  obtain ⟨j, hj⟩ := findNow_mp (kd := kd) x l b 0
  exact ⟨j, by simp only [Instr.findKey, Sem.run_bind, run_und hk, Result.andThen, hj, Sem.run_pure]⟩
theorem mpE_snoc (k : Int) (v : Value) : ∀ (l : List (Int × Value)) (b : Nat), mpE kd (l ++ [(k, v)]) b = mpE kd l b ++ [{ key := .int kd k, val := v, born := b + l.length }]
  | [], b => by simp [mpE]
  | (k', v') :: l, b => by simp [mpE, mpE_snoc k v l (b + 1)]; omega
theorem get_map {r : Nat} {es : Array MapEntry} {clock : Nat} (hb : w.heap[r]? = some (.map es clock)) : (getObj r).run P w = .ok (.map es clock) w := by
  simp [getObj, Sem.run, hb]
theorem set_map {r : Nat} {es : Array MapEntry} {clock : Nat} (o : Obj) (hb : w.heap[r]? = some (.map es clock)) : (setObj r o).run P w = .ok () (w.putObj r o) := by
  simp [setObj, Sem.run, hb, World.putObj]
theorem mk_rule (h : Ow B w H) (k : ∀ b w', Ow B w' ((b, mpo kd []) :: H) → KW (.map (some b)) w') : opW P (Instr.makeMap t none) KW w :=
  ⟨_, _, rfl, k _ _ (h.alloc _)⟩
theorem mu_rule {A C : Hp} {b : Nat} {l : List (Int × Value)} {x : Int} {v : Value} (h : Ow B w (A ++ (b, mpo kd l) :: C)) (ht : P.underlying t = some (.map kt et)) (hk : P.underlying kt = some (.int kd)) (hn : lk l x = none)
    (k : ∀ w', Ow B w' (A ++ (b, mpo kd (l ++ [(x, v)])) :: C) → KU w') : opU P (Instr.mapUpdate t (.map (some b)) (.int kd x) v) KU w := by
  have hb := h.mem b _ (List.mem_append_right _ List.mem_cons_self)
  obtain ⟨j, hj⟩ := findKey_mp hk x l 0 w
  refine ⟨_, ?_, k _ (h.put _)⟩
  simp only [Instr.mapUpdate, Sem.run_bind, run_und ht, Result.andThen, get_map hb, checkKey_int hk, hj, hn, Option.map_none]
  rw [set_map _ hb]
  simp [mpo, mpE_snoc]
theorem lk_rule {b : Nat} {l : List (Int × Value)} {x : Int} {z : Value} (h : Ow B w H) (hm : (b, mpo kd l) ∈ H) (ht : P.underlying t = some (.map kt et)) (hk : P.underlying kt = some (.int kd)) (hz : zo P et = some z)
    (k : KW (.tuple #[(lk l x).getD z, .bool (lk l x).isSome]) w) : opW P (Instr.lookup t (.map (some b)) (.int kd x) true) KW w := by
  have hb := h.mem b _ hm
  obtain ⟨j, hj⟩ := findKey_mp hk x l 0 w
  refine ⟨_, w, ?_, k⟩
  simp only [Instr.lookup, Sem.run_bind, run_und ht, Result.andThen, get_map hb, checkKey_int hk, Sem.run_pure, hj]
  cases lk l x <;> simp [Sem.run_bind, run_zero hz, Result.andThen, Sem.run_pure]
end
end Go.Proofs.YtkkkcafkepnecaaGreat.Vc
