/- Helpers: parts of own slices, structs of one cell, equality of structs and arrays. -/
import Derived.Test.YtkkkcafkepnecaaGreatVcP
import Derived.Laws.StructEq
import Derived.ChangeKeysEq
set_option linter.unusedVariables false
set_option linter.unusedSimpArgs false
namespace Go.Proofs.YtkkkcafkepnecaaGreat.Vc
open Go Go.RowKit

section
variable {P : Program} {B w : World} {H : Hp} {K : Value → Prop} {KW : Value → World → Prop} {KU : World → Prop}
/-- A struct of one cell. -/
theorem ld1 (h : Ow B w H) {b : Nat} {e : TypeId} {v : Value} (hm : (b, cel [v] e) ∈ H) (k : K (.agg #[v])) : ldW (some 1) (ptr b) w K :=
  ldn_here h hm (vs := [v]) rfl rfl k
theorem lds1 {Q : World → Prop} {b : Nat} {e : TypeId} {v : Value} (h : ∀ w, Q w → Ow B w H) (hm : (b, cel [v] e) ∈ H) (k : K (.agg #[v])) : ldS (some 1) (ptr b) Q K :=
  ldsn_here h hm (vs := [v]) rfl rfl k
theorem st1s {A C : Hp} {b : Nat} {e : TypeId} {u v : Value} (h : Ow B w (A ++ (b, cel [u] e) :: C)) (hp : plainV v = true) (k : ∀ w', Ow B w' (A ++ (b, cel [v] e) :: C) → KU w') : stW 1 (ptr b) (.agg #[v]) KU w :=
  st_here h [v] rfl rfl (by simp [hp]) (by simp) (fun w' h' => k w' (by simpa using h'))
theorem info_of {e : TypeId} {size bytes : Nat} {z : Value} (h : (P.info? e).map (fun i => (i.zero, i.size, i.bytes)) = some (some z, size, bytes)) : ∃ i, P.info? e = some i ∧ i.zero = some z ∧ i.size = size ∧ i.bytes = bytes := by
  obtain ⟨i, hi, he⟩ := Option.map_eq_some_iff.1 h
  simp only [Prod.mk.injEq] at he
  exact ⟨i, hi, he.1, he.2.1, he.2.2⟩
def isFnT (P : Program) (t : TypeId) : Bool := match P.underlying t with
  | some (.func _ _ _) => true
  | _ => false
theorem pu_fnl {t : TypeId} {c : Bool} (ht : isFnT P t = true) {f : Fn} {a b : Array Value} (k : K (.bool false)) : pu P (binV .eql t c (.func f a b) .nilFunc) K := by
  unfold isFnT at ht
  split at ht
  · rename_i h; exact pu_fnil h k
  · cases ht
/-- append, of slices of numbers. -/
theorem app1 {A C S H' : Hp} {v x : Value} {n bytes : Nat} {t e ty : TypeId} {xs ys : List Value} {z : Value} (h : Ow B w (A ++ S ++ C)) (ho : Own S e 1 v n xs) (hs : Sl H' x ys) (hH : ∀ y, y ∈ H' → y ∈ A ++ S ++ C)
    (hp : ys.all plainV = true) (ht : P.underlying t = some (.slice e)) (hi : (P.info? e).map (fun i => (i.zero, i.size, i.bytes)) = some (some z, 1, bytes)) (hz : z.cells.size = 1) (h63 : n + ys.length ≤ maxLen) (hb : (n + ys.length) * bytes ≤ 140737488355328)
    (k : ∀ S' v' w', Ow B w' (A ++ S' ++ C) → Own S' e 1 v' (n + ys.length) (xs ++ ys) → KW v' w') : opW P (Builtin.append_ #[t, t] ty #[v, x]) KW w := by
  obtain ⟨i, h1, h2, h3, h4⟩ := info_of hi
  exact app_rule h ho hs.src hH hp ht h1 h2 h3 h4 hz (by omega) h63 hb k
/-- A read at an index of a slice. -/
theorem sl_ld {s v : Value} {xs : List Value} {n : Int} {kd : IntKind} (h : Ow B w H) (hs : Sl H s xs) (h0 : 0 ≤ n) (hv : xs[n.toNat]? = some v) (k : K v) : ixS 1 s (.int kd n) fun p => ldW none p w K := by
  obtain ⟨a, cap, rfl, hc, hx⟩ := hs
  obtain ⟨p, rfl, hcell⟩ := hx _ _ hv
  have hlt := (List.getElem?_eq_some_iff.1 hv).1
  refine ixS_rule h0 (by omega) ?_
  rw [Nat.mul_one]
  exact ld_cell h hcell k
theorem sl_lds {Q : World → Prop} {s v : Value} {xs : List Value} {n : Int} {kd : IntKind} (h : ∀ w, Q w → Ow B w H) (hs : Sl H s xs) (h0 : 0 ≤ n) (hv : xs[n.toNat]? = some v) (k : K v) : ixS 1 s (.int kd n) fun p => ldS none p Q K := by
  obtain ⟨a, cap, rfl, hc, hx⟩ := hs
  obtain ⟨p, rfl, hcell⟩ := hx _ _ hv
  have hlt := (List.getElem?_eq_some_iff.1 hv).1
  refine ixS_rule h0 (by omega) ?_
  rw [Nat.mul_one]
  exact lds_cell h hcell k
theorem Sl.len {s : Value} {xs : List Value} (hs : Sl H s xs) : ∃ a c, s = .slice a xs.length c := by
  obtain ⟨a, cap, rfl, hc, hx⟩ := hs
  exact ⟨a, cap, rfl⟩
theorem sl_ln {s : Value} {xs : List Value} (hs : Sl H s xs) (k : K (vI xs.length)) : lnS s K := by
  obtain ⟨a, cap, rfl, hc, hx⟩ := hs
  exact k
theorem sl_cells {s : Value} {xs : List Value} (hs : Sl H s xs) : s.cells = #[s] := by
  obtain ⟨a, cap, rfl, hc, hx⟩ := hs
  rfl
theorem sl_plain {s : Value} {xs : List Value} (hs : Sl H s xs) : plainV s = true := by
  obtain ⟨a, cap, rfl, hc, hx⟩ := hs
  rfl
theorem sl_nil (H : Hp) (c : Nat) (hc : c = 0) : Sl H (.slice none 0 c) [] := ⟨none, c, rfl, Nat.zero_le _, by simp⟩
/-- A write at an index of an own slice. -/
theorem own_set {A C S : Hp} {e : TypeId} {v x : Value} {n : Nat} {xs : List Value} {i : Int} {kd : IntKind} (h : Ow B w (A ++ S ++ C)) (ho : Own S e 1 v n xs) (h0 : 0 ≤ i) (h1 : i < n) (hc : x.cells = #[x]) (hp : plainV x = true)
    (k : ∀ S' w', Ow B w' (A ++ S' ++ C) → Own S' e 1 v n (xs.set i.toNat x) → KU w') : ixS 1 v (.int kd i) fun p => stW 1 p x KU w := by
  obtain ⟨hl, ⟨rfl, rfl, rfl⟩ | ⟨g, cap, l, rfl, rfl, hcap, hm, hlen, hx⟩⟩ := ho
  · omega
  · refine ixS_at h0 h1 ?_
    have h' : Ow B w (A ++ (g, cel l e) :: C) := by simpa using h
    refine st1_here h' hc hp (by simp at hlen; omega) (fun w' hw' => ?_)
    simp only [Nat.mul_one, Nat.zero_add] at hw'
    refine k [(g, cel (l.set i.toNat x) e)] w' (by simpa using hw') ?_
    refine Own.mk hcap hm (by simpa using hlen) ?_
    rw [← hx, Nat.mul_one, List.take_set]
/-- An array's cells as a slice. -/
theorem pu_slarr {t e : TypeId} {i : TypeInfo} {n b o : Nat} (ht : P.underlying t = some (.array n e)) (hi : P.info? e = some i) (k : K (.slice (some ⟨b, o, none⟩) n n)) : pu P (Instr.sliceAt t (ptr b o) none none none) K := by
  refine ⟨_, fun w => ?_, k⟩
  simp only [Instr.sliceAt, Sem.run_bind, run_und ht, Result.andThen, Instr.sureAddr, Sem.run_pure, Instr.sliceBounds, run_size hi, Nat.sub_zero, Nat.zero_mul, add_mk, Nat.add_zero, ite_self]
theorem sl_part {b o n : Nat} {l xs : List Value} {e : TypeId} (hm : (b, cel l e) ∈ H) (hx : (l.drop o).take n = xs) (hn : xs.length = n) : Sl H (.slice (some ⟨b, o, none⟩) n n) xs := by
  subst hn
  refine ⟨_, _, rfl, Nat.le_refl _, fun i x hi => ⟨_, rfl, ?_⟩⟩
  rw [add_mk]
  refine cell_here hm ?_
  rw [← hx, List.getElem?_take] at hi
  split at hi
  · simpa using hi
  · cases hi

/-! ### Equality -/
def EqR (P : Program) (d : Nat) (t : TypeId) (x y : Value) (r : Bool) : Prop := ∀ w, (Op.equalIn d t x y).run P w = .ok r w
theorem eqr_int {d : Nat} {t : TypeId} {k : IntKind} (ht : P.underlying t = some (.int k)) {kd : IntKind} (a b : Int) : EqR P (d + 1) t (.int kd a) (.int kd b) (a == b) := fun w => by
  simp only [Op.equalIn, Sem.run_bind, run_und ht, Result.andThen, Sem.run_pure, if_true]
theorem eqr_bool {d : Nat} {t : TypeId} (ht : P.underlying t = some .bool) (a b : Bool) : EqR P (d + 1) t (.bool a) (.bool b) (a == b) := fun w => by
  simp only [Op.equalIn, Sem.run_bind, run_und ht, Result.andThen, Sem.run_pure]
theorem eqItems_ints {d : Nat} {e : TypeId} {k kd : IntKind} {i : TypeInfo} (he : P.underlying e = some (.int k)) (hi : P.info? e = some i) (as bs : List Int) : ∀ (is : List Nat), (∀ j ∈ is, j < as.length ∧ j < bs.length) → ∀ w,
    (Op.eqItems (d + 1) e 1 (as.map (.int kd ·)).toArray (bs.map (.int kd ·)).toArray is).run P w = .ok (is.all fun j => as[j]? == bs[j]?) w
  | [], _, w => rfl
  | j :: is, hj, w => by
    obtain ⟨h1, h2⟩ := hj j List.mem_cons_self
    have ih := eqItems_ints (d := d) (kd := kd) he hi as bs is (fun j hm => hj j (List.mem_cons_of_mem _ hm)) w
    have hag : agT P e = false := by simp [agT, he]
    have e1 : (as.map (.int kd ·)).toArray[j * 1]? = some (Value.int kd as[j]) := by simp [h1]
    have e2 : (bs.map (.int kd ·)).toArray[j * 1]? = some (Value.int kd bs[j]) := by simp [h2]
    have e3 : (Op.equalIn (d + 1) e (.int kd as[j]) (.int kd bs[j])).run P w = .ok (as[j] == bs[j]) w := eqr_int (d := d) he (kd := kd) as[j] bs[j] w
    have e4 : (as[j]? == bs[j]?) = (as[j] == bs[j]) := by rw [List.getElem?_eq_getElem h1, List.getElem?_eq_getElem h2]; rfl
    simp only [Op.eqItems, part, Sem.run_bind, run_agg he, hag, Result.andThen, e1, e2, Sem.run_pure, Sem.run_ite, List.all_cons, e4]
    generalize as[j] = x at *
    generalize bs[j] = y at *
    simp only [Bool.false_eq_true, if_false, Sem.run_pure, e3, ih]
    cases x == y <;> simp
theorem eqr_ints {d n : Nat} {t e : TypeId} {k kd : IntKind} {i : TypeInfo} (ht : P.underlying t = some (.array n e)) (he : P.underlying e = some (.int k)) (hi : P.info? e = some i) (hz : P.cellsOf e = 1) {as bs : List Int} (ha : as.length = n) (hb : bs.length = n) :
    EqR P (d + 2) t (.agg (as.map (.int kd ·)).toArray) (.agg (bs.map (.int kd ·)).toArray) (decide (as = bs)) := fun w => by
  rw [run_equalIn_array w (d + 1) _ _ ht hi, hz, eqItems_ints he hi as bs _ (fun j hj => by simp at hj; omega)]
  congr 1
  by_cases h : as = bs
  · subst h; simp
  · simp only [h, decide_false, List.all_eq_false, List.mem_range]
    false_or_by_contra
    rename_i hno
    refine h (List.ext_getElem? fun j => ?_)
    by_cases hj : j < n
    · simp only [not_exists, not_and] at hno
      have := hno j hj
      simpa using this
    · rw [List.getElem?_eq_none (by omega), List.getElem?_eq_none (by omega)]
def EqF (P : Program) (d : Nat) (xs ys : Array Value) (fs : List Field) (r : Bool) : Prop := ∀ w, (Op.eqFields d xs ys fs).run P w = .ok r w
theorem eqf_nil {d : Nat} {xs ys : Array Value} : EqF P d xs ys [] true := fun w => rfl
theorem eqf_cons {d : Nat} {xs ys : Array Value} {f : Field} {fs : List Field} {r r' : Bool} {z : Option Nat} {a b : Value} (hn : f.name ≠ "_") (hz : ldSize P f.type = some z) (hx : ptW f.offset z (.agg xs) (fun v => v = a)) (hy : ptW f.offset z (.agg ys) (fun v => v = b))
    (h : EqR P d f.type a b r) (hr : EqF P d xs ys fs r') : EqF P d xs ys (f :: fs) (r && r') := fun w => by
  obtain ⟨cs, v, e1, h1, rfl⟩ := pt_sound hz hx
  obtain ⟨cs', v', e2, h2, rfl⟩ := pt_sound hz hy
  cases e1; cases e2
  simp only [Op.eqFields, hn, ne_eq, not_false_eq_true, if_true, Sem.run_bind, h1, h2, Result.andThen, h w, Sem.run_ite, Sem.run_pure, hr w]
  cases r <;> simp
theorem eqr_struct {d : Nat} {t : TypeId} {xs ys : Array Value} {fs : List Field} {r : Bool} (ht : P.underlying t = some (.struct (P.fieldsOf t))) (hp : P.stoodInHeld t = false) (hf : (P.fieldsOf t).toList = fs) (h : EqF P d xs ys fs r) :
    EqR P (d + 1) t (.agg xs) (.agg ys) r := fun w => by
  rw [run_equalIn_struct w d t xs ys ht hp, hf]
  exact h w
theorem pu_aeql {t : TypeId} {c : Bool} {xs ys : Array Value} {r : Bool} (hg : P.eqGuardType P.depth t = false) (h : EqR P 10000 t (.agg xs) (.agg ys) r) (k : K (.bool r)) : pu P (binV .eql t c (.agg xs) (.agg ys)) K := by
  refine ⟨_, fun w => ?_, k⟩
  unfold binV
  simp only [Sem.run_bind, run_eqGuard_agg w .eql t _ _ xs ys hg, Result.andThen, run_eql_struct, h w]
theorem pu_aneq {t : TypeId} {c : Bool} {xs ys : Array Value} {r : Bool} (hg : P.eqGuardType P.depth t = false) (h : EqR P 10000 t (.agg xs) (.agg ys) r) (k : K (.bool !r)) : pu P (binV .neq t c (.agg xs) (.agg ys)) K := by
  refine ⟨_, fun w => ?_, k⟩
  unfold binV
  simp only [Sem.run_bind, run_eqGuard_agg w .neq t _ _ xs ys hg, Result.andThen, run_neq_struct, h w]
end
end Go.Proofs.YtkkkcafkepnecaaGreat.Vc
