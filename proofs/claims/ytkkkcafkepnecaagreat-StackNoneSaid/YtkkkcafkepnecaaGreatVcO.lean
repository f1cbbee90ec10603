/- What is held of memory, as a list of blocks; the rules of the conditions over it. -/
import Derived.Test.YtkkkcafkepnecaaGreatVcG
set_option linter.unusedVariables false
set_option linter.unusedSimpArgs false
namespace Go.Proofs.YtkkkcafkepnecaaGreat.Vc
open Go Go.RowKit

abbrev Hp := List (Nat × Obj)
/-- The outside is as in B; the blocks of H are as listed, all of them different ones. -/
structure Ow (B : World) (w : World) (H : Hp) : Prop where
  os : w.os = B.os
  tape : w.tape = B.tape
  output : w.output = B.output
  mem : ∀ b o, (b, o) ∈ H → w.heap[b]? = some o
  nd : (H.map Prod.fst).Nodup

/-- Shorter words. -/
abbrev ptr (b : Nat) (off : Nat := 0) : Value := .pointer (some ⟨b, off, none⟩)
abbrev vI (n : Int) : Value := .int .i64 n
abbrev vB (b : Bool) : Value := .bool b
abbrev cel (l : List Value) (e : TypeId) : Obj := .cells l.toArray e (0, 0)

section
variable {B w : World} {H : Hp}

theorem Ow.lt (h : Ow B w H) {b : Nat} {o : Obj} (hm : (b, o) ∈ H) : b < w.heap.size := (Array.getElem?_eq_some_iff.1 (h.mem b o hm)).1
theorem Ow.fresh (h : Ow B w H) : w.heap.size ∉ H.map Prod.fst := fun hm => by
  obtain ⟨p, hp, he⟩ := List.mem_map.1 hm
  have := h.lt (b := p.1) (o := p.2) hp
  omega
theorem Ow.alloc (h : Ow B w H) (o : Obj) : Ow B (w.alloc o) ((w.heap.size, o) :: H) where
  os := h.os
  tape := h.tape
  output := h.output
  mem := fun b o' hm => by
    rcases List.mem_cons.1 hm with he | hm
    · cases he; exact World.alloc_heap_new w o
    · have := h.lt hm
      rw [Below.heap_alloc w o b this]; exact h.mem b o' hm
  nd := by simpa using ⟨by simpa using h.fresh, h.nd⟩
theorem Ow.drew (h : Ow B w H) : Ow B w.drew H := ⟨h.os, h.tape, h.output, h.mem, h.nd⟩
theorem Ow.sub {H' : Hp} (h : Ow B w H) (hs : H'.Sublist H) : Ow B w H' :=
  ⟨h.os, h.tape, h.output, fun b o hm => h.mem b o (hs.subset hm), h.nd.sublist (hs.map _)⟩
theorem Ow.drop {p : Nat × Obj} (h : Ow B w (p :: H)) : Ow B w H := h.sub (List.sublist_cons_self p H)
theorem Ow.perm {H' : Hp} (h : Ow B w H) (hp : H.Perm H') : Ow B w H' :=
  ⟨h.os, h.tape, h.output, fun b o hm => h.mem b o (hp.mem_iff.2 hm), (hp.map Prod.fst).nodup_iff.1 h.nd⟩
theorem Ow.put {A C : Hp} {b : Nat} {o : Obj} (h : Ow B w (A ++ (b, o) :: C)) (o' : Obj) : Ow B (w.putObj b o') (A ++ (b, o') :: C) where
  os := h.os
  tape := h.tape
  output := h.output
  nd := by have := h.nd; simpa using this
  mem := fun c o'' hm => by
    have hb : b < w.heap.size := h.lt (List.mem_append_right _ List.mem_cons_self)
    have hnd : (A.map Prod.fst ++ b :: C.map Prod.fst).Nodup := by have := h.nd; simpa using this
    have hne : ∀ x, (c, x) ∈ A ++ C → c ≠ b := fun x hx e => by
      subst e
      rw [List.perm_middle.nodup_iff] at hnd
      have hx' : c ∈ A.map Prod.fst ++ C.map Prod.fst := by
        rw [← List.map_append]; exact List.mem_map.2 ⟨_, hx, rfl⟩
      exact (List.nodup_cons.1 hnd).1 hx'
    rcases List.mem_append.1 hm with hA | hC
    · rw [World.putObj_heap_other (hne o'' (List.mem_append_left _ hA))]
      exact h.mem c o'' (List.mem_append_left _ hA)
    · rcases List.mem_cons.1 hC with he | hC
      · cases he; exact World.putObj_heap_same hb
      · rw [World.putObj_heap_other (hne o'' (List.mem_append_right _ hC))]
        exact h.mem c o'' (List.mem_append_right _ (List.mem_cons_of_mem _ hC))
theorem Ow.ne {A C : Hp} {b : Nat} {o : Obj} (h : Ow B w (A ++ (b, o) :: C)) {c : Nat} {o' : Obj} (hm : (c, o') ∈ A ++ C) : c ≠ b := fun e => by
  have hnd : (A.map Prod.fst ++ b :: C.map Prod.fst).Nodup := by have := h.nd; simpa using this
  rw [List.perm_middle.nodup_iff] at hnd
  refine (List.nodup_cons.1 hnd).1 ?_
  rw [← List.map_append]; exact List.mem_map.2 ⟨_, hm, e⟩

/-! ### What lies in a cell -/
def Cell (H : Hp) (p : Addr) (v : Value) : Prop := ∃ c e fz, (p.block, Obj.cells c e fz) ∈ H ∧ p.spot = none ∧ c[p.off]? = some v
theorem Cell.mono {H' : Hp} {p : Addr} {v : Value} (h : Cell H p v) (hs : ∀ x, x ∈ H → x ∈ H') : Cell H' p v := by
  obtain ⟨c, e, fz, hm, h⟩ := h; exact ⟨c, e, fz, hs _ hm, h⟩
theorem Cell.cons {x : Nat × Obj} {p : Addr} {v : Value} (h : Cell H p v) : Cell (x :: H) p v := h.mono fun _ => List.mem_cons_of_mem _
theorem Ow.cell (h : Ow B w H) {p : Addr} {v : Value} (hc : Cell H p v) : w.cell? p = some v := by
  obtain ⟨c, e, fz, hm, hs, hv⟩ := hc
  simp only [World.cell?, h.mem _ _ hm, hs]
  simpa using hv
theorem cell_here {b off : Nat} {l : List Value} {e : TypeId} {v : Value} (hm : (b, cel l e) ∈ H) (hv : l[off]? = some v) : Cell H ⟨b, off, none⟩ v :=
  ⟨_, _, _, hm, rfl, by simpa using hv⟩

/-! ### The atoms -/
variable {K : Value → Prop} {KW : Value → World → Prop} {KU : World → Prop}
theorem ld_cell (h : Ow B w H) {p : Addr} {v : Value} (hc : Cell H p v) (k : K v) : ldW none (.pointer (some p)) w K := ⟨v, ⟨p, rfl, h.cell hc⟩, k⟩
theorem ld_here (h : Ow B w H) {b off : Nat} {l : List Value} {e : TypeId} {v : Value} (hm : (b, cel l e) ∈ H) (hv : l[off]? = some v) (k : K v) : ldW none (ptr b off) w K :=
  ld_cell h (cell_here hm hv) k
theorem add_block (a : Addr) (n : Nat) : (a.add n).block = a.block := by unfold Addr.add; split <;> rfl
theorem add_off (a : Addr) (n : Nat) : (a.add n).off = a.off + n := by unfold Addr.add; split <;> simp_all
theorem add_spot {a : Addr} (h : a.spot = none) (n : Nat) : (a.add n).spot = none := by unfold Addr.add; split <;> simp_all
theorem add_mk (b off n : Nat) : (⟨b, off, none⟩ : Addr).add n = ⟨b, off + n, none⟩ := by unfold Addr.add; split <;> simp_all
theorem ldn_here (h : Ow B w H) {b off n : Nat} {l : List Value} {e : TypeId} (hm : (b, cel l e) ∈ H) {vs : List Value} (hv : (l.drop off).take n = vs) (hl : vs.length = n) (k : K (.agg vs.toArray)) :
    ldW (some n) (ptr b off) w K := by
  refine ⟨_, ⟨_, vs, rfl, hl, fun i u hu => ?_, rfl⟩, k⟩
  rw [add_mk]
  refine h.cell (cell_here hm ?_)
  rw [← hv] at hu
  rw [List.getElem?_take] at hu
  split at hu
  · simpa using hu
  · cases hu
theorem lds_here {Q : World → Prop} {b off : Nat} {l : List Value} {e : TypeId} {v : Value} (h : ∀ w, Q w → Ow B w H) (hm : (b, cel l e) ∈ H) (hv : l[off]? = some v) (k : K v) : ldS none (ptr b off) Q K :=
  ⟨v, fun w hw => ⟨_, rfl, (h w hw).cell (cell_here hm hv)⟩, k⟩
theorem lds_cell {Q : World → Prop} {p : Addr} {v : Value} (h : ∀ w, Q w → Ow B w H) (hc : Cell H p v) (k : K v) : ldS none (.pointer (some p)) Q K :=
  ⟨v, fun w hw => ⟨_, rfl, (h w hw).cell hc⟩, k⟩
theorem fa_rule {off : Nat} {a : Addr} (k : K (.pointer (some (a.add off)))) : faW off (.pointer (some a)) K := ⟨a, rfl, k⟩
theorem fa_at {off b o : Nat} (k : K (ptr b (o + off))) : faW off (ptr b o) K := ⟨_, rfl, by rw [add_mk]; exact k⟩
theorem ixA_at {len size b o : Nat} {n : Int} {kd : IntKind} (h0 : 0 ≤ n) (h1 : n < (len : Int)) (k : K (ptr b (o + n.toNat * size))) : ixA len size (ptr b o) (.int kd n) K :=
  ⟨_, _, _, rfl, rfl, h0, h1, by rw [add_mk]; exact k⟩
theorem ixS_at {size b o len cap : Nat} {n : Int} {kd : IntKind} (h0 : 0 ≤ n) (h1 : n < (len : Int)) (k : K (ptr b (o + n.toNat * size))) : ixS size (.slice (some ⟨b, o, none⟩) len cap) (.int kd n) K :=
  ⟨_, _, _, _, _, rfl, rfl, h0, h1, by rw [add_mk]; exact k⟩
theorem ixS_rule {size len cap : Nat} {a : Addr} {n : Int} {kd : IntKind} (h0 : 0 ≤ n) (h1 : n < (len : Int)) (k : K (.pointer (some (a.add (n.toNat * size))))) : ixS size (.slice (some a) len cap) (.int kd n) K :=
  ⟨_, _, _, _, _, rfl, rfl, h0, h1, k⟩
theorem al_rule (h : Ow B w H) {l : List Value} {cs : Array Value} {t : TypeId} (hc : cs = l.toArray) (k : ∀ b w', Ow B w' ((b, cel l t) :: H) → KW (ptr b) w') : alW cs t KW w := by
  subst hc; exact k _ _ (h.alloc _)
theorem wrL_list : ∀ (vs l : List Value) (off : Nat), off + vs.length ≤ l.length → wrL l.toArray off vs = (l.take off ++ vs ++ l.drop (off + vs.length)).toArray
  | [], l, off, _ => by simp [wrL]
  | v :: vs, l, off, hle => by
    simp only [List.length_cons] at hle
    simp only [wrL, List.setIfInBounds_toArray]
    rw [wrL_list vs _ (off + 1) (by simp; omega)]
    congr 1
    apply List.ext_getElem?
    intro i
    simp only [List.getElem?_append, List.getElem?_take, List.getElem?_drop, List.getElem?_set, List.length_take, List.length_set, List.length_append, List.length_cons, List.getElem?_cons]
    grind
theorem st_here {A C : Hp} {b off n : Nat} {l : List Value} {e : TypeId} {v : Value} (h : Ow B w (A ++ (b, cel l e) :: C)) (vs : List Value) (hv : v.cells = vs.toArray) (hn : vs.length = n) (hp : vs.all plainV = true)
    (hle : off + n ≤ l.length) (k : ∀ w', Ow B w' (A ++ (b, cel (l.take off ++ vs ++ l.drop (off + n)) e) :: C) → KU w') : stW n (ptr b off) v KU w := by
  refine ⟨_, l.toArray, e, (0, 0), rfl, h.mem _ _ (List.mem_append_right _ List.mem_cons_self), by rw [hv]; simpa using hn, ?_, rfl, by simpa using hle, .inr (Nat.zero_le _), ?_⟩
  · rw [hv]; intro u hu; exact List.all_eq_true.1 hp u (by simpa using hu)
  · rw [hv, wrL_list vs l off (by rw [hn]; exact hle), hn]
    exact k _ (h.put _)
theorem st1_here {A C : Hp} {b off : Nat} {l : List Value} {e : TypeId} {v : Value} (h : Ow B w (A ++ (b, cel l e) :: C)) (hv : v.cells = #[v]) (hp : plainV v = true)
    (hlt : off < l.length) (k : ∀ w', Ow B w' (A ++ (b, cel (l.set off v) e) :: C) → KU w') : stW 1 (ptr b off) v KU w := by
  refine ⟨_, l.toArray, e, (0, 0), rfl, h.mem _ _ (List.mem_append_right _ List.mem_cons_self), by rw [hv]; rfl, ?_, rfl, by simp; omega, .inr (Nat.zero_le _), ?_⟩
  · rw [hv]; intro u hu; simp at hu; subst hu; exact hp
  · rw [hv]; simp only [wrL, List.setIfInBounds_toArray]
    exact k _ (h.put _)
theorem bs_rule (h : Ow B w H) {e : TypeId} {len : Nat} {cs : Option (Array Value)} (l : List Value) (hc : cs = some l.toArray) (k : ∀ b w', Ow B w' ((b, cel l e) :: H) → KW (.slice (some ⟨b, 0, none⟩) len len) w') : bsW e len cs KW w :=
  ⟨_, hc, k _ _ (h.alloc _)⟩
theorem ibeq (a b : Int) : (a == b) = decide (a = b) := rfl
theorem cnd {b : Bool} {X Y : Prop} (ht : b = true → X) (hf : b = false → Y) : condV (.bool b) X Y := by
  unfold condV
  cases b
  · exact hf rfl
  · exact ht rfl
theorem cnd_t {b : Bool} {X Y : Prop} (hb : b = true) (h : X) : condV (.bool b) X Y := by subst hb; unfold condV; exact h
theorem cnd_f {b : Bool} {X Y : Prop} (hb : b = false) (h : Y) : condV (.bool b) X Y := by subst hb; unfold condV; exact h

/-! ### Reckoning -/
variable {P : Program}
theorem pu_of {m : Sem Value} {v : Value} (h : ∀ w, m.run P w = .ok v w) (k : K v) : pu P m K := ⟨v, h, k⟩
section ints
variable {t : TypeId} {c : Bool} {kd : IntKind} {a b : Int}
def grdV (x : Value) : Bool := match x with
  | .nilIface => true
  | .agg _ => true
  | _ => false
theorem eqg_run {op : BinOp} {x y : Value} {x' y' : Operand} (hx : grdV x = false) (w : World) : (eqGuard op t x' y' x y).run P w = .ok () w := by
  cases op
  case eql => cases x <;> simp only [grdV, Bool.true_eq_false] at hx <;> cases y <;> rfl
  case neq => cases x <;> simp only [grdV, Bool.true_eq_false] at hx <;> cases y <;> rfl
  all_goals rfl
theorem binV_run {op : BinOp} {x y v : Value} (hx : grdV x = false) (h : ∀ w, (binOp op t x y).run P w = .ok v w) (w : World) : (binV op t c x y).run P w = .ok v w := by
  unfold binV
  simp only [Sem.run_bind, eqg_run hx, Result.andThen, h]
theorem int_bin {op : BinOp} {v : Value} (h : ∀ w, (binOp op t (.int kd a) (.int kd b)).run P w = .ok v w) (k : K v) : pu P (binV op t c (.int kd a) (.int kd b)) K :=
  ⟨v, binV_run rfl h, k⟩
theorem pu_add (k : K (.int kd (kd.wrap (a + b)))) : pu P (binV .add t c (.int kd a) (.int kd b)) K := int_bin (fun w => by simp [binOp, Op.intArith, Sem.run_pure]) k
theorem pu_sub (k : K (.int kd (kd.wrap (a - b)))) : pu P (binV .sub t c (.int kd a) (.int kd b)) K := int_bin (fun w => by simp [binOp, Op.intArith, Sem.run_pure]) k
theorem pu_mul (k : K (.int kd (kd.wrap (a * b)))) : pu P (binV .mul t c (.int kd a) (.int kd b)) K := int_bin (fun w => by simp [binOp, Op.intArith, Sem.run_pure]) k
theorem pu_eql (k : K (.bool (a == b))) : pu P (binV .eql t c (.int kd a) (.int kd b)) K := int_bin (fun w => by simp [binOp, Op.intCmp, Sem.run_pure]) k
theorem pu_neq (k : K (.bool (a != b))) : pu P (binV .neq t c (.int kd a) (.int kd b)) K := int_bin (fun w => by simp [binOp, Op.intCmp, Sem.run_pure]) k
theorem pu_lss (k : K (.bool (decide (a < b)))) : pu P (binV .lss t c (.int kd a) (.int kd b)) K := int_bin (fun w => by simp [binOp, Op.intCmp, Sem.run_pure]) k
theorem pu_leq (k : K (.bool (decide (a ≤ b)))) : pu P (binV .leq t c (.int kd a) (.int kd b)) K := int_bin (fun w => by simp [binOp, Op.intCmp, Sem.run_pure]) k
theorem pu_gtr (k : K (.bool (decide (a > b)))) : pu P (binV .gtr t c (.int kd a) (.int kd b)) K := int_bin (fun w => by simp [binOp, Op.intCmp, Sem.run_pure]) k
theorem pu_geq (k : K (.bool (decide (a ≥ b)))) : pu P (binV .geq t c (.int kd a) (.int kd b)) K := int_bin (fun w => by simp [binOp, Op.intCmp, Sem.run_pure]) k
theorem pu_neg (k : K (.int kd (kd.wrap (0 - a)))) : pu P (Op.unary .neg (.int kd a)) K := ⟨_, fun w => by simp [Op.unary, Op.intArith, Sem.run_pure], k⟩
end ints
theorem pu_not {b : Bool} (k : K (.bool !b)) : pu P (Op.unary .not (.bool b)) K := ⟨_, fun w => by simp [Op.unary, Sem.run_pure], k⟩
theorem run_eqB {m : Sem Bool} {r : Bool} {w : World} (h : m.run P w = .ok r w) : (do pure (.bool (← m)) : Sem Value).run P w = .ok (.bool r) w := by
  simp only [Sem.run_bind, h, Result.andThen, Sem.run_pure]
theorem run_neB {m : Sem Bool} {r : Bool} {w : World} (h : m.run P w = .ok r w) : (do pure (.bool (!(← m))) : Sem Value).run P w = .ok (.bool !r) w := by
  simp only [Sem.run_bind, h, Result.andThen, Sem.run_pure]
theorem eq_bool {t : TypeId} (ht : P.underlying t = some .bool) (a b : Bool) (w : World) : (Op.equal t (.bool a) (.bool b)).run P w = .ok (a == b) w := by
  have : ∀ d, (Op.equalIn (d + 1) t (.bool a) (.bool b)).run P w = .ok (a == b) w := fun d => by simp only [Op.equalIn, Sem.run_bind, run_und ht, Result.andThen, Sem.run_pure]
  exact this 9999
theorem eq_pnil {t e : TypeId} (ht : P.underlying t = some (.pointer e)) (a : Option Addr) (w : World) : (Op.equal t (.pointer a) (.pointer none)).run P w = .ok a.isNone w := by
  have : ∀ d, (Op.equalIn (d + 1) t (.pointer a) (.pointer none)).run P w = .ok a.isNone w := fun d => by cases a <;> simp only [Op.equalIn, Sem.run_bind, run_und ht, Result.andThen, Sem.run_pure, Option.isNone]
  exact this 9999
theorem eq_fnil {t : TypeId} {ps rs : Array TypeId} {v : Bool} (ht : P.underlying t = some (.func ps rs v)) (f : Fn) (a b : Array Value) (w : World) : (Op.equal t (.func f a b) .nilFunc).run P w = .ok false w := by
  have : ∀ d, (Op.equalIn (d + 1) t (.func f a b) .nilFunc).run P w = .ok false w := fun d => by simp only [Op.equalIn, Sem.run_bind, run_und ht, Result.andThen, Sem.run_pure]
  exact this 9999
theorem pu_beql {t : TypeId} {c : Bool} (ht : P.underlying t = some .bool) {a b : Bool} (k : K (.bool (a == b))) : pu P (binV .eql t c (.bool a) (.bool b)) K :=
  ⟨_, binV_run rfl (fun w => run_eqB (eq_bool ht a b w)), k⟩
theorem pu_bneq {t : TypeId} {c : Bool} (ht : P.underlying t = some .bool) {a b : Bool} (k : K (.bool (a != b))) : pu P (binV .neq t c (.bool a) (.bool b)) K :=
  ⟨_, binV_run rfl (fun w => run_neB (eq_bool ht a b w)), k⟩
theorem pu_pnil {t e : TypeId} {c : Bool} (ht : P.underlying t = some (.pointer e)) {a : Option Addr} (k : K (.bool a.isNone)) : pu P (binV .eql t c (.pointer a) (.pointer none)) K :=
  ⟨_, binV_run rfl (fun w => run_eqB (eq_pnil ht a w)), k⟩
theorem pu_pnnil {t e : TypeId} {c : Bool} (ht : P.underlying t = some (.pointer e)) {a : Option Addr} (k : K (.bool !a.isNone)) : pu P (binV .neq t c (.pointer a) (.pointer none)) K :=
  ⟨_, binV_run rfl (fun w => run_neB (eq_pnil ht a w)), k⟩
theorem pu_fnil {t : TypeId} {ps rs : Array TypeId} {v : Bool} {c : Bool} (ht : P.underlying t = some (.func ps rs v)) {f : Fn} {a b : Array Value} (k : K (.bool false)) : pu P (binV .eql t c (.func f a b) .nilFunc) K :=
  ⟨_, binV_run rfl (fun w => run_eqB (eq_fnil ht f a b w)), k⟩
theorem pu_min2 {ts : Array TypeId} {kd : IntKind} {a b : Int} (k : K (.int kd (if b < a then b else a))) : pu P (Builtin.min_ ts 0 #[.int kd a, .int kd b]) K :=
  ⟨_, fun w => by simp [Builtin.min_, Builtin.min2, Sem.run_bind, Sem.run_pure, List.foldlM], k⟩
theorem pu_max2 {ts : Array TypeId} {kd : IntKind} {a b : Int} (k : K (.int kd (if b > a then b else a))) : pu P (Builtin.max_ ts 0 #[.int kd a, .int kd b]) K :=
  ⟨_, fun w => by simp [Builtin.max_, Builtin.max2, Sem.run_bind, Sem.run_pure, List.foldlM], k⟩
theorem pu_cvt {s t : TypeId} {kd kd' : IntKind} (hs : ∃ d, P.underlying s = some d) (ht : P.underlying t = some (.int kd')) {n : Int} (k : K (.int kd' (kd'.wrap n))) : pu P (convert s t (.int kd n)) K := by
  obtain ⟨d, hd⟩ := hs
  refine ⟨_, fun w => ?_, k⟩
  simp only [convert, Sem.run_bind, run_und hd, run_und ht, Result.andThen]
  cases d <;> simp [Conv.intToInt, Sem.run_pure]
theorem nl_ptr {a : Addr} (k : K (.pointer (some a))) : nlW (.pointer (some a)) K := k
theorem nl_fn {f : FuncId} {a b : Array Value} (k : K (.func (.func f) a b)) : nlW (.func (.func f) a b) K := k
theorem ex_rule {i : Nat} {vs : Array Value} {v : Value} (h : vs[i]? = some v) (k : K v) : exW i (.tuple vs) K := ⟨v, h, k⟩
theorem ex20 {a b : Value} (k : K a) : exW 0 (.tuple #[a, b]) K := ⟨a, rfl, k⟩
theorem ex21 {a b : Value} (k : K b) : exW 1 (.tuple #[a, b]) K := ⟨b, rfl, k⟩
theorem ex30 {a b c : Value} (k : K a) : exW 0 (.tuple #[a, b, c]) K := ⟨a, rfl, k⟩
theorem ex31 {a b c : Value} (k : K b) : exW 1 (.tuple #[a, b, c]) K := ⟨b, rfl, k⟩
theorem ex32 {a b c : Value} (k : K c) : exW 2 (.tuple #[a, b, c]) K := ⟨c, rfl, k⟩
theorem ln_rule {a : Option Addr} {n c : Nat} (k : K (vI n)) : lnS (.slice a n c) K := k
theorem lnT_rule {s : ByteArray} (k : K (vI s.size)) : lnT (.string s) K := k
theorem pt_at {off : Nat} {l : List Value} {v : Value} (h : l[off]? = some v) (k : K v) : ptW off none (.agg l.toArray) K := ⟨_, v, rfl, by simpa using h, k⟩
theorem ptn_at {off n : Nat} {l vs : List Value} (h : (l.drop off).take n = vs) (k : K (.agg vs.toArray)) : ptW off (some n) (.agg l.toArray) K := by
  refine ⟨_, rfl, ?_⟩
  subst h
  have : l.toArray.extract off (off + n) = ((l.drop off).take n).toArray := by simp [List.take_drop, Nat.add_comm]
  rw [this]; exact k
theorem callV_fn {f : FuncId} {first cap : Array Value} {args : List Value} {PK : List PanicEntry → World → Prop} (hf : okFn P f = true) (h : callW P f (first.toList ++ args ++ cap.toList) KW PK w) :
    callV P (.func (.func f) first cap) args KW PK w := .inl ⟨f, first, cap, rfl, hf, h⟩

/-! ### Slices that are read -/
/-- The slice v holds xs, in blocks of H. -/
def Sl (H : Hp) (v : Value) (xs : List Value) : Prop :=
  ∃ a cap, v = .slice a xs.length cap ∧ xs.length ≤ cap ∧ ∀ i x, xs[i]? = some x → ∃ p, a = some p ∧ Cell H (p.add i) x
theorem Sl.mono {H' : Hp} {v : Value} {xs : List Value} (h : Sl H v xs) (hs : ∀ x, x ∈ H → x ∈ H') : Sl H' v xs := by
  obtain ⟨a, cap, hv, hc, h⟩ := h
  exact ⟨a, cap, hv, hc, fun i x hx => let ⟨p, hp, hcell⟩ := h i x hx; ⟨p, hp, hcell.mono hs⟩⟩
theorem Sl.cons {x : Nat × Obj} {v : Value} {xs : List Value} (h : Sl H v xs) : Sl (x :: H) v xs := h.mono fun _ => List.mem_cons_of_mem _
theorem sl_here {b : Nat} {l : List Value} {e : TypeId} (hm : (b, cel l e) ∈ H) : Sl H (.slice (some ⟨b, 0, none⟩) l.length l.length) l :=
  ⟨_, _, rfl, Nat.le_refl _, fun i x hx => ⟨_, rfl, by rw [add_mk]; exact cell_here hm (by simpa using hx)⟩⟩
/-- A function value that only tells r of x, whatever else lies beside H. -/
def PF (P : Program) (B : World) (H : Hp) (f : Value) (xs : List Value) (r : Value) : Prop :=
  ∀ (X : Hp) (K : Value → World → Prop) (PK : List PanicEntry → World → Prop) (w : World), Ow B w (X ++ H) → (∀ w', Ow B w' (X ++ H) → K r w') → callV P f xs K PK w
theorem PF.cons {x : Nat × Obj} {f : Value} {xs : List Value} {r : Value} (h : PF P B H f xs r) : PF P B (x :: H) f xs r := by
  intro X K PK w hw k
  have e : X ++ x :: H = (X ++ [x]) ++ H := by simp
  rw [e] at hw k
  exact h _ K PK w hw k
end
end Go.Proofs.YtkkkcafkepnecaaGreat.Vc
