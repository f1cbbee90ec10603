/- Bytes and texts: appends, conversions, slices of slices, bits. -/
import Derived.Test.YtkkkcafkepnecaaGreatZA
import Derived.Test.YtkkkcafkepnecaaGreatZB
import Derived.Lib.AppendStr
import Derived.Laws.BytesString
import Derived.Laws.IdiomStrings
import Derived.Lib.SlBytesConst

set_option linter.unusedVariables false
set_option linter.unusedSimpArgs false
namespace Go.Proofs.YtkkkcafkepnecaaGreat.Vc
open Go Go.RowKit

abbrev v8 (n : Nat) : Value := .int .u8 (n : Int)
abbrev v64 (n : Nat) : Value := .int .u64 (n : Int)
abbrev bv (l : List Nat) : List Value := l.map v8
def Byt (l : List Nat) : Prop := ∀ x ∈ l, x < 256
theorem Byt.take {a : List Nat} (h : Byt a) (n : Nat) : Byt (a.take n) := fun x hx => h x (List.mem_of_mem_take hx)
theorem Byt.drop {a : List Nat} (h : Byt a) (n : Nat) : Byt (a.drop n) := fun x hx => h x (List.mem_of_mem_drop hx)
theorem Byt.at {a : List Nat} (h : Byt a) {i x : Nat} (hx : a[i]? = some x) : x < 256 := h x (List.mem_of_getElem? hx)
theorem bs_inj {a b : List Nat} (ha : Byt a) (hb : Byt b) : bs a = bs b ↔ a = b := by
  constructor
  · intro h
    have h1 : a.map UInt8.ofNat = b.map UInt8.ofNat := by
      have := congrArg (fun x : ByteArray => x.data.toList) h
      simpa [bs] using this
    have h2 := congrArg (List.map UInt8.toNat) h1
    simp only [List.map_map] at h2
    have e : ∀ {l : List Nat}, Byt l → l.map (UInt8.toNat ∘ UInt8.ofNat) = l := fun {l} hl => by
      conv => rhs; rw [← List.map_id l]
      refine List.map_congr_left fun x hx => ?_
      have := hl x hx
      simp [UInt8.toNat_ofNat', Nat.mod_eq_of_lt this]
    rwa [e ha, e hb] at h2
  · rintro rfl; rfl
/-- A text's bytes. -/
def tb (s : ByteArray) : List Nat := s.data.toList.map UInt8.toNat
theorem tb_byt (s : ByteArray) : Byt (tb s) := fun x hx => by
  obtain ⟨b, _, rfl⟩ := List.mem_map.1 hx
  exact b.toNat_lt
theorem tb_len (s : ByteArray) : (tb s).length = s.size := by
  unfold tb
  rw [List.length_map, Array.length_toList]
  rfl
theorem bs_tb (s : ByteArray) : bs (tb s) = s := by
  cases s with
  | mk d =>
    simp only [bs, tb, List.map_map]
    congr 1
    have : d.toList.map (UInt8.ofNat ∘ UInt8.toNat) = d.toList := by
      conv => rhs; rw [← List.map_id d.toList]
      exact List.map_congr_left fun x _ => UInt8.ofNat_toNat
    rw [this]
theorem tb_bs {l : List Nat} (h : Byt l) : tb (bs l) = l := (bs_inj (tb_byt _) h).1 (bs_tb _)
theorem bs_size (l : List Nat) : (bs l).size = l.length := by simp [bs, ByteArray.size]
section
variable {P : Program} {B w : World} {H : Hp} {K : Value → Prop} {KW : Value → World → Prop} {KU : World → Prop} {t u e ty : TypeId}
theorem foldl_push (l : List Nat) : ∀ s : ByteArray, (l.map fun n : Nat => (n : Int)).foldl (fun r n => r.push (UInt8.ofNat n.toNat)) s = ⟨s.data ++ (l.map UInt8.ofNat).toArray⟩ := by
  induction l with
  | nil => intro s; simp
  | cons x l ih =>
    intro s
    simp only [List.map_cons, List.foldl_cons]
    rw [ih]
    simp [ByteArray.push]
/-- A text of bytes. -/
theorem cv_b2s {v : Value} {l : List Nat} (h : Ow B w H) (hs : Sl H v (bv l)) (ht : P.underlying t = some (.slice e)) (hu : P.underlying u = some .string) (he : P.underlying e = some (.int .u8))
    (k : KW (.string (bs l)) w) : opW P (convert t u v) KW w := by
  obtain ⟨a, cap, rfl, hc, hx⟩ := hs
  refine ⟨_, w, ?_, k⟩
  simp only [convert, Sem.run_bind, run_und ht, run_und hu, Result.andThen, run_und he]
  cases a with
  | none =>
    have : l = [] := by
      cases l with
      | nil => rfl
      | cons x l => obtain ⟨p, hp, _⟩ := hx 0 _ rfl; cases hp
    subst this
    rfl
  | some a =>
    have hld : (loadCells a (bv l).length).run P w = .ok ((l.map fun n : Nat => (n : Int)).map (Value.int .u8)).toArray w := by
      rw [run_loadCells_list w a (bv l) (fun j v hj => by
        obtain ⟨p, hp, hcell⟩ := hx j v hj
        cases hp
        exact h.cell hcell)]
      simp [bv, List.map_map]
    have := run_bytesToString w a (bv l).length cap _ hld
    rw [this, foldl_push]
    simp [bs]
theorem cv_s2b {s : ByteArray} (h : Ow B w H) (ht : P.underlying t = some (.slice e)) (hu : P.underlying u = some .string) (he : P.underlying e = some (.int .u8))
    (k : ∀ b o v w', Ow B w' ((b, o) :: H) → Sl [(b, o)] v (bv (tb s)) → KW v w') : opW P (convert u t (.string s)) KW w := by
  refine ⟨_, _, run_bytes_of_string (P := P) w u t e s hu ht he, ?_⟩
  have hcap : s.size ≤ grownCap w s.size 0 e := grownCap_ge w s.size 0 e
  generalize grownCap w s.size 0 e = cap at *
  refine k w.heap.size _ _ _ (h.drew.alloc _) ⟨some ⟨w.heap.size, 0, none⟩, cap, by simp [tb_len], by simp [tb_len, hcap], fun i x hi => ⟨_, rfl, ?_⟩⟩
  rw [add_mk]
  refine ⟨bytesRow s cap, e, _, List.mem_cons_self, rfl, ?_⟩
  have hi' : i < s.size := by have := (List.getElem?_eq_some_iff.1 hi).1; simpa [tb_len] using this
  have hi2 : i < s.data.size := hi'
  simp only [Nat.zero_add, bytesRow]
  rw [Array.getElem?_append_left (by simpa using hi')]
  simp only [bv, tb, List.getElem?_map] at hi
  simpa using hi
theorem bs_const {n : Nat} {l : List Value} {cs : Option (Array Value)} (h : Ow B w H) (ht : P.underlying t = some (.slice e)) (he : P.underlying e = some (.int .u8)) (hc : cs = some l.toArray) (hn : n = l.length)
    (k : ∀ b o v w', Ow B w' ((b, o) :: H) → Sl [(b, o)] v l → KW v w') : bsW e n cs (fun t' w => opW P (convert t t t') KW w) w := by
  subst hn
  refine ⟨_, hc, _, _, Lib.run_convert_bytes_const (P := P) w t e l.toArray l.length l.length ht he, ?_⟩
  refine k w.heap.size _ _ _ (h.alloc _) ⟨some ⟨w.heap.size, 0, none⟩, l.length, rfl, Nat.le_refl _, fun i x hi => ⟨_, rfl, ?_⟩⟩
  rw [add_mk]
  exact ⟨l.toArray, e, _, List.mem_cons_self, rfl, by simpa using hi⟩
/-! ### Parts of slices -/
theorem slb {n : Int} {kd : IntKind} {y : Nat} {code : BoundsCode} (h0 : 0 ≤ n) (h1 : n ≤ y) (w : World) : (Instr.sliceBound (.int kd n) y code).run P w = .ok n.toNat w := by
  simp [Instr.sliceBound, asIntOf, Sem.run_bind, Sem.run_pure, Result.andThen, h0, h1]
/-- The part l..h of a slice; m: of which capacity. -/
def cut (v : Value) (l h m : Nat) : Value := match v with
  | .slice a _ _ => .slice (if m = l then a else a.map (·.add l)) (h - l) (m - l)
  | v => v
theorem sl_cut {v : Value} {xs : List Value} {l h m : Nat} (hs : Sl H v xs) (hl : l ≤ h) (hh : h ≤ xs.length) (hm : h ≤ m) : Sl H (cut v l h m) ((xs.take h).drop l) := by
  obtain ⟨a, cap, rfl, hc, hx⟩ := hs
  have hlen : ((xs.take h).drop l).length = h - l := by simp; omega
  refine ⟨if m = l then a else a.map (·.add l), m - l, by simp [cut, hlen], by omega, fun i x hi => ?_⟩
  have hi2 := (List.getElem?_eq_some_iff.1 hi).1
  rw [List.getElem?_drop, List.getElem?_take] at hi
  split at hi
  · obtain ⟨p, rfl, hcell⟩ := hx _ _ hi
    rw [if_neg (by omega)]
    exact ⟨p.add l, rfl, by rw [Go.Deep.add_add]; exact hcell⟩
  · cases hi
section
variable {a : Option Addr} {n c : Nat} {i : TypeInfo} {l h m : Int}
theorem pu_cutH (ht : P.underlying t = some (.slice e)) (hi : ∃ i, P.info? e = some i ∧ i.size = 1) (h0 : 0 ≤ h) (h2 : h ≤ c) (k : K (cut (.slice a n c) 0 h.toNat c)) : pu P (Instr.sliceAt t (.slice a n c) none (some (.int .i64 h)) none) K := by
  obtain ⟨i, hi, hs⟩ := hi
  refine ⟨_, fun w => ?_, k⟩
  simp only [Instr.sliceAt, Instr.slice, Sem.run_bind, run_und ht, Result.andThen, Instr.sliceBounds, Sem.run_pure, slb (P := P) (n := h) (y := c) (by omega) h2, run_size hi, hs, Nat.mul_one, Option.isSome, cut, if_true]
theorem pu_cutL (ht : P.underlying t = some (.slice e)) (hi : ∃ i, P.info? e = some i ∧ i.size = 1) (h0 : 0 ≤ l) (h1 : l ≤ n) (k : K (cut (.slice a n c) l.toNat n c)) : pu P (Instr.sliceAt t (.slice a n c) (some (.int .i64 l)) none none) K := by
  obtain ⟨i, hi, hs⟩ := hi
  refine ⟨_, fun w => ?_, k⟩
  simp only [Instr.sliceAt, Instr.slice, Sem.run_bind, run_und ht, Result.andThen, Instr.sliceBounds, Sem.run_pure, slb (P := P) (n := l) (y := n) h0 h1, run_size hi, hs, Nat.mul_one, Option.isSome, cut, if_true]
theorem pu_cutLHM (ht : P.underlying t = some (.slice e)) (hi : ∃ i, P.info? e = some i ∧ i.size = 1) (h0 : 0 ≤ l) (h1 : l ≤ h) (h2 : h ≤ m) (h3 : m ≤ c) (k : K (cut (.slice a n c) l.toNat h.toNat m.toNat)) :
    pu P (Instr.sliceAt t (.slice a n c) (some (.int .i64 l)) (some (.int .i64 h)) (some (.int .i64 m))) K := by
  obtain ⟨i, hi, hs⟩ := hi
  refine ⟨_, fun w => ?_, k⟩
  simp only [Instr.sliceAt, Instr.slice, Sem.run_bind, run_und ht, Result.andThen, Instr.sliceBounds, Sem.run_pure, slb (P := P) (n := m) (y := c) (by omega) h3, slb (P := P) (n := h) (y := m.toNat) (by omega) (by omega), slb (P := P) (n := l) (y := h.toNat) h0 (by omega), run_size hi, hs, Nat.mul_one, Option.isSome, cut, if_true]
end

/-! ### Bits -/
theorem or_add {a b k : Nat} (ha : a < 2 ^ k) (hb : b * 2 ^ k + a < 2 ^ 64) : orI .u64 (a : Int) ((b * 2 ^ k : Nat) : Int) = ((a + b * 2 ^ k : Nat) : Int) := by
  unfold orI
  have e1 : BitVec.ofInt 64 (a : Int) = BitVec.ofNat 64 a := by simp
  have e2 : BitVec.ofInt 64 ((b * 2 ^ k : Nat) : Int) = BitVec.ofNat 64 (b * 2 ^ k) := BitVec.ofInt_natCast 64 _
  have e3 : (BitVec.ofNat 64 a ||| BitVec.ofNat 64 (b * 2 ^ k)).toNat = a + b * 2 ^ k := by
    rw [BitVec.toNat_or, BitVec.toNat_ofNat, BitVec.toNat_ofNat, Nat.mod_eq_of_lt (by omega), Nat.mod_eq_of_lt (by omega), ← Nat.shiftLeft_eq, Nat.or_comm, ← Nat.shiftLeft_add_eq_or_of_lt ha, Nat.shiftLeft_eq]
    omega
  show IntKind.u64.wrap ((BitVec.ofInt 64 (a : Int) ||| BitVec.ofInt 64 ((b * 2 ^ k : Nat) : Int)).toNat : Int) = _
  rw [e1, e2, e3, wrapu64]
  omega
theorem FitV.bytes {e : TypeId} {v : Value} (ht : P.underlying t = some (.slice e)) (he : P.underlying e = some (.int .u8)) (hc : P.cellsOf e = 1) (h : FitV P H t v) : ∃ l : List Nat, Sl H v (bv l) ∧ l.length ≤ maxLen ∧ Byt l := by
  obtain ⟨xs, h1, h2, h3⟩ := h.ints ht he hc
  have hn : ∀ x ∈ xs, 0 ≤ x ∧ x < 256 := fun x hx => wf_u8 (h3 x hx)
  have e : xs.map (Value.int .u8 ·) = bv (xs.map Int.toNat) := by
    unfold bv
    rw [List.map_map]
    refine List.map_congr_left fun x hx => ?_
    have := (hn x hx).1
    simp [v8, Int.toNat_of_nonneg this]
  rw [e] at h1
  refine ⟨_, h1, by simpa using h2, fun x hx => ?_⟩
  obtain ⟨y, hy, rfl⟩ := List.mem_map.1 hx
  have := hn y hy
  omega
end
end Go.Proofs.YtkkkcafkepnecaaGreat.Vc

