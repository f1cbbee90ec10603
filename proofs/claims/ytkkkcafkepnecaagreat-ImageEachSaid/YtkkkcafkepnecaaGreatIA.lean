/- Octets: the plain law. -/
import Derived.Test.YtkkkcafkepnecaaGreatZT

set_option linter.unusedVariables false
set_option linter.unusedSimpArgs false
namespace Go.Proofs.YtkkkcafkepnecaaGreat.Oc
open Go Go.Proofs.YtkkkcafkepnecaaGreat.Vc

/-! ### Of a width -/
def right (w : Int) : Bool := decide (w = 1 ∨ w = 2 ∨ w = 4 ∨ w = 8)
def fx (n : Nat) (w : Nat) : List Nat := (List.range w).map fun i => n / 256 ^ i % 256
def val : List Nat → Nat
  | [] => 0
  | c :: l => c + 256 * val l
def fxR (n : Nat) (w : Int) : List Nat × Nat := if right w = false then ([], 2) else if n < 256 ^ w.toNat then (fx n w.toNat, 0) else ([], 4)
def rfR (l : List Nat) (w : Int) : Nat × Nat := if right w = false then (0, 2) else if l.length < w.toNat then (0, 110) else (val (l.take w.toNat), 0)
theorem fx_byt (n w : Nat) : Byt (fx n w) := fun x hx => by
  obtain ⟨i, _, rfl⟩ := List.mem_map.1 hx
  omega
theorem fx_len (n w : Nat) : (fx n w).length = w := by simp [fx]
theorem fx_succ (n w : Nat) : fx n (w + 1) = fx n w ++ [n / 256 ^ w % 256] := by simp [fx, List.range_succ]
theorem fx_cons (n w : Nat) : fx n (w + 1) = n % 256 :: fx (n / 256) w := by
  unfold fx
  rw [List.range_succ_eq_map, List.map_cons, List.map_map]
  congr 1
  · simp
  · refine List.map_congr_left fun i _ => ?_
    simp [Nat.pow_succ, Nat.div_div_eq_div_mul, Nat.mul_comm]
theorem val_fx : ∀ (w n : Nat), n < 256 ^ w → val (fx n w) = n
  | 0, n, h => by simp at h; subst h; rfl
  | w + 1, n, h => by
    rw [fx_cons]
    show n % 256 + 256 * val (fx (n / 256) w) = n
    rw [val_fx w (n / 256) (by rw [Nat.div_lt_iff_lt_mul (by omega)]; rw [Nat.pow_succ] at h; exact h)]
    omega
theorem val_lt : ∀ (l : List Nat), Byt l → val l < 256 ^ l.length
  | [], _ => by simp [val]
  | c :: l, h => by
    have h1 := val_lt l (fun x hx => h x (List.mem_cons_of_mem _ hx))
    have h2 : c < 256 := h c List.mem_cons_self
    simp only [val, List.length_cons, Nat.pow_succ]
    omega
theorem val_snoc (c : Nat) : ∀ (l : List Nat), val (l ++ [c]) = val l + c * 256 ^ l.length
  | [] => by simp [val]
  | x :: l => by
    show x + 256 * val (l ++ [c]) = x + 256 * val l + _
    rw [val_snoc c l, List.length_cons, Nat.pow_succ, Nat.mul_add, Nat.mul_comm (256 ^ l.length) 256, ← Nat.mul_assoc c 256, Nat.mul_comm c 256, Nat.mul_assoc 256 c]
    omega
theorem right_cases {w : Int} (h : right w = true) : w = 1 ∨ w = 2 ∨ w = 4 ∨ w = 8 := by simpa [right] using h

/-! ### Texts -/
end Go.Proofs.YtkkkcafkepnecaaGreat.Oc

/-! Digests: the plain law. -/
set_option linter.unusedVariables false
set_option linter.unusedSimpArgs false
namespace Go.Proofs.YtkkkcafkepnecaaGreat.Dg
open Go Go.Proofs.YtkkkcafkepnecaaGreat.Vc

def PP : Nat := 14514072000185962306
def top : Nat := 18446744073709551615
/-- One bit further. -/
def gd (x : Nat) : Nat := if x % 2 = 1 then PP else 0
def sh (x : Nat) : Nat := (x / 2) ^^^ gd x
theorem gd_xor (a b : Nat) : gd (a ^^^ b) = gd a ^^^ gd b := by
  unfold gd
  have h := @Nat.xor_mod_two_eq_one a b
  by_cases ha : a % 2 = 1 <;> by_cases hb : b % 2 = 1
  · rw [if_neg (by rw [h]; simp [ha, hb]), if_pos ha, if_pos hb, Nat.xor_self]
  · rw [if_pos (by rw [h]; simp [ha, hb]), if_pos ha, if_neg hb, Nat.xor_zero]
  · rw [if_pos (by rw [h]; simp [ha, hb]), if_neg ha, if_pos hb, Nat.zero_xor]
  · rw [if_neg (by rw [h]; simp [ha, hb]), if_neg ha, if_neg hb, Nat.xor_self]
theorem sh_xor (a b : Nat) : sh (a ^^^ b) = sh a ^^^ sh b := by
  unfold sh
  rw [gd_xor, Nat.xor_div_two]
  simp only [Nat.xor_assoc]
  congr 1
  rw [← Nat.xor_assoc, Nat.xor_comm (b / 2) (gd a), Nat.xor_assoc]
def shk : Nat → Nat → Nat
  | 0, x => x
  | k + 1, x => shk k (sh x)
theorem shk_xor : ∀ (k a b : Nat), shk k (a ^^^ b) = shk k a ^^^ shk k b
  | 0, _, _ => rfl
  | k + 1, a, b => by
    show shk k (sh (a ^^^ b)) = _
    rw [sh_xor, shk_xor k]
    rfl
theorem shk_split : ∀ (k x : Nat), shk k x = shk k (x % 2 ^ k) ^^^ (x / 2 ^ k)
  | 0, x => by simp [shk, Nat.mod_one]
  | k + 1, x => by
    show shk k (sh x) = shk k (sh (x % 2 ^ (k + 1))) ^^^ _
    have e1 : gd (x % 2 ^ (k + 1)) = gd x := by
      unfold gd
      rw [Nat.pow_succ, Nat.mul_comm, Nat.mod_mul_right_mod]
    have e2 : x % 2 ^ (k + 1) / 2 = x / 2 % 2 ^ k := by rw [Nat.pow_succ, Nat.mul_comm, Nat.mod_mul_right_div_self]
    have e3 : x / 2 ^ (k + 1) = x / 2 / 2 ^ k := by rw [Nat.pow_succ, Nat.mul_comm, Nat.div_div_eq_div_mul]
    unfold sh
    rw [e1, e2, e3, shk_xor, shk_xor, shk_split k (x / 2)]
    rw [Nat.xor_assoc, Nat.xor_assoc]
    congr 1
    rw [Nat.xor_comm]
theorem sh_lt {x : Nat} (h : x < 18446744073709551616) : sh x < 18446744073709551616 := by
  have : (18446744073709551616 : Nat) = 2 ^ 64 := by decide
  unfold sh
  rw [this] at h ⊢
  refine Nat.xor_lt_two_pow (by omega) ?_
  unfold gd
  split
  · decide
  · decide
theorem shk_lt : ∀ (k : Nat) {x : Nat}, x < 18446744073709551616 → shk k x < 18446744073709551616
  | 0, _, h => h
  | k + 1, _, h => shk_lt k (sh_lt h)
/-- A sum behind a byte. -/
def st (s c : Nat) : Nat := shk 8 (s ^^^ c)
def tbl (i : Nat) : Nat := shk 8 i
theorem xor_lt64 {a b : Nat} (ha : a < 18446744073709551616) (hb : b < 18446744073709551616) : a ^^^ b < 18446744073709551616 := by
  have : (18446744073709551616 : Nat) = 2 ^ 64 := by decide
  rw [this] at *
  exact Nat.xor_lt_two_pow ha hb
theorem xor_lt8 {a b : Nat} (ha : a < 256) (hb : b < 256) : a ^^^ b < 256 := by
  have : (256 : Nat) = 2 ^ 8 := by decide
  rw [this] at *
  exact Nat.xor_lt_two_pow ha hb
theorem st_lt {s c : Nat} (hs : s < 18446744073709551616) (hc : c < 256) : st s c < 18446744073709551616 := shk_lt 8 (xor_lt64 hs (by omega))
theorem st_tbl {s c : Nat} (hc : c < 256) : tbl ((s % 256) ^^^ c) ^^^ (s / 256) = st s c := by
  unfold st tbl
  have e8 : (2 : Nat) ^ 8 = 256 := by decide
  have e1 := @Nat.xor_mod_two_pow s c 8
  have e2 := @Nat.xor_div_two_pow s c 8
  rw [e8] at e1 e2
  rw [Nat.mod_eq_of_lt hc] at e1
  rw [Nat.div_eq_of_lt hc, Nat.xor_zero] at e2
  rw [shk_split 8 (s ^^^ c), e8, e1, e2]
theorem tbl_lt {i : Nat} (h : i < 256) : tbl i < 18446744073709551616 := shk_lt 8 (by omega)
def fold (s : Nat) (l : List Nat) : Nat := l.foldl st s
theorem fold_lt : ∀ (l : List Nat) {s : Nat}, s < 18446744073709551616 → Byt l → fold s l < 18446744073709551616
  | [], _, h, _ => h
  | c :: l, _, h, hb => fold_lt l (st_lt h (hb c List.mem_cons_self)) (fun x hx => hb x (List.mem_cons_of_mem _ hx))
theorem fold_app (s : Nat) (a b : List Nat) : fold s (a ++ b) = fold (fold s a) b := List.foldl_append
def nt (s : Nat) : Nat := top ^^^ s
theorem nt_lt {s : Nat} (h : s < 18446744073709551616) : nt s < 18446744073709551616 := xor_lt64 (by decide) h
/-- The sum of bytes. -/
def sum (l : List Nat) : Nat := nt (fold top l)
theorem sum_lt {l : List Nat} (h : Byt l) : sum l < 18446744073709551616 := nt_lt (fold_lt l (by decide) h)
end Go.Proofs.YtkkkcafkepnecaaGreat.Dg

