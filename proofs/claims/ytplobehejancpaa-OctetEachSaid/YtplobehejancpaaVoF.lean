/- Digests: the plain law. -/
import Derived.Test.YtplobehejancpaaVcT
set_option linter.unusedVariables false
set_option linter.unusedSimpArgs false
namespace Go.Proofs.Ytplobehejancpaa.Dg
open Go Go.Proofs.Ytplobehejancpaa.Vc

def PP : Nat := 14514072000185962306
def top : Nat := 18446744073709551615
theorem xor_cancel {m a b : Nat} (h : m ^^^ a = m ^^^ b) : a = b := by
  have := congrArg (m ^^^ ·) h
  simpa [← Nat.xor_assoc] using this
theorem xor_cancelR {m a b : Nat} (h : a ^^^ m = b ^^^ m) : a = b := xor_cancel (m := m) (by rw [Nat.xor_comm m a, Nat.xor_comm m b, h])
/-- One bit further. -/
def gd (x : Nat) : Nat := if x % 2 = 1 then PP else 0
def sh (x : Nat) : Nat := (x / 2) ^^^ gd x
theorem gd_xor (a b : Nat) : gd (a ^^^ b) = gd a ^^^ gd b := by
  unfold gd
  have h := @Nat.xor_mod_two_eq_one a b
  by_cases ha : a % 2 = 1 <;> by_cases hb : b % 2 = 1
  · rw [if_neg (by rw [h]; simp [ha, hb]), if_pos ha, if_pos hb, Nat.xor_self]
  · rw [if_pos (by rw [h]; simp [ha, hb]), if_pos ha, if_neg hb, Nat.xor_zero]
  · rw [if_pos (by rw [h]; simp [ha, hb]), if_neg ha, if_pos hb, Nat.zero_xor]
  · rw [if_neg (by rw [h]; simp [ha, hb]), if_neg ha, if_neg hb, Nat.xor_self]
theorem sh_xor (a b : Nat) : sh (a ^^^ b) = sh a ^^^ sh b := by
  unfold sh
  rw [gd_xor, Nat.xor_div_two]
  simp only [Nat.xor_assoc]
  congr 1
  rw [← Nat.xor_assoc, Nat.xor_comm (b / 2) (gd a), Nat.xor_assoc]
def shk : Nat → Nat → Nat
  | 0, x => x
  | k + 1, x => shk k (sh x)
theorem shk_xor : ∀ (k a b : Nat), shk k (a ^^^ b) = shk k a ^^^ shk k b
  | 0, _, _ => rfl
  | k + 1, a, b => by
    show shk k (sh (a ^^^ b)) = _
    rw [sh_xor, shk_xor k]
    rfl
theorem shk_split : ∀ (k x : Nat), shk k x = shk k (x % 2 ^ k) ^^^ (x / 2 ^ k)
  | 0, x => by simp [shk, Nat.mod_one]
  | k + 1, x => by
    show shk k (sh x) = shk k (sh (x % 2 ^ (k + 1))) ^^^ _
    have e1 : gd (x % 2 ^ (k + 1)) = gd x := by
      unfold gd
      rw [Nat.pow_succ, Nat.mul_comm, Nat.mod_mul_right_mod]
    have e2 : x % 2 ^ (k + 1) / 2 = x / 2 % 2 ^ k := by rw [Nat.pow_succ, Nat.mul_comm, Nat.mod_mul_right_div_self]
    have e3 : x / 2 ^ (k + 1) = x / 2 / 2 ^ k := by rw [Nat.pow_succ, Nat.mul_comm, Nat.div_div_eq_div_mul]
    unfold sh
    rw [e1, e2, e3, shk_xor, shk_xor, shk_split k (x / 2)]
    rw [Nat.xor_assoc, Nat.xor_assoc]
    congr 1
    rw [Nat.xor_comm]
theorem sh_lt {x : Nat} (h : x < 18446744073709551616) : sh x < 18446744073709551616 := by
  have : (18446744073709551616 : Nat) = 2 ^ 64 := by decide
  unfold sh
  rw [this] at h ⊢
  refine Nat.xor_lt_two_pow (by omega) ?_
  unfold gd
  split
  · decide
  · decide
theorem shk_lt : ∀ (k : Nat) {x : Nat}, x < 18446744073709551616 → shk k x < 18446744073709551616
  | 0, _, h => h
  | k + 1, _, h => shk_lt k (sh_lt h)
theorem sh_inj {x y : Nat} (hx : x < 18446744073709551616) (hy : y < 18446744073709551616) (h : sh x = sh y) : x = y := by
  unfold sh gd at h
  have tb : ∀ z, z < 18446744073709551616 → (z / 2).testBit 63 = false := fun z hz => by
    rw [Nat.testBit_lt_two_pow]
    have : (2 : Nat) ^ 63 = 9223372036854775808 := by decide
    omega
  have tP : PP.testBit 63 = true := by decide
  by_cases h1 : x % 2 = 1 <;> by_cases h2 : y % 2 = 1
  · rw [if_pos h1, if_pos h2] at h
    have := xor_cancelR h
    omega
  · rw [if_pos h1, if_neg h2] at h
    have := congrArg (fun z => Nat.testBit z 63) h
    simp [Nat.testBit_xor, tb x hx, tb y hy, tP] at this
  · rw [if_neg h1, if_pos h2] at h
    have := congrArg (fun z => Nat.testBit z 63) h
    simp [Nat.testBit_xor, tb x hx, tb y hy, tP] at this
  · rw [if_neg h1, if_neg h2] at h
    have := xor_cancelR h
    omega
theorem shk_inj : ∀ (k : Nat) {x y : Nat}, x < 18446744073709551616 → y < 18446744073709551616 → shk k x = shk k y → x = y
  | 0, _, _, _, _, h => h
  | k + 1, x, y, hx, hy, h => sh_inj hx hy (shk_inj k (sh_lt hx) (sh_lt hy) h)
/-- A sum behind a byte. -/
def st (s c : Nat) : Nat := shk 8 (s ^^^ c)
def tbl (i : Nat) : Nat := shk 8 i
theorem xor_lt64 {a b : Nat} (ha : a < 18446744073709551616) (hb : b < 18446744073709551616) : a ^^^ b < 18446744073709551616 := by
  have : (18446744073709551616 : Nat) = 2 ^ 64 := by decide
  rw [this] at *
  exact Nat.xor_lt_two_pow ha hb
theorem xor_lt8 {a b : Nat} (ha : a < 256) (hb : b < 256) : a ^^^ b < 256 := by
  have : (256 : Nat) = 2 ^ 8 := by decide
  rw [this] at *
  exact Nat.xor_lt_two_pow ha hb
theorem st_lt {s c : Nat} (hs : s < 18446744073709551616) (hc : c < 256) : st s c < 18446744073709551616 := shk_lt 8 (xor_lt64 hs (by omega))
theorem st_tbl {s c : Nat} (hc : c < 256) : tbl ((s % 256) ^^^ c) ^^^ (s / 256) = st s c := by
  unfold st tbl
  have e8 : (2 : Nat) ^ 8 = 256 := by decide
  have e1 := @Nat.xor_mod_two_pow s c 8
  have e2 := @Nat.xor_div_two_pow s c 8
  rw [e8] at e1 e2
  rw [Nat.mod_eq_of_lt hc] at e1
  rw [Nat.div_eq_of_lt hc, Nat.xor_zero] at e2
  rw [shk_split 8 (s ^^^ c), e8, e1, e2]
theorem tbl_lt {i : Nat} (h : i < 256) : tbl i < 18446744073709551616 := shk_lt 8 (by omega)
def fold (s : Nat) (l : List Nat) : Nat := l.foldl st s
theorem fold_lt : ∀ (l : List Nat) {s : Nat}, s < 18446744073709551616 → Byt l → fold s l < 18446744073709551616
  | [], _, h, _ => h
  | c :: l, _, h, hb => fold_lt l (st_lt h (hb c List.mem_cons_self)) (fun x hx => hb x (List.mem_cons_of_mem _ hx))
theorem fold_app (s : Nat) (a b : List Nat) : fold s (a ++ b) = fold (fold s a) b := List.foldl_append
theorem fold_inj : ∀ (l : List Nat) {s t : Nat}, s < 18446744073709551616 → t < 18446744073709551616 → Byt l → fold s l = fold t l → s = t
  | [], _, _, _, _, _, h => h
  | c :: l, s, t, hs, ht, hb, h => by
    have hc := hb c List.mem_cons_self
    have h1 := fold_inj l (st_lt hs hc) (st_lt ht hc) (fun x hx => hb x (List.mem_cons_of_mem _ hx)) h
    exact xor_cancelR (shk_inj 8 (xor_lt64 hs (by omega)) (xor_lt64 ht (by omega)) h1)
def nt (s : Nat) : Nat := top ^^^ s
theorem nt_lt {s : Nat} (h : s < 18446744073709551616) : nt s < 18446744073709551616 := xor_lt64 (by decide) h
/-- The sum of bytes. -/
def sum (l : List Nat) : Nat := nt (fold top l)
theorem sum_lt {l : List Nat} (h : Byt l) : sum l < 18446744073709551616 := nt_lt (fold_lt l (by decide) h)
theorem sum_ne {a b : List Nat} {c d : Nat} (ha : Byt a) (hb : Byt b) (hc : c < 256) (hd : d < 256) (hne : c ≠ d) : sum (a ++ c :: b) ≠ sum (a ++ d :: b) := by
  intro h
  have h1 := xor_cancel h
  rw [fold_app, fold_app] at h1
  have hs := fold_lt a (s := top) (by decide) ha
  have h2 : fold (st (fold top a) c) b = fold (st (fold top a) d) b := h1
  have h3 := fold_inj b (st_lt hs hc) (st_lt hs hd) hb h2
  exact hne (xor_cancel (shk_inj 8 (xor_lt64 hs (by omega)) (xor_lt64 hs (by omega)) h3))
end Go.Proofs.Ytplobehejancpaa.Dg
