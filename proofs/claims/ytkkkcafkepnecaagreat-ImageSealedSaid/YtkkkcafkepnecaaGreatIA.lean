/- Octets: the plain law. -/
import Derived.Test.YtkkkcafkepnecaaGreatZT

set_option linter.unusedVariables false
set_option linter.unusedSimpArgs false
namespace Go.Proofs.YtkkkcafkepnecaaGreat.Oc
open Go Go.Proofs.YtkkkcafkepnecaaGreat.Vc

/-- A number's bytes. -/
def nb (n : Nat) : List Nat := if n < 128 then [n] else (n % 128 + 128) :: nb (n / 128)
decreasing_by omega
theorem nb_small {n : Nat} (h : n < 128) : nb n = [n] := by unfold nb; rw [if_pos h]
theorem nb_big {n : Nat} (h : ¬ n < 128) : nb n = (n % 128 + 128) :: nb (n / 128) := by rw [nb, if_neg h]
theorem nb_byt (n : Nat) : Byt (nb n) := by
  induction n using Nat.strongRecOn with
  | _ n ih =>
    by_cases h : n < 128
    · rw [nb_small h]; intro x hx; simp at hx; omega
    · rw [nb_big h]
      intro x hx
      rcases List.mem_cons.1 hx with rfl | hx
      · omega
      · exact ih (n / 128) (by omega) x hx
theorem nb_pos (n : Nat) : 0 < (nb n).length := by
  by_cases h : n < 128
  · rw [nb_small h]; simp
  · rw [nb_big h]; simp
theorem nb_len : ∀ (k n : Nat), n < 128 ^ (k + 1) → (nb n).length ≤ k + 1
  | 0, n, h => by rw [nb_small (by omega)]; simp
  | k + 1, n, h => by
    by_cases hs : n < 128
    · rw [nb_small hs]; simp
    · rw [nb_big hs]
      have := nb_len k (n / 128) (by rw [Nat.div_lt_iff_lt_mul (by omega)]; rw [Nat.pow_succ] at h; exact h)
      simp; omega
/-- The number at the beginning of bytes: what it is, how many bytes it has, an error. -/
def rn : List Nat → Nat → Nat → Nat × Nat × Nat
  | [], _, _ => (0, 0, 110)
  | c :: l, i, n => if (0 < i ∧ c = 0) ∨ (i = 9 ∧ 1 < c) then (0, 0, 111) else if c < 128 then (n + c % 128 * 128 ^ i, i + 1, 0) else rn l (i + 1) (n + c % 128 * 128 ^ i)
theorem pow9 : (128 : Nat) ^ 9 = 9223372036854775808 := by decide
theorem pow_le9 {i : Nat} (h : i ≤ 9) : (128 : Nat) ^ i ≤ 9223372036854775808 := by
  rw [← pow9]; exact Nat.pow_le_pow_right (by omega) h
theorem pow_le8 {i : Nat} (h : i ≤ 8) : (128 : Nat) ^ i * 128 ≤ 9223372036854775808 := by
  rw [← Nat.pow_succ, ← pow9]; exact Nat.pow_le_pow_right (by omega) (by omega)
theorem rn_nb (b : List Nat) : ∀ (m i n : Nat), i ≤ 9 → m * 128 ^ i < 18446744073709551616 → (0 < i → 0 < m) → rn (nb m ++ b) i n = (n + m * 128 ^ i, i + (nb m).length, 0) := by
  intro m
  induction m using Nat.strongRecOn with
  | _ m ih =>
    intro i n hi hm h0
    by_cases hs : m < 128
    · rw [nb_small hs]
      show (if (0 < i ∧ m = 0) ∨ (i = 9 ∧ 1 < m) then _ else _) = _
      rw [if_neg, if_pos hs, Nat.mod_eq_of_lt hs]
      · rfl
      · rintro (⟨h1, h2⟩ | ⟨h1, h2⟩)
        · have := h0 h1; omega
        · subst h1; rw [pow9] at hm; omega
    · rw [nb_big hs]
      have hi8 : i ≤ 8 := by
        false_or_by_contra
        have h9 : i = 9 := by omega
        subst h9
        rw [pow9] at hm
        omega
      show (if (0 < i ∧ m % 128 + 128 = 0) ∨ (i = 9 ∧ 1 < m % 128 + 128) then _ else _) = _
      rw [if_neg (by omega), if_neg (by omega)]
      have e1 : (m % 128 + 128) % 128 = m % 128 := by omega
      rw [e1]
      have e2 : m / 128 * 128 ^ (i + 1) + m % 128 * 128 ^ i = m * 128 ^ i := by
        rw [Nat.pow_succ, show m / 128 * (128 ^ i * 128) = (m / 128 * 128) * 128 ^ i by rw [Nat.mul_comm (128 ^ i) 128, Nat.mul_assoc], ← Nat.add_mul]
        congr 1; omega
      have := ih (m / 128) (by omega) (i + 1) (n + m % 128 * 128 ^ i) (by omega) (by omega) (by omega)
      show rn (nb (m / 128) ++ b) (i + 1) _ = _
      rw [this]
      simp only [List.length_cons, Prod.mk.injEq, and_true]
      omega
theorem rn_ok : ∀ (b : List Nat) (i n y k : Nat), i ≤ 9 → n < 128 ^ i → Byt b → rn b i n = (y, k, 0) → ∃ m, y = n + m * 128 ^ i ∧ y < 18446744073709551616 ∧ i < k ∧ k - i ≤ b.length ∧ b.take (k - i) = nb m ∧ (0 < i → 0 < m)
  | [], i, n, y, k, _, _, _, h => by simp [rn] at h
  | c :: l, i, n, y, k, hi, hn, hb, h => by
    unfold rn at h
    split at h
    · simp at h
    · rename_i hno
      split at h
      · rename_i hc
        simp only [Prod.mk.injEq, and_true] at h
        obtain ⟨rfl, rfl⟩ := h
        rw [Nat.mod_eq_of_lt hc]
        refine ⟨c, rfl, ?_, by omega, by simp, ?_, by omega⟩
        · by_cases h9 : i = 9
          · subst h9
            rw [pow9] at hn ⊢
            omega
          · have hp := pow_le8 (i := i) (by omega)
            have : c * 128 ^ i ≤ 127 * 128 ^ i := Nat.mul_le_mul_right _ (by omega)
            omega
        · rw [show i + 1 - i = 1 by omega, nb_small hc]; rfl
      · rename_i hc
        have hc2 : c < 256 := hb c List.mem_cons_self
        have hi8 : i ≤ 8 := by omega
        have hlt : n + c % 128 * 128 ^ i < 128 ^ (i + 1) := by
          rw [Nat.pow_succ]
          have : c % 128 * 128 ^ i ≤ 127 * 128 ^ i := Nat.mul_le_mul_right _ (by omega)
          omega
        obtain ⟨m, rfl, hy, hk, hkl, htake, hpos⟩ := rn_ok l (i + 1) _ y k (by omega) hlt (fun x hx => hb x (List.mem_cons_of_mem _ hx)) h
        have hm := hpos (by omega)
        refine ⟨c % 128 + 128 * m, ?_, hy, by omega, by simp; omega, ?_, by omega⟩
        · rw [Nat.pow_succ, Nat.add_mul, show 128 * m * 128 ^ i = m * (128 ^ i * 128) by rw [Nat.mul_comm (128 ^ i) 128, ← Nat.mul_assoc, Nat.mul_comm m 128]]
          omega
        · rw [show k - i = (k - (i + 1)) + 1 by omega, List.take_succ_cons, htake, nb_big (n := c % 128 + 128 * m) (by omega)]
          congr 1
          · omega
          · congr 1; omega
theorem rn_err : ∀ (b : List Nat) (i n : Nat), (rn b i n).2.2 = 0 ∨ rn b i n = (0, 0, 110) ∨ rn b i n = (0, 0, 111)
  | [], i, n => .inr (.inl rfl)
  | c :: l, i, n => by
    unfold rn
    split
    · exact .inr (.inr rfl)
    · split
      · exact .inl rfl
      · exact rn_err l _ _
theorem rn_zero (b : List Nat) (hb : Byt b) : (rn b 0 0).1 < 18446744073709551616 ∧ (rn b 0 0).2.1 ≤ b.length ∧ ((rn b 0 0).2.2 = 0 → b.take (rn b 0 0).2.1 = nb (rn b 0 0).1) := by
  rcases rn_err b 0 0 with h | h | h
  · obtain ⟨m, e, hy, hk, hkl, ht, _⟩ := rn_ok b 0 0 _ _ (by omega) (by simp) hb (show rn b 0 0 = ((rn b 0 0).1, (rn b 0 0).2.1, 0) from Prod.ext rfl (Prod.ext rfl h))
    refine ⟨hy, by omega, fun _ => ?_⟩
    simp only [Nat.zero_add, Nat.pow_zero, Nat.mul_one, Nat.sub_zero] at e ht
    rw [e, ht]
  · rw [h]; simp
  · rw [h]; simp
theorem rn_of_nb {m : Nat} (hm : m < 18446744073709551616) (b : List Nat) : rn (nb m ++ b) 0 0 = (m, (nb m).length, 0) := by
  have := rn_nb b m 0 0 (by omega) (by simpa using hm) (by omega)
  simpa using this
theorem nb_prefix {m n : Nat} (hm : m < 18446744073709551616) (hn : n < 18446744073709551616) (h : (nb n).take (nb m).length = nb m) : m = n := by
  have h1 := rn_of_nb hm ((nb n).drop (nb m).length)
  rw [← h] at h1
  rw [show (nb n).take (nb m).length = nb m from h] at h1
  have e : nb m ++ (nb n).drop (nb m).length = nb n := by
    conv => lhs; arg 1; rw [← h]
    rw [List.take_append_drop]
  rw [e] at h1
  have h2 := rn_of_nb hn []
  rw [List.append_nil, h1] at h2
  simp only [Prod.mk.injEq] at h2
  exact h2.1

/-! ### Of a width -/
def right (w : Int) : Bool := decide (w = 1 ∨ w = 2 ∨ w = 4 ∨ w = 8)
def fx (n : Nat) (w : Nat) : List Nat := (List.range w).map fun i => n / 256 ^ i % 256
def val : List Nat → Nat
  | [] => 0
  | c :: l => c + 256 * val l
def fxR (n : Nat) (w : Int) : List Nat × Nat := if right w = false then ([], 2) else if n < 256 ^ w.toNat then (fx n w.toNat, 0) else ([], 4)
def rfR (l : List Nat) (w : Int) : Nat × Nat := if right w = false then (0, 2) else if l.length < w.toNat then (0, 110) else (val (l.take w.toNat), 0)
theorem fx_byt (n w : Nat) : Byt (fx n w) := fun x hx => by
  obtain ⟨i, _, rfl⟩ := List.mem_map.1 hx
  omega
theorem fx_len (n w : Nat) : (fx n w).length = w := by simp [fx]
theorem fx_succ (n w : Nat) : fx n (w + 1) = fx n w ++ [n / 256 ^ w % 256] := by simp [fx, List.range_succ]
theorem fx_cons (n w : Nat) : fx n (w + 1) = n % 256 :: fx (n / 256) w := by
  unfold fx
  rw [List.range_succ_eq_map, List.map_cons, List.map_map]
  congr 1
  · simp
  · refine List.map_congr_left fun i _ => ?_
    simp [Nat.pow_succ, Nat.div_div_eq_div_mul, Nat.mul_comm]
theorem val_fx : ∀ (w n : Nat), n < 256 ^ w → val (fx n w) = n
  | 0, n, h => by simp at h; subst h; rfl
  | w + 1, n, h => by
    rw [fx_cons]
    show n % 256 + 256 * val (fx (n / 256) w) = n
    rw [val_fx w (n / 256) (by rw [Nat.div_lt_iff_lt_mul (by omega)]; rw [Nat.pow_succ] at h; exact h)]
    omega
theorem val_lt : ∀ (l : List Nat), Byt l → val l < 256 ^ l.length
  | [], _ => by simp [val]
  | c :: l, h => by
    have h1 := val_lt l (fun x hx => h x (List.mem_cons_of_mem _ hx))
    have h2 : c < 256 := h c List.mem_cons_self
    simp only [val, List.length_cons, Nat.pow_succ]
    omega
theorem val_snoc (c : Nat) : ∀ (l : List Nat), val (l ++ [c]) = val l + c * 256 ^ l.length
  | [] => by simp [val]
  | x :: l => by
    show x + 256 * val (l ++ [c]) = x + 256 * val l + _
    rw [val_snoc c l, List.length_cons, Nat.pow_succ, Nat.mul_add, Nat.mul_comm (256 ^ l.length) 256, ← Nat.mul_assoc c 256, Nat.mul_comm c 256, Nat.mul_assoc 256 c]
    omega
theorem right_cases {w : Int} (h : right w = true) : w = 1 ∨ w = 2 ∨ w = 4 ∨ w = 8 := by simpa [right] using h

/-! ### Texts -/
def tx (s : List Nat) : List Nat := nb s.length ++ s
/-- The text at the beginning of bytes. -/
def rt (l : List Nat) : List Nat × Nat × Nat :=
  if (rn l 0 0).2.2 ≠ 0 then ([], 0, (rn l 0 0).2.2) else if (rn l 0 0).1 > l.length - (rn l 0 0).2.1 then ([], 0, 110) else ((l.drop (rn l 0 0).2.1).take (rn l 0 0).1, (rn l 0 0).2.1 + (rn l 0 0).1, 0)
theorem rt_tx {s : List Nat} (hs : s.length < 18446744073709551616) (b : List Nat) : rt (tx s ++ b) = (s, (tx s).length, 0) := by
  unfold rt tx
  rw [List.append_assoc, rn_of_nb hs]
  simp only [ne_eq, not_true_eq_false, if_false]
  rw [if_neg (by simp)]
  simp [List.drop_left']
end Go.Proofs.YtkkkcafkepnecaaGreat.Oc

/-! Digests: the plain law. -/
set_option linter.unusedVariables false
set_option linter.unusedSimpArgs false
namespace Go.Proofs.YtkkkcafkepnecaaGreat.Dg
open Go Go.Proofs.YtkkkcafkepnecaaGreat.Vc

def PP : Nat := 14514072000185962306
def top : Nat := 18446744073709551615
theorem xor_cancel {m a b : Nat} (h : m ^^^ a = m ^^^ b) : a = b := by
  have := congrArg (m ^^^ ·) h
  simpa [← Nat.xor_assoc] using this
theorem xor_cancelR {m a b : Nat} (h : a ^^^ m = b ^^^ m) : a = b := xor_cancel (m := m) (by rw [Nat.xor_comm m a, Nat.xor_comm m b, h])
/-- One bit further. -/
def gd (x : Nat) : Nat := if x % 2 = 1 then PP else 0
def sh (x : Nat) : Nat := (x / 2) ^^^ gd x
theorem gd_xor (a b : Nat) : gd (a ^^^ b) = gd a ^^^ gd b := by
  unfold gd
  have h := @Nat.xor_mod_two_eq_one a b
  by_cases ha : a % 2 = 1 <;> by_cases hb : b % 2 = 1
  · rw [if_neg (by rw [h]; simp [ha, hb]), if_pos ha, if_pos hb, Nat.xor_self]
  · rw [if_pos (by rw [h]; simp [ha, hb]), if_pos ha, if_neg hb, Nat.xor_zero]
  · rw [if_pos (by rw [h]; simp [ha, hb]), if_neg ha, if_pos hb, Nat.zero_xor]
  · rw [if_neg (by rw [h]; simp [ha, hb]), if_neg ha, if_neg hb, Nat.xor_self]
theorem sh_xor (a b : Nat) : sh (a ^^^ b) = sh a ^^^ sh b := by
  unfold sh
  rw [gd_xor, Nat.xor_div_two]
  simp only [Nat.xor_assoc]
  congr 1
  rw [← Nat.xor_assoc, Nat.xor_comm (b / 2) (gd a), Nat.xor_assoc]
def shk : Nat → Nat → Nat
  | 0, x => x
  | k + 1, x => shk k (sh x)
theorem shk_xor : ∀ (k a b : Nat), shk k (a ^^^ b) = shk k a ^^^ shk k b
  | 0, _, _ => rfl
  | k + 1, a, b => by
    show shk k (sh (a ^^^ b)) = _
    rw [sh_xor, shk_xor k]
    rfl
theorem shk_split : ∀ (k x : Nat), shk k x = shk k (x % 2 ^ k) ^^^ (x / 2 ^ k)
  | 0, x => by simp [shk, Nat.mod_one]
  | k + 1, x => by
    show shk k (sh x) = shk k (sh (x % 2 ^ (k + 1))) ^^^ _
    have e1 : gd (x % 2 ^ (k + 1)) = gd x := by
      unfold gd
      rw [Nat.pow_succ, Nat.mul_comm, Nat.mod_mul_right_mod]
    have e2 : x % 2 ^ (k + 1) / 2 = x / 2 % 2 ^ k := by rw [Nat.pow_succ, Nat.mul_comm, Nat.mod_mul_right_div_self]
    have e3 : x / 2 ^ (k + 1) = x / 2 / 2 ^ k := by rw [Nat.pow_succ, Nat.mul_comm, Nat.div_div_eq_div_mul]
    unfold sh
    rw [e1, e2, e3, shk_xor, shk_xor, shk_split k (x / 2)]
    rw [Nat.xor_assoc, Nat.xor_assoc]
    congr 1
    rw [Nat.xor_comm]
theorem sh_lt {x : Nat} (h : x < 18446744073709551616) : sh x < 18446744073709551616 := by
  have : (18446744073709551616 : Nat) = 2 ^ 64 := by decide
  unfold sh
  rw [this] at h ⊢
  refine Nat.xor_lt_two_pow (by omega) ?_
  unfold gd
  split
  · decide
  · decide
theorem shk_lt : ∀ (k : Nat) {x : Nat}, x < 18446744073709551616 → shk k x < 18446744073709551616
  | 0, _, h => h
  | k + 1, _, h => shk_lt k (sh_lt h)
theorem sh_inj {x y : Nat} (hx : x < 18446744073709551616) (hy : y < 18446744073709551616) (h : sh x = sh y) : x = y := by
  unfold sh gd at h
  have tb : ∀ z, z < 18446744073709551616 → (z / 2).testBit 63 = false := fun z hz => by
    rw [Nat.testBit_lt_two_pow]
    have : (2 : Nat) ^ 63 = 9223372036854775808 := by decide
    omega
  have tP : PP.testBit 63 = true := by decide
  by_cases h1 : x % 2 = 1 <;> by_cases h2 : y % 2 = 1
  · rw [if_pos h1, if_pos h2] at h
    have := xor_cancelR h
    omega
  · rw [if_pos h1, if_neg h2] at h
    have := congrArg (fun z => Nat.testBit z 63) h
    simp [Nat.testBit_xor, tb x hx, tb y hy, tP] at this
  · rw [if_neg h1, if_pos h2] at h
    have := congrArg (fun z => Nat.testBit z 63) h
    simp [Nat.testBit_xor, tb x hx, tb y hy, tP] at this
  · rw [if_neg h1, if_neg h2] at h
    have := xor_cancelR h
    omega
theorem shk_inj : ∀ (k : Nat) {x y : Nat}, x < 18446744073709551616 → y < 18446744073709551616 → shk k x = shk k y → x = y
  | 0, _, _, _, _, h => h
  | k + 1, x, y, hx, hy, h => sh_inj hx hy (shk_inj k (sh_lt hx) (sh_lt hy) h)
/-- A sum behind a byte. -/
def st (s c : Nat) : Nat := shk 8 (s ^^^ c)
def tbl (i : Nat) : Nat := shk 8 i
theorem xor_lt64 {a b : Nat} (ha : a < 18446744073709551616) (hb : b < 18446744073709551616) : a ^^^ b < 18446744073709551616 := by
  have : (18446744073709551616 : Nat) = 2 ^ 64 := by decide
  rw [this] at *
  exact Nat.xor_lt_two_pow ha hb
theorem xor_lt8 {a b : Nat} (ha : a < 256) (hb : b < 256) : a ^^^ b < 256 := by
  have : (256 : Nat) = 2 ^ 8 := by decide
  rw [this] at *
  exact Nat.xor_lt_two_pow ha hb
theorem st_lt {s c : Nat} (hs : s < 18446744073709551616) (hc : c < 256) : st s c < 18446744073709551616 := shk_lt 8 (xor_lt64 hs (by omega))
theorem st_tbl {s c : Nat} (hc : c < 256) : tbl ((s % 256) ^^^ c) ^^^ (s / 256) = st s c := by
  unfold st tbl
  have e8 : (2 : Nat) ^ 8 = 256 := by decide
  have e1 := @Nat.xor_mod_two_pow s c 8
  have e2 := @Nat.xor_div_two_pow s c 8
  rw [e8] at e1 e2
  rw [Nat.mod_eq_of_lt hc] at e1
  rw [Nat.div_eq_of_lt hc, Nat.xor_zero] at e2
  rw [shk_split 8 (s ^^^ c), e8, e1, e2]
theorem tbl_lt {i : Nat} (h : i < 256) : tbl i < 18446744073709551616 := shk_lt 8 (by omega)
def fold (s : Nat) (l : List Nat) : Nat := l.foldl st s
theorem fold_lt : ∀ (l : List Nat) {s : Nat}, s < 18446744073709551616 → Byt l → fold s l < 18446744073709551616
  | [], _, h, _ => h
  | c :: l, _, h, hb => fold_lt l (st_lt h (hb c List.mem_cons_self)) (fun x hx => hb x (List.mem_cons_of_mem _ hx))
theorem fold_app (s : Nat) (a b : List Nat) : fold s (a ++ b) = fold (fold s a) b := List.foldl_append
theorem fold_inj : ∀ (l : List Nat) {s t : Nat}, s < 18446744073709551616 → t < 18446744073709551616 → Byt l → fold s l = fold t l → s = t
  | [], _, _, _, _, _, h => h
  | c :: l, s, t, hs, ht, hb, h => by
    have hc := hb c List.mem_cons_self
    have h1 := fold_inj l (st_lt hs hc) (st_lt ht hc) (fun x hx => hb x (List.mem_cons_of_mem _ hx)) h
    exact xor_cancelR (shk_inj 8 (xor_lt64 hs (by omega)) (xor_lt64 ht (by omega)) h1)
def nt (s : Nat) : Nat := top ^^^ s
theorem nt_lt {s : Nat} (h : s < 18446744073709551616) : nt s < 18446744073709551616 := xor_lt64 (by decide) h
/-- The sum of bytes. -/
def sum (l : List Nat) : Nat := nt (fold top l)
theorem sum_lt {l : List Nat} (h : Byt l) : sum l < 18446744073709551616 := nt_lt (fold_lt l (by decide) h)
theorem sum_ne {a b : List Nat} {c d : Nat} (ha : Byt a) (hb : Byt b) (hc : c < 256) (hd : d < 256) (hne : c ≠ d) : sum (a ++ c :: b) ≠ sum (a ++ d :: b) := by
  intro h
  have h1 := xor_cancel h
  rw [fold_app, fold_app] at h1
  have hs := fold_lt a (s := top) (by decide) ha
  have h2 : fold (st (fold top a) c) b = fold (st (fold top a) d) b := h1
  have h3 := fold_inj b (st_lt hs hc) (st_lt hs hd) hb h2
  exact hne (xor_cancel (shk_inj 8 (xor_lt64 hs (by omega)) (xor_lt64 hs (by omega)) h3))
end Go.Proofs.YtkkkcafkepnecaaGreat.Dg

