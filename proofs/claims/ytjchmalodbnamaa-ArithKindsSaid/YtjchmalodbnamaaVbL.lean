/- The laws of package arith: two words, several, what is undone. -/
import Derived.Test.YtjchmalodbnamaaVbC
import Derived.Test.YtjchmalodbnamaaVnR
set_option linter.unusedVariables false
set_option linter.unusedSimpArgs false
namespace Go.Proofs.Ytjchmalodbnamaa
open Go Go.RowKit Vc
attribute [local irreducible] binV Op.unary convert

section
variable {B w : World} {H : Hp} {K : Value → World → Prop} {PK : List PanicEntry → World → Prop}
theorem und_bool : PG.underlying T.t_bool = some .bool := by kernel_rfl
theorem und_uint : PG.underlying T.t_uint = some (.int .u64) := by kernel_rfl
theorem ArithDoes.law {v0 v1 v2 : Value} (g0 : FitV PG H T.t_api_Arith v0) (g1 : FitV PG H T.t_uint32 v1) (g2 : FitV PG H T.t_uint32 v2) (h : Ow B w H) (k : ∀ w', Ow B w' H → K (vB true) w') : callW PG N.linesmanlaw05_ArithDoes [v0, v1, v2] K PK w := by
  obtain ⟨i, rfl, hi⟩ := g0.int und_arith
  obtain ⟨a, rfl, ha⟩ := g1.int und_u32
  obtain ⟨b, rfl, hb⟩ := g2.int und_u32
  have ha := wf_u32 ha
  have hb := wf_u32 hb
  refine linesmanlaw05_ArithDoes.ok ?_
  unfold linesmanlaw05_ArithDoes.C
  refine do_spec ha hb h (fun w1 h1 => ?_)
  repeat (first | refine pu_not ?_ | refine pu_eql ?_ | refine pu_neq ?_ | refine pu_lss ?_ | refine pu_leq ?_ | refine pu_gtr ?_ | refine pu_geq ?_ | refine pu_add ?_ | refine pu_sub ?_ | refine pu_mul ?_ | refine pu_neg ?_ | refine fa_at ?_ | refine nl_ptr ?_ | refine ex20 ?_ | refine ex21 ?_ | refine ex30 ?_ | refine ex31 ?_ | refine ex32 ?_ | refine ln_rule ?_ | refine lnT_rule ?_ | refine pu_and ?_ | refine pu_or ?_ | refine pu_xor ?_ | refine pu_seq ?_ | refine pu_sne ?_)
  refine refDo_spec ha hb h1 (fun w2 h2 => ?_)
  repeat (first | refine pu_not ?_ | refine pu_eql ?_ | refine pu_neq ?_ | refine pu_lss ?_ | refine pu_leq ?_ | refine pu_gtr ?_ | refine pu_geq ?_ | refine pu_add ?_ | refine pu_sub ?_ | refine pu_mul ?_ | refine pu_neg ?_ | refine fa_at ?_ | refine nl_ptr ?_ | refine ex20 ?_ | refine ex21 ?_ | refine ex30 ?_ | refine ex31 ?_ | refine ex32 ?_ | refine ln_rule ?_ | refine lnT_rule ?_ | refine pu_and ?_ | refine pu_or ?_ | refine pu_xor ?_ | refine pu_seq ?_ | refine pu_sne ?_)
  refine cnd_t (by simp) ?_
  refine num_spec ?_
  repeat (first | refine pu_not ?_ | refine pu_eql ?_ | refine pu_neq ?_ | refine pu_lss ?_ | refine pu_leq ?_ | refine pu_gtr ?_ | refine pu_geq ?_ | refine pu_add ?_ | refine pu_sub ?_ | refine pu_mul ?_ | refine pu_neg ?_ | refine fa_at ?_ | refine nl_ptr ?_ | refine ex20 ?_ | refine ex21 ?_ | refine ex30 ?_ | refine ex31 ?_ | refine ex32 ?_ | refine ln_rule ?_ | refine lnT_rule ?_ | refine pu_and ?_ | refine pu_or ?_ | refine pu_xor ?_ | refine pu_seq ?_ | refine pu_sne ?_)
  refine cnd_t (by simp) ?_
  refine signed_spec ha h2 (fun w3 h3 => ?_)
  refine refSigned_spec ha h3 (fun w4 h4 => ?_)
  repeat (first | refine pu_not ?_ | refine pu_eql ?_ | refine pu_neq ?_ | refine pu_lss ?_ | refine pu_leq ?_ | refine pu_gtr ?_ | refine pu_geq ?_ | refine pu_add ?_ | refine pu_sub ?_ | refine pu_mul ?_ | refine pu_neg ?_ | refine fa_at ?_ | refine nl_ptr ?_ | refine ex20 ?_ | refine ex21 ?_ | refine ex30 ?_ | refine ex31 ?_ | refine ex32 ?_ | refine ln_rule ?_ | refine lnT_rule ?_ | refine pu_and ?_ | refine pu_or ?_ | refine pu_xor ?_ | refine pu_seq ?_ | refine pu_sne ?_)
  refine cnd_t (by simp) ?_
  exact works_spec h4 k
theorem ArithFolds.law {v0 v1 v2 : Value} (g0 : FitV PG H T.t_api_Arith v0) (g1 : FitV PG H T.t_uint32 v1) (g2 : FitV PG H T.t_sl_uint32 v2) (h : Ow B w H) (k : ∀ w', Ow B w' H → K (vB true) w') : callW PG N.linesmanlaw05_ArithFolds [v0, v1, v2] K PK w := by
  obtain ⟨i, rfl, hi⟩ := g0.int und_arith
  obtain ⟨a, rfl, ha⟩ := g1.int und_u32
  obtain ⟨xs, hs, hlen, hx⟩ := g2.ints (e := T.t_uint32) (k := .u32) (by kernel_rfl) und_u32 (by kernel_rfl)
  have ha := wf_u32 ha
  have hx : ∀ x ∈ xs, IsU x := fun x hm => wf_u32 (hx x hm)
  have hs' := hs
  refine linesmanlaw05_ArithFolds.ok ?_
  unfold linesmanlaw05_ArithFolds.C
  obtain ⟨p0, cap, rfl, hcap, hcell⟩ := hs
  repeat (first | refine pu_not ?_ | refine pu_eql ?_ | refine pu_neq ?_ | refine pu_lss ?_ | refine pu_leq ?_ | refine pu_gtr ?_ | refine pu_geq ?_ | refine pu_add ?_ | refine pu_sub ?_ | refine pu_mul ?_ | refine pu_neg ?_ | refine fa_at ?_ | refine nl_ptr ?_ | refine ex20 ?_ | refine ex21 ?_ | refine ex30 ?_ | refine ex31 ?_ | refine ex32 ?_ | refine ln_rule ?_ | refine lnT_rule ?_ | refine pu_and ?_ | refine pu_or ?_ | refine pu_xor ?_ | refine pu_seq ?_ | refine pu_sne ?_)
  refine cnd (fun _ => works_spec h k) (fun _ => ?_)
  refine fold_spec ha hx hlen h hs' (fun w1 h1 => ?_)
  repeat (first | refine pu_not ?_ | refine pu_eql ?_ | refine pu_neq ?_ | refine pu_lss ?_ | refine pu_leq ?_ | refine pu_gtr ?_ | refine pu_geq ?_ | refine pu_add ?_ | refine pu_sub ?_ | refine pu_mul ?_ | refine pu_neg ?_ | refine fa_at ?_ | refine nl_ptr ?_ | refine ex20 ?_ | refine ex21 ?_ | refine ex30 ?_ | refine ex31 ?_ | refine ex32 ?_ | refine ln_rule ?_ | refine lnT_rule ?_ | refine pu_and ?_ | refine pu_or ?_ | refine pu_xor ?_ | refine pu_seq ?_ | refine pu_sne ?_)
  refine refFold_spec ha hx hlen h1 hs' (fun w2 h2 => ?_)
  repeat (first | refine pu_not ?_ | refine pu_eql ?_ | refine pu_neq ?_ | refine pu_lss ?_ | refine pu_leq ?_ | refine pu_gtr ?_ | refine pu_geq ?_ | refine pu_add ?_ | refine pu_sub ?_ | refine pu_mul ?_ | refine pu_neg ?_ | refine fa_at ?_ | refine nl_ptr ?_ | refine ex20 ?_ | refine ex21 ?_ | refine ex30 ?_ | refine ex31 ?_ | refine ex32 ?_ | refine ln_rule ?_ | refine lnT_rule ?_ | refine pu_and ?_ | refine pu_or ?_ | refine pu_xor ?_ | refine pu_seq ?_ | refine pu_sne ?_)
  refine cnd_t (by simp) ?_
  repeat (first | refine pu_not ?_ | refine pu_eql ?_ | refine pu_neq ?_ | refine pu_lss ?_ | refine pu_leq ?_ | refine pu_gtr ?_ | refine pu_geq ?_ | refine pu_add ?_ | refine pu_sub ?_ | refine pu_mul ?_ | refine pu_neg ?_ | refine fa_at ?_ | refine nl_ptr ?_ | refine ex20 ?_ | refine ex21 ?_ | refine ex30 ?_ | refine ex31 ?_ | refine ex32 ?_ | refine ln_rule ?_ | refine lnT_rule ?_ | refine pu_and ?_ | refine pu_or ?_ | refine pu_xor ?_ | refine pu_seq ?_ | refine pu_sne ?_)
  refine cnd_t (by simp) ?_
  refine num_spec ?_
  repeat (first | refine pu_not ?_ | refine pu_eql ?_ | refine pu_neq ?_ | refine pu_lss ?_ | refine pu_leq ?_ | refine pu_gtr ?_ | refine pu_geq ?_ | refine pu_add ?_ | refine pu_sub ?_ | refine pu_mul ?_ | refine pu_neg ?_ | refine fa_at ?_ | refine nl_ptr ?_ | refine ex20 ?_ | refine ex21 ?_ | refine ex30 ?_ | refine ex31 ?_ | refine ex32 ?_ | refine ln_rule ?_ | refine lnT_rule ?_ | refine pu_and ?_ | refine pu_or ?_ | refine pu_xor ?_ | refine pu_seq ?_ | refine pu_sne ?_)
  refine cnd_t (by simp) ?_
  exact works_spec h2 k

/-! ### What is undone -/
theorem l1 (a b : Int) : lDoes 1 a b = (a + b) % 4294967296 := by simp [lDoes, aDo, aOp]
theorem l2 (a b : Int) : lDoes 2 a b = (a - b) % 4294967296 := by simp [lDoes, aDo, aOp]
theorem l3 (a b : Int) : lDoes 3 a b = a * b % 4294967296 := by simp [lDoes, aDo, aOp]
theorem l4 {a b : Int} (ha : 0 ≤ a) (hb : b ≠ 0) : lDoes 4 a b = a / b := by simp [lDoes, aDo, aOp, hb, Int.tdiv_eq_ediv_of_nonneg ha]
theorem l5 {a b : Int} (ha : 0 ≤ a) (hb : b ≠ 0) : lDoes 5 a b = a % b := by simp [lDoes, aDo, aOp, hb, tme ha]
theorem l8 (a b : Int) : lDoes 8 a b = xorI .u32 a b := by simp [lDoes, aDo, aOp]
theorem l9 (a b : Int) : lDoes 9 a b = a * 2 ^ (b % 32).toNat % 4294967296 := by simp [lDoes, aDo, aOp]
theorem l10 (a b : Int) : lDoes 10 a b = a / 2 ^ (b % 32).toNat := by simp [lDoes, aDo, aOp]
theorem l11 (a b : Int) : lDoes 11 a b = if a < b then 1 else 0 := by simp [lDoes, aDo, aOp]
theorem xorI_u (a b : Int) : xorI .u32 a b = ((BitVec.ofInt 32 a ^^^ BitVec.ofInt 32 b).toNat : Int) := by
  unfold xorI
  rw [wrapu32]
  have : (BitVec.ofInt IntKind.u32.bits a ^^^ BitVec.ofInt IntKind.u32.bits b).toNat < 2 ^ 32 := BitVec.isLt _
  exact Int.emod_eq_of_lt (by omega) (by omega)
theorem xor_xor {a b : Int} (ha : IsU a) : xorI .u32 (xorI .u32 a b) b = a := by
  rw [xorI_u, xorI_u a b]
  have : BitVec.ofInt 32 (((BitVec.ofInt 32 a ^^^ BitVec.ofInt 32 b).toNat : Int)) = BitVec.ofInt 32 a ^^^ BitVec.ofInt 32 b := by
    rw [BitVec.ofInt_natCast, BitVec.ofNat_toNat, BitVec.setWidth_eq]
  rw [this, BitVec.xor_assoc, BitVec.xor_self, BitVec.xor_zero, BitVec.toNat_ofInt]
  omega
theorem andI_mask {a : Int} (ha : IsU a) {n : Nat} (hn : n ≤ 32) : andI .u32 a (2 ^ n - 1) = a % 2 ^ n := by
  obtain ⟨m, rfl⟩ := Int.eq_ofNat_of_zero_le ha.1
  have hm : m < 4294967296 := by omega
  have h1 : ((2 : Int) ^ n - 1) = ((2 ^ n - 1 : Nat) : Int) := by
    have : 1 ≤ 2 ^ n := Nat.one_le_two_pow
    rw [Int.ofNat_sub this, Int.natCast_pow]
    rfl
  have h2 : 2 ^ n - 1 < 4294967296 := by
    have : 2 ^ n ≤ 2 ^ 32 := Nat.pow_le_pow_right (by decide) hn
    omega
  unfold andI
  rw [h1, wrapu32]
  show ((BitVec.ofInt 32 (m : Int) &&& BitVec.ofInt 32 ((2 ^ n - 1 : Nat) : Int)).toNat : Int) % 4294967296 = _
  rw [BitVec.ofInt_natCast, BitVec.ofInt_natCast, BitVec.toNat_and, BitVec.toNat_ofNat, BitVec.toNat_ofNat, Nat.mod_eq_of_lt (by omega), Nat.mod_eq_of_lt (by omega), Nat.and_two_pow_sub_one_eq_mod]
  have h3 : m % 2 ^ n ≤ m := Nat.mod_le _ _
  have h4 : ((m % 2 ^ n : Nat) : Int) = (m : Int) % 2 ^ n := by push_cast; rfl
  rw [← h4]
  exact Int.emod_eq_of_lt (by omega) (by omega)
theorem shl_shr {a : Int} (ha : IsU a) {s : Nat} (hs : s < 32) : a * 2 ^ s % 4294967296 / 2 ^ s = a % 2 ^ (32 - s) := by
  obtain ⟨m, rfl⟩ := Int.eq_ofNat_of_zero_le ha.1
  have e : 4294967296 = 2 ^ (32 - s) * 2 ^ s := by
    rw [← Nat.pow_add, Nat.sub_add_cancel (by omega)]
  have h1 : m * 2 ^ s % 4294967296 / 2 ^ s = m % 2 ^ (32 - s) := by
    rw [e, Nat.mul_mod_mul_right, Nat.mul_div_cancel _ (Nat.two_pow_pos s)]
  have h2 : ((m * 2 ^ s % 4294967296 / 2 ^ s : Nat) : Int) = ((m % 2 ^ (32 - s) : Nat) : Int) := by rw [h1]
  rw [Int.natCast_ediv, Int.natCast_emod, Int.natCast_emod, Int.natCast_mul, Int.natCast_pow, Int.natCast_pow] at h2
  exact h2
theorem mask_shr {s : Nat} (hs : s < 32) : (4294967295 : Int).fdiv (2 ^ min s 64) = 2 ^ (32 - s) - 1 := by
  have : ∀ s : Fin 32, (4294967295 : Int).fdiv (2 ^ min s.val 64) = 2 ^ (32 - s.val) - 1 := by decide
  exact this ⟨s, hs⟩
theorem shr1 {a : Int} (h : 0 ≤ a) : a.fdiv (2 ^ min (1 : Int).toNat IntKind.u32.bits) = a / 2 := Int.fdiv_eq_ediv_of_nonneg _ (by decide)

theorem ArithHolds.law {v0 v1 : Value} (g0 : FitV PG H T.t_uint32 v0) (g1 : FitV PG H T.t_uint32 v1) (h : Ow B w H) (k : ∀ w', Ow B w' H → K (vB true) w') : callW PG N.linesmanlaw05_ArithHolds [v0, v1] K PK w := by
  obtain ⟨a, rfl, ha⟩ := g0.int und_u32
  obtain ⟨b, rfl, hb⟩ := g1.int und_u32
  have ha := wf_u32 ha
  have hb := wf_u32 hb
  refine linesmanlaw05_ArithHolds.ok ?_
  unfold linesmanlaw05_ArithHolds.C
  refine does_spec ha hb h (fun w1 h1 => ?_)
  rw [l1]
  refine does_spec (by constructor <;> omega) hb h1 (fun w2 h2 => ?_)
  rw [l2]
  repeat (first | refine pu_not ?_ | refine pu_eql ?_ | refine pu_neq ?_ | refine pu_lss ?_ | refine pu_leq ?_ | refine pu_gtr ?_ | refine pu_geq ?_ | refine pu_add ?_ | refine pu_sub ?_ | refine pu_mul ?_ | refine pu_neg ?_ | refine fa_at ?_ | refine nl_ptr ?_ | refine ex20 ?_ | refine ex21 ?_ | refine ex30 ?_ | refine ex31 ?_ | refine ex32 ?_ | refine ln_rule ?_ | refine lnT_rule ?_ | refine pu_and ?_ | refine pu_or ?_ | refine pu_xor ?_ | refine pu_seq ?_ | refine pu_sne ?_)
  refine cnd_f (by simp; omega) ?_
  refine does_spec ha hb h2 (fun w3 h3 => ?_)
  rw [l8]
  refine does_spec (by rw [xorI_u]; have := (BitVec.ofInt 32 a ^^^ BitVec.ofInt 32 b).isLt; constructor <;> omega) hb h3 (fun w4 h4 => ?_)
  rw [l8, xor_xor ha]
  repeat (first | refine pu_not ?_ | refine pu_eql ?_ | refine pu_neq ?_ | refine pu_lss ?_ | refine pu_leq ?_ | refine pu_gtr ?_ | refine pu_geq ?_ | refine pu_add ?_ | refine pu_sub ?_ | refine pu_mul ?_ | refine pu_neg ?_ | refine fa_at ?_ | refine nl_ptr ?_ | refine ex20 ?_ | refine ex21 ?_ | refine ex30 ?_ | refine ex31 ?_ | refine ex32 ?_ | refine ln_rule ?_ | refine lnT_rule ?_ | refine pu_and ?_ | refine pu_or ?_ | refine pu_xor ?_ | refine pu_seq ?_ | refine pu_sne ?_)
  refine cnd_f (by simp) ?_
  repeat (first | refine pu_not ?_ | refine pu_eql ?_ | refine pu_neq ?_ | refine pu_lss ?_ | refine pu_leq ?_ | refine pu_gtr ?_ | refine pu_geq ?_ | refine pu_add ?_ | refine pu_sub ?_ | refine pu_mul ?_ | refine pu_neg ?_ | refine fa_at ?_ | refine nl_ptr ?_ | refine ex20 ?_ | refine ex21 ?_ | refine ex30 ?_ | refine ex31 ?_ | refine ex32 ?_ | refine ln_rule ?_ | refine lnT_rule ?_ | refine pu_and ?_ | refine pu_or ?_ | refine pu_xor ?_ | refine pu_seq ?_ | refine pu_sne ?_)
  refine cnd (fun hb0 => ?_) (fun hb0 => ?_)
  · have hb0 : b ≠ 0 := by simpa using hb0
    have e1 : 0 ≤ a / b := Int.ediv_nonneg ha.1 hb.1
    have e2 : a / b ≤ a := Int.ediv_le_self _ ha.1
    have e3 : 0 ≤ a % b := Int.emod_nonneg _ hb0
    have e4 : a % b < b := Int.emod_lt_of_pos _ (by omega)
    have e5 : a / b * b + a % b = a := by rw [Int.mul_comm]; exact Int.mul_ediv_add_emod a b
    refine does_spec ha hb h4 (fun w41 h41 => ?_)
    rw [l4 ha.1 hb0]
    refine does_spec ha hb h41 (fun w42 h42 => ?_)
    rw [l5 ha.1 hb0]
    repeat (first | refine pu_not ?_ | refine pu_eql ?_ | refine pu_neq ?_ | refine pu_lss ?_ | refine pu_leq ?_ | refine pu_gtr ?_ | refine pu_geq ?_ | refine pu_add ?_ | refine pu_sub ?_ | refine pu_mul ?_ | refine pu_neg ?_ | refine fa_at ?_ | refine nl_ptr ?_ | refine ex20 ?_ | refine ex21 ?_ | refine ex30 ?_ | refine ex31 ?_ | refine ex32 ?_ | refine ln_rule ?_ | refine lnT_rule ?_ | refine pu_and ?_ | refine pu_or ?_ | refine pu_xor ?_ | refine pu_seq ?_ | refine pu_sne ?_)
    refine cnd_f (by simp; omega) ?_
    refine does_spec (by constructor <;> omega) hb h42 (fun w43 h43 => ?_)
    rw [l3]
    refine does_spec (by constructor <;> omega) (by constructor <;> omega) h43 (fun w5 h5 => ?_)
    rw [l1]
    repeat (first | refine pu_not ?_ | refine pu_eql ?_ | refine pu_neq ?_ | refine pu_lss ?_ | refine pu_leq ?_ | refine pu_gtr ?_ | refine pu_geq ?_ | refine pu_add ?_ | refine pu_sub ?_ | refine pu_mul ?_ | refine pu_neg ?_ | refine fa_at ?_ | refine nl_ptr ?_ | refine ex20 ?_ | refine ex21 ?_ | refine ex30 ?_ | refine ex31 ?_ | refine ex32 ?_ | refine ln_rule ?_ | refine lnT_rule ?_ | refine pu_and ?_ | refine pu_or ?_ | refine pu_xor ?_ | refine pu_seq ?_ | refine pu_sne ?_)
    refine cnd_f (by simp; generalize a / b * b = x at e5; omega) ?_
    refine pu_rem (by decide) ?_
    refine pu_cvt ⟨_, und_u32⟩ und_uint ?_
    rw [tme hb.1, w64 (by omega) (by omega)]
    refine does_spec ha hb h5 (fun w6 h6 => ?_)
    rw [l9]
    refine does_spec (by constructor <;> omega) hb h6 (fun w7 h7 => ?_)
    rw [l10, shl_shr ha (by omega)]
    refine pu_shr (by omega) ?_
    rw [show min (b % 32).toNat IntKind.u32.bits = min (b % 32).toNat 64 from by have : IntKind.u32.bits = 32 := rfl; rw [this]; omega, mask_shr (by omega)]
    repeat (first | refine pu_not ?_ | refine pu_eql ?_ | refine pu_neq ?_ | refine pu_lss ?_ | refine pu_leq ?_ | refine pu_gtr ?_ | refine pu_geq ?_ | refine pu_add ?_ | refine pu_sub ?_ | refine pu_mul ?_ | refine pu_neg ?_ | refine fa_at ?_ | refine nl_ptr ?_ | refine ex20 ?_ | refine ex21 ?_ | refine ex30 ?_ | refine ex31 ?_ | refine ex32 ?_ | refine ln_rule ?_ | refine lnT_rule ?_ | refine pu_and ?_ | refine pu_or ?_ | refine pu_xor ?_ | refine pu_seq ?_ | refine pu_sne ?_)
    rw [andI_mask ha (by omega)]
    refine cnd_t (by simp) ?_
    refine does_spec ha hb h7 (fun w8 h8 => ?_)
    rw [l11]
    repeat (first | refine pu_not ?_ | refine pu_eql ?_ | refine pu_neq ?_ | refine pu_lss ?_ | refine pu_leq ?_ | refine pu_gtr ?_ | refine pu_geq ?_ | refine pu_add ?_ | refine pu_sub ?_ | refine pu_mul ?_ | refine pu_neg ?_ | refine fa_at ?_ | refine nl_ptr ?_ | refine ex20 ?_ | refine ex21 ?_ | refine ex30 ?_ | refine ex31 ?_ | refine ex32 ?_ | refine ln_rule ?_ | refine lnT_rule ?_ | refine pu_and ?_ | refine pu_or ?_ | refine pu_xor ?_ | refine pu_seq ?_ | refine pu_sne ?_)
    refine pu_shr (by decide) ?_
    rw [shr1 ha.1]
    refine signed_spec (by constructor <;> omega) h8 (fun w9 h9 => ?_)
    refine pu_shr (by decide) ?_
    rw [shr1 hb.1]
    refine signed_spec (by constructor <;> omega) h9 (fun w10 h10 => ?_)
    rw [show aSg (a / 2) = a / 2 from if_pos (by omega), show aSg (b / 2) = b / 2 from if_pos (by omega)]
    repeat (first | refine pu_not ?_ | refine pu_eql ?_ | refine pu_neq ?_ | refine pu_lss ?_ | refine pu_leq ?_ | refine pu_gtr ?_ | refine pu_geq ?_ | refine pu_add ?_ | refine pu_sub ?_ | refine pu_mul ?_ | refine pu_neg ?_ | refine fa_at ?_ | refine nl_ptr ?_ | refine ex20 ?_ | refine ex21 ?_ | refine ex30 ?_ | refine ex31 ?_ | refine ex32 ?_ | refine ln_rule ?_ | refine lnT_rule ?_ | refine pu_and ?_ | refine pu_or ?_ | refine pu_xor ?_ | refine pu_seq ?_ | refine pu_sne ?_)
    refine cnd (fun hlt => ?_) (fun hlt => ?_)
    · have hlt : a / 2 < b / 2 := by simpa using hlt
      refine pu_beql und_bool ?_
      rw [if_pos (by omega)]
      refine cnd_t (by decide) ?_
      exact works_spec h10 k
    · have hlt : ¬ a / 2 < b / 2 := by simpa using hlt
      refine pu_shr (by decide) ?_
      rw [shr1 ha.1]
      refine pu_shr (by decide) ?_
      rw [shr1 hb.1]
      repeat (first | refine pu_not ?_ | refine pu_eql ?_ | refine pu_neq ?_ | refine pu_lss ?_ | refine pu_leq ?_ | refine pu_gtr ?_ | refine pu_geq ?_ | refine pu_add ?_ | refine pu_sub ?_ | refine pu_mul ?_ | refine pu_neg ?_ | refine fa_at ?_ | refine nl_ptr ?_ | refine ex20 ?_ | refine ex21 ?_ | refine ex30 ?_ | refine ex31 ?_ | refine ex32 ?_ | refine ln_rule ?_ | refine lnT_rule ?_ | refine pu_and ?_ | refine pu_or ?_ | refine pu_xor ?_ | refine pu_seq ?_ | refine pu_sne ?_)
      refine cnd (fun heq => ?_) (fun heq => ?_)
      · have heq : a / 2 = b / 2 := by simpa using heq
        refine pu_rem (by decide) ?_
        refine pu_rem (by decide) ?_
        rw [tme ha.1, tme hb.1]
        repeat (first | refine pu_not ?_ | refine pu_eql ?_ | refine pu_neq ?_ | refine pu_lss ?_ | refine pu_leq ?_ | refine pu_gtr ?_ | refine pu_geq ?_ | refine pu_add ?_ | refine pu_sub ?_ | refine pu_mul ?_ | refine pu_neg ?_ | refine fa_at ?_ | refine nl_ptr ?_ | refine ex20 ?_ | refine ex21 ?_ | refine ex30 ?_ | refine ex31 ?_ | refine ex32 ?_ | refine ln_rule ?_ | refine lnT_rule ?_ | refine pu_and ?_ | refine pu_or ?_ | refine pu_xor ?_ | refine pu_seq ?_ | refine pu_sne ?_)
        refine pu_beql und_bool ?_
        refine cnd_t ?_ (works_spec h10 k)
        by_cases hc : a < b
        · have : a % 2 < b % 2 := by omega
          simp [hc, this]
        · have : ¬ a % 2 < b % 2 := by omega
          simp [hc, this]
      · have heq : ¬ a / 2 = b / 2 := by simpa using heq
        refine pu_beql und_bool ?_
        rw [if_neg (by omega)]
        refine cnd_t (by decide) ?_
        exact works_spec h10 k
  · have h5 := h4
    refine pu_rem (by decide) ?_
    refine pu_cvt ⟨_, und_u32⟩ und_uint ?_
    rw [tme hb.1, w64 (by omega) (by omega)]
    refine does_spec ha hb h5 (fun w6 h6 => ?_)
    rw [l9]
    refine does_spec (by constructor <;> omega) hb h6 (fun w7 h7 => ?_)
    rw [l10, shl_shr ha (by omega)]
    refine pu_shr (by omega) ?_
    rw [show min (b % 32).toNat IntKind.u32.bits = min (b % 32).toNat 64 from by have : IntKind.u32.bits = 32 := rfl; rw [this]; omega, mask_shr (by omega)]
    repeat (first | refine pu_not ?_ | refine pu_eql ?_ | refine pu_neq ?_ | refine pu_lss ?_ | refine pu_leq ?_ | refine pu_gtr ?_ | refine pu_geq ?_ | refine pu_add ?_ | refine pu_sub ?_ | refine pu_mul ?_ | refine pu_neg ?_ | refine fa_at ?_ | refine nl_ptr ?_ | refine ex20 ?_ | refine ex21 ?_ | refine ex30 ?_ | refine ex31 ?_ | refine ex32 ?_ | refine ln_rule ?_ | refine lnT_rule ?_ | refine pu_and ?_ | refine pu_or ?_ | refine pu_xor ?_ | refine pu_seq ?_ | refine pu_sne ?_)
    rw [andI_mask ha (by omega)]
    refine cnd_t (by simp) ?_
    refine does_spec ha hb h7 (fun w8 h8 => ?_)
    rw [l11]
    repeat (first | refine pu_not ?_ | refine pu_eql ?_ | refine pu_neq ?_ | refine pu_lss ?_ | refine pu_leq ?_ | refine pu_gtr ?_ | refine pu_geq ?_ | refine pu_add ?_ | refine pu_sub ?_ | refine pu_mul ?_ | refine pu_neg ?_ | refine fa_at ?_ | refine nl_ptr ?_ | refine ex20 ?_ | refine ex21 ?_ | refine ex30 ?_ | refine ex31 ?_ | refine ex32 ?_ | refine ln_rule ?_ | refine lnT_rule ?_ | refine pu_and ?_ | refine pu_or ?_ | refine pu_xor ?_ | refine pu_seq ?_ | refine pu_sne ?_)
    refine pu_shr (by decide) ?_
    rw [shr1 ha.1]
    refine signed_spec (by constructor <;> omega) h8 (fun w9 h9 => ?_)
    refine pu_shr (by decide) ?_
    rw [shr1 hb.1]
    refine signed_spec (by constructor <;> omega) h9 (fun w10 h10 => ?_)
    rw [show aSg (a / 2) = a / 2 from if_pos (by omega), show aSg (b / 2) = b / 2 from if_pos (by omega)]
    repeat (first | refine pu_not ?_ | refine pu_eql ?_ | refine pu_neq ?_ | refine pu_lss ?_ | refine pu_leq ?_ | refine pu_gtr ?_ | refine pu_geq ?_ | refine pu_add ?_ | refine pu_sub ?_ | refine pu_mul ?_ | refine pu_neg ?_ | refine fa_at ?_ | refine nl_ptr ?_ | refine ex20 ?_ | refine ex21 ?_ | refine ex30 ?_ | refine ex31 ?_ | refine ex32 ?_ | refine ln_rule ?_ | refine lnT_rule ?_ | refine pu_and ?_ | refine pu_or ?_ | refine pu_xor ?_ | refine pu_seq ?_ | refine pu_sne ?_)
    refine cnd (fun hlt => ?_) (fun hlt => ?_)
    · have hlt : a / 2 < b / 2 := by simpa using hlt
      refine pu_beql und_bool ?_
      rw [if_pos (by omega)]
      refine cnd_t (by decide) ?_
      exact works_spec h10 k
    · have hlt : ¬ a / 2 < b / 2 := by simpa using hlt
      refine pu_shr (by decide) ?_
      rw [shr1 ha.1]
      refine pu_shr (by decide) ?_
      rw [shr1 hb.1]
      repeat (first | refine pu_not ?_ | refine pu_eql ?_ | refine pu_neq ?_ | refine pu_lss ?_ | refine pu_leq ?_ | refine pu_gtr ?_ | refine pu_geq ?_ | refine pu_add ?_ | refine pu_sub ?_ | refine pu_mul ?_ | refine pu_neg ?_ | refine fa_at ?_ | refine nl_ptr ?_ | refine ex20 ?_ | refine ex21 ?_ | refine ex30 ?_ | refine ex31 ?_ | refine ex32 ?_ | refine ln_rule ?_ | refine lnT_rule ?_ | refine pu_and ?_ | refine pu_or ?_ | refine pu_xor ?_ | refine pu_seq ?_ | refine pu_sne ?_)
      refine cnd (fun heq => ?_) (fun heq => ?_)
      · have heq : a / 2 = b / 2 := by simpa using heq
        refine pu_rem (by decide) ?_
        refine pu_rem (by decide) ?_
        rw [tme ha.1, tme hb.1]
        repeat (first | refine pu_not ?_ | refine pu_eql ?_ | refine pu_neq ?_ | refine pu_lss ?_ | refine pu_leq ?_ | refine pu_gtr ?_ | refine pu_geq ?_ | refine pu_add ?_ | refine pu_sub ?_ | refine pu_mul ?_ | refine pu_neg ?_ | refine fa_at ?_ | refine nl_ptr ?_ | refine ex20 ?_ | refine ex21 ?_ | refine ex30 ?_ | refine ex31 ?_ | refine ex32 ?_ | refine ln_rule ?_ | refine lnT_rule ?_ | refine pu_and ?_ | refine pu_or ?_ | refine pu_xor ?_ | refine pu_seq ?_ | refine pu_sne ?_)
        refine pu_beql und_bool ?_
        refine cnd_t ?_ (works_spec h10 k)
        by_cases hc : a < b
        · have : a % 2 < b % 2 := by omega
          simp [hc, this]
        · have : ¬ a % 2 < b % 2 := by omega
          simp [hc, this]
      · have heq : ¬ a / 2 = b / 2 := by simpa using heq
        refine pu_beql und_bool ?_
        rw [if_neg (by omega)]
        refine cnd_t (by decide) ?_
        exact works_spec h10 k
end
end Go.Proofs.Ytjchmalodbnamaa
