/- Contracts of package arith: what is reckoned. -/
import Derived.Test.YtkkkcafkepnecaaGreatVpK
import Derived.Test.YtkkkcafkepnecaaGreatVsA
set_option linter.unusedVariables false
set_option linter.unusedSimpArgs false
namespace Go.Proofs.YtkkkcafkepnecaaGreat.Ar
open Go Go.RowKit Vc
attribute [local irreducible] binV Op.unary convert

section
variable {B w : World} {H : Hp} {K : Value → World → Prop} {PK : List PanicEntry → World → Prop}
abbrev vU (n : Int) : Value := .int .u32 n
abbrev fnv (f : FuncId) : Value := .func (.func f) #[] #[]
abbrev IsU (n : Int) : Prop := 0 ≤ n ∧ n < 4294967296

/-- What is reckoned, by kinds. -/
def aOp (k a b : Int) : Int :=
  if k = 1 then (a + b) % 4294967296 else if k = 2 then (a - b) % 4294967296 else if k = 3 then a * b % 4294967296 else if k = 4 then a.tdiv b else if k = 5 then a.tmod b
  else if k = 6 then andI .u32 a b else if k = 7 then orI .u32 a b else if k = 8 then xorI .u32 a b else if k = 9 then a * 2 ^ (b % 32).toNat % 4294967296 else if k = 10 then a / 2 ^ (b % 32).toNat
  else if k = 11 then (if a < b then 1 else 0) else (if a = b then 1 else 0)
def aDo (k a b : Int) : Int × Int :=
  if k < 1 ∨ 12 < k then (0, 2) else if b = 0 ∧ (k = 4 ∨ k = 5) then (0, 150) else (aOp k a b, 0)

def doesL : List (Int × Value) := [(1, fnv N.arith_does_1), (2, fnv N.arith_does_2), (3, fnv N.arith_does_3), (4, fnv N.arith_does_4), (5, fnv N.arith_does_5), (6, fnv N.arith_does_6),
  (7, fnv N.arith_does_7), (8, fnv N.arith_does_8), (9, fnv N.arith_does_9), (10, fnv N.arith_does_10), (11, fnv N.arith_does_11), (12, fnv N.arith_does_12)]
theorem und_does : PG.underlying T.t_map_api_Arith_func_arith_pair_uint32 = some (.map T.t_api_Arith T.t_func_arith_pair_uint32) := by kernel_rfl
theorem und_arith : PG.underlying T.t_api_Arith = some (.int .i64) := by kernel_rfl
theorem zo_does : zo PG T.t_func_arith_pair_uint32 = some .nilFunc := by kernel_rfl
theorem und_u32 : PG.underlying T.t_uint32 = some (.int .u32) := by kernel_rfl
theorem und_u64 : PG.underlying T.t_uint64 = some (.int .u64) := by kernel_rfl
theorem und_i64 : PG.underlying T.t_int64 = some (.int .i64) := by kernel_rfl
theorem und_i32 : PG.underlying T.t_int32 = some (.int .i32) := by kernel_rfl
theorem und_int : PG.underlying T.t_int = some (.int .i64) := by kernel_rfl
theorem und_word : PG.underlying T.t_arith_word = some (.int .u32) := by kernel_rfl

theorem map_spec (h : Ow B w H) (k : ∀ b w', Ow B w' ((b, mpo .i64 doesL) :: H) → K (.map (some b)) w') : callW PG N.arith_does [] K PK w := by
  refine arith_does.ok ?_
  unfold arith_does.C
  refine mk_rule (kd := .i64) h (fun b w1 h1 => ?_)
  have go : ∀ {l : List (Int × Value)} {x : Int} {v : Value} {w : World} {KU : World → Prop}, Ow B w ((b, mpo .i64 l) :: H) → lk l x = none → (∀ w', Ow B w' ((b, mpo .i64 (l ++ [(x, v)])) :: H) → KU w') →
      opU PG (Instr.mapUpdate T.t_map_api_Arith_func_arith_pair_uint32 (.map (some b)) (.int .i64 x) v) KU w :=
    fun h hn k => mu_rule (A := []) h und_does und_arith hn k
  refine go h1 rfl (fun w2 h2 => go h2 rfl (fun w3 h3 => go h3 rfl (fun w4 h4 => go h4 rfl (fun w5 h5 => go h5 rfl (fun w6 h6 => go h6 rfl (fun w7 h7 => ?_))))))
  refine go h7 rfl (fun w8 h8 => go h8 rfl (fun w9 h9 => go h9 rfl (fun w10 h10 => go h10 rfl (fun w11 h11 => go h11 rfl (fun w12 h12 => go h12 rfl (fun w13 h13 => k b w13 h13))))))

theorem at_spec {a b : Int} (hb : IsU b) (h : Ow B w H) (k : ∀ w', Ow B w' H → K (vU (b % 32)) w') : callW PG N.arith_pair_at [.agg #[vU a, vU b]] K PK w := by
  refine arith_pair_at.ok ?_
  unfold arith_pair_at.C
  refine al_rule h (l := [vU a, vU b]) rfl (fun p w1 h1 => ?_)
  repeat (first | refine pu_not ?_ | refine pu_eql ?_ | refine pu_neq ?_ | refine pu_lss ?_ | refine pu_leq ?_ | refine pu_gtr ?_ | refine pu_geq ?_ | refine pu_add ?_ | refine pu_sub ?_ | refine pu_mul ?_ | refine pu_neg ?_ | refine fa_at ?_ | refine nl_ptr ?_ | refine ex20 ?_ | refine ex21 ?_ | refine ex30 ?_ | refine ex31 ?_ | refine ex32 ?_ | refine ln_rule ?_ | refine lnT_rule ?_ | refine pu_and ?_ | refine pu_or ?_ | refine pu_xor ?_ | refine pu_seq ?_ | refine pu_sne ?_)
  refine ld_here h1 (.head _) rfl ?_
  refine pu_rem (by decide) ?_
  rw [Int.tmod_eq_emod_of_nonneg hb.1]
  exact k _ h1.drop
theorem one_spec {b : Bool} (h : Ow B w H) (k : ∀ w', Ow B w' H → K (vU (if b then 1 else 0)) w') : callW PG N.arith_one [vB b] K PK w := by
  refine arith_one.ok ?_
  unfold arith_one.C
  exact cnd (fun hb => by subst hb; exact k _ h) (fun hb => by subst hb; exact k _ h)

/-- A function of the map, at its kind. -/
def OpF (B : World) (f : Value) (k : Int) : Prop := ∀ (H : Hp) (K : Value → World → Prop) (PK : List PanicEntry → World → Prop) (w : World) (a b : Int), IsU a → IsU b → (k = 4 ∨ k = 5 → b ≠ 0) → Ow B w H →
  (∀ w', Ow B w' H → K (vU (aOp k a b)) w') → callV PG f [.agg #[vU a, vU b]] K PK w
theorem f1 : OpF B (fnv N.arith_does_1) 1 := by
  intro H K PK w a b ha hb h0 h k
  refine callV_fn arith_does_1.okf (arith_does_1.ok ?_)
  unfold arith_does_1.C
  refine al_rule h (l := [vU a, vU b]) rfl (fun p w1 h1 => ?_)
  repeat (first | refine pu_not ?_ | refine pu_eql ?_ | refine pu_neq ?_ | refine pu_lss ?_ | refine pu_leq ?_ | refine pu_gtr ?_ | refine pu_geq ?_ | refine pu_add ?_ | refine pu_sub ?_ | refine pu_mul ?_ | refine pu_neg ?_ | refine fa_at ?_ | refine nl_ptr ?_ | refine ex20 ?_ | refine ex21 ?_ | refine ex30 ?_ | refine ex31 ?_ | refine ex32 ?_ | refine ln_rule ?_ | refine lnT_rule ?_ | refine pu_and ?_ | refine pu_or ?_ | refine pu_xor ?_ | refine pu_seq ?_ | refine pu_sne ?_)
  refine ld_here h1 (.head _) rfl ?_
  repeat (first | refine pu_not ?_ | refine pu_eql ?_ | refine pu_neq ?_ | refine pu_lss ?_ | refine pu_leq ?_ | refine pu_gtr ?_ | refine pu_geq ?_ | refine pu_add ?_ | refine pu_sub ?_ | refine pu_mul ?_ | refine pu_neg ?_ | refine fa_at ?_ | refine nl_ptr ?_ | refine ex20 ?_ | refine ex21 ?_ | refine ex30 ?_ | refine ex31 ?_ | refine ex32 ?_ | refine ln_rule ?_ | refine lnT_rule ?_ | refine pu_and ?_ | refine pu_or ?_ | refine pu_xor ?_ | refine pu_seq ?_ | refine pu_sne ?_)
  refine ld_here h1 (.head _) rfl ?_
  repeat (first | refine pu_not ?_ | refine pu_eql ?_ | refine pu_neq ?_ | refine pu_lss ?_ | refine pu_leq ?_ | refine pu_gtr ?_ | refine pu_geq ?_ | refine pu_add ?_ | refine pu_sub ?_ | refine pu_mul ?_ | refine pu_neg ?_ | refine fa_at ?_ | refine nl_ptr ?_ | refine ex20 ?_ | refine ex21 ?_ | refine ex30 ?_ | refine ex31 ?_ | refine ex32 ?_ | refine ln_rule ?_ | refine lnT_rule ?_ | refine pu_and ?_ | refine pu_or ?_ | refine pu_xor ?_ | refine pu_seq ?_ | refine pu_sne ?_)
  rw [wrapu32]
  exact k _ h1.drop
theorem f2 : OpF B (fnv N.arith_does_2) 2 := by
  intro H K PK w a b ha hb h0 h k
  refine callV_fn arith_does_2.okf (arith_does_2.ok ?_)
  unfold arith_does_2.C
  refine al_rule h (l := [vU a, vU b]) rfl (fun p w1 h1 => ?_)
  repeat (first | refine pu_not ?_ | refine pu_eql ?_ | refine pu_neq ?_ | refine pu_lss ?_ | refine pu_leq ?_ | refine pu_gtr ?_ | refine pu_geq ?_ | refine pu_add ?_ | refine pu_sub ?_ | refine pu_mul ?_ | refine pu_neg ?_ | refine fa_at ?_ | refine nl_ptr ?_ | refine ex20 ?_ | refine ex21 ?_ | refine ex30 ?_ | refine ex31 ?_ | refine ex32 ?_ | refine ln_rule ?_ | refine lnT_rule ?_ | refine pu_and ?_ | refine pu_or ?_ | refine pu_xor ?_ | refine pu_seq ?_ | refine pu_sne ?_)
  refine ld_here h1 (.head _) rfl ?_
  repeat (first | refine pu_not ?_ | refine pu_eql ?_ | refine pu_neq ?_ | refine pu_lss ?_ | refine pu_leq ?_ | refine pu_gtr ?_ | refine pu_geq ?_ | refine pu_add ?_ | refine pu_sub ?_ | refine pu_mul ?_ | refine pu_neg ?_ | refine fa_at ?_ | refine nl_ptr ?_ | refine ex20 ?_ | refine ex21 ?_ | refine ex30 ?_ | refine ex31 ?_ | refine ex32 ?_ | refine ln_rule ?_ | refine lnT_rule ?_ | refine pu_and ?_ | refine pu_or ?_ | refine pu_xor ?_ | refine pu_seq ?_ | refine pu_sne ?_)
  refine ld_here h1 (.head _) rfl ?_
  repeat (first | refine pu_not ?_ | refine pu_eql ?_ | refine pu_neq ?_ | refine pu_lss ?_ | refine pu_leq ?_ | refine pu_gtr ?_ | refine pu_geq ?_ | refine pu_add ?_ | refine pu_sub ?_ | refine pu_mul ?_ | refine pu_neg ?_ | refine fa_at ?_ | refine nl_ptr ?_ | refine ex20 ?_ | refine ex21 ?_ | refine ex30 ?_ | refine ex31 ?_ | refine ex32 ?_ | refine ln_rule ?_ | refine lnT_rule ?_ | refine pu_and ?_ | refine pu_or ?_ | refine pu_xor ?_ | refine pu_seq ?_ | refine pu_sne ?_)
  rw [wrapu32]
  exact k _ h1.drop
theorem f3 : OpF B (fnv N.arith_does_3) 3 := by
  intro H K PK w a b ha hb h0 h k
  refine callV_fn arith_does_3.okf (arith_does_3.ok ?_)
  unfold arith_does_3.C
  refine al_rule h (l := [vU a, vU b]) rfl (fun p w1 h1 => ?_)
  repeat (first | refine pu_not ?_ | refine pu_eql ?_ | refine pu_neq ?_ | refine pu_lss ?_ | refine pu_leq ?_ | refine pu_gtr ?_ | refine pu_geq ?_ | refine pu_add ?_ | refine pu_sub ?_ | refine pu_mul ?_ | refine pu_neg ?_ | refine fa_at ?_ | refine nl_ptr ?_ | refine ex20 ?_ | refine ex21 ?_ | refine ex30 ?_ | refine ex31 ?_ | refine ex32 ?_ | refine ln_rule ?_ | refine lnT_rule ?_ | refine pu_and ?_ | refine pu_or ?_ | refine pu_xor ?_ | refine pu_seq ?_ | refine pu_sne ?_)
  refine ld_here h1 (.head _) rfl ?_
  repeat (first | refine pu_not ?_ | refine pu_eql ?_ | refine pu_neq ?_ | refine pu_lss ?_ | refine pu_leq ?_ | refine pu_gtr ?_ | refine pu_geq ?_ | refine pu_add ?_ | refine pu_sub ?_ | refine pu_mul ?_ | refine pu_neg ?_ | refine fa_at ?_ | refine nl_ptr ?_ | refine ex20 ?_ | refine ex21 ?_ | refine ex30 ?_ | refine ex31 ?_ | refine ex32 ?_ | refine ln_rule ?_ | refine lnT_rule ?_ | refine pu_and ?_ | refine pu_or ?_ | refine pu_xor ?_ | refine pu_seq ?_ | refine pu_sne ?_)
  refine ld_here h1 (.head _) rfl ?_
  repeat (first | refine pu_not ?_ | refine pu_eql ?_ | refine pu_neq ?_ | refine pu_lss ?_ | refine pu_leq ?_ | refine pu_gtr ?_ | refine pu_geq ?_ | refine pu_add ?_ | refine pu_sub ?_ | refine pu_mul ?_ | refine pu_neg ?_ | refine fa_at ?_ | refine nl_ptr ?_ | refine ex20 ?_ | refine ex21 ?_ | refine ex30 ?_ | refine ex31 ?_ | refine ex32 ?_ | refine ln_rule ?_ | refine lnT_rule ?_ | refine pu_and ?_ | refine pu_or ?_ | refine pu_xor ?_ | refine pu_seq ?_ | refine pu_sne ?_)
  rw [wrapu32]
  exact k _ h1.drop
theorem f4 : OpF B (fnv N.arith_does_4) 4 := by
  intro H K PK w a b ha hb h0 h k
  refine callV_fn arith_does_4.okf (arith_does_4.ok ?_)
  unfold arith_does_4.C
  refine al_rule h (l := [vU a, vU b]) rfl (fun p w1 h1 => ?_)
  repeat (first | refine pu_not ?_ | refine pu_eql ?_ | refine pu_neq ?_ | refine pu_lss ?_ | refine pu_leq ?_ | refine pu_gtr ?_ | refine pu_geq ?_ | refine pu_add ?_ | refine pu_sub ?_ | refine pu_mul ?_ | refine pu_neg ?_ | refine fa_at ?_ | refine nl_ptr ?_ | refine ex20 ?_ | refine ex21 ?_ | refine ex30 ?_ | refine ex31 ?_ | refine ex32 ?_ | refine ln_rule ?_ | refine lnT_rule ?_ | refine pu_and ?_ | refine pu_or ?_ | refine pu_xor ?_ | refine pu_seq ?_ | refine pu_sne ?_)
  refine ld_here h1 (.head _) rfl ?_
  repeat (first | refine pu_not ?_ | refine pu_eql ?_ | refine pu_neq ?_ | refine pu_lss ?_ | refine pu_leq ?_ | refine pu_gtr ?_ | refine pu_geq ?_ | refine pu_add ?_ | refine pu_sub ?_ | refine pu_mul ?_ | refine pu_neg ?_ | refine fa_at ?_ | refine nl_ptr ?_ | refine ex20 ?_ | refine ex21 ?_ | refine ex30 ?_ | refine ex31 ?_ | refine ex32 ?_ | refine ln_rule ?_ | refine lnT_rule ?_ | refine pu_and ?_ | refine pu_or ?_ | refine pu_xor ?_ | refine pu_seq ?_ | refine pu_sne ?_)
  refine ld_here h1 (.head _) rfl ?_
  refine pu_quo (h0 (.inl rfl)) ?_
  have : IntKind.u32.wrap (a.tdiv b) = a.tdiv b := by
    rw [wrapu32, Int.tdiv_eq_ediv_of_nonneg ha.1]
    have h1 : 0 ≤ a / b := Int.ediv_nonneg ha.1 hb.1
    have h2 : a / b ≤ a := Int.ediv_le_self _ ha.1
    exact Int.emod_eq_of_lt h1 (by omega)
  rw [this]
  exact k _ h1.drop
theorem f5 : OpF B (fnv N.arith_does_5) 5 := by
  intro H K PK w a b ha hb h0 h k
  refine callV_fn arith_does_5.okf (arith_does_5.ok ?_)
  unfold arith_does_5.C
  refine al_rule h (l := [vU a, vU b]) rfl (fun p w1 h1 => ?_)
  repeat (first | refine pu_not ?_ | refine pu_eql ?_ | refine pu_neq ?_ | refine pu_lss ?_ | refine pu_leq ?_ | refine pu_gtr ?_ | refine pu_geq ?_ | refine pu_add ?_ | refine pu_sub ?_ | refine pu_mul ?_ | refine pu_neg ?_ | refine fa_at ?_ | refine nl_ptr ?_ | refine ex20 ?_ | refine ex21 ?_ | refine ex30 ?_ | refine ex31 ?_ | refine ex32 ?_ | refine ln_rule ?_ | refine lnT_rule ?_ | refine pu_and ?_ | refine pu_or ?_ | refine pu_xor ?_ | refine pu_seq ?_ | refine pu_sne ?_)
  refine ld_here h1 (.head _) rfl ?_
  repeat (first | refine pu_not ?_ | refine pu_eql ?_ | refine pu_neq ?_ | refine pu_lss ?_ | refine pu_leq ?_ | refine pu_gtr ?_ | refine pu_geq ?_ | refine pu_add ?_ | refine pu_sub ?_ | refine pu_mul ?_ | refine pu_neg ?_ | refine fa_at ?_ | refine nl_ptr ?_ | refine ex20 ?_ | refine ex21 ?_ | refine ex30 ?_ | refine ex31 ?_ | refine ex32 ?_ | refine ln_rule ?_ | refine lnT_rule ?_ | refine pu_and ?_ | refine pu_or ?_ | refine pu_xor ?_ | refine pu_seq ?_ | refine pu_sne ?_)
  refine ld_here h1 (.head _) rfl ?_
  refine pu_rem (h0 (.inr rfl)) ?_
  exact k _ h1.drop
theorem f6 : OpF B (fnv N.arith_does_6) 6 := by
  intro H K PK w a b ha hb h0 h k
  refine callV_fn arith_does_6.okf (arith_does_6.ok ?_)
  unfold arith_does_6.C
  refine al_rule h (l := [vU a, vU b]) rfl (fun p w1 h1 => ?_)
  repeat (first | refine pu_not ?_ | refine pu_eql ?_ | refine pu_neq ?_ | refine pu_lss ?_ | refine pu_leq ?_ | refine pu_gtr ?_ | refine pu_geq ?_ | refine pu_add ?_ | refine pu_sub ?_ | refine pu_mul ?_ | refine pu_neg ?_ | refine fa_at ?_ | refine nl_ptr ?_ | refine ex20 ?_ | refine ex21 ?_ | refine ex30 ?_ | refine ex31 ?_ | refine ex32 ?_ | refine ln_rule ?_ | refine lnT_rule ?_ | refine pu_and ?_ | refine pu_or ?_ | refine pu_xor ?_ | refine pu_seq ?_ | refine pu_sne ?_)
  refine ld_here h1 (.head _) rfl ?_
  repeat (first | refine pu_not ?_ | refine pu_eql ?_ | refine pu_neq ?_ | refine pu_lss ?_ | refine pu_leq ?_ | refine pu_gtr ?_ | refine pu_geq ?_ | refine pu_add ?_ | refine pu_sub ?_ | refine pu_mul ?_ | refine pu_neg ?_ | refine fa_at ?_ | refine nl_ptr ?_ | refine ex20 ?_ | refine ex21 ?_ | refine ex30 ?_ | refine ex31 ?_ | refine ex32 ?_ | refine ln_rule ?_ | refine lnT_rule ?_ | refine pu_and ?_ | refine pu_or ?_ | refine pu_xor ?_ | refine pu_seq ?_ | refine pu_sne ?_)
  refine ld_here h1 (.head _) rfl ?_
  repeat (first | refine pu_not ?_ | refine pu_eql ?_ | refine pu_neq ?_ | refine pu_lss ?_ | refine pu_leq ?_ | refine pu_gtr ?_ | refine pu_geq ?_ | refine pu_add ?_ | refine pu_sub ?_ | refine pu_mul ?_ | refine pu_neg ?_ | refine fa_at ?_ | refine nl_ptr ?_ | refine ex20 ?_ | refine ex21 ?_ | refine ex30 ?_ | refine ex31 ?_ | refine ex32 ?_ | refine ln_rule ?_ | refine lnT_rule ?_ | refine pu_and ?_ | refine pu_or ?_ | refine pu_xor ?_ | refine pu_seq ?_ | refine pu_sne ?_)
  exact k _ h1.drop
theorem f7 : OpF B (fnv N.arith_does_7) 7 := by
  intro H K PK w a b ha hb h0 h k
  refine callV_fn arith_does_7.okf (arith_does_7.ok ?_)
  unfold arith_does_7.C
  refine al_rule h (l := [vU a, vU b]) rfl (fun p w1 h1 => ?_)
  repeat (first | refine pu_not ?_ | refine pu_eql ?_ | refine pu_neq ?_ | refine pu_lss ?_ | refine pu_leq ?_ | refine pu_gtr ?_ | refine pu_geq ?_ | refine pu_add ?_ | refine pu_sub ?_ | refine pu_mul ?_ | refine pu_neg ?_ | refine fa_at ?_ | refine nl_ptr ?_ | refine ex20 ?_ | refine ex21 ?_ | refine ex30 ?_ | refine ex31 ?_ | refine ex32 ?_ | refine ln_rule ?_ | refine lnT_rule ?_ | refine pu_and ?_ | refine pu_or ?_ | refine pu_xor ?_ | refine pu_seq ?_ | refine pu_sne ?_)
  refine ld_here h1 (.head _) rfl ?_
  repeat (first | refine pu_not ?_ | refine pu_eql ?_ | refine pu_neq ?_ | refine pu_lss ?_ | refine pu_leq ?_ | refine pu_gtr ?_ | refine pu_geq ?_ | refine pu_add ?_ | refine pu_sub ?_ | refine pu_mul ?_ | refine pu_neg ?_ | refine fa_at ?_ | refine nl_ptr ?_ | refine ex20 ?_ | refine ex21 ?_ | refine ex30 ?_ | refine ex31 ?_ | refine ex32 ?_ | refine ln_rule ?_ | refine lnT_rule ?_ | refine pu_and ?_ | refine pu_or ?_ | refine pu_xor ?_ | refine pu_seq ?_ | refine pu_sne ?_)
  refine ld_here h1 (.head _) rfl ?_
  repeat (first | refine pu_not ?_ | refine pu_eql ?_ | refine pu_neq ?_ | refine pu_lss ?_ | refine pu_leq ?_ | refine pu_gtr ?_ | refine pu_geq ?_ | refine pu_add ?_ | refine pu_sub ?_ | refine pu_mul ?_ | refine pu_neg ?_ | refine fa_at ?_ | refine nl_ptr ?_ | refine ex20 ?_ | refine ex21 ?_ | refine ex30 ?_ | refine ex31 ?_ | refine ex32 ?_ | refine ln_rule ?_ | refine lnT_rule ?_ | refine pu_and ?_ | refine pu_or ?_ | refine pu_xor ?_ | refine pu_seq ?_ | refine pu_sne ?_)
  exact k _ h1.drop
theorem f8 : OpF B (fnv N.arith_does_8) 8 := by
  intro H K PK w a b ha hb h0 h k
  refine callV_fn arith_does_8.okf (arith_does_8.ok ?_)
  unfold arith_does_8.C
  refine al_rule h (l := [vU a, vU b]) rfl (fun p w1 h1 => ?_)
  repeat (first | refine pu_not ?_ | refine pu_eql ?_ | refine pu_neq ?_ | refine pu_lss ?_ | refine pu_leq ?_ | refine pu_gtr ?_ | refine pu_geq ?_ | refine pu_add ?_ | refine pu_sub ?_ | refine pu_mul ?_ | refine pu_neg ?_ | refine fa_at ?_ | refine nl_ptr ?_ | refine ex20 ?_ | refine ex21 ?_ | refine ex30 ?_ | refine ex31 ?_ | refine ex32 ?_ | refine ln_rule ?_ | refine lnT_rule ?_ | refine pu_and ?_ | refine pu_or ?_ | refine pu_xor ?_ | refine pu_seq ?_ | refine pu_sne ?_)
  refine ld_here h1 (.head _) rfl ?_
  repeat (first | refine pu_not ?_ | refine pu_eql ?_ | refine pu_neq ?_ | refine pu_lss ?_ | refine pu_leq ?_ | refine pu_gtr ?_ | refine pu_geq ?_ | refine pu_add ?_ | refine pu_sub ?_ | refine pu_mul ?_ | refine pu_neg ?_ | refine fa_at ?_ | refine nl_ptr ?_ | refine ex20 ?_ | refine ex21 ?_ | refine ex30 ?_ | refine ex31 ?_ | refine ex32 ?_ | refine ln_rule ?_ | refine lnT_rule ?_ | refine pu_and ?_ | refine pu_or ?_ | refine pu_xor ?_ | refine pu_seq ?_ | refine pu_sne ?_)
  refine ld_here h1 (.head _) rfl ?_
  repeat (first | refine pu_not ?_ | refine pu_eql ?_ | refine pu_neq ?_ | refine pu_lss ?_ | refine pu_leq ?_ | refine pu_gtr ?_ | refine pu_geq ?_ | refine pu_add ?_ | refine pu_sub ?_ | refine pu_mul ?_ | refine pu_neg ?_ | refine fa_at ?_ | refine nl_ptr ?_ | refine ex20 ?_ | refine ex21 ?_ | refine ex30 ?_ | refine ex31 ?_ | refine ex32 ?_ | refine ln_rule ?_ | refine lnT_rule ?_ | refine pu_and ?_ | refine pu_or ?_ | refine pu_xor ?_ | refine pu_seq ?_ | refine pu_sne ?_)
  have e : aOp 8 a b = xorI .u32 a b := by simp [aOp]
  rw [← e]
  exact k _ h1.drop
theorem min32 {b : Int} (h0 : 0 ≤ b) : min (b % 32).toNat IntKind.u32.bits = (b % 32).toNat := by
  have : IntKind.u32.bits = 32 := rfl
  rw [this]; omega
theorem f9 : OpF B (fnv N.arith_does_9) 9 := by
  intro H K PK w a b ha hb h0 h k
  refine callV_fn arith_does_9.okf (arith_does_9.ok ?_)
  unfold arith_does_9.C
  refine al_rule h (l := [vU a, vU b]) rfl (fun p w1 h1 => ?_)
  refine ⟨fun w => Ow B w ((p, cel [vU a, vU b] T.t_arith_pair) :: H), h1.drew, ?_⟩
  repeat (first | refine pu_not ?_ | refine pu_eql ?_ | refine pu_neq ?_ | refine pu_lss ?_ | refine pu_leq ?_ | refine pu_gtr ?_ | refine pu_geq ?_ | refine pu_add ?_ | refine pu_sub ?_ | refine pu_mul ?_ | refine pu_neg ?_ | refine fa_at ?_ | refine nl_ptr ?_ | refine ex20 ?_ | refine ex21 ?_ | refine ex30 ?_ | refine ex31 ?_ | refine ex32 ?_ | refine ln_rule ?_ | refine lnT_rule ?_ | refine pu_and ?_ | refine pu_or ?_ | refine pu_xor ?_ | refine pu_seq ?_ | refine pu_sne ?_)
  refine lds_here (fun w h => h) (.head _) rfl ?_
  refine ldsn_here (fun w h => h) (.head _) (vs := [vU a, vU b]) rfl rfl ?_
  refine at_spec hb h1.drew (fun w2 h2 => ⟨h2, ?_⟩)
  refine pu_shl (by omega) ?_
  rw [wrapu32, min32 hb.1]
  exact k _ h2.drop
theorem f10 : OpF B (fnv N.arith_does_10) 10 := by
  intro H K PK w a b ha hb h0 h k
  refine callV_fn arith_does_10.okf (arith_does_10.ok ?_)
  unfold arith_does_10.C
  refine al_rule h (l := [vU a, vU b]) rfl (fun p w1 h1 => ?_)
  refine ⟨fun w => Ow B w ((p, cel [vU a, vU b] T.t_arith_pair) :: H), h1.drew, ?_⟩
  repeat (first | refine pu_not ?_ | refine pu_eql ?_ | refine pu_neq ?_ | refine pu_lss ?_ | refine pu_leq ?_ | refine pu_gtr ?_ | refine pu_geq ?_ | refine pu_add ?_ | refine pu_sub ?_ | refine pu_mul ?_ | refine pu_neg ?_ | refine fa_at ?_ | refine nl_ptr ?_ | refine ex20 ?_ | refine ex21 ?_ | refine ex30 ?_ | refine ex31 ?_ | refine ex32 ?_ | refine ln_rule ?_ | refine lnT_rule ?_ | refine pu_and ?_ | refine pu_or ?_ | refine pu_xor ?_ | refine pu_seq ?_ | refine pu_sne ?_)
  refine lds_here (fun w h => h) (.head _) rfl ?_
  refine ldsn_here (fun w h => h) (.head _) (vs := [vU a, vU b]) rfl rfl ?_
  refine at_spec hb h1.drew (fun w2 h2 => ⟨h2, ?_⟩)
  refine pu_shr (by omega) ?_
  rw [min32 hb.1]
  have : a.fdiv (2 ^ (b % 32).toNat) = a / 2 ^ (b % 32).toNat := Int.fdiv_eq_ediv_of_nonneg _ (by exact_mod_cast Nat.zero_le _)
  rw [this]
  exact k _ h2.drop
theorem f11 : OpF B (fnv N.arith_does_11) 11 := by
  intro H K PK w a b ha hb h0 h k
  refine callV_fn arith_does_11.okf (arith_does_11.ok ?_)
  unfold arith_does_11.C
  refine al_rule h (l := [vU a, vU b]) rfl (fun p w1 h1 => ?_)
  repeat (first | refine pu_not ?_ | refine pu_eql ?_ | refine pu_neq ?_ | refine pu_lss ?_ | refine pu_leq ?_ | refine pu_gtr ?_ | refine pu_geq ?_ | refine pu_add ?_ | refine pu_sub ?_ | refine pu_mul ?_ | refine pu_neg ?_ | refine fa_at ?_ | refine nl_ptr ?_ | refine ex20 ?_ | refine ex21 ?_ | refine ex30 ?_ | refine ex31 ?_ | refine ex32 ?_ | refine ln_rule ?_ | refine lnT_rule ?_ | refine pu_and ?_ | refine pu_or ?_ | refine pu_xor ?_ | refine pu_seq ?_ | refine pu_sne ?_)
  refine ld_here h1 (.head _) rfl ?_
  repeat (first | refine pu_not ?_ | refine pu_eql ?_ | refine pu_neq ?_ | refine pu_lss ?_ | refine pu_leq ?_ | refine pu_gtr ?_ | refine pu_geq ?_ | refine pu_add ?_ | refine pu_sub ?_ | refine pu_mul ?_ | refine pu_neg ?_ | refine fa_at ?_ | refine nl_ptr ?_ | refine ex20 ?_ | refine ex21 ?_ | refine ex30 ?_ | refine ex31 ?_ | refine ex32 ?_ | refine ln_rule ?_ | refine lnT_rule ?_ | refine pu_and ?_ | refine pu_or ?_ | refine pu_xor ?_ | refine pu_seq ?_ | refine pu_sne ?_)
  refine ld_here h1 (.head _) rfl ?_
  repeat (first | refine pu_not ?_ | refine pu_eql ?_ | refine pu_neq ?_ | refine pu_lss ?_ | refine pu_leq ?_ | refine pu_gtr ?_ | refine pu_geq ?_ | refine pu_add ?_ | refine pu_sub ?_ | refine pu_mul ?_ | refine pu_neg ?_ | refine fa_at ?_ | refine nl_ptr ?_ | refine ex20 ?_ | refine ex21 ?_ | refine ex30 ?_ | refine ex31 ?_ | refine ex32 ?_ | refine ln_rule ?_ | refine lnT_rule ?_ | refine pu_and ?_ | refine pu_or ?_ | refine pu_xor ?_ | refine pu_seq ?_ | refine pu_sne ?_)
  refine one_spec h1 (fun w2 h2 => ?_)
  have := k _ h2.drop
  simpa [aOp] using this
theorem f12 : OpF B (fnv N.arith_does_12) 12 := by
  intro H K PK w a b ha hb h0 h k
  refine callV_fn arith_does_12.okf (arith_does_12.ok ?_)
  unfold arith_does_12.C
  refine al_rule h (l := [vU a, vU b]) rfl (fun p w1 h1 => ?_)
  repeat (first | refine pu_not ?_ | refine pu_eql ?_ | refine pu_neq ?_ | refine pu_lss ?_ | refine pu_leq ?_ | refine pu_gtr ?_ | refine pu_geq ?_ | refine pu_add ?_ | refine pu_sub ?_ | refine pu_mul ?_ | refine pu_neg ?_ | refine fa_at ?_ | refine nl_ptr ?_ | refine ex20 ?_ | refine ex21 ?_ | refine ex30 ?_ | refine ex31 ?_ | refine ex32 ?_ | refine ln_rule ?_ | refine lnT_rule ?_ | refine pu_and ?_ | refine pu_or ?_ | refine pu_xor ?_ | refine pu_seq ?_ | refine pu_sne ?_)
  refine ld_here h1 (.head _) rfl ?_
  repeat (first | refine pu_not ?_ | refine pu_eql ?_ | refine pu_neq ?_ | refine pu_lss ?_ | refine pu_leq ?_ | refine pu_gtr ?_ | refine pu_geq ?_ | refine pu_add ?_ | refine pu_sub ?_ | refine pu_mul ?_ | refine pu_neg ?_ | refine fa_at ?_ | refine nl_ptr ?_ | refine ex20 ?_ | refine ex21 ?_ | refine ex30 ?_ | refine ex31 ?_ | refine ex32 ?_ | refine ln_rule ?_ | refine lnT_rule ?_ | refine pu_and ?_ | refine pu_or ?_ | refine pu_xor ?_ | refine pu_seq ?_ | refine pu_sne ?_)
  refine ld_here h1 (.head _) rfl ?_
  repeat (first | refine pu_not ?_ | refine pu_eql ?_ | refine pu_neq ?_ | refine pu_lss ?_ | refine pu_leq ?_ | refine pu_gtr ?_ | refine pu_geq ?_ | refine pu_add ?_ | refine pu_sub ?_ | refine pu_mul ?_ | refine pu_neg ?_ | refine fa_at ?_ | refine nl_ptr ?_ | refine ex20 ?_ | refine ex21 ?_ | refine ex30 ?_ | refine ex31 ?_ | refine ex32 ?_ | refine ln_rule ?_ | refine lnT_rule ?_ | refine pu_and ?_ | refine pu_or ?_ | refine pu_xor ?_ | refine pu_seq ?_ | refine pu_sne ?_)
  refine one_spec h1 (fun w2 h2 => ?_)
  have := k _ h2.drop
  simpa [aOp] using this
theorem does_at {k : Int} (hk : 1 ≤ k ∧ k ≤ 12) : ∃ f, lk doesL k = some f ∧ OpF B f k := by
  have : k = 1 ∨ k = 2 ∨ k = 3 ∨ k = 4 ∨ k = 5 ∨ k = 6 ∨ k = 7 ∨ k = 8 ∨ k = 9 ∨ k = 10 ∨ k = 11 ∨ k = 12 := by omega
  rcases this with rfl | rfl | rfl | rfl | rfl | rfl | rfl | rfl | rfl | rfl | rfl | rfl
  · exact ⟨_, rfl, f1⟩
  · exact ⟨_, rfl, f2⟩
  · exact ⟨_, rfl, f3⟩
  · exact ⟨_, rfl, f4⟩
  · exact ⟨_, rfl, f5⟩
  · exact ⟨_, rfl, f6⟩
  · exact ⟨_, rfl, f7⟩
  · exact ⟨_, rfl, f8⟩
  · exact ⟨_, rfl, f9⟩
  · exact ⟨_, rfl, f10⟩
  · exact ⟨_, rfl, f11⟩
  · exact ⟨_, rfl, f12⟩
theorem does_not {k : Int} (hk : k < 1 ∨ 12 < k) : lk doesL k = none := by
  have h : ∀ i : Int, 1 ≤ i → i ≤ 12 → decide (k = i) = false := fun i h1 h2 => by simp; omega
  simp [lk, doesL, h 1, h 2, h 3, h 4, h 5, h 6, h 7, h 8, h 9, h 10, h 11, h 12]
theorem pair_build {a b : Int} {K : Value → Prop} (k : K (.agg #[vU a, vU b])) : pu PG (Instr.build T.t_arith_pair #[(0, vU a), (1, vU b)]) K :=
  pu_build [vU a, vU b] (by kernel_rfl) k
theorem do_spec {i a b : Int} (ha : IsU a) (hb : IsU b) (h : Ow B w H) (k : ∀ w', Ow B w' H → K (.tuple #[vU (aDo i a b).1, vI (aDo i a b).2]) w') : callW PG N.arith_Do [vI i, vU a, vU b] K PK w := by
  refine arith_Do.ok ?_
  unfold arith_Do.C
  refine map_spec h (fun m w1 h1 => ?_)
  refine lk_rule h1 (.head _) und_does und_arith zo_does ?_
  repeat (first | refine pu_not ?_ | refine pu_eql ?_ | refine pu_neq ?_ | refine pu_lss ?_ | refine pu_leq ?_ | refine pu_gtr ?_ | refine pu_geq ?_ | refine pu_add ?_ | refine pu_sub ?_ | refine pu_mul ?_ | refine pu_neg ?_ | refine fa_at ?_ | refine nl_ptr ?_ | refine ex20 ?_ | refine ex21 ?_ | refine ex30 ?_ | refine ex31 ?_ | refine ex32 ?_ | refine ln_rule ?_ | refine lnT_rule ?_ | refine pu_and ?_ | refine pu_or ?_ | refine pu_xor ?_ | refine pu_seq ?_ | refine pu_sne ?_)
  by_cases hi : 1 ≤ i ∧ i ≤ 12
  · obtain ⟨f, hf, hs⟩ := does_at (B := B) hi
    rw [hf]
    refine cnd_f rfl ?_
    have e1 : ¬ (i < 1 ∨ 12 < i) := by omega
    have ok : ¬ (b = 0 ∧ (i = 4 ∨ i = 5)) → callV PG f [.agg #[vU a, vU b]] (fun t28 w29 => K (.tuple #[t28, (.int .i64 0)]) w29) PK w1 := fun hn => by
      refine hs _ _ _ _ a b ha hb (fun h4 hb => hn ⟨hb, h4⟩) h1 (fun w2 h2 => ?_)
      have := k w2 h2.drop
      simpa only [aDo, e1, hn, if_false] using this
    have bad : b = 0 ∧ (i = 4 ∨ i = 5) → K (.tuple #[vU 0, vI 150]) w1 := fun hn => by
      have := k w1 h1.drop
      simpa only [aDo, e1, hn, if_false, if_true, and_self] using this
    repeat (first | refine pu_not ?_ | refine pu_eql ?_ | refine pu_neq ?_ | refine pu_lss ?_ | refine pu_leq ?_ | refine pu_gtr ?_ | refine pu_geq ?_ | refine pu_add ?_ | refine pu_sub ?_ | refine pu_mul ?_ | refine pu_neg ?_ | refine fa_at ?_ | refine nl_ptr ?_ | refine ex20 ?_ | refine ex21 ?_ | refine ex30 ?_ | refine ex31 ?_ | refine ex32 ?_ | refine ln_rule ?_ | refine lnT_rule ?_ | refine pu_and ?_ | refine pu_or ?_ | refine pu_xor ?_ | refine pu_seq ?_ | refine pu_sne ?_)
    refine cnd (fun hb => ?_) (fun hb => ?_)
    · have hb : b = 0 := by simpa using hb
      repeat (first | refine pu_not ?_ | refine pu_eql ?_ | refine pu_neq ?_ | refine pu_lss ?_ | refine pu_leq ?_ | refine pu_gtr ?_ | refine pu_geq ?_ | refine pu_add ?_ | refine pu_sub ?_ | refine pu_mul ?_ | refine pu_neg ?_ | refine fa_at ?_ | refine nl_ptr ?_ | refine ex20 ?_ | refine ex21 ?_ | refine ex30 ?_ | refine ex31 ?_ | refine ex32 ?_ | refine ln_rule ?_ | refine lnT_rule ?_ | refine pu_and ?_ | refine pu_or ?_ | refine pu_xor ?_ | refine pu_seq ?_ | refine pu_sne ?_)
      refine cnd (fun h4 => bad ⟨hb, .inl (by simpa using h4)⟩) (fun h4 => ?_)
      repeat (first | refine pu_not ?_ | refine pu_eql ?_ | refine pu_neq ?_ | refine pu_lss ?_ | refine pu_leq ?_ | refine pu_gtr ?_ | refine pu_geq ?_ | refine pu_add ?_ | refine pu_sub ?_ | refine pu_mul ?_ | refine pu_neg ?_ | refine fa_at ?_ | refine nl_ptr ?_ | refine ex20 ?_ | refine ex21 ?_ | refine ex30 ?_ | refine ex31 ?_ | refine ex32 ?_ | refine ln_rule ?_ | refine lnT_rule ?_ | refine pu_and ?_ | refine pu_or ?_ | refine pu_xor ?_ | refine pu_seq ?_ | refine pu_sne ?_)
      refine cnd (fun h5 => bad ⟨hb, .inr (by simpa using h5)⟩) (fun h5 => ?_)
      refine pair_build (ok fun hn => ?_)
      simp at h4 h5; omega
    · have hb : ¬ b = 0 := by simpa using hb
      exact pair_build (ok fun hn => hb hn.1)
  · have hi : i < 1 ∨ 12 < i := by omega
    rw [does_not hi]
    refine cnd_t rfl ?_
    have := k w1 h1.drop
    simpa only [aDo, hi, if_true] using this
theorem w64 {a : Int} (h0 : 0 ≤ a) (h1 : a < 18446744073709551616) : IntKind.u64.wrap a = a := by rw [wrapu64]; exact Int.emod_eq_of_lt h0 h1
theorem w32 {a : Int} (h0 : 0 ≤ a) (h1 : a < 4294967296) : IntKind.u32.wrap a = a := by rw [wrapu32]; exact Int.emod_eq_of_lt h0 h1
theorem tme {a b : Int} (h : 0 ≤ a) : a.tmod b = a % b := Int.tmod_eq_emod_of_nonneg h
theorem shr_le {a : Int} (h : 0 ≤ a) (j : Nat) : 0 ≤ a / 2 ^ j ∧ a / 2 ^ j ≤ a :=
  ⟨Int.ediv_nonneg h (by exact_mod_cast Nat.zero_le _), Int.ediv_le_self _ h⟩

/-- A word as one with a sign. -/
def aSg (n : Int) : Int := if n < 2147483648 then n else n - 4294967296
theorem signed_spec {n : Int} (hn : IsU n) (h : Ow B w H) (k : ∀ w', Ow B w' H → K (vI (aSg n)) w') : callW PG N.arith_Signed [vU n] K PK w := by
  refine arith_Signed.ok ?_
  unfold arith_Signed.C
  refine pu_build [vU n, vU 0] (by kernel_rfl) ?_
  refine pt_at (v := vU n) rfl ?_
  refine arith_word_signed.ok ?_
  unfold arith_word_signed.C
  refine pu_cvt ⟨_, und_word⟩ und_i32 ?_
  refine pu_cvt ⟨_, und_i32⟩ und_i64 ?_
  have e : IntKind.i64.wrap (IntKind.i32.wrap n) = aSg n := by
    rw [wrapi32]
    unfold aSg
    have : n % 4294967296 = n := by omega
    rw [this]
    split <;> split <;> first | omega | (rw [wrap64_in (by omega) (by omega)])
  rw [e]
  exact k w h
theorem aOp_u {k a b : Int} (ha : IsU a) (hb : IsU b) (h : k = 4 ∨ k = 5 → b ≠ 0) : IsU (aOp k a b) := by
  unfold aOp
  by_cases h1 : k = 1
  · simp only [h1, if_true]; constructor <;> omega
  by_cases h2 : k = 2
  · simp only [h2, if_true]; constructor <;> simp <;> omega
  by_cases h3 : k = 3
  · simp only [h3, if_true]; constructor <;> simp <;> omega
  by_cases h4 : k = 4
  · have h5 : 0 ≤ a / b := Int.ediv_nonneg ha.1 hb.1
    have h6 : a / b ≤ a := Int.ediv_le_self _ ha.1
    simp only [h4, if_true, Int.tdiv_eq_ediv_of_nonneg ha.1]; constructor <;> simp <;> omega
  by_cases h5 : k = 5
  · have hb0 : b ≠ 0 := h (.inr h5)
    have h7 : 0 ≤ a % b := Int.emod_nonneg _ hb0
    have h6 : a % b < b := Int.emod_lt_of_pos _ (by omega)
    simp only [h5, if_true, tme ha.1]; constructor <;> simp <;> omega
  by_cases h6 : k = 6
  · simp only [h6, if_true, andI, wrapu32]; constructor <;> simp <;> omega
  by_cases h7 : k = 7
  · simp only [h7, if_true, orI, wrapu32]; constructor <;> simp <;> omega
  by_cases h8 : k = 8
  · simp only [h8, if_true, xorI, wrapu32]; constructor <;> simp <;> omega
  by_cases h9 : k = 9
  · simp only [h9, if_true]; constructor <;> simp <;> omega
  by_cases h10 : k = 10
  · have := shr_le ha.1 (b % 32).toNat
    simp only [h10, if_true]; constructor <;> simp <;> omega
  simp only [h1, h2, h3, h4, h5, h6, h7, h8, h9, h10, if_false]
  split <;> split <;> constructor <;> omega
theorem aDo_u {k a b : Int} (ha : IsU a) (hb : IsU b) : IsU (aDo k a b).1 := by
  unfold aDo
  split
  · exact ⟨by decide, by decide⟩
  · split
    · exact ⟨by decide, by decide⟩
    · rename_i h1 h2
      exact aOp_u ha hb (fun h4 hb => h2 ⟨hb, h4⟩)
theorem aDo_e {k a b : Int} : (aDo k a b).2 = 0 ∨ (aDo k a b).2 = 2 ∨ (aDo k a b).2 = 150 := by
  unfold aDo
  split
  · simp
  · split <;> simp

end
end Go.Proofs.YtkkkcafkepnecaaGreat.Ar
