/- Contracts of packages epoch and vector and their references. -/
import Derived.Test.YtobanjfpoeinhaaVvA
import Derived.Test.YtobanjfpoeinhaaVnS
import Derived.Test.YtobanjfpoeinhaaVnF0
set_option linter.unusedVariables false
set_option linter.unusedSimpArgs false
namespace Go.Proofs.Ytobanjfpoeinhaa
open Go Go.RowKit Vc Vx
attribute [local irreducible] binV Op.unary convert nlW faW ldS ldW ixS ixA ixV ixT exW lnS lnT pu stW alW opW opU bsW mkW

section
variable {B w : World} {H : Hp} {K : Value → World → Prop} {PK : List PanicEntry → World → Prop}
abbrev fnv (f : FuncId) (cap : Array Value := #[]) : Value := .func (.func f) #[] cap
theorem und_int : PG.underlying T.t_int = some (.int .i64) := by kernel_rfl
theorem und_u64 : PG.underlying T.t_uint64 = some (.int .u64) := by kernel_rfl
theorem und_bool : PG.underlying T.t_bool = some .bool := by kernel_rfl
theorem und_clk : PG.underlying T.t_api_Clock = some (.slice T.t_uint64) := by kernel_rfl
theorem info_u64 : (PG.info? T.t_uint64).map (fun i => (i.zero, i.size, i.bytes)) = some (some (v64 0), 1, 8) := by kernel_rfl
theorem one_u64 : ∃ i, PG.info? T.t_uint64 = some i ∧ i.size = 1 := by
  obtain ⟨i, h1, _, h3, _⟩ := info_of info_u64
  exact ⟨i, h1, h3⟩
theorem cvt_iu {n : Int} {K : Value → Prop} (h0 : 0 ≤ n) (h : n < 18446744073709551616) (k : K (v64 n.toNat)) : pu PG (convert T.t_int T.t_uint64 (vI n)) K := by
  refine pu_cvt ⟨_, und_int⟩ und_u64 ?_
  rw [wrapu64]
  have : n % 18446744073709551616 = (n.toNat : Int) := by omega
  rw [this]; exact k
theorem cvt_ui {n : Nat} {K : Value → Prop} (h : n < 9223372036854775808) (k : K (vI n)) : pu PG (convert T.t_uint64 T.t_int (v64 n)) K := by
  refine pu_cvt ⟨_, und_u64⟩ und_int ?_
  rw [wrap64_in (by omega) (by omega)]
  exact k
theorem vnum_spec {n : Int} (k : K (vI n) w) : callW PG N.linesmanlaw04_num [vI n] K PK w := by
  refine linesmanlaw04_num.ok ?_
  exact k

/-! ### Epochs -/
theorem shr48 {a : Nat} {t : TypeId} {c : Bool} {KK : Value → Prop} (k : KK (v64 (a / 281474976710656))) : pu PG (binV .shr t c (v64 a) (.int .u64 48)) KK := by
  refine pu_shr (by omega) ?_
  have : ((a : Int).fdiv (2 ^ min (48 : Int).toNat IntKind.u64.bits)) = ((a / 281474976710656 : Nat) : Int) := by
    have e1 : (2 : Int) ^ min (48 : Int).toNat IntKind.u64.bits = 281474976710656 := by decide
    rw [e1, Int.fdiv_eq_ediv_of_nonneg _ (by omega)]
    omega
  rw [this]; exact k
theorem and48 {a : Nat} {t : TypeId} {c : Bool} {KK : Value → Prop} (ha : a < 18446744073709551616) (k : KK (v64 (a % 281474976710656))) : pu PG (binV .and t c (v64 a) (.int .u64 281474976710655)) KK := by
  refine pu_and ?_
  have : andI .u64 (a : Int) 281474976710655 = ((a % 281474976710656 : Nat) : Int) := by
    unfold andI
    have e3 : (BitVec.ofNat 64 a &&& BitVec.ofNat 64 281474976710655).toNat = a % 281474976710656 := by
      rw [BitVec.toNat_and, BitVec.toNat_ofNat, BitVec.toNat_ofNat, Nat.mod_eq_of_lt (by omega), Nat.mod_eq_of_lt (by omega), show (281474976710655 : Nat) = 2 ^ 48 - 1 by decide, Nat.and_two_pow_sub_one_eq_mod]
    show IntKind.u64.wrap ((BitVec.ofInt 64 (a : Int) &&& BitVec.ofInt 64 ((281474976710655 : Nat) : Int)).toNat : Int) = _
    rw [BitVec.ofInt_natCast, BitVec.ofInt_natCast, e3, wrapu64]
    omega
  rw [this]; exact k
theorem parts_in {a : Nat} (h : Ow B w H) (ha : a < 18446744073709551616) (k : ∀ w', Ow B w' H → K (.agg #[v64 (a / 281474976710656), v64 (a % 281474976710656)]) w') : callW PG N.epoch_under_parts [.agg #[v64 a]] K PK w := by
  refine epoch_under_parts.ok ?_
  unfold epoch_under_parts.C
  refine al_rule h (l := [v64 a]) rfl (fun b w1 h1 => ?_)
  refine al_rule h1 (l := [v64 0, v64 0]) (by kernel_rfl) (fun b2 w2 h2 => ?_)
  repeat (first | refine pu_not ?_ | refine pu_eql ?_ | refine pu_neq ?_ | refine pu_lss ?_ | refine pu_leq ?_ | refine pu_gtr ?_ | refine pu_geq ?_ | refine pu_add ?_ | refine pu_sub ?_ | refine pu_mul ?_ | refine pu_neg ?_ | refine fa_at ?_ | refine nl_ptr ?_ | refine ex20 ?_ | refine ex21 ?_ | refine ex30 ?_ | refine ex31 ?_ | refine ex32 ?_ | refine ln_rule ?_ | refine lnT_rule ?_ | refine pu_and ?_ | refine pu_or ?_ | refine pu_xor ?_ | refine pu_seq ?_ | refine pu_sne ?_)
  refine ld_here h2 (.tail _ (.head _)) rfl ?_
  refine shr48 ?_
  repeat (first | refine pu_not ?_ | refine pu_eql ?_ | refine pu_neq ?_ | refine pu_lss ?_ | refine pu_leq ?_ | refine pu_gtr ?_ | refine pu_geq ?_ | refine pu_add ?_ | refine pu_sub ?_ | refine pu_mul ?_ | refine pu_neg ?_ | refine fa_at ?_ | refine nl_ptr ?_ | refine ex20 ?_ | refine ex21 ?_ | refine ex30 ?_ | refine ex31 ?_ | refine ex32 ?_ | refine ln_rule ?_ | refine lnT_rule ?_ | refine pu_and ?_ | refine pu_or ?_ | refine pu_xor ?_ | refine pu_seq ?_ | refine pu_sne ?_)
  refine ld_here h2 (.tail _ (.head _)) rfl ?_
  refine and48 ha ?_
  refine pu_build [v64 (a / 281474976710656), v64 (a % 281474976710656)] (by kernel_rfl) ?_
  refine st_here (A := []) h2 [v64 (a / 281474976710656), v64 (a % 281474976710656)] rfl rfl rfl (by simp) (fun w3 h3 => ?_)
  refine ldn_here h3 (.head _) (vs := [v64 (a / 281474976710656), v64 (a % 281474976710656)]) rfl rfl ?_
  exact k _ h3.drop.drop
theorem parts_spec {a : Nat} (h : Ow B w H) (ha : a < 18446744073709551616) (k : ∀ w', Ow B w' H → K (.tuple #[vI (a / 281474976710656 : Nat), v64 (a % 281474976710656)]) w') : callW PG N.epoch_Parts [v64 a] K PK w := by
  refine epoch_Parts.ok ?_
  unfold epoch_Parts.C
  refine pu_build [v64 a] (by kernel_rfl) ?_
  refine parts_in h ha (fun w1 h1 => ?_)
  refine al_rule h1 (l := [v64 0, v64 0]) (by kernel_rfl) (fun b2 w2 h2 => ?_)
  refine st_here (A := []) h2 [v64 (a / 281474976710656), v64 (a % 281474976710656)] rfl rfl rfl (by simp) (fun w3 h3 => ?_)
  have h3 : Ow B w3 ((b2, cel [v64 (a / 281474976710656), v64 (a % 281474976710656)] T.t_2_uint64) :: H) := h3
  refine ⟨fun w => Ow B w ((b2, cel [v64 (a / 281474976710656), v64 (a % 281474976710656)] T.t_2_uint64) :: H), h3.drew, ?_⟩
  refine ixA_at (by omega) (by omega) ?_
  refine lds_here (fun w h => h) (.head _) rfl ?_
  refine cvt_ui (by omega) ?_
  refine ixA_at (by omega) (by omega) ?_
  refine lds_here (fun w h => h) (.head _) rfl ?_
  exact k _ h3.drew.drop
theorem rparts_spec {a : Nat} (ha : a < 18446744073709551616) (k : K (.tuple #[vI (a / 281474976710656 : Nat), v64 (a % 281474976710656)]) w) : callW PG N.linesmanref03_Parts [v64 a] K PK w := by
  refine linesmanref03_Parts.ok ?_
  unfold linesmanref03_Parts.C
  refine pu_quo (by omega) ?_
  have e1 : IntKind.u64.wrap ((a : Int).tdiv 281474976710656) = ((a / 281474976710656 : Nat) : Int) := by
    rw [Int.tdiv_eq_ediv_of_nonneg (by omega), wrapu64]; omega
  rw [e1]
  refine cvt_ui (by omega) ?_
  refine pu_rem (by omega) ?_
  have e2 : ((a : Int).tmod 281474976710656) = ((a % 281474976710656 : Nat) : Int) := by
    rw [Int.tmod_eq_emod_of_nonneg (by omega)]; omega
  rw [e2]
  exact k
/-- Bounds that are right. -/
def bndOk (b : Nat × Nat × Nat) : Bool := decide (b.2.1 ≤ b.1) && decide (b.1 ≤ b.2.2)
abbrev bC (b : Nat × Nat × Nat) : List Value := [v64 b.1, v64 b.2.1, v64 b.2.2]
theorem fine1_spec {b : Nat × Nat × Nat} (h : Ow B w H) (k : ∀ w', Ow B w' H → K (vB (bndOk b)) w') : callW PG N.epoch_fine_1 [.agg (bC b).toArray] K PK w := by
  refine epoch_fine_1.ok ?_
  unfold epoch_fine_1.C
  refine al_rule h (l := bC b) rfl (fun b1 w1 h1 => ?_)
  repeat (first | refine pu_not ?_ | refine pu_eql ?_ | refine pu_neq ?_ | refine pu_lss ?_ | refine pu_leq ?_ | refine pu_gtr ?_ | refine pu_geq ?_ | refine pu_add ?_ | refine pu_sub ?_ | refine pu_mul ?_ | refine pu_neg ?_ | refine fa_at ?_ | refine nl_ptr ?_ | refine ex20 ?_ | refine ex21 ?_ | refine ex30 ?_ | refine ex31 ?_ | refine ex32 ?_ | refine ln_rule ?_ | refine lnT_rule ?_ | refine pu_and ?_ | refine pu_or ?_ | refine pu_xor ?_ | refine pu_seq ?_ | refine pu_sne ?_)
  refine ld_here h1 (.head _) rfl ?_
  repeat (first | refine pu_not ?_ | refine pu_eql ?_ | refine pu_neq ?_ | refine pu_lss ?_ | refine pu_leq ?_ | refine pu_gtr ?_ | refine pu_geq ?_ | refine pu_add ?_ | refine pu_sub ?_ | refine pu_mul ?_ | refine pu_neg ?_ | refine fa_at ?_ | refine nl_ptr ?_ | refine ex20 ?_ | refine ex21 ?_ | refine ex30 ?_ | refine ex31 ?_ | refine ex32 ?_ | refine ln_rule ?_ | refine lnT_rule ?_ | refine pu_and ?_ | refine pu_or ?_ | refine pu_xor ?_ | refine pu_seq ?_ | refine pu_sne ?_)
  refine ld_here h1 (.head _) rfl ?_
  repeat (first | refine pu_not ?_ | refine pu_eql ?_ | refine pu_neq ?_ | refine pu_lss ?_ | refine pu_leq ?_ | refine pu_gtr ?_ | refine pu_geq ?_ | refine pu_add ?_ | refine pu_sub ?_ | refine pu_mul ?_ | refine pu_neg ?_ | refine fa_at ?_ | refine nl_ptr ?_ | refine ex20 ?_ | refine ex21 ?_ | refine ex30 ?_ | refine ex31 ?_ | refine ex32 ?_ | refine ln_rule ?_ | refine lnT_rule ?_ | refine pu_and ?_ | refine pu_or ?_ | refine pu_xor ?_ | refine pu_seq ?_ | refine pu_sne ?_)
  refine cnd (fun h2 => ?_) (fun h2 => ?_)
  · have h2 : b.2.1 ≤ b.1 := by simp at h2; omega
    repeat (first | refine pu_not ?_ | refine pu_eql ?_ | refine pu_neq ?_ | refine pu_lss ?_ | refine pu_leq ?_ | refine pu_gtr ?_ | refine pu_geq ?_ | refine pu_add ?_ | refine pu_sub ?_ | refine pu_mul ?_ | refine pu_neg ?_ | refine fa_at ?_ | refine nl_ptr ?_ | refine ex20 ?_ | refine ex21 ?_ | refine ex30 ?_ | refine ex31 ?_ | refine ex32 ?_ | refine ln_rule ?_ | refine lnT_rule ?_ | refine pu_and ?_ | refine pu_or ?_ | refine pu_xor ?_ | refine pu_seq ?_ | refine pu_sne ?_)
    refine ld_here h1 (.head _) rfl ?_
    repeat (first | refine pu_not ?_ | refine pu_eql ?_ | refine pu_neq ?_ | refine pu_lss ?_ | refine pu_leq ?_ | refine pu_gtr ?_ | refine pu_geq ?_ | refine pu_add ?_ | refine pu_sub ?_ | refine pu_mul ?_ | refine pu_neg ?_ | refine fa_at ?_ | refine nl_ptr ?_ | refine ex20 ?_ | refine ex21 ?_ | refine ex30 ?_ | refine ex31 ?_ | refine ex32 ?_ | refine ln_rule ?_ | refine lnT_rule ?_ | refine pu_and ?_ | refine pu_or ?_ | refine pu_xor ?_ | refine pu_seq ?_ | refine pu_sne ?_)
    refine ld_here h1 (.head _) rfl ?_
    repeat (first | refine pu_not ?_ | refine pu_eql ?_ | refine pu_neq ?_ | refine pu_lss ?_ | refine pu_leq ?_ | refine pu_gtr ?_ | refine pu_geq ?_ | refine pu_add ?_ | refine pu_sub ?_ | refine pu_mul ?_ | refine pu_neg ?_ | refine fa_at ?_ | refine nl_ptr ?_ | refine ex20 ?_ | refine ex21 ?_ | refine ex30 ?_ | refine ex31 ?_ | refine ex32 ?_ | refine ln_rule ?_ | refine lnT_rule ?_ | refine pu_and ?_ | refine pu_or ?_ | refine pu_xor ?_ | refine pu_seq ?_ | refine pu_sne ?_)
    have e : decide ((b.1 : Int) ≤ (b.2.2 : Int)) = bndOk b := by
      unfold bndOk
      simp [h2]
    rw [e]
    exact k _ h1.drop
  · have h2 : ¬ b.2.1 ≤ b.1 := by simp at h2; omega
    have e : bndOk b = false := by simp [bndOk, h2]
    rw [e] at k
    exact k _ h1.drop
theorem fine_spec {s : Value} {l : List (Nat × Nat × Nat)} (h : Ow B w H) (hs : Sls H s 3 (l.map bC)) (hl : l.length < 2 ^ 62) (k : ∀ w', Ow B w' H → K (vB (l.all bndOk)) w') : callW PG N.epoch_fine [s] K PK w := by
  refine epoch_fine.ok ?_
  unfold epoch_fine.C
  refine epoch_all_epoch_bound.ok ?_
  unfold epoch_all_epoch_bound.C
  refine al_rule h (l := [fnv N.epoch_fine_1]) rfl (fun b w1 h1 => ?_)
  refine slices_ContainsFunc_sl_epoch_bound_epoch_bound.ok ?_
  unfold slices_ContainsFunc_sl_epoch_bound_epoch_bound.C
  refine slices_IndexFunc_sl_epoch_bound_epoch_bound.ok ?_
  unfold slices_IndexFunc_sl_epoch_bound_epoch_bound.C
  refine sls_ln hs ?_
  rw [List.length_map]
  refine ⟨fun l' w => ∃ i : Nat, l' = [vI i] ∧ i ≤ l.length ∧ (∀ j y, j < i → l[j]? = some y → bndOk y = true) ∧ Ow B w ((b, cel [fnv N.epoch_fine_1] T.t_func_epoch_bound_bool_2) :: H), fun l' _ => match l' with | [.int _ n] => l.length - n.toNat | _ => 0, ⟨0, rfl, Nat.zero_le _, fun j y hj => absurd hj (by omega), h1⟩, ?_⟩
  rintro l' w2 ⟨i, rfl, hi, hall, h2⟩ j
  repeat (first | refine pu_not ?_ | refine pu_eql ?_ | refine pu_neq ?_ | refine pu_lss ?_ | refine pu_leq ?_ | refine pu_gtr ?_ | refine pu_geq ?_ | refine pu_add ?_ | refine pu_sub ?_ | refine pu_mul ?_ | refine pu_neg ?_ | refine fa_at ?_ | refine nl_ptr ?_ | refine ex20 ?_ | refine ex21 ?_ | refine ex30 ?_ | refine ex31 ?_ | refine ex32 ?_ | refine ln_rule ?_ | refine lnT_rule ?_ | refine pu_and ?_ | refine pu_or ?_ | refine pu_xor ?_ | refine pu_seq ?_ | refine pu_sne ?_)
  refine cnd (fun hlt => ?_) (fun hlt => ?_)
  · have hlt : i < l.length := by simpa using hlt
    refine sls_ld (x := bC l[i]) h2 (hs.mono fun x hx => .tail _ hx) (by omega) (by rw [Int.toNat_natCast, List.getElem?_map, List.getElem?_eq_getElem hlt]; rfl) ?_
    refine callV_fn epoch_all_epoch_bound_1.okf ?_
    refine epoch_all_epoch_bound_1.ok ?_
    unfold epoch_all_epoch_bound_1.C
    refine al_rule h2 (l := bC l[i]) rfl (fun b3 w3 h3 => ?_)
    refine ld_here h3 (.tail _ (.head _)) rfl ?_
    refine ldn_here h3 (.head _) (vs := bC l[i]) rfl rfl ?_
    refine callV_fn epoch_fine_1.okf ?_
    refine fine1_spec h3 (fun w4 h4 => ?_)
    have h4 := h4.drop
    repeat (first | refine pu_not ?_ | refine pu_eql ?_ | refine pu_neq ?_ | refine pu_lss ?_ | refine pu_leq ?_ | refine pu_gtr ?_ | refine pu_geq ?_ | refine pu_add ?_ | refine pu_sub ?_ | refine pu_mul ?_ | refine pu_neg ?_ | refine fa_at ?_ | refine nl_ptr ?_ | refine ex20 ?_ | refine ex21 ?_ | refine ex30 ?_ | refine ex31 ?_ | refine ex32 ?_ | refine ln_rule ?_ | refine lnT_rule ?_ | refine pu_and ?_ | refine pu_or ?_ | refine pu_xor ?_ | refine pu_seq ?_ | refine pu_sne ?_)
    refine cnd (fun hb => ?_) (fun hb => ?_)
    · have e : l.all bndOk = false := by
        rw [List.all_eq_false]
        exact ⟨l[i], List.getElem_mem hlt, by simpa using hb⟩
      rw [e] at k
      repeat (first | refine pu_not ?_ | refine pu_eql ?_ | refine pu_neq ?_ | refine pu_lss ?_ | refine pu_leq ?_ | refine pu_gtr ?_ | refine pu_geq ?_ | refine pu_add ?_ | refine pu_sub ?_ | refine pu_mul ?_ | refine pu_neg ?_ | refine fa_at ?_ | refine nl_ptr ?_ | refine ex20 ?_ | refine ex21 ?_ | refine ex30 ?_ | refine ex31 ?_ | refine ex32 ?_ | refine ln_rule ?_ | refine lnT_rule ?_ | refine pu_and ?_ | refine pu_or ?_ | refine pu_xor ?_ | refine pu_seq ?_ | refine pu_sne ?_)
      refine Eq.mp ?_ (k _ h4.drop)
      have e2 : (!decide (((i : Int)) ≥ 0)) = false := by simp
      rw [e2]
    · repeat (first | refine pu_not ?_ | refine pu_eql ?_ | refine pu_neq ?_ | refine pu_lss ?_ | refine pu_leq ?_ | refine pu_gtr ?_ | refine pu_geq ?_ | refine pu_add ?_ | refine pu_sub ?_ | refine pu_mul ?_ | refine pu_neg ?_ | refine fa_at ?_ | refine nl_ptr ?_ | refine ex20 ?_ | refine ex21 ?_ | refine ex30 ?_ | refine ex31 ?_ | refine ex32 ?_ | refine ln_rule ?_ | refine lnT_rule ?_ | refine pu_and ?_ | refine pu_or ?_ | refine pu_xor ?_ | refine pu_seq ?_ | refine pu_sne ?_)
      rw [wrap64_in (by omega) (by omega)]
      refine ⟨⟨i + 1, rfl, hlt, fun j y hj hy => ?_, h4⟩, by simp; omega⟩
      rcases Nat.lt_succ_iff_lt_or_eq.1 hj with hj | rfl
      · exact hall j y hj hy
      · rw [List.getElem?_eq_getElem hlt] at hy
        cases hy
        simpa using hb
  · obtain rfl : i = l.length := by simp at hlt; omega
    have e : l.all bndOk = true := by
      rw [List.all_eq_true]
      intro y hy
      obtain ⟨j, hj, rfl⟩ := List.getElem_of_mem hy
      exact hall j _ hj (List.getElem?_eq_getElem hj)
    rw [e] at k
    repeat (first | refine pu_not ?_ | refine pu_eql ?_ | refine pu_neq ?_ | refine pu_lss ?_ | refine pu_leq ?_ | refine pu_gtr ?_ | refine pu_geq ?_ | refine pu_add ?_ | refine pu_sub ?_ | refine pu_mul ?_ | refine pu_neg ?_ | refine fa_at ?_ | refine nl_ptr ?_ | refine ex20 ?_ | refine ex21 ?_ | refine ex30 ?_ | refine ex31 ?_ | refine ex32 ?_ | refine ln_rule ?_ | refine lnT_rule ?_ | refine pu_and ?_ | refine pu_or ?_ | refine pu_xor ?_ | refine pu_seq ?_ | refine pu_sne ?_)
    exact k _ h2.drop
theorem sls_here {b : Nat} {e : TypeId} {size : Nat} {xs : List (List Value)} (hm : (b, cel xs.flatten e) ∈ H) (hx : ∀ x ∈ xs, x.length = size) (hl : xs.length ≤ maxLen) : Sls H (.slice (some ⟨b, 0, none⟩) xs.length xs.length) size xs := by
  refine ⟨_, _, rfl, Nat.le_refl _, hl, hx, fun i x hi => ⟨_, rfl, fun j y hj => ?_⟩⟩
  rw [add_mk]
  refine cell_here hm ?_
  rw [Nat.zero_add]
  clear hm hl
  induction xs generalizing i with
  | nil => simp at hi
  | cons z xs ih =>
    have hz := hx z List.mem_cons_self
    cases i with
    | zero =>
      simp only [List.getElem?_cons_zero, Option.some.injEq] at hi
      subst hi
      rw [List.flatten_cons, Nat.zero_mul, Nat.zero_add, List.getElem?_append_left (List.getElem?_eq_some_iff.1 hj).1]
      exact hj
    | succ i =>
      rw [List.getElem?_cons_succ] at hi
      rw [List.flatten_cons, List.getElem?_append_right (by rw [hz, Nat.succ_mul]; omega), hz, show (i + 1) * size + j - size = i * size + j by rw [Nat.succ_mul]; omega]
      exact ih (fun x hx' => hx x (List.mem_cons_of_mem _ hx')) i hi
theorem pack_spec {id : Int} {c : Nat} (h : Ow B w H) (hid : id < 9223372036854775808) (hc : c < 18446744073709551616) (k : ∀ w', Ow B w' H → K (.tuple #[v64 (pack id c).1, vI (pack id c).2]) w') : callW PG N.epoch_Pack [vI id, v64 c] K PK w := by
  refine epoch_Pack.ok ?_
  unfold epoch_Pack.C
  repeat (first | refine pu_not ?_ | refine pu_eql ?_ | refine pu_neq ?_ | refine pu_lss ?_ | refine pu_leq ?_ | refine pu_gtr ?_ | refine pu_geq ?_ | refine pu_add ?_ | refine pu_sub ?_ | refine pu_mul ?_ | refine pu_neg ?_ | refine fa_at ?_ | refine nl_ptr ?_ | refine ex20 ?_ | refine ex21 ?_ | refine ex30 ?_ | refine ex31 ?_ | refine ex32 ?_ | refine ln_rule ?_ | refine lnT_rule ?_ | refine pu_and ?_ | refine pu_or ?_ | refine pu_xor ?_ | refine pu_seq ?_ | refine pu_sne ?_)
  refine cnd (fun hlt => ?_) (fun hge => ?_)
  · have e : pack id c = (0, 2) := by unfold pack; rw [if_neg]; simp at hlt; omega
    rw [e] at k
    exact k _ h
  · have h0 : 0 ≤ id := by simp at hge; omega
    refine cvt_iu h0 (by omega) ?_
    refine pu_build (bC (id.toNat, 0, 65535)) (by kernel_rfl) ?_
    refine pu_build (bC (c, 0, 281474976710655)) (by kernel_rfl) ?_
    refine bs_rule h (List.flatten ([(id.toNat, 0, 65535), (c, 0, 281474976710655)].map bC)) (by kernel_rfl) (fun b w1 h1 => ?_)
    refine fine_spec (l := [(id.toNat, 0, 65535), (c, 0, 281474976710655)]) h1 (sls_here (xs := [(id.toNat, 0, 65535), (c, 0, 281474976710655)].map bC) (.head _) (by simp) (by simp [maxLen])) (by simp) (fun w2 h2 => ?_)
    have h2 := h2.drop
    have e : [(id.toNat, 0, 65535), (c, 0, 281474976710655)].all bndOk = decide (id.toNat ≤ 65535 ∧ c ≤ 281474976710655) := by simp [bndOk]
    rw [e]
    repeat (first | refine pu_not ?_ | refine pu_eql ?_ | refine pu_neq ?_ | refine pu_lss ?_ | refine pu_leq ?_ | refine pu_gtr ?_ | refine pu_geq ?_ | refine pu_add ?_ | refine pu_sub ?_ | refine pu_mul ?_ | refine pu_neg ?_ | refine fa_at ?_ | refine nl_ptr ?_ | refine ex20 ?_ | refine ex21 ?_ | refine ex30 ?_ | refine ex31 ?_ | refine ex32 ?_ | refine ln_rule ?_ | refine lnT_rule ?_ | refine pu_and ?_ | refine pu_or ?_ | refine pu_xor ?_ | refine pu_seq ?_ | refine pu_sne ?_)
    refine cnd (fun hb => ?_) (fun hb => ?_)
    · have e : pack id c = (0, 2) := by unfold pack; rw [if_neg]; simp at hb; omega
      rw [e] at k
      exact k _ h2
    · have hb : id.toNat ≤ 65535 ∧ c ≤ 281474976710655 := by simpa using hb
      have e : pack id c = (id.toNat * 281474976710656 + c, 0) := by unfold pack; rw [if_pos (by omega)]
      rw [e] at k
      refine cvt_iu h0 (by omega) ?_
      refine pu_shl (by omega) ?_
      have e1 : IntKind.u64.wrap ((id.toNat : Int) * 2 ^ min (48 : Int).toNat IntKind.u64.bits) = ((id.toNat * 2 ^ 48 : Nat) : Int) := by
        have e1 : (2 : Int) ^ min (48 : Int).toNat IntKind.u64.bits = 281474976710656 := by decide
        rw [e1, wrapu64]; omega
      rw [e1]
      refine pu_or ?_
      have e2 : orI .u64 ((id.toNat * 2 ^ 48 : Nat) : Int) (c : Int) = ((id.toNat * 281474976710656 + c : Nat) : Int) := by
        have h1 := or_add (a := c) (b := id.toNat) (k := 48) (by omega) (by omega)
        have h2 : orI .u64 ((id.toNat * 2 ^ 48 : Nat) : Int) (c : Int) = orI .u64 (c : Int) ((id.toNat * 2 ^ 48 : Nat) : Int) := by
          unfold orI
          rw [BitVec.or_comm]
        rw [h2, h1]
        omega
      rw [e2]
      exact k _ h2
theorem rpack_spec {id : Int} {c : Nat} (hid : id < 9223372036854775808) (hc : c < 18446744073709551616) (k : K (.tuple #[v64 (pack id c).1, vI (pack id c).2]) w) : callW PG N.linesmanref03_Pack [vI id, v64 c] K PK w := by
  refine linesmanref03_Pack.ok ?_
  unfold linesmanref03_Pack.C
  repeat (first | refine pu_not ?_ | refine pu_eql ?_ | refine pu_neq ?_ | refine pu_lss ?_ | refine pu_leq ?_ | refine pu_gtr ?_ | refine pu_geq ?_ | refine pu_add ?_ | refine pu_sub ?_ | refine pu_mul ?_ | refine pu_neg ?_ | refine fa_at ?_ | refine nl_ptr ?_ | refine ex20 ?_ | refine ex21 ?_ | refine ex30 ?_ | refine ex31 ?_ | refine ex32 ?_ | refine ln_rule ?_ | refine lnT_rule ?_ | refine pu_and ?_ | refine pu_or ?_ | refine pu_xor ?_ | refine pu_seq ?_ | refine pu_sne ?_)
  refine cnd (fun hlt => ?_) (fun hge => ?_)
  · have e : pack id c = (0, 2) := by unfold pack; rw [if_neg]; simp at hlt; omega
    rw [e] at k
    exact k
  · repeat (first | refine pu_not ?_ | refine pu_eql ?_ | refine pu_neq ?_ | refine pu_lss ?_ | refine pu_leq ?_ | refine pu_gtr ?_ | refine pu_geq ?_ | refine pu_add ?_ | refine pu_sub ?_ | refine pu_mul ?_ | refine pu_neg ?_ | refine fa_at ?_ | refine nl_ptr ?_ | refine ex20 ?_ | refine ex21 ?_ | refine ex30 ?_ | refine ex31 ?_ | refine ex32 ?_ | refine ln_rule ?_ | refine lnT_rule ?_ | refine pu_and ?_ | refine pu_or ?_ | refine pu_xor ?_ | refine pu_seq ?_ | refine pu_sne ?_)
    refine cnd (fun hlt => ?_) (fun hle => ?_)
    · have e : pack id c = (0, 2) := by unfold pack; rw [if_neg]; simp at hlt; omega
      rw [e] at k
      exact k
    · repeat (first | refine pu_not ?_ | refine pu_eql ?_ | refine pu_neq ?_ | refine pu_lss ?_ | refine pu_leq ?_ | refine pu_gtr ?_ | refine pu_geq ?_ | refine pu_add ?_ | refine pu_sub ?_ | refine pu_mul ?_ | refine pu_neg ?_ | refine fa_at ?_ | refine nl_ptr ?_ | refine ex20 ?_ | refine ex21 ?_ | refine ex30 ?_ | refine ex31 ?_ | refine ex32 ?_ | refine ln_rule ?_ | refine lnT_rule ?_ | refine pu_and ?_ | refine pu_or ?_ | refine pu_xor ?_ | refine pu_seq ?_ | refine pu_sne ?_)
      refine cnd (fun hlt => ?_) (fun hcl => ?_)
      · have e : pack id c = (0, 2) := by unfold pack; rw [if_neg]; simp at hlt; omega
        rw [e] at k
        exact k
      · simp at hge hle hcl
        have e : pack id c = (id.toNat * 281474976710656 + c, 0) := by unfold pack; rw [if_pos (by omega)]
        rw [e] at k
        refine cvt_iu (by omega) (by omega) ?_
        refine pu_mul ?_
        refine pu_add ?_
        have e1 : IntKind.u64.wrap (IntKind.u64.wrap ((id.toNat : Int) * 281474976710656) + (c : Int)) = ((id.toNat * 281474976710656 + c : Nat) : Int) := by
          rw [wrapu64, wrapu64]; omega
        rw [e1]
        exact k
theorem next_spec {e f : Nat} (h : Ow B w H) (he : e < 18446744073709551616) (hf : f < 18446744073709551616) (k : ∀ w', Ow B w' H → K (.tuple #[v64 (next e f).1, vI (next e f).2]) w') : callW PG N.epoch_Next [v64 e, v64 f] K PK w := by
  refine epoch_Next.ok ?_
  unfold epoch_Next.C
  refine pu_build (bC (f, 1, 281474976710655)) (by kernel_rfl) ?_
  refine bs_rule h (List.flatten ([(f, 1, 281474976710655)].map bC)) (by kernel_rfl) (fun b w1 h1 => ?_)
  refine fine_spec (l := [(f, 1, 281474976710655)]) h1 (sls_here (xs := [(f, 1, 281474976710655)].map bC) (.head _) (by simp) (by simp [maxLen])) (by simp) (fun w2 h2 => ?_)
  have h2 := h2.drop
  have e0 : [(f, 1, 281474976710655)].all bndOk = decide (1 ≤ f ∧ f ≤ 281474976710655) := by simp [bndOk]
  rw [e0]
  repeat (first | refine pu_not ?_ | refine pu_eql ?_ | refine pu_neq ?_ | refine pu_lss ?_ | refine pu_leq ?_ | refine pu_gtr ?_ | refine pu_geq ?_ | refine pu_add ?_ | refine pu_sub ?_ | refine pu_mul ?_ | refine pu_neg ?_ | refine fa_at ?_ | refine nl_ptr ?_ | refine ex20 ?_ | refine ex21 ?_ | refine ex30 ?_ | refine ex31 ?_ | refine ex32 ?_ | refine ln_rule ?_ | refine lnT_rule ?_ | refine pu_and ?_ | refine pu_or ?_ | refine pu_xor ?_ | refine pu_seq ?_ | refine pu_sne ?_)
  refine cnd (fun hb => ?_) (fun hb => ?_)
  · have e : next e f = (0, 2) := by unfold next; rw [if_neg]; simp at hb; omega
    rw [e] at k
    exact k _ h2
  · have hb : 1 ≤ f ∧ f ≤ 281474976710655 := by simpa using hb
    refine pu_build [v64 e] (by kernel_rfl) ?_
    refine parts_in h2 he (fun w3 h3 => ?_)
    refine ixV_rule (l := [v64 (e / 281474976710656), v64 (e % 281474976710656)]) (by omega) (by omega) rfl ?_
    repeat (first | refine pu_not ?_ | refine pu_eql ?_ | refine pu_neq ?_ | refine pu_lss ?_ | refine pu_leq ?_ | refine pu_gtr ?_ | refine pu_geq ?_ | refine pu_add ?_ | refine pu_sub ?_ | refine pu_mul ?_ | refine pu_neg ?_ | refine fa_at ?_ | refine nl_ptr ?_ | refine ex20 ?_ | refine ex21 ?_ | refine ex30 ?_ | refine ex31 ?_ | refine ex32 ?_ | refine ln_rule ?_ | refine lnT_rule ?_ | refine pu_and ?_ | refine pu_or ?_ | refine pu_xor ?_ | refine pu_seq ?_ | refine pu_sne ?_)
    refine cnd (fun hg => ?_) (fun hg => ?_)
    · have e : next e f = (0, 130) := by unfold next; rw [if_pos hb, if_pos (by simp at hg; omega)]
      rw [e] at k
      exact k _ h3
    · simp at hg
      have e0 : next e f = (e + 1, 0) := by unfold next; rw [if_pos hb, if_neg (by omega)]
      rw [e0] at k
      refine pu_add ?_
      have e1 : IntKind.u64.wrap ((e : Int) + 1) = ((e + 1 : Nat) : Int) := by rw [wrapu64]; omega
      rw [e1]
      exact k _ h3
theorem rnext_spec {e f : Nat} (he : e < 18446744073709551616) (hf : f < 18446744073709551616) (k : K (.tuple #[v64 (next e f).1, vI (next e f).2]) w) : callW PG N.linesmanref03_Next [v64 e, v64 f] K PK w := by
  refine linesmanref03_Next.ok ?_
  unfold linesmanref03_Next.C
  repeat (first | refine pu_not ?_ | refine pu_eql ?_ | refine pu_neq ?_ | refine pu_lss ?_ | refine pu_leq ?_ | refine pu_gtr ?_ | refine pu_geq ?_ | refine pu_add ?_ | refine pu_sub ?_ | refine pu_mul ?_ | refine pu_neg ?_ | refine fa_at ?_ | refine nl_ptr ?_ | refine ex20 ?_ | refine ex21 ?_ | refine ex30 ?_ | refine ex31 ?_ | refine ex32 ?_ | refine ln_rule ?_ | refine lnT_rule ?_ | refine pu_and ?_ | refine pu_or ?_ | refine pu_xor ?_ | refine pu_seq ?_ | refine pu_sne ?_)
  refine cnd (fun hb => ?_) (fun hb => ?_)
  · have e : next e f = (0, 2) := by unfold next; rw [if_neg]; simp at hb; omega
    rw [e] at k
    exact k
  · repeat (first | refine pu_not ?_ | refine pu_eql ?_ | refine pu_neq ?_ | refine pu_lss ?_ | refine pu_leq ?_ | refine pu_gtr ?_ | refine pu_geq ?_ | refine pu_add ?_ | refine pu_sub ?_ | refine pu_mul ?_ | refine pu_neg ?_ | refine fa_at ?_ | refine nl_ptr ?_ | refine ex20 ?_ | refine ex21 ?_ | refine ex30 ?_ | refine ex31 ?_ | refine ex32 ?_ | refine ln_rule ?_ | refine lnT_rule ?_ | refine pu_and ?_ | refine pu_or ?_ | refine pu_xor ?_ | refine pu_seq ?_ | refine pu_sne ?_)
    refine cnd (fun hb2 => ?_) (fun hb2 => ?_)
    · have e : next e f = (0, 2) := by unfold next; rw [if_neg]; simp at hb2; omega
      rw [e] at k
      exact k
    · simp at hb hb2
      have hb : 1 ≤ f ∧ f ≤ 281474976710655 := by omega
      refine rparts_spec he ?_
      repeat (first | refine pu_not ?_ | refine pu_eql ?_ | refine pu_neq ?_ | refine pu_lss ?_ | refine pu_leq ?_ | refine pu_gtr ?_ | refine pu_geq ?_ | refine pu_add ?_ | refine pu_sub ?_ | refine pu_mul ?_ | refine pu_neg ?_ | refine fa_at ?_ | refine nl_ptr ?_ | refine ex20 ?_ | refine ex21 ?_ | refine ex30 ?_ | refine ex31 ?_ | refine ex32 ?_ | refine ln_rule ?_ | refine lnT_rule ?_ | refine pu_and ?_ | refine pu_or ?_ | refine pu_xor ?_ | refine pu_seq ?_ | refine pu_sne ?_)
      refine cnd (fun hg => ?_) (fun hg => ?_)
      · have e : next e f = (0, 130) := by unfold next; rw [if_pos hb, if_pos (by simp at hg; omega)]
        rw [e] at k
        exact k
      · simp at hg
        have e0 : next e f = (e + 1, 0) := by unfold next; rw [if_pos hb, if_neg (by omega)]
        rw [e0] at k
        refine pu_add ?_
        have e1 : IntKind.u64.wrap ((e : Int) + 1) = ((e + 1 : Nat) : Int) := by rw [wrapu64]; omega
        rw [e1]
        exact k
end
end Go.Proofs.Ytobanjfpoeinhaa
