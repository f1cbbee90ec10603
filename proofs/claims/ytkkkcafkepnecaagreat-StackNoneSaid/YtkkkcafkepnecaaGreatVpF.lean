/- Programs: a place; their numbers. -/
import Derived.Test.YtkkkcafkepnecaaGreatVpE
set_option linter.unusedVariables false
set_option linter.unusedSimpArgs false
namespace Go.Proofs.YtkkkcafkepnecaaGreat
open Go Go.RowKit Vc
attribute [local irreducible] binV Op.unary convert nlW faW ldS ldW ixS ixA ixV ixT exW lnS lnT pu stW alW opW opU bsW mkW

section
variable {B w : World} {H X : Hp} {K : Value → World → Prop} {PK : List PanicEntry → World → Prop} {KK : Value → Prop} {f : Fun} {c v : Value} {p : Pr} {pc : Nat} {i : Ins}
def fineL (p : Pr) (f : Fun) (pc : Nat) (i : Ins) : List Bool := [fitsI f i, jumpsI f i, callsI p.fs i, endsI f pc i]
def fineI (p : Pr) (f : Fun) (pc : Nat) (i : Ins) : Bool := (fineL p f pc i).all id
def askV (pl : Value) : List Value := [.func (.func N.program_place_fits) #[pl] #[], .func (.func N.program_place_jumps) #[pl] #[], .func (.func N.program_place_calls) #[pl] #[], .func (.func N.program_place_ends) #[pl] #[]]
theorem ask_pf (hc : Sls X c 5 (icode f.code)) (hv : fsIn X v p.fs) (hX : ∀ x, x ∈ X → x ∈ H) (hi : f.code[pc]? = some i) (hm : immOk f.code) {n : Nat} (hn : n < 4) :
    ∃ (a : Value) (r : Bool), (askV (.agg (plc f c p v pc).toArray))[n]? = some a ∧ (fineL p f pc i)[n]? = some r ∧ PF PG B H a [] (vB r) := by
  match n, hn with
  | 0, _ => exact ⟨_, _, rfl, rfl, fits_pf hc hX hi hm⟩
  | 1, _ => exact ⟨_, _, rfl, rfl, jumps_pf hc hX hi hm⟩
  | 2, _ => exact ⟨_, _, rfl, rfl, calls_pf hc hv hX hi hm⟩
  | 3, _ => exact ⟨_, _, rfl, rfl, ends_pf hc hX hi hm⟩
theorem fine_spec (hc : Sls X c 5 (icode f.code)) (hv : fsIn X v p.fs) (hX : ∀ x, x ∈ X → x ∈ H) (hi : f.code[pc]? = some i) (hm : immOk f.code) (h : Ow B w H) (k : ∀ w', Ow B w' H → K (vB (fineI p f pc i)) w') : callW PG N.program_place_fine [.agg (plc f c p v pc).toArray] K PK w := by
  refine program_place_fine.ok ?_
  unfold program_place_fine.C
  refine al_rule h (l := plc f c p v pc) rfl (fun b w1 h1 => ?_)
  have g : ∀ KK : Value → Prop, KK (.agg (plc f c p v pc).toArray) → ldW (some 7) (ptr b) w1 KK := fun KK kk => ldn_here h1 (.head _) (vs := plc f c p v pc) rfl rfl kk
  refine g _ (g _ (g _ (g _ ?_)))
  refine pu_build (askV (.agg (plc f c p v pc).toArray)) (by kernel_rfl) ?_
  refine ⟨fun l w => ∃ n : Nat, l = [vI n] ∧ n ≤ 4 ∧ ((fineL p f pc i).take n).all id = true ∧ Ow B w ((b, plO f c p v pc) :: H), fun l _ => match l with | [.int _ q] => 4 - q.toNat | _ => 0, ⟨0, rfl, Nat.zero_le _, rfl, h1⟩, ?_⟩
  rintro l w5 ⟨n, rfl, hn, hall, h5⟩ j
  repeat (first | refine pu_not ?_ | refine pu_eql ?_ | refine pu_neq ?_ | refine pu_lss ?_ | refine pu_leq ?_ | refine pu_gtr ?_ | refine pu_geq ?_ | refine pu_add ?_ | refine pu_sub ?_ | refine pu_mul ?_ | refine pu_neg ?_ | refine fa_at ?_ | refine nl_ptr ?_ | refine ex20 ?_ | refine ex21 ?_ | refine ex30 ?_ | refine ex31 ?_ | refine ex32 ?_ | refine ln_rule ?_ | refine lnT_rule ?_ | refine pu_and ?_ | refine pu_or ?_ | refine pu_xor ?_ | refine pu_seq ?_ | refine pu_sne ?_)
  refine cnd (fun hlt => ?_) (fun hlt => ?_)
  · have hlt : n < 4 := by simp at hlt; omega
    obtain ⟨a, r, e1, e2, hpf⟩ := ask_pf (B := B) hc hv (fun x hx => List.Mem.tail (b, plO f c p v pc) (hX x hx)) hi hm hlt
    refine ixV_rule (by omega) (by omega) (by rw [Int.toNat_natCast]; exact e1) ?_
    refine hpf [] _ _ _ h5 (fun w6 h6 => ?_)
    repeat (first | refine pu_not ?_ | refine pu_eql ?_ | refine pu_neq ?_ | refine pu_lss ?_ | refine pu_leq ?_ | refine pu_gtr ?_ | refine pu_geq ?_ | refine pu_add ?_ | refine pu_sub ?_ | refine pu_mul ?_ | refine pu_neg ?_ | refine fa_at ?_ | refine nl_ptr ?_ | refine ex20 ?_ | refine ex21 ?_ | refine ex30 ?_ | refine ex31 ?_ | refine ex32 ?_ | refine ln_rule ?_ | refine lnT_rule ?_ | refine pu_and ?_ | refine pu_or ?_ | refine pu_xor ?_ | refine pu_seq ?_ | refine pu_sne ?_)
    refine cnd (fun hq => ?_) (fun hq => ?_)
    · have hq : r = false := by simpa using hq
      have e : fineI p f pc i = false := by
        unfold fineI
        rw [List.all_eq_false]
        exact ⟨r, List.mem_of_getElem? e2, by simp [hq]⟩
      rw [e] at k
      exact k _ h6.drop
    · have hq : r = true := by simpa using hq
      repeat (first | refine pu_not ?_ | refine pu_eql ?_ | refine pu_neq ?_ | refine pu_lss ?_ | refine pu_leq ?_ | refine pu_gtr ?_ | refine pu_geq ?_ | refine pu_add ?_ | refine pu_sub ?_ | refine pu_mul ?_ | refine pu_neg ?_ | refine fa_at ?_ | refine nl_ptr ?_ | refine ex20 ?_ | refine ex21 ?_ | refine ex30 ?_ | refine ex31 ?_ | refine ex32 ?_ | refine ln_rule ?_ | refine lnT_rule ?_ | refine pu_and ?_ | refine pu_or ?_ | refine pu_xor ?_ | refine pu_seq ?_ | refine pu_sne ?_)
      rw [wrap64_in (by omega) (by omega)]
      refine ⟨⟨n + 1, rfl, hlt, ?_, h6⟩, by simp; omega⟩
      rw [List.take_add_one, e2, List.all_append, hall, hq]; rfl
  · obtain rfl : n = 4 := by simp at hlt; omega
    have e : fineI p f pc i = true := by
      unfold fineI
      rw [show fineL p f pc i = (fineL p f pc i).take 4 from rfl]; exact hall
    rw [e] at k
    exact k _ h5.drop

/-! ### Numbers within bounds -/
abbrev brow (b : Int × Int × Int) : List Value := [vI b.1, vI b.2.1, vI b.2.2]
def brows (l : List (Int × Int × Int)) : List (List Value) := l.map brow
theorem brows_three (l : List (Int × Int × Int)) : ∀ x ∈ brows l, x.length = 3 := fun x hx => by
  obtain ⟨p, _, rfl⟩ := List.mem_map.1 hx
  rfl
theorem own_sls {S : Hp} {e : TypeId} {size : Nat} {rows : List (List Value)} (hl : ∀ x ∈ rows, x.length = size) (h : Vc.Own S e size v rows.length rows.flatten) : Sls S v size rows := by
  obtain ⟨h1, ⟨rfl, rfl, h0⟩ | ⟨g, cap, l, rfl, rfl, hc, hm, hlen, hx⟩⟩ := h
  · have : rows = [] := List.eq_nil_of_length_eq_zero h0
    subst this
    exact ⟨none, 0, rfl, Nat.zero_le _, Nat.zero_le _, by simp, by simp⟩
  · refine ⟨some ⟨g, 0, none⟩, cap, rfl, hc, hm, hl, fun i x hi => ⟨_, rfl, fun j y hj => ?_⟩⟩
    rw [add_mk]
    refine cell_here (.head _) ?_
    have := flatten_at hj rows i hl hi
    rw [← hx, List.getElem?_take] at this
    split at this
    · simpa using this
    · cases this
def inB (b : Int × Int × Int) : Bool := decide (b.2.1 ≤ b.1) && decide (b.1 ≤ b.2.2)
theorem within1_pf (b : Int × Int × Int) : PF PG B H (fnc N.program_within_1 #[]) [.agg (brow b).toArray] (vB (inB b)) := fun Z K PK w hw k => by
  refine callV_fn program_within_1.okf (program_within_1.ok ?_)
  unfold program_within_1.C
  refine al_rule hw (l := brow b) rfl (fun b2 w1 h1 => ?_)
  unfold inB at k
  repeat (first | refine pu_not ?_ | refine pu_eql ?_ | refine pu_neq ?_ | refine pu_lss ?_ | refine pu_leq ?_ | refine pu_gtr ?_ | refine pu_geq ?_ | refine pu_add ?_ | refine pu_sub ?_ | refine pu_mul ?_ | refine pu_neg ?_ | refine fa_at ?_ | refine nl_ptr ?_ | refine ex20 ?_ | refine ex21 ?_ | refine ex30 ?_ | refine ex31 ?_ | refine ex32 ?_ | refine ln_rule ?_ | refine lnT_rule ?_ | refine pu_and ?_ | refine pu_or ?_ | refine pu_xor ?_ | refine pu_seq ?_ | refine pu_sne ?_)
  refine ld_here h1 (.head _) (v := vI b.2.1) rfl ?_
  repeat (first | refine pu_not ?_ | refine pu_eql ?_ | refine pu_neq ?_ | refine pu_lss ?_ | refine pu_leq ?_ | refine pu_gtr ?_ | refine pu_geq ?_ | refine pu_add ?_ | refine pu_sub ?_ | refine pu_mul ?_ | refine pu_neg ?_ | refine fa_at ?_ | refine nl_ptr ?_ | refine ex20 ?_ | refine ex21 ?_ | refine ex30 ?_ | refine ex31 ?_ | refine ex32 ?_ | refine ln_rule ?_ | refine lnT_rule ?_ | refine pu_and ?_ | refine pu_or ?_ | refine pu_xor ?_ | refine pu_seq ?_ | refine pu_sne ?_)
  refine ld_here h1 (.head _) (v := vI b.1) rfl ?_
  repeat (first | refine pu_not ?_ | refine pu_eql ?_ | refine pu_neq ?_ | refine pu_lss ?_ | refine pu_leq ?_ | refine pu_gtr ?_ | refine pu_geq ?_ | refine pu_add ?_ | refine pu_sub ?_ | refine pu_mul ?_ | refine pu_neg ?_ | refine fa_at ?_ | refine nl_ptr ?_ | refine ex20 ?_ | refine ex21 ?_ | refine ex30 ?_ | refine ex31 ?_ | refine ex32 ?_ | refine ln_rule ?_ | refine lnT_rule ?_ | refine pu_and ?_ | refine pu_or ?_ | refine pu_xor ?_ | refine pu_seq ?_ | refine pu_sne ?_)
  refine cnd (fun hq => ?_) (fun hq => ?_)
  · rw [hq, Bool.true_and] at k
    repeat (first | refine pu_not ?_ | refine pu_eql ?_ | refine pu_neq ?_ | refine pu_lss ?_ | refine pu_leq ?_ | refine pu_gtr ?_ | refine pu_geq ?_ | refine pu_add ?_ | refine pu_sub ?_ | refine pu_mul ?_ | refine pu_neg ?_ | refine fa_at ?_ | refine nl_ptr ?_ | refine ex20 ?_ | refine ex21 ?_ | refine ex30 ?_ | refine ex31 ?_ | refine ex32 ?_ | refine ln_rule ?_ | refine lnT_rule ?_ | refine pu_and ?_ | refine pu_or ?_ | refine pu_xor ?_ | refine pu_seq ?_ | refine pu_sne ?_)
    refine ld_here h1 (.head _) (v := vI b.1) rfl ?_
    repeat (first | refine pu_not ?_ | refine pu_eql ?_ | refine pu_neq ?_ | refine pu_lss ?_ | refine pu_leq ?_ | refine pu_gtr ?_ | refine pu_geq ?_ | refine pu_add ?_ | refine pu_sub ?_ | refine pu_mul ?_ | refine pu_neg ?_ | refine fa_at ?_ | refine nl_ptr ?_ | refine ex20 ?_ | refine ex21 ?_ | refine ex30 ?_ | refine ex31 ?_ | refine ex32 ?_ | refine ln_rule ?_ | refine lnT_rule ?_ | refine pu_and ?_ | refine pu_or ?_ | refine pu_xor ?_ | refine pu_seq ?_ | refine pu_sne ?_)
    refine ld_here h1 (.head _) (v := vI b.2.2) rfl ?_
    repeat (first | refine pu_not ?_ | refine pu_eql ?_ | refine pu_neq ?_ | refine pu_lss ?_ | refine pu_leq ?_ | refine pu_gtr ?_ | refine pu_geq ?_ | refine pu_add ?_ | refine pu_sub ?_ | refine pu_mul ?_ | refine pu_neg ?_ | refine fa_at ?_ | refine nl_ptr ?_ | refine ex20 ?_ | refine ex21 ?_ | refine ex30 ?_ | refine ex31 ?_ | refine ex32 ?_ | refine ln_rule ?_ | refine lnT_rule ?_ | refine pu_and ?_ | refine pu_or ?_ | refine pu_xor ?_ | refine pu_seq ?_ | refine pu_sne ?_)
    exact k _ h1.drop
  · rw [hq, Bool.false_and] at k
    exact k _ h1.drop
theorem indexB_spec {s g : Value} {l : List (Int × Int × Int)} {q : Int × Int × Int → Bool} (h : Ow B w H) (hs : Sls H s 3 (brows l)) (hlen : l.length < 2 ^ 62) (hf : ∀ b, PF PG B H g [.agg (brow b).toArray] (vB (q b)))
    (k : ∀ w' (n : Int), (0 ≤ n ↔ l.any q = true) → Ow B w' H → K (vI n) w') : callW PG N.slices_IndexFunc_sl_program_bound_program_bound [s, g] K PK w := by
  refine slices_IndexFunc_sl_program_bound_program_bound.ok ?_
  unfold slices_IndexFunc_sl_program_bound_program_bound.C
  have hbl : (brows l).length = l.length := by simp [brows]
  refine sls_ln hs ?_
  rw [hbl]
  refine ⟨fun l' w => ∃ i : Nat, l' = [vI i] ∧ i ≤ l.length ∧ (l.take i).any q = false ∧ Ow B w H, fun l' _ => match l' with | [.int _ n] => l.length - n.toNat | _ => 0, ⟨0, rfl, Nat.zero_le _, rfl, h⟩, ?_⟩
  rintro l' w1 ⟨i, rfl, hi, hno, h1⟩ j
  repeat (first | refine pu_not ?_ | refine pu_eql ?_ | refine pu_neq ?_ | refine pu_lss ?_ | refine pu_leq ?_ | refine pu_gtr ?_ | refine pu_geq ?_ | refine pu_add ?_ | refine pu_sub ?_ | refine pu_mul ?_ | refine pu_neg ?_ | refine fa_at ?_ | refine nl_ptr ?_ | refine ex20 ?_ | refine ex21 ?_ | refine ex30 ?_ | refine ex31 ?_ | refine ex32 ?_ | refine ln_rule ?_ | refine lnT_rule ?_ | refine pu_and ?_ | refine pu_or ?_ | refine pu_xor ?_ | refine pu_seq ?_ | refine pu_sne ?_)
  refine cnd (fun hlt => ?_) (fun hlt => ?_)
  · have hlt : i < l.length := by simpa using hlt
    refine sls_ld h1 hs (x := brow l[i]) (by omega) (by rw [Int.toNat_natCast]; simp [brows, hlt]) ?_
    refine hf l[i] [] _ _ _ h1 (fun w2 h2 => ?_)
    refine cnd (fun hp => ?_) (fun hp => ?_)
    · exact k _ _ ⟨fun _ => List.any_eq_true.2 ⟨_, List.getElem_mem hlt, hp⟩, fun _ => by omega⟩ h2
    · repeat (first | refine pu_not ?_ | refine pu_eql ?_ | refine pu_neq ?_ | refine pu_lss ?_ | refine pu_leq ?_ | refine pu_gtr ?_ | refine pu_geq ?_ | refine pu_add ?_ | refine pu_sub ?_ | refine pu_mul ?_ | refine pu_neg ?_ | refine fa_at ?_ | refine nl_ptr ?_ | refine ex20 ?_ | refine ex21 ?_ | refine ex30 ?_ | refine ex31 ?_ | refine ex32 ?_ | refine ln_rule ?_ | refine lnT_rule ?_ | refine pu_and ?_ | refine pu_or ?_ | refine pu_xor ?_ | refine pu_seq ?_ | refine pu_sne ?_)
      rw [wrap64_in (by omega) (by omega)]
      refine ⟨⟨i + 1, rfl, hlt, ?_, h2⟩, by simp; omega⟩
      rw [List.take_add_one, List.getElem?_eq_getElem hlt, List.any_append, hno]
      simpa using hp
  · obtain rfl : i = l.length := by simp at hlt; omega
    rw [List.take_length] at hno
    exact k _ _ ⟨fun h => by omega, fun h => by rw [hno] at h; cases h⟩ h1
theorem within_spec {s : Value} {l : List (Int × Int × Int)} (h : Ow B w H) (hs : Sls H s 3 (brows l)) (hlen : l.length < 2 ^ 62) (k : ∀ w', Ow B w' H → K (vB (l.all inB)) w') : callW PG N.program_within [s] K PK w := by
  refine program_within.ok ?_
  unfold program_within.C
  refine program_all_program_bound.ok ?_
  unfold program_all_program_bound.C
  refine al_rule h (l := [fnc N.program_within_1 #[]]) rfl (fun b2 w1 h1 => ?_)
  refine slices_ContainsFunc_sl_program_bound_program_bound.ok ?_
  unfold slices_ContainsFunc_sl_program_bound_program_bound.C
  refine indexB_spec (q := fun b => !inB b) h1 (hs.mono fun x hx => .tail _ hx) hlen (fun b => ?_) (fun w2 n hn h2 => ?_)
  · intro Z K PK w hw k
    refine callV_fn program_all_program_bound_1.okf (program_all_program_bound_1.ok ?_)
    unfold program_all_program_bound_1.C
    refine al_rule hw (l := brow b) rfl (fun b3 w3 h3 => ?_)
    refine ld_here h3 (.tail _ (List.mem_append_right _ (.head _))) rfl ?_
    refine ldn_here h3 (.head _) (vs := brow b) rfl rfl ?_
    refine within1_pf (H := (b3, cel (brow b) T.t_program_bound) :: (Z ++ (b2, cel [fnc N.program_within_1 #[]] T.t_func_program_bound_bool_2) :: H)) b [] _ _ _ h3 (fun w4 h4 => ?_)
    repeat (first | refine pu_not ?_ | refine pu_eql ?_ | refine pu_neq ?_ | refine pu_lss ?_ | refine pu_leq ?_ | refine pu_gtr ?_ | refine pu_geq ?_ | refine pu_add ?_ | refine pu_sub ?_ | refine pu_mul ?_ | refine pu_neg ?_ | refine fa_at ?_ | refine nl_ptr ?_ | refine ex20 ?_ | refine ex21 ?_ | refine ex30 ?_ | refine ex31 ?_ | refine ex32 ?_ | refine ln_rule ?_ | refine lnT_rule ?_ | refine pu_and ?_ | refine pu_or ?_ | refine pu_xor ?_ | refine pu_seq ?_ | refine pu_sne ?_)
    exact k _ h4.drop
  · refine pu_geq ?_
    repeat (first | refine pu_not ?_ | refine pu_eql ?_ | refine pu_neq ?_ | refine pu_lss ?_ | refine pu_leq ?_ | refine pu_gtr ?_ | refine pu_geq ?_ | refine pu_add ?_ | refine pu_sub ?_ | refine pu_mul ?_ | refine pu_neg ?_ | refine fa_at ?_ | refine nl_ptr ?_ | refine ex20 ?_ | refine ex21 ?_ | refine ex30 ?_ | refine ex31 ?_ | refine ex32 ?_ | refine ln_rule ?_ | refine lnT_rule ?_ | refine pu_and ?_ | refine pu_or ?_ | refine pu_xor ?_ | refine pu_seq ?_ | refine pu_sne ?_)
    have e : (!decide (n ≥ 0)) = l.all inB := by
      have h1 : decide (n ≥ 0) = l.any (fun b => !inB b) := by
        cases ha : l.any (fun b => !inB b)
        · rw [ha] at hn; simp at hn; simp; omega
        · rw [ha] at hn; simp at hn; simp; omega
      rw [h1, List.all_eq_not_any_not]
    rw [e]
    exact k _ h2.drop
def fnum (f : Fun) : List (Int × Int × Int) := [(f.regs, 1, 16), (f.code.length, 1, 512)]
def numL (p : Pr) : List (Int × Int × Int) := [((p.fs.length : Int), 1, 32), (p.mu, 0, 64), (p.rw, 0, 64), (p.gr, 0, 64)] ++ p.fs.flatMap fnum
def numI (p : Pr) : Bool := (numL p).all inB
theorem brows_app (a b : List (Int × Int × Int)) : brows (a ++ b) = brows a ++ brows b := List.map_append
theorem brows_plain (l : List (Int × Int × Int)) : (brows l).flatten.all plainV = true := by
  refine List.all_eq_true.2 fun u hu => ?_
  obtain ⟨x, hx, hu⟩ := List.mem_flatten.1 hu
  obtain ⟨b, _, rfl⟩ := List.mem_map.1 hx
  rcases List.mem_cons.1 hu with rfl | hu
  · rfl
  · rcases List.mem_cons.1 hu with rfl | hu
    · rfl
    · rw [List.mem_singleton.1 hu]; rfl
theorem info_bound : (PG.info? T.t_program_bound).map (fun i => (i.zero, i.size, i.bytes)) = some (some (.agg #[vI 0, vI 0, vI 0]), 3, 24) := by kernel_rfl
theorem und_slbound : PG.underlying T.t_sl_program_bound = some (.slice T.t_program_bound) := by kernel_rfl
theorem brows_flat_len (l : List (Int × Int × Int)) : (brows l).flatten.length = l.length * 3 := by
  induction l with
  | nil => rfl
  | cons x l ih =>
    rw [show brows (x :: l) = brow x :: brows l from rfl, List.flatten_cons, List.length_append, ih, List.length_cons]
    simp; omega
theorem numbers_spec (hv : fsIn X v p.fs) (hX : ∀ x, x ∈ X → x ∈ H) (hlen : p.fs.length ≤ 1000) (h : Ow B w H) (k : ∀ w', Ow B w' H → K (vB (numI p)) w') : callW PG N.program_numbers [.agg (p.cells v).toArray] K PK w := by
  refine program_numbers.ok ?_
  unfold program_numbers.C
  refine al_rule h (l := p.cells v) rfl (fun b2 w1 h1 => ?_)
  repeat (first | refine pu_not ?_ | refine pu_eql ?_ | refine pu_neq ?_ | refine pu_lss ?_ | refine pu_leq ?_ | refine pu_gtr ?_ | refine pu_geq ?_ | refine pu_add ?_ | refine pu_sub ?_ | refine pu_mul ?_ | refine pu_neg ?_ | refine fa_at ?_ | refine nl_ptr ?_ | refine ex20 ?_ | refine ex21 ?_ | refine ex30 ?_ | refine ex31 ?_ | refine ex32 ?_ | refine ln_rule ?_ | refine lnT_rule ?_ | refine pu_and ?_ | refine pu_or ?_ | refine pu_xor ?_ | refine pu_seq ?_ | refine pu_sne ?_)
  refine ld_here h1 (.head _) (v := v) rfl ?_
  refine hv.ln ?_
  refine pu_build (brow (p.fs.length, 1, 32)) (by kernel_rfl) ?_
  repeat (first | refine pu_not ?_ | refine pu_eql ?_ | refine pu_neq ?_ | refine pu_lss ?_ | refine pu_leq ?_ | refine pu_gtr ?_ | refine pu_geq ?_ | refine pu_add ?_ | refine pu_sub ?_ | refine pu_mul ?_ | refine pu_neg ?_ | refine fa_at ?_ | refine nl_ptr ?_ | refine ex20 ?_ | refine ex21 ?_ | refine ex30 ?_ | refine ex31 ?_ | refine ex32 ?_ | refine ln_rule ?_ | refine lnT_rule ?_ | refine pu_and ?_ | refine pu_or ?_ | refine pu_xor ?_ | refine pu_seq ?_ | refine pu_sne ?_)
  refine ld_here h1 (.head _) (v := vI p.mu) rfl ?_
  refine pu_build (brow (p.mu, 0, 64)) (by kernel_rfl) ?_
  repeat (first | refine pu_not ?_ | refine pu_eql ?_ | refine pu_neq ?_ | refine pu_lss ?_ | refine pu_leq ?_ | refine pu_gtr ?_ | refine pu_geq ?_ | refine pu_add ?_ | refine pu_sub ?_ | refine pu_mul ?_ | refine pu_neg ?_ | refine fa_at ?_ | refine nl_ptr ?_ | refine ex20 ?_ | refine ex21 ?_ | refine ex30 ?_ | refine ex31 ?_ | refine ex32 ?_ | refine ln_rule ?_ | refine lnT_rule ?_ | refine pu_and ?_ | refine pu_or ?_ | refine pu_xor ?_ | refine pu_seq ?_ | refine pu_sne ?_)
  refine ld_here h1 (.head _) (v := vI p.rw) rfl ?_
  refine pu_build (brow (p.rw, 0, 64)) (by kernel_rfl) ?_
  repeat (first | refine pu_not ?_ | refine pu_eql ?_ | refine pu_neq ?_ | refine pu_lss ?_ | refine pu_leq ?_ | refine pu_gtr ?_ | refine pu_geq ?_ | refine pu_add ?_ | refine pu_sub ?_ | refine pu_mul ?_ | refine pu_neg ?_ | refine fa_at ?_ | refine nl_ptr ?_ | refine ex20 ?_ | refine ex21 ?_ | refine ex30 ?_ | refine ex31 ?_ | refine ex32 ?_ | refine ln_rule ?_ | refine lnT_rule ?_ | refine pu_and ?_ | refine pu_or ?_ | refine pu_xor ?_ | refine pu_seq ?_ | refine pu_sne ?_)
  refine ld_here h1 (.head _) (v := vI p.gr) rfl ?_
  refine pu_build (brow (p.gr, 0, 64)) (by kernel_rfl) ?_
  refine bs_rule h1 (brows [((p.fs.length : Int), 1, 32), (p.mu, 0, 64), (p.rw, 0, 64), (p.gr, 0, 64)]).flatten (by kernel_rfl) (fun b3 w2 h2 => ?_)
  repeat (first | refine pu_not ?_ | refine pu_eql ?_ | refine pu_neq ?_ | refine pu_lss ?_ | refine pu_leq ?_ | refine pu_gtr ?_ | refine pu_geq ?_ | refine pu_add ?_ | refine pu_sub ?_ | refine pu_mul ?_ | refine pu_neg ?_ | refine fa_at ?_ | refine nl_ptr ?_ | refine ex20 ?_ | refine ex21 ?_ | refine ex30 ?_ | refine ex31 ?_ | refine ex32 ?_ | refine ln_rule ?_ | refine lnT_rule ?_ | refine pu_and ?_ | refine pu_or ?_ | refine pu_xor ?_ | refine pu_seq ?_ | refine pu_sne ?_)
  refine ld_here h2 (.tail _ (.head _)) (v := v) rfl ?_
  refine hv.ln ?_
  refine ⟨fun l w => ∃ (n : Nat) (S : Hp) (s : Value), l = [s, vI n] ∧ n ≤ p.fs.length ∧ Vc.Own S T.t_program_bound 3 s (4 + 2 * n) (brows ([((p.fs.length : Int), 1, 32), (p.mu, 0, 64), (p.rw, 0, 64), (p.gr, 0, 64)] ++ (p.fs.take n).flatMap fnum)).flatten ∧ Ow B w (S ++ (b2, cel (p.cells v) T.t_api_Program) :: H),
    fun l _ => match l with | [_, .int _ q] => p.fs.length - q.toNat | _ => 0, ⟨0, [(b3, cel (brows [((p.fs.length : Int), 1, 32), (p.mu, 0, 64), (p.rw, 0, 64), (p.gr, 0, 64)]).flatten T.t_program_bound)], _, rfl, Nat.zero_le _, Own.mk (Nat.le_refl _) (by simp [maxLen]) (by rw [brows_flat_len]; rfl) (by rw [List.take_of_length_le (by rw [brows_flat_len]; simp)]; rfl), h2⟩, ?_⟩
  rintro l w5 ⟨n, S, s, rfl, hn, ho, h5⟩ j
  repeat (first | refine pu_not ?_ | refine pu_eql ?_ | refine pu_neq ?_ | refine pu_lss ?_ | refine pu_leq ?_ | refine pu_gtr ?_ | refine pu_geq ?_ | refine pu_add ?_ | refine pu_sub ?_ | refine pu_mul ?_ | refine pu_neg ?_ | refine fa_at ?_ | refine nl_ptr ?_ | refine ex20 ?_ | refine ex21 ?_ | refine ex30 ?_ | refine ex31 ?_ | refine ex32 ?_ | refine ln_rule ?_ | refine lnT_rule ?_ | refine pu_and ?_ | refine pu_or ?_ | refine pu_xor ?_ | refine pu_seq ?_ | refine pu_sne ?_)
  refine cnd (fun hlt => ?_) (fun hlt => ?_)
  · have hlt : n < p.fs.length := by simpa using hlt
    obtain ⟨ps, cc, g, g1, g2, g3, g4, g5⟩ := hv.at (n := (n : Int)) (by omega) (by omega)
    have g1 : p.fs[n]? = some g := by rwa [Int.toNat_natCast] at g1
    have hfm : (p.fs.take (n + 1)).flatMap fnum = (p.fs.take n).flatMap fnum ++ fnum g := by rw [List.take_add_one, g1]; simp
    refine sls_ld h5 (g2.mono fun x hx => List.mem_append_right _ (.tail _ (hX x hx))) (by omega) g3 ?_
    refine al_rule h5 (l := [vI 0, .slice none 0 0]) (by kernel_rfl) (fun b6 w6 h6 => ?_)
    refine st_here (A := []) h6 [vI g.regs, cc] rfl rfl (by simp only [List.all_cons, sls_plain g4]; rfl) (by simp) (fun w7 h7 => ?_)
    simp only [List.take_zero, List.nil_append, Nat.zero_add, List.drop_succ_cons, List.drop_zero, List.drop_nil, List.append_nil] at h7
    repeat (first | refine pu_not ?_ | refine pu_eql ?_ | refine pu_neq ?_ | refine pu_lss ?_ | refine pu_leq ?_ | refine pu_gtr ?_ | refine pu_geq ?_ | refine pu_add ?_ | refine pu_sub ?_ | refine pu_mul ?_ | refine pu_neg ?_ | refine fa_at ?_ | refine nl_ptr ?_ | refine ex20 ?_ | refine ex21 ?_ | refine ex30 ?_ | refine ex31 ?_ | refine ex32 ?_ | refine ln_rule ?_ | refine lnT_rule ?_ | refine pu_and ?_ | refine pu_or ?_ | refine pu_xor ?_ | refine pu_seq ?_ | refine pu_sne ?_)
    refine ld_here h7 (.head _) (v := vI g.regs) rfl ?_
    refine pu_build (brow (g.regs, 1, 16)) (by kernel_rfl) ?_
    repeat (first | refine pu_not ?_ | refine pu_eql ?_ | refine pu_neq ?_ | refine pu_lss ?_ | refine pu_leq ?_ | refine pu_gtr ?_ | refine pu_geq ?_ | refine pu_add ?_ | refine pu_sub ?_ | refine pu_mul ?_ | refine pu_neg ?_ | refine fa_at ?_ | refine nl_ptr ?_ | refine ex20 ?_ | refine ex21 ?_ | refine ex30 ?_ | refine ex31 ?_ | refine ex32 ?_ | refine ln_rule ?_ | refine lnT_rule ?_ | refine pu_and ?_ | refine pu_or ?_ | refine pu_xor ?_ | refine pu_seq ?_ | refine pu_sne ?_)
    refine ld_here h7 (.head _) (v := cc) rfl ?_
    refine sls_ln g4 ?_
    rw [icode_len]
    refine pu_build (brow (g.code.length, 1, 512)) (by kernel_rfl) ?_
    refine bs_rule h7 (brows (fnum g)).flatten (by kernel_rfl) (fun b8 w8 h8 => ?_)
    obtain ⟨inf, i1, i2, i3, i4⟩ := info_of info_bound
    refine app_rule (A := [_, _]) (H := [(b8, cel (brows (fnum g)).flatten T.t_program_bound)]) (m := 2) (ys := (brows (fnum g)).flatten) h8 ho (src_here (.head _) rfl) (fun y hy => by rw [List.mem_singleton.1 hy]; exact .head _) (brows_plain _) und_slbound i1 i2 i3 i4 rfl (by omega) (by simp [maxLen]; omega) (by omega) (fun S' s' w9 h9 ho' => ?_)
    repeat (first | refine pu_not ?_ | refine pu_eql ?_ | refine pu_neq ?_ | refine pu_lss ?_ | refine pu_leq ?_ | refine pu_gtr ?_ | refine pu_geq ?_ | refine pu_add ?_ | refine pu_sub ?_ | refine pu_mul ?_ | refine pu_neg ?_ | refine fa_at ?_ | refine nl_ptr ?_ | refine ex20 ?_ | refine ex21 ?_ | refine ex30 ?_ | refine ex31 ?_ | refine ex32 ?_ | refine ln_rule ?_ | refine lnT_rule ?_ | refine pu_and ?_ | refine pu_or ?_ | refine pu_xor ?_ | refine pu_seq ?_ | refine pu_sne ?_)
    rw [wrap64_in (by omega) (by omega)]
    refine ⟨⟨n + 1, S', s', rfl, hlt, ?_, Ow.drop (Ow.drop h9)⟩, by simp; omega⟩
    rw [hfm, ← List.append_assoc, brows_app, List.flatten_append, show 4 + 2 * (n + 1) = 4 + 2 * n + 2 by omega]
    exact ho'
  · obtain rfl : n = p.fs.length := by simp at hlt; omega
    rw [List.take_length] at ho
    have hcnt : (brows (numL p)).length = 4 + 2 * p.fs.length := by
      have := brows_flat_len (numL p)
      have h2 := ho.1
      have h3 : (brows (numL p)).length = (numL p).length := by simp [brows]
      have h4 : (brows (numL p)).flatten.length = (4 + 2 * p.fs.length) * 3 := h2
      omega
    have hsl : Sls S s 3 (brows (numL p)) := own_sls (brows_three _) (by rw [hcnt]; exact ho)
    have hnl : (numL p).length = 4 + 2 * p.fs.length := by rw [← hcnt]; simp [brows]
    refine within_spec h5 (hsl.mono fun x hx => List.mem_append_left _ hx) (by rw [hnl]; omega) (fun w6 h6 => ?_)
    exact k _ (h6.sub (((List.Sublist.refl H).cons _).trans (List.sublist_append_right S _)))
end
end Go.Proofs.YtkkkcafkepnecaaGreat
