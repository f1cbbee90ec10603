/- Locks: which are the same. -/
import Derived.Test.YtaifohjgamhhnaaVdQ
set_option linter.unusedVariables false
set_option linter.unusedSimpArgs false
namespace Go.Proofs.Ytaifohjgamhhnaa
open Go Go.RowKit Vc Vd
attribute [local irreducible] binV Op.unary convert nlW faW ldS ldW ixS ixA ixV ixT exW lnS lnT pu stW alW opW opU bsW mkW

section
variable {B w : World} {H X F F' : Hp} {K : Value → World → Prop} {PK : List PanicEntry → World → Prop} {KK : Value → Prop} {L L' : List Lk} {m m' b b' : Nat} {i y : Int} {s s' : Value}
theorem equal_spec {s s' : Value} {xs ys : List Int} (h : Ow B w H) (hs : Sl H s (iv xs)) (hs' : Sl H s' (iv ys)) (hx : xs.length < 2 ^ 62)
    (k : ∀ w', Ow B w' H → K (vB (decide (xs = ys))) w') : callW PG N.slices_Equal_sl_int_int [s, s'] K PK w := by
  refine slices_Equal_sl_int_int.ok ?_
  unfold slices_Equal_sl_int_int.C
  refine sl_ln hs ?_
  refine sl_ln hs' ?_
  rw [List.length_map, List.length_map]
  repeat (first | refine pu_not ?_ | refine pu_eql ?_ | refine pu_neq ?_ | refine pu_lss ?_ | refine pu_leq ?_ | refine pu_gtr ?_ | refine pu_geq ?_ | refine pu_add ?_ | refine pu_sub ?_ | refine pu_mul ?_ | refine pu_neg ?_ | refine fa_at ?_ | refine nl_ptr ?_ | refine ex20 ?_ | refine ex21 ?_ | refine ex30 ?_ | refine ex31 ?_ | refine ex32 ?_ | refine ln_rule ?_ | refine lnT_rule ?_ | refine pu_and ?_ | refine pu_or ?_ | refine pu_xor ?_ | refine pu_seq ?_ | refine pu_sne ?_)
  refine cnd (fun hne => ?_) (fun heq => ?_)
  · have e : decide (xs = ys) = false := by
      simp only [decide_eq_false_iff_not]
      rintro rfl
      simp at hne
    rw [e] at k; exact k _ h
  · have heq : xs.length = ys.length := by simp at heq; omega
    refine sl_ln hs ?_
    rw [List.length_map]
    refine ⟨fun l w => ∃ i : Nat, l = [vI i] ∧ i ≤ xs.length ∧ (∀ j, j < i → xs[j]? = ys[j]?) ∧ Ow B w H,
      fun l _ => match l with | [.int _ n] => xs.length - n.toNat | _ => 0, ⟨0, rfl, Nat.zero_le _, fun j hj => absurd hj (by omega), h⟩, ?_⟩
    rintro l w3 ⟨i, rfl, hi, hall, h3⟩ j
    repeat (first | refine pu_not ?_ | refine pu_eql ?_ | refine pu_neq ?_ | refine pu_lss ?_ | refine pu_leq ?_ | refine pu_gtr ?_ | refine pu_geq ?_ | refine pu_add ?_ | refine pu_sub ?_ | refine pu_mul ?_ | refine pu_neg ?_ | refine fa_at ?_ | refine nl_ptr ?_ | refine ex20 ?_ | refine ex21 ?_ | refine ex30 ?_ | refine ex31 ?_ | refine ex32 ?_ | refine ln_rule ?_ | refine lnT_rule ?_ | refine pu_and ?_ | refine pu_or ?_ | refine pu_xor ?_ | refine pu_seq ?_ | refine pu_sne ?_)
    refine cnd (fun hlt => ?_) (fun hlt => ?_)
    · have hlt : i < xs.length := by simpa using hlt
      refine ⟨fun w => Ow B w H, h3.drew, ?_⟩
      refine sl_lds (fun w h => h) hs (by omega) (by rw [Int.toNat_natCast]; exact iv_at hlt) ?_
      refine sl_lds (fun w h => h) hs' (by omega) (by rw [Int.toNat_natCast]; exact iv_at (heq ▸ hlt)) ?_
      repeat (first | refine pu_not ?_ | refine pu_eql ?_ | refine pu_neq ?_ | refine pu_lss ?_ | refine pu_leq ?_ | refine pu_gtr ?_ | refine pu_geq ?_ | refine pu_add ?_ | refine pu_sub ?_ | refine pu_mul ?_ | refine pu_neg ?_ | refine fa_at ?_ | refine nl_ptr ?_ | refine ex20 ?_ | refine ex21 ?_ | refine ex30 ?_ | refine ex31 ?_ | refine ex32 ?_ | refine ln_rule ?_ | refine lnT_rule ?_ | refine pu_and ?_ | refine pu_or ?_ | refine pu_xor ?_ | refine pu_seq ?_ | refine pu_sne ?_)
      refine cnd (fun hne => ?_) (fun he => ?_)
      · have e : decide (xs = ys) = false := by
          simp only [decide_eq_false_iff_not]
          rintro rfl
          simp at hne
        rw [e] at k; exact k _ h3.drew
      · have he : xs[i] = ys[i] := by simpa using he
        repeat (first | refine pu_not ?_ | refine pu_eql ?_ | refine pu_neq ?_ | refine pu_lss ?_ | refine pu_leq ?_ | refine pu_gtr ?_ | refine pu_geq ?_ | refine pu_add ?_ | refine pu_sub ?_ | refine pu_mul ?_ | refine pu_neg ?_ | refine fa_at ?_ | refine nl_ptr ?_ | refine ex20 ?_ | refine ex21 ?_ | refine ex30 ?_ | refine ex31 ?_ | refine ex32 ?_ | refine ln_rule ?_ | refine lnT_rule ?_ | refine pu_and ?_ | refine pu_or ?_ | refine pu_xor ?_ | refine pu_seq ?_ | refine pu_sne ?_)
        rw [wrap64_in (by omega) (by omega)]
        refine ⟨⟨i + 1, rfl, hlt, fun j hj => ?_, h3.drew⟩, by simp; omega⟩
        rcases Nat.lt_succ_iff_lt_or_eq.1 hj with hj | rfl
        · exact hall j hj
        · rw [List.getElem?_eq_getElem hlt, List.getElem?_eq_getElem (heq ▸ hlt), he]
    · have e : decide (xs = ys) = true := by
        simp only [decide_eq_true_eq]
        refine List.ext_getElem? fun j => ?_
        by_cases hj : j < xs.length
        · exact hall j (by simp at hlt; omega)
        · rw [List.getElem?_eq_none (by omega), List.getElem?_eq_none (by omega)]
      rw [e] at k; exact k _ h3
structure EntIn (H : Hp) (e : Ent) : Prop where
  sl : Sl H e.v (iv e.k.rd)
  pos : 0 ≤ e.k.wr
  len : e.k.rd.length < 2 ^ 62
  plain : e.cells.all plainV = true
theorem EntIn.mono {H' : Hp} {e : Ent} (h : EntIn H e) (hs : ∀ x, x ∈ H → x ∈ H') : EntIn H' e := ⟨h.sl.mono hs, h.pos, h.len, h.plain⟩
theorem same1_pf {e e' : Ent} (he : EntIn H e) (he' : EntIn H e') : PF PG B H (fnc N.rwlock_Same_1 #[]) [.agg e.cells.toArray, .agg e'.cells.toArray] (vB (decide (e.k = e'.k))) := fun X K PK w hw k => by
  refine callV_fn rwlock_Same_1.okf (rwlock_Same_1.ok ?_)
  unfold rwlock_Same_1.C
  refine al_rule hw (l := e.cells) rfl (fun b2 w1 h1 => ?_)
  refine al_rule h1 (l := e'.cells) rfl (fun b4 w2 h2 => ?_)
  have hne : e.k ≠ e'.k → decide (e.k = e'.k) = false := fun h => decide_eq_false h
  repeat (first | refine pu_not ?_ | refine pu_eql ?_ | refine pu_neq ?_ | refine pu_lss ?_ | refine pu_leq ?_ | refine pu_gtr ?_ | refine pu_geq ?_ | refine pu_add ?_ | refine pu_sub ?_ | refine pu_mul ?_ | refine pu_neg ?_ | refine fa_at ?_ | refine nl_ptr ?_ | refine ex20 ?_ | refine ex21 ?_ | refine ex30 ?_ | refine ex31 ?_ | refine ex32 ?_ | refine ln_rule ?_ | refine lnT_rule ?_ | refine pu_and ?_ | refine pu_or ?_ | refine pu_xor ?_ | refine pu_seq ?_ | refine pu_sne ?_)
  refine ld_here h2 (.tail _ (.head _)) (v := vB (decide (0 < e.k.wr))) rfl ?_
  repeat (first | refine pu_not ?_ | refine pu_eql ?_ | refine pu_neq ?_ | refine pu_lss ?_ | refine pu_leq ?_ | refine pu_gtr ?_ | refine pu_geq ?_ | refine pu_add ?_ | refine pu_sub ?_ | refine pu_mul ?_ | refine pu_neg ?_ | refine fa_at ?_ | refine nl_ptr ?_ | refine ex20 ?_ | refine ex21 ?_ | refine ex30 ?_ | refine ex31 ?_ | refine ex32 ?_ | refine ln_rule ?_ | refine lnT_rule ?_ | refine pu_and ?_ | refine pu_or ?_ | refine pu_xor ?_ | refine pu_seq ?_ | refine pu_sne ?_)
  refine ld_here h2 (.head _) (v := vB (decide (0 < e'.k.wr))) rfl ?_
  refine pu_beql und_bool ?_
  refine cnd (fun hq => ?_) (fun hq => ?_)
  · have hq : (0 < e.k.wr) ↔ (0 < e'.k.wr) := by simpa using hq
    repeat (first | refine pu_not ?_ | refine pu_eql ?_ | refine pu_neq ?_ | refine pu_lss ?_ | refine pu_leq ?_ | refine pu_gtr ?_ | refine pu_geq ?_ | refine pu_add ?_ | refine pu_sub ?_ | refine pu_mul ?_ | refine pu_neg ?_ | refine fa_at ?_ | refine nl_ptr ?_ | refine ex20 ?_ | refine ex21 ?_ | refine ex30 ?_ | refine ex31 ?_ | refine ex32 ?_ | refine ln_rule ?_ | refine lnT_rule ?_ | refine pu_and ?_ | refine pu_or ?_ | refine pu_xor ?_ | refine pu_seq ?_ | refine pu_sne ?_)
    refine ld_here h2 (.tail _ (.head _)) (v := vI (if 0 < e.k.wr then e.k.wr - 1 else 0)) rfl ?_
    repeat (first | refine pu_not ?_ | refine pu_eql ?_ | refine pu_neq ?_ | refine pu_lss ?_ | refine pu_leq ?_ | refine pu_gtr ?_ | refine pu_geq ?_ | refine pu_add ?_ | refine pu_sub ?_ | refine pu_mul ?_ | refine pu_neg ?_ | refine fa_at ?_ | refine nl_ptr ?_ | refine ex20 ?_ | refine ex21 ?_ | refine ex30 ?_ | refine ex31 ?_ | refine ex32 ?_ | refine ln_rule ?_ | refine lnT_rule ?_ | refine pu_and ?_ | refine pu_or ?_ | refine pu_xor ?_ | refine pu_seq ?_ | refine pu_sne ?_)
    refine ld_here h2 (.head _) (v := vI (if 0 < e'.k.wr then e'.k.wr - 1 else 0)) rfl ?_
    repeat (first | refine pu_not ?_ | refine pu_eql ?_ | refine pu_neq ?_ | refine pu_lss ?_ | refine pu_leq ?_ | refine pu_gtr ?_ | refine pu_geq ?_ | refine pu_add ?_ | refine pu_sub ?_ | refine pu_mul ?_ | refine pu_neg ?_ | refine fa_at ?_ | refine nl_ptr ?_ | refine ex20 ?_ | refine ex21 ?_ | refine ex30 ?_ | refine ex31 ?_ | refine ex32 ?_ | refine ln_rule ?_ | refine lnT_rule ?_ | refine pu_and ?_ | refine pu_or ?_ | refine pu_xor ?_ | refine pu_seq ?_ | refine pu_sne ?_)
    have p1 := he.pos
    have p2 := he'.pos
    refine cnd (fun hz => ?_) (fun hz => ?_)
    · have hz : e.k.wr = e'.k.wr := by
        have : (if 0 < e.k.wr then e.k.wr - 1 else 0) = (if 0 < e'.k.wr then e'.k.wr - 1 else 0) := by simpa using hz
        split at this <;> split at this <;> omega
      repeat (first | refine pu_not ?_ | refine pu_eql ?_ | refine pu_neq ?_ | refine pu_lss ?_ | refine pu_leq ?_ | refine pu_gtr ?_ | refine pu_geq ?_ | refine pu_add ?_ | refine pu_sub ?_ | refine pu_mul ?_ | refine pu_neg ?_ | refine fa_at ?_ | refine nl_ptr ?_ | refine ex20 ?_ | refine ex21 ?_ | refine ex30 ?_ | refine ex31 ?_ | refine ex32 ?_ | refine ln_rule ?_ | refine lnT_rule ?_ | refine pu_and ?_ | refine pu_or ?_ | refine pu_xor ?_ | refine pu_seq ?_ | refine pu_sne ?_)
      refine ld_here h2 (.tail _ (.head _)) (v := e.v) rfl ?_
      repeat (first | refine pu_not ?_ | refine pu_eql ?_ | refine pu_neq ?_ | refine pu_lss ?_ | refine pu_leq ?_ | refine pu_gtr ?_ | refine pu_geq ?_ | refine pu_add ?_ | refine pu_sub ?_ | refine pu_mul ?_ | refine pu_neg ?_ | refine fa_at ?_ | refine nl_ptr ?_ | refine ex20 ?_ | refine ex21 ?_ | refine ex30 ?_ | refine ex31 ?_ | refine ex32 ?_ | refine ln_rule ?_ | refine lnT_rule ?_ | refine pu_and ?_ | refine pu_or ?_ | refine pu_xor ?_ | refine pu_seq ?_ | refine pu_sne ?_)
      refine ld_here h2 (.head _) (v := e'.v) rfl ?_
      refine equal_spec h2 (he.sl.mono fun x hx => .tail _ (.tail _ (List.mem_append_right _ hx))) (he'.sl.mono fun x hx => .tail _ (.tail _ (List.mem_append_right _ hx))) he.len (fun w3 h3 => ?_)
      have e1 : decide (e.k.rd = e'.k.rd) = decide (e.k = e'.k) := by
        congr 1
        simp only [eq_iff_iff]
        constructor
        · intro h
          cases hk : e.k; cases hk' : e'.k
          rw [hk, hk'] at h hz
          simp at h hz
          rw [h, hz]
        · intro h; rw [h]
      rw [e1]
      exact k _ h3.drop.drop
    · have hz : e.k ≠ e'.k := by
        intro h; rw [h] at hz; simp at hz
      rw [hne hz] at k
      exact k _ h2.drop.drop
  · have hz : e.k ≠ e'.k := by
      intro h; rw [h] at hq; simp at hq
    rw [hne hz] at k
    exact k _ h2.drop.drop
theorem equalFunc_spec {es es' : List Ent} {t t' : List Value} {U U' : TypeId} (h : Ow B w H) (hm : (b, cel (lcells es ++ t) U) ∈ H) (hm' : (b', cel (lcells es' ++ t') U') ∈ H) (hl : es.length = 64) (hl' : es'.length = 64) (he : ∀ e ∈ es, EntIn H e) (he' : ∀ e ∈ es', EntIn H e)
    (k : ∀ w', Ow B w' H → K (vB (decide (es.map Ent.k = es'.map Ent.k))) w') : callW PG N.slices_EqualFunc_sl_rwlock_lock_sl_rwlock_lock_rwlock_lock_rwlock_lock [.slice (some ⟨b, 0, none⟩) 64 64, .slice (some ⟨b', 0, none⟩) 64 64, fnc N.rwlock_Same_1 #[]] K PK w := by
  refine slices_EqualFunc_sl_rwlock_lock_sl_rwlock_lock_rwlock_lock_rwlock_lock.ok ?_
  unfold slices_EqualFunc_sl_rwlock_lock_sl_rwlock_lock_rwlock_lock_rwlock_lock.C
  refine ln_rule ?_
  refine ln_rule ?_
  repeat (first | refine pu_not ?_ | refine pu_eql ?_ | refine pu_neq ?_ | refine pu_lss ?_ | refine pu_leq ?_ | refine pu_gtr ?_ | refine pu_geq ?_ | refine pu_add ?_ | refine pu_sub ?_ | refine pu_mul ?_ | refine pu_neg ?_ | refine fa_at ?_ | refine nl_ptr ?_ | refine ex20 ?_ | refine ex21 ?_ | refine ex30 ?_ | refine ex31 ?_ | refine ex32 ?_ | refine ln_rule ?_ | refine lnT_rule ?_ | refine pu_and ?_ | refine pu_or ?_ | refine pu_xor ?_ | refine pu_seq ?_ | refine pu_sne ?_)
  refine cnd_f rfl ?_
  refine ln_rule ?_
  refine ⟨fun l w => ∃ i : Nat, l = [vI i] ∧ i ≤ 64 ∧ (∀ j, j < i → (es.map Ent.k)[j]? = (es'.map Ent.k)[j]?) ∧ Ow B w H, fun l _ => match l with | [.int _ n] => 64 - n.toNat | _ => 0, ⟨0, rfl, Nat.zero_le _, fun j hj => absurd hj (by omega), h⟩, ?_⟩
  rintro l w3 ⟨i, rfl, hi, hall, h3⟩ j
  repeat (first | refine pu_not ?_ | refine pu_eql ?_ | refine pu_neq ?_ | refine pu_lss ?_ | refine pu_leq ?_ | refine pu_gtr ?_ | refine pu_geq ?_ | refine pu_add ?_ | refine pu_sub ?_ | refine pu_mul ?_ | refine pu_neg ?_ | refine fa_at ?_ | refine nl_ptr ?_ | refine ex20 ?_ | refine ex21 ?_ | refine ex30 ?_ | refine ex31 ?_ | refine ex32 ?_ | refine ln_rule ?_ | refine lnT_rule ?_ | refine pu_and ?_ | refine pu_or ?_ | refine pu_xor ?_ | refine pu_seq ?_ | refine pu_sne ?_)
  refine cnd (fun hlt => ?_) (fun hlt => ?_)
  · have hlt : i < 64 := by simp at hlt; omega
    obtain ⟨e, e1⟩ : ∃ e, es[i]? = some e := ⟨_, List.getElem?_eq_getElem (by omega)⟩
    obtain ⟨e', e2⟩ : ∃ e, es'[i]? = some e := ⟨_, List.getElem?_eq_getElem (by omega)⟩
    have q1 := he e (List.mem_of_getElem? e1)
    have q2 := he' e' (List.mem_of_getElem? e2)
    refine ixS_at (by omega) (by omega) ?_
    refine ldn_here h3 hm (vs := e.cells) (by rw [Nat.zero_add, Int.toNat_natCast]; exact cells_at e1) rfl ?_
    refine al_rule h3 (l := [.slice none 0 0, vI 0, vB false]) (by kernel_rfl) (fun bx w4 h4 => ?_)
    refine st_here (A := []) h4 e.cells rfl rfl q1.plain (by simp) (fun w5 h5 => ?_)
    simp only [List.take_zero, List.nil_append, Nat.zero_add, List.drop_succ_cons, List.drop_zero, List.drop_nil, List.append_nil] at h5
    refine ixS_at (by omega) (by omega) ?_
    refine ldn_here h5 (.tail _ hm') (vs := e'.cells) (by rw [Nat.zero_add, Int.toNat_natCast]; exact cells_at e2) rfl ?_
    refine al_rule h5 (l := [.slice none 0 0, vI 0, vB false]) (by kernel_rfl) (fun by' w6 h6 => ?_)
    refine st_here (A := []) h6 e'.cells rfl rfl q2.plain (by simp) (fun w7 h7 => ?_)
    simp only [List.take_zero, List.nil_append, Nat.zero_add, List.drop_succ_cons, List.drop_zero, List.drop_nil, List.append_nil] at h7
    refine ldn_here h7 (.tail _ (.head _)) (vs := e.cells) (by rw [List.drop_zero]; rfl) rfl ?_
    refine ldn_here h7 (.head _) (vs := e'.cells) (by rw [List.drop_zero]; rfl) rfl ?_
    refine same1_pf q1 q2 [_, _] _ _ _ h7 (fun w8 h8 => ?_)
    have h8 : Ow B w8 H := Ow.drop (Ow.drop h8)
    repeat (first | refine pu_not ?_ | refine pu_eql ?_ | refine pu_neq ?_ | refine pu_lss ?_ | refine pu_leq ?_ | refine pu_gtr ?_ | refine pu_geq ?_ | refine pu_add ?_ | refine pu_sub ?_ | refine pu_mul ?_ | refine pu_neg ?_ | refine fa_at ?_ | refine nl_ptr ?_ | refine ex20 ?_ | refine ex21 ?_ | refine ex30 ?_ | refine ex31 ?_ | refine ex32 ?_ | refine ln_rule ?_ | refine lnT_rule ?_ | refine pu_and ?_ | refine pu_or ?_ | refine pu_xor ?_ | refine pu_seq ?_ | refine pu_sne ?_)
    have g1 : (es.map Ent.k)[i]? = some e.k := by rw [List.getElem?_map, e1]; rfl
    have g2 : (es'.map Ent.k)[i]? = some e'.k := by rw [List.getElem?_map, e2]; rfl
    refine cnd (fun hn => ?_) (fun hn => ?_)
    · have hn : ¬ e.k = e'.k := by simpa using hn
      have : decide (es.map Ent.k = es'.map Ent.k) = false := decide_eq_false fun h => by
        rw [h, g2] at g1
        exact hn (Option.some.inj g1).symm
      rw [this] at k
      exact k _ h8
    · have hn : e.k = e'.k := by simpa using hn
      repeat (first | refine pu_not ?_ | refine pu_eql ?_ | refine pu_neq ?_ | refine pu_lss ?_ | refine pu_leq ?_ | refine pu_gtr ?_ | refine pu_geq ?_ | refine pu_add ?_ | refine pu_sub ?_ | refine pu_mul ?_ | refine pu_neg ?_ | refine fa_at ?_ | refine nl_ptr ?_ | refine ex20 ?_ | refine ex21 ?_ | refine ex30 ?_ | refine ex31 ?_ | refine ex32 ?_ | refine ln_rule ?_ | refine lnT_rule ?_ | refine pu_and ?_ | refine pu_or ?_ | refine pu_xor ?_ | refine pu_seq ?_ | refine pu_sne ?_)
      rw [wrap64_in (by omega) (by omega)]
      refine ⟨⟨i + 1, rfl, hlt, fun j hj => ?_, h8⟩, by simp; omega⟩
      rcases Nat.lt_succ_iff_lt_or_eq.1 hj with hj | rfl
      · exact hall j hj
      · rw [g1, g2, hn]
  · have : decide (es.map Ent.k = es'.map Ent.k) = true := by
      simp only [decide_eq_true_eq]
      refine List.ext_getElem? fun j => ?_
      by_cases hj : j < 64
      · exact hall j (by simp at hlt; omega)
      · rw [List.getElem?_eq_none (by simp; omega), List.getElem?_eq_none (by simp; omega)]
    rw [this] at k
    exact k _ h3
theorem full_inj (hl : L.length = L'.length) : full L = full L' ↔ L = L' := by
  constructor
  · intro h
    unfold full at h
    exact (List.append_inj h hl).1
  · rintro rfl; rfl
theorem LP.ents (lp : LP L m b F) (hm : m < 1000000) : ∃ es : List Ent, es.length = 64 ∧ (b, obj es L.length) ∈ F ∧ es.map Ent.k = full L ∧ ∀ e ∈ es, EntIn F e := by
  obtain ⟨es, q2, q3, q4, rfl⟩ := lp
  refine ⟨es, es_len q2 q4, .head _, q2, fun e he => ?_⟩
  have hk : e.k ∈ full L := by rw [← q2]; exact List.mem_map_of_mem he
  have hsl : RdS T.t_int e.S e.v (iv e.k.rd) := q3 e he
  have hb : 0 ≤ e.k.wr ∧ e.k.rd.length < 2 ^ 62 := by
    rcases List.mem_append.1 hk with h | h
    · have := q4.ks _ h; omega
    · obtain ⟨_, h⟩ := List.mem_replicate.1 h; rw [h]; simp [emp]
  exact ⟨hsl.sl.mono fun x hx => .tail _ (List.mem_flatMap.2 ⟨e, he, hx⟩), hb.1, hb.2, cells_plain (q3 e he)⟩
theorem same_spec (lp : LP L m b F) (lp' : LP L' m' b' F') (hm : m < 1000000) (hm' : m' < 1000000) (hF : ∀ x, x ∈ F → x ∈ H) (hF' : ∀ x, x ∈ F' → x ∈ H) (h : Ow B w H) (k : ∀ w', Ow B w' H → K (vB (decide (L = L'))) w') : callW PG N.rwlock_Same [ptr b, ptr b'] K PK w := by
  refine rwlock_Same.ok ?_
  unfold rwlock_Same.C
  refine none_spec lp h hF (fun w1 h1 => ?_)
  refine cnd_f rfl ?_
  refine none_spec lp' h1 hF' (fun w2 h2 => ?_)
  refine cnd_f rfl ?_
  obtain ⟨es, l1, m1, k1, in1⟩ := lp.ents hm
  obtain ⟨es', l2, m2, k2, in2⟩ := lp'.ents hm'
  refine ⟨fun w => Ow B w H, h2.drew, ?_⟩
  repeat (first | refine pu_not ?_ | refine pu_eql ?_ | refine pu_neq ?_ | refine pu_lss ?_ | refine pu_leq ?_ | refine pu_gtr ?_ | refine pu_geq ?_ | refine pu_add ?_ | refine pu_sub ?_ | refine pu_mul ?_ | refine pu_neg ?_ | refine fa_at ?_ | refine nl_ptr ?_ | refine ex20 ?_ | refine ex21 ?_ | refine ex30 ?_ | refine ex31 ?_ | refine ex32 ?_ | refine ln_rule ?_ | refine lnT_rule ?_ | refine pu_and ?_ | refine pu_or ?_ | refine pu_xor ?_ | refine pu_seq ?_ | refine pu_sne ?_)
  refine lds_here (fun w h => h) (hF _ m1) (by simpa using at_many l1) ?_
  repeat (first | refine pu_not ?_ | refine pu_eql ?_ | refine pu_neq ?_ | refine pu_lss ?_ | refine pu_leq ?_ | refine pu_gtr ?_ | refine pu_geq ?_ | refine pu_add ?_ | refine pu_sub ?_ | refine pu_mul ?_ | refine pu_neg ?_ | refine fa_at ?_ | refine nl_ptr ?_ | refine ex20 ?_ | refine ex21 ?_ | refine ex30 ?_ | refine ex31 ?_ | refine ex32 ?_ | refine ln_rule ?_ | refine lnT_rule ?_ | refine pu_and ?_ | refine pu_or ?_ | refine pu_xor ?_ | refine pu_seq ?_ | refine pu_sne ?_)
  refine lds_here (fun w h => h) (hF' _ m2) (by simpa using at_many l2) ?_
  repeat (first | refine pu_not ?_ | refine pu_eql ?_ | refine pu_neq ?_ | refine pu_lss ?_ | refine pu_leq ?_ | refine pu_gtr ?_ | refine pu_geq ?_ | refine pu_add ?_ | refine pu_sub ?_ | refine pu_mul ?_ | refine pu_neg ?_ | refine fa_at ?_ | refine nl_ptr ?_ | refine ex20 ?_ | refine ex21 ?_ | refine ex30 ?_ | refine ex31 ?_ | refine ex32 ?_ | refine ln_rule ?_ | refine lnT_rule ?_ | refine pu_and ?_ | refine pu_or ?_ | refine pu_xor ?_ | refine pu_seq ?_ | refine pu_sne ?_)
  refine cnd (fun hq => ?_) (fun hq => ?_)
  · have hq : L.length = L'.length := by simp [ibeq] at hq; omega
    repeat (first | refine pu_not ?_ | refine pu_eql ?_ | refine pu_neq ?_ | refine pu_lss ?_ | refine pu_leq ?_ | refine pu_gtr ?_ | refine pu_geq ?_ | refine pu_add ?_ | refine pu_sub ?_ | refine pu_mul ?_ | refine pu_neg ?_ | refine fa_at ?_ | refine nl_ptr ?_ | refine ex20 ?_ | refine ex21 ?_ | refine ex30 ?_ | refine ex31 ?_ | refine ex32 ?_ | refine ln_rule ?_ | refine lnT_rule ?_ | refine pu_and ?_ | refine pu_or ?_ | refine pu_xor ?_ | refine pu_seq ?_ | refine pu_sne ?_)
    refine sl64 ?_
    repeat (first | refine pu_not ?_ | refine pu_eql ?_ | refine pu_neq ?_ | refine pu_lss ?_ | refine pu_leq ?_ | refine pu_gtr ?_ | refine pu_geq ?_ | refine pu_add ?_ | refine pu_sub ?_ | refine pu_mul ?_ | refine pu_neg ?_ | refine fa_at ?_ | refine nl_ptr ?_ | refine ex20 ?_ | refine ex21 ?_ | refine ex30 ?_ | refine ex31 ?_ | refine ex32 ?_ | refine ln_rule ?_ | refine lnT_rule ?_ | refine pu_and ?_ | refine pu_or ?_ | refine pu_xor ?_ | refine pu_seq ?_ | refine pu_sne ?_)
    refine sl64 ?_
    refine equalFunc_spec h2.drew (hF _ m1) (hF' _ m2) l1 l2 (fun e he => (in1 e he).mono hF) (fun e he => (in2 e he).mono hF') (fun w3 h3 => ?_)
    rw [k1, k2]
    have : decide (full L = full L') = decide (L = L') := by
      congr 1
      exact propext (full_inj hq)
    rw [this]
    exact k _ h3
  · have : decide (L = L') = false := decide_eq_false fun h => by rw [h] at hq; simp at hq
    rw [this] at k
    exact k _ h2.drew
theorem refSame_spec (h : Ow B w H) (hr : rl H s L) (hr' : rl H s' L') (hw : Wf m L) (hm : m < 1000000) (k : ∀ w', Ow B w' H → K (vB (decide (L = L'))) w') : callW PG N.linesmanref14_Same [.agg #[s], .agg #[s']] K PK w := by
  refine linesmanref14_Same.ok ?_
  unfold linesmanref14_Same.C
  refine al_rule h (l := [s]) rfl (fun b2 w1 h1 => ?_)
  refine al_rule h1 (l := [s']) rfl (fun b4 w2 h2 => ?_)
  have hlen := hw.len
  repeat (first | refine pu_not ?_ | refine pu_eql ?_ | refine pu_neq ?_ | refine pu_lss ?_ | refine pu_leq ?_ | refine pu_gtr ?_ | refine pu_geq ?_ | refine pu_add ?_ | refine pu_sub ?_ | refine pu_mul ?_ | refine pu_neg ?_ | refine fa_at ?_ | refine nl_ptr ?_ | refine ex20 ?_ | refine ex21 ?_ | refine ex30 ?_ | refine ex31 ?_ | refine ex32 ?_ | refine ln_rule ?_ | refine lnT_rule ?_ | refine pu_and ?_ | refine pu_or ?_ | refine pu_xor ?_ | refine pu_seq ?_ | refine pu_sne ?_)
  refine ld_here h2 (.tail _ (.head _)) rfl ?_
  refine rl.ln hr ?_
  repeat (first | refine pu_not ?_ | refine pu_eql ?_ | refine pu_neq ?_ | refine pu_lss ?_ | refine pu_leq ?_ | refine pu_gtr ?_ | refine pu_geq ?_ | refine pu_add ?_ | refine pu_sub ?_ | refine pu_mul ?_ | refine pu_neg ?_ | refine fa_at ?_ | refine nl_ptr ?_ | refine ex20 ?_ | refine ex21 ?_ | refine ex30 ?_ | refine ex31 ?_ | refine ex32 ?_ | refine ln_rule ?_ | refine lnT_rule ?_ | refine pu_and ?_ | refine pu_or ?_ | refine pu_xor ?_ | refine pu_seq ?_ | refine pu_sne ?_)
  refine ld_here h2 (.head _) rfl ?_
  refine rl.ln hr' ?_
  repeat (first | refine pu_not ?_ | refine pu_eql ?_ | refine pu_neq ?_ | refine pu_lss ?_ | refine pu_leq ?_ | refine pu_gtr ?_ | refine pu_geq ?_ | refine pu_add ?_ | refine pu_sub ?_ | refine pu_mul ?_ | refine pu_neg ?_ | refine fa_at ?_ | refine nl_ptr ?_ | refine ex20 ?_ | refine ex21 ?_ | refine ex30 ?_ | refine ex31 ?_ | refine ex32 ?_ | refine ln_rule ?_ | refine lnT_rule ?_ | refine pu_and ?_ | refine pu_or ?_ | refine pu_xor ?_ | refine pu_seq ?_ | refine pu_sne ?_)
  refine cnd (fun hne => ?_) (fun heq => ?_)
  · have e : decide (L = L') = false := decide_eq_false fun h => by rw [h] at hne; simp at hne
    rw [e] at k; exact k _ h2.drop.drop
  have heq : L.length = L'.length := by simp at heq; omega
  refine ⟨fun l w => ∃ i : Nat, l = [vI i] ∧ i ≤ L.length ∧ (∀ j, j < i → L[j]? = L'[j]?) ∧ Ow B w ((b4, cel [s'] T.t_linesmanref14_Locks) :: (b2, cel [s] T.t_linesmanref14_Locks) :: H),
    fun l _ => match l with | [.int _ n] => L.length - n.toNat | _ => 0, ⟨0, rfl, Nat.zero_le _, fun j hj => absurd hj (by omega), h2⟩, ?_⟩
  rintro l w3 ⟨i, rfl, hi, hall, h3⟩ j
  repeat (first | refine pu_not ?_ | refine pu_eql ?_ | refine pu_neq ?_ | refine pu_lss ?_ | refine pu_leq ?_ | refine pu_gtr ?_ | refine pu_geq ?_ | refine pu_add ?_ | refine pu_sub ?_ | refine pu_mul ?_ | refine pu_neg ?_ | refine fa_at ?_ | refine nl_ptr ?_ | refine ex20 ?_ | refine ex21 ?_ | refine ex30 ?_ | refine ex31 ?_ | refine ex32 ?_ | refine ln_rule ?_ | refine lnT_rule ?_ | refine pu_and ?_ | refine pu_or ?_ | refine pu_xor ?_ | refine pu_seq ?_ | refine pu_sne ?_)
  refine ld_here h3 (.tail _ (.head _)) rfl ?_
  refine rl.ln hr ?_
  repeat (first | refine pu_not ?_ | refine pu_eql ?_ | refine pu_neq ?_ | refine pu_lss ?_ | refine pu_leq ?_ | refine pu_gtr ?_ | refine pu_geq ?_ | refine pu_add ?_ | refine pu_sub ?_ | refine pu_mul ?_ | refine pu_neg ?_ | refine fa_at ?_ | refine nl_ptr ?_ | refine ex20 ?_ | refine ex21 ?_ | refine ex30 ?_ | refine ex31 ?_ | refine ex32 ?_ | refine ln_rule ?_ | refine lnT_rule ?_ | refine pu_and ?_ | refine pu_or ?_ | refine pu_xor ?_ | refine pu_seq ?_ | refine pu_sne ?_)
  refine cnd (fun hlt => ?_) (fun hlt => ?_)
  · have hlt : i < L.length := by simpa using hlt
    obtain ⟨ps, v, p1, p2, p3, p4, p5⟩ := rl.at hr (i := (i : Int)) (by omega) (by omega)
    obtain ⟨ps', v', p1', p2', p3', p4', p5'⟩ := rl.at hr' (i := (i : Int)) (by omega) (by omega)
    have c1 : Sls ((b4, cel [s'] T.t_linesmanref14_Locks) :: (b2, cel [s] T.t_linesmanref14_Locks) :: H) s 2 (rows ps) := Sls.mono p2 fun x hx => .tail _ (.tail _ hx)
    have c2 : Sls ((b4, cel [s'] T.t_linesmanref14_Locks) :: (b2, cel [s] T.t_linesmanref14_Locks) :: H) s' 2 (rows ps') := Sls.mono p2' fun x hx => .tail _ (.tail _ hx)
    have g1 : L[i]? = some (gk L i) := by have := lk_some (L := L) (i := (i : Int)) (by omega) (by omega); rwa [Int.toNat_natCast] at this
    have g2 : L'[i]? = some (gk L' i) := by have := lk_some (L := L') (i := (i : Int)) (by omega) (by omega); rwa [Int.toNat_natCast] at this
    have hno : gk L i ≠ gk L' i → decide (L = L') = false := fun h => decide_eq_false fun h2 => h (by rw [h2])
    have hks := hw.ks _ (lk_mem (i := (i : Int)) (by omega) (by omega))
    refine ⟨fun w => Ow B w ((b4, cel [s'] T.t_linesmanref14_Locks) :: (b2, cel [s] T.t_linesmanref14_Locks) :: H), h3.drew, ?_⟩
    repeat (first | refine pu_not ?_ | refine pu_eql ?_ | refine pu_neq ?_ | refine pu_lss ?_ | refine pu_leq ?_ | refine pu_gtr ?_ | refine pu_geq ?_ | refine pu_add ?_ | refine pu_sub ?_ | refine pu_mul ?_ | refine pu_neg ?_ | refine fa_at ?_ | refine nl_ptr ?_ | refine ex20 ?_ | refine ex21 ?_ | refine ex30 ?_ | refine ex31 ?_ | refine ex32 ?_ | refine ln_rule ?_ | refine lnT_rule ?_ | refine pu_and ?_ | refine pu_or ?_ | refine pu_xor ?_ | refine pu_seq ?_ | refine pu_sne ?_)
    refine lds_here (fun w h => h) (.tail _ (.head _)) rfl ?_
    refine sls_flds (fun w h => h) c1 (by omega) p4 (v := vI (gk L i).wr) rfl ?_
    repeat (first | refine pu_not ?_ | refine pu_eql ?_ | refine pu_neq ?_ | refine pu_lss ?_ | refine pu_leq ?_ | refine pu_gtr ?_ | refine pu_geq ?_ | refine pu_add ?_ | refine pu_sub ?_ | refine pu_mul ?_ | refine pu_neg ?_ | refine fa_at ?_ | refine nl_ptr ?_ | refine ex20 ?_ | refine ex21 ?_ | refine ex30 ?_ | refine ex31 ?_ | refine ex32 ?_ | refine ln_rule ?_ | refine lnT_rule ?_ | refine pu_and ?_ | refine pu_or ?_ | refine pu_xor ?_ | refine pu_seq ?_ | refine pu_sne ?_)
    refine lds_here (fun w h => h) (.head _) rfl ?_
    refine sls_flds (fun w h => h) c2 (by omega) p4' (v := vI (gk L' i).wr) rfl ?_
    repeat (first | refine pu_not ?_ | refine pu_eql ?_ | refine pu_neq ?_ | refine pu_lss ?_ | refine pu_leq ?_ | refine pu_gtr ?_ | refine pu_geq ?_ | refine pu_add ?_ | refine pu_sub ?_ | refine pu_mul ?_ | refine pu_neg ?_ | refine fa_at ?_ | refine nl_ptr ?_ | refine ex20 ?_ | refine ex21 ?_ | refine ex30 ?_ | refine ex31 ?_ | refine ex32 ?_ | refine ln_rule ?_ | refine lnT_rule ?_ | refine pu_and ?_ | refine pu_or ?_ | refine pu_xor ?_ | refine pu_seq ?_ | refine pu_sne ?_)
    refine cnd (fun hq => ?_) (fun hq => ?_)
    · rw [hno (fun h => by rw [h] at hq; simp at hq)] at k
      exact k _ h3.drew.drop.drop
    have hq : (gk L i).wr = (gk L' i).wr := by simpa using hq
    repeat (first | refine pu_not ?_ | refine pu_eql ?_ | refine pu_neq ?_ | refine pu_lss ?_ | refine pu_leq ?_ | refine pu_gtr ?_ | refine pu_geq ?_ | refine pu_add ?_ | refine pu_sub ?_ | refine pu_mul ?_ | refine pu_neg ?_ | refine fa_at ?_ | refine nl_ptr ?_ | refine ex20 ?_ | refine ex21 ?_ | refine ex30 ?_ | refine ex31 ?_ | refine ex32 ?_ | refine ln_rule ?_ | refine lnT_rule ?_ | refine pu_and ?_ | refine pu_or ?_ | refine pu_xor ?_ | refine pu_seq ?_ | refine pu_sne ?_)
    refine lds_here (fun w h => h) (.tail _ (.head _)) rfl ?_
    refine sls_flds (fun w h => h) c1 (by omega) p4 (v := v) rfl ?_
    repeat (first | refine pu_not ?_ | refine pu_eql ?_ | refine pu_neq ?_ | refine pu_lss ?_ | refine pu_leq ?_ | refine pu_gtr ?_ | refine pu_geq ?_ | refine pu_add ?_ | refine pu_sub ?_ | refine pu_mul ?_ | refine pu_neg ?_ | refine fa_at ?_ | refine nl_ptr ?_ | refine ex20 ?_ | refine ex21 ?_ | refine ex30 ?_ | refine ex31 ?_ | refine ex32 ?_ | refine ln_rule ?_ | refine lnT_rule ?_ | refine pu_and ?_ | refine pu_or ?_ | refine pu_xor ?_ | refine pu_seq ?_ | refine pu_sne ?_)
    refine lds_here (fun w h => h) (.head _) rfl ?_
    refine sls_flds (fun w h => h) c2 (by omega) p4' (v := v') rfl ?_
    refine ints_spec h3.drew (p5.mono fun x hx => .tail _ (.tail _ hx)) (p5'.mono fun x hx => .tail _ (.tail _ hx)) (by omega) (fun w4 h4 => ?_)
    refine ⟨h4, ?_⟩
    repeat (first | refine pu_not ?_ | refine pu_eql ?_ | refine pu_neq ?_ | refine pu_lss ?_ | refine pu_leq ?_ | refine pu_gtr ?_ | refine pu_geq ?_ | refine pu_add ?_ | refine pu_sub ?_ | refine pu_mul ?_ | refine pu_neg ?_ | refine fa_at ?_ | refine nl_ptr ?_ | refine ex20 ?_ | refine ex21 ?_ | refine ex30 ?_ | refine ex31 ?_ | refine ex32 ?_ | refine ln_rule ?_ | refine lnT_rule ?_ | refine pu_and ?_ | refine pu_or ?_ | refine pu_xor ?_ | refine pu_seq ?_ | refine pu_sne ?_)
    refine cnd (fun hd => ?_) (fun hd => ?_)
    · rw [hno (fun h => by rw [h] at hd; simp at hd)] at k
      exact k _ h4.drop.drop
    have hd : (gk L i).rd = (gk L' i).rd := by simpa using hd
    have hg : gk L i = gk L' i := by
      cases hk : gk L i; cases hk' : gk L' i
      rw [hk, hk'] at hd hq
      simp at hd hq
      rw [hd, hq]
    repeat (first | refine pu_not ?_ | refine pu_eql ?_ | refine pu_neq ?_ | refine pu_lss ?_ | refine pu_leq ?_ | refine pu_gtr ?_ | refine pu_geq ?_ | refine pu_add ?_ | refine pu_sub ?_ | refine pu_mul ?_ | refine pu_neg ?_ | refine fa_at ?_ | refine nl_ptr ?_ | refine ex20 ?_ | refine ex21 ?_ | refine ex30 ?_ | refine ex31 ?_ | refine ex32 ?_ | refine ln_rule ?_ | refine lnT_rule ?_ | refine pu_and ?_ | refine pu_or ?_ | refine pu_xor ?_ | refine pu_seq ?_ | refine pu_sne ?_)
    rw [wrap64_in (by omega) (by omega)]
    refine ⟨⟨i + 1, rfl, hlt, fun j hj => ?_, h4⟩, by simp; omega⟩
    rcases Nat.lt_succ_iff_lt_or_eq.1 hj with hj | rfl
    · exact hall j hj
    · rw [g1, g2, hg]
  · have e : decide (L = L') = true := by
      simp only [decide_eq_true_eq]
      refine List.ext_getElem? fun j => ?_
      by_cases hj : j < L.length
      · exact hall j (by simp at hlt; omega)
      · rw [List.getElem?_eq_none (by omega), List.getElem?_eq_none (by omega)]
    rw [e] at k; exact k _ h3.drop.drop
end
end Go.Proofs.Ytaifohjgamhhnaa
