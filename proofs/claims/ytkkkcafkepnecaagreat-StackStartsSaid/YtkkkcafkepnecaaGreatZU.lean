/- Stacks: which are the same. -/
import Derived.Test.YtkkkcafkepnecaaGreatZE
import Derived.Test.YtkkkcafkepnecaaGreatFU

set_option linter.unusedVariables false
set_option linter.unusedSimpArgs false
namespace Go.Proofs.YtkkkcafkepnecaaGreat
open Go Go.RowKit Vc Ar
attribute [local irreducible] binV Op.unary convert nlW faW ldS ldW ixS ixA ixV ixT exW lnS lnT pu stW alW opW opU bsW mkW

section
variable {B w : World} {H X F F' Q R : Hp} {K : Value → World → Prop} {PK : List PanicEntry → World → Prop} {KK : Value → Prop} {p : Pr} {s s' : SK} {m n : Frm} {c d : Value} {L L' : List (Value × Frm)}
theorem rgs_get {l : List Int} {n : Nat} (h : n < l.length) : (rgs l)[(n : Int).toNat]? = some (vU l[n]) := by
  rw [Int.toNat_natCast, List.getElem?_map, List.getElem?_eq_getElem h]; rfl
theorem equalU_spec {s s' : Value} {xs ys : List Int} (h : Ow B w H) (hs : Sl H s (rgs xs)) (hs' : Sl H s' (rgs ys)) (hmax : xs.length ≤ 1000000) (k : ∀ w', Ow B w' H → K (vB (decide (xs = ys))) w') : callW PG N.slices_Equal_sl_uint32_uint32 [s, s'] K PK w := by
  refine slices_Equal_sl_uint32_uint32.ok ?_
  unfold slices_Equal_sl_uint32_uint32.C
  have hl : ∀ l : List Int, (rgs l).length = l.length := fun l => List.length_map _
  refine sl_ln hs ?_
  refine sl_ln hs' ?_
  rw [hl, hl]
  repeat (first | refine pu_not ?_ | refine pu_eql ?_ | refine pu_neq ?_ | refine pu_lss ?_ | refine pu_leq ?_ | refine pu_gtr ?_ | refine pu_geq ?_ | refine pu_add ?_ | refine pu_sub ?_ | refine pu_mul ?_ | refine pu_neg ?_ | refine fa_at ?_ | refine nl_ptr ?_ | refine ex20 ?_ | refine ex21 ?_ | refine ex30 ?_ | refine ex31 ?_ | refine ex32 ?_ | refine ln_rule ?_ | refine lnT_rule ?_ | refine pu_and ?_ | refine pu_or ?_ | refine pu_xor ?_ | refine pu_seq ?_ | refine pu_sne ?_)
  refine cnd (fun hne => ?_) (fun heq => ?_)
  · have e : decide (xs = ys) = false := by
      simp only [decide_eq_false_iff_not]
      rintro rfl
      simp at hne
    rw [e] at k; exact k _ h
  · have heq : xs.length = ys.length := by simp at heq; omega
    refine sl_ln hs ?_
    rw [hl]
    refine ⟨fun l w => ∃ i : Nat, l = [vI i] ∧ i ≤ xs.length ∧ (∀ j, j < i → xs[j]? = ys[j]?) ∧ Ow B w H,
      fun l _ => match l with | [.int _ n] => xs.length - n.toNat | _ => 0, ⟨0, rfl, Nat.zero_le _, fun j hj => absurd hj (by omega), h⟩, ?_⟩
    rintro l w3 ⟨i, rfl, hi, hall, h3⟩ j
    repeat (first | refine pu_not ?_ | refine pu_eql ?_ | refine pu_neq ?_ | refine pu_lss ?_ | refine pu_leq ?_ | refine pu_gtr ?_ | refine pu_geq ?_ | refine pu_add ?_ | refine pu_sub ?_ | refine pu_mul ?_ | refine pu_neg ?_ | refine fa_at ?_ | refine nl_ptr ?_ | refine ex20 ?_ | refine ex21 ?_ | refine ex30 ?_ | refine ex31 ?_ | refine ex32 ?_ | refine ln_rule ?_ | refine lnT_rule ?_ | refine pu_and ?_ | refine pu_or ?_ | refine pu_xor ?_ | refine pu_seq ?_ | refine pu_sne ?_)
    refine cnd (fun hlt => ?_) (fun hlt => ?_)
    · have hlt : i < xs.length := by simpa using hlt
      refine ⟨fun w => Ow B w H, h3.drew, ?_⟩
      refine sl_lds (fun w h => h) hs (by omega) (rgs_get hlt) ?_
      refine sl_lds (fun w h => h) hs' (by omega) (rgs_get (heq ▸ hlt)) ?_
      repeat (first | refine pu_not ?_ | refine pu_eql ?_ | refine pu_neq ?_ | refine pu_lss ?_ | refine pu_leq ?_ | refine pu_gtr ?_ | refine pu_geq ?_ | refine pu_add ?_ | refine pu_sub ?_ | refine pu_mul ?_ | refine pu_neg ?_ | refine fa_at ?_ | refine nl_ptr ?_ | refine ex20 ?_ | refine ex21 ?_ | refine ex30 ?_ | refine ex31 ?_ | refine ex32 ?_ | refine ln_rule ?_ | refine lnT_rule ?_ | refine pu_and ?_ | refine pu_or ?_ | refine pu_xor ?_ | refine pu_seq ?_ | refine pu_sne ?_)
      refine cnd (fun hne => ?_) (fun he => ?_)
      · have e : decide (xs = ys) = false := by
          simp only [decide_eq_false_iff_not]
          rintro rfl
          simp at hne
        rw [e] at k; exact k _ h3.drew
      · have he : xs[i] = ys[i] := by simpa using he
        repeat (first | refine pu_not ?_ | refine pu_eql ?_ | refine pu_neq ?_ | refine pu_lss ?_ | refine pu_leq ?_ | refine pu_gtr ?_ | refine pu_geq ?_ | refine pu_add ?_ | refine pu_sub ?_ | refine pu_mul ?_ | refine pu_neg ?_ | refine fa_at ?_ | refine nl_ptr ?_ | refine ex20 ?_ | refine ex21 ?_ | refine ex30 ?_ | refine ex31 ?_ | refine ex32 ?_ | refine ln_rule ?_ | refine lnT_rule ?_ | refine pu_and ?_ | refine pu_or ?_ | refine pu_xor ?_ | refine pu_seq ?_ | refine pu_sne ?_)
        rw [wrap64_in (by omega) (by omega)]
        refine ⟨⟨i + 1, rfl, hlt, fun j hj => ?_, h3.drew⟩, by simp; omega⟩
        rcases Nat.lt_succ_iff_lt_or_eq.1 hj with hj | rfl
        · exact hall j hj
        · rw [List.getElem?_eq_getElem hlt, List.getElem?_eq_getElem (heq ▸ hlt), he]
    · have e : decide (xs = ys) = true := by
        simp only [decide_eq_true_eq]
        refine List.ext_getElem? fun j => ?_
        by_cases hj : j < xs.length
        · exact hall j (by simp at hlt; omega)
        · rw [List.getElem?_eq_none (by omega), List.getElem?_eq_none (by omega)]
      rw [e] at k; exact k _ h3
abbrev tri (m : Frm) : List Int := [(m.fn : Int), m.pc, m.dest]
theorem frm_ne : decide (m = n) = (decide (tri m = tri n) && decide (m.regs = n.regs)) := by
  obtain ⟨a, b, c, d⟩ := m
  obtain ⟨a', b', c', d'⟩ := n
  rw [Bool.eq_iff_iff]
  simp only [Frm.mk.injEq, Bool.and_eq_true, decide_eq_true_eq, tri, List.cons.injEq, and_true, Int.natCast_inj]
  exact ⟨fun ⟨h1, h2, h3, h4⟩ => ⟨⟨h1, h2, h3⟩, h4⟩, fun ⟨⟨h1, h2, h3⟩, h4⟩ => ⟨h1, h2, h3, h4⟩⟩
theorem und_3 : PG.underlying T.t_3_int = some (.array 3 T.t_int) := by kernel_rfl
def isI (P : Program) (t : TypeId) : Bool := (P.info? t).isSome
theorem info_int : ∃ i, PG.info? T.t_int = some i := by
  have h : isI PG T.t_int = true := by kernel_rfl
  unfold isI at h
  exact Option.isSome_iff_exists.1 h
theorem eq_tri (a b : Frm) : EqR PG 10000 T.t_3_int (.agg ((tri a).map vI).toArray) (.agg ((tri b).map vI).toArray) (decide (tri a = tri b)) := by
  obtain ⟨i, hi⟩ := info_int
  exact eqr_ints (d := 9998) (kd := .i64) und_3 und_int hi (by kernel_rfl) rfl rfl
theorem fsame_pf (hc : Sl H c (rgs m.regs)) (hd : Sl H d (rgs n.regs)) (hm : m.regs.length ≤ 1000) : PF PG B H (fnc N.stack_same #[]) [.agg (frow m c).toArray, .agg (frow n d).toArray] (vB (decide (m = n))) := fun Z K PK w hw k => by
  refine callV_fn stack_same.okf (stack_same.ok ?_)
  unfold stack_same.C
  rw [frm_ne] at k
  refine al_rule hw (l := frow m c) rfl (fun b2 w1 h1 => ?_)
  refine al_rule h1 (l := frow n d) rfl (fun b4 w2 h2 => ?_)
  generalize hG : (b4, cel (frow n d) T.t_api_Frame) :: (b2, cel (frow m c) T.t_api_Frame) :: (Z ++ H) = G at h2
  have m2 : (b2, cel (frow m c) T.t_api_Frame) ∈ G := by rw [← hG]; exact .tail _ (.head _)
  have m4 : (b4, cel (frow n d) T.t_api_Frame) ∈ G := by rw [← hG]; exact .head _
  have hHG : ∀ x, x ∈ H → x ∈ G := fun x hx => by rw [← hG]; exact .tail _ (.tail _ (List.mem_append_right _ hx))
  have k : ∀ w', Ow B w' G → K (vB (decide (tri m = tri n) && decide (m.regs = n.regs))) w' := fun w' h' => k w' (by rw [← hG] at h'; exact h'.drop.drop)
  refine ⟨fun w => Ow B w G, h2.drew, ?_⟩
  repeat (first | refine pu_not ?_ | refine pu_eql ?_ | refine pu_neq ?_ | refine pu_lss ?_ | refine pu_leq ?_ | refine pu_gtr ?_ | refine pu_geq ?_ | refine pu_add ?_ | refine pu_sub ?_ | refine pu_mul ?_ | refine pu_neg ?_ | refine fa_at ?_ | refine nl_ptr ?_ | refine ex20 ?_ | refine ex21 ?_ | refine ex30 ?_ | refine ex31 ?_ | refine ex32 ?_ | refine ln_rule ?_ | refine lnT_rule ?_ | refine pu_and ?_ | refine pu_or ?_ | refine pu_xor ?_ | refine pu_seq ?_ | refine pu_sne ?_)
  refine lds_here (fun w h => h) m2 (v := vI m.fn) rfl ?_
  repeat (first | refine pu_not ?_ | refine pu_eql ?_ | refine pu_neq ?_ | refine pu_lss ?_ | refine pu_leq ?_ | refine pu_gtr ?_ | refine pu_geq ?_ | refine pu_add ?_ | refine pu_sub ?_ | refine pu_mul ?_ | refine pu_neg ?_ | refine fa_at ?_ | refine nl_ptr ?_ | refine ex20 ?_ | refine ex21 ?_ | refine ex30 ?_ | refine ex31 ?_ | refine ex32 ?_ | refine ln_rule ?_ | refine lnT_rule ?_ | refine pu_and ?_ | refine pu_or ?_ | refine pu_xor ?_ | refine pu_seq ?_ | refine pu_sne ?_)
  refine lds_here (fun w h => h) m2 (v := vI m.pc) rfl ?_
  repeat (first | refine pu_not ?_ | refine pu_eql ?_ | refine pu_neq ?_ | refine pu_lss ?_ | refine pu_leq ?_ | refine pu_gtr ?_ | refine pu_geq ?_ | refine pu_add ?_ | refine pu_sub ?_ | refine pu_mul ?_ | refine pu_neg ?_ | refine fa_at ?_ | refine nl_ptr ?_ | refine ex20 ?_ | refine ex21 ?_ | refine ex30 ?_ | refine ex31 ?_ | refine ex32 ?_ | refine ln_rule ?_ | refine lnT_rule ?_ | refine pu_and ?_ | refine pu_or ?_ | refine pu_xor ?_ | refine pu_seq ?_ | refine pu_sne ?_)
  refine lds_here (fun w h => h) m2 (v := vI m.dest) rfl ?_
  refine pu_build ((tri m).map vI) (by kernel_rfl) ?_
  repeat (first | refine pu_not ?_ | refine pu_eql ?_ | refine pu_neq ?_ | refine pu_lss ?_ | refine pu_leq ?_ | refine pu_gtr ?_ | refine pu_geq ?_ | refine pu_add ?_ | refine pu_sub ?_ | refine pu_mul ?_ | refine pu_neg ?_ | refine fa_at ?_ | refine nl_ptr ?_ | refine ex20 ?_ | refine ex21 ?_ | refine ex30 ?_ | refine ex31 ?_ | refine ex32 ?_ | refine ln_rule ?_ | refine lnT_rule ?_ | refine pu_and ?_ | refine pu_or ?_ | refine pu_xor ?_ | refine pu_seq ?_ | refine pu_sne ?_)
  refine lds_here (fun w h => h) m4 (v := vI n.fn) rfl ?_
  repeat (first | refine pu_not ?_ | refine pu_eql ?_ | refine pu_neq ?_ | refine pu_lss ?_ | refine pu_leq ?_ | refine pu_gtr ?_ | refine pu_geq ?_ | refine pu_add ?_ | refine pu_sub ?_ | refine pu_mul ?_ | refine pu_neg ?_ | refine fa_at ?_ | refine nl_ptr ?_ | refine ex20 ?_ | refine ex21 ?_ | refine ex30 ?_ | refine ex31 ?_ | refine ex32 ?_ | refine ln_rule ?_ | refine lnT_rule ?_ | refine pu_and ?_ | refine pu_or ?_ | refine pu_xor ?_ | refine pu_seq ?_ | refine pu_sne ?_)
  refine lds_here (fun w h => h) m4 (v := vI n.pc) rfl ?_
  repeat (first | refine pu_not ?_ | refine pu_eql ?_ | refine pu_neq ?_ | refine pu_lss ?_ | refine pu_leq ?_ | refine pu_gtr ?_ | refine pu_geq ?_ | refine pu_add ?_ | refine pu_sub ?_ | refine pu_mul ?_ | refine pu_neg ?_ | refine fa_at ?_ | refine nl_ptr ?_ | refine ex20 ?_ | refine ex21 ?_ | refine ex30 ?_ | refine ex31 ?_ | refine ex32 ?_ | refine ln_rule ?_ | refine lnT_rule ?_ | refine pu_and ?_ | refine pu_or ?_ | refine pu_xor ?_ | refine pu_seq ?_ | refine pu_sne ?_)
  refine lds_here (fun w h => h) m4 (v := vI n.dest) rfl ?_
  refine pu_build ((tri n).map vI) (by kernel_rfl) ?_
  refine ⟨?_, ?_⟩
  · refine al_rule h2.drew (l := [vI 0, vI 0, vI 0]) (by kernel_rfl) (fun b22 w3 h3 => ⟨h3.drop, ?_⟩)
    refine al_rule h3 (l := [vI 0, vI 0, vI 0]) (by kernel_rfl) (fun b24 w4 h4 => ⟨h4.drop.drop, ?_⟩)
    refine st_here (A := [_]) h4 ((tri m).map vI) rfl rfl rfl (by simp) (fun w5 h5 => ⟨h5.drop.drop, ?_⟩)
    refine st_here (A := []) h5 ((tri n).map vI) rfl rfl rfl (by simp) (fun w6 hE => ?_)
    simp only [List.take_zero, List.nil_append, Nat.zero_add, List.drop_succ_cons, List.drop_zero, List.drop_nil, List.append_nil] at hE
    refine ldn_here hE (.tail _ (.head _)) (vs := (tri m).map vI) rfl rfl ?_
    refine ldn_here hE (.head _) (vs := (tri n).map vI) rfl rfl ?_
    refine pu_aeql (by kernel_rfl) (eq_tri m n) ?_
    refine cnd (fun hq => ?_) (fun hq => ?_)
    · rw [hq, Bool.true_and] at k
      repeat (first | refine pu_not ?_ | refine pu_eql ?_ | refine pu_neq ?_ | refine pu_lss ?_ | refine pu_leq ?_ | refine pu_gtr ?_ | refine pu_geq ?_ | refine pu_add ?_ | refine pu_sub ?_ | refine pu_mul ?_ | refine pu_neg ?_ | refine fa_at ?_ | refine nl_ptr ?_ | refine ex20 ?_ | refine ex21 ?_ | refine ex30 ?_ | refine ex31 ?_ | refine ex32 ?_ | refine ln_rule ?_ | refine lnT_rule ?_ | refine pu_and ?_ | refine pu_or ?_ | refine pu_xor ?_ | refine pu_seq ?_ | refine pu_sne ?_)
      refine ld_here hE (.tail _ (.tail _ m2)) (v := c) rfl ?_
      repeat (first | refine pu_not ?_ | refine pu_eql ?_ | refine pu_neq ?_ | refine pu_lss ?_ | refine pu_leq ?_ | refine pu_gtr ?_ | refine pu_geq ?_ | refine pu_add ?_ | refine pu_sub ?_ | refine pu_mul ?_ | refine pu_neg ?_ | refine fa_at ?_ | refine nl_ptr ?_ | refine ex20 ?_ | refine ex21 ?_ | refine ex30 ?_ | refine ex31 ?_ | refine ex32 ?_ | refine ln_rule ?_ | refine lnT_rule ?_ | refine pu_and ?_ | refine pu_or ?_ | refine pu_xor ?_ | refine pu_seq ?_ | refine pu_sne ?_)
      refine ld_here hE (.tail _ (.tail _ m4)) (v := d) rfl ?_
      exact equalU_spec hE (hc.mono fun x hx => .tail _ (.tail _ (hHG x hx))) (hd.mono fun x hx => .tail _ (.tail _ (hHG x hx))) (by omega) (fun w9 h9 => k _ (Ow.drop (Ow.drop h9)))
    · rw [hq, Bool.false_and] at k
      exact k _ (Ow.drop (Ow.drop hE))
  · refine al_rule h2.drew (l := [vI 0, vI 0, vI 0]) (by kernel_rfl) (fun b28 w3 h3 => ⟨h3.drop, ?_⟩)
    refine al_rule h3 (l := [vI 0, vI 0, vI 0]) (by kernel_rfl) (fun b30 w4 h4 => ⟨h4.drop.drop, ?_⟩)
    refine st_here (A := []) h4 ((tri m).map vI) rfl rfl rfl (by simp) (fun w5 h5 => ⟨h5.drop.drop, ?_⟩)
    refine st_here (A := [_]) h5 ((tri n).map vI) rfl rfl rfl (by simp) (fun w6 hE => ?_)
    simp only [List.take_zero, List.nil_append, Nat.zero_add, List.drop_succ_cons, List.drop_zero, List.drop_nil, List.append_nil] at hE
    refine ldn_here hE (.head _) (vs := (tri m).map vI) rfl rfl ?_
    refine ldn_here hE (.tail _ (.head _)) (vs := (tri n).map vI) rfl rfl ?_
    refine pu_aeql (by kernel_rfl) (eq_tri m n) ?_
    refine cnd (fun hq => ?_) (fun hq => ?_)
    · rw [hq, Bool.true_and] at k
      repeat (first | refine pu_not ?_ | refine pu_eql ?_ | refine pu_neq ?_ | refine pu_lss ?_ | refine pu_leq ?_ | refine pu_gtr ?_ | refine pu_geq ?_ | refine pu_add ?_ | refine pu_sub ?_ | refine pu_mul ?_ | refine pu_neg ?_ | refine fa_at ?_ | refine nl_ptr ?_ | refine ex20 ?_ | refine ex21 ?_ | refine ex30 ?_ | refine ex31 ?_ | refine ex32 ?_ | refine ln_rule ?_ | refine lnT_rule ?_ | refine pu_and ?_ | refine pu_or ?_ | refine pu_xor ?_ | refine pu_seq ?_ | refine pu_sne ?_)
      refine ld_here hE (.tail _ (.tail _ m2)) (v := c) rfl ?_
      repeat (first | refine pu_not ?_ | refine pu_eql ?_ | refine pu_neq ?_ | refine pu_lss ?_ | refine pu_leq ?_ | refine pu_gtr ?_ | refine pu_geq ?_ | refine pu_add ?_ | refine pu_sub ?_ | refine pu_mul ?_ | refine pu_neg ?_ | refine fa_at ?_ | refine nl_ptr ?_ | refine ex20 ?_ | refine ex21 ?_ | refine ex30 ?_ | refine ex31 ?_ | refine ex32 ?_ | refine ln_rule ?_ | refine lnT_rule ?_ | refine pu_and ?_ | refine pu_or ?_ | refine pu_xor ?_ | refine pu_seq ?_ | refine pu_sne ?_)
      refine ld_here hE (.tail _ (.tail _ m4)) (v := d) rfl ?_
      exact equalU_spec hE (hc.mono fun x hx => .tail _ (.tail _ (hHG x hx))) (hd.mono fun x hx => .tail _ (.tail _ (hHG x hx))) (by omega) (fun w9 h9 => k _ (Ow.drop (Ow.drop h9)))
    · rw [hq, Bool.false_and] at k
      exact k _ (Ow.drop (Ow.drop hE))
theorem lrows_at {n : Nat} {q : Value × Frm} (h : L[n]? = some q) : (lrows L)[(n : Int).toNat]? = some (frow q.2 q.1) := by
  rw [Int.toNat_natCast, lrows, List.getElem?_map, h]; rfl
theorem equalFr_spec {v v' : Value} (h : Ow B w H) (hs : Sls H v 4 (lrows L)) (hs' : Sls H v' 4 (lrows L')) (hc : ∀ q ∈ L, Sl H q.1 (rgs q.2.regs) ∧ q.2.regs.length ≤ 1000) (hc' : ∀ q ∈ L', Sl H q.1 (rgs q.2.regs) ∧ q.2.regs.length ≤ 1000)
    (k : ∀ w', Ow B w' H → K (vB (decide (L.map Prod.snd = L'.map Prod.snd))) w') : callW PG N.slices_EqualFunc_sl_api_Frame_sl_api_Frame_api_Frame_api_Frame [v, v', fnc N.stack_same #[]] K PK w := by
  refine slices_EqualFunc_sl_api_Frame_sl_api_Frame_api_Frame_api_Frame.ok ?_
  unfold slices_EqualFunc_sl_api_Frame_sl_api_Frame_api_Frame_api_Frame.C
  have hmax := hs.max
  have hl : ∀ l : List (Value × Frm), (lrows l).length = l.length := fun l => List.length_map _
  rw [hl] at hmax
  simp only [maxLen] at hmax
  refine sls_ln hs ?_
  refine sls_ln hs' ?_
  rw [hl, hl]
  repeat (first | refine pu_not ?_ | refine pu_eql ?_ | refine pu_neq ?_ | refine pu_lss ?_ | refine pu_leq ?_ | refine pu_gtr ?_ | refine pu_geq ?_ | refine pu_add ?_ | refine pu_sub ?_ | refine pu_mul ?_ | refine pu_neg ?_ | refine fa_at ?_ | refine nl_ptr ?_ | refine ex20 ?_ | refine ex21 ?_ | refine ex30 ?_ | refine ex31 ?_ | refine ex32 ?_ | refine ln_rule ?_ | refine lnT_rule ?_ | refine pu_and ?_ | refine pu_or ?_ | refine pu_xor ?_ | refine pu_seq ?_ | refine pu_sne ?_)
  refine cnd (fun hne => ?_) (fun heq => ?_)
  · have e : decide (L.map Prod.snd = L'.map Prod.snd) = false := by
      simp only [decide_eq_false_iff_not]
      intro h
      have := congrArg List.length h
      simp at this hne
      omega
    rw [e] at k; exact k _ h
  have heq : L.length = L'.length := by simp at heq; omega
  refine sls_ln hs ?_
  rw [hl]
  refine ⟨fun l w => ∃ i : Nat, l = [vI i] ∧ i ≤ L.length ∧ (∀ j, j < i → (L.map Prod.snd)[j]? = (L'.map Prod.snd)[j]?) ∧ Ow B w H,
    fun l _ => match l with | [.int _ n] => L.length - n.toNat | _ => 0, ⟨0, rfl, Nat.zero_le _, fun j hj => absurd hj (by omega), h⟩, ?_⟩
  rintro l w3 ⟨i, rfl, hi, hall, h3⟩ j
  repeat (first | refine pu_not ?_ | refine pu_eql ?_ | refine pu_neq ?_ | refine pu_lss ?_ | refine pu_leq ?_ | refine pu_gtr ?_ | refine pu_geq ?_ | refine pu_add ?_ | refine pu_sub ?_ | refine pu_mul ?_ | refine pu_neg ?_ | refine fa_at ?_ | refine nl_ptr ?_ | refine ex20 ?_ | refine ex21 ?_ | refine ex30 ?_ | refine ex31 ?_ | refine ex32 ?_ | refine ln_rule ?_ | refine lnT_rule ?_ | refine pu_and ?_ | refine pu_or ?_ | refine pu_xor ?_ | refine pu_seq ?_ | refine pu_sne ?_)
  refine cnd (fun hlt => ?_) (fun hlt => ?_)
  · have hlt : i < L.length := by simpa using hlt
    obtain ⟨⟨c, m⟩, hq⟩ : ∃ q, L[i]? = some q := ⟨_, List.getElem?_eq_getElem hlt⟩
    obtain ⟨⟨d, n⟩, hq'⟩ : ∃ q, L'[i]? = some q := ⟨_, List.getElem?_eq_getElem (by omega)⟩
    obtain ⟨q1, q2⟩ := hc _ (List.mem_of_getElem? hq)
    obtain ⟨r1, r2⟩ := hc' _ (List.mem_of_getElem? hq')
    have g1 : (L.map Prod.snd)[i]? = some m := by rw [List.getElem?_map, hq]; rfl
    have g2 : (L'.map Prod.snd)[i]? = some n := by rw [List.getElem?_map, hq']; rfl
    refine sls_ld h3 hs (by omega) (lrows_at hq) ?_
    refine al_rule h3 (l := zfrm) (by kernel_rfl) (fun bx w4 h4 => ?_)
    refine st_here (A := []) h4 (frow m c) rfl rfl (fr_plain' m q1) (by simp) (fun w5 h5 => ?_)
    simp only [List.take_zero, List.nil_append, Nat.zero_add, List.drop_succ_cons, List.drop_zero, List.drop_nil, List.append_nil] at h5
    refine sls_ld h5 (hs'.mono fun x hx => .tail _ hx) (by omega) (lrows_at hq') ?_
    refine al_rule h5 (l := zfrm) (by kernel_rfl) (fun by' w6 h6 => ?_)
    refine st_here (A := []) h6 (frow n d) rfl rfl (fr_plain' n r1) (by simp) (fun w7 h7 => ?_)
    simp only [List.take_zero, List.nil_append, Nat.zero_add, List.drop_succ_cons, List.drop_zero, List.drop_nil, List.append_nil] at h7
    refine ldn_here h7 (.tail _ (.head _)) (vs := frow m c) rfl rfl ?_
    refine ldn_here h7 (.head _) (vs := frow n d) rfl rfl ?_
    refine fsame_pf q1 r1 q2 [_, _] _ _ _ h7 (fun w8 h8 => ?_)
    have h8 : Ow B w8 H := Ow.drop (Ow.drop h8)
    repeat (first | refine pu_not ?_ | refine pu_eql ?_ | refine pu_neq ?_ | refine pu_lss ?_ | refine pu_leq ?_ | refine pu_gtr ?_ | refine pu_geq ?_ | refine pu_add ?_ | refine pu_sub ?_ | refine pu_mul ?_ | refine pu_neg ?_ | refine fa_at ?_ | refine nl_ptr ?_ | refine ex20 ?_ | refine ex21 ?_ | refine ex30 ?_ | refine ex31 ?_ | refine ex32 ?_ | refine ln_rule ?_ | refine lnT_rule ?_ | refine pu_and ?_ | refine pu_or ?_ | refine pu_xor ?_ | refine pu_seq ?_ | refine pu_sne ?_)
    refine cnd (fun hn => ?_) (fun hn => ?_)
    · have hn : ¬ m = n := by simpa using hn
      have : decide (L.map Prod.snd = L'.map Prod.snd) = false := decide_eq_false fun h => by
        rw [h, g2] at g1
        exact hn (Option.some.inj g1).symm
      rw [this] at k
      exact k _ h8
    · have hn : m = n := by simpa using hn
      repeat (first | refine pu_not ?_ | refine pu_eql ?_ | refine pu_neq ?_ | refine pu_lss ?_ | refine pu_leq ?_ | refine pu_gtr ?_ | refine pu_geq ?_ | refine pu_add ?_ | refine pu_sub ?_ | refine pu_mul ?_ | refine pu_neg ?_ | refine fa_at ?_ | refine nl_ptr ?_ | refine ex20 ?_ | refine ex21 ?_ | refine ex30 ?_ | refine ex31 ?_ | refine ex32 ?_ | refine ln_rule ?_ | refine lnT_rule ?_ | refine pu_and ?_ | refine pu_or ?_ | refine pu_xor ?_ | refine pu_seq ?_ | refine pu_sne ?_)
      rw [wrap64_in (by omega) (by omega)]
      refine ⟨⟨i + 1, rfl, hlt, fun j hj => ?_, h8⟩, by simp; omega⟩
      rcases Nat.lt_succ_iff_lt_or_eq.1 hj with hj | rfl
      · exact hall j hj
      · rw [g1, g2, hn]
  · have : decide (L.map Prod.snd = L'.map Prod.snd) = true := by
      simp only [decide_eq_true_eq]
      refine List.ext_getElem? fun j => ?_
      by_cases hj : j < L.length
      · exact hall j (by simp at hlt; omega)
      · rw [List.getElem?_eq_none (by simp; omega), List.getElem?_eq_none (by simp; omega)]
    rw [this] at k
    exact k _ h3
theorem SK.pcells (s : SK) : (p.cells s.vF) = ((s.cell p).drop 0).take 4 := rfl
theorem ssame_spec (hs : s.ok p F) (hs' : s'.ok p F') (hr : ∀ m ∈ s.frs, m.regs.length ≤ 1000) (hr' : ∀ m ∈ s'.frs, m.regs.length ≤ 1000) (h : Ow B w H) (hin : ∀ x, x ∈ s.hp p → x ∈ H) (hin' : ∀ x, x ∈ s'.hp p → x ∈ H) (hF : ∀ x, x ∈ F → x ∈ H) (hF' : ∀ x, x ∈ F' → x ∈ H)
    (k : ∀ w', Ow B w' H → K (vB (decide (s.res = s'.res) && decide (s.frs = s'.frs))) w') : callW PG N.stack_Same [ptr s.b, ptr s'.b] K PK w := by
  refine stack_Same.ok ?_
  unfold stack_Same.C
  have m1 := hin _ (.head _)
  have m2 := hin' _ (.head _)
  refine sk_none h m1 (cnd_f rfl ?_)
  refine sk_none h m2 (cnd_f rfl ?_)
  refine ⟨fun w => Ow B w H, h.drew, ?_⟩
  repeat (first | refine pu_not ?_ | refine pu_eql ?_ | refine pu_neq ?_ | refine pu_lss ?_ | refine pu_leq ?_ | refine pu_gtr ?_ | refine pu_geq ?_ | refine pu_add ?_ | refine pu_sub ?_ | refine pu_mul ?_ | refine pu_neg ?_ | refine fa_at ?_ | refine nl_ptr ?_ | refine ex20 ?_ | refine ex21 ?_ | refine ex30 ?_ | refine ex31 ?_ | refine ex32 ?_ | refine ln_rule ?_ | refine lnT_rule ?_ | refine pu_and ?_ | refine pu_or ?_ | refine pu_xor ?_ | refine pu_seq ?_ | refine pu_sne ?_)
  refine lds_here (fun w h => h) m1 (v := vU s.res) rfl ?_
  repeat (first | refine pu_not ?_ | refine pu_eql ?_ | refine pu_neq ?_ | refine pu_lss ?_ | refine pu_leq ?_ | refine pu_gtr ?_ | refine pu_geq ?_ | refine pu_add ?_ | refine pu_sub ?_ | refine pu_mul ?_ | refine pu_neg ?_ | refine fa_at ?_ | refine nl_ptr ?_ | refine ex20 ?_ | refine ex21 ?_ | refine ex30 ?_ | refine ex31 ?_ | refine ex32 ?_ | refine ln_rule ?_ | refine lnT_rule ?_ | refine pu_and ?_ | refine pu_or ?_ | refine pu_xor ?_ | refine pu_seq ?_ | refine pu_sne ?_)
  refine lds_here (fun w h => h) m2 (v := vU s'.res) rfl ?_
  repeat (first | refine pu_not ?_ | refine pu_eql ?_ | refine pu_neq ?_ | refine pu_lss ?_ | refine pu_leq ?_ | refine pu_gtr ?_ | refine pu_geq ?_ | refine pu_add ?_ | refine pu_sub ?_ | refine pu_mul ?_ | refine pu_neg ?_ | refine fa_at ?_ | refine nl_ptr ?_ | refine ex20 ?_ | refine ex21 ?_ | refine ex30 ?_ | refine ex31 ?_ | refine ex32 ?_ | refine ln_rule ?_ | refine lnT_rule ?_ | refine pu_and ?_ | refine pu_or ?_ | refine pu_xor ?_ | refine pu_seq ?_ | refine pu_sne ?_)
  refine cnd (fun hq => ?_) (fun hq => ?_)
  rotate_left
  · have hq : ¬ s.res = s'.res := by simpa using hq
    rw [decide_eq_false hq, Bool.false_and] at k
    exact k _ h.drew
  have hq : s.res = s'.res := by simpa using hq
  rw [decide_eq_true hq, Bool.true_and] at k
  repeat (first | refine pu_not ?_ | refine pu_eql ?_ | refine pu_neq ?_ | refine pu_lss ?_ | refine pu_leq ?_ | refine pu_gtr ?_ | refine pu_geq ?_ | refine pu_add ?_ | refine pu_sub ?_ | refine pu_mul ?_ | refine pu_neg ?_ | refine fa_at ?_ | refine nl_ptr ?_ | refine ex20 ?_ | refine ex21 ?_ | refine ex30 ?_ | refine ex31 ?_ | refine ex32 ?_ | refine ln_rule ?_ | refine lnT_rule ?_ | refine pu_and ?_ | refine pu_or ?_ | refine pu_xor ?_ | refine pu_seq ?_ | refine pu_sne ?_)
  refine ldsn_here (fun w h => h) m1 (vs := p.cells s.vF) rfl rfl ?_
  repeat (first | refine pu_not ?_ | refine pu_eql ?_ | refine pu_neq ?_ | refine pu_lss ?_ | refine pu_leq ?_ | refine pu_gtr ?_ | refine pu_geq ?_ | refine pu_add ?_ | refine pu_sub ?_ | refine pu_mul ?_ | refine pu_neg ?_ | refine fa_at ?_ | refine nl_ptr ?_ | refine ex20 ?_ | refine ex21 ?_ | refine ex30 ?_ | refine ex31 ?_ | refine ex32 ?_ | refine ln_rule ?_ | refine lnT_rule ?_ | refine pu_and ?_ | refine pu_or ?_ | refine pu_xor ?_ | refine pu_seq ?_ | refine pu_sne ?_)
  refine ldsn_here (fun w h => h) m2 (vs := p.cells s'.vF) rfl rfl ?_
  refine same_spec (X := H) (p := p) (q := p) (hs.hf.mono hF) (hs'.hf.mono hF') (fun x hx => hx) h.drew (fun w3 h3 => ⟨h3, ?_⟩)
  refine cnd_t (by simp) ?_
  repeat (first | refine pu_not ?_ | refine pu_eql ?_ | refine pu_neq ?_ | refine pu_lss ?_ | refine pu_leq ?_ | refine pu_gtr ?_ | refine pu_geq ?_ | refine pu_add ?_ | refine pu_sub ?_ | refine pu_mul ?_ | refine pu_neg ?_ | refine fa_at ?_ | refine nl_ptr ?_ | refine ex20 ?_ | refine ex21 ?_ | refine ex30 ?_ | refine ex31 ?_ | refine ex32 ?_ | refine ln_rule ?_ | refine lnT_rule ?_ | refine pu_and ?_ | refine pu_or ?_ | refine pu_xor ?_ | refine pu_seq ?_ | refine pu_sne ?_)
  refine lds_here (fun w h => h) m1 (v := s.vfr) rfl ?_
  repeat (first | refine pu_not ?_ | refine pu_eql ?_ | refine pu_neq ?_ | refine pu_lss ?_ | refine pu_leq ?_ | refine pu_gtr ?_ | refine pu_geq ?_ | refine pu_add ?_ | refine pu_sub ?_ | refine pu_mul ?_ | refine pu_neg ?_ | refine fa_at ?_ | refine nl_ptr ?_ | refine ex20 ?_ | refine ex21 ?_ | refine ex30 ?_ | refine ex31 ?_ | refine ex32 ?_ | refine ln_rule ?_ | refine lnT_rule ?_ | refine pu_and ?_ | refine pu_or ?_ | refine pu_xor ?_ | refine pu_seq ?_ | refine pu_sne ?_)
  refine lds_here (fun w h => h) m2 (v := s'.vfr) rfl ?_
  refine equalFr_spec h3 ((SK.L_sls hs).mono hin) ((SK.L_sls hs').mono hin') (fun q hq => ⟨(SK.L_in hs hr q hq).1.mono hin, (SK.L_in hs hr q hq).2⟩) (fun q hq => ⟨(SK.L_in hs' hr' q hq).1.mono hin', (SK.L_in hs' hr' q hq).2⟩) (fun w4 h4 => ⟨h4, ?_⟩)
  have e : decide (s.L.map Prod.snd = s'.L.map Prod.snd) = decide (s.frs = s'.frs) := by
    rw [SK.L_frs, SK.L_frs]
    exact decide_eq_decide.2 List.reverse_inj
  rw [e]
  exact k _ h4
end
end Go.Proofs.YtkkkcafkepnecaaGreat

