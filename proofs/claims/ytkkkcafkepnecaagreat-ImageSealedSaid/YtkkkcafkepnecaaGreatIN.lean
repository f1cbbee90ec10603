/- Images: the chapter's rows; programs that are not too large. -/
import Derived.Test.YtkkkcafkepnecaaGreatIM
import Derived.Test.YtkkkcafkepnecaaGreatJN

set_option linter.unusedVariables false
set_option linter.unusedSimpArgs false
set_option linter.unnecessarySimpa false
namespace Go.Proofs.YtkkkcafkepnecaaGreat.Im
open Go Go.RowKit Vc Oc Dg
theorem pu_sadd {P : Program} {t : TypeId} {c : Bool} {x y : ByteArray} {KK : Value → Prop} (hs : (x.size : Int) + y.size ≤ 9223372036854775807) (k : KK (.string (x ++ y))) : pu P (binV .add t c (.string x) (.string y)) KK := ⟨_, binV_run rfl (fun w => by simp [binOp, Op.stringOp, Sem.run_pure, hs]), k⟩
attribute [local irreducible] binV Op.unary convert nlW faW ldS ldW ixS ixA ixV ixT exW lnS lnT pu stW alW opW opU bsW mkW

section
variable {B w : World} {H X : Hp} {K : Value → World → Prop} {PK : List PanicEntry → World → Prop} {p : Pr} {v : Value}
theorem bs_app (a b : List Nat) : bs a ++ bs b = bs (a ++ b) := by
  apply ByteArray.ext
  simp [bs]
def pI : Ins := ⟨9, 0, 0, 0, 0⟩
def pF : Fun := ⟨1, [pI]⟩
def pP : Pr := ⟨[pF], 1, 0, 0⟩
def bareW : List Nat := [108, 105, 110, 101, 1, 0, 0, 1, 1, 1, 0, 9, 0]
theorem pP_ok : okP' pP = true := by decide +kernel
theorem pP_bare : bareB pP = bareW := by decide +kernel
theorem pP_d1 : (decR bareW).2 = 110 := by decide +kernel
theorem pP_d2 : (decR (bareW ++ [0, 0, 0, 0, 0, 0, 0, 0])).2 = 200 := by decide +kernel
theorem pP_d3 : (decR [108, 105, 110, 102]).2 = 200 := by decide +kernel
theorem num10 {x : Value} (k : K x w) : callW PG N.linesmanlaw10_num [x] K PK w := by
  refine linesmanlaw10_num.ok ?_
  unfold linesmanlaw10_num.C
  exact k
theorem works_spec (h : Ow B w H) (k : ∀ w', Ow B w' H → K (vB true) w') : callW PG N.linesmanlaw10_works [] K PK w := by
  refine linesmanlaw10_works.ok ?_
  unfold linesmanlaw10_works.C
  have hbW : Byt bareW := show ∀ x ∈ bareW, x < 256 by decide
  have hbZ : Byt (bareW ++ [0, 0, 0, 0, 0, 0, 0, 0]) := show ∀ x ∈ bareW ++ [0, 0, 0, 0, 0, 0, 0, 0], x < 256 by decide
  have hbF : Byt [108, 105, 110, 102] := show ∀ x ∈ [108, 105, 110, 102], x < 256 by decide
  refine pu_build pI.cells (by kernel_rfl) ?_
  refine bs_rule h pI.cells (by kernel_rfl) (fun b1 w1 h1 => ?_)
  refine pu_build [vI 1, .slice (some ⟨b1, 0, none⟩) 1 1] (by kernel_rfl) ?_
  refine bs_rule h1 [vI 1, .slice (some ⟨b1, 0, none⟩) 1 1] (by kernel_rfl) (fun b2 w2 h2 => ?_)
  refine pu_build (pP.cells (.slice (some ⟨b2, 0, none⟩) 1 1)) (by kernel_rfl) ?_
  refine al_rule h2 (l := p0.cells nilS) (by kernel_rfl) (fun b3 w3 h3 => ?_)
  refine st_here (A := []) h3 (pP.cells (.slice (some ⟨b2, 0, none⟩) 1 1)) rfl rfl rfl (by simp [Pr.cells]) (fun w4 h4 => ?_)
  have e4 : (p0.cells nilS).take 0 ++ pP.cells (.slice (some ⟨b2, 0, none⟩) 1 1) ++ (p0.cells nilS).drop (0 + 4) = pP.cells (.slice (some ⟨b2, 0, none⟩) 1 1) := rfl
  rw [e4] at h4
  refine ldn_here h4 (.head _) (vs := pP.cells (.slice (some ⟨b2, 0, none⟩) 1 1)) rfl rfl ?_
  have hv : fsIn ([(b2, cel [vI 1, .slice (some ⟨b1, 0, none⟩) 1 1] T.t_api_Func), (b1, cel pI.cells T.t_api_Ins)]) (.slice (some ⟨b2, 0, none⟩) 1 1) pP.fs :=
    ⟨[(.slice (some ⟨b1, 0, none⟩) 1 1, pF)], rfl, sls_blk (rows := [[vI 1, .slice (some ⟨b1, 0, none⟩) 1 1]]) (fun x hx => by rw [List.mem_singleton.1 hx]; rfl) (by simp [maxLen]) (.head _),
      fun q hq => by
        rw [List.mem_singleton.1 hq]
        exact ⟨sls_blk (rows := [pI.cells]) (fun x hx => by rw [List.mem_singleton.1 hx]; rfl) (by simp [maxLen]) (.tail _ (.head _)), fun i hi => by rw [List.mem_singleton.1 hi]; decide⟩⟩
  refine encode_spec hv (fun x hx => by
    rcases List.mem_cons.1 hx with rfl | hx
    · exact .tail _ (.head _)
    · rw [List.mem_singleton.1 hx]; exact .tail _ (.tail _ (.head _))) (by simp [pP]) h4 (fun S out w5 h5 ho => ?_)
  have e5 : encR pP = (encB pP, 0) := if_pos pP_ok
  rw [e5] at ho ⊢
  have h5 : Ow B w5 (S ++ H) := h5.sub ((List.Sublist.refl S).append ((((List.Sublist.refl H).cons _).cons _).cons _))
  clear h4 h3 h2 h1 h
  repeat (first | refine pu_not ?_ | refine pu_eql ?_ | refine pu_neq ?_ | refine pu_lss ?_ | refine pu_leq ?_ | refine pu_gtr ?_ | refine pu_geq ?_ | refine pu_add ?_ | refine pu_sub ?_ | refine fa_at ?_ | refine nl_ptr ?_ | refine ex20 ?_ | refine ex21 ?_ | refine ex30 ?_ | refine ex31 ?_ | refine ex32 ?_ | refine ln_rule ?_ | refine pu_seq ?_ | refine pu_sne ?_)
  refine cv_s2b h5 und_slb und_str und_u8 (fun b6 o6 v6 w6 h6 hs6 => ?_)
  have hb13 : ([108, 105, 110, 101, 1, 0, 0, 1, 1, 1, 0, 9, 0] : List Nat) = bareW := rfl
  rw [hb13, tb_bs hbW] at hs6
  refine decode_spec (l := bareW) hs6 (fun x hx => by rw [List.mem_singleton.1 hx]; exact .head _) hbW (by simp [bareW]) h6 (fun F1 v1 w7 hF1 _ h7 => ?_)
  obtain ⟨a1, a2, a3, hv1⟩ := cp_sl hF1
  repeat (first | refine pu_not ?_ | refine pu_eql ?_ | refine pu_neq ?_ | refine pu_lss ?_ | refine pu_leq ?_ | refine pu_gtr ?_ | refine pu_geq ?_ | refine pu_add ?_ | refine pu_sub ?_ | refine fa_at ?_ | refine nl_ptr ?_ | refine ex20 ?_ | refine ex21 ?_ | refine ex30 ?_ | refine ex31 ?_ | refine ex32 ?_ | refine ln_rule ?_ | refine pu_seq ?_ | refine pu_sne ?_)
  refine al_rule h7 (l := p0.cells nilS) (by kernel_rfl) (fun b8 w8 h8 => ?_)
  refine st_here (A := []) h8 ((decR bareW).1.cells v1) rfl rfl (cells_plain _ (by rw [hv1]; rfl)) (by simp [Pr.cells]) (fun w9 h9 => ?_)
  have h9 : Ow B w9 (S ++ H) := h9.sub (((List.Sublist.refl (S ++ H)).cons _).trans ((List.sublist_append_right F1 _).cons _))
  rw [pP_d1]
  refine pu_sadd (by rw [bs_size, bs_size]; simp) ?_
  rw [bs_app]
  refine cv_s2b h9 und_slb und_str und_u8 (fun b10 o10 v10 w10 h10 hs10 => ?_)
  have hz : ([108, 105, 110, 101, 1, 0, 0, 1, 1, 1, 0, 9, 0] ++ [0, 0, 0, 0, 0, 0, 0, 0] : List Nat) = bareW ++ [0, 0, 0, 0, 0, 0, 0, 0] := rfl
  rw [hz, tb_bs hbZ] at hs10
  refine decode_spec (l := bareW ++ [0, 0, 0, 0, 0, 0, 0, 0]) hs10 (fun x hx => by rw [List.mem_singleton.1 hx]; exact .head _) hbZ (by simp [bareW]) h10 (fun F2 v2 w11 hF2 _ h11 => ?_)
  obtain ⟨a1, a2, a3, hv2⟩ := cp_sl hF2
  repeat (first | refine pu_not ?_ | refine pu_eql ?_ | refine pu_neq ?_ | refine pu_lss ?_ | refine pu_leq ?_ | refine pu_gtr ?_ | refine pu_geq ?_ | refine pu_add ?_ | refine pu_sub ?_ | refine fa_at ?_ | refine nl_ptr ?_ | refine ex20 ?_ | refine ex21 ?_ | refine ex30 ?_ | refine ex31 ?_ | refine ex32 ?_ | refine ln_rule ?_ | refine pu_seq ?_ | refine pu_sne ?_)
  refine al_rule h11 (l := p0.cells nilS) (by kernel_rfl) (fun b12 w12 h12 => ?_)
  refine st_here (A := []) h12 ((decR (bareW ++ [0, 0, 0, 0, 0, 0, 0, 0])).1.cells v2) rfl rfl (cells_plain _ (by rw [hv2]; rfl)) (by simp [Pr.cells]) (fun w13 h13 => ?_)
  have h13 : Ow B w13 (S ++ H) := h13.sub (((List.Sublist.refl (S ++ H)).cons _).trans ((List.sublist_append_right F2 _).cons _))
  rw [pP_d2]
  refine bs_const (l := bv [108, 105, 110, 102]) h13 und_slb und_u8 (by kernel_rfl) rfl (fun b14 o14 v14 w14 h14 hs14 => ?_)
  refine decode_spec (l := [108, 105, 110, 102]) hs14 (fun x hx => by rw [List.mem_singleton.1 hx]; exact .head _) hbF (by simp) h14 (fun F3 v3 w15 hF3 _ h15 => ?_)
  obtain ⟨a1, a2, a3, hv3⟩ := cp_sl hF3
  repeat (first | refine pu_not ?_ | refine pu_eql ?_ | refine pu_neq ?_ | refine pu_lss ?_ | refine pu_leq ?_ | refine pu_gtr ?_ | refine pu_geq ?_ | refine pu_add ?_ | refine pu_sub ?_ | refine fa_at ?_ | refine nl_ptr ?_ | refine ex20 ?_ | refine ex21 ?_ | refine ex30 ?_ | refine ex31 ?_ | refine ex32 ?_ | refine ln_rule ?_ | refine pu_seq ?_ | refine pu_sne ?_)
  refine al_rule h15 (l := p0.cells nilS) (by kernel_rfl) (fun b16 w16 h16 => ?_)
  refine st_here (A := []) h16 ((decR [108, 105, 110, 102]).1.cells v3) rfl rfl (cells_plain _ (by rw [hv3]; rfl)) (by simp [Pr.cells]) (fun w17 h17 => ?_)
  have h17 : Ow B w17 (S ++ H) := h17.sub (((List.Sublist.refl (S ++ H)).cons _).trans ((List.sublist_append_right F3 _).cons _))
  rw [pP_d3]
  refine num10 ?_
  repeat (first | refine pu_not ?_ | refine pu_eql ?_ | refine pu_neq ?_ | refine pu_lss ?_ | refine pu_leq ?_ | refine pu_gtr ?_ | refine pu_geq ?_ | refine pu_add ?_ | refine pu_sub ?_ | refine fa_at ?_ | refine nl_ptr ?_ | refine ex20 ?_ | refine ex21 ?_ | refine ex30 ?_ | refine ex31 ?_ | refine ex32 ?_ | refine ln_rule ?_ | refine pu_seq ?_ | refine pu_sne ?_)
  refine cnd_t rfl ?_
  have hos : Sl S out (bv (encB pP)) := Vc.Own.sl ho
  refine sl_ln hos ?_
  have hel : (bv (encB pP)).length = 21 := by rw [List.length_map, encB, List.length_append, fx_len, pP_bare]; rfl
  rw [hel]
  repeat (first | refine pu_not ?_ | refine pu_eql ?_ | refine pu_neq ?_ | refine pu_lss ?_ | refine pu_leq ?_ | refine pu_gtr ?_ | refine pu_geq ?_ | refine pu_add ?_ | refine pu_sub ?_ | refine fa_at ?_ | refine nl_ptr ?_ | refine ex20 ?_ | refine ex21 ?_ | refine ex30 ?_ | refine ex31 ?_ | refine ex32 ?_ | refine ln_rule ?_ | refine pu_seq ?_ | refine pu_sne ?_)
  refine cnd_t rfl ?_
  refine cutH (h := 13) hos (by omega) (by omega) (fun c hc => ?_)
  have hcut := sl_cut (l := 0) (h := 13) (m := c) (hos.mono fun x hx => List.mem_append_left H hx) (by omega) (by omega) (by omega)
  rw [List.drop_zero, ← List.map_take] at hcut
  have htk : (encB pP).take 13 = bareW := by
    have : (13 : Nat) = (bareB pP).length := by rw [pP_bare]; rfl
    rw [encB, this, List.take_left, pP_bare]
  rw [htk] at hcut
  refine strOf h17 hcut ?_
  repeat (first | refine pu_not ?_ | refine pu_eql ?_ | refine pu_neq ?_ | refine pu_lss ?_ | refine pu_leq ?_ | refine pu_gtr ?_ | refine pu_geq ?_ | refine pu_add ?_ | refine pu_sub ?_ | refine fa_at ?_ | refine nl_ptr ?_ | refine ex20 ?_ | refine ex21 ?_ | refine ex30 ?_ | refine ex31 ?_ | refine ex32 ?_ | refine ln_rule ?_ | refine pu_seq ?_ | refine pu_sne ?_)
  rw [seqT' (x := bs bareW) (y := bs [108, 105, 110, 101, 1, 0, 0, 1, 1, 1, 0, 9, 0]) rfl]
  refine cnd_t rfl ?_
  refine num10 ?_
  repeat (first | refine pu_not ?_ | refine pu_eql ?_ | refine pu_neq ?_ | refine pu_lss ?_ | refine pu_leq ?_ | refine pu_gtr ?_ | refine pu_geq ?_ | refine pu_add ?_ | refine pu_sub ?_ | refine fa_at ?_ | refine nl_ptr ?_ | refine ex20 ?_ | refine ex21 ?_ | refine ex30 ?_ | refine ex31 ?_ | refine ex32 ?_ | refine ln_rule ?_ | refine pu_seq ?_ | refine pu_sne ?_)
  refine cnd_t rfl ?_
  refine num10 ?_
  repeat (first | refine pu_not ?_ | refine pu_eql ?_ | refine pu_neq ?_ | refine pu_lss ?_ | refine pu_leq ?_ | refine pu_gtr ?_ | refine pu_geq ?_ | refine pu_add ?_ | refine pu_sub ?_ | refine fa_at ?_ | refine nl_ptr ?_ | refine ex20 ?_ | refine ex21 ?_ | refine ex30 ?_ | refine ex31 ?_ | refine ex32 ?_ | refine ln_rule ?_ | refine pu_seq ?_ | refine pu_sne ?_)
  refine cnd_t rfl ?_
  refine num10 ?_
  repeat (first | refine pu_not ?_ | refine pu_eql ?_ | refine pu_neq ?_ | refine pu_lss ?_ | refine pu_leq ?_ | refine pu_gtr ?_ | refine pu_geq ?_ | refine pu_add ?_ | refine pu_sub ?_ | refine fa_at ?_ | refine nl_ptr ?_ | refine ex20 ?_ | refine ex21 ?_ | refine ex30 ?_ | refine ex31 ?_ | refine ex32 ?_ | refine ln_rule ?_ | refine pu_seq ?_ | refine pu_sne ?_)
  exact k _ (h17.sub (List.sublist_append_right S H))
theorem few_spec (hv : fsIn X v p.fs) (hX : ∀ x, x ∈ X → x ∈ H) (h : Ow B w H) (k : ∀ r w', Ow B w' H → (r = true → p.fs.length ≤ 40) → K (vB r) w') : callW PG N.linesmanlaw10_few [.agg (p.cells v).toArray] K PK w := by
  refine linesmanlaw10_few.ok ?_
  unfold linesmanlaw10_few.C
  obtain ⟨ps, e1, e2, e3⟩ := id hv
  have hpl : ps.length = p.fs.length := by rw [← e1]; simp
  have hml := e2.max
  have hfr : (frows ps).length = p.fs.length := by simp [frows, hpl]
  rw [hfr] at hml
  refine al_rule h (l := p.cells v) rfl (fun b2 w1 h1 => ?_)
  refine ⟨fun l w => ∃ (m : Int) (i : Nat), l = [vI m, vI i] ∧ i ≤ p.fs.length ∧ i ≤ 40 ∧ Ow B w ((b2, pgO p v) :: H), fun l _ => match l with | [_, .int _ q] => p.fs.length - q.toNat | _ => 0, ⟨0, 0, rfl, by omega, by omega, h1⟩, ?_⟩
  clear h1
  rintro l w2 ⟨m, i, rfl, hi, hi40, h2⟩ j
  simp only [gv, List.getD_cons_zero, List.getD_cons_succ]
  repeat (first | refine pu_not ?_ | refine pu_eql ?_ | refine pu_neq ?_ | refine pu_lss ?_ | refine pu_leq ?_ | refine pu_gtr ?_ | refine pu_geq ?_ | refine pu_add ?_ | refine pu_sub ?_ | refine fa_at ?_ | refine nl_ptr ?_ | refine ex20 ?_ | refine ex21 ?_ | refine ex30 ?_ | refine ex31 ?_ | refine ex32 ?_ | refine ln_rule ?_ | refine pu_seq ?_ | refine pu_sne ?_)
  refine ld_here h2 (.head _) (v := v) rfl ?_
  refine hv.ln ?_
  repeat (first | refine pu_not ?_ | refine pu_eql ?_ | refine pu_neq ?_ | refine pu_lss ?_ | refine pu_leq ?_ | refine pu_gtr ?_ | refine pu_geq ?_ | refine pu_add ?_ | refine pu_sub ?_ | refine fa_at ?_ | refine nl_ptr ?_ | refine ex20 ?_ | refine ex21 ?_ | refine ex30 ?_ | refine ex31 ?_ | refine ex32 ?_ | refine ln_rule ?_ | refine pu_seq ?_ | refine pu_sne ?_)
  refine cnd (fun hlt => ?_) (fun hlt => ?_)
  · have hlt : i < p.fs.length := by simpa using hlt
    repeat (first | refine pu_not ?_ | refine pu_eql ?_ | refine pu_neq ?_ | refine pu_lss ?_ | refine pu_leq ?_ | refine pu_gtr ?_ | refine pu_geq ?_ | refine pu_add ?_ | refine pu_sub ?_ | refine fa_at ?_ | refine nl_ptr ?_ | refine ex20 ?_ | refine ex21 ?_ | refine ex30 ?_ | refine ex31 ?_ | refine ex32 ?_ | refine ln_rule ?_ | refine pu_seq ?_ | refine pu_sne ?_)
    refine cnd (fun hlt2 => ?_) (fun hlt2 => ?_)
    · have hlt2 : i < 40 := by have := of_decide_eq_true hlt2; omega
      obtain ⟨⟨c, f⟩, hq⟩ : ∃ q, ps[i]? = some q := ⟨_, List.getElem?_eq_getElem (by omega)⟩
      obtain ⟨q1, q2⟩ := e3 _ (List.mem_of_getElem? hq)
      simp only at q1 q2
      have hrow : (frows ps)[(i : Int).toNat]? = some [vI f.regs, c] := by rw [Int.toNat_natCast, frows, List.getElem?_map, hq]; rfl
      repeat (first | refine pu_not ?_ | refine pu_eql ?_ | refine pu_neq ?_ | refine pu_lss ?_ | refine pu_leq ?_ | refine pu_gtr ?_ | refine pu_geq ?_ | refine pu_add ?_ | refine pu_sub ?_ | refine fa_at ?_ | refine nl_ptr ?_ | refine ex20 ?_ | refine ex21 ?_ | refine ex30 ?_ | refine ex31 ?_ | refine ex32 ?_ | refine ln_rule ?_ | refine pu_seq ?_ | refine pu_sne ?_)
      refine ld_here h2 (.head _) (v := v) rfl ?_
      refine sls_fld (j := 1) (x := [vI f.regs, c]) (v := c) h2 (e2.mono fun x hx => .tail _ (hX x hx)) (by omega) hrow rfl ?_
      refine sls_ln q1 ?_
      repeat (first | refine pu_not ?_ | refine pu_eql ?_ | refine pu_neq ?_ | refine pu_lss ?_ | refine pu_leq ?_ | refine pu_gtr ?_ | refine pu_geq ?_ | refine pu_add ?_ | refine pu_sub ?_ | refine fa_at ?_ | refine nl_ptr ?_ | refine ex20 ?_ | refine ex21 ?_ | refine ex30 ?_ | refine ex31 ?_ | refine ex32 ?_ | refine ln_rule ?_ | refine pu_seq ?_ | refine pu_sne ?_)
      rw [wrapN (by omega)]
      exact ⟨⟨_, i + 1, rfl, hlt, by omega, h2⟩, by simp; omega⟩
    · repeat (first | refine pu_not ?_ | refine pu_eql ?_ | refine pu_neq ?_ | refine pu_lss ?_ | refine pu_leq ?_ | refine pu_gtr ?_ | refine pu_geq ?_ | refine pu_add ?_ | refine pu_sub ?_ | refine fa_at ?_ | refine nl_ptr ?_ | refine ex20 ?_ | refine ex21 ?_ | refine ex30 ?_ | refine ex31 ?_ | refine ex32 ?_ | refine ln_rule ?_ | refine pu_seq ?_ | refine pu_sne ?_)
      refine ld_here h2 (.head _) (v := v) rfl ?_
      refine hv.ln ?_
      repeat (first | refine pu_not ?_ | refine pu_eql ?_ | refine pu_neq ?_ | refine pu_lss ?_ | refine pu_leq ?_ | refine pu_gtr ?_ | refine pu_geq ?_ | refine pu_add ?_ | refine pu_sub ?_ | refine fa_at ?_ | refine nl_ptr ?_ | refine ex20 ?_ | refine ex21 ?_ | refine ex30 ?_ | refine ex31 ?_ | refine ex32 ?_ | refine ln_rule ?_ | refine pu_seq ?_ | refine pu_sne ?_)
      refine cnd (fun hq => ?_) (fun hq => ?_)
      · have hq : p.fs.length ≤ 40 := by have := of_decide_eq_true hq; omega
        repeat (first | refine pu_not ?_ | refine pu_eql ?_ | refine pu_neq ?_ | refine pu_lss ?_ | refine pu_leq ?_ | refine pu_gtr ?_ | refine pu_geq ?_ | refine pu_add ?_ | refine pu_sub ?_ | refine fa_at ?_ | refine nl_ptr ?_ | refine ex20 ?_ | refine ex21 ?_ | refine ex30 ?_ | refine ex31 ?_ | refine ex32 ?_ | refine ln_rule ?_ | refine pu_seq ?_ | refine pu_sne ?_)
        exact k _ _ h2.drop (fun _ => hq)
      · exact k false _ h2.drop (fun hh => by cases hh)
  · repeat (first | refine pu_not ?_ | refine pu_eql ?_ | refine pu_neq ?_ | refine pu_lss ?_ | refine pu_leq ?_ | refine pu_gtr ?_ | refine pu_geq ?_ | refine pu_add ?_ | refine pu_sub ?_ | refine fa_at ?_ | refine nl_ptr ?_ | refine ex20 ?_ | refine ex21 ?_ | refine ex30 ?_ | refine ex31 ?_ | refine ex32 ?_ | refine ln_rule ?_ | refine pu_seq ?_ | refine pu_sne ?_)
    refine ld_here h2 (.head _) (v := v) rfl ?_
    refine hv.ln ?_
    repeat (first | refine pu_not ?_ | refine pu_eql ?_ | refine pu_neq ?_ | refine pu_lss ?_ | refine pu_leq ?_ | refine pu_gtr ?_ | refine pu_geq ?_ | refine pu_add ?_ | refine pu_sub ?_ | refine fa_at ?_ | refine nl_ptr ?_ | refine ex20 ?_ | refine ex21 ?_ | refine ex30 ?_ | refine ex31 ?_ | refine ex32 ?_ | refine ln_rule ?_ | refine pu_seq ?_ | refine pu_sne ?_)
    refine cnd (fun hq => ?_) (fun hq => ?_)
    · have hq : p.fs.length ≤ 40 := by have := of_decide_eq_true hq; omega
      repeat (first | refine pu_not ?_ | refine pu_eql ?_ | refine pu_neq ?_ | refine pu_lss ?_ | refine pu_leq ?_ | refine pu_gtr ?_ | refine pu_geq ?_ | refine pu_add ?_ | refine pu_sub ?_ | refine fa_at ?_ | refine nl_ptr ?_ | refine ex20 ?_ | refine ex21 ?_ | refine ex30 ?_ | refine ex31 ?_ | refine ex32 ?_ | refine ln_rule ?_ | refine pu_seq ?_ | refine pu_sne ?_)
      exact k _ _ h2.drop (fun _ => hq)
    · exact k false _ h2.drop (fun hh => by cases hh)
end
end Go.Proofs.YtkkkcafkepnecaaGreat.Im

