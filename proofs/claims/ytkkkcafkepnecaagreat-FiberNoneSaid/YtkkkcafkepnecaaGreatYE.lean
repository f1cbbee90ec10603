/- Fibers: the rows of the chapter; the law FiberNone. -/
import Derived.Test.YtkkkcafkepnecaaGreatYD
import Derived.Test.YtkkkcafkepnecaaGreatGE

set_option linter.unusedVariables false
set_option linter.unusedSimpArgs false
namespace Go.Proofs.YtkkkcafkepnecaaGreat
open Go Go.RowKit Vc Ar
attribute [local irreducible] binV Op.unary convert nlW faW ldS ldW ixS ixA ixV ixT exW lnS lnT pu stW alW opW opU bsW mkW

section
variable {B w : World} {H X F F' Q R : Hp} {K : Value → World → Prop} {PK : List PanicEntry → World → Prop} {KK : Value → Prop} {p : Pr} {s s' : SK} {v a b : Value} {bf bw : Nat} {fr e : Int} {x y : Wt} {xs ys : List Int} {m : Frm} {ms : List Frm}
abbrev deFk (b : Nat) : Nat × Obj := (b, .deferred (some []))
theorem ow_drop {A : Hp} {w : World} (h : Ow B w (A ++ R)) : Ow B w R := h.sub (List.sublist_append_right _ _)
theorem want_kn (good : Good p) (hI : Inv p s.frs) (hl : s.frs = m :: ms) (hx : (wantW fr m.fn m.pc (m :: ms) (insF p m)).1 = x) (hs : s.ok p F) (hF : ∀ x, x ∈ F → x ∈ R) (hfr : fr ≠ 0) (hf : (bf, fbO s.b fr) ∈ R) (h : Ow B w (s.hp p ++ R))
    (k : ∀ v w', plainV v = true → Ow B w' (s.hp p ++ R) → K (.tuple #[.agg (x.cells v).toArray, vB true]) w') : callW PG N.fiber_Fiber_Want [ptr bf] K PK w := by
  refine want_known good hI hl hs hF hfr hf h (fun S v w' hv _ h' => ?_)
  rw [hx]
  exact k v w' hv (ow_drop h')
set_option maxRecDepth 20000 in
theorem works17_spec (h : Ow B w H) (k : ∀ w', Ow B w' H → K (vB true) w') : callW PG N.linesmanlaw17_works [] K PK w := by
  refine linesmanlaw17_works.ok ?_
  unfold linesmanlaw17_works.C
  refine given17_spec h (fun S v w1 hv h1 => ?_)
  refine bs_rule h1 (rgs [0, 3]) (by kernel_rfl) (fun b5 w2 h2 => ?_)
  refine fnew_spec (p := p17) (ws := [0, 3]) (fr := 1) (X := (b5, cel (rgs [0, 3]) T.t_uint32) :: S) (hv.mono fun x hx => .tail _ hx) (sl_here (l := rgs [0, 3]) (.head _)) (fun x hx => (List.mem_cons.1 hx).elim (fun h => by rw [h]; exact .head _) fun h => .tail _ (List.mem_append_left _ h)) (by simp [p17]) (by simp) h2
    (fun hb => absurd (by decide) hb) (fun _ hb => by rw [p17_good.ok] at hb; cases hb) (fun _ _ hb => absurd (by decide) (hb ⟨2, [hConst, hStore, gRet]⟩ (by decide) rfl)) (fun _ _ f _ hf _ s F bf w3 hres hfrs hs h3 => ?_)
  have hf : f = ⟨2, [hConst, hStore, gRet]⟩ := (Option.some.inj hf).symm
  subst hf
  have h3 : Ow B w3 (s.hp p17 ++ ((bf, fbO s.b 1) :: (F ++ (b5, cel (rgs [0, 3]) T.t_uint32) :: (S ++ H)))) := h3.perm List.perm_middle.symm
  generalize hR : (bf, fbO s.b 1) :: (F ++ (b5, cel (rgs [0, 3]) T.t_uint32) :: (S ++ H)) = R at h3
  have hF : ∀ x, x ∈ F → x ∈ R := fun x hx => by rw [← hR]; exact .tail _ (List.mem_append_left _ hx)
  have hfm : (bf, fbO s.b 1) ∈ R := by rw [← hR]; exact .head _
  have hend : ∀ {A : Hp} {w : World}, Ow B w (A ++ R) → Ow B w H := fun h => by
    rw [← hR] at h
    exact h.sub (((((List.sublist_append_right _ _).trans (List.sublist_cons_self _ _)).trans (List.sublist_append_right _ _)).trans (List.sublist_cons_self _ _)).trans (List.sublist_append_right _ _))
  clear hR h1 h2
  have hfrs : s.frs = k0 := hfrs
  have i0 : Inv p17 k0 := jn 0 (by omega) _ rfl u03
  have i1 : Inv p17 k1 := jn 1 (by omega) _ rfl u73
  have i2 : Inv p17 k2 := jn 2 (by omega) _ rfl u73
  repeat (first | refine pu_not ?_ | refine pu_eql ?_ | refine pu_neq ?_ | refine pu_lss ?_ | refine pu_leq ?_ | refine pu_gtr ?_ | refine pu_geq ?_ | refine pu_add ?_ | refine pu_sub ?_ | refine pu_mul ?_ | refine pu_neg ?_ | refine fa_at ?_ | refine nl_ptr ?_ | refine ex20 ?_ | refine ex21 ?_ | refine ex30 ?_ | refine ex31 ?_ | refine ex32 ?_ | refine ln_rule ?_ | refine lnT_rule ?_ | refine pu_and ?_ | refine pu_or ?_ | refine pu_xor ?_ | refine pu_seq ?_ | refine pu_sne ?_)
  refine want_kn p17_good (by rw [hfrs]; exact i0) hfrs fw0 hs hF (by decide) hfm h3 (fun va w4 hva h4 => ?_)
  repeat (first | refine pu_not ?_ | refine pu_eql ?_ | refine pu_neq ?_ | refine pu_lss ?_ | refine pu_leq ?_ | refine pu_gtr ?_ | refine pu_geq ?_ | refine pu_add ?_ | refine pu_sub ?_ | refine pu_mul ?_ | refine pu_neg ?_ | refine fa_at ?_ | refine nl_ptr ?_ | refine ex20 ?_ | refine ex21 ?_ | refine ex30 ?_ | refine ex31 ?_ | refine ex32 ?_ | refine ln_rule ?_ | refine lnT_rule ?_ | refine pu_and ?_ | refine pu_or ?_ | refine pu_xor ?_ | refine pu_seq ?_ | refine pu_sne ?_)
  refine al_rule h4 (l := wt0.cells (.slice none 0 0)) zwant (fun b16 w5 h5 => ?_)
  refine st_here (A := []) h5 (Wt.cells ⟨1, 0, 0, 0, 0, 0, 0, 0, 0⟩ va) rfl rfl (wt_plain _ hva) (by simp [wt_len]) (fun w6 h6 => ?_)
  rw [wt_set _ _ _ rfl] at h6
  have h6 := ins_perm h6
  refine do_known p17_good i0 hs (fun x hx => .tail _ (hF x hx)) hfrs hres fo0 (by decide) (by decide) (.tail _ hfm) h6 (fun s1 w7 hb1 hs1 hl1 hr1 h7 => ?_)
  rw [← hb1] at hfm
  refine want_kn p17_good (by rw [hl1]; exact i1) hl1 fw1 hs1 (fun x hx => .tail _ (hF x hx)) (by decide) (.tail _ hfm) h7 (fun vb w8 hvb h8 => ?_)
  repeat (first | refine pu_not ?_ | refine pu_eql ?_ | refine pu_neq ?_ | refine pu_lss ?_ | refine pu_leq ?_ | refine pu_gtr ?_ | refine pu_geq ?_ | refine pu_add ?_ | refine pu_sub ?_ | refine pu_mul ?_ | refine pu_neg ?_ | refine fa_at ?_ | refine nl_ptr ?_ | refine ex20 ?_ | refine ex21 ?_ | refine ex30 ?_ | refine ex31 ?_ | refine ex32 ?_ | refine ln_rule ?_ | refine lnT_rule ?_ | refine pu_and ?_ | refine pu_or ?_ | refine pu_xor ?_ | refine pu_seq ?_ | refine pu_sne ?_)
  refine al_rule h8 (l := wt0.cells (.slice none 0 0)) zwant (fun b27 w9 h9 => ?_)
  refine st_here (A := []) h9 (Wt.cells ⟨3, 0, 1, 7, 3, 0, 0, 0, 0⟩ vb) rfl rfl (wt_plain _ hvb) (by simp [wt_len]) (fun w10 h10 => ?_)
  rw [wt_set _ _ _ rfl] at h10
  have h10 := ins_perm h10
  refine do_known p17_good i1 hs1 (fun x hx => .tail _ (.tail _ (hF x hx))) hl1 hr1 fo1 (by decide) (by decide) (.tail _ (.tail _ hfm)) h10 (fun s2 w11 hb2 hs2 hl2 hr2 h11 => ?_)
  rw [← hb2] at hfm
  refine want_kn p17_good (by rw [hl2]; exact i2) hl2 fw2 hs2 (fun x hx => .tail _ (.tail _ (hF x hx))) (by decide) (.tail _ (.tail _ hfm)) h11 (fun vc w12 hvc h12 => ?_)
  repeat (first | refine pu_not ?_ | refine pu_eql ?_ | refine pu_neq ?_ | refine pu_lss ?_ | refine pu_leq ?_ | refine pu_gtr ?_ | refine pu_geq ?_ | refine pu_add ?_ | refine pu_sub ?_ | refine pu_mul ?_ | refine pu_neg ?_ | refine fa_at ?_ | refine nl_ptr ?_ | refine ex20 ?_ | refine ex21 ?_ | refine ex30 ?_ | refine ex31 ?_ | refine ex32 ?_ | refine ln_rule ?_ | refine lnT_rule ?_ | refine pu_and ?_ | refine pu_or ?_ | refine pu_xor ?_ | refine pu_seq ?_ | refine pu_sne ?_)
  refine al_rule h12 (l := wt0.cells (.slice none 0 0)) zwant (fun b38 w13 h13 => ?_)
  refine st_here (A := []) h13 (Wt.cells ⟨13, 0, 2, 0, 0, 0, 0, 0, 0⟩ vc) rfl rfl (wt_plain _ hvc) (by simp [wt_len]) (fun w14 h14 => ?_)
  rw [wt_set _ _ _ rfl] at h14
  have h14 := ins_perm h14
  refine do_known p17_good i2 hs2 (fun x hx => .tail _ (.tail _ (.tail _ (hF x hx)))) hl2 hr2 fo2 (by decide) (by decide) (.tail _ (.tail _ (.tail _ hfm))) h14 (fun s3 w15 hb3 hs3 hl3 hr3 h15 => ?_)
  rw [← hb3] at hfm
  refine num17_spec h15 (fun w16 h16 => ?_)
  refine num17_spec h16 (fun w17 h17 => ?_)
  repeat (first | refine pu_not ?_ | refine pu_eql ?_ | refine pu_neq ?_ | refine pu_lss ?_ | refine pu_leq ?_ | refine pu_gtr ?_ | refine pu_geq ?_ | refine pu_add ?_ | refine pu_sub ?_ | refine pu_mul ?_ | refine pu_neg ?_ | refine fa_at ?_ | refine nl_ptr ?_ | refine ex20 ?_ | refine ex21 ?_ | refine ex30 ?_ | refine ex31 ?_ | refine ex32 ?_ | refine ln_rule ?_ | refine lnT_rule ?_ | refine pu_and ?_ | refine pu_or ?_ | refine pu_xor ?_ | refine pu_seq ?_ | refine pu_sne ?_)
  refine num17_spec h17 (fun w18 h18 => ?_)
  repeat (first | refine pu_not ?_ | refine pu_eql ?_ | refine pu_neq ?_ | refine pu_lss ?_ | refine pu_leq ?_ | refine pu_gtr ?_ | refine pu_geq ?_ | refine pu_add ?_ | refine pu_sub ?_ | refine pu_mul ?_ | refine pu_neg ?_ | refine fa_at ?_ | refine nl_ptr ?_ | refine ex20 ?_ | refine ex21 ?_ | refine ex30 ?_ | refine ex31 ?_ | refine ex32 ?_ | refine ln_rule ?_ | refine lnT_rule ?_ | refine pu_and ?_ | refine pu_or ?_ | refine pu_xor ?_ | refine pu_seq ?_ | refine pu_sne ?_)
  refine num17_spec h18 (fun w19 h19 => ?_)
  repeat (first | refine pu_not ?_ | refine pu_eql ?_ | refine pu_neq ?_ | refine pu_lss ?_ | refine pu_leq ?_ | refine pu_gtr ?_ | refine pu_geq ?_ | refine pu_add ?_ | refine pu_sub ?_ | refine pu_mul ?_ | refine pu_neg ?_ | refine fa_at ?_ | refine nl_ptr ?_ | refine ex20 ?_ | refine ex21 ?_ | refine ex30 ?_ | refine ex31 ?_ | refine ex32 ?_ | refine ln_rule ?_ | refine lnT_rule ?_ | refine pu_and ?_ | refine pu_or ?_ | refine pu_xor ?_ | refine pu_seq ?_ | refine pu_sne ?_)
  refine cnd_t (by decide +kernel) ?_
  refine cnd_t rfl ?_
  refine cnd_t rfl ?_
  refine cnd_t rfl ?_
  have n38 : (b38, wnO (Wt.cells ⟨13, 0, 2, 0, 0, 0, 0, 0, 0⟩ vc)) ∈ s3.hp p17 ++ ((b38, wnO (Wt.cells ⟨13, 0, 2, 0, 0, 0, 0, 0, 0⟩ vc)) :: (b27, wnO (Wt.cells ⟨3, 0, 1, 7, 3, 0, 0, 0, 0⟩ vb)) :: (b16, wnO (Wt.cells ⟨1, 0, 0, 0, 0, 0, 0, 0, 0⟩ va)) :: R) := List.mem_append_right _ (.head _)
  have n27 : (b27, wnO (Wt.cells ⟨3, 0, 1, 7, 3, 0, 0, 0, 0⟩ vb)) ∈ s3.hp p17 ++ ((b38, wnO (Wt.cells ⟨13, 0, 2, 0, 0, 0, 0, 0, 0⟩ vc)) :: (b27, wnO (Wt.cells ⟨3, 0, 1, 7, 3, 0, 0, 0, 0⟩ vb)) :: (b16, wnO (Wt.cells ⟨1, 0, 0, 0, 0, 0, 0, 0, 0⟩ va)) :: R) := List.mem_append_right _ (.tail _ (.head _))
  have n16 : (b16, wnO (Wt.cells ⟨1, 0, 0, 0, 0, 0, 0, 0, 0⟩ va)) ∈ s3.hp p17 ++ ((b38, wnO (Wt.cells ⟨13, 0, 2, 0, 0, 0, 0, 0, 0⟩ vc)) :: (b27, wnO (Wt.cells ⟨3, 0, 1, 7, 3, 0, 0, 0, 0⟩ vb)) :: (b16, wnO (Wt.cells ⟨1, 0, 0, 0, 0, 0, 0, 0, 0⟩ va)) :: R) := List.mem_append_right _ (.tail _ (.tail _ (.head _)))
  repeat (first | refine pu_not ?_ | refine pu_eql ?_ | refine pu_neq ?_ | refine pu_lss ?_ | refine pu_leq ?_ | refine pu_gtr ?_ | refine pu_geq ?_ | refine pu_add ?_ | refine pu_sub ?_ | refine pu_mul ?_ | refine pu_neg ?_ | refine fa_at ?_ | refine nl_ptr ?_ | refine ex20 ?_ | refine ex21 ?_ | refine ex30 ?_ | refine ex31 ?_ | refine ex32 ?_ | refine ln_rule ?_ | refine lnT_rule ?_ | refine pu_and ?_ | refine pu_or ?_ | refine pu_xor ?_ | refine pu_seq ?_ | refine pu_sne ?_)
  refine ld_here h19 n16 (v := vI 1) rfl ?_
  repeat (first | refine pu_not ?_ | refine pu_eql ?_ | refine pu_neq ?_ | refine pu_lss ?_ | refine pu_leq ?_ | refine pu_gtr ?_ | refine pu_geq ?_ | refine pu_add ?_ | refine pu_sub ?_ | refine pu_mul ?_ | refine pu_neg ?_ | refine fa_at ?_ | refine nl_ptr ?_ | refine ex20 ?_ | refine ex21 ?_ | refine ex30 ?_ | refine ex31 ?_ | refine ex32 ?_ | refine ln_rule ?_ | refine lnT_rule ?_ | refine pu_and ?_ | refine pu_or ?_ | refine pu_xor ?_ | refine pu_seq ?_ | refine pu_sne ?_)
  refine cnd_t rfl ?_
  repeat (first | refine pu_not ?_ | refine pu_eql ?_ | refine pu_neq ?_ | refine pu_lss ?_ | refine pu_leq ?_ | refine pu_gtr ?_ | refine pu_geq ?_ | refine pu_add ?_ | refine pu_sub ?_ | refine pu_mul ?_ | refine pu_neg ?_ | refine fa_at ?_ | refine nl_ptr ?_ | refine ex20 ?_ | refine ex21 ?_ | refine ex30 ?_ | refine ex31 ?_ | refine ex32 ?_ | refine ln_rule ?_ | refine lnT_rule ?_ | refine pu_and ?_ | refine pu_or ?_ | refine pu_xor ?_ | refine pu_seq ?_ | refine pu_sne ?_)
  refine ld_here h19 n27 (v := vI 3) rfl ?_
  repeat (first | refine pu_not ?_ | refine pu_eql ?_ | refine pu_neq ?_ | refine pu_lss ?_ | refine pu_leq ?_ | refine pu_gtr ?_ | refine pu_geq ?_ | refine pu_add ?_ | refine pu_sub ?_ | refine pu_mul ?_ | refine pu_neg ?_ | refine fa_at ?_ | refine nl_ptr ?_ | refine ex20 ?_ | refine ex21 ?_ | refine ex30 ?_ | refine ex31 ?_ | refine ex32 ?_ | refine ln_rule ?_ | refine lnT_rule ?_ | refine pu_and ?_ | refine pu_or ?_ | refine pu_xor ?_ | refine pu_seq ?_ | refine pu_sne ?_)
  refine cnd_t rfl ?_
  repeat (first | refine pu_not ?_ | refine pu_eql ?_ | refine pu_neq ?_ | refine pu_lss ?_ | refine pu_leq ?_ | refine pu_gtr ?_ | refine pu_geq ?_ | refine pu_add ?_ | refine pu_sub ?_ | refine pu_mul ?_ | refine pu_neg ?_ | refine fa_at ?_ | refine nl_ptr ?_ | refine ex20 ?_ | refine ex21 ?_ | refine ex30 ?_ | refine ex31 ?_ | refine ex32 ?_ | refine ln_rule ?_ | refine lnT_rule ?_ | refine pu_and ?_ | refine pu_or ?_ | refine pu_xor ?_ | refine pu_seq ?_ | refine pu_sne ?_)
  refine ld_here h19 n27 (v := vU 7) rfl ?_
  repeat (first | refine pu_not ?_ | refine pu_eql ?_ | refine pu_neq ?_ | refine pu_lss ?_ | refine pu_leq ?_ | refine pu_gtr ?_ | refine pu_geq ?_ | refine pu_add ?_ | refine pu_sub ?_ | refine pu_mul ?_ | refine pu_neg ?_ | refine fa_at ?_ | refine nl_ptr ?_ | refine ex20 ?_ | refine ex21 ?_ | refine ex30 ?_ | refine ex31 ?_ | refine ex32 ?_ | refine ln_rule ?_ | refine lnT_rule ?_ | refine pu_and ?_ | refine pu_or ?_ | refine pu_xor ?_ | refine pu_seq ?_ | refine pu_sne ?_)
  refine cnd_t rfl ?_
  repeat (first | refine pu_not ?_ | refine pu_eql ?_ | refine pu_neq ?_ | refine pu_lss ?_ | refine pu_leq ?_ | refine pu_gtr ?_ | refine pu_geq ?_ | refine pu_add ?_ | refine pu_sub ?_ | refine pu_mul ?_ | refine pu_neg ?_ | refine fa_at ?_ | refine nl_ptr ?_ | refine ex20 ?_ | refine ex21 ?_ | refine ex30 ?_ | refine ex31 ?_ | refine ex32 ?_ | refine ln_rule ?_ | refine lnT_rule ?_ | refine pu_and ?_ | refine pu_or ?_ | refine pu_xor ?_ | refine pu_seq ?_ | refine pu_sne ?_)
  refine ld_here h19 n27 (v := vU 3) rfl ?_
  repeat (first | refine pu_not ?_ | refine pu_eql ?_ | refine pu_neq ?_ | refine pu_lss ?_ | refine pu_leq ?_ | refine pu_gtr ?_ | refine pu_geq ?_ | refine pu_add ?_ | refine pu_sub ?_ | refine pu_mul ?_ | refine pu_neg ?_ | refine fa_at ?_ | refine nl_ptr ?_ | refine ex20 ?_ | refine ex21 ?_ | refine ex30 ?_ | refine ex31 ?_ | refine ex32 ?_ | refine ln_rule ?_ | refine lnT_rule ?_ | refine pu_and ?_ | refine pu_or ?_ | refine pu_xor ?_ | refine pu_seq ?_ | refine pu_sne ?_)
  refine cnd_t rfl ?_
  repeat (first | refine pu_not ?_ | refine pu_eql ?_ | refine pu_neq ?_ | refine pu_lss ?_ | refine pu_leq ?_ | refine pu_gtr ?_ | refine pu_geq ?_ | refine pu_add ?_ | refine pu_sub ?_ | refine pu_mul ?_ | refine pu_neg ?_ | refine fa_at ?_ | refine nl_ptr ?_ | refine ex20 ?_ | refine ex21 ?_ | refine ex30 ?_ | refine ex31 ?_ | refine ex32 ?_ | refine ln_rule ?_ | refine lnT_rule ?_ | refine pu_and ?_ | refine pu_or ?_ | refine pu_xor ?_ | refine pu_seq ?_ | refine pu_sne ?_)
  refine ld_here h19 n38 (v := vI 13) rfl ?_
  repeat (first | refine pu_not ?_ | refine pu_eql ?_ | refine pu_neq ?_ | refine pu_lss ?_ | refine pu_leq ?_ | refine pu_gtr ?_ | refine pu_geq ?_ | refine pu_add ?_ | refine pu_sub ?_ | refine pu_mul ?_ | refine pu_neg ?_ | refine fa_at ?_ | refine nl_ptr ?_ | refine ex20 ?_ | refine ex21 ?_ | refine ex30 ?_ | refine ex31 ?_ | refine ex32 ?_ | refine ln_rule ?_ | refine lnT_rule ?_ | refine pu_and ?_ | refine pu_or ?_ | refine pu_xor ?_ | refine pu_seq ?_ | refine pu_sne ?_)
  refine cnd_t rfl ?_
  refine fended_spec hs3 (by decide) (List.mem_append_right _ (.tail _ (.tail _ (.tail _ hfm)))) (.head _) h19 ?_
  rw [hl3]
  exact k _ (hend (A := s3.hp p17 ++ [_, _, _]) (by simpa using h19))
/-! ### Ahead, of none -/
theorem every_none {b2 b4 : Nat} {n : Int} (h2 : (b2, cel [.pointer none] T.t_ptr_fiber_Fiber) ∈ H) (h4 : (b4, cel [vI n] T.t_int) ∈ H) : Seq PG B H (fnc N.fiber_every_1 #[ptr b4, ptr b2]) [] := by
  refine Seq.fn fiber_every_1.okf ?_
  intro y J Z K PK w X hy hw j0 hr he
  refine fiber_every_1.ok ?_
  unfold fiber_every_1.C
  refine ⟨fun l w => l = [vI 0] ∧ Ow B w (X ++ H), fun _ _ => 0, ⟨rfl, hw⟩, ?_⟩
  rintro l w1 ⟨rfl, h1⟩ j
  refine ld_here h1 (List.mem_append_right _ h4) (v := vI n) rfl ?_
  repeat (first | refine pu_not ?_ | refine pu_eql ?_ | refine pu_neq ?_ | refine pu_lss ?_ | refine pu_leq ?_ | refine pu_gtr ?_ | refine pu_geq ?_ | refine pu_add ?_ | refine pu_sub ?_ | refine pu_mul ?_ | refine pu_neg ?_ | refine fa_at ?_ | refine nl_ptr ?_ | refine ex20 ?_ | refine ex21 ?_ | refine ex30 ?_ | refine ex31 ?_ | refine ex32 ?_ | refine ln_rule ?_ | refine lnT_rule ?_ | refine pu_and ?_ | refine pu_or ?_ | refine pu_xor ?_ | refine pu_seq ?_ | refine pu_sne ?_)
  refine cnd (fun hq => ?_) (fun hq => ?_)
  · refine ld_here h1 (List.mem_append_right _ h2) (v := .pointer none) rfl ?_
    refine want_none h1 (.inl rfl) (fun w2 h2 => ?_)
    repeat (first | refine pu_not ?_ | refine pu_eql ?_ | refine pu_neq ?_ | refine pu_lss ?_ | refine pu_leq ?_ | refine pu_gtr ?_ | refine pu_geq ?_ | refine pu_add ?_ | refine pu_sub ?_ | refine pu_mul ?_ | refine pu_neg ?_ | refine fa_at ?_ | refine nl_ptr ?_ | refine ex20 ?_ | refine ex21 ?_ | refine ex30 ?_ | refine ex31 ?_ | refine ex32 ?_ | refine ln_rule ?_ | refine lnT_rule ?_ | refine pu_and ?_ | refine pu_or ?_ | refine pu_xor ?_ | refine pu_seq ?_ | refine pu_sne ?_)
    refine al_rule h2 (l := wt0.cells (.slice none 0 0)) zwant (fun b5 w3 h3 => ?_)
    refine st_here (A := []) h3 (wt0.cells (.slice none 0 0)) rfl rfl rfl (by simp [wt_len]) (fun w4 h4 => ?_)
    repeat (first | refine pu_not ?_ | refine pu_eql ?_ | refine pu_neq ?_ | refine pu_lss ?_ | refine pu_leq ?_ | refine pu_gtr ?_ | refine pu_geq ?_ | refine pu_add ?_ | refine pu_sub ?_ | refine pu_mul ?_ | refine pu_neg ?_ | refine fa_at ?_ | refine nl_ptr ?_ | refine ex20 ?_ | refine ex21 ?_ | refine ex30 ?_ | refine ex31 ?_ | refine ex32 ?_ | refine ln_rule ?_ | refine lnT_rule ?_ | refine pu_and ?_ | refine pu_or ?_ | refine pu_xor ?_ | refine pu_seq ?_ | refine pu_sne ?_)
    refine cnd_t rfl ?_
    exact he _ X _ (Ow.drop h4) (.inl j0)
  · exact he _ X _ h1 (.inl j0)
set_option maxRecDepth 20000 in
theorem ahead1_none {b7 b2 : Nat} {n : Int} (h7 : (b7, cel [.pointer none] T.t_ptr_fiber_Fiber) ∈ H) (h2 : (b2, cel [vI n] T.t_int) ∈ H) : Seq PG B H (fnc N.fiber_Ahead_1 #[ptr b7, ptr b2]) [] := by
  refine Seq.fn fiber_Ahead_1.okf ?_
  intro y J Z K PK w X hy hw j0 hr he
  refine fiber_Ahead_1.ok ?_
  unfold fiber_Ahead_1.C
  refine al_rule hw (l := [y]) (fn_cells hy) (fun by1 w1 h1 => ?_)
  refine ⟨fun w => Ow B w ((by1, cel [y] T.t_func_int_api_Want_bool) :: (X ++ H)), h1.drew, ?_⟩
  refine lds_here (fun w h => h) (.tail _ (List.mem_append_right _ h7)) (v := .pointer none) rfl ?_
  refine lds_here (fun w h => h) (.tail _ (List.mem_append_right _ h2)) (v := vI n) rfl ?_
  refine fcopy_none h1.drew (.inl rfl) ⟨h1.drew, ?_⟩
  refine fiber_every.ok ?_
  unfold fiber_every.C
  refine al_rule h1.drew (l := [.pointer none]) rfl (fun ba w3 h3 => ?_)
  refine al_rule h3 (l := [vI n]) rfl (fun bb w4 h4 => ?_)
  have h4 : Ow B w4 (X ++ ([(bb, cel [vI n] T.t_int), (ba, cel [.pointer none] T.t_ptr_fiber_Fiber), (by1, cel [y] T.t_func_int_api_Want_bool)] ++ H)) := h4.perm (List.perm_append_comm_assoc [_, _, _] X H)
  refine range_fn (X := X) (H := [(bb, cel [vI n] T.t_int), (ba, cel [.pointer none] T.t_ptr_fiber_Fiber), (by1, cel [y] T.t_func_int_api_Want_bool)] ++ H) (A := fiber_Ahead_1.note) (fuel := 400) mixed
    (every_none (.tail _ (.head _)) (.head _)) (by simp) (fun a ha => by cases ha) h4 (fun k Y => J k Y) (fun _ _ => False) j0 ?_ ?_ ?_
  · intro lp r i args Y F R w5 hL
    simp at hL
  · rintro mk Y w6 hj h6
    refine lv_ret h6 (fun w7 h7 => ?_)
    exact he _ Y w7 (h7.sub ((List.Sublist.refl Y).append (List.sublist_append_right _ _))) (.inl hj)
  · intro mk j Y w6 hz
    exact hz.elim
theorem ahead_none {s : Value} {n : Int} (h : Ow B w H) (hs : Nofi H s) (k : ∀ b7 b2 w', Ow B w' ((b7, cel [.pointer none] T.t_ptr_fiber_Fiber) :: (b2, cel [vI n] T.t_int) :: H) → K (fnc N.fiber_Ahead_1 #[ptr b7, ptr b2]) w') : callW PG N.fiber_Ahead [s, vI n] K PK w := by
  refine fiber_Ahead.ok ?_
  unfold fiber_Ahead.C
  refine al_rule h (l := [vI n]) rfl (fun b2 w1 h1 => ?_)
  refine fcopy_none h1 (hs.mono fun x hx => .tail _ hx) ?_
  refine al_rule h1 (l := [.pointer none]) (by kernel_rfl) (fun b7 w2 h2 => ?_)
  refine st1_here (A := []) h2 rfl rfl (by simp) (fun w3 h3 => ?_)
  exact k b7 b2 w3 h3
/-! ### The law -/
theorem want_of {v0 : Value} (g : FitV PG H T.t_api_Want v0) : ∃ (x : Wt) (a : Value) (ws : List Int), v0 = .agg (x.cells a).toArray ∧ Sl H a (rgs ws) := by
  obtain ⟨cs, rfl, h⟩ := g.agg (by kernel_rfl)
  have hl : cs.length = 10 := h.len (by kernel_rfl) (by kernel_rfl)
  match cs, hl with
  | [x0, x1, x2, x3, x4, x5, x6, x7, x8, x9], _ =>
    obtain ⟨n0, h0, _⟩ := (h.field (i := 0) (T := T.t_api_EvKind) (off := 0) (n := 1) (by kernel_rfl)).of_int (k := .i64) (by kernel_rfl)
    have hsite := h.field (i := 1) (T := T.t_api_Site) (off := 1) (n := 2) (by kernel_rfl)
    obtain ⟨n1, h1, _⟩ := (hsite.field (i := 0) (T := T.t_int) (off := 0) (n := 1) (by kernel_rfl)).of_int und_int
    obtain ⟨n2, h2, _⟩ := (hsite.field (i := 1) (T := T.t_int) (off := 1) (n := 1) (by kernel_rfl)).of_int und_int
    obtain ⟨n3, h3, _⟩ := (h.field (i := 2) (T := T.t_uint32) (off := 3) (n := 1) (by kernel_rfl)).of_int und_u32
    obtain ⟨n4, h4, _⟩ := (h.field (i := 3) (T := T.t_uint32) (off := 4) (n := 1) (by kernel_rfl)).of_int und_u32
    obtain ⟨n5, h5, _⟩ := (h.field (i := 4) (T := T.t_uint32) (off := 5) (n := 1) (by kernel_rfl)).of_int und_u32
    obtain ⟨n6, h6, _⟩ := (h.field (i := 5) (T := T.t_int64) (off := 6) (n := 1) (by kernel_rfl)).of_int (k := .i64) (by kernel_rfl)
    obtain ⟨n7, h7, _⟩ := (h.field (i := 6) (T := T.t_int) (off := 7) (n := 1) (by kernel_rfl)).of_int und_int
    obtain ⟨a, ws, h8, hs, _⟩ := words_of (h.field (i := 7) (T := T.t_sl_uint32) (off := 8) (n := 1) (by kernel_rfl))
    obtain ⟨n9, h9, _⟩ := (h.field (i := 8) (T := T.t_api_Trap) (off := 9) (n := 1) (by kernel_rfl)).of_int (k := .i64) (by kernel_rfl)
    have e0 : [x0] = [vI n0] := h0
    have e1 : [x1] = [vI n1] := h1
    have e2 : [x2] = [vI n2] := h2
    have e3 : [x3] = [vU n3] := h3
    have e4 : [x4] = [vU n4] := h4
    have e5 : [x5] = [vU n5] := h5
    have e6 : [x6] = [vI n6] := h6
    have e7 : [x7] = [vI n7] := h7
    have e8 : [x8] = [a] := h8
    have e9 : [x9] = [vI n9] := h9
    cases e0; cases e1; cases e2; cases e3; cases e4; cases e5; cases e6; cases e7; cases e8; cases e9
    exact ⟨⟨n0, n1, n2, n3, n4, n5, n6, n7, n9⟩, _, ws, rfl, hs⟩
theorem und_fnW : isFnT PG T.t_iter_Seq2_int_linesman_api_Want = true := by kernel_rfl
set_option maxRecDepth 20000 in
theorem FiberNone.law {v0 v1 v2 : Value} (g0 : FitV PG H T.t_api_Want v0) (g1 : FitV PG H T.t_api_Want v1) (g2 : FitV PG H T.t_bool v2) (h : Ow B w H) (k : ∀ w', Ow B w' H → K (vB true) w') : callW PG N.linesmanlaw17_FiberNone [v0, v1, v2] K PK w := by
  obtain ⟨x, a, xs, rfl, ha⟩ := want_of g0
  obtain ⟨y, b, ys, rfl, hb⟩ := want_of g1
  obtain ⟨zero, rfl⟩ := FitV.bool (by kernel_rfl) g2
  have hln : ∀ l : List Int, (rgs l).length = l.length := fun l => List.length_map _
  refine linesmanlaw17_FiberNone.ok ?_
  unfold linesmanlaw17_FiberNone.C
  refine al_rule h (l := x.cells a) rfl (fun b2 w1 h1 => ?_)
  refine al_rule h1 (l := y.cells b) rfl (fun b4 w2 h2 => ?_)
  refine al_rule h2 (l := [vB false]) (by kernel_rfl) (fun b6 w3 h3 => ?_)
  have h3 : Ow B w3 ((b6, cel [vB false] T.t_bool) :: (b4, wnO (y.cells b)) :: (b2, wnO (x.cells a)) :: H) := h3
  have wk : callW PG N.linesmanlaw17_works [] (fun t19 w20 => stW 1 (ptr b6) t19 (fun w21 => ldW none (ptr b6) w21 fun t22 => K t22 w21) w20) (fun ch w' => PK ch w') w3 := by
    refine works17_spec h3 (fun w4 h4 => ?_)
    refine st1_here (A := []) h4 rfl rfl (by simp) (fun w5 h5 => ?_)
    refine ld_here h5 (.head _) rfl ?_
    exact k _ (Ow.drop (Ow.drop (Ow.drop h5)))
  repeat (first | refine pu_not ?_ | refine pu_eql ?_ | refine pu_neq ?_ | refine pu_lss ?_ | refine pu_leq ?_ | refine pu_gtr ?_ | refine pu_geq ?_ | refine pu_add ?_ | refine pu_sub ?_ | refine pu_mul ?_ | refine pu_neg ?_ | refine fa_at ?_ | refine nl_ptr ?_ | refine ex20 ?_ | refine ex21 ?_ | refine ex30 ?_ | refine ex31 ?_ | refine ex32 ?_ | refine ln_rule ?_ | refine lnT_rule ?_ | refine pu_and ?_ | refine pu_or ?_ | refine pu_xor ?_ | refine pu_seq ?_ | refine pu_sne ?_)
  refine ld_here h3 (.tail _ (.tail _ (.head _))) (v := a) rfl ?_
  refine sl_ln ha ?_
  rw [hln]
  repeat (first | refine pu_not ?_ | refine pu_eql ?_ | refine pu_neq ?_ | refine pu_lss ?_ | refine pu_leq ?_ | refine pu_gtr ?_ | refine pu_geq ?_ | refine pu_add ?_ | refine pu_sub ?_ | refine pu_mul ?_ | refine pu_neg ?_ | refine fa_at ?_ | refine nl_ptr ?_ | refine ex20 ?_ | refine ex21 ?_ | refine ex30 ?_ | refine ex31 ?_ | refine ex32 ?_ | refine ln_rule ?_ | refine lnT_rule ?_ | refine pu_and ?_ | refine pu_or ?_ | refine pu_xor ?_ | refine pu_seq ?_ | refine pu_sne ?_)
  refine cnd (fun hq => wk) (fun hxl => ?_)
  have hxl : xs.length ≤ 20 := by simp at hxl; omega
  repeat (first | refine pu_not ?_ | refine pu_eql ?_ | refine pu_neq ?_ | refine pu_lss ?_ | refine pu_leq ?_ | refine pu_gtr ?_ | refine pu_geq ?_ | refine pu_add ?_ | refine pu_sub ?_ | refine pu_mul ?_ | refine pu_neg ?_ | refine fa_at ?_ | refine nl_ptr ?_ | refine ex20 ?_ | refine ex21 ?_ | refine ex30 ?_ | refine ex31 ?_ | refine ex32 ?_ | refine ln_rule ?_ | refine lnT_rule ?_ | refine pu_and ?_ | refine pu_or ?_ | refine pu_xor ?_ | refine pu_seq ?_ | refine pu_sne ?_)
  refine ld_here h3 (.tail _ (.head _)) (v := b) rfl ?_
  refine sl_ln hb ?_
  rw [hln]
  repeat (first | refine pu_not ?_ | refine pu_eql ?_ | refine pu_neq ?_ | refine pu_lss ?_ | refine pu_leq ?_ | refine pu_gtr ?_ | refine pu_geq ?_ | refine pu_add ?_ | refine pu_sub ?_ | refine pu_mul ?_ | refine pu_neg ?_ | refine fa_at ?_ | refine nl_ptr ?_ | refine ex20 ?_ | refine ex21 ?_ | refine ex30 ?_ | refine ex31 ?_ | refine ex32 ?_ | refine ln_rule ?_ | refine lnT_rule ?_ | refine pu_and ?_ | refine pu_or ?_ | refine pu_xor ?_ | refine pu_seq ?_ | refine pu_sne ?_)
  refine cnd (fun hq => wk) (fun hyl => ?_)
  have hyl : ys.length ≤ 20 := by simp at hyl; omega
  clear wk
  refine cnd (fun hz => ?_) (fun hz => ?_)
  · refine pu_build [.pointer none, vI 0] (by kernel_rfl) ?_
    refine al_rule h3 (l := [.pointer none, vI 0]) rfl (fun b32 w4 h4 => ?_)
    obtain ⟨sv, hsvv⟩ : ∃ sv, sv = ptr b32 := ⟨_, rfl⟩
    have hsv : Nofi ((b32, cel [.pointer none, vI 0] T.t_fiber_Fiber) :: (b6, cel [vB false] T.t_bool) :: (b4, wnO (y.cells b)) :: (b2, wnO (x.cells a)) :: H) sv := .inr ⟨b32, .pointer none, hsvv, .head _⟩
    have hfG : ((b6, cel [vB false] T.t_bool) :: H).Sublist ((b32, cel [.pointer none, vI 0] T.t_fiber_Fiber) :: (b6, cel [vB false] T.t_bool) :: (b4, wnO (y.cells b)) :: (b2, wnO (x.cells a)) :: H) := .cons _ (.cons_cons _ (.cons _ (.cons _ (.refl _))))
    have m2 : (b2, wnO (x.cells a)) ∈ (b32, cel [.pointer none, vI 0] T.t_fiber_Fiber) :: (b6, cel [vB false] T.t_bool) :: (b4, wnO (y.cells b)) :: (b2, wnO (x.cells a)) :: H := .tail _ (.tail _ (.tail _ (.head _)))
    have m4 : (b4, wnO (y.cells b)) ∈ (b32, cel [.pointer none, vI 0] T.t_fiber_Fiber) :: (b6, cel [vB false] T.t_bool) :: (b4, wnO (y.cells b)) :: (b2, wnO (x.cells a)) :: H := .tail _ (.tail _ (.head _))
    have hHG : ∀ z, z ∈ H → z ∈ (b32, cel [.pointer none, vI 0] T.t_fiber_Fiber) :: (b6, cel [vB false] T.t_bool) :: (b4, wnO (y.cells b)) :: (b2, wnO (x.cells a)) :: H := fun z hz => .tail _ (.tail _ (.tail _ (.tail _ hz)))
    rw [← hsvv]
    generalize (b32, cel [.pointer none, vI 0] T.t_fiber_Fiber) :: (b6, cel [vB false] T.t_bool) :: (b4, wnO (y.cells b)) :: (b2, wnO (x.cells a)) :: H = G at *
    refine want_none h4 hsv (fun w5 h5 => ?_)
    repeat (first | refine pu_not ?_ | refine pu_eql ?_ | refine pu_neq ?_ | refine pu_lss ?_ | refine pu_leq ?_ | refine pu_gtr ?_ | refine pu_geq ?_ | refine pu_add ?_ | refine pu_sub ?_ | refine pu_mul ?_ | refine pu_neg ?_ | refine fa_at ?_ | refine nl_ptr ?_ | refine ex20 ?_ | refine ex21 ?_ | refine ex30 ?_ | refine ex31 ?_ | refine ex32 ?_ | refine ln_rule ?_ | refine lnT_rule ?_ | refine pu_and ?_ | refine pu_or ?_ | refine pu_xor ?_ | refine pu_seq ?_ | refine pu_sne ?_)
    refine al_rule h5 (l := wt0.cells (.slice none 0 0)) zwant (fun b39 w6 h6 => ?_)
    refine st_here (A := []) h6 (wt0.cells (.slice none 0 0)) rfl rfl rfl (by simp [wt_len]) (fun w7 h7 => ?_)
    have h7 : Ow B w7 G := Ow.drop h7
    refine run17_none h7 hsv (fun w8 h8 => ?_)
    repeat (first | refine pu_not ?_ | refine pu_eql ?_ | refine pu_neq ?_ | refine pu_lss ?_ | refine pu_leq ?_ | refine pu_gtr ?_ | refine pu_geq ?_ | refine pu_add ?_ | refine pu_sub ?_ | refine pu_mul ?_ | refine pu_neg ?_ | refine fa_at ?_ | refine nl_ptr ?_ | refine ex20 ?_ | refine ex21 ?_ | refine ex30 ?_ | refine ex31 ?_ | refine ex32 ?_ | refine ln_rule ?_ | refine lnT_rule ?_ | refine pu_and ?_ | refine pu_or ?_ | refine pu_xor ?_ | refine pu_seq ?_ | refine pu_sne ?_)
    refine ahead_none h8 hsv (fun b7 b8 w9 h9 => ?_)
    refine pu_fnl und_fnW ?_
    refine cnd_f rfl ?_
    refine range_fn (X := G) (H := [(b7, cel [.pointer none] T.t_ptr_fiber_Fiber), (b8, cel [vI 3] T.t_int)]) (A := linesmanlaw17_FiberNone.note) (fuel := 400) mixed (ahead1_none (.head _) (.tail _ (.head _))) (by simp) (fun a ha => by cases ha) (h9.perm (List.perm_append_comm (l₁ := [_, _]))) (fun _ Y => Y = G) (fun _ _ => False) rfl ?_ ?_ ?_
    · intro lp r i args Y F R w10 hL
      simp at hL
    rotate_left
    · intro mk j Y w10 hz
      exact hz.elim
    rintro mk Y w10 hY h10
    rw [hY] at h10
    clear hY
    have hG2 : ∀ x, x ∈ G → x ∈ deFk mk :: (G ++ [(b7, cel [.pointer none] T.t_ptr_fiber_Fiber), (b8, cel [vI 3] T.t_int)]) := fun x hx => .tail _ (List.mem_append_left _ hx)
    have hfin : ∀ {w : World}, Ow B w (deFk mk :: (G ++ [(b7, cel [.pointer none] T.t_ptr_fiber_Fiber), (b8, cel [vI 3] T.t_int)])) → Ow B w (deFk mk :: (b6, cel [vB false] T.t_bool) :: H) := fun h =>
      h.sub ((hfG.trans (List.sublist_append_left _ _)).cons_cons _)
    have hsv := hsv.mono hG2
    have m2 := hG2 _ m2
    have m4 := hG2 _ m4
    have ha := ha.mono fun z hz => hG2 _ (hHG z hz)
    have hb := hb.mono fun z hz => hG2 _ (hHG z hz)
    have h10 : Ow B w10 (deFk mk :: (G ++ [(b7, cel [.pointer none] T.t_ptr_fiber_Fiber), (b8, cel [vI 3] T.t_int)])) := h10
    generalize hD : deFk mk :: (G ++ [(b7, cel [.pointer none] T.t_ptr_fiber_Fiber), (b8, cel [vI 3] T.t_int)]) = D at *
    refine ldn_here h10 m2 (vs := x.cells a) rfl rfl ?_
    refine ldn_here h10 m4 (vs := y.cells b) rfl rfl ?_
    refine rsame_spec ha hb (by omega) h10 (fun w11 h11 => ?_)
    repeat (first | refine pu_not ?_ | refine pu_eql ?_ | refine pu_neq ?_ | refine pu_lss ?_ | refine pu_leq ?_ | refine pu_gtr ?_ | refine pu_geq ?_ | refine pu_add ?_ | refine pu_sub ?_ | refine pu_mul ?_ | refine pu_neg ?_ | refine fa_at ?_ | refine nl_ptr ?_ | refine ex20 ?_ | refine ex21 ?_ | refine ex30 ?_ | refine ex31 ?_ | refine ex32 ?_ | refine ln_rule ?_ | refine lnT_rule ?_ | refine pu_and ?_ | refine pu_or ?_ | refine pu_xor ?_ | refine pu_seq ?_ | refine pu_sne ?_)
    refine cnd_t rfl ?_
    refine num17_spec h11 (fun w12 h12 => ?_)
    repeat (first | refine pu_not ?_ | refine pu_eql ?_ | refine pu_neq ?_ | refine pu_lss ?_ | refine pu_leq ?_ | refine pu_gtr ?_ | refine pu_geq ?_ | refine pu_add ?_ | refine pu_sub ?_ | refine pu_mul ?_ | refine pu_neg ?_ | refine fa_at ?_ | refine nl_ptr ?_ | refine ex20 ?_ | refine ex21 ?_ | refine ex30 ?_ | refine ex31 ?_ | refine ex32 ?_ | refine ln_rule ?_ | refine lnT_rule ?_ | refine pu_and ?_ | refine pu_or ?_ | refine pu_xor ?_ | refine pu_seq ?_ | refine pu_sne ?_)
    refine cnd_t rfl ?_
    refine do17_none h12 hsv (fun w13 h13 => ?_)
    refine num17_spec h13 (fun w14 h14 => ?_)
    repeat (first | refine pu_not ?_ | refine pu_eql ?_ | refine pu_neq ?_ | refine pu_lss ?_ | refine pu_leq ?_ | refine pu_gtr ?_ | refine pu_geq ?_ | refine pu_add ?_ | refine pu_sub ?_ | refine pu_mul ?_ | refine pu_neg ?_ | refine fa_at ?_ | refine nl_ptr ?_ | refine ex20 ?_ | refine ex21 ?_ | refine ex30 ?_ | refine ex31 ?_ | refine ex32 ?_ | refine ln_rule ?_ | refine lnT_rule ?_ | refine pu_and ?_ | refine pu_or ?_ | refine pu_xor ?_ | refine pu_seq ?_ | refine pu_sne ?_)
    refine cnd_t rfl ?_
    refine fstack_none h14 hsv ?_
    refine pu_pnil und_ptr ?_
    refine cnd_t rfl ?_
    refine fended_none h14 hsv ?_
    repeat (first | refine pu_not ?_ | refine pu_eql ?_ | refine pu_neq ?_ | refine pu_lss ?_ | refine pu_leq ?_ | refine pu_gtr ?_ | refine pu_geq ?_ | refine pu_add ?_ | refine pu_sub ?_ | refine pu_mul ?_ | refine pu_neg ?_ | refine fa_at ?_ | refine nl_ptr ?_ | refine ex20 ?_ | refine ex21 ?_ | refine ex30 ?_ | refine ex31 ?_ | refine ex32 ?_ | refine ln_rule ?_ | refine lnT_rule ?_ | refine pu_and ?_ | refine pu_or ?_ | refine pu_xor ?_ | refine pu_seq ?_ | refine pu_sne ?_)
    refine cnd_t rfl ?_
    refine fcopy_none h14 hsv ?_
    refine pu_pnil (e := T.t_fiber_Fiber) (by kernel_rfl) ?_
    refine cnd_t rfl ?_
    refine ldn_here h14 m2 (vs := x.cells a) rfl rfl ?_
    refine ldn_here h14 m4 (vs := y.cells b) rfl rfl ?_
    refine fsame_spec ha hb (by omega) h14 (fun w15 h15 => ?_)
    refine pu_beql (by kernel_rfl) ?_
    refine cnd_t (by simp) ?_
    refine ldn_here h15 m4 (vs := y.cells b) rfl rfl ?_
    refine ldn_here h15 m2 (vs := x.cells a) rfl rfl ?_
    refine fsame_spec hb ha (by omega) h15 (fun w16 h16 => ?_)
    refine pu_beql (by kernel_rfl) ?_
    refine cnd_t (by simp [eq_comm]) ?_
    refine ldn_here h16 m2 (vs := x.cells a) rfl rfl ?_
    refine ldn_here h16 m2 (vs := x.cells a) rfl rfl ?_
    refine fsame_spec ha ha (by omega) h16 (fun w17 h17 => ?_)
    refine cnd_t (by simp) ?_
    refine works17_spec h17 (fun w18 h18 => ?_)
    refine st1_here (A := [_]) (hfin h18) rfl rfl (by simp) (fun w19 h19 => ?_)
    refine lv_ret h19 (fun w20 h20 => ?_)
    refine ld_here h20 (.head _) rfl ?_
    exact k _ h20.drop
  · have h4 := h3
    obtain ⟨sv, hsvv⟩ : ∃ sv, sv = Value.pointer none := ⟨_, rfl⟩
    have hsv : Nofi ((b6, cel [vB false] T.t_bool) :: (b4, wnO (y.cells b)) :: (b2, wnO (x.cells a)) :: H) sv := .inl hsvv
    have hfG : ((b6, cel [vB false] T.t_bool) :: H).Sublist ((b6, cel [vB false] T.t_bool) :: (b4, wnO (y.cells b)) :: (b2, wnO (x.cells a)) :: H) := .cons_cons _ (.cons _ (.cons _ (.refl _)))
    have m2 : (b2, wnO (x.cells a)) ∈ (b6, cel [vB false] T.t_bool) :: (b4, wnO (y.cells b)) :: (b2, wnO (x.cells a)) :: H := .tail _ (.tail _ (.head _))
    have m4 : (b4, wnO (y.cells b)) ∈ (b6, cel [vB false] T.t_bool) :: (b4, wnO (y.cells b)) :: (b2, wnO (x.cells a)) :: H := .tail _ (.head _)
    have hHG : ∀ z, z ∈ H → z ∈ (b6, cel [vB false] T.t_bool) :: (b4, wnO (y.cells b)) :: (b2, wnO (x.cells a)) :: H := fun z hz => .tail _ (.tail _ (.tail _ hz))
    generalize (b6, cel [vB false] T.t_bool) :: (b4, wnO (y.cells b)) :: (b2, wnO (x.cells a)) :: H = G at *
    subst hsvv
    refine want_none h4 hsv (fun w5 h5 => ?_)
    repeat (first | refine pu_not ?_ | refine pu_eql ?_ | refine pu_neq ?_ | refine pu_lss ?_ | refine pu_leq ?_ | refine pu_gtr ?_ | refine pu_geq ?_ | refine pu_add ?_ | refine pu_sub ?_ | refine pu_mul ?_ | refine pu_neg ?_ | refine fa_at ?_ | refine nl_ptr ?_ | refine ex20 ?_ | refine ex21 ?_ | refine ex30 ?_ | refine ex31 ?_ | refine ex32 ?_ | refine ln_rule ?_ | refine lnT_rule ?_ | refine pu_and ?_ | refine pu_or ?_ | refine pu_xor ?_ | refine pu_seq ?_ | refine pu_sne ?_)
    refine al_rule h5 (l := wt0.cells (.slice none 0 0)) zwant (fun b39 w6 h6 => ?_)
    refine st_here (A := []) h6 (wt0.cells (.slice none 0 0)) rfl rfl rfl (by simp [wt_len]) (fun w7 h7 => ?_)
    have h7 : Ow B w7 G := Ow.drop h7
    refine run17_none h7 hsv (fun w8 h8 => ?_)
    repeat (first | refine pu_not ?_ | refine pu_eql ?_ | refine pu_neq ?_ | refine pu_lss ?_ | refine pu_leq ?_ | refine pu_gtr ?_ | refine pu_geq ?_ | refine pu_add ?_ | refine pu_sub ?_ | refine pu_mul ?_ | refine pu_neg ?_ | refine fa_at ?_ | refine nl_ptr ?_ | refine ex20 ?_ | refine ex21 ?_ | refine ex30 ?_ | refine ex31 ?_ | refine ex32 ?_ | refine ln_rule ?_ | refine lnT_rule ?_ | refine pu_and ?_ | refine pu_or ?_ | refine pu_xor ?_ | refine pu_seq ?_ | refine pu_sne ?_)
    refine ahead_none h8 hsv (fun b7 b8 w9 h9 => ?_)
    refine pu_fnl und_fnW ?_
    refine cnd_f rfl ?_
    refine range_fn (X := G) (H := [(b7, cel [.pointer none] T.t_ptr_fiber_Fiber), (b8, cel [vI 3] T.t_int)]) (A := linesmanlaw17_FiberNone.note) (fuel := 400) mixed (ahead1_none (.head _) (.tail _ (.head _))) (by simp) (fun a ha => by cases ha) (h9.perm (List.perm_append_comm (l₁ := [_, _]))) (fun _ Y => Y = G) (fun _ _ => False) rfl ?_ ?_ ?_
    · intro lp r i args Y F R w10 hL
      simp at hL
    rotate_left
    · intro mk j Y w10 hz
      exact hz.elim
    rintro mk Y w10 hY h10
    rw [hY] at h10
    clear hY
    have hG2 : ∀ x, x ∈ G → x ∈ deFk mk :: (G ++ [(b7, cel [.pointer none] T.t_ptr_fiber_Fiber), (b8, cel [vI 3] T.t_int)]) := fun x hx => .tail _ (List.mem_append_left _ hx)
    have hfin : ∀ {w : World}, Ow B w (deFk mk :: (G ++ [(b7, cel [.pointer none] T.t_ptr_fiber_Fiber), (b8, cel [vI 3] T.t_int)])) → Ow B w (deFk mk :: (b6, cel [vB false] T.t_bool) :: H) := fun h =>
      h.sub ((hfG.trans (List.sublist_append_left _ _)).cons_cons _)
    have hsv := hsv.mono hG2
    have m2 := hG2 _ m2
    have m4 := hG2 _ m4
    have ha := ha.mono fun z hz => hG2 _ (hHG z hz)
    have hb := hb.mono fun z hz => hG2 _ (hHG z hz)
    have h10 : Ow B w10 (deFk mk :: (G ++ [(b7, cel [.pointer none] T.t_ptr_fiber_Fiber), (b8, cel [vI 3] T.t_int)])) := h10
    generalize hD : deFk mk :: (G ++ [(b7, cel [.pointer none] T.t_ptr_fiber_Fiber), (b8, cel [vI 3] T.t_int)]) = D at *
    refine ldn_here h10 m2 (vs := x.cells a) rfl rfl ?_
    refine ldn_here h10 m4 (vs := y.cells b) rfl rfl ?_
    refine rsame_spec ha hb (by omega) h10 (fun w11 h11 => ?_)
    repeat (first | refine pu_not ?_ | refine pu_eql ?_ | refine pu_neq ?_ | refine pu_lss ?_ | refine pu_leq ?_ | refine pu_gtr ?_ | refine pu_geq ?_ | refine pu_add ?_ | refine pu_sub ?_ | refine pu_mul ?_ | refine pu_neg ?_ | refine fa_at ?_ | refine nl_ptr ?_ | refine ex20 ?_ | refine ex21 ?_ | refine ex30 ?_ | refine ex31 ?_ | refine ex32 ?_ | refine ln_rule ?_ | refine lnT_rule ?_ | refine pu_and ?_ | refine pu_or ?_ | refine pu_xor ?_ | refine pu_seq ?_ | refine pu_sne ?_)
    refine cnd_t rfl ?_
    refine num17_spec h11 (fun w12 h12 => ?_)
    repeat (first | refine pu_not ?_ | refine pu_eql ?_ | refine pu_neq ?_ | refine pu_lss ?_ | refine pu_leq ?_ | refine pu_gtr ?_ | refine pu_geq ?_ | refine pu_add ?_ | refine pu_sub ?_ | refine pu_mul ?_ | refine pu_neg ?_ | refine fa_at ?_ | refine nl_ptr ?_ | refine ex20 ?_ | refine ex21 ?_ | refine ex30 ?_ | refine ex31 ?_ | refine ex32 ?_ | refine ln_rule ?_ | refine lnT_rule ?_ | refine pu_and ?_ | refine pu_or ?_ | refine pu_xor ?_ | refine pu_seq ?_ | refine pu_sne ?_)
    refine cnd_t rfl ?_
    refine do17_none h12 hsv (fun w13 h13 => ?_)
    refine num17_spec h13 (fun w14 h14 => ?_)
    repeat (first | refine pu_not ?_ | refine pu_eql ?_ | refine pu_neq ?_ | refine pu_lss ?_ | refine pu_leq ?_ | refine pu_gtr ?_ | refine pu_geq ?_ | refine pu_add ?_ | refine pu_sub ?_ | refine pu_mul ?_ | refine pu_neg ?_ | refine fa_at ?_ | refine nl_ptr ?_ | refine ex20 ?_ | refine ex21 ?_ | refine ex30 ?_ | refine ex31 ?_ | refine ex32 ?_ | refine ln_rule ?_ | refine lnT_rule ?_ | refine pu_and ?_ | refine pu_or ?_ | refine pu_xor ?_ | refine pu_seq ?_ | refine pu_sne ?_)
    refine cnd_t rfl ?_
    refine fstack_none h14 hsv ?_
    refine pu_pnil und_ptr ?_
    refine cnd_t rfl ?_
    refine fended_none h14 hsv ?_
    repeat (first | refine pu_not ?_ | refine pu_eql ?_ | refine pu_neq ?_ | refine pu_lss ?_ | refine pu_leq ?_ | refine pu_gtr ?_ | refine pu_geq ?_ | refine pu_add ?_ | refine pu_sub ?_ | refine pu_mul ?_ | refine pu_neg ?_ | refine fa_at ?_ | refine nl_ptr ?_ | refine ex20 ?_ | refine ex21 ?_ | refine ex30 ?_ | refine ex31 ?_ | refine ex32 ?_ | refine ln_rule ?_ | refine lnT_rule ?_ | refine pu_and ?_ | refine pu_or ?_ | refine pu_xor ?_ | refine pu_seq ?_ | refine pu_sne ?_)
    refine cnd_t rfl ?_
    refine fcopy_none h14 hsv ?_
    refine pu_pnil (e := T.t_fiber_Fiber) (by kernel_rfl) ?_
    refine cnd_t rfl ?_
    refine ldn_here h14 m2 (vs := x.cells a) rfl rfl ?_
    refine ldn_here h14 m4 (vs := y.cells b) rfl rfl ?_
    refine fsame_spec ha hb (by omega) h14 (fun w15 h15 => ?_)
    refine pu_beql (by kernel_rfl) ?_
    refine cnd_t (by simp) ?_
    refine ldn_here h15 m4 (vs := y.cells b) rfl rfl ?_
    refine ldn_here h15 m2 (vs := x.cells a) rfl rfl ?_
    refine fsame_spec hb ha (by omega) h15 (fun w16 h16 => ?_)
    refine pu_beql (by kernel_rfl) ?_
    refine cnd_t (by simp [eq_comm]) ?_
    refine ldn_here h16 m2 (vs := x.cells a) rfl rfl ?_
    refine ldn_here h16 m2 (vs := x.cells a) rfl rfl ?_
    refine fsame_spec ha ha (by omega) h16 (fun w17 h17 => ?_)
    refine cnd_t (by simp) ?_
    refine works17_spec h17 (fun w18 h18 => ?_)
    refine st1_here (A := [_]) (hfin h18) rfl rfl (by simp) (fun w19 h19 => ?_)
    refine lv_ret h19 (fun w20 h20 => ?_)
    refine ld_here h20 (.head _) rfl ?_
    exact k _ h20.drop
end
end Go.Proofs.YtkkkcafkepnecaaGreat

