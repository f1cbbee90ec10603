/- Fibers: the rows of the chapter. -/
import Derived.Test.YtkkkcafkepnecaaGreatYD
import Derived.Test.YtkkkcafkepnecaaGreatGE

set_option linter.unusedVariables false
set_option linter.unusedSimpArgs false
namespace Go.Proofs.YtkkkcafkepnecaaGreat
open Go Go.RowKit Vc Ar
attribute [local irreducible] binV Op.unary convert nlW faW ldS ldW ixS ixA ixV ixT exW lnS lnT pu stW alW opW opU bsW mkW

section
variable {B w : World} {H X F F' Q R : Hp} {K : Value → World → Prop} {PK : List PanicEntry → World → Prop} {KK : Value → Prop} {p : Pr} {s s' : SK} {v a b : Value} {bf bw : Nat} {fr e : Int} {x y : Wt} {xs ys : List Int} {m : Frm} {ms : List Frm}
abbrev deFk (b : Nat) : Nat × Obj := (b, .deferred (some []))
theorem ow_drop {A : Hp} {w : World} (h : Ow B w (A ++ R)) : Ow B w R := h.sub (List.sublist_append_right _ _)
theorem want_kn (good : Good p) (hI : Inv p s.frs) (hl : s.frs = m :: ms) (hx : (wantW fr m.fn m.pc (m :: ms) (insF p m)).1 = x) (hs : s.ok p F) (hF : ∀ x, x ∈ F → x ∈ R) (hfr : fr ≠ 0) (hf : (bf, fbO s.b fr) ∈ R) (h : Ow B w (s.hp p ++ R))
    (k : ∀ v w', plainV v = true → Ow B w' (s.hp p ++ R) → K (.tuple #[.agg (x.cells v).toArray, vB true]) w') : callW PG N.fiber_Fiber_Want [ptr bf] K PK w := by
  refine want_known good hI hl hs hF hfr hf h (fun S v w' hv _ h' => ?_)
  rw [hx]
  exact k v w' hv (ow_drop h')
set_option maxRecDepth 20000 in
theorem works17_spec (h : Ow B w H) (k : ∀ w', Ow B w' H → K (vB true) w') : callW PG N.linesmanlaw17_works [] K PK w := by
  refine linesmanlaw17_works.ok ?_
  unfold linesmanlaw17_works.C
  refine given17_spec h (fun S v w1 hv h1 => ?_)
  refine bs_rule h1 (rgs [0, 3]) (by kernel_rfl) (fun b5 w2 h2 => ?_)
  refine fnew_spec (p := p17) (ws := [0, 3]) (fr := 1) (X := (b5, cel (rgs [0, 3]) T.t_uint32) :: S) (hv.mono fun x hx => .tail _ hx) (sl_here (l := rgs [0, 3]) (.head _)) (fun x hx => (List.mem_cons.1 hx).elim (fun h => by rw [h]; exact .head _) fun h => .tail _ (List.mem_append_left _ h)) (by simp [p17]) (by simp) h2
    (fun hb => absurd (by decide) hb) (fun _ hb => by rw [p17_good.ok] at hb; cases hb) (fun _ _ hb => absurd (by decide) (hb ⟨2, [hConst, hStore, gRet]⟩ (by decide) rfl)) (fun _ _ f _ hf _ s F bf w3 hres hfrs hs h3 => ?_)
  have hf : f = ⟨2, [hConst, hStore, gRet]⟩ := (Option.some.inj hf).symm
  subst hf
  have h3 : Ow B w3 (s.hp p17 ++ ((bf, fbO s.b 1) :: (F ++ (b5, cel (rgs [0, 3]) T.t_uint32) :: (S ++ H)))) := h3.perm List.perm_middle.symm
  generalize hR : (bf, fbO s.b 1) :: (F ++ (b5, cel (rgs [0, 3]) T.t_uint32) :: (S ++ H)) = R at h3
  have hF : ∀ x, x ∈ F → x ∈ R := fun x hx => by rw [← hR]; exact .tail _ (List.mem_append_left _ hx)
  have hfm : (bf, fbO s.b 1) ∈ R := by rw [← hR]; exact .head _
  have hend : ∀ {A : Hp} {w : World}, Ow B w (A ++ R) → Ow B w H := fun h => by
    rw [← hR] at h
    exact h.sub (((((List.sublist_append_right _ _).trans (List.sublist_cons_self _ _)).trans (List.sublist_append_right _ _)).trans (List.sublist_cons_self _ _)).trans (List.sublist_append_right _ _))
  clear hR h1 h2
  have hfrs : s.frs = k0 := hfrs
  have i0 : Inv p17 k0 := jn 0 (by omega) _ rfl u03
  have i1 : Inv p17 k1 := jn 1 (by omega) _ rfl u73
  have i2 : Inv p17 k2 := jn 2 (by omega) _ rfl u73
  repeat (first | refine pu_not ?_ | refine pu_eql ?_ | refine pu_neq ?_ | refine pu_lss ?_ | refine pu_leq ?_ | refine pu_gtr ?_ | refine pu_geq ?_ | refine pu_add ?_ | refine pu_sub ?_ | refine pu_mul ?_ | refine pu_neg ?_ | refine fa_at ?_ | refine nl_ptr ?_ | refine ex20 ?_ | refine ex21 ?_ | refine ex30 ?_ | refine ex31 ?_ | refine ex32 ?_ | refine ln_rule ?_ | refine lnT_rule ?_ | refine pu_and ?_ | refine pu_or ?_ | refine pu_xor ?_ | refine pu_seq ?_ | refine pu_sne ?_)
  refine want_kn p17_good (by rw [hfrs]; exact i0) hfrs fw0 hs hF (by decide) hfm h3 (fun va w4 hva h4 => ?_)
  repeat (first | refine pu_not ?_ | refine pu_eql ?_ | refine pu_neq ?_ | refine pu_lss ?_ | refine pu_leq ?_ | refine pu_gtr ?_ | refine pu_geq ?_ | refine pu_add ?_ | refine pu_sub ?_ | refine pu_mul ?_ | refine pu_neg ?_ | refine fa_at ?_ | refine nl_ptr ?_ | refine ex20 ?_ | refine ex21 ?_ | refine ex30 ?_ | refine ex31 ?_ | refine ex32 ?_ | refine ln_rule ?_ | refine lnT_rule ?_ | refine pu_and ?_ | refine pu_or ?_ | refine pu_xor ?_ | refine pu_seq ?_ | refine pu_sne ?_)
  refine al_rule h4 (l := wt0.cells (.slice none 0 0)) zwant (fun b16 w5 h5 => ?_)
  refine st_here (A := []) h5 (Wt.cells ⟨1, 0, 0, 0, 0, 0, 0, 0, 0⟩ va) rfl rfl (wt_plain _ hva) (by simp [wt_len]) (fun w6 h6 => ?_)
  rw [wt_set _ _ _ rfl] at h6
  have h6 := ins_perm h6
  refine do_known p17_good i0 hs (fun x hx => .tail _ (hF x hx)) hfrs hres fo0 (by decide) (by decide) (.tail _ hfm) h6 (fun s1 w7 hb1 hs1 hl1 hr1 h7 => ?_)
  rw [← hb1] at hfm
  refine want_kn p17_good (by rw [hl1]; exact i1) hl1 fw1 hs1 (fun x hx => .tail _ (hF x hx)) (by decide) (.tail _ hfm) h7 (fun vb w8 hvb h8 => ?_)
  repeat (first | refine pu_not ?_ | refine pu_eql ?_ | refine pu_neq ?_ | refine pu_lss ?_ | refine pu_leq ?_ | refine pu_gtr ?_ | refine pu_geq ?_ | refine pu_add ?_ | refine pu_sub ?_ | refine pu_mul ?_ | refine pu_neg ?_ | refine fa_at ?_ | refine nl_ptr ?_ | refine ex20 ?_ | refine ex21 ?_ | refine ex30 ?_ | refine ex31 ?_ | refine ex32 ?_ | refine ln_rule ?_ | refine lnT_rule ?_ | refine pu_and ?_ | refine pu_or ?_ | refine pu_xor ?_ | refine pu_seq ?_ | refine pu_sne ?_)
  refine al_rule h8 (l := wt0.cells (.slice none 0 0)) zwant (fun b27 w9 h9 => ?_)
  refine st_here (A := []) h9 (Wt.cells ⟨3, 0, 1, 7, 3, 0, 0, 0, 0⟩ vb) rfl rfl (wt_plain _ hvb) (by simp [wt_len]) (fun w10 h10 => ?_)
  rw [wt_set _ _ _ rfl] at h10
  have h10 := ins_perm h10
  refine do_known p17_good i1 hs1 (fun x hx => .tail _ (.tail _ (hF x hx))) hl1 hr1 fo1 (by decide) (by decide) (.tail _ (.tail _ hfm)) h10 (fun s2 w11 hb2 hs2 hl2 hr2 h11 => ?_)
  rw [← hb2] at hfm
  refine want_kn p17_good (by rw [hl2]; exact i2) hl2 fw2 hs2 (fun x hx => .tail _ (.tail _ (hF x hx))) (by decide) (.tail _ (.tail _ hfm)) h11 (fun vc w12 hvc h12 => ?_)
  repeat (first | refine pu_not ?_ | refine pu_eql ?_ | refine pu_neq ?_ | refine pu_lss ?_ | refine pu_leq ?_ | refine pu_gtr ?_ | refine pu_geq ?_ | refine pu_add ?_ | refine pu_sub ?_ | refine pu_mul ?_ | refine pu_neg ?_ | refine fa_at ?_ | refine nl_ptr ?_ | refine ex20 ?_ | refine ex21 ?_ | refine ex30 ?_ | refine ex31 ?_ | refine ex32 ?_ | refine ln_rule ?_ | refine lnT_rule ?_ | refine pu_and ?_ | refine pu_or ?_ | refine pu_xor ?_ | refine pu_seq ?_ | refine pu_sne ?_)
  refine al_rule h12 (l := wt0.cells (.slice none 0 0)) zwant (fun b38 w13 h13 => ?_)
  refine st_here (A := []) h13 (Wt.cells ⟨13, 0, 2, 0, 0, 0, 0, 0, 0⟩ vc) rfl rfl (wt_plain _ hvc) (by simp [wt_len]) (fun w14 h14 => ?_)
  rw [wt_set _ _ _ rfl] at h14
  have h14 := ins_perm h14
  refine do_known p17_good i2 hs2 (fun x hx => .tail _ (.tail _ (.tail _ (hF x hx)))) hl2 hr2 fo2 (by decide) (by decide) (.tail _ (.tail _ (.tail _ hfm))) h14 (fun s3 w15 hb3 hs3 hl3 hr3 h15 => ?_)
  rw [← hb3] at hfm
  refine num17_spec h15 (fun w16 h16 => ?_)
  refine num17_spec h16 (fun w17 h17 => ?_)
  repeat (first | refine pu_not ?_ | refine pu_eql ?_ | refine pu_neq ?_ | refine pu_lss ?_ | refine pu_leq ?_ | refine pu_gtr ?_ | refine pu_geq ?_ | refine pu_add ?_ | refine pu_sub ?_ | refine pu_mul ?_ | refine pu_neg ?_ | refine fa_at ?_ | refine nl_ptr ?_ | refine ex20 ?_ | refine ex21 ?_ | refine ex30 ?_ | refine ex31 ?_ | refine ex32 ?_ | refine ln_rule ?_ | refine lnT_rule ?_ | refine pu_and ?_ | refine pu_or ?_ | refine pu_xor ?_ | refine pu_seq ?_ | refine pu_sne ?_)
  refine num17_spec h17 (fun w18 h18 => ?_)
  repeat (first | refine pu_not ?_ | refine pu_eql ?_ | refine pu_neq ?_ | refine pu_lss ?_ | refine pu_leq ?_ | refine pu_gtr ?_ | refine pu_geq ?_ | refine pu_add ?_ | refine pu_sub ?_ | refine pu_mul ?_ | refine pu_neg ?_ | refine fa_at ?_ | refine nl_ptr ?_ | refine ex20 ?_ | refine ex21 ?_ | refine ex30 ?_ | refine ex31 ?_ | refine ex32 ?_ | refine ln_rule ?_ | refine lnT_rule ?_ | refine pu_and ?_ | refine pu_or ?_ | refine pu_xor ?_ | refine pu_seq ?_ | refine pu_sne ?_)
  refine num17_spec h18 (fun w19 h19 => ?_)
  repeat (first | refine pu_not ?_ | refine pu_eql ?_ | refine pu_neq ?_ | refine pu_lss ?_ | refine pu_leq ?_ | refine pu_gtr ?_ | refine pu_geq ?_ | refine pu_add ?_ | refine pu_sub ?_ | refine pu_mul ?_ | refine pu_neg ?_ | refine fa_at ?_ | refine nl_ptr ?_ | refine ex20 ?_ | refine ex21 ?_ | refine ex30 ?_ | refine ex31 ?_ | refine ex32 ?_ | refine ln_rule ?_ | refine lnT_rule ?_ | refine pu_and ?_ | refine pu_or ?_ | refine pu_xor ?_ | refine pu_seq ?_ | refine pu_sne ?_)
  refine cnd_t (by decide +kernel) ?_
  refine cnd_t rfl ?_
  refine cnd_t rfl ?_
  refine cnd_t rfl ?_
  have n38 : (b38, wnO (Wt.cells ⟨13, 0, 2, 0, 0, 0, 0, 0, 0⟩ vc)) ∈ s3.hp p17 ++ ((b38, wnO (Wt.cells ⟨13, 0, 2, 0, 0, 0, 0, 0, 0⟩ vc)) :: (b27, wnO (Wt.cells ⟨3, 0, 1, 7, 3, 0, 0, 0, 0⟩ vb)) :: (b16, wnO (Wt.cells ⟨1, 0, 0, 0, 0, 0, 0, 0, 0⟩ va)) :: R) := List.mem_append_right _ (.head _)
  have n27 : (b27, wnO (Wt.cells ⟨3, 0, 1, 7, 3, 0, 0, 0, 0⟩ vb)) ∈ s3.hp p17 ++ ((b38, wnO (Wt.cells ⟨13, 0, 2, 0, 0, 0, 0, 0, 0⟩ vc)) :: (b27, wnO (Wt.cells ⟨3, 0, 1, 7, 3, 0, 0, 0, 0⟩ vb)) :: (b16, wnO (Wt.cells ⟨1, 0, 0, 0, 0, 0, 0, 0, 0⟩ va)) :: R) := List.mem_append_right _ (.tail _ (.head _))
  have n16 : (b16, wnO (Wt.cells ⟨1, 0, 0, 0, 0, 0, 0, 0, 0⟩ va)) ∈ s3.hp p17 ++ ((b38, wnO (Wt.cells ⟨13, 0, 2, 0, 0, 0, 0, 0, 0⟩ vc)) :: (b27, wnO (Wt.cells ⟨3, 0, 1, 7, 3, 0, 0, 0, 0⟩ vb)) :: (b16, wnO (Wt.cells ⟨1, 0, 0, 0, 0, 0, 0, 0, 0⟩ va)) :: R) := List.mem_append_right _ (.tail _ (.tail _ (.head _)))
  repeat (first | refine pu_not ?_ | refine pu_eql ?_ | refine pu_neq ?_ | refine pu_lss ?_ | refine pu_leq ?_ | refine pu_gtr ?_ | refine pu_geq ?_ | refine pu_add ?_ | refine pu_sub ?_ | refine pu_mul ?_ | refine pu_neg ?_ | refine fa_at ?_ | refine nl_ptr ?_ | refine ex20 ?_ | refine ex21 ?_ | refine ex30 ?_ | refine ex31 ?_ | refine ex32 ?_ | refine ln_rule ?_ | refine lnT_rule ?_ | refine pu_and ?_ | refine pu_or ?_ | refine pu_xor ?_ | refine pu_seq ?_ | refine pu_sne ?_)
  refine ld_here h19 n16 (v := vI 1) rfl ?_
  repeat (first | refine pu_not ?_ | refine pu_eql ?_ | refine pu_neq ?_ | refine pu_lss ?_ | refine pu_leq ?_ | refine pu_gtr ?_ | refine pu_geq ?_ | refine pu_add ?_ | refine pu_sub ?_ | refine pu_mul ?_ | refine pu_neg ?_ | refine fa_at ?_ | refine nl_ptr ?_ | refine ex20 ?_ | refine ex21 ?_ | refine ex30 ?_ | refine ex31 ?_ | refine ex32 ?_ | refine ln_rule ?_ | refine lnT_rule ?_ | refine pu_and ?_ | refine pu_or ?_ | refine pu_xor ?_ | refine pu_seq ?_ | refine pu_sne ?_)
  refine cnd_t rfl ?_
  repeat (first | refine pu_not ?_ | refine pu_eql ?_ | refine pu_neq ?_ | refine pu_lss ?_ | refine pu_leq ?_ | refine pu_gtr ?_ | refine pu_geq ?_ | refine pu_add ?_ | refine pu_sub ?_ | refine pu_mul ?_ | refine pu_neg ?_ | refine fa_at ?_ | refine nl_ptr ?_ | refine ex20 ?_ | refine ex21 ?_ | refine ex30 ?_ | refine ex31 ?_ | refine ex32 ?_ | refine ln_rule ?_ | refine lnT_rule ?_ | refine pu_and ?_ | refine pu_or ?_ | refine pu_xor ?_ | refine pu_seq ?_ | refine pu_sne ?_)
  refine ld_here h19 n27 (v := vI 3) rfl ?_
  repeat (first | refine pu_not ?_ | refine pu_eql ?_ | refine pu_neq ?_ | refine pu_lss ?_ | refine pu_leq ?_ | refine pu_gtr ?_ | refine pu_geq ?_ | refine pu_add ?_ | refine pu_sub ?_ | refine pu_mul ?_ | refine pu_neg ?_ | refine fa_at ?_ | refine nl_ptr ?_ | refine ex20 ?_ | refine ex21 ?_ | refine ex30 ?_ | refine ex31 ?_ | refine ex32 ?_ | refine ln_rule ?_ | refine lnT_rule ?_ | refine pu_and ?_ | refine pu_or ?_ | refine pu_xor ?_ | refine pu_seq ?_ | refine pu_sne ?_)
  refine cnd_t rfl ?_
  repeat (first | refine pu_not ?_ | refine pu_eql ?_ | refine pu_neq ?_ | refine pu_lss ?_ | refine pu_leq ?_ | refine pu_gtr ?_ | refine pu_geq ?_ | refine pu_add ?_ | refine pu_sub ?_ | refine pu_mul ?_ | refine pu_neg ?_ | refine fa_at ?_ | refine nl_ptr ?_ | refine ex20 ?_ | refine ex21 ?_ | refine ex30 ?_ | refine ex31 ?_ | refine ex32 ?_ | refine ln_rule ?_ | refine lnT_rule ?_ | refine pu_and ?_ | refine pu_or ?_ | refine pu_xor ?_ | refine pu_seq ?_ | refine pu_sne ?_)
  refine ld_here h19 n27 (v := vU 7) rfl ?_
  repeat (first | refine pu_not ?_ | refine pu_eql ?_ | refine pu_neq ?_ | refine pu_lss ?_ | refine pu_leq ?_ | refine pu_gtr ?_ | refine pu_geq ?_ | refine pu_add ?_ | refine pu_sub ?_ | refine pu_mul ?_ | refine pu_neg ?_ | refine fa_at ?_ | refine nl_ptr ?_ | refine ex20 ?_ | refine ex21 ?_ | refine ex30 ?_ | refine ex31 ?_ | refine ex32 ?_ | refine ln_rule ?_ | refine lnT_rule ?_ | refine pu_and ?_ | refine pu_or ?_ | refine pu_xor ?_ | refine pu_seq ?_ | refine pu_sne ?_)
  refine cnd_t rfl ?_
  repeat (first | refine pu_not ?_ | refine pu_eql ?_ | refine pu_neq ?_ | refine pu_lss ?_ | refine pu_leq ?_ | refine pu_gtr ?_ | refine pu_geq ?_ | refine pu_add ?_ | refine pu_sub ?_ | refine pu_mul ?_ | refine pu_neg ?_ | refine fa_at ?_ | refine nl_ptr ?_ | refine ex20 ?_ | refine ex21 ?_ | refine ex30 ?_ | refine ex31 ?_ | refine ex32 ?_ | refine ln_rule ?_ | refine lnT_rule ?_ | refine pu_and ?_ | refine pu_or ?_ | refine pu_xor ?_ | refine pu_seq ?_ | refine pu_sne ?_)
  refine ld_here h19 n27 (v := vU 3) rfl ?_
  repeat (first | refine pu_not ?_ | refine pu_eql ?_ | refine pu_neq ?_ | refine pu_lss ?_ | refine pu_leq ?_ | refine pu_gtr ?_ | refine pu_geq ?_ | refine pu_add ?_ | refine pu_sub ?_ | refine pu_mul ?_ | refine pu_neg ?_ | refine fa_at ?_ | refine nl_ptr ?_ | refine ex20 ?_ | refine ex21 ?_ | refine ex30 ?_ | refine ex31 ?_ | refine ex32 ?_ | refine ln_rule ?_ | refine lnT_rule ?_ | refine pu_and ?_ | refine pu_or ?_ | refine pu_xor ?_ | refine pu_seq ?_ | refine pu_sne ?_)
  refine cnd_t rfl ?_
  repeat (first | refine pu_not ?_ | refine pu_eql ?_ | refine pu_neq ?_ | refine pu_lss ?_ | refine pu_leq ?_ | refine pu_gtr ?_ | refine pu_geq ?_ | refine pu_add ?_ | refine pu_sub ?_ | refine pu_mul ?_ | refine pu_neg ?_ | refine fa_at ?_ | refine nl_ptr ?_ | refine ex20 ?_ | refine ex21 ?_ | refine ex30 ?_ | refine ex31 ?_ | refine ex32 ?_ | refine ln_rule ?_ | refine lnT_rule ?_ | refine pu_and ?_ | refine pu_or ?_ | refine pu_xor ?_ | refine pu_seq ?_ | refine pu_sne ?_)
  refine ld_here h19 n38 (v := vI 13) rfl ?_
  repeat (first | refine pu_not ?_ | refine pu_eql ?_ | refine pu_neq ?_ | refine pu_lss ?_ | refine pu_leq ?_ | refine pu_gtr ?_ | refine pu_geq ?_ | refine pu_add ?_ | refine pu_sub ?_ | refine pu_mul ?_ | refine pu_neg ?_ | refine fa_at ?_ | refine nl_ptr ?_ | refine ex20 ?_ | refine ex21 ?_ | refine ex30 ?_ | refine ex31 ?_ | refine ex32 ?_ | refine ln_rule ?_ | refine lnT_rule ?_ | refine pu_and ?_ | refine pu_or ?_ | refine pu_xor ?_ | refine pu_seq ?_ | refine pu_sne ?_)
  refine cnd_t rfl ?_
  refine fended_spec hs3 (by decide) (List.mem_append_right _ (.tail _ (.tail _ (.tail _ hfm)))) (.head _) h19 ?_
  rw [hl3]
  exact k _ (hend (A := s3.hp p17 ++ [_, _, _]) (by simpa using h19))
end
end Go.Proofs.YtkkkcafkepnecaaGreat

