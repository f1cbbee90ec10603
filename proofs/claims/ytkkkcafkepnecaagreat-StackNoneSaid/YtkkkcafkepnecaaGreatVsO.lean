/- Stacks: the chapter's rows; the law StackNone. -/
import Derived.Test.YtkkkcafkepnecaaGreatVsN
set_option linter.unusedVariables false
set_option linter.unusedSimpArgs false
namespace Go.Proofs.YtkkkcafkepnecaaGreat
open Go Go.RowKit Vc Ar
attribute [local irreducible] binV Op.unary convert nlW faW ldS ldW ixS ixA ixV ixT exW lnS lnT pu stW alW opW opU bsW mkW

section
variable {B w : World} {H X F Q R : Hp} {K : Value → World → Prop} {PK : List PanicEntry → World → Prop} {KK : Value → Prop} {p : Pr} {s : SK} {v : Value}
theorem num12_spec {v : Value} (h : Ow B w H) (k : ∀ w', Ow B w' H → K v w') : callW PG N.linesmanlaw12_num [v] K PK w := by
  refine linesmanlaw12_num.ok ?_
  unfold linesmanlaw12_num.C
  exact k _ h
def gCall : Ins := ⟨8, 0, 1, 2, 1⟩
def gRet : Ins := ⟨9, 0, 0, 0, 0⟩
def gAdd : Ins := ⟨3, 0, 0, 1, 1⟩
def p12 : Pr := ⟨[⟨3, [gCall, gRet]⟩, ⟨2, [gAdd, gRet]⟩], 0, 0, 0⟩
theorem p12_good : Good p12 := ⟨by decide +kernel, fun f hf i hi => by
  simp only [p12, List.mem_cons, List.not_mem_nil, or_false] at hf
  rcases hf with rfl | rfl <;> (simp only [List.mem_cons, List.not_mem_nil, or_false] at hi; rcases hi with rfl | rfl <;> exact ⟨by decide, by decide⟩)⟩
theorem blkI {b : Nat} {i j : Ins} (hb : (b, cel (icode [i, j]).flatten T.t_api_Ins) ∈ H) : Sls H (.slice (some ⟨b, 0, none⟩) 2 2) 5 (icode [i, j]) :=
  sls_blk (rows := icode [i, j]) (by simp [icode, Ins.cells]) (by simp [icode, maxLen]) hb
theorem given12_spec (h : Ow B w H) (k : ∀ S v w', fsIn S v p12.fs → Ow B w' (S ++ H) → K (.agg (p12.cells v).toArray) w') : callW PG N.linesmanlaw12_given [] K PK w := by
  refine linesmanlaw12_given.ok ?_
  unfold linesmanlaw12_given.C
  refine al_rule h (l := [.slice none 0 0, vI 0, vI 0, vI 0]) (by kernel_rfl) (fun b w1 h1 => ?_)
  refine pu_build gCall.cells (by kernel_rfl) ?_
  refine pu_build gRet.cells (by kernel_rfl) ?_
  refine bs_rule h1 (icode [gCall, gRet]).flatten (by kernel_rfl) (fun b7 w2 h2 => ?_)
  refine pu_build [vI 3, .slice (some ⟨b7, 0, none⟩) 2 2] (by kernel_rfl) ?_
  refine pu_build gAdd.cells (by kernel_rfl) ?_
  refine pu_build gRet.cells (by kernel_rfl) ?_
  refine bs_rule h2 (icode [gAdd, gRet]).flatten (by kernel_rfl) (fun b12 w3 h3 => ?_)
  refine pu_build [vI 2, .slice (some ⟨b12, 0, none⟩) 2 2] (by kernel_rfl) ?_
  refine bs_rule h3 [vI 3, .slice (some ⟨b7, 0, none⟩) 2 2, vI 2, .slice (some ⟨b12, 0, none⟩) 2 2] (by kernel_rfl) (fun b15 w4 h4 => ?_)
  refine pu_build [.slice (some ⟨b15, 0, none⟩) 2 2, vI 0, vI 0, vI 0] (by kernel_rfl) ?_
  refine st_here (A := [_, _, _]) h4 [.slice (some ⟨b15, 0, none⟩) 2 2, vI 0, vI 0, vI 0] rfl rfl rfl (by simp) (fun w5 h5 => ?_)
  simp only [List.take_zero, List.nil_append, Nat.zero_add, List.drop_succ_cons, List.drop_zero, List.drop_nil, List.append_nil] at h5
  refine ldn_here h5 (.tail _ (.tail _ (.tail _ (.head _)))) (vs := p12.cells (.slice (some ⟨b15, 0, none⟩) 2 2)) rfl rfl ?_
  refine k [(b15, cel [vI 3, .slice (some ⟨b7, 0, none⟩) 2 2, vI 2, .slice (some ⟨b12, 0, none⟩) 2 2] T.t_api_Func), (b12, cel (icode [gAdd, gRet]).flatten T.t_api_Ins), (b7, cel (icode [gCall, gRet]).flatten T.t_api_Ins)] _ _ ?_ (h5.sub ((List.Sublist.refl [_, _, _]).append (.cons _ (.refl _))))
  refine ⟨[(.slice (some ⟨b7, 0, none⟩) 2 2, ⟨3, [gCall, gRet]⟩), (.slice (some ⟨b12, 0, none⟩) 2 2, ⟨2, [gAdd, gRet]⟩)], rfl, ?_, fun q hq => ?_⟩
  · exact sls_blk (rows := [[vI 3, .slice (some ⟨b7, 0, none⟩) 2 2], [vI 2, .slice (some ⟨b12, 0, none⟩) 2 2]]) (by simp) (by simp [maxLen]) (.head _)
  · have him := p12_good.im
    simp only [List.mem_cons, List.not_mem_nil, or_false] at hq
    rcases hq with rfl | rfl
    · exact ⟨blkI (.tail _ (.tail _ (.head _))), him _ (.head _)⟩
    · exact ⟨blkI (.tail _ (.head _)), him _ (.tail _ (.head _))⟩
abbrev l0 : List Frm := [⟨0, 0, 0, [0, 2, 3]⟩]
abbrev l1 : List Frm := [⟨1, 0, 0, [2, 3]⟩, ⟨0, 1, 0, [0, 2, 3]⟩]
abbrev l2 : List Frm := [⟨1, 1, 0, [5, 3]⟩, ⟨0, 1, 0, [0, 2, 3]⟩]
abbrev l3 : List Frm := [⟨0, 1, 0, [5, 2, 3]⟩]
theorem go0 : stepF p12 1 l0 0 = (222, l0, 0) := by decide +kernel
theorem go1 : stepF p12 2 l0 0 = (0, l1, 0) := by decide +kernel
theorem go2 : stepF p12 2 l1 0 = (0, l2, 0) := by decide +kernel
theorem go3 : stepF p12 2 l2 0 = (0, l3, 0) := by decide +kernel
theorem go4 : stepF p12 2 l3 0 = (0, [], 5) := by decide +kernel
theorem u023 : AllU [0, 2, 3] := fun x hx => by
  simp only [List.mem_cons, List.not_mem_nil, or_false] at hx
  rcases hx with rfl | rfl | rfl <;> exact ⟨by decide, by decide⟩
theorem in0 : Inv p12 l0 := Inv.beg (f := ⟨3, [gCall, gRet]⟩) (x := 0) (ws := [0, 2, 3]) p12_good rfl (by decide) u023
theorem in1 : Inv p12 l1 := by have := in0.step (most := 2) (res := 0) p12_good; rw [go1] at this; exact this
theorem in2 : Inv p12 l2 := by have := in1.step (most := 2) (res := 0) p12_good; rw [go2] at this; exact this
theorem in3 : Inv p12 l3 := by have := in2.step (most := 2) (res := 0) p12_good; rw [go3] at this; exact this
theorem SK.es_len (s : SK) : s.es.length = s.frs.length := by simp [SK.frs]
/-- A step whose outcome is known. -/
theorem step_known {most e res' : Int} {l l' : List Frm} {res : Int} (g : Good p) (hI : Inv p l) (hs : s.ok p F) (hF : ∀ x, x ∈ F → x ∈ R) (hl : s.frs = l) (hr : s.res = res) (hgo : stepF p most l res = (e, l', res')) (hlen : l.length + 1 < 1000) (h : Ow B w (s.hp p ++ R))
    (k : ∀ (s' : SK) w', s'.b = s.b → s'.frs = l' → s'.res = res' → s'.ok p F → Ow B w' (s'.hp p ++ R) → K (vI e) w') : callW PG N.stack_Stack_Step [ptr s.b, vI most] K PK w := by
  refine step_spec hs hF (by rw [hl]; exact g.safeL hI) (by rw [SK.es_len, hl]; exact hlen) h (fun s' w' q1 q2 q3 hs' h' => ?_)
  rw [hl, hr, hgo] at q3 ⊢
  exact k s' w' q1 (congrArg Prod.fst q3) (congrArg Prod.snd q3) hs' h'
set_option maxRecDepth 20000 in
theorem works12_spec (h : Ow B w H) (k : ∀ w', Ow B w' H → K (vB true) w') : callW PG N.linesmanlaw12_works [] K PK w := by
  refine linesmanlaw12_works.ok ?_
  unfold linesmanlaw12_works.C
  refine given12_spec h (fun S v w1 hv h1 => ?_)
  refine bs_rule h1 (rgs [0, 2, 3]) (by kernel_rfl) (fun b5 w2 h2 => ?_)
  refine new_spec (p := p12) (ws := [0, 2, 3]) (X := (b5, cel (rgs [0, 2, 3]) T.t_uint32) :: S) (hv.mono fun x hx => .tail _ hx) (sl_here (l := rgs [0, 2, 3]) (.head _)) (fun x hx => (List.mem_cons.1 hx).elim (fun h => by rw [h]; exact .head _) fun h => .tail _ (List.mem_append_left _ h)) (by simp [p12]) (by simp) h2
    (fun hb => by rw [p12_good.ok] at hb; cases hb) (fun _ hb => absurd (by decide) (hb ⟨3, [gCall, gRet]⟩ (by decide) rfl)) (fun _ f _ hf _ s F w3 hres hfrs hs h3 => ?_)
  have hf : f = ⟨3, [gCall, gRet]⟩ := (Option.some.inj hf).symm
  subst hf
  generalize hR : F ++ (b5, cel (rgs [0, 2, 3]) T.t_uint32) :: (S ++ H) = R at h3
  have hF : ∀ x, x ∈ F → x ∈ R := fun x hx => by rw [← hR]; exact List.mem_append_left _ hx
  have hend : ∀ {A : Hp} {w : World}, Ow B w (A ++ R) → Ow B w H := fun h => by
    rw [← hR] at h
    exact h.sub ((((List.sublist_append_right _ _).trans (List.sublist_cons_self _ _)).trans (List.sublist_append_right _ _)).trans (List.sublist_append_right _ _))
  repeat (first | refine pu_not ?_ | refine pu_eql ?_ | refine pu_neq ?_ | refine pu_lss ?_ | refine pu_leq ?_ | refine pu_gtr ?_ | refine pu_geq ?_ | refine pu_add ?_ | refine pu_sub ?_ | refine pu_mul ?_ | refine pu_neg ?_ | refine fa_at ?_ | refine nl_ptr ?_ | refine ex20 ?_ | refine ex21 ?_ | refine ex30 ?_ | refine ex31 ?_ | refine ex32 ?_ | refine ln_rule ?_ | refine lnT_rule ?_ | refine pu_and ?_ | refine pu_or ?_ | refine pu_xor ?_ | refine pu_seq ?_ | refine pu_sne ?_)
  refine step_known p12_good in0 hs hF hfrs hres go0 (by decide) h3 (fun s1 w4 hb1 hl1 hr1 hs1 h4 => ?_)
  rw [← hb1]
  refine step_known p12_good in0 hs1 hF hl1 hr1 go1 (by decide) h4 (fun s2 w5 hb2 hl2 hr2 hs2 h5 => ?_)
  rw [← hb2]
  refine num12_spec h5 (fun w6 h6 => ?_)
  refine num12_spec h6 (fun w7 h7 => ?_)
  repeat (first | refine pu_not ?_ | refine pu_eql ?_ | refine pu_neq ?_ | refine pu_lss ?_ | refine pu_leq ?_ | refine pu_gtr ?_ | refine pu_geq ?_ | refine pu_add ?_ | refine pu_sub ?_ | refine pu_mul ?_ | refine pu_neg ?_ | refine fa_at ?_ | refine nl_ptr ?_ | refine ex20 ?_ | refine ex21 ?_ | refine ex30 ?_ | refine ex31 ?_ | refine ex32 ?_ | refine ln_rule ?_ | refine lnT_rule ?_ | refine pu_and ?_ | refine pu_or ?_ | refine pu_xor ?_ | refine pu_seq ?_ | refine pu_sne ?_)
  refine cnd_f (by decide +kernel) ?_
  refine num12_spec h7 (fun w8 h8 => ?_)
  repeat (first | refine pu_not ?_ | refine pu_eql ?_ | refine pu_neq ?_ | refine pu_lss ?_ | refine pu_leq ?_ | refine pu_gtr ?_ | refine pu_geq ?_ | refine pu_add ?_ | refine pu_sub ?_ | refine pu_mul ?_ | refine pu_neg ?_ | refine fa_at ?_ | refine nl_ptr ?_ | refine ex20 ?_ | refine ex21 ?_ | refine ex30 ?_ | refine ex31 ?_ | refine ex32 ?_ | refine ln_rule ?_ | refine lnT_rule ?_ | refine pu_and ?_ | refine pu_or ?_ | refine pu_xor ?_ | refine pu_seq ?_ | refine pu_sne ?_)
  refine cnd_f (by decide +kernel) ?_
  refine depth_spec hs2 h8 (.head _) ?_
  rw [SK.es_len, hl2]
  repeat (first | refine pu_not ?_ | refine pu_eql ?_ | refine pu_neq ?_ | refine pu_lss ?_ | refine pu_leq ?_ | refine pu_gtr ?_ | refine pu_geq ?_ | refine pu_add ?_ | refine pu_sub ?_ | refine pu_mul ?_ | refine pu_neg ?_ | refine fa_at ?_ | refine nl_ptr ?_ | refine ex20 ?_ | refine ex21 ?_ | refine ex30 ?_ | refine ex31 ?_ | refine ex32 ?_ | refine ln_rule ?_ | refine lnT_rule ?_ | refine pu_and ?_ | refine pu_or ?_ | refine pu_xor ?_ | refine pu_seq ?_ | refine pu_sne ?_)
  refine cnd_f (by decide +kernel) ?_
  refine reg_spec hs2 h8 (fun w9 h9 => ?_)
  rw [hl2]
  repeat (first | refine pu_not ?_ | refine pu_eql ?_ | refine pu_neq ?_ | refine pu_lss ?_ | refine pu_leq ?_ | refine pu_gtr ?_ | refine pu_geq ?_ | refine pu_add ?_ | refine pu_sub ?_ | refine pu_mul ?_ | refine pu_neg ?_ | refine fa_at ?_ | refine nl_ptr ?_ | refine ex20 ?_ | refine ex21 ?_ | refine ex30 ?_ | refine ex31 ?_ | refine ex32 ?_ | refine ln_rule ?_ | refine lnT_rule ?_ | refine pu_and ?_ | refine pu_or ?_ | refine pu_xor ?_ | refine pu_seq ?_ | refine pu_sne ?_)
  refine cnd_f (by decide +kernel) ?_
  refine step_known p12_good in1 hs2 hF hl2 hr2 go2 (by decide) h9 (fun s3 w10 hb3 hl3 hr3 hs3 h10 => ?_)
  rw [← hb3]
  refine step_known p12_good in2 hs3 hF hl3 hr3 go3 (by decide) h10 (fun s4 w11 hb4 hl4 hr4 hs4 h11 => ?_)
  rw [← hb4]
  refine reg_spec hs4 h11 (fun w12 h12 => ?_)
  rw [hl4]
  refine step_known p12_good in3 hs4 hF hl4 hr4 go4 (by decide) h12 (fun s5 w13 hb5 hl5 hr5 hs5 h13 => ?_)
  rw [← hb5]
  refine num12_spec h13 (fun w14 h14 => ?_)
  refine num12_spec h14 (fun w15 h15 => ?_)
  repeat (first | refine pu_not ?_ | refine pu_eql ?_ | refine pu_neq ?_ | refine pu_lss ?_ | refine pu_leq ?_ | refine pu_gtr ?_ | refine pu_geq ?_ | refine pu_add ?_ | refine pu_sub ?_ | refine pu_mul ?_ | refine pu_neg ?_ | refine fa_at ?_ | refine nl_ptr ?_ | refine ex20 ?_ | refine ex21 ?_ | refine ex30 ?_ | refine ex31 ?_ | refine ex32 ?_ | refine ln_rule ?_ | refine lnT_rule ?_ | refine pu_and ?_ | refine pu_or ?_ | refine pu_xor ?_ | refine pu_seq ?_ | refine pu_sne ?_)
  refine num12_spec h15 (fun w16 h16 => ?_)
  repeat (first | refine pu_not ?_ | refine pu_eql ?_ | refine pu_neq ?_ | refine pu_lss ?_ | refine pu_leq ?_ | refine pu_gtr ?_ | refine pu_geq ?_ | refine pu_add ?_ | refine pu_sub ?_ | refine pu_mul ?_ | refine pu_neg ?_ | refine fa_at ?_ | refine nl_ptr ?_ | refine ex20 ?_ | refine ex21 ?_ | refine ex30 ?_ | refine ex31 ?_ | refine ex32 ?_ | refine ln_rule ?_ | refine lnT_rule ?_ | refine pu_and ?_ | refine pu_or ?_ | refine pu_xor ?_ | refine pu_seq ?_ | refine pu_sne ?_)
  refine cnd_t (by decide +kernel) ?_
  repeat (first | refine pu_not ?_ | refine pu_eql ?_ | refine pu_neq ?_ | refine pu_lss ?_ | refine pu_leq ?_ | refine pu_gtr ?_ | refine pu_geq ?_ | refine pu_add ?_ | refine pu_sub ?_ | refine pu_mul ?_ | refine pu_neg ?_ | refine fa_at ?_ | refine nl_ptr ?_ | refine ex20 ?_ | refine ex21 ?_ | refine ex30 ?_ | refine ex31 ?_ | refine ex32 ?_ | refine ln_rule ?_ | refine lnT_rule ?_ | refine pu_and ?_ | refine pu_or ?_ | refine pu_xor ?_ | refine pu_seq ?_ | refine pu_sne ?_)
  refine cnd_t (by decide +kernel) ?_
  refine depth_spec hs5 h16 (.head _) ?_
  rw [SK.es_len, hl5]
  repeat (first | refine pu_not ?_ | refine pu_eql ?_ | refine pu_neq ?_ | refine pu_lss ?_ | refine pu_leq ?_ | refine pu_gtr ?_ | refine pu_geq ?_ | refine pu_add ?_ | refine pu_sub ?_ | refine pu_mul ?_ | refine pu_neg ?_ | refine fa_at ?_ | refine nl_ptr ?_ | refine ex20 ?_ | refine ex21 ?_ | refine ex30 ?_ | refine ex31 ?_ | refine ex32 ?_ | refine ln_rule ?_ | refine lnT_rule ?_ | refine pu_and ?_ | refine pu_or ?_ | refine pu_xor ?_ | refine pu_seq ?_ | refine pu_sne ?_)
  refine cnd_t (by decide +kernel) ?_
  refine result_spec h16 (.head _) ?_
  rw [hr5]
  repeat (first | refine pu_not ?_ | refine pu_eql ?_ | refine pu_neq ?_ | refine pu_lss ?_ | refine pu_leq ?_ | refine pu_gtr ?_ | refine pu_geq ?_ | refine pu_add ?_ | refine pu_sub ?_ | refine pu_mul ?_ | refine pu_neg ?_ | refine fa_at ?_ | refine nl_ptr ?_ | refine ex20 ?_ | refine ex21 ?_ | refine ex30 ?_ | refine ex31 ?_ | refine ex32 ?_ | refine ln_rule ?_ | refine lnT_rule ?_ | refine pu_and ?_ | refine pu_or ?_ | refine pu_xor ?_ | refine pu_seq ?_ | refine pu_sne ?_)
  have := k _ (hend h16)
  exact this
end
end Go.Proofs.YtkkkcafkepnecaaGreat
