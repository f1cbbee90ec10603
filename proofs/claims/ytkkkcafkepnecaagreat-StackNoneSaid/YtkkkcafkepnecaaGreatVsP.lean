/- The law StackNone. -/
import Derived.Test.YtkkkcafkepnecaaGreatVsO
import Derived.Test.YtkkkcafkepnecaaGreatVpI
set_option linter.unusedVariables false
set_option linter.unusedSimpArgs false
namespace Go.Proofs.YtkkkcafkepnecaaGreat
open Go Go.RowKit Vc Ar
attribute [local irreducible] binV Op.unary convert nlW faW ldS ldW ixS ixA ixV ixT exW lnS lnT pu stW alW opW opU bsW mkW

section
variable {B w : World} {H X F Q R : Hp} {K : Value → World → Prop} {PK : List PanicEntry → World → Prop} {KK : Value → Prop} {p : Pr} {s : SK} {v : Value}
abbrev actC (a b c : Int) (d : Int) : List Value := [vI a, vI b, vI c, vU d]
theorem act_of' {cs : List Value} (h : Fit PG H T.t_linesmanlaw12_Act cs) : ∃ a b c d : Int, cs = actC a b c d ∧ IsU d := by
  have hl := h.len (n := 4) (by kernel_rfl) (by kernel_rfl)
  match cs, hl with
  | [x0, x1, x2, x3], _ =>
    obtain ⟨n0, h0, _⟩ := Fit.of_int (k := .i64) (by kernel_rfl) (h.field (i := 0) (T := T.t_int) (off := 0) (n := 1) (by kernel_rfl))
    obtain ⟨n1, h1, _⟩ := Fit.of_int (k := .i64) (by kernel_rfl) (h.field (i := 1) (T := T.t_int) (off := 1) (n := 1) (by kernel_rfl))
    obtain ⟨n2, h2, _⟩ := Fit.of_int (k := .i64) (by kernel_rfl) (h.field (i := 2) (T := T.t_int) (off := 2) (n := 1) (by kernel_rfl))
    obtain ⟨n3, h3, hw⟩ := Fit.of_int (k := .u32) (by kernel_rfl) (h.field (i := 3) (T := T.t_uint32) (off := 3) (n := 1) (by kernel_rfl))
    simp at h0 h1 h2 h3
    subst h0 h1 h2 h3
    exact ⟨n0, n1, n2, n3, rfl, wf_u32 hw⟩
theorem act_of {v0 : Value} (g : FitV PG H T.t_linesmanlaw12_Act v0) : ∃ a b c d : Int, v0 = .agg (actC a b c d).toArray ∧ IsU d := by
  obtain ⟨cs, rfl, hf⟩ := g.agg (by kernel_rfl)
  obtain ⟨a, b, c, d, rfl, hd⟩ := act_of' hf
  exact ⟨a, b, c, d, rfl, hd⟩
theorem und_fnT : isFnT PG T.t_iter_Seq2_int_linesman_api_Frame = true := by kernel_rfl
theorem Nost.mono {s : Value} {H' : Hp} (h : Nost H s) (hs : ∀ x, x ∈ H → x ∈ H') : Nost H' s := by
  rcases h with rfl | ⟨b, l, rfl, hm, h6⟩
  · exact .inl rfl
  · exact .inr ⟨b, l, rfl, hs _ hm, h6⟩
abbrev deF (b : Nat) : Nat × Obj := (b, .deferred (some []))
set_option maxRecDepth 20000 in
theorem StackNone.law {v0 v1 : Value} (g0 : FitV PG H T.t_linesmanlaw12_Act v0) (g1 : FitV PG H T.t_bool v1) (h : Ow B w H) (k : ∀ w', Ow B w' H → K (vB true) w') : callW PG N.linesmanlaw12_StackNone [v0, v1] K PK w := by
  obtain ⟨aw, am, ar, ad, rfl, _⟩ := act_of g0
  obtain ⟨zero, rfl⟩ := FitV.bool (by kernel_rfl) g1
  refine linesmanlaw12_StackNone.ok ?_
  unfold linesmanlaw12_StackNone.C
  refine al_rule h (l := actC aw am ar ad) rfl (fun b2 w1 h1 => ?_)
  refine al_rule h1 (l := [vB false]) (by kernel_rfl) (fun b4 w2 h2 => ?_)
  refine cnd (fun hz => ?_) (fun hz => ?_)
  · refine pu_build zstack (by kernel_rfl) ?_
    refine al_rule h2 (l := zstack) rfl (fun b10 w3 h3 => ?_)
    obtain ⟨sv, hsvv⟩ : ∃ sv, sv = ptr b10 := ⟨_, rfl⟩
    have hsv : Nost ((b10, stO zstack) :: (b4, cel [vB false] T.t_bool) :: (b2, cel (actC aw am ar ad) T.t_linesmanlaw12_Act) :: H) sv := .inr ⟨b10, zstack, hsvv, .head _, rfl⟩
    have hfG : ((b4, cel [vB false] T.t_bool) :: H).Sublist ((b10, stO zstack) :: (b4, cel [vB false] T.t_bool) :: (b2, cel (actC aw am ar ad) T.t_linesmanlaw12_Act) :: H) := .cons _ (.cons_cons _ (.cons _ (.refl _)))
    have m2 : (b2, cel (actC aw am ar ad) T.t_linesmanlaw12_Act) ∈ (b10, stO zstack) :: (b4, cel [vB false] T.t_bool) :: (b2, cel (actC aw am ar ad) T.t_linesmanlaw12_Act) :: H := .tail _ (.tail _ (.head _))
    rw [← hsvv]
    generalize (b10, stO zstack) :: (b4, cel [vB false] T.t_bool) :: (b2, cel (actC aw am ar ad) T.t_linesmanlaw12_Act) :: H = G at *
    refine next_none h3 (hsv.mono fun x hx => hx) (fun w4 h4 => ?_)
    repeat (first | refine pu_not ?_ | refine pu_eql ?_ | refine pu_neq ?_ | refine pu_lss ?_ | refine pu_leq ?_ | refine pu_gtr ?_ | refine pu_geq ?_ | refine pu_add ?_ | refine pu_sub ?_ | refine pu_mul ?_ | refine pu_neg ?_ | refine fa_at ?_ | refine nl_ptr ?_ | refine ex20 ?_ | refine ex21 ?_ | refine ex30 ?_ | refine ex31 ?_ | refine ex32 ?_ | refine ln_rule ?_ | refine lnT_rule ?_ | refine pu_and ?_ | refine pu_or ?_ | refine pu_xor ?_ | refine pu_seq ?_ | refine pu_sne ?_)
    refine al_rule h4 (l := (bare 0).cells) zins (fun b18 w5 h5 => ?_)
    refine al_rule h5 (l := [vI 0, vI 0]) (by kernel_rfl) (fun b20 w6 h6 => ?_)
    refine st_here (A := [_]) h6 (bare 0).cells rfl rfl (ins_plain _) (by simp [Ins.cells]) (fun w7 h7 => ?_)
    refine st_here (A := []) h7 [vI 0, vI 0] rfl rfl rfl (by simp) (fun w8 h8 => ?_)
    have h8 : Ow B w8 G := Ow.drop (Ow.drop h8)
    refine frames_none h8 hsv (fun b3 w9 h9 hsq => ?_)
    refine pu_fnl und_fnT ?_
    refine cnd_f rfl ?_
    refine range_fnX (X := G) (H := [(b3, cel [.slice none 0 0] T.t_sl_api_Frame)]) (A := linesmanlaw12_StackNone.note) (fuel := 400) mixed hsq frT_mono (by simp) (fun i args F ⟨c, m, e, _⟩ => by rw [e]; rfl) (h9.perm (List.perm_append_comm (l₁ := [_]))) (fun _ Y => Y = G) (fun _ _ => False) rfl ?_ ?_ ?_
    · intro lp r i args Y F R w10 hi
      exact absurd hi (Nat.not_lt_zero _)
    rotate_left
    · intro mk j Y w10 hz
      exact hz.elim
    rintro mk Y w10 hY h10
    rw [hY] at h10
    clear hY
    have hG2 : ∀ x, x ∈ G → x ∈ deF mk :: (G ++ [(b3, cel [.slice none 0 0] T.t_sl_api_Frame)]) := fun x hx => .tail _ (List.mem_append_left _ hx)
    have hfin : ∀ {A : Hp} {w : World}, Ow B w (A ++ (deF mk :: (G ++ [(b3, cel [.slice none 0 0] T.t_sl_api_Frame)]))) → Ow B w (deF mk :: (b4, cel [vB false] T.t_bool) :: H) := fun h =>
      h.sub (((hfG.trans (List.sublist_append_left _ _)).cons_cons _).trans (List.sublist_append_right _ _))
    have hsv := hsv.mono hG2
    have m2 := hG2 _ m2
    generalize hD : deF mk :: (G ++ [(b3, cel [.slice none 0 0] T.t_sl_api_Frame)]) = D at *
    refine given12_spec h10 (fun S v w11 hv h11 => ?_)
    refine new_spec (p := p12) (ws := []) (X := S) hv (sl_nil _ _ rfl) (fun x hx => List.mem_append_left _ hx) (by simp [p12]) (by simp) h11
      (fun hb => by rw [p12_good.ok] at hb; cases hb) (fun _ hb => absurd (by decide) (hb ⟨3, [gCall, gRet]⟩ (by decide) rfl)) (fun _ f _ hf _ s F w12 hres hfrs hs h12 => ?_)
    repeat (first | refine pu_not ?_ | refine pu_eql ?_ | refine pu_neq ?_ | refine pu_lss ?_ | refine pu_leq ?_ | refine pu_gtr ?_ | refine pu_geq ?_ | refine pu_add ?_ | refine pu_sub ?_ | refine pu_mul ?_ | refine pu_neg ?_ | refine fa_at ?_ | refine nl_ptr ?_ | refine ex20 ?_ | refine ex21 ?_ | refine ex30 ?_ | refine ex31 ?_ | refine ex32 ?_ | refine ln_rule ?_ | refine lnT_rule ?_ | refine pu_and ?_ | refine pu_or ?_ | refine pu_xor ?_ | refine pu_seq ?_ | refine pu_sne ?_)
    have h12 : Ow B w12 ((s.hp p12 ++ (F ++ S)) ++ D) := by simpa using h12
    have hsv := hsv.mono (H' := (s.hp p12 ++ (F ++ S)) ++ D) fun x hx => List.mem_append_right _ hx
    have m2 : (b2, cel (actC aw am ar ad) T.t_linesmanlaw12_Act) ∈ (s.hp p12 ++ (F ++ S)) ++ D := List.mem_append_right _ m2
    have ms : (s.b, stO (s.cell p12)) ∈ (s.hp p12 ++ (F ++ S)) ++ D := List.mem_append_left _ (.head _)
    have hfin2 : ∀ {w : World}, Ow B w ((s.hp p12 ++ (F ++ S)) ++ D) → Ow B w (deF mk :: (b4, cel [vB false] T.t_bool) :: H) := fun h => hfin h
    generalize (s.hp p12 ++ (F ++ S)) ++ D = E at *
    repeat (first | refine pu_not ?_ | refine pu_eql ?_ | refine pu_neq ?_ | refine pu_lss ?_ | refine pu_leq ?_ | refine pu_gtr ?_ | refine pu_geq ?_ | refine pu_add ?_ | refine pu_sub ?_ | refine pu_mul ?_ | refine pu_neg ?_ | refine fa_at ?_ | refine nl_ptr ?_ | refine ex20 ?_ | refine ex21 ?_ | refine ex30 ?_ | refine ex31 ?_ | refine ex32 ?_ | refine ln_rule ?_ | refine lnT_rule ?_ | refine pu_and ?_ | refine pu_or ?_ | refine pu_xor ?_ | refine pu_seq ?_ | refine pu_sne ?_)
    refine ld_here h12 m2 (v := vI am) rfl ?_
    refine step_none h12 hsv (fun w13 h13 => ?_)
    refine num12_spec h13 (fun w14 h14 => ?_)
    repeat (first | refine pu_not ?_ | refine pu_eql ?_ | refine pu_neq ?_ | refine pu_lss ?_ | refine pu_leq ?_ | refine pu_gtr ?_ | refine pu_geq ?_ | refine pu_add ?_ | refine pu_sub ?_ | refine pu_mul ?_ | refine pu_neg ?_ | refine fa_at ?_ | refine nl_ptr ?_ | refine ex20 ?_ | refine ex21 ?_ | refine ex30 ?_ | refine ex31 ?_ | refine ex32 ?_ | refine ln_rule ?_ | refine lnT_rule ?_ | refine pu_and ?_ | refine pu_or ?_ | refine pu_xor ?_ | refine pu_seq ?_ | refine pu_sne ?_)
    refine cnd_t rfl ?_
    repeat (first | refine pu_not ?_ | refine pu_eql ?_ | refine pu_neq ?_ | refine pu_lss ?_ | refine pu_leq ?_ | refine pu_gtr ?_ | refine pu_geq ?_ | refine pu_add ?_ | refine pu_sub ?_ | refine pu_mul ?_ | refine pu_neg ?_ | refine fa_at ?_ | refine nl_ptr ?_ | refine ex20 ?_ | refine ex21 ?_ | refine ex30 ?_ | refine ex31 ?_ | refine ex32 ?_ | refine ln_rule ?_ | refine lnT_rule ?_ | refine pu_and ?_ | refine pu_or ?_ | refine pu_xor ?_ | refine pu_seq ?_ | refine pu_sne ?_)
    refine ld_here h14 m2 (v := vI ar) rfl ?_
    repeat (first | refine pu_not ?_ | refine pu_eql ?_ | refine pu_neq ?_ | refine pu_lss ?_ | refine pu_leq ?_ | refine pu_gtr ?_ | refine pu_geq ?_ | refine pu_add ?_ | refine pu_sub ?_ | refine pu_mul ?_ | refine pu_neg ?_ | refine fa_at ?_ | refine nl_ptr ?_ | refine ex20 ?_ | refine ex21 ?_ | refine ex30 ?_ | refine ex31 ?_ | refine ex32 ?_ | refine ln_rule ?_ | refine lnT_rule ?_ | refine pu_and ?_ | refine pu_or ?_ | refine pu_xor ?_ | refine pu_seq ?_ | refine pu_sne ?_)
    refine ld_here h14 m2 (v := vU ad) rfl ?_
    refine pass_none h14 hsv (fun w15 h15 => ?_)
    refine num12_spec h15 (fun w16 h16 => ?_)
    repeat (first | refine pu_not ?_ | refine pu_eql ?_ | refine pu_neq ?_ | refine pu_lss ?_ | refine pu_leq ?_ | refine pu_gtr ?_ | refine pu_geq ?_ | refine pu_add ?_ | refine pu_sub ?_ | refine pu_mul ?_ | refine pu_neg ?_ | refine fa_at ?_ | refine nl_ptr ?_ | refine ex20 ?_ | refine ex21 ?_ | refine ex30 ?_ | refine ex31 ?_ | refine ex32 ?_ | refine ln_rule ?_ | refine lnT_rule ?_ | refine pu_and ?_ | refine pu_or ?_ | refine pu_xor ?_ | refine pu_seq ?_ | refine pu_sne ?_)
    refine cnd_t rfl ?_
    repeat (first | refine pu_not ?_ | refine pu_eql ?_ | refine pu_neq ?_ | refine pu_lss ?_ | refine pu_leq ?_ | refine pu_gtr ?_ | refine pu_geq ?_ | refine pu_add ?_ | refine pu_sub ?_ | refine pu_mul ?_ | refine pu_neg ?_ | refine fa_at ?_ | refine nl_ptr ?_ | refine ex20 ?_ | refine ex21 ?_ | refine ex30 ?_ | refine ex31 ?_ | refine ex32 ?_ | refine ln_rule ?_ | refine lnT_rule ?_ | refine pu_and ?_ | refine pu_or ?_ | refine pu_xor ?_ | refine pu_seq ?_ | refine pu_sne ?_)
    refine cnd_t rfl ?_
    repeat (first | refine pu_not ?_ | refine pu_eql ?_ | refine pu_neq ?_ | refine pu_lss ?_ | refine pu_leq ?_ | refine pu_gtr ?_ | refine pu_geq ?_ | refine pu_add ?_ | refine pu_sub ?_ | refine pu_mul ?_ | refine pu_neg ?_ | refine fa_at ?_ | refine nl_ptr ?_ | refine ex20 ?_ | refine ex21 ?_ | refine ex30 ?_ | refine ex31 ?_ | refine ex32 ?_ | refine ln_rule ?_ | refine lnT_rule ?_ | refine pu_and ?_ | refine pu_or ?_ | refine pu_xor ?_ | refine pu_seq ?_ | refine pu_sne ?_)
    refine ld_here h16 m2 (v := vI ar) rfl ?_
    refine reg_none h16 hsv ?_
    repeat (first | refine pu_not ?_ | refine pu_eql ?_ | refine pu_neq ?_ | refine pu_lss ?_ | refine pu_leq ?_ | refine pu_gtr ?_ | refine pu_geq ?_ | refine pu_add ?_ | refine pu_sub ?_ | refine pu_mul ?_ | refine pu_neg ?_ | refine fa_at ?_ | refine nl_ptr ?_ | refine ex20 ?_ | refine ex21 ?_ | refine ex30 ?_ | refine ex31 ?_ | refine ex32 ?_ | refine ln_rule ?_ | refine lnT_rule ?_ | refine pu_and ?_ | refine pu_or ?_ | refine pu_xor ?_ | refine pu_seq ?_ | refine pu_sne ?_)
    refine cnd_t rfl ?_
    refine depth_none h16 hsv ?_
    repeat (first | refine pu_not ?_ | refine pu_eql ?_ | refine pu_neq ?_ | refine pu_lss ?_ | refine pu_leq ?_ | refine pu_gtr ?_ | refine pu_geq ?_ | refine pu_add ?_ | refine pu_sub ?_ | refine pu_mul ?_ | refine pu_neg ?_ | refine fa_at ?_ | refine nl_ptr ?_ | refine ex20 ?_ | refine ex21 ?_ | refine ex30 ?_ | refine ex31 ?_ | refine ex32 ?_ | refine ln_rule ?_ | refine lnT_rule ?_ | refine pu_and ?_ | refine pu_or ?_ | refine pu_xor ?_ | refine pu_seq ?_ | refine pu_sne ?_)
    refine cnd_t rfl ?_
    refine result_none h16 hsv ?_
    repeat (first | refine pu_not ?_ | refine pu_eql ?_ | refine pu_neq ?_ | refine pu_lss ?_ | refine pu_leq ?_ | refine pu_gtr ?_ | refine pu_geq ?_ | refine pu_add ?_ | refine pu_sub ?_ | refine pu_mul ?_ | refine pu_neg ?_ | refine fa_at ?_ | refine nl_ptr ?_ | refine ex20 ?_ | refine ex21 ?_ | refine ex30 ?_ | refine ex31 ?_ | refine ex32 ?_ | refine ln_rule ?_ | refine lnT_rule ?_ | refine pu_and ?_ | refine pu_or ?_ | refine pu_xor ?_ | refine pu_seq ?_ | refine pu_sne ?_)
    refine cnd_t rfl ?_
    refine copy_none h16 hsv ?_
    refine pu_pnil und_ptr ?_
    refine cnd_t rfl ?_
    refine same_none h16 hsv (.inl rfl) ?_
    refine cnd_t rfl ?_
    refine num12_spec h16 (fun w17 h17 => ?_)
    repeat (first | refine pu_not ?_ | refine pu_eql ?_ | refine pu_neq ?_ | refine pu_lss ?_ | refine pu_leq ?_ | refine pu_gtr ?_ | refine pu_geq ?_ | refine pu_add ?_ | refine pu_sub ?_ | refine pu_mul ?_ | refine pu_neg ?_ | refine fa_at ?_ | refine nl_ptr ?_ | refine ex20 ?_ | refine ex21 ?_ | refine ex30 ?_ | refine ex31 ?_ | refine ex32 ?_ | refine ln_rule ?_ | refine lnT_rule ?_ | refine pu_and ?_ | refine pu_or ?_ | refine pu_xor ?_ | refine pu_seq ?_ | refine pu_sne ?_)
    refine cnd_t rfl ?_
    refine same_one h17 ms rfl hsv ?_
    repeat (first | refine pu_not ?_ | refine pu_eql ?_ | refine pu_neq ?_ | refine pu_lss ?_ | refine pu_leq ?_ | refine pu_gtr ?_ | refine pu_geq ?_ | refine pu_add ?_ | refine pu_sub ?_ | refine pu_mul ?_ | refine pu_neg ?_ | refine fa_at ?_ | refine nl_ptr ?_ | refine ex20 ?_ | refine ex21 ?_ | refine ex30 ?_ | refine ex31 ?_ | refine ex32 ?_ | refine ln_rule ?_ | refine lnT_rule ?_ | refine pu_and ?_ | refine pu_or ?_ | refine pu_xor ?_ | refine pu_seq ?_ | refine pu_sne ?_)
    refine cnd_t rfl ?_
    refine works12_spec h17 (fun w18 h18 => ?_)
    refine st1_here (A := [_]) (hfin2 h18) rfl rfl (by simp) (fun w19 h19 => ?_)
    refine lv_ret h19 (fun w20 h20 => ?_)
    refine ld_here h20 (.head _) rfl ?_
    exact k _ h20.drop
  · have h3 := h2
    obtain ⟨sv, hsvv⟩ : ∃ sv, sv = Value.pointer none := ⟨_, rfl⟩
    have hsv : Nost ((b4, cel [vB false] T.t_bool) :: (b2, cel (actC aw am ar ad) T.t_linesmanlaw12_Act) :: H) sv := .inl hsvv
    have hfG : ((b4, cel [vB false] T.t_bool) :: H).Sublist ((b4, cel [vB false] T.t_bool) :: (b2, cel (actC aw am ar ad) T.t_linesmanlaw12_Act) :: H) := .cons_cons _ (.cons _ (.refl _))
    have m2 : (b2, cel (actC aw am ar ad) T.t_linesmanlaw12_Act) ∈ (b4, cel [vB false] T.t_bool) :: (b2, cel (actC aw am ar ad) T.t_linesmanlaw12_Act) :: H := .tail _ (.head _)
    generalize (b4, cel [vB false] T.t_bool) :: (b2, cel (actC aw am ar ad) T.t_linesmanlaw12_Act) :: H = G at *
    subst hsvv
    refine next_none h3 (hsv.mono fun x hx => hx) (fun w4 h4 => ?_)
    repeat (first | refine pu_not ?_ | refine pu_eql ?_ | refine pu_neq ?_ | refine pu_lss ?_ | refine pu_leq ?_ | refine pu_gtr ?_ | refine pu_geq ?_ | refine pu_add ?_ | refine pu_sub ?_ | refine pu_mul ?_ | refine pu_neg ?_ | refine fa_at ?_ | refine nl_ptr ?_ | refine ex20 ?_ | refine ex21 ?_ | refine ex30 ?_ | refine ex31 ?_ | refine ex32 ?_ | refine ln_rule ?_ | refine lnT_rule ?_ | refine pu_and ?_ | refine pu_or ?_ | refine pu_xor ?_ | refine pu_seq ?_ | refine pu_sne ?_)
    refine al_rule h4 (l := (bare 0).cells) zins (fun b18 w5 h5 => ?_)
    refine al_rule h5 (l := [vI 0, vI 0]) (by kernel_rfl) (fun b20 w6 h6 => ?_)
    refine st_here (A := [_]) h6 (bare 0).cells rfl rfl (ins_plain _) (by simp [Ins.cells]) (fun w7 h7 => ?_)
    refine st_here (A := []) h7 [vI 0, vI 0] rfl rfl rfl (by simp) (fun w8 h8 => ?_)
    have h8 : Ow B w8 G := Ow.drop (Ow.drop h8)
    refine frames_none h8 hsv (fun b3 w9 h9 hsq => ?_)
    refine pu_fnl und_fnT ?_
    refine cnd_f rfl ?_
    refine range_fnX (X := G) (H := [(b3, cel [.slice none 0 0] T.t_sl_api_Frame)]) (A := linesmanlaw12_StackNone.note) (fuel := 400) mixed hsq frT_mono (by simp) (fun i args F ⟨c, m, e, _⟩ => by rw [e]; rfl) (h9.perm (List.perm_append_comm (l₁ := [_]))) (fun _ Y => Y = G) (fun _ _ => False) rfl ?_ ?_ ?_
    · intro lp r i args Y F R w10 hi
      exact absurd hi (Nat.not_lt_zero _)
    rotate_left
    · intro mk j Y w10 hz
      exact hz.elim
    rintro mk Y w10 hY h10
    rw [hY] at h10
    clear hY
    have hG2 : ∀ x, x ∈ G → x ∈ deF mk :: (G ++ [(b3, cel [.slice none 0 0] T.t_sl_api_Frame)]) := fun x hx => .tail _ (List.mem_append_left _ hx)
    have hfin : ∀ {A : Hp} {w : World}, Ow B w (A ++ (deF mk :: (G ++ [(b3, cel [.slice none 0 0] T.t_sl_api_Frame)]))) → Ow B w (deF mk :: (b4, cel [vB false] T.t_bool) :: H) := fun h =>
      h.sub (((hfG.trans (List.sublist_append_left _ _)).cons_cons _).trans (List.sublist_append_right _ _))
    have hsv := hsv.mono hG2
    have m2 := hG2 _ m2
    generalize hD : deF mk :: (G ++ [(b3, cel [.slice none 0 0] T.t_sl_api_Frame)]) = D at *
    refine given12_spec h10 (fun S v w11 hv h11 => ?_)
    refine new_spec (p := p12) (ws := []) (X := S) hv (sl_nil _ _ rfl) (fun x hx => List.mem_append_left _ hx) (by simp [p12]) (by simp) h11
      (fun hb => by rw [p12_good.ok] at hb; cases hb) (fun _ hb => absurd (by decide) (hb ⟨3, [gCall, gRet]⟩ (by decide) rfl)) (fun _ f _ hf _ s F w12 hres hfrs hs h12 => ?_)
    repeat (first | refine pu_not ?_ | refine pu_eql ?_ | refine pu_neq ?_ | refine pu_lss ?_ | refine pu_leq ?_ | refine pu_gtr ?_ | refine pu_geq ?_ | refine pu_add ?_ | refine pu_sub ?_ | refine pu_mul ?_ | refine pu_neg ?_ | refine fa_at ?_ | refine nl_ptr ?_ | refine ex20 ?_ | refine ex21 ?_ | refine ex30 ?_ | refine ex31 ?_ | refine ex32 ?_ | refine ln_rule ?_ | refine lnT_rule ?_ | refine pu_and ?_ | refine pu_or ?_ | refine pu_xor ?_ | refine pu_seq ?_ | refine pu_sne ?_)
    have h12 : Ow B w12 ((s.hp p12 ++ (F ++ S)) ++ D) := by simpa using h12
    have hsv := hsv.mono (H' := (s.hp p12 ++ (F ++ S)) ++ D) fun x hx => List.mem_append_right _ hx
    have m2 : (b2, cel (actC aw am ar ad) T.t_linesmanlaw12_Act) ∈ (s.hp p12 ++ (F ++ S)) ++ D := List.mem_append_right _ m2
    have ms : (s.b, stO (s.cell p12)) ∈ (s.hp p12 ++ (F ++ S)) ++ D := List.mem_append_left _ (.head _)
    have hfin2 : ∀ {w : World}, Ow B w ((s.hp p12 ++ (F ++ S)) ++ D) → Ow B w (deF mk :: (b4, cel [vB false] T.t_bool) :: H) := fun h => hfin h
    generalize (s.hp p12 ++ (F ++ S)) ++ D = E at *
    repeat (first | refine pu_not ?_ | refine pu_eql ?_ | refine pu_neq ?_ | refine pu_lss ?_ | refine pu_leq ?_ | refine pu_gtr ?_ | refine pu_geq ?_ | refine pu_add ?_ | refine pu_sub ?_ | refine pu_mul ?_ | refine pu_neg ?_ | refine fa_at ?_ | refine nl_ptr ?_ | refine ex20 ?_ | refine ex21 ?_ | refine ex30 ?_ | refine ex31 ?_ | refine ex32 ?_ | refine ln_rule ?_ | refine lnT_rule ?_ | refine pu_and ?_ | refine pu_or ?_ | refine pu_xor ?_ | refine pu_seq ?_ | refine pu_sne ?_)
    refine ld_here h12 m2 (v := vI am) rfl ?_
    refine step_none h12 hsv (fun w13 h13 => ?_)
    refine num12_spec h13 (fun w14 h14 => ?_)
    repeat (first | refine pu_not ?_ | refine pu_eql ?_ | refine pu_neq ?_ | refine pu_lss ?_ | refine pu_leq ?_ | refine pu_gtr ?_ | refine pu_geq ?_ | refine pu_add ?_ | refine pu_sub ?_ | refine pu_mul ?_ | refine pu_neg ?_ | refine fa_at ?_ | refine nl_ptr ?_ | refine ex20 ?_ | refine ex21 ?_ | refine ex30 ?_ | refine ex31 ?_ | refine ex32 ?_ | refine ln_rule ?_ | refine lnT_rule ?_ | refine pu_and ?_ | refine pu_or ?_ | refine pu_xor ?_ | refine pu_seq ?_ | refine pu_sne ?_)
    refine cnd_t rfl ?_
    repeat (first | refine pu_not ?_ | refine pu_eql ?_ | refine pu_neq ?_ | refine pu_lss ?_ | refine pu_leq ?_ | refine pu_gtr ?_ | refine pu_geq ?_ | refine pu_add ?_ | refine pu_sub ?_ | refine pu_mul ?_ | refine pu_neg ?_ | refine fa_at ?_ | refine nl_ptr ?_ | refine ex20 ?_ | refine ex21 ?_ | refine ex30 ?_ | refine ex31 ?_ | refine ex32 ?_ | refine ln_rule ?_ | refine lnT_rule ?_ | refine pu_and ?_ | refine pu_or ?_ | refine pu_xor ?_ | refine pu_seq ?_ | refine pu_sne ?_)
    refine ld_here h14 m2 (v := vI ar) rfl ?_
    repeat (first | refine pu_not ?_ | refine pu_eql ?_ | refine pu_neq ?_ | refine pu_lss ?_ | refine pu_leq ?_ | refine pu_gtr ?_ | refine pu_geq ?_ | refine pu_add ?_ | refine pu_sub ?_ | refine pu_mul ?_ | refine pu_neg ?_ | refine fa_at ?_ | refine nl_ptr ?_ | refine ex20 ?_ | refine ex21 ?_ | refine ex30 ?_ | refine ex31 ?_ | refine ex32 ?_ | refine ln_rule ?_ | refine lnT_rule ?_ | refine pu_and ?_ | refine pu_or ?_ | refine pu_xor ?_ | refine pu_seq ?_ | refine pu_sne ?_)
    refine ld_here h14 m2 (v := vU ad) rfl ?_
    refine pass_none h14 hsv (fun w15 h15 => ?_)
    refine num12_spec h15 (fun w16 h16 => ?_)
    repeat (first | refine pu_not ?_ | refine pu_eql ?_ | refine pu_neq ?_ | refine pu_lss ?_ | refine pu_leq ?_ | refine pu_gtr ?_ | refine pu_geq ?_ | refine pu_add ?_ | refine pu_sub ?_ | refine pu_mul ?_ | refine pu_neg ?_ | refine fa_at ?_ | refine nl_ptr ?_ | refine ex20 ?_ | refine ex21 ?_ | refine ex30 ?_ | refine ex31 ?_ | refine ex32 ?_ | refine ln_rule ?_ | refine lnT_rule ?_ | refine pu_and ?_ | refine pu_or ?_ | refine pu_xor ?_ | refine pu_seq ?_ | refine pu_sne ?_)
    refine cnd_t rfl ?_
    repeat (first | refine pu_not ?_ | refine pu_eql ?_ | refine pu_neq ?_ | refine pu_lss ?_ | refine pu_leq ?_ | refine pu_gtr ?_ | refine pu_geq ?_ | refine pu_add ?_ | refine pu_sub ?_ | refine pu_mul ?_ | refine pu_neg ?_ | refine fa_at ?_ | refine nl_ptr ?_ | refine ex20 ?_ | refine ex21 ?_ | refine ex30 ?_ | refine ex31 ?_ | refine ex32 ?_ | refine ln_rule ?_ | refine lnT_rule ?_ | refine pu_and ?_ | refine pu_or ?_ | refine pu_xor ?_ | refine pu_seq ?_ | refine pu_sne ?_)
    refine cnd_t rfl ?_
    repeat (first | refine pu_not ?_ | refine pu_eql ?_ | refine pu_neq ?_ | refine pu_lss ?_ | refine pu_leq ?_ | refine pu_gtr ?_ | refine pu_geq ?_ | refine pu_add ?_ | refine pu_sub ?_ | refine pu_mul ?_ | refine pu_neg ?_ | refine fa_at ?_ | refine nl_ptr ?_ | refine ex20 ?_ | refine ex21 ?_ | refine ex30 ?_ | refine ex31 ?_ | refine ex32 ?_ | refine ln_rule ?_ | refine lnT_rule ?_ | refine pu_and ?_ | refine pu_or ?_ | refine pu_xor ?_ | refine pu_seq ?_ | refine pu_sne ?_)
    refine ld_here h16 m2 (v := vI ar) rfl ?_
    refine reg_none h16 hsv ?_
    repeat (first | refine pu_not ?_ | refine pu_eql ?_ | refine pu_neq ?_ | refine pu_lss ?_ | refine pu_leq ?_ | refine pu_gtr ?_ | refine pu_geq ?_ | refine pu_add ?_ | refine pu_sub ?_ | refine pu_mul ?_ | refine pu_neg ?_ | refine fa_at ?_ | refine nl_ptr ?_ | refine ex20 ?_ | refine ex21 ?_ | refine ex30 ?_ | refine ex31 ?_ | refine ex32 ?_ | refine ln_rule ?_ | refine lnT_rule ?_ | refine pu_and ?_ | refine pu_or ?_ | refine pu_xor ?_ | refine pu_seq ?_ | refine pu_sne ?_)
    refine cnd_t rfl ?_
    refine depth_none h16 hsv ?_
    repeat (first | refine pu_not ?_ | refine pu_eql ?_ | refine pu_neq ?_ | refine pu_lss ?_ | refine pu_leq ?_ | refine pu_gtr ?_ | refine pu_geq ?_ | refine pu_add ?_ | refine pu_sub ?_ | refine pu_mul ?_ | refine pu_neg ?_ | refine fa_at ?_ | refine nl_ptr ?_ | refine ex20 ?_ | refine ex21 ?_ | refine ex30 ?_ | refine ex31 ?_ | refine ex32 ?_ | refine ln_rule ?_ | refine lnT_rule ?_ | refine pu_and ?_ | refine pu_or ?_ | refine pu_xor ?_ | refine pu_seq ?_ | refine pu_sne ?_)
    refine cnd_t rfl ?_
    refine result_none h16 hsv ?_
    repeat (first | refine pu_not ?_ | refine pu_eql ?_ | refine pu_neq ?_ | refine pu_lss ?_ | refine pu_leq ?_ | refine pu_gtr ?_ | refine pu_geq ?_ | refine pu_add ?_ | refine pu_sub ?_ | refine pu_mul ?_ | refine pu_neg ?_ | refine fa_at ?_ | refine nl_ptr ?_ | refine ex20 ?_ | refine ex21 ?_ | refine ex30 ?_ | refine ex31 ?_ | refine ex32 ?_ | refine ln_rule ?_ | refine lnT_rule ?_ | refine pu_and ?_ | refine pu_or ?_ | refine pu_xor ?_ | refine pu_seq ?_ | refine pu_sne ?_)
    refine cnd_t rfl ?_
    refine copy_none h16 hsv ?_
    refine pu_pnil und_ptr ?_
    refine cnd_t rfl ?_
    refine same_none h16 hsv (.inl rfl) ?_
    refine cnd_t rfl ?_
    refine num12_spec h16 (fun w17 h17 => ?_)
    repeat (first | refine pu_not ?_ | refine pu_eql ?_ | refine pu_neq ?_ | refine pu_lss ?_ | refine pu_leq ?_ | refine pu_gtr ?_ | refine pu_geq ?_ | refine pu_add ?_ | refine pu_sub ?_ | refine pu_mul ?_ | refine pu_neg ?_ | refine fa_at ?_ | refine nl_ptr ?_ | refine ex20 ?_ | refine ex21 ?_ | refine ex30 ?_ | refine ex31 ?_ | refine ex32 ?_ | refine ln_rule ?_ | refine lnT_rule ?_ | refine pu_and ?_ | refine pu_or ?_ | refine pu_xor ?_ | refine pu_seq ?_ | refine pu_sne ?_)
    refine cnd_t rfl ?_
    refine same_one h17 ms rfl hsv ?_
    repeat (first | refine pu_not ?_ | refine pu_eql ?_ | refine pu_neq ?_ | refine pu_lss ?_ | refine pu_leq ?_ | refine pu_gtr ?_ | refine pu_geq ?_ | refine pu_add ?_ | refine pu_sub ?_ | refine pu_mul ?_ | refine pu_neg ?_ | refine fa_at ?_ | refine nl_ptr ?_ | refine ex20 ?_ | refine ex21 ?_ | refine ex30 ?_ | refine ex31 ?_ | refine ex32 ?_ | refine ln_rule ?_ | refine lnT_rule ?_ | refine pu_and ?_ | refine pu_or ?_ | refine pu_xor ?_ | refine pu_seq ?_ | refine pu_sne ?_)
    refine cnd_t rfl ?_
    refine works12_spec h17 (fun w18 h18 => ?_)
    refine st1_here (A := [_]) (hfin2 h18) rfl rfl (by simp) (fun w19 h19 => ?_)
    refine lv_ret h19 (fun w20 h20 => ?_)
    refine ld_here h20 (.head _) rfl ?_
    exact k _ h20.drop
end
end Go.Proofs.YtkkkcafkepnecaaGreat
