/- The law StackHolds. -/
import Derived.Test.YtkkkcafkepnecaaGreatZV
import Derived.Test.YtkkkcafkepnecaaGreatFW

set_option linter.unusedVariables false
set_option linter.unusedSimpArgs false
namespace Go.Proofs.YtkkkcafkepnecaaGreat
open Go Go.RowKit Vc Ar
attribute [local irreducible] binV Op.unary convert nlW faW ldS ldW ixS ixA ixV ixT exW lnS lnT pu stW alW opW opU bsW mkW

section
variable {B w : World} {H X F F' Q R : Hp} {K : Value → World → Prop} {PK : List PanicEntry → World → Prop} {KK : Value → Prop} {p : Pr} {s s' : SK} {v a : Value}
theorem hp_sub {A : Hp} {w : World} (h : Ow B w (A ++ R)) : Ow B w R := h.sub (List.sublist_append_right _ _)
set_option maxRecDepth 40000 in
set_option maxHeartbeats 4000000 in
theorem StackHolds.law {v0 v1 : Value} (g0 : FitV PG H T.t_linesmanlaw12_Start v0) (g1 : FitV PG H T.t_sl_linesmanlaw12_Act v1) (h : Ow B w H) (k : ∀ w', Ow B w' H → K (vB true) w') : callW PG N.linesmanlaw12_StackHolds [v0, v1] K PK w := by
  obtain ⟨p, v, x, a, ws, rfl, hv, ha, hau⟩ := start_of g0
  obtain ⟨xs, hxs, hact⟩ := acts_of g1
  refine linesmanlaw12_StackHolds.ok ?_
  unfold linesmanlaw12_StackHolds.C
  refine al_rule h (l := stC p v x a) rfl (fun b2 w1 h1 => ?_)
  have hX : ∀ y, y ∈ H → y ∈ (b2, cel (stC p v x a) T.t_linesmanlaw12_Start) :: H := fun y hy => .tail _ hy
  have kk : ∀ w', Ow B w' ((b2, cel (stC p v x a) T.t_linesmanlaw12_Start) :: H) → K (vB true) w' := fun w' h' => k w' h'.drop
  have m2 : (b2, cel (stC p v x a) T.t_linesmanlaw12_Start) ∈ (b2, cel (stC p v x a) T.t_linesmanlaw12_Start) :: H := .head _
  generalize hG : (b2, cel (stC p v x a) T.t_linesmanlaw12_Start) :: H = G at *
  have hrl : (rgs ws).length = ws.length := by simp [rgs]
  refine ⟨fun w => Ow B w G, h1.drew, ?_⟩
  refine ldsn_here (fun w h => h) m2 (vs := stC p v x a) rfl rfl ?_
  refine small12_spec hv ha hX h1.drew (fun r w2 hr h2 => ⟨h2, ?_⟩)
  repeat (first | refine pu_not ?_ | refine pu_eql ?_ | refine pu_neq ?_ | refine pu_lss ?_ | refine pu_leq ?_ | refine pu_gtr ?_ | refine pu_geq ?_ | refine pu_add ?_ | refine pu_sub ?_ | refine pu_mul ?_ | refine pu_neg ?_ | refine fa_at ?_ | refine nl_ptr ?_ | refine ex20 ?_ | refine ex21 ?_ | refine ex30 ?_ | refine ex31 ?_ | refine ex32 ?_ | refine ln_rule ?_ | refine lnT_rule ?_ | refine pu_and ?_ | refine pu_or ?_ | refine pu_xor ?_ | refine pu_seq ?_ | refine pu_sne ?_)
  refine cnd (fun hq => works12_spec h2 kk) (fun hq => ?_)
  have hr := hr (by simpa using hq)
  refine sls_ln hxs ?_
  repeat (first | refine pu_not ?_ | refine pu_eql ?_ | refine pu_neq ?_ | refine pu_lss ?_ | refine pu_leq ?_ | refine pu_gtr ?_ | refine pu_geq ?_ | refine pu_add ?_ | refine pu_sub ?_ | refine pu_mul ?_ | refine pu_neg ?_ | refine fa_at ?_ | refine nl_ptr ?_ | refine ex20 ?_ | refine ex21 ?_ | refine ex30 ?_ | refine ex31 ?_ | refine ex32 ?_ | refine ln_rule ?_ | refine lnT_rule ?_ | refine pu_and ?_ | refine pu_or ?_ | refine pu_xor ?_ | refine pu_seq ?_ | refine pu_sne ?_)
  refine cnd (fun hq => works12_spec h2 kk) (fun hq80 => ?_)
  have hq80 : xs.length ≤ 80 := by simp at hq80; omega
  repeat (first | refine pu_not ?_ | refine pu_eql ?_ | refine pu_neq ?_ | refine pu_lss ?_ | refine pu_leq ?_ | refine pu_gtr ?_ | refine pu_geq ?_ | refine pu_add ?_ | refine pu_sub ?_ | refine pu_mul ?_ | refine pu_neg ?_ | refine fa_at ?_ | refine nl_ptr ?_ | refine ex20 ?_ | refine ex21 ?_ | refine ex30 ?_ | refine ex31 ?_ | refine ex32 ?_ | refine ln_rule ?_ | refine lnT_rule ?_ | refine pu_and ?_ | refine pu_or ?_ | refine pu_xor ?_ | refine pu_seq ?_ | refine pu_sne ?_)
  refine ldsn_here (fun w h => h) m2 (vs := p.cells v) rfl rfl ?_
  refine right09_spec hv hX h2 (fun w3 h3 => ⟨h3, ?_⟩)
  repeat (first | refine pu_not ?_ | refine pu_eql ?_ | refine pu_neq ?_ | refine pu_lss ?_ | refine pu_leq ?_ | refine pu_gtr ?_ | refine pu_geq ?_ | refine pu_add ?_ | refine pu_sub ?_ | refine pu_mul ?_ | refine pu_neg ?_ | refine fa_at ?_ | refine nl_ptr ?_ | refine ex20 ?_ | refine ex21 ?_ | refine ex30 ?_ | refine ex31 ?_ | refine ex32 ?_ | refine ln_rule ?_ | refine lnT_rule ?_ | refine pu_and ?_ | refine pu_or ?_ | refine pu_xor ?_ | refine pu_seq ?_ | refine pu_sne ?_)
  refine cnd (fun hq => works12_spec h3 kk) (fun hok => ?_)
  have hok : okP' p = true := by simpa using hok
  have good := fs_good hv hok
  repeat (first | refine pu_not ?_ | refine pu_eql ?_ | refine pu_neq ?_ | refine pu_lss ?_ | refine pu_leq ?_ | refine pu_gtr ?_ | refine pu_geq ?_ | refine pu_add ?_ | refine pu_sub ?_ | refine pu_mul ?_ | refine pu_neg ?_ | refine fa_at ?_ | refine nl_ptr ?_ | refine ex20 ?_ | refine ex21 ?_ | refine ex30 ?_ | refine ex31 ?_ | refine ex32 ?_ | refine ln_rule ?_ | refine lnT_rule ?_ | refine pu_and ?_ | refine pu_or ?_ | refine pu_xor ?_ | refine pu_seq ?_ | refine pu_sne ?_)
  refine lds_here (fun w h => h) m2 (v := vI x) rfl ?_
  repeat (first | refine pu_not ?_ | refine pu_eql ?_ | refine pu_neq ?_ | refine pu_lss ?_ | refine pu_leq ?_ | refine pu_gtr ?_ | refine pu_geq ?_ | refine pu_add ?_ | refine pu_sub ?_ | refine pu_mul ?_ | refine pu_neg ?_ | refine fa_at ?_ | refine nl_ptr ?_ | refine ex20 ?_ | refine ex21 ?_ | refine ex30 ?_ | refine ex31 ?_ | refine ex32 ?_ | refine ln_rule ?_ | refine lnT_rule ?_ | refine pu_and ?_ | refine pu_or ?_ | refine pu_xor ?_ | refine pu_seq ?_ | refine pu_sne ?_)
  refine cnd (fun hq => works12_spec h3 kk) (fun hx0 => ?_)
  have hx0 : 0 ≤ x := by simpa using hx0
  repeat (first | refine pu_not ?_ | refine pu_eql ?_ | refine pu_neq ?_ | refine pu_lss ?_ | refine pu_leq ?_ | refine pu_gtr ?_ | refine pu_geq ?_ | refine pu_add ?_ | refine pu_sub ?_ | refine pu_mul ?_ | refine pu_neg ?_ | refine fa_at ?_ | refine nl_ptr ?_ | refine ex20 ?_ | refine ex21 ?_ | refine ex30 ?_ | refine ex31 ?_ | refine ex32 ?_ | refine ln_rule ?_ | refine lnT_rule ?_ | refine pu_and ?_ | refine pu_or ?_ | refine pu_xor ?_ | refine pu_seq ?_ | refine pu_sne ?_)
  refine lds_here (fun w h => h) m2 (v := vI x) rfl ?_
  repeat (first | refine pu_not ?_ | refine pu_eql ?_ | refine pu_neq ?_ | refine pu_lss ?_ | refine pu_leq ?_ | refine pu_gtr ?_ | refine pu_geq ?_ | refine pu_add ?_ | refine pu_sub ?_ | refine pu_mul ?_ | refine pu_neg ?_ | refine fa_at ?_ | refine nl_ptr ?_ | refine ex20 ?_ | refine ex21 ?_ | refine ex30 ?_ | refine ex31 ?_ | refine ex32 ?_ | refine ln_rule ?_ | refine lnT_rule ?_ | refine pu_and ?_ | refine pu_or ?_ | refine pu_xor ?_ | refine pu_seq ?_ | refine pu_sne ?_)
  refine lds_here (fun w h => h) m2 (v := v) rfl ?_
  refine hv.ln ?_
  repeat (first | refine pu_not ?_ | refine pu_eql ?_ | refine pu_neq ?_ | refine pu_lss ?_ | refine pu_leq ?_ | refine pu_gtr ?_ | refine pu_geq ?_ | refine pu_add ?_ | refine pu_sub ?_ | refine pu_mul ?_ | refine pu_neg ?_ | refine fa_at ?_ | refine nl_ptr ?_ | refine ex20 ?_ | refine ex21 ?_ | refine ex30 ?_ | refine ex31 ?_ | refine ex32 ?_ | refine ln_rule ?_ | refine lnT_rule ?_ | refine pu_and ?_ | refine pu_or ?_ | refine pu_xor ?_ | refine pu_seq ?_ | refine pu_sne ?_)
  refine cnd (fun hq => works12_spec h3 kk) (fun hx1 => ?_)
  have hx1 : x < p.fs.length := by simp at hx1; omega
  obtain ⟨ps, cc, f, f1, f2, f3, f4, f5⟩ := hv.at (n := x) hx0 hx1
  repeat (first | refine pu_not ?_ | refine pu_eql ?_ | refine pu_neq ?_ | refine pu_lss ?_ | refine pu_leq ?_ | refine pu_gtr ?_ | refine pu_geq ?_ | refine pu_add ?_ | refine pu_sub ?_ | refine pu_mul ?_ | refine pu_neg ?_ | refine fa_at ?_ | refine nl_ptr ?_ | refine ex20 ?_ | refine ex21 ?_ | refine ex30 ?_ | refine ex31 ?_ | refine ex32 ?_ | refine ln_rule ?_ | refine lnT_rule ?_ | refine pu_and ?_ | refine pu_or ?_ | refine pu_xor ?_ | refine pu_seq ?_ | refine pu_sne ?_)
  refine lds_here (fun w h => h) m2 (v := a) rfl ?_
  refine sl_ln ha ?_
  rw [hrl]
  repeat (first | refine pu_not ?_ | refine pu_eql ?_ | refine pu_neq ?_ | refine pu_lss ?_ | refine pu_leq ?_ | refine pu_gtr ?_ | refine pu_geq ?_ | refine pu_add ?_ | refine pu_sub ?_ | refine pu_mul ?_ | refine pu_neg ?_ | refine fa_at ?_ | refine nl_ptr ?_ | refine ex20 ?_ | refine ex21 ?_ | refine ex30 ?_ | refine ex31 ?_ | refine ex32 ?_ | refine ln_rule ?_ | refine lnT_rule ?_ | refine pu_and ?_ | refine pu_or ?_ | refine pu_xor ?_ | refine pu_seq ?_ | refine pu_sne ?_)
  refine lds_here (fun w h => h) m2 (v := v) rfl ?_
  repeat (first | refine pu_not ?_ | refine pu_eql ?_ | refine pu_neq ?_ | refine pu_lss ?_ | refine pu_leq ?_ | refine pu_gtr ?_ | refine pu_geq ?_ | refine pu_add ?_ | refine pu_sub ?_ | refine pu_mul ?_ | refine pu_neg ?_ | refine fa_at ?_ | refine nl_ptr ?_ | refine ex20 ?_ | refine ex21 ?_ | refine ex30 ?_ | refine ex31 ?_ | refine ex32 ?_ | refine ln_rule ?_ | refine lnT_rule ?_ | refine pu_and ?_ | refine pu_or ?_ | refine pu_xor ?_ | refine pu_seq ?_ | refine pu_sne ?_)
  refine lds_here (fun w h => h) m2 (v := vI x) rfl ?_
  refine sls_flds (fun w h => h) (f2.mono hX) hx0 f3 (j := 0) (v := vI f.regs) rfl ?_
  repeat (first | refine pu_not ?_ | refine pu_eql ?_ | refine pu_neq ?_ | refine pu_lss ?_ | refine pu_leq ?_ | refine pu_gtr ?_ | refine pu_geq ?_ | refine pu_add ?_ | refine pu_sub ?_ | refine pu_mul ?_ | refine pu_neg ?_ | refine fa_at ?_ | refine nl_ptr ?_ | refine ex20 ?_ | refine ex21 ?_ | refine ex30 ?_ | refine ex31 ?_ | refine ex32 ?_ | refine ln_rule ?_ | refine lnT_rule ?_ | refine pu_and ?_ | refine pu_or ?_ | refine pu_xor ?_ | refine pu_seq ?_ | refine pu_sne ?_)
  refine cnd (fun hq => works12_spec h3 kk) (fun hx2 => ?_)
  have hx2 : (ws.length : Int) ≤ f.regs := by simpa using hx2
  repeat (first | refine pu_not ?_ | refine pu_eql ?_ | refine pu_neq ?_ | refine pu_lss ?_ | refine pu_leq ?_ | refine pu_gtr ?_ | refine pu_geq ?_ | refine pu_add ?_ | refine pu_sub ?_ | refine pu_mul ?_ | refine pu_neg ?_ | refine fa_at ?_ | refine nl_ptr ?_ | refine ex20 ?_ | refine ex21 ?_ | refine ex30 ?_ | refine ex31 ?_ | refine ex32 ?_ | refine ln_rule ?_ | refine lnT_rule ?_ | refine pu_and ?_ | refine pu_or ?_ | refine pu_xor ?_ | refine pu_seq ?_ | refine pu_sne ?_)
  refine ldn_here h3 m2 (vs := p.cells v) rfl rfl ?_
  repeat (first | refine pu_not ?_ | refine pu_eql ?_ | refine pu_neq ?_ | refine pu_lss ?_ | refine pu_leq ?_ | refine pu_gtr ?_ | refine pu_geq ?_ | refine pu_add ?_ | refine pu_sub ?_ | refine pu_mul ?_ | refine pu_neg ?_ | refine fa_at ?_ | refine nl_ptr ?_ | refine ex20 ?_ | refine ex21 ?_ | refine ex30 ?_ | refine ex31 ?_ | refine ex32 ?_ | refine ln_rule ?_ | refine lnT_rule ?_ | refine pu_and ?_ | refine pu_or ?_ | refine pu_xor ?_ | refine pu_seq ?_ | refine pu_sne ?_)
  refine ld_here h3 m2 (v := vI x) rfl ?_
  repeat (first | refine pu_not ?_ | refine pu_eql ?_ | refine pu_neq ?_ | refine pu_lss ?_ | refine pu_leq ?_ | refine pu_gtr ?_ | refine pu_geq ?_ | refine pu_add ?_ | refine pu_sub ?_ | refine pu_mul ?_ | refine pu_neg ?_ | refine fa_at ?_ | refine nl_ptr ?_ | refine ex20 ?_ | refine ex21 ?_ | refine ex30 ?_ | refine ex31 ?_ | refine ex32 ?_ | refine ln_rule ?_ | refine lnT_rule ?_ | refine pu_and ?_ | refine pu_or ?_ | refine pu_xor ?_ | refine pu_seq ?_ | refine pu_sne ?_)
  refine ld_here h3 m2 (v := a) rfl ?_
  refine new_spec hv ha hX (by omega) (by omega) h3 (fun hb => by rw [hok] at hb; cases hb) (fun _ hb => absurd hx2 (hb f hx0 f1)) (fun _ f' _ hf' _ s0 F w4 hres hfrs hs0 h4 => ?_)
  rw [f1] at hf'
  cases hf'
  repeat (first | refine pu_not ?_ | refine pu_eql ?_ | refine pu_neq ?_ | refine pu_lss ?_ | refine pu_leq ?_ | refine pu_gtr ?_ | refine pu_geq ?_ | refine pu_add ?_ | refine pu_sub ?_ | refine pu_mul ?_ | refine pu_neg ?_ | refine fa_at ?_ | refine nl_ptr ?_ | refine ex20 ?_ | refine ex21 ?_ | refine ex30 ?_ | refine ex31 ?_ | refine ex32 ?_ | refine ln_rule ?_ | refine lnT_rule ?_ | refine pu_and ?_ | refine pu_or ?_ | refine pu_xor ?_ | refine pu_seq ?_ | refine pu_sne ?_)
  refine num12_spec h4 (fun w5 h5 => ?_)
  repeat (first | refine pu_not ?_ | refine pu_eql ?_ | refine pu_neq ?_ | refine pu_lss ?_ | refine pu_leq ?_ | refine pu_gtr ?_ | refine pu_geq ?_ | refine pu_add ?_ | refine pu_sub ?_ | refine pu_mul ?_ | refine pu_neg ?_ | refine fa_at ?_ | refine nl_ptr ?_ | refine ex20 ?_ | refine ex21 ?_ | refine ex30 ?_ | refine ex31 ?_ | refine ex32 ?_ | refine ln_rule ?_ | refine lnT_rule ?_ | refine pu_and ?_ | refine pu_or ?_ | refine pu_xor ?_ | refine pu_seq ?_ | refine pu_sne ?_)
  refine cnd_f rfl ?_
  have hI0 : Inv p s0.frs := by
    rw [hfrs]
    exact Inv.beg good f1 hx2 hau
  obtain ⟨b0, hb0⟩ : ∃ b0, s0.b = b0 := ⟨_, rfl⟩
  rw [hb0]
  generalize hR : F ++ G = R0 at *
  have hF0 : ∀ y, y ∈ F → y ∈ R0 := fun y hy => by rw [← hR]; exact List.mem_append_left _ hy
  have hG0 : ∀ y, y ∈ G → y ∈ R0 := fun y hy => by rw [← hR]; exact List.mem_append_right _ hy
  have hH0 : ∀ y, y ∈ H → y ∈ R0 := fun y hy => hG0 y (hX y hy)
  have kr : ∀ {A : Hp} {w' : World}, Ow B w' (A ++ R0) → K (vB true) w' := fun h' => by
    have := hp_sub h'
    rw [← hR] at this
    exact kk _ (hp_sub this)
  have m2r := hG0 _ m2
  refine ⟨fun t w => ∃ (n : Nat) (s : SK), t = [vI n] ∧ n ≤ xs.length ∧ s.b = b0 ∧ s.ok p F ∧ Inv p s.frs ∧ s.es.length ≤ n + 1 ∧ Ow B w (s.hp p ++ R0), fun t _ => match t with | [.int _ n] => xs.length - n.toNat | _ => 0,
    ⟨0, s0, rfl, Nat.zero_le _, hb0, hs0, hI0, by rw [SK.es_len, hfrs]; simp, h5⟩, ?_⟩
  clear h1 h2 h3 h4 h5 hs0 hI0 hfrs hres hb0 s0
  rintro t w6 ⟨n, s, rfl, hn, hsb, hs, hI, hdep, h6⟩ j
  refine sls_ln hxs ?_
  repeat (first | refine pu_not ?_ | refine pu_eql ?_ | refine pu_neq ?_ | refine pu_lss ?_ | refine pu_leq ?_ | refine pu_gtr ?_ | refine pu_geq ?_ | refine pu_add ?_ | refine pu_sub ?_ | refine pu_mul ?_ | refine pu_neg ?_ | refine fa_at ?_ | refine nl_ptr ?_ | refine ex20 ?_ | refine ex21 ?_ | refine ex30 ?_ | refine ex31 ?_ | refine ex32 ?_ | refine ln_rule ?_ | refine lnT_rule ?_ | refine pu_and ?_ | refine pu_or ?_ | refine pu_xor ?_ | refine pu_seq ?_ | refine pu_sne ?_)
  refine cnd (fun hlt => ?_) (fun hlt => ?_)
  rotate_left
  · exact works12_spec h6 (fun w' h' => kr h')
  have hlt : n < xs.length := by simpa using hlt
  have hrg := hI.regs good
  rw [← hsb]
  refine scopy_spec hs hrg h6 (fun sc w7 hcF hcr hcf hcs h7 => ?_)
  have h7 : Ow B w7 (s.hp p ++ (sc.hp p ++ R0)) := h7.perm (List.perm_append_comm_assoc _ _ _)
  refine depth_spec hs h7 (.head _) ?_
  obtain ⟨aw, am, ar, ad, hxa, hadu⟩ := hact _ (List.getElem_mem hlt)
  have hat : xs[(n : Int).toNat]? = some (actC aw am ar ad) := by rw [Int.toNat_natCast, List.getElem?_eq_getElem hlt, hxa]
  have ga : ∀ {R1 : Hp} {w : World} {j : Nat} {u : Value} {X : Value → Prop}, Ow B w (R1 ++ R0) → (actC aw am ar ad)[j]? = some u → X u → ixS 4 v1 (vI n) fun t => faW j t fun t => ldW none t w X := fun h hj k => sls_fld h (hxs.mono fun y hy => List.mem_append_right _ (hH0 y hy)) (by omega) hat hj k
  have hFr : ∀ y, y ∈ F → y ∈ sc.hp p ++ R0 := fun y hy => List.mem_append_right _ (hF0 y hy)
  have hlen1 : s.es.length + 1 < 1000 := by omega
  refine ga (R1 := s.hp p ++ sc.hp p) (j := 0) (by rw [List.append_assoc]; exact h7) rfl ?_
  repeat (first | refine pu_not ?_ | refine pu_eql ?_ | refine pu_neq ?_ | refine pu_lss ?_ | refine pu_leq ?_ | refine pu_gtr ?_ | refine pu_geq ?_ | refine pu_add ?_ | refine pu_sub ?_ | refine pu_mul ?_ | refine pu_neg ?_ | refine fa_at ?_ | refine nl_ptr ?_ | refine ex20 ?_ | refine ex21 ?_ | refine ex30 ?_ | refine ex31 ?_ | refine ex32 ?_ | refine ln_rule ?_ | refine lnT_rule ?_ | refine pu_and ?_ | refine pu_or ?_ | refine pu_xor ?_ | refine pu_seq ?_ | refine pu_sne ?_)
  refine cnd (fun hw0 => ?_) (fun hw0 => ?_)
  · refine ga (R1 := s.hp p ++ sc.hp p) (j := 0) (by rw [List.append_assoc]; exact h7) rfl ?_
    repeat (first | refine pu_not ?_ | refine pu_eql ?_ | refine pu_neq ?_ | refine pu_lss ?_ | refine pu_leq ?_ | refine pu_gtr ?_ | refine pu_geq ?_ | refine pu_add ?_ | refine pu_sub ?_ | refine pu_mul ?_ | refine pu_neg ?_ | refine fa_at ?_ | refine nl_ptr ?_ | refine ex20 ?_ | refine ex21 ?_ | refine ex30 ?_ | refine ex31 ?_ | refine ex32 ?_ | refine ln_rule ?_ | refine lnT_rule ?_ | refine pu_and ?_ | refine pu_or ?_ | refine pu_xor ?_ | refine pu_seq ?_ | refine pu_sne ?_)
    refine cnd (fun hw5 => ?_) (fun hw5 => ?_)
    · refine ga (R1 := s.hp p ++ sc.hp p) (j := 1) (by rw [List.append_assoc]; exact h7) rfl ?_
      refine step_spec hs hFr (good.safeL hI) hlen1 h7 (fun s1 w8 hsb1 _ hf1 hs1 h9 => ?_)
      have hf1' : s1.frs = (stepF p am s.frs s.res).2.1 := congrArg Prod.fst hf1
      have hr1' : s1.res = (stepF p am s.frs s.res).2.2 := congrArg Prod.snd hf1
      have hsl := step_len (p := p) (most := am) (l := s.frs) (res := s.res)
      have hI1 : Inv p s1.frs := by rw [hf1']; exact hI.step good
      have hsame : (stepF p am s.frs s.res).1 ≠ 0 → s1.frs = s.frs ∧ s1.res = s.res := fun hne => by
        have := hsl.2.2.2 hne
        rw [hf1', hr1', this]; exact ⟨rfl, rfl⟩
      have hm1 : s1.es.length ≤ s.es.length + 1 := by rw [SK.es_len, SK.es_len, hf1']; exact hsl.1
      have hm2 : s.es.length ≤ s1.es.length + 1 := by rw [SK.es_len, SK.es_len, hf1']; exact hsl.2.1
      have hm3 : s1.es.length ≤ s.es.length ∨ (s1.es.length : Int) ≤ am := by rw [SK.es_len, SK.es_len, hf1']; exact hsl.2.2.1
      obtain ⟨er, her⟩ : ∃ er, (stepF p am s.frs s.res).1 = er := ⟨_, rfl⟩
      rw [her] at hsame ⊢
      rw [← hsb1]
      refine depth_spec hs1 h9 (.head _) ?_
      refine num12_spec h9 (fun w10 h10 => ?_)
      repeat (first | refine pu_not ?_ | refine pu_eql ?_ | refine pu_neq ?_ | refine pu_lss ?_ | refine pu_leq ?_ | refine pu_gtr ?_ | refine pu_geq ?_ | refine pu_add ?_ | refine pu_sub ?_ | refine pu_mul ?_ | refine pu_neg ?_ | refine fa_at ?_ | refine nl_ptr ?_ | refine ex20 ?_ | refine ex21 ?_ | refine ex30 ?_ | refine ex31 ?_ | refine ex32 ?_ | refine ln_rule ?_ | refine lnT_rule ?_ | refine pu_and ?_ | refine pu_or ?_ | refine pu_xor ?_ | refine pu_seq ?_ | refine pu_sne ?_)
      refine cnd (fun hne => ?_) (fun hne => ?_)
      · have hne : er ≠ 0 := by simpa using hne
        obtain ⟨hfe, hre⟩ := hsame hne
        refine ssame_spec hs1 hcs (by rw [hfe]; exact hrg) (by rw [hcf]; exact hrg) h10 (fun y hy => List.mem_append_left _ hy) (fun y hy => List.mem_append_right _ (List.mem_append_left _ hy)) (fun y hy => List.mem_append_right _ (List.mem_append_right _ (hF0 y hy))) (fun y hy => List.mem_append_right _ (List.mem_append_right _ (hF0 y hy))) (fun w11 hN => ?_)
        repeat (first | refine pu_not ?_ | refine pu_eql ?_ | refine pu_neq ?_ | refine pu_lss ?_ | refine pu_leq ?_ | refine pu_gtr ?_ | refine pu_geq ?_ | refine pu_add ?_ | refine pu_sub ?_ | refine pu_mul ?_ | refine pu_neg ?_ | refine fa_at ?_ | refine nl_ptr ?_ | refine ex20 ?_ | refine ex21 ?_ | refine ex30 ?_ | refine ex31 ?_ | refine ex32 ?_ | refine ln_rule ?_ | refine lnT_rule ?_ | refine pu_and ?_ | refine pu_or ?_ | refine pu_xor ?_ | refine pu_seq ?_ | refine pu_sne ?_)
        refine cnd_f (by rw [hre, hcr, hfe, hcf]; simp) ?_
        repeat (first | refine pu_not ?_ | refine pu_eql ?_ | refine pu_neq ?_ | refine pu_lss ?_ | refine pu_leq ?_ | refine pu_gtr ?_ | refine pu_geq ?_ | refine pu_add ?_ | refine pu_sub ?_ | refine pu_mul ?_ | refine pu_neg ?_ | refine fa_at ?_ | refine nl_ptr ?_ | refine ex20 ?_ | refine ex21 ?_ | refine ex30 ?_ | refine ex31 ?_ | refine ex32 ?_ | refine ln_rule ?_ | refine lnT_rule ?_ | refine pu_and ?_ | refine pu_or ?_ | refine pu_xor ?_ | refine pu_seq ?_ | refine pu_sne ?_)
        rw [wrap64_in (by omega) (by omega)]
        refine cnd_f (by simp; omega) ?_
        repeat (first | refine pu_not ?_ | refine pu_eql ?_ | refine pu_neq ?_ | refine pu_lss ?_ | refine pu_leq ?_ | refine pu_gtr ?_ | refine pu_geq ?_ | refine pu_add ?_ | refine pu_sub ?_ | refine pu_mul ?_ | refine pu_neg ?_ | refine fa_at ?_ | refine nl_ptr ?_ | refine ex20 ?_ | refine ex21 ?_ | refine ex30 ?_ | refine ex31 ?_ | refine ex32 ?_ | refine ln_rule ?_ | refine lnT_rule ?_ | refine pu_and ?_ | refine pu_or ?_ | refine pu_xor ?_ | refine pu_seq ?_ | refine pu_sne ?_)
        rw [wrap64_in (by omega) (by omega)]
        refine cnd_f (by simp; omega) ?_
        refine pu_max2 ?_
        repeat (first | refine pu_not ?_ | refine pu_eql ?_ | refine pu_neq ?_ | refine pu_lss ?_ | refine pu_leq ?_ | refine pu_gtr ?_ | refine pu_geq ?_ | refine pu_add ?_ | refine pu_sub ?_ | refine pu_mul ?_ | refine pu_neg ?_ | refine fa_at ?_ | refine nl_ptr ?_ | refine ex20 ?_ | refine ex21 ?_ | refine ex30 ?_ | refine ex31 ?_ | refine ex32 ?_ | refine ln_rule ?_ | refine lnT_rule ?_ | refine pu_and ?_ | refine pu_or ?_ | refine pu_xor ?_ | refine pu_seq ?_ | refine pu_sne ?_)
        refine cnd (fun hmx => ?_) (fun hmx => ?_)
        · have hmx : (s1.es.length : Int) ≤ am := by
            have hgt : s.es.length < s1.es.length := by
              simp only [decide_eq_true_eq] at hmx
              split at hmx <;> omega
            rcases hm3 with h | h <;> omega
          refine ga (R1 := s1.hp p ++ sc.hp p) (j := 1) (by rw [List.append_assoc]; exact hN) rfl ?_
          repeat (first | refine pu_not ?_ | refine pu_eql ?_ | refine pu_neq ?_ | refine pu_lss ?_ | refine pu_leq ?_ | refine pu_gtr ?_ | refine pu_geq ?_ | refine pu_add ?_ | refine pu_sub ?_ | refine pu_mul ?_ | refine pu_neg ?_ | refine fa_at ?_ | refine nl_ptr ?_ | refine ex20 ?_ | refine ex21 ?_ | refine ex30 ?_ | refine ex31 ?_ | refine ex32 ?_ | refine ln_rule ?_ | refine lnT_rule ?_ | refine pu_and ?_ | refine pu_or ?_ | refine pu_xor ?_ | refine pu_seq ?_ | refine pu_sne ?_)
          refine cnd_f (by simp; omega) ?_
          cases hes : s1.es with
          | nil =>
            have hl0 : s1.frs.length = 0 := by rw [← SK.es_len, hes]; rfl
            refine next_end hs1 hes hN (.head _) (fun wa hwa => ?_)
            unfold zeroNext
            repeat (first | refine pu_not ?_ | refine pu_eql ?_ | refine pu_neq ?_ | refine pu_lss ?_ | refine pu_leq ?_ | refine pu_gtr ?_ | refine pu_geq ?_ | refine pu_add ?_ | refine pu_sub ?_ | refine pu_mul ?_ | refine pu_neg ?_ | refine fa_at ?_ | refine nl_ptr ?_ | refine ex20 ?_ | refine ex21 ?_ | refine ex30 ?_ | refine ex31 ?_ | refine ex32 ?_ | refine ln_rule ?_ | refine lnT_rule ?_ | refine pu_and ?_ | refine pu_or ?_ | refine pu_xor ?_ | refine pu_seq ?_ | refine pu_sne ?_)
            refine al_rule hwa (l := (bare 0).cells) zins (fun ba wb hwb => ?_)
            refine al_rule hwb (l := [vI 0, vI 0]) (by kernel_rfl) (fun bb wc hwc => ?_)
            refine st_here (A := [_]) hwc (bare 0).cells rfl rfl (ins_plain _) (by simp [Ins.cells]) (fun wd hwd => ?_)
            refine st_here (A := []) hwd [vI 0, vI 0] rfl rfl rfl (by simp) (fun we hwe => ?_)
            repeat (first | refine pu_not ?_ | refine pu_eql ?_ | refine pu_neq ?_ | refine pu_lss ?_ | refine pu_leq ?_ | refine pu_gtr ?_ | refine pu_geq ?_ | refine pu_add ?_ | refine pu_sub ?_ | refine pu_mul ?_ | refine pu_neg ?_ | refine fa_at ?_ | refine nl_ptr ?_ | refine ex20 ?_ | refine ex21 ?_ | refine ex30 ?_ | refine ex31 ?_ | refine ex32 ?_ | refine ln_rule ?_ | refine lnT_rule ?_ | refine pu_and ?_ | refine pu_or ?_ | refine pu_xor ?_ | refine pu_seq ?_ | refine pu_sne ?_)
            refine ldn_here hwe (.tail _ (.tail _ (List.mem_append_right _ (List.mem_append_right _ m2r)))) (vs := p.cells v) rfl rfl ?_
            refine ldn_here hwe (.head _) (vs := [vI (0 : Nat), vI (0 : Nat)]) rfl rfl ?_
            refine refAt_spec (n := 0) (m := 0) hv (fun y hy => .tail _ (.tail _ (List.mem_append_right _ (List.mem_append_right _ (hH0 y hy))))) hwe (fun r e wf _ hwf => ?_)
            repeat (first | refine pu_not ?_ | refine pu_eql ?_ | refine pu_neq ?_ | refine pu_lss ?_ | refine pu_leq ?_ | refine pu_gtr ?_ | refine pu_geq ?_ | refine pu_add ?_ | refine pu_sub ?_ | refine pu_mul ?_ | refine pu_neg ?_ | refine fa_at ?_ | refine nl_ptr ?_ | refine ex20 ?_ | refine ex21 ?_ | refine ex30 ?_ | refine ex31 ?_ | refine ex32 ?_ | refine ln_rule ?_ | refine lnT_rule ?_ | refine pu_and ?_ | refine pu_or ?_ | refine pu_xor ?_ | refine pu_seq ?_ | refine pu_sne ?_)
            refine al_rule hwf (l := (bare 0).cells) zins (fun bc wg hwg => ?_)
            refine st_here (A := []) hwg r.cells rfl rfl (ins_plain _) (by simp [Ins.cells]) (fun wh hwh => ?_)
            repeat (first | refine pu_not ?_ | refine pu_eql ?_ | refine pu_neq ?_ | refine pu_lss ?_ | refine pu_leq ?_ | refine pu_gtr ?_ | refine pu_geq ?_ | refine pu_add ?_ | refine pu_sub ?_ | refine pu_mul ?_ | refine pu_neg ?_ | refine fa_at ?_ | refine nl_ptr ?_ | refine ex20 ?_ | refine ex21 ?_ | refine ex30 ?_ | refine ex31 ?_ | refine ex32 ?_ | refine ln_rule ?_ | refine lnT_rule ?_ | refine pu_and ?_ | refine pu_or ?_ | refine pu_xor ?_ | refine pu_seq ?_ | refine pu_sne ?_)
            refine pu_bneq (by kernel_rfl) ?_
            refine cnd_f (by simp) ?_
            refine cnd_f rfl ?_
            unfold linesmanlaw12_StackHolds.k0
            have hz : Ow B wh (s1.hp p ++ R0) := by
              have := Ow.drop (Ow.drop (Ow.drop hwh))
              exact this.sub ((List.Sublist.refl _).append (List.sublist_append_right _ _))
            repeat (first | refine pu_not ?_ | refine pu_eql ?_ | refine pu_neq ?_ | refine pu_lss ?_ | refine pu_leq ?_ | refine pu_gtr ?_ | refine pu_geq ?_ | refine pu_add ?_ | refine pu_sub ?_ | refine pu_mul ?_ | refine pu_neg ?_ | refine fa_at ?_ | refine nl_ptr ?_ | refine ex20 ?_ | refine ex21 ?_ | refine ex30 ?_ | refine ex31 ?_ | refine ex32 ?_ | refine ln_rule ?_ | refine lnT_rule ?_ | refine pu_and ?_ | refine pu_or ?_ | refine pu_xor ?_ | refine pu_seq ?_ | refine pu_sne ?_)
            rw [wrap64_in (by omega) (by omega)]
            exact ⟨⟨n + 1, s1, rfl, hlt, rfl, hs1, hI1, by omega, hz⟩, by simp; omega⟩
          | cons t1 lo1 =>
            have hfr1 : s1.frs = t1.m :: lo1.map FE.m := by simp [SK.frs, hes]
            have hlp : 0 < s1.es.length := by rw [hes]; simp
            obtain ⟨f1', hfi⟩ := hI1.fi t1.m (by rw [hfr1]; exact .head _)
            obtain ⟨i1, hi1, _⟩ := good.facts hfi
            refine next_at hs1 hes hFr hfi.hf hi1 hN (fun wa hwa => ?_)
            repeat (first | refine pu_not ?_ | refine pu_eql ?_ | refine pu_neq ?_ | refine pu_lss ?_ | refine pu_leq ?_ | refine pu_gtr ?_ | refine pu_geq ?_ | refine pu_add ?_ | refine pu_sub ?_ | refine pu_mul ?_ | refine pu_neg ?_ | refine fa_at ?_ | refine nl_ptr ?_ | refine ex20 ?_ | refine ex21 ?_ | refine ex30 ?_ | refine ex31 ?_ | refine ex32 ?_ | refine ln_rule ?_ | refine lnT_rule ?_ | refine pu_and ?_ | refine pu_or ?_ | refine pu_xor ?_ | refine pu_seq ?_ | refine pu_sne ?_)
            refine al_rule hwa (l := (bare 0).cells) zins (fun ba wb hwb => ?_)
            refine al_rule hwb (l := [vI 0, vI 0]) (by kernel_rfl) (fun bb wc hwc => ?_)
            refine st_here (A := [_]) hwc i1.cells rfl rfl (ins_plain _) (by simp [Ins.cells]) (fun wd hwd => ?_)
            have e5 : ∀ i : Ins, (bare 0).cells.take 0 ++ i.cells ++ (bare 0).cells.drop (0 + 5) = i.cells := fun i => rfl
            rw [e5] at hwd
            refine st_here (A := []) hwd [vI t1.m.fn, vI t1.m.pc] rfl rfl rfl (by simp) (fun we hwe => ?_)
            repeat (first | refine pu_not ?_ | refine pu_eql ?_ | refine pu_neq ?_ | refine pu_lss ?_ | refine pu_leq ?_ | refine pu_gtr ?_ | refine pu_geq ?_ | refine pu_add ?_ | refine pu_sub ?_ | refine pu_mul ?_ | refine pu_neg ?_ | refine fa_at ?_ | refine nl_ptr ?_ | refine ex20 ?_ | refine ex21 ?_ | refine ex30 ?_ | refine ex31 ?_ | refine ex32 ?_ | refine ln_rule ?_ | refine lnT_rule ?_ | refine pu_and ?_ | refine pu_or ?_ | refine pu_xor ?_ | refine pu_seq ?_ | refine pu_sne ?_)
            refine ldn_here hwe (.tail _ (.tail _ (List.mem_append_right _ (List.mem_append_right _ m2r)))) (vs := p.cells v) rfl rfl ?_
            refine ldn_here hwe (.head _) (vs := [vI t1.m.fn, vI t1.m.pc]) rfl rfl ?_
            refine refAt_spec (n := t1.m.fn) (m := t1.m.pc) hv (fun y hy => .tail _ (.tail _ (List.mem_append_right _ (List.mem_append_right _ (hH0 y hy))))) hwe (fun r e wf hre hwf => ?_)
            obtain ⟨rfl, rfl⟩ := hre _ _ hfi.hf hi1
            repeat (first | refine pu_not ?_ | refine pu_eql ?_ | refine pu_neq ?_ | refine pu_lss ?_ | refine pu_leq ?_ | refine pu_gtr ?_ | refine pu_geq ?_ | refine pu_add ?_ | refine pu_sub ?_ | refine pu_mul ?_ | refine pu_neg ?_ | refine fa_at ?_ | refine nl_ptr ?_ | refine ex20 ?_ | refine ex21 ?_ | refine ex30 ?_ | refine ex31 ?_ | refine ex32 ?_ | refine ln_rule ?_ | refine lnT_rule ?_ | refine pu_and ?_ | refine pu_or ?_ | refine pu_xor ?_ | refine pu_seq ?_ | refine pu_sne ?_)
            refine al_rule hwf (l := (bare 0).cells) zins (fun bc wg hwg => ?_)
            refine st_here (A := []) hwg r.cells rfl rfl (ins_plain _) (by simp [Ins.cells]) (fun wh hwh => ?_)
            rw [e5] at hwh
            repeat (first | refine pu_not ?_ | refine pu_eql ?_ | refine pu_neq ?_ | refine pu_lss ?_ | refine pu_leq ?_ | refine pu_gtr ?_ | refine pu_geq ?_ | refine pu_add ?_ | refine pu_sub ?_ | refine pu_mul ?_ | refine pu_neg ?_ | refine fa_at ?_ | refine nl_ptr ?_ | refine ex20 ?_ | refine ex21 ?_ | refine ex30 ?_ | refine ex31 ?_ | refine ex32 ?_ | refine ln_rule ?_ | refine lnT_rule ?_ | refine pu_and ?_ | refine pu_or ?_ | refine pu_xor ?_ | refine pu_seq ?_ | refine pu_sne ?_)
            refine pu_bneq (by kernel_rfl) ?_
            refine cnd_f (by simp) ?_
            refine cnd_t rfl ?_
            repeat (first | refine pu_not ?_ | refine pu_eql ?_ | refine pu_neq ?_ | refine pu_lss ?_ | refine pu_leq ?_ | refine pu_gtr ?_ | refine pu_geq ?_ | refine pu_add ?_ | refine pu_sub ?_ | refine pu_mul ?_ | refine pu_neg ?_ | refine fa_at ?_ | refine nl_ptr ?_ | refine ex20 ?_ | refine ex21 ?_ | refine ex30 ?_ | refine ex31 ?_ | refine ex32 ?_ | refine ln_rule ?_ | refine lnT_rule ?_ | refine pu_and ?_ | refine pu_or ?_ | refine pu_xor ?_ | refine pu_seq ?_ | refine pu_sne ?_)
            refine cnd_f rfl ?_
            refine ldn_here hwh (.tail _ (.tail _ (.head _))) (vs := r.cells) rfl rfl ?_
            refine ldn_here hwh (.head _) (vs := r.cells) rfl rfl ?_
            refine pu_aneq (by kernel_rfl) (eq_ins _ _) ?_
            refine cnd_f (by simp) ?_
            unfold linesmanlaw12_StackHolds.k0
            have hz : Ow B wh (s1.hp p ++ R0) := by
              have := Ow.drop (Ow.drop (Ow.drop hwh))
              exact this.sub ((List.Sublist.refl _).append (List.sublist_append_right _ _))
            repeat (first | refine pu_not ?_ | refine pu_eql ?_ | refine pu_neq ?_ | refine pu_lss ?_ | refine pu_leq ?_ | refine pu_gtr ?_ | refine pu_geq ?_ | refine pu_add ?_ | refine pu_sub ?_ | refine pu_mul ?_ | refine pu_neg ?_ | refine fa_at ?_ | refine nl_ptr ?_ | refine ex20 ?_ | refine ex21 ?_ | refine ex30 ?_ | refine ex31 ?_ | refine ex32 ?_ | refine ln_rule ?_ | refine lnT_rule ?_ | refine pu_and ?_ | refine pu_or ?_ | refine pu_xor ?_ | refine pu_seq ?_ | refine pu_sne ?_)
            rw [wrap64_in (by omega) (by omega)]
            exact ⟨⟨n + 1, s1, rfl, hlt, rfl, hs1, hI1, by omega, hz⟩, by simp; omega⟩
        · cases hes : s1.es with
          | nil =>
            have hl0 : s1.frs.length = 0 := by rw [← SK.es_len, hes]; rfl
            refine next_end hs1 hes hN (.head _) (fun wa hwa => ?_)
            unfold zeroNext
            repeat (first | refine pu_not ?_ | refine pu_eql ?_ | refine pu_neq ?_ | refine pu_lss ?_ | refine pu_leq ?_ | refine pu_gtr ?_ | refine pu_geq ?_ | refine pu_add ?_ | refine pu_sub ?_ | refine pu_mul ?_ | refine pu_neg ?_ | refine fa_at ?_ | refine nl_ptr ?_ | refine ex20 ?_ | refine ex21 ?_ | refine ex30 ?_ | refine ex31 ?_ | refine ex32 ?_ | refine ln_rule ?_ | refine lnT_rule ?_ | refine pu_and ?_ | refine pu_or ?_ | refine pu_xor ?_ | refine pu_seq ?_ | refine pu_sne ?_)
            refine al_rule hwa (l := (bare 0).cells) zins (fun ba wb hwb => ?_)
            refine al_rule hwb (l := [vI 0, vI 0]) (by kernel_rfl) (fun bb wc hwc => ?_)
            refine st_here (A := [_]) hwc (bare 0).cells rfl rfl (ins_plain _) (by simp [Ins.cells]) (fun wd hwd => ?_)
            refine st_here (A := []) hwd [vI 0, vI 0] rfl rfl rfl (by simp) (fun we hwe => ?_)
            repeat (first | refine pu_not ?_ | refine pu_eql ?_ | refine pu_neq ?_ | refine pu_lss ?_ | refine pu_leq ?_ | refine pu_gtr ?_ | refine pu_geq ?_ | refine pu_add ?_ | refine pu_sub ?_ | refine pu_mul ?_ | refine pu_neg ?_ | refine fa_at ?_ | refine nl_ptr ?_ | refine ex20 ?_ | refine ex21 ?_ | refine ex30 ?_ | refine ex31 ?_ | refine ex32 ?_ | refine ln_rule ?_ | refine lnT_rule ?_ | refine pu_and ?_ | refine pu_or ?_ | refine pu_xor ?_ | refine pu_seq ?_ | refine pu_sne ?_)
            refine ldn_here hwe (.tail _ (.tail _ (List.mem_append_right _ (List.mem_append_right _ m2r)))) (vs := p.cells v) rfl rfl ?_
            refine ldn_here hwe (.head _) (vs := [vI (0 : Nat), vI (0 : Nat)]) rfl rfl ?_
            refine refAt_spec (n := 0) (m := 0) hv (fun y hy => .tail _ (.tail _ (List.mem_append_right _ (List.mem_append_right _ (hH0 y hy))))) hwe (fun r e wf _ hwf => ?_)
            repeat (first | refine pu_not ?_ | refine pu_eql ?_ | refine pu_neq ?_ | refine pu_lss ?_ | refine pu_leq ?_ | refine pu_gtr ?_ | refine pu_geq ?_ | refine pu_add ?_ | refine pu_sub ?_ | refine pu_mul ?_ | refine pu_neg ?_ | refine fa_at ?_ | refine nl_ptr ?_ | refine ex20 ?_ | refine ex21 ?_ | refine ex30 ?_ | refine ex31 ?_ | refine ex32 ?_ | refine ln_rule ?_ | refine lnT_rule ?_ | refine pu_and ?_ | refine pu_or ?_ | refine pu_xor ?_ | refine pu_seq ?_ | refine pu_sne ?_)
            refine al_rule hwf (l := (bare 0).cells) zins (fun bc wg hwg => ?_)
            refine st_here (A := []) hwg r.cells rfl rfl (ins_plain _) (by simp [Ins.cells]) (fun wh hwh => ?_)
            repeat (first | refine pu_not ?_ | refine pu_eql ?_ | refine pu_neq ?_ | refine pu_lss ?_ | refine pu_leq ?_ | refine pu_gtr ?_ | refine pu_geq ?_ | refine pu_add ?_ | refine pu_sub ?_ | refine pu_mul ?_ | refine pu_neg ?_ | refine fa_at ?_ | refine nl_ptr ?_ | refine ex20 ?_ | refine ex21 ?_ | refine ex30 ?_ | refine ex31 ?_ | refine ex32 ?_ | refine ln_rule ?_ | refine lnT_rule ?_ | refine pu_and ?_ | refine pu_or ?_ | refine pu_xor ?_ | refine pu_seq ?_ | refine pu_sne ?_)
            refine pu_bneq (by kernel_rfl) ?_
            refine cnd_f (by simp) ?_
            refine cnd_f rfl ?_
            unfold linesmanlaw12_StackHolds.k0
            have hz : Ow B wh (s1.hp p ++ R0) := by
              have := Ow.drop (Ow.drop (Ow.drop hwh))
              exact this.sub ((List.Sublist.refl _).append (List.sublist_append_right _ _))
            repeat (first | refine pu_not ?_ | refine pu_eql ?_ | refine pu_neq ?_ | refine pu_lss ?_ | refine pu_leq ?_ | refine pu_gtr ?_ | refine pu_geq ?_ | refine pu_add ?_ | refine pu_sub ?_ | refine pu_mul ?_ | refine pu_neg ?_ | refine fa_at ?_ | refine nl_ptr ?_ | refine ex20 ?_ | refine ex21 ?_ | refine ex30 ?_ | refine ex31 ?_ | refine ex32 ?_ | refine ln_rule ?_ | refine lnT_rule ?_ | refine pu_and ?_ | refine pu_or ?_ | refine pu_xor ?_ | refine pu_seq ?_ | refine pu_sne ?_)
            rw [wrap64_in (by omega) (by omega)]
            exact ⟨⟨n + 1, s1, rfl, hlt, rfl, hs1, hI1, by omega, hz⟩, by simp; omega⟩
          | cons t1 lo1 =>
            have hfr1 : s1.frs = t1.m :: lo1.map FE.m := by simp [SK.frs, hes]
            have hlp : 0 < s1.es.length := by rw [hes]; simp
            obtain ⟨f1', hfi⟩ := hI1.fi t1.m (by rw [hfr1]; exact .head _)
            obtain ⟨i1, hi1, _⟩ := good.facts hfi
            refine next_at hs1 hes hFr hfi.hf hi1 hN (fun wa hwa => ?_)
            repeat (first | refine pu_not ?_ | refine pu_eql ?_ | refine pu_neq ?_ | refine pu_lss ?_ | refine pu_leq ?_ | refine pu_gtr ?_ | refine pu_geq ?_ | refine pu_add ?_ | refine pu_sub ?_ | refine pu_mul ?_ | refine pu_neg ?_ | refine fa_at ?_ | refine nl_ptr ?_ | refine ex20 ?_ | refine ex21 ?_ | refine ex30 ?_ | refine ex31 ?_ | refine ex32 ?_ | refine ln_rule ?_ | refine lnT_rule ?_ | refine pu_and ?_ | refine pu_or ?_ | refine pu_xor ?_ | refine pu_seq ?_ | refine pu_sne ?_)
            refine al_rule hwa (l := (bare 0).cells) zins (fun ba wb hwb => ?_)
            refine al_rule hwb (l := [vI 0, vI 0]) (by kernel_rfl) (fun bb wc hwc => ?_)
            refine st_here (A := [_]) hwc i1.cells rfl rfl (ins_plain _) (by simp [Ins.cells]) (fun wd hwd => ?_)
            have e5 : ∀ i : Ins, (bare 0).cells.take 0 ++ i.cells ++ (bare 0).cells.drop (0 + 5) = i.cells := fun i => rfl
            rw [e5] at hwd
            refine st_here (A := []) hwd [vI t1.m.fn, vI t1.m.pc] rfl rfl rfl (by simp) (fun we hwe => ?_)
            repeat (first | refine pu_not ?_ | refine pu_eql ?_ | refine pu_neq ?_ | refine pu_lss ?_ | refine pu_leq ?_ | refine pu_gtr ?_ | refine pu_geq ?_ | refine pu_add ?_ | refine pu_sub ?_ | refine pu_mul ?_ | refine pu_neg ?_ | refine fa_at ?_ | refine nl_ptr ?_ | refine ex20 ?_ | refine ex21 ?_ | refine ex30 ?_ | refine ex31 ?_ | refine ex32 ?_ | refine ln_rule ?_ | refine lnT_rule ?_ | refine pu_and ?_ | refine pu_or ?_ | refine pu_xor ?_ | refine pu_seq ?_ | refine pu_sne ?_)
            refine ldn_here hwe (.tail _ (.tail _ (List.mem_append_right _ (List.mem_append_right _ m2r)))) (vs := p.cells v) rfl rfl ?_
            refine ldn_here hwe (.head _) (vs := [vI t1.m.fn, vI t1.m.pc]) rfl rfl ?_
            refine refAt_spec (n := t1.m.fn) (m := t1.m.pc) hv (fun y hy => .tail _ (.tail _ (List.mem_append_right _ (List.mem_append_right _ (hH0 y hy))))) hwe (fun r e wf hre hwf => ?_)
            obtain ⟨rfl, rfl⟩ := hre _ _ hfi.hf hi1
            repeat (first | refine pu_not ?_ | refine pu_eql ?_ | refine pu_neq ?_ | refine pu_lss ?_ | refine pu_leq ?_ | refine pu_gtr ?_ | refine pu_geq ?_ | refine pu_add ?_ | refine pu_sub ?_ | refine pu_mul ?_ | refine pu_neg ?_ | refine fa_at ?_ | refine nl_ptr ?_ | refine ex20 ?_ | refine ex21 ?_ | refine ex30 ?_ | refine ex31 ?_ | refine ex32 ?_ | refine ln_rule ?_ | refine lnT_rule ?_ | refine pu_and ?_ | refine pu_or ?_ | refine pu_xor ?_ | refine pu_seq ?_ | refine pu_sne ?_)
            refine al_rule hwf (l := (bare 0).cells) zins (fun bc wg hwg => ?_)
            refine st_here (A := []) hwg r.cells rfl rfl (ins_plain _) (by simp [Ins.cells]) (fun wh hwh => ?_)
            rw [e5] at hwh
            repeat (first | refine pu_not ?_ | refine pu_eql ?_ | refine pu_neq ?_ | refine pu_lss ?_ | refine pu_leq ?_ | refine pu_gtr ?_ | refine pu_geq ?_ | refine pu_add ?_ | refine pu_sub ?_ | refine pu_mul ?_ | refine pu_neg ?_ | refine fa_at ?_ | refine nl_ptr ?_ | refine ex20 ?_ | refine ex21 ?_ | refine ex30 ?_ | refine ex31 ?_ | refine ex32 ?_ | refine ln_rule ?_ | refine lnT_rule ?_ | refine pu_and ?_ | refine pu_or ?_ | refine pu_xor ?_ | refine pu_seq ?_ | refine pu_sne ?_)
            refine pu_bneq (by kernel_rfl) ?_
            refine cnd_f (by simp) ?_
            refine cnd_t rfl ?_
            repeat (first | refine pu_not ?_ | refine pu_eql ?_ | refine pu_neq ?_ | refine pu_lss ?_ | refine pu_leq ?_ | refine pu_gtr ?_ | refine pu_geq ?_ | refine pu_add ?_ | refine pu_sub ?_ | refine pu_mul ?_ | refine pu_neg ?_ | refine fa_at ?_ | refine nl_ptr ?_ | refine ex20 ?_ | refine ex21 ?_ | refine ex30 ?_ | refine ex31 ?_ | refine ex32 ?_ | refine ln_rule ?_ | refine lnT_rule ?_ | refine pu_and ?_ | refine pu_or ?_ | refine pu_xor ?_ | refine pu_seq ?_ | refine pu_sne ?_)
            refine cnd_f rfl ?_
            refine ldn_here hwh (.tail _ (.tail _ (.head _))) (vs := r.cells) rfl rfl ?_
            refine ldn_here hwh (.head _) (vs := r.cells) rfl rfl ?_
            refine pu_aneq (by kernel_rfl) (eq_ins _ _) ?_
            refine cnd_f (by simp) ?_
            unfold linesmanlaw12_StackHolds.k0
            have hz : Ow B wh (s1.hp p ++ R0) := by
              have := Ow.drop (Ow.drop (Ow.drop hwh))
              exact this.sub ((List.Sublist.refl _).append (List.sublist_append_right _ _))
            repeat (first | refine pu_not ?_ | refine pu_eql ?_ | refine pu_neq ?_ | refine pu_lss ?_ | refine pu_leq ?_ | refine pu_gtr ?_ | refine pu_geq ?_ | refine pu_add ?_ | refine pu_sub ?_ | refine pu_mul ?_ | refine pu_neg ?_ | refine fa_at ?_ | refine nl_ptr ?_ | refine ex20 ?_ | refine ex21 ?_ | refine ex30 ?_ | refine ex31 ?_ | refine ex32 ?_ | refine ln_rule ?_ | refine lnT_rule ?_ | refine pu_and ?_ | refine pu_or ?_ | refine pu_xor ?_ | refine pu_seq ?_ | refine pu_sne ?_)
            rw [wrap64_in (by omega) (by omega)]
            exact ⟨⟨n + 1, s1, rfl, hlt, rfl, hs1, hI1, by omega, hz⟩, by simp; omega⟩
      · have hN := h10
        repeat (first | refine pu_not ?_ | refine pu_eql ?_ | refine pu_neq ?_ | refine pu_lss ?_ | refine pu_leq ?_ | refine pu_gtr ?_ | refine pu_geq ?_ | refine pu_add ?_ | refine pu_sub ?_ | refine pu_mul ?_ | refine pu_neg ?_ | refine fa_at ?_ | refine nl_ptr ?_ | refine ex20 ?_ | refine ex21 ?_ | refine ex30 ?_ | refine ex31 ?_ | refine ex32 ?_ | refine ln_rule ?_ | refine lnT_rule ?_ | refine pu_and ?_ | refine pu_or ?_ | refine pu_xor ?_ | refine pu_seq ?_ | refine pu_sne ?_)
        rw [wrap64_in (by omega) (by omega)]
        refine cnd_f (by simp; omega) ?_
        repeat (first | refine pu_not ?_ | refine pu_eql ?_ | refine pu_neq ?_ | refine pu_lss ?_ | refine pu_leq ?_ | refine pu_gtr ?_ | refine pu_geq ?_ | refine pu_add ?_ | refine pu_sub ?_ | refine pu_mul ?_ | refine pu_neg ?_ | refine fa_at ?_ | refine nl_ptr ?_ | refine ex20 ?_ | refine ex21 ?_ | refine ex30 ?_ | refine ex31 ?_ | refine ex32 ?_ | refine ln_rule ?_ | refine lnT_rule ?_ | refine pu_and ?_ | refine pu_or ?_ | refine pu_xor ?_ | refine pu_seq ?_ | refine pu_sne ?_)
        rw [wrap64_in (by omega) (by omega)]
        refine cnd_f (by simp; omega) ?_
        refine pu_max2 ?_
        repeat (first | refine pu_not ?_ | refine pu_eql ?_ | refine pu_neq ?_ | refine pu_lss ?_ | refine pu_leq ?_ | refine pu_gtr ?_ | refine pu_geq ?_ | refine pu_add ?_ | refine pu_sub ?_ | refine pu_mul ?_ | refine pu_neg ?_ | refine fa_at ?_ | refine nl_ptr ?_ | refine ex20 ?_ | refine ex21 ?_ | refine ex30 ?_ | refine ex31 ?_ | refine ex32 ?_ | refine ln_rule ?_ | refine lnT_rule ?_ | refine pu_and ?_ | refine pu_or ?_ | refine pu_xor ?_ | refine pu_seq ?_ | refine pu_sne ?_)
        refine cnd (fun hmx => ?_) (fun hmx => ?_)
        · have hmx : (s1.es.length : Int) ≤ am := by
            have hgt : s.es.length < s1.es.length := by
              simp only [decide_eq_true_eq] at hmx
              split at hmx <;> omega
            rcases hm3 with h | h <;> omega
          refine ga (R1 := s1.hp p ++ sc.hp p) (j := 1) (by rw [List.append_assoc]; exact hN) rfl ?_
          repeat (first | refine pu_not ?_ | refine pu_eql ?_ | refine pu_neq ?_ | refine pu_lss ?_ | refine pu_leq ?_ | refine pu_gtr ?_ | refine pu_geq ?_ | refine pu_add ?_ | refine pu_sub ?_ | refine pu_mul ?_ | refine pu_neg ?_ | refine fa_at ?_ | refine nl_ptr ?_ | refine ex20 ?_ | refine ex21 ?_ | refine ex30 ?_ | refine ex31 ?_ | refine ex32 ?_ | refine ln_rule ?_ | refine lnT_rule ?_ | refine pu_and ?_ | refine pu_or ?_ | refine pu_xor ?_ | refine pu_seq ?_ | refine pu_sne ?_)
          refine cnd_f (by simp; omega) ?_
          cases hes : s1.es with
          | nil =>
            have hl0 : s1.frs.length = 0 := by rw [← SK.es_len, hes]; rfl
            refine next_end hs1 hes hN (.head _) (fun wa hwa => ?_)
            unfold zeroNext
            repeat (first | refine pu_not ?_ | refine pu_eql ?_ | refine pu_neq ?_ | refine pu_lss ?_ | refine pu_leq ?_ | refine pu_gtr ?_ | refine pu_geq ?_ | refine pu_add ?_ | refine pu_sub ?_ | refine pu_mul ?_ | refine pu_neg ?_ | refine fa_at ?_ | refine nl_ptr ?_ | refine ex20 ?_ | refine ex21 ?_ | refine ex30 ?_ | refine ex31 ?_ | refine ex32 ?_ | refine ln_rule ?_ | refine lnT_rule ?_ | refine pu_and ?_ | refine pu_or ?_ | refine pu_xor ?_ | refine pu_seq ?_ | refine pu_sne ?_)
            refine al_rule hwa (l := (bare 0).cells) zins (fun ba wb hwb => ?_)
            refine al_rule hwb (l := [vI 0, vI 0]) (by kernel_rfl) (fun bb wc hwc => ?_)
            refine st_here (A := [_]) hwc (bare 0).cells rfl rfl (ins_plain _) (by simp [Ins.cells]) (fun wd hwd => ?_)
            refine st_here (A := []) hwd [vI 0, vI 0] rfl rfl rfl (by simp) (fun we hwe => ?_)
            repeat (first | refine pu_not ?_ | refine pu_eql ?_ | refine pu_neq ?_ | refine pu_lss ?_ | refine pu_leq ?_ | refine pu_gtr ?_ | refine pu_geq ?_ | refine pu_add ?_ | refine pu_sub ?_ | refine pu_mul ?_ | refine pu_neg ?_ | refine fa_at ?_ | refine nl_ptr ?_ | refine ex20 ?_ | refine ex21 ?_ | refine ex30 ?_ | refine ex31 ?_ | refine ex32 ?_ | refine ln_rule ?_ | refine lnT_rule ?_ | refine pu_and ?_ | refine pu_or ?_ | refine pu_xor ?_ | refine pu_seq ?_ | refine pu_sne ?_)
            refine ldn_here hwe (.tail _ (.tail _ (List.mem_append_right _ (List.mem_append_right _ m2r)))) (vs := p.cells v) rfl rfl ?_
            refine ldn_here hwe (.head _) (vs := [vI (0 : Nat), vI (0 : Nat)]) rfl rfl ?_
            refine refAt_spec (n := 0) (m := 0) hv (fun y hy => .tail _ (.tail _ (List.mem_append_right _ (List.mem_append_right _ (hH0 y hy))))) hwe (fun r e wf _ hwf => ?_)
            repeat (first | refine pu_not ?_ | refine pu_eql ?_ | refine pu_neq ?_ | refine pu_lss ?_ | refine pu_leq ?_ | refine pu_gtr ?_ | refine pu_geq ?_ | refine pu_add ?_ | refine pu_sub ?_ | refine pu_mul ?_ | refine pu_neg ?_ | refine fa_at ?_ | refine nl_ptr ?_ | refine ex20 ?_ | refine ex21 ?_ | refine ex30 ?_ | refine ex31 ?_ | refine ex32 ?_ | refine ln_rule ?_ | refine lnT_rule ?_ | refine pu_and ?_ | refine pu_or ?_ | refine pu_xor ?_ | refine pu_seq ?_ | refine pu_sne ?_)
            refine al_rule hwf (l := (bare 0).cells) zins (fun bc wg hwg => ?_)
            refine st_here (A := []) hwg r.cells rfl rfl (ins_plain _) (by simp [Ins.cells]) (fun wh hwh => ?_)
            repeat (first | refine pu_not ?_ | refine pu_eql ?_ | refine pu_neq ?_ | refine pu_lss ?_ | refine pu_leq ?_ | refine pu_gtr ?_ | refine pu_geq ?_ | refine pu_add ?_ | refine pu_sub ?_ | refine pu_mul ?_ | refine pu_neg ?_ | refine fa_at ?_ | refine nl_ptr ?_ | refine ex20 ?_ | refine ex21 ?_ | refine ex30 ?_ | refine ex31 ?_ | refine ex32 ?_ | refine ln_rule ?_ | refine lnT_rule ?_ | refine pu_and ?_ | refine pu_or ?_ | refine pu_xor ?_ | refine pu_seq ?_ | refine pu_sne ?_)
            refine pu_bneq (by kernel_rfl) ?_
            refine cnd_f (by simp) ?_
            refine cnd_f rfl ?_
            unfold linesmanlaw12_StackHolds.k0
            have hz : Ow B wh (s1.hp p ++ R0) := by
              have := Ow.drop (Ow.drop (Ow.drop hwh))
              exact this.sub ((List.Sublist.refl _).append (List.sublist_append_right _ _))
            repeat (first | refine pu_not ?_ | refine pu_eql ?_ | refine pu_neq ?_ | refine pu_lss ?_ | refine pu_leq ?_ | refine pu_gtr ?_ | refine pu_geq ?_ | refine pu_add ?_ | refine pu_sub ?_ | refine pu_mul ?_ | refine pu_neg ?_ | refine fa_at ?_ | refine nl_ptr ?_ | refine ex20 ?_ | refine ex21 ?_ | refine ex30 ?_ | refine ex31 ?_ | refine ex32 ?_ | refine ln_rule ?_ | refine lnT_rule ?_ | refine pu_and ?_ | refine pu_or ?_ | refine pu_xor ?_ | refine pu_seq ?_ | refine pu_sne ?_)
            rw [wrap64_in (by omega) (by omega)]
            exact ⟨⟨n + 1, s1, rfl, hlt, rfl, hs1, hI1, by omega, hz⟩, by simp; omega⟩
          | cons t1 lo1 =>
            have hfr1 : s1.frs = t1.m :: lo1.map FE.m := by simp [SK.frs, hes]
            have hlp : 0 < s1.es.length := by rw [hes]; simp
            obtain ⟨f1', hfi⟩ := hI1.fi t1.m (by rw [hfr1]; exact .head _)
            obtain ⟨i1, hi1, _⟩ := good.facts hfi
            refine next_at hs1 hes hFr hfi.hf hi1 hN (fun wa hwa => ?_)
            repeat (first | refine pu_not ?_ | refine pu_eql ?_ | refine pu_neq ?_ | refine pu_lss ?_ | refine pu_leq ?_ | refine pu_gtr ?_ | refine pu_geq ?_ | refine pu_add ?_ | refine pu_sub ?_ | refine pu_mul ?_ | refine pu_neg ?_ | refine fa_at ?_ | refine nl_ptr ?_ | refine ex20 ?_ | refine ex21 ?_ | refine ex30 ?_ | refine ex31 ?_ | refine ex32 ?_ | refine ln_rule ?_ | refine lnT_rule ?_ | refine pu_and ?_ | refine pu_or ?_ | refine pu_xor ?_ | refine pu_seq ?_ | refine pu_sne ?_)
            refine al_rule hwa (l := (bare 0).cells) zins (fun ba wb hwb => ?_)
            refine al_rule hwb (l := [vI 0, vI 0]) (by kernel_rfl) (fun bb wc hwc => ?_)
            refine st_here (A := [_]) hwc i1.cells rfl rfl (ins_plain _) (by simp [Ins.cells]) (fun wd hwd => ?_)
            have e5 : ∀ i : Ins, (bare 0).cells.take 0 ++ i.cells ++ (bare 0).cells.drop (0 + 5) = i.cells := fun i => rfl
            rw [e5] at hwd
            refine st_here (A := []) hwd [vI t1.m.fn, vI t1.m.pc] rfl rfl rfl (by simp) (fun we hwe => ?_)
            repeat (first | refine pu_not ?_ | refine pu_eql ?_ | refine pu_neq ?_ | refine pu_lss ?_ | refine pu_leq ?_ | refine pu_gtr ?_ | refine pu_geq ?_ | refine pu_add ?_ | refine pu_sub ?_ | refine pu_mul ?_ | refine pu_neg ?_ | refine fa_at ?_ | refine nl_ptr ?_ | refine ex20 ?_ | refine ex21 ?_ | refine ex30 ?_ | refine ex31 ?_ | refine ex32 ?_ | refine ln_rule ?_ | refine lnT_rule ?_ | refine pu_and ?_ | refine pu_or ?_ | refine pu_xor ?_ | refine pu_seq ?_ | refine pu_sne ?_)
            refine ldn_here hwe (.tail _ (.tail _ (List.mem_append_right _ (List.mem_append_right _ m2r)))) (vs := p.cells v) rfl rfl ?_
            refine ldn_here hwe (.head _) (vs := [vI t1.m.fn, vI t1.m.pc]) rfl rfl ?_
            refine refAt_spec (n := t1.m.fn) (m := t1.m.pc) hv (fun y hy => .tail _ (.tail _ (List.mem_append_right _ (List.mem_append_right _ (hH0 y hy))))) hwe (fun r e wf hre hwf => ?_)
            obtain ⟨rfl, rfl⟩ := hre _ _ hfi.hf hi1
            repeat (first | refine pu_not ?_ | refine pu_eql ?_ | refine pu_neq ?_ | refine pu_lss ?_ | refine pu_leq ?_ | refine pu_gtr ?_ | refine pu_geq ?_ | refine pu_add ?_ | refine pu_sub ?_ | refine pu_mul ?_ | refine pu_neg ?_ | refine fa_at ?_ | refine nl_ptr ?_ | refine ex20 ?_ | refine ex21 ?_ | refine ex30 ?_ | refine ex31 ?_ | refine ex32 ?_ | refine ln_rule ?_ | refine lnT_rule ?_ | refine pu_and ?_ | refine pu_or ?_ | refine pu_xor ?_ | refine pu_seq ?_ | refine pu_sne ?_)
            refine al_rule hwf (l := (bare 0).cells) zins (fun bc wg hwg => ?_)
            refine st_here (A := []) hwg r.cells rfl rfl (ins_plain _) (by simp [Ins.cells]) (fun wh hwh => ?_)
            rw [e5] at hwh
            repeat (first | refine pu_not ?_ | refine pu_eql ?_ | refine pu_neq ?_ | refine pu_lss ?_ | refine pu_leq ?_ | refine pu_gtr ?_ | refine pu_geq ?_ | refine pu_add ?_ | refine pu_sub ?_ | refine pu_mul ?_ | refine pu_neg ?_ | refine fa_at ?_ | refine nl_ptr ?_ | refine ex20 ?_ | refine ex21 ?_ | refine ex30 ?_ | refine ex31 ?_ | refine ex32 ?_ | refine ln_rule ?_ | refine lnT_rule ?_ | refine pu_and ?_ | refine pu_or ?_ | refine pu_xor ?_ | refine pu_seq ?_ | refine pu_sne ?_)
            refine pu_bneq (by kernel_rfl) ?_
            refine cnd_f (by simp) ?_
            refine cnd_t rfl ?_
            repeat (first | refine pu_not ?_ | refine pu_eql ?_ | refine pu_neq ?_ | refine pu_lss ?_ | refine pu_leq ?_ | refine pu_gtr ?_ | refine pu_geq ?_ | refine pu_add ?_ | refine pu_sub ?_ | refine pu_mul ?_ | refine pu_neg ?_ | refine fa_at ?_ | refine nl_ptr ?_ | refine ex20 ?_ | refine ex21 ?_ | refine ex30 ?_ | refine ex31 ?_ | refine ex32 ?_ | refine ln_rule ?_ | refine lnT_rule ?_ | refine pu_and ?_ | refine pu_or ?_ | refine pu_xor ?_ | refine pu_seq ?_ | refine pu_sne ?_)
            refine cnd_f rfl ?_
            refine ldn_here hwh (.tail _ (.tail _ (.head _))) (vs := r.cells) rfl rfl ?_
            refine ldn_here hwh (.head _) (vs := r.cells) rfl rfl ?_
            refine pu_aneq (by kernel_rfl) (eq_ins _ _) ?_
            refine cnd_f (by simp) ?_
            unfold linesmanlaw12_StackHolds.k0
            have hz : Ow B wh (s1.hp p ++ R0) := by
              have := Ow.drop (Ow.drop (Ow.drop hwh))
              exact this.sub ((List.Sublist.refl _).append (List.sublist_append_right _ _))
            repeat (first | refine pu_not ?_ | refine pu_eql ?_ | refine pu_neq ?_ | refine pu_lss ?_ | refine pu_leq ?_ | refine pu_gtr ?_ | refine pu_geq ?_ | refine pu_add ?_ | refine pu_sub ?_ | refine pu_mul ?_ | refine pu_neg ?_ | refine fa_at ?_ | refine nl_ptr ?_ | refine ex20 ?_ | refine ex21 ?_ | refine ex30 ?_ | refine ex31 ?_ | refine ex32 ?_ | refine ln_rule ?_ | refine lnT_rule ?_ | refine pu_and ?_ | refine pu_or ?_ | refine pu_xor ?_ | refine pu_seq ?_ | refine pu_sne ?_)
            rw [wrap64_in (by omega) (by omega)]
            exact ⟨⟨n + 1, s1, rfl, hlt, rfl, hs1, hI1, by omega, hz⟩, by simp; omega⟩
        · cases hes : s1.es with
          | nil =>
            have hl0 : s1.frs.length = 0 := by rw [← SK.es_len, hes]; rfl
            refine next_end hs1 hes hN (.head _) (fun wa hwa => ?_)
            unfold zeroNext
            repeat (first | refine pu_not ?_ | refine pu_eql ?_ | refine pu_neq ?_ | refine pu_lss ?_ | refine pu_leq ?_ | refine pu_gtr ?_ | refine pu_geq ?_ | refine pu_add ?_ | refine pu_sub ?_ | refine pu_mul ?_ | refine pu_neg ?_ | refine fa_at ?_ | refine nl_ptr ?_ | refine ex20 ?_ | refine ex21 ?_ | refine ex30 ?_ | refine ex31 ?_ | refine ex32 ?_ | refine ln_rule ?_ | refine lnT_rule ?_ | refine pu_and ?_ | refine pu_or ?_ | refine pu_xor ?_ | refine pu_seq ?_ | refine pu_sne ?_)
            refine al_rule hwa (l := (bare 0).cells) zins (fun ba wb hwb => ?_)
            refine al_rule hwb (l := [vI 0, vI 0]) (by kernel_rfl) (fun bb wc hwc => ?_)
            refine st_here (A := [_]) hwc (bare 0).cells rfl rfl (ins_plain _) (by simp [Ins.cells]) (fun wd hwd => ?_)
            refine st_here (A := []) hwd [vI 0, vI 0] rfl rfl rfl (by simp) (fun we hwe => ?_)
            repeat (first | refine pu_not ?_ | refine pu_eql ?_ | refine pu_neq ?_ | refine pu_lss ?_ | refine pu_leq ?_ | refine pu_gtr ?_ | refine pu_geq ?_ | refine pu_add ?_ | refine pu_sub ?_ | refine pu_mul ?_ | refine pu_neg ?_ | refine fa_at ?_ | refine nl_ptr ?_ | refine ex20 ?_ | refine ex21 ?_ | refine ex30 ?_ | refine ex31 ?_ | refine ex32 ?_ | refine ln_rule ?_ | refine lnT_rule ?_ | refine pu_and ?_ | refine pu_or ?_ | refine pu_xor ?_ | refine pu_seq ?_ | refine pu_sne ?_)
            refine ldn_here hwe (.tail _ (.tail _ (List.mem_append_right _ (List.mem_append_right _ m2r)))) (vs := p.cells v) rfl rfl ?_
            refine ldn_here hwe (.head _) (vs := [vI (0 : Nat), vI (0 : Nat)]) rfl rfl ?_
            refine refAt_spec (n := 0) (m := 0) hv (fun y hy => .tail _ (.tail _ (List.mem_append_right _ (List.mem_append_right _ (hH0 y hy))))) hwe (fun r e wf _ hwf => ?_)
            repeat (first | refine pu_not ?_ | refine pu_eql ?_ | refine pu_neq ?_ | refine pu_lss ?_ | refine pu_leq ?_ | refine pu_gtr ?_ | refine pu_geq ?_ | refine pu_add ?_ | refine pu_sub ?_ | refine pu_mul ?_ | refine pu_neg ?_ | refine fa_at ?_ | refine nl_ptr ?_ | refine ex20 ?_ | refine ex21 ?_ | refine ex30 ?_ | refine ex31 ?_ | refine ex32 ?_ | refine ln_rule ?_ | refine lnT_rule ?_ | refine pu_and ?_ | refine pu_or ?_ | refine pu_xor ?_ | refine pu_seq ?_ | refine pu_sne ?_)
            refine al_rule hwf (l := (bare 0).cells) zins (fun bc wg hwg => ?_)
            refine st_here (A := []) hwg r.cells rfl rfl (ins_plain _) (by simp [Ins.cells]) (fun wh hwh => ?_)
            repeat (first | refine pu_not ?_ | refine pu_eql ?_ | refine pu_neq ?_ | refine pu_lss ?_ | refine pu_leq ?_ | refine pu_gtr ?_ | refine pu_geq ?_ | refine pu_add ?_ | refine pu_sub ?_ | refine pu_mul ?_ | refine pu_neg ?_ | refine fa_at ?_ | refine nl_ptr ?_ | refine ex20 ?_ | refine ex21 ?_ | refine ex30 ?_ | refine ex31 ?_ | refine ex32 ?_ | refine ln_rule ?_ | refine lnT_rule ?_ | refine pu_and ?_ | refine pu_or ?_ | refine pu_xor ?_ | refine pu_seq ?_ | refine pu_sne ?_)
            refine pu_bneq (by kernel_rfl) ?_
            refine cnd_f (by simp) ?_
            refine cnd_f rfl ?_
            unfold linesmanlaw12_StackHolds.k0
            have hz : Ow B wh (s1.hp p ++ R0) := by
              have := Ow.drop (Ow.drop (Ow.drop hwh))
              exact this.sub ((List.Sublist.refl _).append (List.sublist_append_right _ _))
            repeat (first | refine pu_not ?_ | refine pu_eql ?_ | refine pu_neq ?_ | refine pu_lss ?_ | refine pu_leq ?_ | refine pu_gtr ?_ | refine pu_geq ?_ | refine pu_add ?_ | refine pu_sub ?_ | refine pu_mul ?_ | refine pu_neg ?_ | refine fa_at ?_ | refine nl_ptr ?_ | refine ex20 ?_ | refine ex21 ?_ | refine ex30 ?_ | refine ex31 ?_ | refine ex32 ?_ | refine ln_rule ?_ | refine lnT_rule ?_ | refine pu_and ?_ | refine pu_or ?_ | refine pu_xor ?_ | refine pu_seq ?_ | refine pu_sne ?_)
            rw [wrap64_in (by omega) (by omega)]
            exact ⟨⟨n + 1, s1, rfl, hlt, rfl, hs1, hI1, by omega, hz⟩, by simp; omega⟩
          | cons t1 lo1 =>
            have hfr1 : s1.frs = t1.m :: lo1.map FE.m := by simp [SK.frs, hes]
            have hlp : 0 < s1.es.length := by rw [hes]; simp
            obtain ⟨f1', hfi⟩ := hI1.fi t1.m (by rw [hfr1]; exact .head _)
            obtain ⟨i1, hi1, _⟩ := good.facts hfi
            refine next_at hs1 hes hFr hfi.hf hi1 hN (fun wa hwa => ?_)
            repeat (first | refine pu_not ?_ | refine pu_eql ?_ | refine pu_neq ?_ | refine pu_lss ?_ | refine pu_leq ?_ | refine pu_gtr ?_ | refine pu_geq ?_ | refine pu_add ?_ | refine pu_sub ?_ | refine pu_mul ?_ | refine pu_neg ?_ | refine fa_at ?_ | refine nl_ptr ?_ | refine ex20 ?_ | refine ex21 ?_ | refine ex30 ?_ | refine ex31 ?_ | refine ex32 ?_ | refine ln_rule ?_ | refine lnT_rule ?_ | refine pu_and ?_ | refine pu_or ?_ | refine pu_xor ?_ | refine pu_seq ?_ | refine pu_sne ?_)
            refine al_rule hwa (l := (bare 0).cells) zins (fun ba wb hwb => ?_)
            refine al_rule hwb (l := [vI 0, vI 0]) (by kernel_rfl) (fun bb wc hwc => ?_)
            refine st_here (A := [_]) hwc i1.cells rfl rfl (ins_plain _) (by simp [Ins.cells]) (fun wd hwd => ?_)
            have e5 : ∀ i : Ins, (bare 0).cells.take 0 ++ i.cells ++ (bare 0).cells.drop (0 + 5) = i.cells := fun i => rfl
            rw [e5] at hwd
            refine st_here (A := []) hwd [vI t1.m.fn, vI t1.m.pc] rfl rfl rfl (by simp) (fun we hwe => ?_)
            repeat (first | refine pu_not ?_ | refine pu_eql ?_ | refine pu_neq ?_ | refine pu_lss ?_ | refine pu_leq ?_ | refine pu_gtr ?_ | refine pu_geq ?_ | refine pu_add ?_ | refine pu_sub ?_ | refine pu_mul ?_ | refine pu_neg ?_ | refine fa_at ?_ | refine nl_ptr ?_ | refine ex20 ?_ | refine ex21 ?_ | refine ex30 ?_ | refine ex31 ?_ | refine ex32 ?_ | refine ln_rule ?_ | refine lnT_rule ?_ | refine pu_and ?_ | refine pu_or ?_ | refine pu_xor ?_ | refine pu_seq ?_ | refine pu_sne ?_)
            refine ldn_here hwe (.tail _ (.tail _ (List.mem_append_right _ (List.mem_append_right _ m2r)))) (vs := p.cells v) rfl rfl ?_
            refine ldn_here hwe (.head _) (vs := [vI t1.m.fn, vI t1.m.pc]) rfl rfl ?_
            refine refAt_spec (n := t1.m.fn) (m := t1.m.pc) hv (fun y hy => .tail _ (.tail _ (List.mem_append_right _ (List.mem_append_right _ (hH0 y hy))))) hwe (fun r e wf hre hwf => ?_)
            obtain ⟨rfl, rfl⟩ := hre _ _ hfi.hf hi1
            repeat (first | refine pu_not ?_ | refine pu_eql ?_ | refine pu_neq ?_ | refine pu_lss ?_ | refine pu_leq ?_ | refine pu_gtr ?_ | refine pu_geq ?_ | refine pu_add ?_ | refine pu_sub ?_ | refine pu_mul ?_ | refine pu_neg ?_ | refine fa_at ?_ | refine nl_ptr ?_ | refine ex20 ?_ | refine ex21 ?_ | refine ex30 ?_ | refine ex31 ?_ | refine ex32 ?_ | refine ln_rule ?_ | refine lnT_rule ?_ | refine pu_and ?_ | refine pu_or ?_ | refine pu_xor ?_ | refine pu_seq ?_ | refine pu_sne ?_)
            refine al_rule hwf (l := (bare 0).cells) zins (fun bc wg hwg => ?_)
            refine st_here (A := []) hwg r.cells rfl rfl (ins_plain _) (by simp [Ins.cells]) (fun wh hwh => ?_)
            rw [e5] at hwh
            repeat (first | refine pu_not ?_ | refine pu_eql ?_ | refine pu_neq ?_ | refine pu_lss ?_ | refine pu_leq ?_ | refine pu_gtr ?_ | refine pu_geq ?_ | refine pu_add ?_ | refine pu_sub ?_ | refine pu_mul ?_ | refine pu_neg ?_ | refine fa_at ?_ | refine nl_ptr ?_ | refine ex20 ?_ | refine ex21 ?_ | refine ex30 ?_ | refine ex31 ?_ | refine ex32 ?_ | refine ln_rule ?_ | refine lnT_rule ?_ | refine pu_and ?_ | refine pu_or ?_ | refine pu_xor ?_ | refine pu_seq ?_ | refine pu_sne ?_)
            refine pu_bneq (by kernel_rfl) ?_
            refine cnd_f (by simp) ?_
            refine cnd_t rfl ?_
            repeat (first | refine pu_not ?_ | refine pu_eql ?_ | refine pu_neq ?_ | refine pu_lss ?_ | refine pu_leq ?_ | refine pu_gtr ?_ | refine pu_geq ?_ | refine pu_add ?_ | refine pu_sub ?_ | refine pu_mul ?_ | refine pu_neg ?_ | refine fa_at ?_ | refine nl_ptr ?_ | refine ex20 ?_ | refine ex21 ?_ | refine ex30 ?_ | refine ex31 ?_ | refine ex32 ?_ | refine ln_rule ?_ | refine lnT_rule ?_ | refine pu_and ?_ | refine pu_or ?_ | refine pu_xor ?_ | refine pu_seq ?_ | refine pu_sne ?_)
            refine cnd_f rfl ?_
            refine ldn_here hwh (.tail _ (.tail _ (.head _))) (vs := r.cells) rfl rfl ?_
            refine ldn_here hwh (.head _) (vs := r.cells) rfl rfl ?_
            refine pu_aneq (by kernel_rfl) (eq_ins _ _) ?_
            refine cnd_f (by simp) ?_
            unfold linesmanlaw12_StackHolds.k0
            have hz : Ow B wh (s1.hp p ++ R0) := by
              have := Ow.drop (Ow.drop (Ow.drop hwh))
              exact this.sub ((List.Sublist.refl _).append (List.sublist_append_right _ _))
            repeat (first | refine pu_not ?_ | refine pu_eql ?_ | refine pu_neq ?_ | refine pu_lss ?_ | refine pu_leq ?_ | refine pu_gtr ?_ | refine pu_geq ?_ | refine pu_add ?_ | refine pu_sub ?_ | refine pu_mul ?_ | refine pu_neg ?_ | refine fa_at ?_ | refine nl_ptr ?_ | refine ex20 ?_ | refine ex21 ?_ | refine ex30 ?_ | refine ex31 ?_ | refine ex32 ?_ | refine ln_rule ?_ | refine lnT_rule ?_ | refine pu_and ?_ | refine pu_or ?_ | refine pu_xor ?_ | refine pu_seq ?_ | refine pu_sne ?_)
            rw [wrap64_in (by omega) (by omega)]
            exact ⟨⟨n + 1, s1, rfl, hlt, rfl, hs1, hI1, by omega, hz⟩, by simp; omega⟩
    · refine ⟨fun w => Ow B w (s.hp p ++ (sc.hp p ++ R0)), h7.drew, ?_⟩
      refine sls_flds (fun w h => h) (hxs.mono fun y hy => List.mem_append_right _ (List.mem_append_right _ (hH0 y hy))) (by omega) hat (j := 2) (v := vI ar) rfl ?_
      refine sls_flds (fun w h => h) (hxs.mono fun y hy => List.mem_append_right _ (List.mem_append_right _ (hH0 y hy))) (by omega) hat (j := 3) (v := vU ad) rfl ?_
      refine pass_spec hs hFr (good.safeL hI) h7.drew (fun s1 w8 hsb1 _ hr1 hf1 hs1 h9 => ?_)
      have hpl := pass_len (p := p) (reg := ar) (word := ad) (l := s.frs)
      have hI1 : Inv p s1.frs := by rw [hf1]; exact hI.pass good hadu
      have hsame : (passF p ar ad s.frs).1 ≠ 0 → s1.frs = s.frs ∧ s1.res = s.res := fun hne => ⟨by rw [hf1]; exact hpl.2 hne, hr1⟩
      have hl1 : s1.es.length = s.es.length := by rw [SK.es_len, SK.es_len, hf1]; exact hpl.1
      have hm1 : s1.es.length ≤ s.es.length + 1 := by omega
      have hm2 : s.es.length ≤ s1.es.length + 1 := by omega
      have hm3 : s1.es.length ≤ s.es.length ∨ (s1.es.length : Int) ≤ am := .inl (by omega)
      obtain ⟨er, her⟩ : ∃ er, (passF p ar ad s.frs).1 = er := ⟨_, rfl⟩
      rw [her] at hsame ⊢
      rw [← hsb1]
      refine depth_spec hs1 h9 (.head _) ?_
      refine num12_spec h9 (fun w10 h10 => ?_)
      repeat (first | refine pu_not ?_ | refine pu_eql ?_ | refine pu_neq ?_ | refine pu_lss ?_ | refine pu_leq ?_ | refine pu_gtr ?_ | refine pu_geq ?_ | refine pu_add ?_ | refine pu_sub ?_ | refine pu_mul ?_ | refine pu_neg ?_ | refine fa_at ?_ | refine nl_ptr ?_ | refine ex20 ?_ | refine ex21 ?_ | refine ex30 ?_ | refine ex31 ?_ | refine ex32 ?_ | refine ln_rule ?_ | refine lnT_rule ?_ | refine pu_and ?_ | refine pu_or ?_ | refine pu_xor ?_ | refine pu_seq ?_ | refine pu_sne ?_)
      refine cnd (fun hne => ?_) (fun hne => ?_)
      · have hne : er ≠ 0 := by simpa using hne
        obtain ⟨hfe, hre⟩ := hsame hne
        refine ssame_spec hs1 hcs (by rw [hfe]; exact hrg) (by rw [hcf]; exact hrg) h10 (fun y hy => List.mem_append_left _ hy) (fun y hy => List.mem_append_right _ (List.mem_append_left _ hy)) (fun y hy => List.mem_append_right _ (List.mem_append_right _ (hF0 y hy))) (fun y hy => List.mem_append_right _ (List.mem_append_right _ (hF0 y hy))) (fun w11 hN => ?_)
        repeat (first | refine pu_not ?_ | refine pu_eql ?_ | refine pu_neq ?_ | refine pu_lss ?_ | refine pu_leq ?_ | refine pu_gtr ?_ | refine pu_geq ?_ | refine pu_add ?_ | refine pu_sub ?_ | refine pu_mul ?_ | refine pu_neg ?_ | refine fa_at ?_ | refine nl_ptr ?_ | refine ex20 ?_ | refine ex21 ?_ | refine ex30 ?_ | refine ex31 ?_ | refine ex32 ?_ | refine ln_rule ?_ | refine lnT_rule ?_ | refine pu_and ?_ | refine pu_or ?_ | refine pu_xor ?_ | refine pu_seq ?_ | refine pu_sne ?_)
        refine cnd_f (by rw [hre, hcr, hfe, hcf]; simp) ?_
        repeat (first | refine pu_not ?_ | refine pu_eql ?_ | refine pu_neq ?_ | refine pu_lss ?_ | refine pu_leq ?_ | refine pu_gtr ?_ | refine pu_geq ?_ | refine pu_add ?_ | refine pu_sub ?_ | refine pu_mul ?_ | refine pu_neg ?_ | refine fa_at ?_ | refine nl_ptr ?_ | refine ex20 ?_ | refine ex21 ?_ | refine ex30 ?_ | refine ex31 ?_ | refine ex32 ?_ | refine ln_rule ?_ | refine lnT_rule ?_ | refine pu_and ?_ | refine pu_or ?_ | refine pu_xor ?_ | refine pu_seq ?_ | refine pu_sne ?_)
        rw [wrap64_in (by omega) (by omega)]
        refine cnd_f (by simp; omega) ?_
        repeat (first | refine pu_not ?_ | refine pu_eql ?_ | refine pu_neq ?_ | refine pu_lss ?_ | refine pu_leq ?_ | refine pu_gtr ?_ | refine pu_geq ?_ | refine pu_add ?_ | refine pu_sub ?_ | refine pu_mul ?_ | refine pu_neg ?_ | refine fa_at ?_ | refine nl_ptr ?_ | refine ex20 ?_ | refine ex21 ?_ | refine ex30 ?_ | refine ex31 ?_ | refine ex32 ?_ | refine ln_rule ?_ | refine lnT_rule ?_ | refine pu_and ?_ | refine pu_or ?_ | refine pu_xor ?_ | refine pu_seq ?_ | refine pu_sne ?_)
        rw [wrap64_in (by omega) (by omega)]
        refine cnd_f (by simp; omega) ?_
        refine pu_max2 ?_
        repeat (first | refine pu_not ?_ | refine pu_eql ?_ | refine pu_neq ?_ | refine pu_lss ?_ | refine pu_leq ?_ | refine pu_gtr ?_ | refine pu_geq ?_ | refine pu_add ?_ | refine pu_sub ?_ | refine pu_mul ?_ | refine pu_neg ?_ | refine fa_at ?_ | refine nl_ptr ?_ | refine ex20 ?_ | refine ex21 ?_ | refine ex30 ?_ | refine ex31 ?_ | refine ex32 ?_ | refine ln_rule ?_ | refine lnT_rule ?_ | refine pu_and ?_ | refine pu_or ?_ | refine pu_xor ?_ | refine pu_seq ?_ | refine pu_sne ?_)
        refine cnd (fun hmx => ?_) (fun hmx => ?_)
        · have hmx : (s1.es.length : Int) ≤ am := by
            have hgt : s.es.length < s1.es.length := by
              simp only [decide_eq_true_eq] at hmx
              split at hmx <;> omega
            rcases hm3 with h | h <;> omega
          refine ga (R1 := s1.hp p ++ sc.hp p) (j := 1) (by rw [List.append_assoc]; exact hN) rfl ?_
          repeat (first | refine pu_not ?_ | refine pu_eql ?_ | refine pu_neq ?_ | refine pu_lss ?_ | refine pu_leq ?_ | refine pu_gtr ?_ | refine pu_geq ?_ | refine pu_add ?_ | refine pu_sub ?_ | refine pu_mul ?_ | refine pu_neg ?_ | refine fa_at ?_ | refine nl_ptr ?_ | refine ex20 ?_ | refine ex21 ?_ | refine ex30 ?_ | refine ex31 ?_ | refine ex32 ?_ | refine ln_rule ?_ | refine lnT_rule ?_ | refine pu_and ?_ | refine pu_or ?_ | refine pu_xor ?_ | refine pu_seq ?_ | refine pu_sne ?_)
          refine cnd_f (by simp; omega) ?_
          cases hes : s1.es with
          | nil =>
            have hl0 : s1.frs.length = 0 := by rw [← SK.es_len, hes]; rfl
            refine next_end hs1 hes hN (.head _) (fun wa hwa => ?_)
            unfold zeroNext
            repeat (first | refine pu_not ?_ | refine pu_eql ?_ | refine pu_neq ?_ | refine pu_lss ?_ | refine pu_leq ?_ | refine pu_gtr ?_ | refine pu_geq ?_ | refine pu_add ?_ | refine pu_sub ?_ | refine pu_mul ?_ | refine pu_neg ?_ | refine fa_at ?_ | refine nl_ptr ?_ | refine ex20 ?_ | refine ex21 ?_ | refine ex30 ?_ | refine ex31 ?_ | refine ex32 ?_ | refine ln_rule ?_ | refine lnT_rule ?_ | refine pu_and ?_ | refine pu_or ?_ | refine pu_xor ?_ | refine pu_seq ?_ | refine pu_sne ?_)
            refine al_rule hwa (l := (bare 0).cells) zins (fun ba wb hwb => ?_)
            refine al_rule hwb (l := [vI 0, vI 0]) (by kernel_rfl) (fun bb wc hwc => ?_)
            refine st_here (A := [_]) hwc (bare 0).cells rfl rfl (ins_plain _) (by simp [Ins.cells]) (fun wd hwd => ?_)
            refine st_here (A := []) hwd [vI 0, vI 0] rfl rfl rfl (by simp) (fun we hwe => ?_)
            repeat (first | refine pu_not ?_ | refine pu_eql ?_ | refine pu_neq ?_ | refine pu_lss ?_ | refine pu_leq ?_ | refine pu_gtr ?_ | refine pu_geq ?_ | refine pu_add ?_ | refine pu_sub ?_ | refine pu_mul ?_ | refine pu_neg ?_ | refine fa_at ?_ | refine nl_ptr ?_ | refine ex20 ?_ | refine ex21 ?_ | refine ex30 ?_ | refine ex31 ?_ | refine ex32 ?_ | refine ln_rule ?_ | refine lnT_rule ?_ | refine pu_and ?_ | refine pu_or ?_ | refine pu_xor ?_ | refine pu_seq ?_ | refine pu_sne ?_)
            refine ldn_here hwe (.tail _ (.tail _ (List.mem_append_right _ (List.mem_append_right _ m2r)))) (vs := p.cells v) rfl rfl ?_
            refine ldn_here hwe (.head _) (vs := [vI (0 : Nat), vI (0 : Nat)]) rfl rfl ?_
            refine refAt_spec (n := 0) (m := 0) hv (fun y hy => .tail _ (.tail _ (List.mem_append_right _ (List.mem_append_right _ (hH0 y hy))))) hwe (fun r e wf _ hwf => ?_)
            repeat (first | refine pu_not ?_ | refine pu_eql ?_ | refine pu_neq ?_ | refine pu_lss ?_ | refine pu_leq ?_ | refine pu_gtr ?_ | refine pu_geq ?_ | refine pu_add ?_ | refine pu_sub ?_ | refine pu_mul ?_ | refine pu_neg ?_ | refine fa_at ?_ | refine nl_ptr ?_ | refine ex20 ?_ | refine ex21 ?_ | refine ex30 ?_ | refine ex31 ?_ | refine ex32 ?_ | refine ln_rule ?_ | refine lnT_rule ?_ | refine pu_and ?_ | refine pu_or ?_ | refine pu_xor ?_ | refine pu_seq ?_ | refine pu_sne ?_)
            refine al_rule hwf (l := (bare 0).cells) zins (fun bc wg hwg => ?_)
            refine st_here (A := []) hwg r.cells rfl rfl (ins_plain _) (by simp [Ins.cells]) (fun wh hwh => ?_)
            repeat (first | refine pu_not ?_ | refine pu_eql ?_ | refine pu_neq ?_ | refine pu_lss ?_ | refine pu_leq ?_ | refine pu_gtr ?_ | refine pu_geq ?_ | refine pu_add ?_ | refine pu_sub ?_ | refine pu_mul ?_ | refine pu_neg ?_ | refine fa_at ?_ | refine nl_ptr ?_ | refine ex20 ?_ | refine ex21 ?_ | refine ex30 ?_ | refine ex31 ?_ | refine ex32 ?_ | refine ln_rule ?_ | refine lnT_rule ?_ | refine pu_and ?_ | refine pu_or ?_ | refine pu_xor ?_ | refine pu_seq ?_ | refine pu_sne ?_)
            refine pu_bneq (by kernel_rfl) ?_
            refine cnd_f (by simp) ?_
            refine cnd_f rfl ?_
            unfold linesmanlaw12_StackHolds.k0
            have hz : Ow B wh (s1.hp p ++ R0) := by
              have := Ow.drop (Ow.drop (Ow.drop hwh))
              exact this.sub ((List.Sublist.refl _).append (List.sublist_append_right _ _))
            repeat (first | refine pu_not ?_ | refine pu_eql ?_ | refine pu_neq ?_ | refine pu_lss ?_ | refine pu_leq ?_ | refine pu_gtr ?_ | refine pu_geq ?_ | refine pu_add ?_ | refine pu_sub ?_ | refine pu_mul ?_ | refine pu_neg ?_ | refine fa_at ?_ | refine nl_ptr ?_ | refine ex20 ?_ | refine ex21 ?_ | refine ex30 ?_ | refine ex31 ?_ | refine ex32 ?_ | refine ln_rule ?_ | refine lnT_rule ?_ | refine pu_and ?_ | refine pu_or ?_ | refine pu_xor ?_ | refine pu_seq ?_ | refine pu_sne ?_)
            rw [wrap64_in (by omega) (by omega)]
            exact ⟨⟨n + 1, s1, rfl, hlt, rfl, hs1, hI1, by omega, hz⟩, by simp; omega⟩
          | cons t1 lo1 =>
            have hfr1 : s1.frs = t1.m :: lo1.map FE.m := by simp [SK.frs, hes]
            have hlp : 0 < s1.es.length := by rw [hes]; simp
            obtain ⟨f1', hfi⟩ := hI1.fi t1.m (by rw [hfr1]; exact .head _)
            obtain ⟨i1, hi1, _⟩ := good.facts hfi
            refine next_at hs1 hes hFr hfi.hf hi1 hN (fun wa hwa => ?_)
            repeat (first | refine pu_not ?_ | refine pu_eql ?_ | refine pu_neq ?_ | refine pu_lss ?_ | refine pu_leq ?_ | refine pu_gtr ?_ | refine pu_geq ?_ | refine pu_add ?_ | refine pu_sub ?_ | refine pu_mul ?_ | refine pu_neg ?_ | refine fa_at ?_ | refine nl_ptr ?_ | refine ex20 ?_ | refine ex21 ?_ | refine ex30 ?_ | refine ex31 ?_ | refine ex32 ?_ | refine ln_rule ?_ | refine lnT_rule ?_ | refine pu_and ?_ | refine pu_or ?_ | refine pu_xor ?_ | refine pu_seq ?_ | refine pu_sne ?_)
            refine al_rule hwa (l := (bare 0).cells) zins (fun ba wb hwb => ?_)
            refine al_rule hwb (l := [vI 0, vI 0]) (by kernel_rfl) (fun bb wc hwc => ?_)
            refine st_here (A := [_]) hwc i1.cells rfl rfl (ins_plain _) (by simp [Ins.cells]) (fun wd hwd => ?_)
            have e5 : ∀ i : Ins, (bare 0).cells.take 0 ++ i.cells ++ (bare 0).cells.drop (0 + 5) = i.cells := fun i => rfl
            rw [e5] at hwd
            refine st_here (A := []) hwd [vI t1.m.fn, vI t1.m.pc] rfl rfl rfl (by simp) (fun we hwe => ?_)
            repeat (first | refine pu_not ?_ | refine pu_eql ?_ | refine pu_neq ?_ | refine pu_lss ?_ | refine pu_leq ?_ | refine pu_gtr ?_ | refine pu_geq ?_ | refine pu_add ?_ | refine pu_sub ?_ | refine pu_mul ?_ | refine pu_neg ?_ | refine fa_at ?_ | refine nl_ptr ?_ | refine ex20 ?_ | refine ex21 ?_ | refine ex30 ?_ | refine ex31 ?_ | refine ex32 ?_ | refine ln_rule ?_ | refine lnT_rule ?_ | refine pu_and ?_ | refine pu_or ?_ | refine pu_xor ?_ | refine pu_seq ?_ | refine pu_sne ?_)
            refine ldn_here hwe (.tail _ (.tail _ (List.mem_append_right _ (List.mem_append_right _ m2r)))) (vs := p.cells v) rfl rfl ?_
            refine ldn_here hwe (.head _) (vs := [vI t1.m.fn, vI t1.m.pc]) rfl rfl ?_
            refine refAt_spec (n := t1.m.fn) (m := t1.m.pc) hv (fun y hy => .tail _ (.tail _ (List.mem_append_right _ (List.mem_append_right _ (hH0 y hy))))) hwe (fun r e wf hre hwf => ?_)
            obtain ⟨rfl, rfl⟩ := hre _ _ hfi.hf hi1
            repeat (first | refine pu_not ?_ | refine pu_eql ?_ | refine pu_neq ?_ | refine pu_lss ?_ | refine pu_leq ?_ | refine pu_gtr ?_ | refine pu_geq ?_ | refine pu_add ?_ | refine pu_sub ?_ | refine pu_mul ?_ | refine pu_neg ?_ | refine fa_at ?_ | refine nl_ptr ?_ | refine ex20 ?_ | refine ex21 ?_ | refine ex30 ?_ | refine ex31 ?_ | refine ex32 ?_ | refine ln_rule ?_ | refine lnT_rule ?_ | refine pu_and ?_ | refine pu_or ?_ | refine pu_xor ?_ | refine pu_seq ?_ | refine pu_sne ?_)
            refine al_rule hwf (l := (bare 0).cells) zins (fun bc wg hwg => ?_)
            refine st_here (A := []) hwg r.cells rfl rfl (ins_plain _) (by simp [Ins.cells]) (fun wh hwh => ?_)
            rw [e5] at hwh
            repeat (first | refine pu_not ?_ | refine pu_eql ?_ | refine pu_neq ?_ | refine pu_lss ?_ | refine pu_leq ?_ | refine pu_gtr ?_ | refine pu_geq ?_ | refine pu_add ?_ | refine pu_sub ?_ | refine pu_mul ?_ | refine pu_neg ?_ | refine fa_at ?_ | refine nl_ptr ?_ | refine ex20 ?_ | refine ex21 ?_ | refine ex30 ?_ | refine ex31 ?_ | refine ex32 ?_ | refine ln_rule ?_ | refine lnT_rule ?_ | refine pu_and ?_ | refine pu_or ?_ | refine pu_xor ?_ | refine pu_seq ?_ | refine pu_sne ?_)
            refine pu_bneq (by kernel_rfl) ?_
            refine cnd_f (by simp) ?_
            refine cnd_t rfl ?_
            repeat (first | refine pu_not ?_ | refine pu_eql ?_ | refine pu_neq ?_ | refine pu_lss ?_ | refine pu_leq ?_ | refine pu_gtr ?_ | refine pu_geq ?_ | refine pu_add ?_ | refine pu_sub ?_ | refine pu_mul ?_ | refine pu_neg ?_ | refine fa_at ?_ | refine nl_ptr ?_ | refine ex20 ?_ | refine ex21 ?_ | refine ex30 ?_ | refine ex31 ?_ | refine ex32 ?_ | refine ln_rule ?_ | refine lnT_rule ?_ | refine pu_and ?_ | refine pu_or ?_ | refine pu_xor ?_ | refine pu_seq ?_ | refine pu_sne ?_)
            refine cnd_f rfl ?_
            refine ldn_here hwh (.tail _ (.tail _ (.head _))) (vs := r.cells) rfl rfl ?_
            refine ldn_here hwh (.head _) (vs := r.cells) rfl rfl ?_
            refine pu_aneq (by kernel_rfl) (eq_ins _ _) ?_
            refine cnd_f (by simp) ?_
            unfold linesmanlaw12_StackHolds.k0
            have hz : Ow B wh (s1.hp p ++ R0) := by
              have := Ow.drop (Ow.drop (Ow.drop hwh))
              exact this.sub ((List.Sublist.refl _).append (List.sublist_append_right _ _))
            repeat (first | refine pu_not ?_ | refine pu_eql ?_ | refine pu_neq ?_ | refine pu_lss ?_ | refine pu_leq ?_ | refine pu_gtr ?_ | refine pu_geq ?_ | refine pu_add ?_ | refine pu_sub ?_ | refine pu_mul ?_ | refine pu_neg ?_ | refine fa_at ?_ | refine nl_ptr ?_ | refine ex20 ?_ | refine ex21 ?_ | refine ex30 ?_ | refine ex31 ?_ | refine ex32 ?_ | refine ln_rule ?_ | refine lnT_rule ?_ | refine pu_and ?_ | refine pu_or ?_ | refine pu_xor ?_ | refine pu_seq ?_ | refine pu_sne ?_)
            rw [wrap64_in (by omega) (by omega)]
            exact ⟨⟨n + 1, s1, rfl, hlt, rfl, hs1, hI1, by omega, hz⟩, by simp; omega⟩
        · cases hes : s1.es with
          | nil =>
            have hl0 : s1.frs.length = 0 := by rw [← SK.es_len, hes]; rfl
            refine next_end hs1 hes hN (.head _) (fun wa hwa => ?_)
            unfold zeroNext
            repeat (first | refine pu_not ?_ | refine pu_eql ?_ | refine pu_neq ?_ | refine pu_lss ?_ | refine pu_leq ?_ | refine pu_gtr ?_ | refine pu_geq ?_ | refine pu_add ?_ | refine pu_sub ?_ | refine pu_mul ?_ | refine pu_neg ?_ | refine fa_at ?_ | refine nl_ptr ?_ | refine ex20 ?_ | refine ex21 ?_ | refine ex30 ?_ | refine ex31 ?_ | refine ex32 ?_ | refine ln_rule ?_ | refine lnT_rule ?_ | refine pu_and ?_ | refine pu_or ?_ | refine pu_xor ?_ | refine pu_seq ?_ | refine pu_sne ?_)
            refine al_rule hwa (l := (bare 0).cells) zins (fun ba wb hwb => ?_)
            refine al_rule hwb (l := [vI 0, vI 0]) (by kernel_rfl) (fun bb wc hwc => ?_)
            refine st_here (A := [_]) hwc (bare 0).cells rfl rfl (ins_plain _) (by simp [Ins.cells]) (fun wd hwd => ?_)
            refine st_here (A := []) hwd [vI 0, vI 0] rfl rfl rfl (by simp) (fun we hwe => ?_)
            repeat (first | refine pu_not ?_ | refine pu_eql ?_ | refine pu_neq ?_ | refine pu_lss ?_ | refine pu_leq ?_ | refine pu_gtr ?_ | refine pu_geq ?_ | refine pu_add ?_ | refine pu_sub ?_ | refine pu_mul ?_ | refine pu_neg ?_ | refine fa_at ?_ | refine nl_ptr ?_ | refine ex20 ?_ | refine ex21 ?_ | refine ex30 ?_ | refine ex31 ?_ | refine ex32 ?_ | refine ln_rule ?_ | refine lnT_rule ?_ | refine pu_and ?_ | refine pu_or ?_ | refine pu_xor ?_ | refine pu_seq ?_ | refine pu_sne ?_)
            refine ldn_here hwe (.tail _ (.tail _ (List.mem_append_right _ (List.mem_append_right _ m2r)))) (vs := p.cells v) rfl rfl ?_
            refine ldn_here hwe (.head _) (vs := [vI (0 : Nat), vI (0 : Nat)]) rfl rfl ?_
            refine refAt_spec (n := 0) (m := 0) hv (fun y hy => .tail _ (.tail _ (List.mem_append_right _ (List.mem_append_right _ (hH0 y hy))))) hwe (fun r e wf _ hwf => ?_)
            repeat (first | refine pu_not ?_ | refine pu_eql ?_ | refine pu_neq ?_ | refine pu_lss ?_ | refine pu_leq ?_ | refine pu_gtr ?_ | refine pu_geq ?_ | refine pu_add ?_ | refine pu_sub ?_ | refine pu_mul ?_ | refine pu_neg ?_ | refine fa_at ?_ | refine nl_ptr ?_ | refine ex20 ?_ | refine ex21 ?_ | refine ex30 ?_ | refine ex31 ?_ | refine ex32 ?_ | refine ln_rule ?_ | refine lnT_rule ?_ | refine pu_and ?_ | refine pu_or ?_ | refine pu_xor ?_ | refine pu_seq ?_ | refine pu_sne ?_)
            refine al_rule hwf (l := (bare 0).cells) zins (fun bc wg hwg => ?_)
            refine st_here (A := []) hwg r.cells rfl rfl (ins_plain _) (by simp [Ins.cells]) (fun wh hwh => ?_)
            repeat (first | refine pu_not ?_ | refine pu_eql ?_ | refine pu_neq ?_ | refine pu_lss ?_ | refine pu_leq ?_ | refine pu_gtr ?_ | refine pu_geq ?_ | refine pu_add ?_ | refine pu_sub ?_ | refine pu_mul ?_ | refine pu_neg ?_ | refine fa_at ?_ | refine nl_ptr ?_ | refine ex20 ?_ | refine ex21 ?_ | refine ex30 ?_ | refine ex31 ?_ | refine ex32 ?_ | refine ln_rule ?_ | refine lnT_rule ?_ | refine pu_and ?_ | refine pu_or ?_ | refine pu_xor ?_ | refine pu_seq ?_ | refine pu_sne ?_)
            refine pu_bneq (by kernel_rfl) ?_
            refine cnd_f (by simp) ?_
            refine cnd_f rfl ?_
            unfold linesmanlaw12_StackHolds.k0
            have hz : Ow B wh (s1.hp p ++ R0) := by
              have := Ow.drop (Ow.drop (Ow.drop hwh))
              exact this.sub ((List.Sublist.refl _).append (List.sublist_append_right _ _))
            repeat (first | refine pu_not ?_ | refine pu_eql ?_ | refine pu_neq ?_ | refine pu_lss ?_ | refine pu_leq ?_ | refine pu_gtr ?_ | refine pu_geq ?_ | refine pu_add ?_ | refine pu_sub ?_ | refine pu_mul ?_ | refine pu_neg ?_ | refine fa_at ?_ | refine nl_ptr ?_ | refine ex20 ?_ | refine ex21 ?_ | refine ex30 ?_ | refine ex31 ?_ | refine ex32 ?_ | refine ln_rule ?_ | refine lnT_rule ?_ | refine pu_and ?_ | refine pu_or ?_ | refine pu_xor ?_ | refine pu_seq ?_ | refine pu_sne ?_)
            rw [wrap64_in (by omega) (by omega)]
            exact ⟨⟨n + 1, s1, rfl, hlt, rfl, hs1, hI1, by omega, hz⟩, by simp; omega⟩
          | cons t1 lo1 =>
            have hfr1 : s1.frs = t1.m :: lo1.map FE.m := by simp [SK.frs, hes]
            have hlp : 0 < s1.es.length := by rw [hes]; simp
            obtain ⟨f1', hfi⟩ := hI1.fi t1.m (by rw [hfr1]; exact .head _)
            obtain ⟨i1, hi1, _⟩ := good.facts hfi
            refine next_at hs1 hes hFr hfi.hf hi1 hN (fun wa hwa => ?_)
            repeat (first | refine pu_not ?_ | refine pu_eql ?_ | refine pu_neq ?_ | refine pu_lss ?_ | refine pu_leq ?_ | refine pu_gtr ?_ | refine pu_geq ?_ | refine pu_add ?_ | refine pu_sub ?_ | refine pu_mul ?_ | refine pu_neg ?_ | refine fa_at ?_ | refine nl_ptr ?_ | refine ex20 ?_ | refine ex21 ?_ | refine ex30 ?_ | refine ex31 ?_ | refine ex32 ?_ | refine ln_rule ?_ | refine lnT_rule ?_ | refine pu_and ?_ | refine pu_or ?_ | refine pu_xor ?_ | refine pu_seq ?_ | refine pu_sne ?_)
            refine al_rule hwa (l := (bare 0).cells) zins (fun ba wb hwb => ?_)
            refine al_rule hwb (l := [vI 0, vI 0]) (by kernel_rfl) (fun bb wc hwc => ?_)
            refine st_here (A := [_]) hwc i1.cells rfl rfl (ins_plain _) (by simp [Ins.cells]) (fun wd hwd => ?_)
            have e5 : ∀ i : Ins, (bare 0).cells.take 0 ++ i.cells ++ (bare 0).cells.drop (0 + 5) = i.cells := fun i => rfl
            rw [e5] at hwd
            refine st_here (A := []) hwd [vI t1.m.fn, vI t1.m.pc] rfl rfl rfl (by simp) (fun we hwe => ?_)
            repeat (first | refine pu_not ?_ | refine pu_eql ?_ | refine pu_neq ?_ | refine pu_lss ?_ | refine pu_leq ?_ | refine pu_gtr ?_ | refine pu_geq ?_ | refine pu_add ?_ | refine pu_sub ?_ | refine pu_mul ?_ | refine pu_neg ?_ | refine fa_at ?_ | refine nl_ptr ?_ | refine ex20 ?_ | refine ex21 ?_ | refine ex30 ?_ | refine ex31 ?_ | refine ex32 ?_ | refine ln_rule ?_ | refine lnT_rule ?_ | refine pu_and ?_ | refine pu_or ?_ | refine pu_xor ?_ | refine pu_seq ?_ | refine pu_sne ?_)
            refine ldn_here hwe (.tail _ (.tail _ (List.mem_append_right _ (List.mem_append_right _ m2r)))) (vs := p.cells v) rfl rfl ?_
            refine ldn_here hwe (.head _) (vs := [vI t1.m.fn, vI t1.m.pc]) rfl rfl ?_
            refine refAt_spec (n := t1.m.fn) (m := t1.m.pc) hv (fun y hy => .tail _ (.tail _ (List.mem_append_right _ (List.mem_append_right _ (hH0 y hy))))) hwe (fun r e wf hre hwf => ?_)
            obtain ⟨rfl, rfl⟩ := hre _ _ hfi.hf hi1
            repeat (first | refine pu_not ?_ | refine pu_eql ?_ | refine pu_neq ?_ | refine pu_lss ?_ | refine pu_leq ?_ | refine pu_gtr ?_ | refine pu_geq ?_ | refine pu_add ?_ | refine pu_sub ?_ | refine pu_mul ?_ | refine pu_neg ?_ | refine fa_at ?_ | refine nl_ptr ?_ | refine ex20 ?_ | refine ex21 ?_ | refine ex30 ?_ | refine ex31 ?_ | refine ex32 ?_ | refine ln_rule ?_ | refine lnT_rule ?_ | refine pu_and ?_ | refine pu_or ?_ | refine pu_xor ?_ | refine pu_seq ?_ | refine pu_sne ?_)
            refine al_rule hwf (l := (bare 0).cells) zins (fun bc wg hwg => ?_)
            refine st_here (A := []) hwg r.cells rfl rfl (ins_plain _) (by simp [Ins.cells]) (fun wh hwh => ?_)
            rw [e5] at hwh
            repeat (first | refine pu_not ?_ | refine pu_eql ?_ | refine pu_neq ?_ | refine pu_lss ?_ | refine pu_leq ?_ | refine pu_gtr ?_ | refine pu_geq ?_ | refine pu_add ?_ | refine pu_sub ?_ | refine pu_mul ?_ | refine pu_neg ?_ | refine fa_at ?_ | refine nl_ptr ?_ | refine ex20 ?_ | refine ex21 ?_ | refine ex30 ?_ | refine ex31 ?_ | refine ex32 ?_ | refine ln_rule ?_ | refine lnT_rule ?_ | refine pu_and ?_ | refine pu_or ?_ | refine pu_xor ?_ | refine pu_seq ?_ | refine pu_sne ?_)
            refine pu_bneq (by kernel_rfl) ?_
            refine cnd_f (by simp) ?_
            refine cnd_t rfl ?_
            repeat (first | refine pu_not ?_ | refine pu_eql ?_ | refine pu_neq ?_ | refine pu_lss ?_ | refine pu_leq ?_ | refine pu_gtr ?_ | refine pu_geq ?_ | refine pu_add ?_ | refine pu_sub ?_ | refine pu_mul ?_ | refine pu_neg ?_ | refine fa_at ?_ | refine nl_ptr ?_ | refine ex20 ?_ | refine ex21 ?_ | refine ex30 ?_ | refine ex31 ?_ | refine ex32 ?_ | refine ln_rule ?_ | refine lnT_rule ?_ | refine pu_and ?_ | refine pu_or ?_ | refine pu_xor ?_ | refine pu_seq ?_ | refine pu_sne ?_)
            refine cnd_f rfl ?_
            refine ldn_here hwh (.tail _ (.tail _ (.head _))) (vs := r.cells) rfl rfl ?_
            refine ldn_here hwh (.head _) (vs := r.cells) rfl rfl ?_
            refine pu_aneq (by kernel_rfl) (eq_ins _ _) ?_
            refine cnd_f (by simp) ?_
            unfold linesmanlaw12_StackHolds.k0
            have hz : Ow B wh (s1.hp p ++ R0) := by
              have := Ow.drop (Ow.drop (Ow.drop hwh))
              exact this.sub ((List.Sublist.refl _).append (List.sublist_append_right _ _))
            repeat (first | refine pu_not ?_ | refine pu_eql ?_ | refine pu_neq ?_ | refine pu_lss ?_ | refine pu_leq ?_ | refine pu_gtr ?_ | refine pu_geq ?_ | refine pu_add ?_ | refine pu_sub ?_ | refine pu_mul ?_ | refine pu_neg ?_ | refine fa_at ?_ | refine nl_ptr ?_ | refine ex20 ?_ | refine ex21 ?_ | refine ex30 ?_ | refine ex31 ?_ | refine ex32 ?_ | refine ln_rule ?_ | refine lnT_rule ?_ | refine pu_and ?_ | refine pu_or ?_ | refine pu_xor ?_ | refine pu_seq ?_ | refine pu_sne ?_)
            rw [wrap64_in (by omega) (by omega)]
            exact ⟨⟨n + 1, s1, rfl, hlt, rfl, hs1, hI1, by omega, hz⟩, by simp; omega⟩
      · have hN := h10
        repeat (first | refine pu_not ?_ | refine pu_eql ?_ | refine pu_neq ?_ | refine pu_lss ?_ | refine pu_leq ?_ | refine pu_gtr ?_ | refine pu_geq ?_ | refine pu_add ?_ | refine pu_sub ?_ | refine pu_mul ?_ | refine pu_neg ?_ | refine fa_at ?_ | refine nl_ptr ?_ | refine ex20 ?_ | refine ex21 ?_ | refine ex30 ?_ | refine ex31 ?_ | refine ex32 ?_ | refine ln_rule ?_ | refine lnT_rule ?_ | refine pu_and ?_ | refine pu_or ?_ | refine pu_xor ?_ | refine pu_seq ?_ | refine pu_sne ?_)
        rw [wrap64_in (by omega) (by omega)]
        refine cnd_f (by simp; omega) ?_
        repeat (first | refine pu_not ?_ | refine pu_eql ?_ | refine pu_neq ?_ | refine pu_lss ?_ | refine pu_leq ?_ | refine pu_gtr ?_ | refine pu_geq ?_ | refine pu_add ?_ | refine pu_sub ?_ | refine pu_mul ?_ | refine pu_neg ?_ | refine fa_at ?_ | refine nl_ptr ?_ | refine ex20 ?_ | refine ex21 ?_ | refine ex30 ?_ | refine ex31 ?_ | refine ex32 ?_ | refine ln_rule ?_ | refine lnT_rule ?_ | refine pu_and ?_ | refine pu_or ?_ | refine pu_xor ?_ | refine pu_seq ?_ | refine pu_sne ?_)
        rw [wrap64_in (by omega) (by omega)]
        refine cnd_f (by simp; omega) ?_
        refine pu_max2 ?_
        repeat (first | refine pu_not ?_ | refine pu_eql ?_ | refine pu_neq ?_ | refine pu_lss ?_ | refine pu_leq ?_ | refine pu_gtr ?_ | refine pu_geq ?_ | refine pu_add ?_ | refine pu_sub ?_ | refine pu_mul ?_ | refine pu_neg ?_ | refine fa_at ?_ | refine nl_ptr ?_ | refine ex20 ?_ | refine ex21 ?_ | refine ex30 ?_ | refine ex31 ?_ | refine ex32 ?_ | refine ln_rule ?_ | refine lnT_rule ?_ | refine pu_and ?_ | refine pu_or ?_ | refine pu_xor ?_ | refine pu_seq ?_ | refine pu_sne ?_)
        refine cnd (fun hmx => ?_) (fun hmx => ?_)
        · have hmx : (s1.es.length : Int) ≤ am := by
            have hgt : s.es.length < s1.es.length := by
              simp only [decide_eq_true_eq] at hmx
              split at hmx <;> omega
            rcases hm3 with h | h <;> omega
          refine ga (R1 := s1.hp p ++ sc.hp p) (j := 1) (by rw [List.append_assoc]; exact hN) rfl ?_
          repeat (first | refine pu_not ?_ | refine pu_eql ?_ | refine pu_neq ?_ | refine pu_lss ?_ | refine pu_leq ?_ | refine pu_gtr ?_ | refine pu_geq ?_ | refine pu_add ?_ | refine pu_sub ?_ | refine pu_mul ?_ | refine pu_neg ?_ | refine fa_at ?_ | refine nl_ptr ?_ | refine ex20 ?_ | refine ex21 ?_ | refine ex30 ?_ | refine ex31 ?_ | refine ex32 ?_ | refine ln_rule ?_ | refine lnT_rule ?_ | refine pu_and ?_ | refine pu_or ?_ | refine pu_xor ?_ | refine pu_seq ?_ | refine pu_sne ?_)
          refine cnd_f (by simp; omega) ?_
          cases hes : s1.es with
          | nil =>
            have hl0 : s1.frs.length = 0 := by rw [← SK.es_len, hes]; rfl
            refine next_end hs1 hes hN (.head _) (fun wa hwa => ?_)
            unfold zeroNext
            repeat (first | refine pu_not ?_ | refine pu_eql ?_ | refine pu_neq ?_ | refine pu_lss ?_ | refine pu_leq ?_ | refine pu_gtr ?_ | refine pu_geq ?_ | refine pu_add ?_ | refine pu_sub ?_ | refine pu_mul ?_ | refine pu_neg ?_ | refine fa_at ?_ | refine nl_ptr ?_ | refine ex20 ?_ | refine ex21 ?_ | refine ex30 ?_ | refine ex31 ?_ | refine ex32 ?_ | refine ln_rule ?_ | refine lnT_rule ?_ | refine pu_and ?_ | refine pu_or ?_ | refine pu_xor ?_ | refine pu_seq ?_ | refine pu_sne ?_)
            refine al_rule hwa (l := (bare 0).cells) zins (fun ba wb hwb => ?_)
            refine al_rule hwb (l := [vI 0, vI 0]) (by kernel_rfl) (fun bb wc hwc => ?_)
            refine st_here (A := [_]) hwc (bare 0).cells rfl rfl (ins_plain _) (by simp [Ins.cells]) (fun wd hwd => ?_)
            refine st_here (A := []) hwd [vI 0, vI 0] rfl rfl rfl (by simp) (fun we hwe => ?_)
            repeat (first | refine pu_not ?_ | refine pu_eql ?_ | refine pu_neq ?_ | refine pu_lss ?_ | refine pu_leq ?_ | refine pu_gtr ?_ | refine pu_geq ?_ | refine pu_add ?_ | refine pu_sub ?_ | refine pu_mul ?_ | refine pu_neg ?_ | refine fa_at ?_ | refine nl_ptr ?_ | refine ex20 ?_ | refine ex21 ?_ | refine ex30 ?_ | refine ex31 ?_ | refine ex32 ?_ | refine ln_rule ?_ | refine lnT_rule ?_ | refine pu_and ?_ | refine pu_or ?_ | refine pu_xor ?_ | refine pu_seq ?_ | refine pu_sne ?_)
            refine ldn_here hwe (.tail _ (.tail _ (List.mem_append_right _ (List.mem_append_right _ m2r)))) (vs := p.cells v) rfl rfl ?_
            refine ldn_here hwe (.head _) (vs := [vI (0 : Nat), vI (0 : Nat)]) rfl rfl ?_
            refine refAt_spec (n := 0) (m := 0) hv (fun y hy => .tail _ (.tail _ (List.mem_append_right _ (List.mem_append_right _ (hH0 y hy))))) hwe (fun r e wf _ hwf => ?_)
            repeat (first | refine pu_not ?_ | refine pu_eql ?_ | refine pu_neq ?_ | refine pu_lss ?_ | refine pu_leq ?_ | refine pu_gtr ?_ | refine pu_geq ?_ | refine pu_add ?_ | refine pu_sub ?_ | refine pu_mul ?_ | refine pu_neg ?_ | refine fa_at ?_ | refine nl_ptr ?_ | refine ex20 ?_ | refine ex21 ?_ | refine ex30 ?_ | refine ex31 ?_ | refine ex32 ?_ | refine ln_rule ?_ | refine lnT_rule ?_ | refine pu_and ?_ | refine pu_or ?_ | refine pu_xor ?_ | refine pu_seq ?_ | refine pu_sne ?_)
            refine al_rule hwf (l := (bare 0).cells) zins (fun bc wg hwg => ?_)
            refine st_here (A := []) hwg r.cells rfl rfl (ins_plain _) (by simp [Ins.cells]) (fun wh hwh => ?_)
            repeat (first | refine pu_not ?_ | refine pu_eql ?_ | refine pu_neq ?_ | refine pu_lss ?_ | refine pu_leq ?_ | refine pu_gtr ?_ | refine pu_geq ?_ | refine pu_add ?_ | refine pu_sub ?_ | refine pu_mul ?_ | refine pu_neg ?_ | refine fa_at ?_ | refine nl_ptr ?_ | refine ex20 ?_ | refine ex21 ?_ | refine ex30 ?_ | refine ex31 ?_ | refine ex32 ?_ | refine ln_rule ?_ | refine lnT_rule ?_ | refine pu_and ?_ | refine pu_or ?_ | refine pu_xor ?_ | refine pu_seq ?_ | refine pu_sne ?_)
            refine pu_bneq (by kernel_rfl) ?_
            refine cnd_f (by simp) ?_
            refine cnd_f rfl ?_
            unfold linesmanlaw12_StackHolds.k0
            have hz : Ow B wh (s1.hp p ++ R0) := by
              have := Ow.drop (Ow.drop (Ow.drop hwh))
              exact this.sub ((List.Sublist.refl _).append (List.sublist_append_right _ _))
            repeat (first | refine pu_not ?_ | refine pu_eql ?_ | refine pu_neq ?_ | refine pu_lss ?_ | refine pu_leq ?_ | refine pu_gtr ?_ | refine pu_geq ?_ | refine pu_add ?_ | refine pu_sub ?_ | refine pu_mul ?_ | refine pu_neg ?_ | refine fa_at ?_ | refine nl_ptr ?_ | refine ex20 ?_ | refine ex21 ?_ | refine ex30 ?_ | refine ex31 ?_ | refine ex32 ?_ | refine ln_rule ?_ | refine lnT_rule ?_ | refine pu_and ?_ | refine pu_or ?_ | refine pu_xor ?_ | refine pu_seq ?_ | refine pu_sne ?_)
            rw [wrap64_in (by omega) (by omega)]
            exact ⟨⟨n + 1, s1, rfl, hlt, rfl, hs1, hI1, by omega, hz⟩, by simp; omega⟩
          | cons t1 lo1 =>
            have hfr1 : s1.frs = t1.m :: lo1.map FE.m := by simp [SK.frs, hes]
            have hlp : 0 < s1.es.length := by rw [hes]; simp
            obtain ⟨f1', hfi⟩ := hI1.fi t1.m (by rw [hfr1]; exact .head _)
            obtain ⟨i1, hi1, _⟩ := good.facts hfi
            refine next_at hs1 hes hFr hfi.hf hi1 hN (fun wa hwa => ?_)
            repeat (first | refine pu_not ?_ | refine pu_eql ?_ | refine pu_neq ?_ | refine pu_lss ?_ | refine pu_leq ?_ | refine pu_gtr ?_ | refine pu_geq ?_ | refine pu_add ?_ | refine pu_sub ?_ | refine pu_mul ?_ | refine pu_neg ?_ | refine fa_at ?_ | refine nl_ptr ?_ | refine ex20 ?_ | refine ex21 ?_ | refine ex30 ?_ | refine ex31 ?_ | refine ex32 ?_ | refine ln_rule ?_ | refine lnT_rule ?_ | refine pu_and ?_ | refine pu_or ?_ | refine pu_xor ?_ | refine pu_seq ?_ | refine pu_sne ?_)
            refine al_rule hwa (l := (bare 0).cells) zins (fun ba wb hwb => ?_)
            refine al_rule hwb (l := [vI 0, vI 0]) (by kernel_rfl) (fun bb wc hwc => ?_)
            refine st_here (A := [_]) hwc i1.cells rfl rfl (ins_plain _) (by simp [Ins.cells]) (fun wd hwd => ?_)
            have e5 : ∀ i : Ins, (bare 0).cells.take 0 ++ i.cells ++ (bare 0).cells.drop (0 + 5) = i.cells := fun i => rfl
            rw [e5] at hwd
            refine st_here (A := []) hwd [vI t1.m.fn, vI t1.m.pc] rfl rfl rfl (by simp) (fun we hwe => ?_)
            repeat (first | refine pu_not ?_ | refine pu_eql ?_ | refine pu_neq ?_ | refine pu_lss ?_ | refine pu_leq ?_ | refine pu_gtr ?_ | refine pu_geq ?_ | refine pu_add ?_ | refine pu_sub ?_ | refine pu_mul ?_ | refine pu_neg ?_ | refine fa_at ?_ | refine nl_ptr ?_ | refine ex20 ?_ | refine ex21 ?_ | refine ex30 ?_ | refine ex31 ?_ | refine ex32 ?_ | refine ln_rule ?_ | refine lnT_rule ?_ | refine pu_and ?_ | refine pu_or ?_ | refine pu_xor ?_ | refine pu_seq ?_ | refine pu_sne ?_)
            refine ldn_here hwe (.tail _ (.tail _ (List.mem_append_right _ (List.mem_append_right _ m2r)))) (vs := p.cells v) rfl rfl ?_
            refine ldn_here hwe (.head _) (vs := [vI t1.m.fn, vI t1.m.pc]) rfl rfl ?_
            refine refAt_spec (n := t1.m.fn) (m := t1.m.pc) hv (fun y hy => .tail _ (.tail _ (List.mem_append_right _ (List.mem_append_right _ (hH0 y hy))))) hwe (fun r e wf hre hwf => ?_)
            obtain ⟨rfl, rfl⟩ := hre _ _ hfi.hf hi1
            repeat (first | refine pu_not ?_ | refine pu_eql ?_ | refine pu_neq ?_ | refine pu_lss ?_ | refine pu_leq ?_ | refine pu_gtr ?_ | refine pu_geq ?_ | refine pu_add ?_ | refine pu_sub ?_ | refine pu_mul ?_ | refine pu_neg ?_ | refine fa_at ?_ | refine nl_ptr ?_ | refine ex20 ?_ | refine ex21 ?_ | refine ex30 ?_ | refine ex31 ?_ | refine ex32 ?_ | refine ln_rule ?_ | refine lnT_rule ?_ | refine pu_and ?_ | refine pu_or ?_ | refine pu_xor ?_ | refine pu_seq ?_ | refine pu_sne ?_)
            refine al_rule hwf (l := (bare 0).cells) zins (fun bc wg hwg => ?_)
            refine st_here (A := []) hwg r.cells rfl rfl (ins_plain _) (by simp [Ins.cells]) (fun wh hwh => ?_)
            rw [e5] at hwh
            repeat (first | refine pu_not ?_ | refine pu_eql ?_ | refine pu_neq ?_ | refine pu_lss ?_ | refine pu_leq ?_ | refine pu_gtr ?_ | refine pu_geq ?_ | refine pu_add ?_ | refine pu_sub ?_ | refine pu_mul ?_ | refine pu_neg ?_ | refine fa_at ?_ | refine nl_ptr ?_ | refine ex20 ?_ | refine ex21 ?_ | refine ex30 ?_ | refine ex31 ?_ | refine ex32 ?_ | refine ln_rule ?_ | refine lnT_rule ?_ | refine pu_and ?_ | refine pu_or ?_ | refine pu_xor ?_ | refine pu_seq ?_ | refine pu_sne ?_)
            refine pu_bneq (by kernel_rfl) ?_
            refine cnd_f (by simp) ?_
            refine cnd_t rfl ?_
            repeat (first | refine pu_not ?_ | refine pu_eql ?_ | refine pu_neq ?_ | refine pu_lss ?_ | refine pu_leq ?_ | refine pu_gtr ?_ | refine pu_geq ?_ | refine pu_add ?_ | refine pu_sub ?_ | refine pu_mul ?_ | refine pu_neg ?_ | refine fa_at ?_ | refine nl_ptr ?_ | refine ex20 ?_ | refine ex21 ?_ | refine ex30 ?_ | refine ex31 ?_ | refine ex32 ?_ | refine ln_rule ?_ | refine lnT_rule ?_ | refine pu_and ?_ | refine pu_or ?_ | refine pu_xor ?_ | refine pu_seq ?_ | refine pu_sne ?_)
            refine cnd_f rfl ?_
            refine ldn_here hwh (.tail _ (.tail _ (.head _))) (vs := r.cells) rfl rfl ?_
            refine ldn_here hwh (.head _) (vs := r.cells) rfl rfl ?_
            refine pu_aneq (by kernel_rfl) (eq_ins _ _) ?_
            refine cnd_f (by simp) ?_
            unfold linesmanlaw12_StackHolds.k0
            have hz : Ow B wh (s1.hp p ++ R0) := by
              have := Ow.drop (Ow.drop (Ow.drop hwh))
              exact this.sub ((List.Sublist.refl _).append (List.sublist_append_right _ _))
            repeat (first | refine pu_not ?_ | refine pu_eql ?_ | refine pu_neq ?_ | refine pu_lss ?_ | refine pu_leq ?_ | refine pu_gtr ?_ | refine pu_geq ?_ | refine pu_add ?_ | refine pu_sub ?_ | refine pu_mul ?_ | refine pu_neg ?_ | refine fa_at ?_ | refine nl_ptr ?_ | refine ex20 ?_ | refine ex21 ?_ | refine ex30 ?_ | refine ex31 ?_ | refine ex32 ?_ | refine ln_rule ?_ | refine lnT_rule ?_ | refine pu_and ?_ | refine pu_or ?_ | refine pu_xor ?_ | refine pu_seq ?_ | refine pu_sne ?_)
            rw [wrap64_in (by omega) (by omega)]
            exact ⟨⟨n + 1, s1, rfl, hlt, rfl, hs1, hI1, by omega, hz⟩, by simp; omega⟩
        · cases hes : s1.es with
          | nil =>
            have hl0 : s1.frs.length = 0 := by rw [← SK.es_len, hes]; rfl
            refine next_end hs1 hes hN (.head _) (fun wa hwa => ?_)
            unfold zeroNext
            repeat (first | refine pu_not ?_ | refine pu_eql ?_ | refine pu_neq ?_ | refine pu_lss ?_ | refine pu_leq ?_ | refine pu_gtr ?_ | refine pu_geq ?_ | refine pu_add ?_ | refine pu_sub ?_ | refine pu_mul ?_ | refine pu_neg ?_ | refine fa_at ?_ | refine nl_ptr ?_ | refine ex20 ?_ | refine ex21 ?_ | refine ex30 ?_ | refine ex31 ?_ | refine ex32 ?_ | refine ln_rule ?_ | refine lnT_rule ?_ | refine pu_and ?_ | refine pu_or ?_ | refine pu_xor ?_ | refine pu_seq ?_ | refine pu_sne ?_)
            refine al_rule hwa (l := (bare 0).cells) zins (fun ba wb hwb => ?_)
            refine al_rule hwb (l := [vI 0, vI 0]) (by kernel_rfl) (fun bb wc hwc => ?_)
            refine st_here (A := [_]) hwc (bare 0).cells rfl rfl (ins_plain _) (by simp [Ins.cells]) (fun wd hwd => ?_)
            refine st_here (A := []) hwd [vI 0, vI 0] rfl rfl rfl (by simp) (fun we hwe => ?_)
            repeat (first | refine pu_not ?_ | refine pu_eql ?_ | refine pu_neq ?_ | refine pu_lss ?_ | refine pu_leq ?_ | refine pu_gtr ?_ | refine pu_geq ?_ | refine pu_add ?_ | refine pu_sub ?_ | refine pu_mul ?_ | refine pu_neg ?_ | refine fa_at ?_ | refine nl_ptr ?_ | refine ex20 ?_ | refine ex21 ?_ | refine ex30 ?_ | refine ex31 ?_ | refine ex32 ?_ | refine ln_rule ?_ | refine lnT_rule ?_ | refine pu_and ?_ | refine pu_or ?_ | refine pu_xor ?_ | refine pu_seq ?_ | refine pu_sne ?_)
            refine ldn_here hwe (.tail _ (.tail _ (List.mem_append_right _ (List.mem_append_right _ m2r)))) (vs := p.cells v) rfl rfl ?_
            refine ldn_here hwe (.head _) (vs := [vI (0 : Nat), vI (0 : Nat)]) rfl rfl ?_
            refine refAt_spec (n := 0) (m := 0) hv (fun y hy => .tail _ (.tail _ (List.mem_append_right _ (List.mem_append_right _ (hH0 y hy))))) hwe (fun r e wf _ hwf => ?_)
            repeat (first | refine pu_not ?_ | refine pu_eql ?_ | refine pu_neq ?_ | refine pu_lss ?_ | refine pu_leq ?_ | refine pu_gtr ?_ | refine pu_geq ?_ | refine pu_add ?_ | refine pu_sub ?_ | refine pu_mul ?_ | refine pu_neg ?_ | refine fa_at ?_ | refine nl_ptr ?_ | refine ex20 ?_ | refine ex21 ?_ | refine ex30 ?_ | refine ex31 ?_ | refine ex32 ?_ | refine ln_rule ?_ | refine lnT_rule ?_ | refine pu_and ?_ | refine pu_or ?_ | refine pu_xor ?_ | refine pu_seq ?_ | refine pu_sne ?_)
            refine al_rule hwf (l := (bare 0).cells) zins (fun bc wg hwg => ?_)
            refine st_here (A := []) hwg r.cells rfl rfl (ins_plain _) (by simp [Ins.cells]) (fun wh hwh => ?_)
            repeat (first | refine pu_not ?_ | refine pu_eql ?_ | refine pu_neq ?_ | refine pu_lss ?_ | refine pu_leq ?_ | refine pu_gtr ?_ | refine pu_geq ?_ | refine pu_add ?_ | refine pu_sub ?_ | refine pu_mul ?_ | refine pu_neg ?_ | refine fa_at ?_ | refine nl_ptr ?_ | refine ex20 ?_ | refine ex21 ?_ | refine ex30 ?_ | refine ex31 ?_ | refine ex32 ?_ | refine ln_rule ?_ | refine lnT_rule ?_ | refine pu_and ?_ | refine pu_or ?_ | refine pu_xor ?_ | refine pu_seq ?_ | refine pu_sne ?_)
            refine pu_bneq (by kernel_rfl) ?_
            refine cnd_f (by simp) ?_
            refine cnd_f rfl ?_
            unfold linesmanlaw12_StackHolds.k0
            have hz : Ow B wh (s1.hp p ++ R0) := by
              have := Ow.drop (Ow.drop (Ow.drop hwh))
              exact this.sub ((List.Sublist.refl _).append (List.sublist_append_right _ _))
            repeat (first | refine pu_not ?_ | refine pu_eql ?_ | refine pu_neq ?_ | refine pu_lss ?_ | refine pu_leq ?_ | refine pu_gtr ?_ | refine pu_geq ?_ | refine pu_add ?_ | refine pu_sub ?_ | refine pu_mul ?_ | refine pu_neg ?_ | refine fa_at ?_ | refine nl_ptr ?_ | refine ex20 ?_ | refine ex21 ?_ | refine ex30 ?_ | refine ex31 ?_ | refine ex32 ?_ | refine ln_rule ?_ | refine lnT_rule ?_ | refine pu_and ?_ | refine pu_or ?_ | refine pu_xor ?_ | refine pu_seq ?_ | refine pu_sne ?_)
            rw [wrap64_in (by omega) (by omega)]
            exact ⟨⟨n + 1, s1, rfl, hlt, rfl, hs1, hI1, by omega, hz⟩, by simp; omega⟩
          | cons t1 lo1 =>
            have hfr1 : s1.frs = t1.m :: lo1.map FE.m := by simp [SK.frs, hes]
            have hlp : 0 < s1.es.length := by rw [hes]; simp
            obtain ⟨f1', hfi⟩ := hI1.fi t1.m (by rw [hfr1]; exact .head _)
            obtain ⟨i1, hi1, _⟩ := good.facts hfi
            refine next_at hs1 hes hFr hfi.hf hi1 hN (fun wa hwa => ?_)
            repeat (first | refine pu_not ?_ | refine pu_eql ?_ | refine pu_neq ?_ | refine pu_lss ?_ | refine pu_leq ?_ | refine pu_gtr ?_ | refine pu_geq ?_ | refine pu_add ?_ | refine pu_sub ?_ | refine pu_mul ?_ | refine pu_neg ?_ | refine fa_at ?_ | refine nl_ptr ?_ | refine ex20 ?_ | refine ex21 ?_ | refine ex30 ?_ | refine ex31 ?_ | refine ex32 ?_ | refine ln_rule ?_ | refine lnT_rule ?_ | refine pu_and ?_ | refine pu_or ?_ | refine pu_xor ?_ | refine pu_seq ?_ | refine pu_sne ?_)
            refine al_rule hwa (l := (bare 0).cells) zins (fun ba wb hwb => ?_)
            refine al_rule hwb (l := [vI 0, vI 0]) (by kernel_rfl) (fun bb wc hwc => ?_)
            refine st_here (A := [_]) hwc i1.cells rfl rfl (ins_plain _) (by simp [Ins.cells]) (fun wd hwd => ?_)
            have e5 : ∀ i : Ins, (bare 0).cells.take 0 ++ i.cells ++ (bare 0).cells.drop (0 + 5) = i.cells := fun i => rfl
            rw [e5] at hwd
            refine st_here (A := []) hwd [vI t1.m.fn, vI t1.m.pc] rfl rfl rfl (by simp) (fun we hwe => ?_)
            repeat (first | refine pu_not ?_ | refine pu_eql ?_ | refine pu_neq ?_ | refine pu_lss ?_ | refine pu_leq ?_ | refine pu_gtr ?_ | refine pu_geq ?_ | refine pu_add ?_ | refine pu_sub ?_ | refine pu_mul ?_ | refine pu_neg ?_ | refine fa_at ?_ | refine nl_ptr ?_ | refine ex20 ?_ | refine ex21 ?_ | refine ex30 ?_ | refine ex31 ?_ | refine ex32 ?_ | refine ln_rule ?_ | refine lnT_rule ?_ | refine pu_and ?_ | refine pu_or ?_ | refine pu_xor ?_ | refine pu_seq ?_ | refine pu_sne ?_)
            refine ldn_here hwe (.tail _ (.tail _ (List.mem_append_right _ (List.mem_append_right _ m2r)))) (vs := p.cells v) rfl rfl ?_
            refine ldn_here hwe (.head _) (vs := [vI t1.m.fn, vI t1.m.pc]) rfl rfl ?_
            refine refAt_spec (n := t1.m.fn) (m := t1.m.pc) hv (fun y hy => .tail _ (.tail _ (List.mem_append_right _ (List.mem_append_right _ (hH0 y hy))))) hwe (fun r e wf hre hwf => ?_)
            obtain ⟨rfl, rfl⟩ := hre _ _ hfi.hf hi1
            repeat (first | refine pu_not ?_ | refine pu_eql ?_ | refine pu_neq ?_ | refine pu_lss ?_ | refine pu_leq ?_ | refine pu_gtr ?_ | refine pu_geq ?_ | refine pu_add ?_ | refine pu_sub ?_ | refine pu_mul ?_ | refine pu_neg ?_ | refine fa_at ?_ | refine nl_ptr ?_ | refine ex20 ?_ | refine ex21 ?_ | refine ex30 ?_ | refine ex31 ?_ | refine ex32 ?_ | refine ln_rule ?_ | refine lnT_rule ?_ | refine pu_and ?_ | refine pu_or ?_ | refine pu_xor ?_ | refine pu_seq ?_ | refine pu_sne ?_)
            refine al_rule hwf (l := (bare 0).cells) zins (fun bc wg hwg => ?_)
            refine st_here (A := []) hwg r.cells rfl rfl (ins_plain _) (by simp [Ins.cells]) (fun wh hwh => ?_)
            rw [e5] at hwh
            repeat (first | refine pu_not ?_ | refine pu_eql ?_ | refine pu_neq ?_ | refine pu_lss ?_ | refine pu_leq ?_ | refine pu_gtr ?_ | refine pu_geq ?_ | refine pu_add ?_ | refine pu_sub ?_ | refine pu_mul ?_ | refine pu_neg ?_ | refine fa_at ?_ | refine nl_ptr ?_ | refine ex20 ?_ | refine ex21 ?_ | refine ex30 ?_ | refine ex31 ?_ | refine ex32 ?_ | refine ln_rule ?_ | refine lnT_rule ?_ | refine pu_and ?_ | refine pu_or ?_ | refine pu_xor ?_ | refine pu_seq ?_ | refine pu_sne ?_)
            refine pu_bneq (by kernel_rfl) ?_
            refine cnd_f (by simp) ?_
            refine cnd_t rfl ?_
            repeat (first | refine pu_not ?_ | refine pu_eql ?_ | refine pu_neq ?_ | refine pu_lss ?_ | refine pu_leq ?_ | refine pu_gtr ?_ | refine pu_geq ?_ | refine pu_add ?_ | refine pu_sub ?_ | refine pu_mul ?_ | refine pu_neg ?_ | refine fa_at ?_ | refine nl_ptr ?_ | refine ex20 ?_ | refine ex21 ?_ | refine ex30 ?_ | refine ex31 ?_ | refine ex32 ?_ | refine ln_rule ?_ | refine lnT_rule ?_ | refine pu_and ?_ | refine pu_or ?_ | refine pu_xor ?_ | refine pu_seq ?_ | refine pu_sne ?_)
            refine cnd_f rfl ?_
            refine ldn_here hwh (.tail _ (.tail _ (.head _))) (vs := r.cells) rfl rfl ?_
            refine ldn_here hwh (.head _) (vs := r.cells) rfl rfl ?_
            refine pu_aneq (by kernel_rfl) (eq_ins _ _) ?_
            refine cnd_f (by simp) ?_
            unfold linesmanlaw12_StackHolds.k0
            have hz : Ow B wh (s1.hp p ++ R0) := by
              have := Ow.drop (Ow.drop (Ow.drop hwh))
              exact this.sub ((List.Sublist.refl _).append (List.sublist_append_right _ _))
            repeat (first | refine pu_not ?_ | refine pu_eql ?_ | refine pu_neq ?_ | refine pu_lss ?_ | refine pu_leq ?_ | refine pu_gtr ?_ | refine pu_geq ?_ | refine pu_add ?_ | refine pu_sub ?_ | refine pu_mul ?_ | refine pu_neg ?_ | refine fa_at ?_ | refine nl_ptr ?_ | refine ex20 ?_ | refine ex21 ?_ | refine ex30 ?_ | refine ex31 ?_ | refine ex32 ?_ | refine ln_rule ?_ | refine lnT_rule ?_ | refine pu_and ?_ | refine pu_or ?_ | refine pu_xor ?_ | refine pu_seq ?_ | refine pu_sne ?_)
            rw [wrap64_in (by omega) (by omega)]
            exact ⟨⟨n + 1, s1, rfl, hlt, rfl, hs1, hI1, by omega, hz⟩, by simp; omega⟩
  · refine ⟨fun w => Ow B w (s.hp p ++ (sc.hp p ++ R0)), h7.drew, ?_⟩
    refine sls_flds (fun w h => h) (hxs.mono fun y hy => List.mem_append_right _ (List.mem_append_right _ (hH0 y hy))) (by omega) hat (j := 2) (v := vI ar) rfl ?_
    refine sls_flds (fun w h => h) (hxs.mono fun y hy => List.mem_append_right _ (List.mem_append_right _ (hH0 y hy))) (by omega) hat (j := 3) (v := vU ad) rfl ?_
    refine pass_spec hs hFr (good.safeL hI) h7.drew (fun s1 w8 hsb1 _ hr1 hf1 hs1 h9 => ?_)
    have hpl := pass_len (p := p) (reg := ar) (word := ad) (l := s.frs)
    have hI1 : Inv p s1.frs := by rw [hf1]; exact hI.pass good hadu
    have hsame : (passF p ar ad s.frs).1 ≠ 0 → s1.frs = s.frs ∧ s1.res = s.res := fun hne => ⟨by rw [hf1]; exact hpl.2 hne, hr1⟩
    have hl1 : s1.es.length = s.es.length := by rw [SK.es_len, SK.es_len, hf1]; exact hpl.1
    have hm1 : s1.es.length ≤ s.es.length + 1 := by omega
    have hm2 : s.es.length ≤ s1.es.length + 1 := by omega
    have hm3 : s1.es.length ≤ s.es.length ∨ (s1.es.length : Int) ≤ am := .inl (by omega)
    obtain ⟨er, her⟩ : ∃ er, (passF p ar ad s.frs).1 = er := ⟨_, rfl⟩
    rw [her] at hsame ⊢
    rw [← hsb1]
    refine depth_spec hs1 h9 (.head _) ?_
    refine num12_spec h9 (fun w10 h10 => ?_)
    repeat (first | refine pu_not ?_ | refine pu_eql ?_ | refine pu_neq ?_ | refine pu_lss ?_ | refine pu_leq ?_ | refine pu_gtr ?_ | refine pu_geq ?_ | refine pu_add ?_ | refine pu_sub ?_ | refine pu_mul ?_ | refine pu_neg ?_ | refine fa_at ?_ | refine nl_ptr ?_ | refine ex20 ?_ | refine ex21 ?_ | refine ex30 ?_ | refine ex31 ?_ | refine ex32 ?_ | refine ln_rule ?_ | refine lnT_rule ?_ | refine pu_and ?_ | refine pu_or ?_ | refine pu_xor ?_ | refine pu_seq ?_ | refine pu_sne ?_)
    refine cnd (fun hne => ?_) (fun hne => ?_)
    · have hne : er ≠ 0 := by simpa using hne
      obtain ⟨hfe, hre⟩ := hsame hne
      refine ssame_spec hs1 hcs (by rw [hfe]; exact hrg) (by rw [hcf]; exact hrg) h10 (fun y hy => List.mem_append_left _ hy) (fun y hy => List.mem_append_right _ (List.mem_append_left _ hy)) (fun y hy => List.mem_append_right _ (List.mem_append_right _ (hF0 y hy))) (fun y hy => List.mem_append_right _ (List.mem_append_right _ (hF0 y hy))) (fun w11 hN => ?_)
      repeat (first | refine pu_not ?_ | refine pu_eql ?_ | refine pu_neq ?_ | refine pu_lss ?_ | refine pu_leq ?_ | refine pu_gtr ?_ | refine pu_geq ?_ | refine pu_add ?_ | refine pu_sub ?_ | refine pu_mul ?_ | refine pu_neg ?_ | refine fa_at ?_ | refine nl_ptr ?_ | refine ex20 ?_ | refine ex21 ?_ | refine ex30 ?_ | refine ex31 ?_ | refine ex32 ?_ | refine ln_rule ?_ | refine lnT_rule ?_ | refine pu_and ?_ | refine pu_or ?_ | refine pu_xor ?_ | refine pu_seq ?_ | refine pu_sne ?_)
      refine cnd_f (by rw [hre, hcr, hfe, hcf]; simp) ?_
      repeat (first | refine pu_not ?_ | refine pu_eql ?_ | refine pu_neq ?_ | refine pu_lss ?_ | refine pu_leq ?_ | refine pu_gtr ?_ | refine pu_geq ?_ | refine pu_add ?_ | refine pu_sub ?_ | refine pu_mul ?_ | refine pu_neg ?_ | refine fa_at ?_ | refine nl_ptr ?_ | refine ex20 ?_ | refine ex21 ?_ | refine ex30 ?_ | refine ex31 ?_ | refine ex32 ?_ | refine ln_rule ?_ | refine lnT_rule ?_ | refine pu_and ?_ | refine pu_or ?_ | refine pu_xor ?_ | refine pu_seq ?_ | refine pu_sne ?_)
      rw [wrap64_in (by omega) (by omega)]
      refine cnd_f (by simp; omega) ?_
      repeat (first | refine pu_not ?_ | refine pu_eql ?_ | refine pu_neq ?_ | refine pu_lss ?_ | refine pu_leq ?_ | refine pu_gtr ?_ | refine pu_geq ?_ | refine pu_add ?_ | refine pu_sub ?_ | refine pu_mul ?_ | refine pu_neg ?_ | refine fa_at ?_ | refine nl_ptr ?_ | refine ex20 ?_ | refine ex21 ?_ | refine ex30 ?_ | refine ex31 ?_ | refine ex32 ?_ | refine ln_rule ?_ | refine lnT_rule ?_ | refine pu_and ?_ | refine pu_or ?_ | refine pu_xor ?_ | refine pu_seq ?_ | refine pu_sne ?_)
      rw [wrap64_in (by omega) (by omega)]
      refine cnd_f (by simp; omega) ?_
      refine pu_max2 ?_
      repeat (first | refine pu_not ?_ | refine pu_eql ?_ | refine pu_neq ?_ | refine pu_lss ?_ | refine pu_leq ?_ | refine pu_gtr ?_ | refine pu_geq ?_ | refine pu_add ?_ | refine pu_sub ?_ | refine pu_mul ?_ | refine pu_neg ?_ | refine fa_at ?_ | refine nl_ptr ?_ | refine ex20 ?_ | refine ex21 ?_ | refine ex30 ?_ | refine ex31 ?_ | refine ex32 ?_ | refine ln_rule ?_ | refine lnT_rule ?_ | refine pu_and ?_ | refine pu_or ?_ | refine pu_xor ?_ | refine pu_seq ?_ | refine pu_sne ?_)
      refine cnd (fun hmx => ?_) (fun hmx => ?_)
      · have hmx : (s1.es.length : Int) ≤ am := by
          have hgt : s.es.length < s1.es.length := by
            simp only [decide_eq_true_eq] at hmx
            split at hmx <;> omega
          rcases hm3 with h | h <;> omega
        refine ga (R1 := s1.hp p ++ sc.hp p) (j := 1) (by rw [List.append_assoc]; exact hN) rfl ?_
        repeat (first | refine pu_not ?_ | refine pu_eql ?_ | refine pu_neq ?_ | refine pu_lss ?_ | refine pu_leq ?_ | refine pu_gtr ?_ | refine pu_geq ?_ | refine pu_add ?_ | refine pu_sub ?_ | refine pu_mul ?_ | refine pu_neg ?_ | refine fa_at ?_ | refine nl_ptr ?_ | refine ex20 ?_ | refine ex21 ?_ | refine ex30 ?_ | refine ex31 ?_ | refine ex32 ?_ | refine ln_rule ?_ | refine lnT_rule ?_ | refine pu_and ?_ | refine pu_or ?_ | refine pu_xor ?_ | refine pu_seq ?_ | refine pu_sne ?_)
        refine cnd_f (by simp; omega) ?_
        cases hes : s1.es with
        | nil =>
          have hl0 : s1.frs.length = 0 := by rw [← SK.es_len, hes]; rfl
          refine next_end hs1 hes hN (.head _) (fun wa hwa => ?_)
          unfold zeroNext
          repeat (first | refine pu_not ?_ | refine pu_eql ?_ | refine pu_neq ?_ | refine pu_lss ?_ | refine pu_leq ?_ | refine pu_gtr ?_ | refine pu_geq ?_ | refine pu_add ?_ | refine pu_sub ?_ | refine pu_mul ?_ | refine pu_neg ?_ | refine fa_at ?_ | refine nl_ptr ?_ | refine ex20 ?_ | refine ex21 ?_ | refine ex30 ?_ | refine ex31 ?_ | refine ex32 ?_ | refine ln_rule ?_ | refine lnT_rule ?_ | refine pu_and ?_ | refine pu_or ?_ | refine pu_xor ?_ | refine pu_seq ?_ | refine pu_sne ?_)
          refine al_rule hwa (l := (bare 0).cells) zins (fun ba wb hwb => ?_)
          refine al_rule hwb (l := [vI 0, vI 0]) (by kernel_rfl) (fun bb wc hwc => ?_)
          refine st_here (A := [_]) hwc (bare 0).cells rfl rfl (ins_plain _) (by simp [Ins.cells]) (fun wd hwd => ?_)
          refine st_here (A := []) hwd [vI 0, vI 0] rfl rfl rfl (by simp) (fun we hwe => ?_)
          repeat (first | refine pu_not ?_ | refine pu_eql ?_ | refine pu_neq ?_ | refine pu_lss ?_ | refine pu_leq ?_ | refine pu_gtr ?_ | refine pu_geq ?_ | refine pu_add ?_ | refine pu_sub ?_ | refine pu_mul ?_ | refine pu_neg ?_ | refine fa_at ?_ | refine nl_ptr ?_ | refine ex20 ?_ | refine ex21 ?_ | refine ex30 ?_ | refine ex31 ?_ | refine ex32 ?_ | refine ln_rule ?_ | refine lnT_rule ?_ | refine pu_and ?_ | refine pu_or ?_ | refine pu_xor ?_ | refine pu_seq ?_ | refine pu_sne ?_)
          refine ldn_here hwe (.tail _ (.tail _ (List.mem_append_right _ (List.mem_append_right _ m2r)))) (vs := p.cells v) rfl rfl ?_
          refine ldn_here hwe (.head _) (vs := [vI (0 : Nat), vI (0 : Nat)]) rfl rfl ?_
          refine refAt_spec (n := 0) (m := 0) hv (fun y hy => .tail _ (.tail _ (List.mem_append_right _ (List.mem_append_right _ (hH0 y hy))))) hwe (fun r e wf _ hwf => ?_)
          repeat (first | refine pu_not ?_ | refine pu_eql ?_ | refine pu_neq ?_ | refine pu_lss ?_ | refine pu_leq ?_ | refine pu_gtr ?_ | refine pu_geq ?_ | refine pu_add ?_ | refine pu_sub ?_ | refine pu_mul ?_ | refine pu_neg ?_ | refine fa_at ?_ | refine nl_ptr ?_ | refine ex20 ?_ | refine ex21 ?_ | refine ex30 ?_ | refine ex31 ?_ | refine ex32 ?_ | refine ln_rule ?_ | refine lnT_rule ?_ | refine pu_and ?_ | refine pu_or ?_ | refine pu_xor ?_ | refine pu_seq ?_ | refine pu_sne ?_)
          refine al_rule hwf (l := (bare 0).cells) zins (fun bc wg hwg => ?_)
          refine st_here (A := []) hwg r.cells rfl rfl (ins_plain _) (by simp [Ins.cells]) (fun wh hwh => ?_)
          repeat (first | refine pu_not ?_ | refine pu_eql ?_ | refine pu_neq ?_ | refine pu_lss ?_ | refine pu_leq ?_ | refine pu_gtr ?_ | refine pu_geq ?_ | refine pu_add ?_ | refine pu_sub ?_ | refine pu_mul ?_ | refine pu_neg ?_ | refine fa_at ?_ | refine nl_ptr ?_ | refine ex20 ?_ | refine ex21 ?_ | refine ex30 ?_ | refine ex31 ?_ | refine ex32 ?_ | refine ln_rule ?_ | refine lnT_rule ?_ | refine pu_and ?_ | refine pu_or ?_ | refine pu_xor ?_ | refine pu_seq ?_ | refine pu_sne ?_)
          refine pu_bneq (by kernel_rfl) ?_
          refine cnd_f (by simp) ?_
          refine cnd_f rfl ?_
          unfold linesmanlaw12_StackHolds.k0
          have hz : Ow B wh (s1.hp p ++ R0) := by
            have := Ow.drop (Ow.drop (Ow.drop hwh))
            exact this.sub ((List.Sublist.refl _).append (List.sublist_append_right _ _))
          repeat (first | refine pu_not ?_ | refine pu_eql ?_ | refine pu_neq ?_ | refine pu_lss ?_ | refine pu_leq ?_ | refine pu_gtr ?_ | refine pu_geq ?_ | refine pu_add ?_ | refine pu_sub ?_ | refine pu_mul ?_ | refine pu_neg ?_ | refine fa_at ?_ | refine nl_ptr ?_ | refine ex20 ?_ | refine ex21 ?_ | refine ex30 ?_ | refine ex31 ?_ | refine ex32 ?_ | refine ln_rule ?_ | refine lnT_rule ?_ | refine pu_and ?_ | refine pu_or ?_ | refine pu_xor ?_ | refine pu_seq ?_ | refine pu_sne ?_)
          rw [wrap64_in (by omega) (by omega)]
          exact ⟨⟨n + 1, s1, rfl, hlt, rfl, hs1, hI1, by omega, hz⟩, by simp; omega⟩
        | cons t1 lo1 =>
          have hfr1 : s1.frs = t1.m :: lo1.map FE.m := by simp [SK.frs, hes]
          have hlp : 0 < s1.es.length := by rw [hes]; simp
          obtain ⟨f1', hfi⟩ := hI1.fi t1.m (by rw [hfr1]; exact .head _)
          obtain ⟨i1, hi1, _⟩ := good.facts hfi
          refine next_at hs1 hes hFr hfi.hf hi1 hN (fun wa hwa => ?_)
          repeat (first | refine pu_not ?_ | refine pu_eql ?_ | refine pu_neq ?_ | refine pu_lss ?_ | refine pu_leq ?_ | refine pu_gtr ?_ | refine pu_geq ?_ | refine pu_add ?_ | refine pu_sub ?_ | refine pu_mul ?_ | refine pu_neg ?_ | refine fa_at ?_ | refine nl_ptr ?_ | refine ex20 ?_ | refine ex21 ?_ | refine ex30 ?_ | refine ex31 ?_ | refine ex32 ?_ | refine ln_rule ?_ | refine lnT_rule ?_ | refine pu_and ?_ | refine pu_or ?_ | refine pu_xor ?_ | refine pu_seq ?_ | refine pu_sne ?_)
          refine al_rule hwa (l := (bare 0).cells) zins (fun ba wb hwb => ?_)
          refine al_rule hwb (l := [vI 0, vI 0]) (by kernel_rfl) (fun bb wc hwc => ?_)
          refine st_here (A := [_]) hwc i1.cells rfl rfl (ins_plain _) (by simp [Ins.cells]) (fun wd hwd => ?_)
          have e5 : ∀ i : Ins, (bare 0).cells.take 0 ++ i.cells ++ (bare 0).cells.drop (0 + 5) = i.cells := fun i => rfl
          rw [e5] at hwd
          refine st_here (A := []) hwd [vI t1.m.fn, vI t1.m.pc] rfl rfl rfl (by simp) (fun we hwe => ?_)
          repeat (first | refine pu_not ?_ | refine pu_eql ?_ | refine pu_neq ?_ | refine pu_lss ?_ | refine pu_leq ?_ | refine pu_gtr ?_ | refine pu_geq ?_ | refine pu_add ?_ | refine pu_sub ?_ | refine pu_mul ?_ | refine pu_neg ?_ | refine fa_at ?_ | refine nl_ptr ?_ | refine ex20 ?_ | refine ex21 ?_ | refine ex30 ?_ | refine ex31 ?_ | refine ex32 ?_ | refine ln_rule ?_ | refine lnT_rule ?_ | refine pu_and ?_ | refine pu_or ?_ | refine pu_xor ?_ | refine pu_seq ?_ | refine pu_sne ?_)
          refine ldn_here hwe (.tail _ (.tail _ (List.mem_append_right _ (List.mem_append_right _ m2r)))) (vs := p.cells v) rfl rfl ?_
          refine ldn_here hwe (.head _) (vs := [vI t1.m.fn, vI t1.m.pc]) rfl rfl ?_
          refine refAt_spec (n := t1.m.fn) (m := t1.m.pc) hv (fun y hy => .tail _ (.tail _ (List.mem_append_right _ (List.mem_append_right _ (hH0 y hy))))) hwe (fun r e wf hre hwf => ?_)
          obtain ⟨rfl, rfl⟩ := hre _ _ hfi.hf hi1
          repeat (first | refine pu_not ?_ | refine pu_eql ?_ | refine pu_neq ?_ | refine pu_lss ?_ | refine pu_leq ?_ | refine pu_gtr ?_ | refine pu_geq ?_ | refine pu_add ?_ | refine pu_sub ?_ | refine pu_mul ?_ | refine pu_neg ?_ | refine fa_at ?_ | refine nl_ptr ?_ | refine ex20 ?_ | refine ex21 ?_ | refine ex30 ?_ | refine ex31 ?_ | refine ex32 ?_ | refine ln_rule ?_ | refine lnT_rule ?_ | refine pu_and ?_ | refine pu_or ?_ | refine pu_xor ?_ | refine pu_seq ?_ | refine pu_sne ?_)
          refine al_rule hwf (l := (bare 0).cells) zins (fun bc wg hwg => ?_)
          refine st_here (A := []) hwg r.cells rfl rfl (ins_plain _) (by simp [Ins.cells]) (fun wh hwh => ?_)
          rw [e5] at hwh
          repeat (first | refine pu_not ?_ | refine pu_eql ?_ | refine pu_neq ?_ | refine pu_lss ?_ | refine pu_leq ?_ | refine pu_gtr ?_ | refine pu_geq ?_ | refine pu_add ?_ | refine pu_sub ?_ | refine pu_mul ?_ | refine pu_neg ?_ | refine fa_at ?_ | refine nl_ptr ?_ | refine ex20 ?_ | refine ex21 ?_ | refine ex30 ?_ | refine ex31 ?_ | refine ex32 ?_ | refine ln_rule ?_ | refine lnT_rule ?_ | refine pu_and ?_ | refine pu_or ?_ | refine pu_xor ?_ | refine pu_seq ?_ | refine pu_sne ?_)
          refine pu_bneq (by kernel_rfl) ?_
          refine cnd_f (by simp) ?_
          refine cnd_t rfl ?_
          repeat (first | refine pu_not ?_ | refine pu_eql ?_ | refine pu_neq ?_ | refine pu_lss ?_ | refine pu_leq ?_ | refine pu_gtr ?_ | refine pu_geq ?_ | refine pu_add ?_ | refine pu_sub ?_ | refine pu_mul ?_ | refine pu_neg ?_ | refine fa_at ?_ | refine nl_ptr ?_ | refine ex20 ?_ | refine ex21 ?_ | refine ex30 ?_ | refine ex31 ?_ | refine ex32 ?_ | refine ln_rule ?_ | refine lnT_rule ?_ | refine pu_and ?_ | refine pu_or ?_ | refine pu_xor ?_ | refine pu_seq ?_ | refine pu_sne ?_)
          refine cnd_f rfl ?_
          refine ldn_here hwh (.tail _ (.tail _ (.head _))) (vs := r.cells) rfl rfl ?_
          refine ldn_here hwh (.head _) (vs := r.cells) rfl rfl ?_
          refine pu_aneq (by kernel_rfl) (eq_ins _ _) ?_
          refine cnd_f (by simp) ?_
          unfold linesmanlaw12_StackHolds.k0
          have hz : Ow B wh (s1.hp p ++ R0) := by
            have := Ow.drop (Ow.drop (Ow.drop hwh))
            exact this.sub ((List.Sublist.refl _).append (List.sublist_append_right _ _))
          repeat (first | refine pu_not ?_ | refine pu_eql ?_ | refine pu_neq ?_ | refine pu_lss ?_ | refine pu_leq ?_ | refine pu_gtr ?_ | refine pu_geq ?_ | refine pu_add ?_ | refine pu_sub ?_ | refine pu_mul ?_ | refine pu_neg ?_ | refine fa_at ?_ | refine nl_ptr ?_ | refine ex20 ?_ | refine ex21 ?_ | refine ex30 ?_ | refine ex31 ?_ | refine ex32 ?_ | refine ln_rule ?_ | refine lnT_rule ?_ | refine pu_and ?_ | refine pu_or ?_ | refine pu_xor ?_ | refine pu_seq ?_ | refine pu_sne ?_)
          rw [wrap64_in (by omega) (by omega)]
          exact ⟨⟨n + 1, s1, rfl, hlt, rfl, hs1, hI1, by omega, hz⟩, by simp; omega⟩
      · cases hes : s1.es with
        | nil =>
          have hl0 : s1.frs.length = 0 := by rw [← SK.es_len, hes]; rfl
          refine next_end hs1 hes hN (.head _) (fun wa hwa => ?_)
          unfold zeroNext
          repeat (first | refine pu_not ?_ | refine pu_eql ?_ | refine pu_neq ?_ | refine pu_lss ?_ | refine pu_leq ?_ | refine pu_gtr ?_ | refine pu_geq ?_ | refine pu_add ?_ | refine pu_sub ?_ | refine pu_mul ?_ | refine pu_neg ?_ | refine fa_at ?_ | refine nl_ptr ?_ | refine ex20 ?_ | refine ex21 ?_ | refine ex30 ?_ | refine ex31 ?_ | refine ex32 ?_ | refine ln_rule ?_ | refine lnT_rule ?_ | refine pu_and ?_ | refine pu_or ?_ | refine pu_xor ?_ | refine pu_seq ?_ | refine pu_sne ?_)
          refine al_rule hwa (l := (bare 0).cells) zins (fun ba wb hwb => ?_)
          refine al_rule hwb (l := [vI 0, vI 0]) (by kernel_rfl) (fun bb wc hwc => ?_)
          refine st_here (A := [_]) hwc (bare 0).cells rfl rfl (ins_plain _) (by simp [Ins.cells]) (fun wd hwd => ?_)
          refine st_here (A := []) hwd [vI 0, vI 0] rfl rfl rfl (by simp) (fun we hwe => ?_)
          repeat (first | refine pu_not ?_ | refine pu_eql ?_ | refine pu_neq ?_ | refine pu_lss ?_ | refine pu_leq ?_ | refine pu_gtr ?_ | refine pu_geq ?_ | refine pu_add ?_ | refine pu_sub ?_ | refine pu_mul ?_ | refine pu_neg ?_ | refine fa_at ?_ | refine nl_ptr ?_ | refine ex20 ?_ | refine ex21 ?_ | refine ex30 ?_ | refine ex31 ?_ | refine ex32 ?_ | refine ln_rule ?_ | refine lnT_rule ?_ | refine pu_and ?_ | refine pu_or ?_ | refine pu_xor ?_ | refine pu_seq ?_ | refine pu_sne ?_)
          refine ldn_here hwe (.tail _ (.tail _ (List.mem_append_right _ (List.mem_append_right _ m2r)))) (vs := p.cells v) rfl rfl ?_
          refine ldn_here hwe (.head _) (vs := [vI (0 : Nat), vI (0 : Nat)]) rfl rfl ?_
          refine refAt_spec (n := 0) (m := 0) hv (fun y hy => .tail _ (.tail _ (List.mem_append_right _ (List.mem_append_right _ (hH0 y hy))))) hwe (fun r e wf _ hwf => ?_)
          repeat (first | refine pu_not ?_ | refine pu_eql ?_ | refine pu_neq ?_ | refine pu_lss ?_ | refine pu_leq ?_ | refine pu_gtr ?_ | refine pu_geq ?_ | refine pu_add ?_ | refine pu_sub ?_ | refine pu_mul ?_ | refine pu_neg ?_ | refine fa_at ?_ | refine nl_ptr ?_ | refine ex20 ?_ | refine ex21 ?_ | refine ex30 ?_ | refine ex31 ?_ | refine ex32 ?_ | refine ln_rule ?_ | refine lnT_rule ?_ | refine pu_and ?_ | refine pu_or ?_ | refine pu_xor ?_ | refine pu_seq ?_ | refine pu_sne ?_)
          refine al_rule hwf (l := (bare 0).cells) zins (fun bc wg hwg => ?_)
          refine st_here (A := []) hwg r.cells rfl rfl (ins_plain _) (by simp [Ins.cells]) (fun wh hwh => ?_)
          repeat (first | refine pu_not ?_ | refine pu_eql ?_ | refine pu_neq ?_ | refine pu_lss ?_ | refine pu_leq ?_ | refine pu_gtr ?_ | refine pu_geq ?_ | refine pu_add ?_ | refine pu_sub ?_ | refine pu_mul ?_ | refine pu_neg ?_ | refine fa_at ?_ | refine nl_ptr ?_ | refine ex20 ?_ | refine ex21 ?_ | refine ex30 ?_ | refine ex31 ?_ | refine ex32 ?_ | refine ln_rule ?_ | refine lnT_rule ?_ | refine pu_and ?_ | refine pu_or ?_ | refine pu_xor ?_ | refine pu_seq ?_ | refine pu_sne ?_)
          refine pu_bneq (by kernel_rfl) ?_
          refine cnd_f (by simp) ?_
          refine cnd_f rfl ?_
          unfold linesmanlaw12_StackHolds.k0
          have hz : Ow B wh (s1.hp p ++ R0) := by
            have := Ow.drop (Ow.drop (Ow.drop hwh))
            exact this.sub ((List.Sublist.refl _).append (List.sublist_append_right _ _))
          repeat (first | refine pu_not ?_ | refine pu_eql ?_ | refine pu_neq ?_ | refine pu_lss ?_ | refine pu_leq ?_ | refine pu_gtr ?_ | refine pu_geq ?_ | refine pu_add ?_ | refine pu_sub ?_ | refine pu_mul ?_ | refine pu_neg ?_ | refine fa_at ?_ | refine nl_ptr ?_ | refine ex20 ?_ | refine ex21 ?_ | refine ex30 ?_ | refine ex31 ?_ | refine ex32 ?_ | refine ln_rule ?_ | refine lnT_rule ?_ | refine pu_and ?_ | refine pu_or ?_ | refine pu_xor ?_ | refine pu_seq ?_ | refine pu_sne ?_)
          rw [wrap64_in (by omega) (by omega)]
          exact ⟨⟨n + 1, s1, rfl, hlt, rfl, hs1, hI1, by omega, hz⟩, by simp; omega⟩
        | cons t1 lo1 =>
          have hfr1 : s1.frs = t1.m :: lo1.map FE.m := by simp [SK.frs, hes]
          have hlp : 0 < s1.es.length := by rw [hes]; simp
          obtain ⟨f1', hfi⟩ := hI1.fi t1.m (by rw [hfr1]; exact .head _)
          obtain ⟨i1, hi1, _⟩ := good.facts hfi
          refine next_at hs1 hes hFr hfi.hf hi1 hN (fun wa hwa => ?_)
          repeat (first | refine pu_not ?_ | refine pu_eql ?_ | refine pu_neq ?_ | refine pu_lss ?_ | refine pu_leq ?_ | refine pu_gtr ?_ | refine pu_geq ?_ | refine pu_add ?_ | refine pu_sub ?_ | refine pu_mul ?_ | refine pu_neg ?_ | refine fa_at ?_ | refine nl_ptr ?_ | refine ex20 ?_ | refine ex21 ?_ | refine ex30 ?_ | refine ex31 ?_ | refine ex32 ?_ | refine ln_rule ?_ | refine lnT_rule ?_ | refine pu_and ?_ | refine pu_or ?_ | refine pu_xor ?_ | refine pu_seq ?_ | refine pu_sne ?_)
          refine al_rule hwa (l := (bare 0).cells) zins (fun ba wb hwb => ?_)
          refine al_rule hwb (l := [vI 0, vI 0]) (by kernel_rfl) (fun bb wc hwc => ?_)
          refine st_here (A := [_]) hwc i1.cells rfl rfl (ins_plain _) (by simp [Ins.cells]) (fun wd hwd => ?_)
          have e5 : ∀ i : Ins, (bare 0).cells.take 0 ++ i.cells ++ (bare 0).cells.drop (0 + 5) = i.cells := fun i => rfl
          rw [e5] at hwd
          refine st_here (A := []) hwd [vI t1.m.fn, vI t1.m.pc] rfl rfl rfl (by simp) (fun we hwe => ?_)
          repeat (first | refine pu_not ?_ | refine pu_eql ?_ | refine pu_neq ?_ | refine pu_lss ?_ | refine pu_leq ?_ | refine pu_gtr ?_ | refine pu_geq ?_ | refine pu_add ?_ | refine pu_sub ?_ | refine pu_mul ?_ | refine pu_neg ?_ | refine fa_at ?_ | refine nl_ptr ?_ | refine ex20 ?_ | refine ex21 ?_ | refine ex30 ?_ | refine ex31 ?_ | refine ex32 ?_ | refine ln_rule ?_ | refine lnT_rule ?_ | refine pu_and ?_ | refine pu_or ?_ | refine pu_xor ?_ | refine pu_seq ?_ | refine pu_sne ?_)
          refine ldn_here hwe (.tail _ (.tail _ (List.mem_append_right _ (List.mem_append_right _ m2r)))) (vs := p.cells v) rfl rfl ?_
          refine ldn_here hwe (.head _) (vs := [vI t1.m.fn, vI t1.m.pc]) rfl rfl ?_
          refine refAt_spec (n := t1.m.fn) (m := t1.m.pc) hv (fun y hy => .tail _ (.tail _ (List.mem_append_right _ (List.mem_append_right _ (hH0 y hy))))) hwe (fun r e wf hre hwf => ?_)
          obtain ⟨rfl, rfl⟩ := hre _ _ hfi.hf hi1
          repeat (first | refine pu_not ?_ | refine pu_eql ?_ | refine pu_neq ?_ | refine pu_lss ?_ | refine pu_leq ?_ | refine pu_gtr ?_ | refine pu_geq ?_ | refine pu_add ?_ | refine pu_sub ?_ | refine pu_mul ?_ | refine pu_neg ?_ | refine fa_at ?_ | refine nl_ptr ?_ | refine ex20 ?_ | refine ex21 ?_ | refine ex30 ?_ | refine ex31 ?_ | refine ex32 ?_ | refine ln_rule ?_ | refine lnT_rule ?_ | refine pu_and ?_ | refine pu_or ?_ | refine pu_xor ?_ | refine pu_seq ?_ | refine pu_sne ?_)
          refine al_rule hwf (l := (bare 0).cells) zins (fun bc wg hwg => ?_)
          refine st_here (A := []) hwg r.cells rfl rfl (ins_plain _) (by simp [Ins.cells]) (fun wh hwh => ?_)
          rw [e5] at hwh
          repeat (first | refine pu_not ?_ | refine pu_eql ?_ | refine pu_neq ?_ | refine pu_lss ?_ | refine pu_leq ?_ | refine pu_gtr ?_ | refine pu_geq ?_ | refine pu_add ?_ | refine pu_sub ?_ | refine pu_mul ?_ | refine pu_neg ?_ | refine fa_at ?_ | refine nl_ptr ?_ | refine ex20 ?_ | refine ex21 ?_ | refine ex30 ?_ | refine ex31 ?_ | refine ex32 ?_ | refine ln_rule ?_ | refine lnT_rule ?_ | refine pu_and ?_ | refine pu_or ?_ | refine pu_xor ?_ | refine pu_seq ?_ | refine pu_sne ?_)
          refine pu_bneq (by kernel_rfl) ?_
          refine cnd_f (by simp) ?_
          refine cnd_t rfl ?_
          repeat (first | refine pu_not ?_ | refine pu_eql ?_ | refine pu_neq ?_ | refine pu_lss ?_ | refine pu_leq ?_ | refine pu_gtr ?_ | refine pu_geq ?_ | refine pu_add ?_ | refine pu_sub ?_ | refine pu_mul ?_ | refine pu_neg ?_ | refine fa_at ?_ | refine nl_ptr ?_ | refine ex20 ?_ | refine ex21 ?_ | refine ex30 ?_ | refine ex31 ?_ | refine ex32 ?_ | refine ln_rule ?_ | refine lnT_rule ?_ | refine pu_and ?_ | refine pu_or ?_ | refine pu_xor ?_ | refine pu_seq ?_ | refine pu_sne ?_)
          refine cnd_f rfl ?_
          refine ldn_here hwh (.tail _ (.tail _ (.head _))) (vs := r.cells) rfl rfl ?_
          refine ldn_here hwh (.head _) (vs := r.cells) rfl rfl ?_
          refine pu_aneq (by kernel_rfl) (eq_ins _ _) ?_
          refine cnd_f (by simp) ?_
          unfold linesmanlaw12_StackHolds.k0
          have hz : Ow B wh (s1.hp p ++ R0) := by
            have := Ow.drop (Ow.drop (Ow.drop hwh))
            exact this.sub ((List.Sublist.refl _).append (List.sublist_append_right _ _))
          repeat (first | refine pu_not ?_ | refine pu_eql ?_ | refine pu_neq ?_ | refine pu_lss ?_ | refine pu_leq ?_ | refine pu_gtr ?_ | refine pu_geq ?_ | refine pu_add ?_ | refine pu_sub ?_ | refine pu_mul ?_ | refine pu_neg ?_ | refine fa_at ?_ | refine nl_ptr ?_ | refine ex20 ?_ | refine ex21 ?_ | refine ex30 ?_ | refine ex31 ?_ | refine ex32 ?_ | refine ln_rule ?_ | refine lnT_rule ?_ | refine pu_and ?_ | refine pu_or ?_ | refine pu_xor ?_ | refine pu_seq ?_ | refine pu_sne ?_)
          rw [wrap64_in (by omega) (by omega)]
          exact ⟨⟨n + 1, s1, rfl, hlt, rfl, hs1, hI1, by omega, hz⟩, by simp; omega⟩
    · have hN := h10
      repeat (first | refine pu_not ?_ | refine pu_eql ?_ | refine pu_neq ?_ | refine pu_lss ?_ | refine pu_leq ?_ | refine pu_gtr ?_ | refine pu_geq ?_ | refine pu_add ?_ | refine pu_sub ?_ | refine pu_mul ?_ | refine pu_neg ?_ | refine fa_at ?_ | refine nl_ptr ?_ | refine ex20 ?_ | refine ex21 ?_ | refine ex30 ?_ | refine ex31 ?_ | refine ex32 ?_ | refine ln_rule ?_ | refine lnT_rule ?_ | refine pu_and ?_ | refine pu_or ?_ | refine pu_xor ?_ | refine pu_seq ?_ | refine pu_sne ?_)
      rw [wrap64_in (by omega) (by omega)]
      refine cnd_f (by simp; omega) ?_
      repeat (first | refine pu_not ?_ | refine pu_eql ?_ | refine pu_neq ?_ | refine pu_lss ?_ | refine pu_leq ?_ | refine pu_gtr ?_ | refine pu_geq ?_ | refine pu_add ?_ | refine pu_sub ?_ | refine pu_mul ?_ | refine pu_neg ?_ | refine fa_at ?_ | refine nl_ptr ?_ | refine ex20 ?_ | refine ex21 ?_ | refine ex30 ?_ | refine ex31 ?_ | refine ex32 ?_ | refine ln_rule ?_ | refine lnT_rule ?_ | refine pu_and ?_ | refine pu_or ?_ | refine pu_xor ?_ | refine pu_seq ?_ | refine pu_sne ?_)
      rw [wrap64_in (by omega) (by omega)]
      refine cnd_f (by simp; omega) ?_
      refine pu_max2 ?_
      repeat (first | refine pu_not ?_ | refine pu_eql ?_ | refine pu_neq ?_ | refine pu_lss ?_ | refine pu_leq ?_ | refine pu_gtr ?_ | refine pu_geq ?_ | refine pu_add ?_ | refine pu_sub ?_ | refine pu_mul ?_ | refine pu_neg ?_ | refine fa_at ?_ | refine nl_ptr ?_ | refine ex20 ?_ | refine ex21 ?_ | refine ex30 ?_ | refine ex31 ?_ | refine ex32 ?_ | refine ln_rule ?_ | refine lnT_rule ?_ | refine pu_and ?_ | refine pu_or ?_ | refine pu_xor ?_ | refine pu_seq ?_ | refine pu_sne ?_)
      refine cnd (fun hmx => ?_) (fun hmx => ?_)
      · have hmx : (s1.es.length : Int) ≤ am := by
          have hgt : s.es.length < s1.es.length := by
            simp only [decide_eq_true_eq] at hmx
            split at hmx <;> omega
          rcases hm3 with h | h <;> omega
        refine ga (R1 := s1.hp p ++ sc.hp p) (j := 1) (by rw [List.append_assoc]; exact hN) rfl ?_
        repeat (first | refine pu_not ?_ | refine pu_eql ?_ | refine pu_neq ?_ | refine pu_lss ?_ | refine pu_leq ?_ | refine pu_gtr ?_ | refine pu_geq ?_ | refine pu_add ?_ | refine pu_sub ?_ | refine pu_mul ?_ | refine pu_neg ?_ | refine fa_at ?_ | refine nl_ptr ?_ | refine ex20 ?_ | refine ex21 ?_ | refine ex30 ?_ | refine ex31 ?_ | refine ex32 ?_ | refine ln_rule ?_ | refine lnT_rule ?_ | refine pu_and ?_ | refine pu_or ?_ | refine pu_xor ?_ | refine pu_seq ?_ | refine pu_sne ?_)
        refine cnd_f (by simp; omega) ?_
        cases hes : s1.es with
        | nil =>
          have hl0 : s1.frs.length = 0 := by rw [← SK.es_len, hes]; rfl
          refine next_end hs1 hes hN (.head _) (fun wa hwa => ?_)
          unfold zeroNext
          repeat (first | refine pu_not ?_ | refine pu_eql ?_ | refine pu_neq ?_ | refine pu_lss ?_ | refine pu_leq ?_ | refine pu_gtr ?_ | refine pu_geq ?_ | refine pu_add ?_ | refine pu_sub ?_ | refine pu_mul ?_ | refine pu_neg ?_ | refine fa_at ?_ | refine nl_ptr ?_ | refine ex20 ?_ | refine ex21 ?_ | refine ex30 ?_ | refine ex31 ?_ | refine ex32 ?_ | refine ln_rule ?_ | refine lnT_rule ?_ | refine pu_and ?_ | refine pu_or ?_ | refine pu_xor ?_ | refine pu_seq ?_ | refine pu_sne ?_)
          refine al_rule hwa (l := (bare 0).cells) zins (fun ba wb hwb => ?_)
          refine al_rule hwb (l := [vI 0, vI 0]) (by kernel_rfl) (fun bb wc hwc => ?_)
          refine st_here (A := [_]) hwc (bare 0).cells rfl rfl (ins_plain _) (by simp [Ins.cells]) (fun wd hwd => ?_)
          refine st_here (A := []) hwd [vI 0, vI 0] rfl rfl rfl (by simp) (fun we hwe => ?_)
          repeat (first | refine pu_not ?_ | refine pu_eql ?_ | refine pu_neq ?_ | refine pu_lss ?_ | refine pu_leq ?_ | refine pu_gtr ?_ | refine pu_geq ?_ | refine pu_add ?_ | refine pu_sub ?_ | refine pu_mul ?_ | refine pu_neg ?_ | refine fa_at ?_ | refine nl_ptr ?_ | refine ex20 ?_ | refine ex21 ?_ | refine ex30 ?_ | refine ex31 ?_ | refine ex32 ?_ | refine ln_rule ?_ | refine lnT_rule ?_ | refine pu_and ?_ | refine pu_or ?_ | refine pu_xor ?_ | refine pu_seq ?_ | refine pu_sne ?_)
          refine ldn_here hwe (.tail _ (.tail _ (List.mem_append_right _ (List.mem_append_right _ m2r)))) (vs := p.cells v) rfl rfl ?_
          refine ldn_here hwe (.head _) (vs := [vI (0 : Nat), vI (0 : Nat)]) rfl rfl ?_
          refine refAt_spec (n := 0) (m := 0) hv (fun y hy => .tail _ (.tail _ (List.mem_append_right _ (List.mem_append_right _ (hH0 y hy))))) hwe (fun r e wf _ hwf => ?_)
          repeat (first | refine pu_not ?_ | refine pu_eql ?_ | refine pu_neq ?_ | refine pu_lss ?_ | refine pu_leq ?_ | refine pu_gtr ?_ | refine pu_geq ?_ | refine pu_add ?_ | refine pu_sub ?_ | refine pu_mul ?_ | refine pu_neg ?_ | refine fa_at ?_ | refine nl_ptr ?_ | refine ex20 ?_ | refine ex21 ?_ | refine ex30 ?_ | refine ex31 ?_ | refine ex32 ?_ | refine ln_rule ?_ | refine lnT_rule ?_ | refine pu_and ?_ | refine pu_or ?_ | refine pu_xor ?_ | refine pu_seq ?_ | refine pu_sne ?_)
          refine al_rule hwf (l := (bare 0).cells) zins (fun bc wg hwg => ?_)
          refine st_here (A := []) hwg r.cells rfl rfl (ins_plain _) (by simp [Ins.cells]) (fun wh hwh => ?_)
          repeat (first | refine pu_not ?_ | refine pu_eql ?_ | refine pu_neq ?_ | refine pu_lss ?_ | refine pu_leq ?_ | refine pu_gtr ?_ | refine pu_geq ?_ | refine pu_add ?_ | refine pu_sub ?_ | refine pu_mul ?_ | refine pu_neg ?_ | refine fa_at ?_ | refine nl_ptr ?_ | refine ex20 ?_ | refine ex21 ?_ | refine ex30 ?_ | refine ex31 ?_ | refine ex32 ?_ | refine ln_rule ?_ | refine lnT_rule ?_ | refine pu_and ?_ | refine pu_or ?_ | refine pu_xor ?_ | refine pu_seq ?_ | refine pu_sne ?_)
          refine pu_bneq (by kernel_rfl) ?_
          refine cnd_f (by simp) ?_
          refine cnd_f rfl ?_
          unfold linesmanlaw12_StackHolds.k0
          have hz : Ow B wh (s1.hp p ++ R0) := by
            have := Ow.drop (Ow.drop (Ow.drop hwh))
            exact this.sub ((List.Sublist.refl _).append (List.sublist_append_right _ _))
          repeat (first | refine pu_not ?_ | refine pu_eql ?_ | refine pu_neq ?_ | refine pu_lss ?_ | refine pu_leq ?_ | refine pu_gtr ?_ | refine pu_geq ?_ | refine pu_add ?_ | refine pu_sub ?_ | refine pu_mul ?_ | refine pu_neg ?_ | refine fa_at ?_ | refine nl_ptr ?_ | refine ex20 ?_ | refine ex21 ?_ | refine ex30 ?_ | refine ex31 ?_ | refine ex32 ?_ | refine ln_rule ?_ | refine lnT_rule ?_ | refine pu_and ?_ | refine pu_or ?_ | refine pu_xor ?_ | refine pu_seq ?_ | refine pu_sne ?_)
          rw [wrap64_in (by omega) (by omega)]
          exact ⟨⟨n + 1, s1, rfl, hlt, rfl, hs1, hI1, by omega, hz⟩, by simp; omega⟩
        | cons t1 lo1 =>
          have hfr1 : s1.frs = t1.m :: lo1.map FE.m := by simp [SK.frs, hes]
          have hlp : 0 < s1.es.length := by rw [hes]; simp
          obtain ⟨f1', hfi⟩ := hI1.fi t1.m (by rw [hfr1]; exact .head _)
          obtain ⟨i1, hi1, _⟩ := good.facts hfi
          refine next_at hs1 hes hFr hfi.hf hi1 hN (fun wa hwa => ?_)
          repeat (first | refine pu_not ?_ | refine pu_eql ?_ | refine pu_neq ?_ | refine pu_lss ?_ | refine pu_leq ?_ | refine pu_gtr ?_ | refine pu_geq ?_ | refine pu_add ?_ | refine pu_sub ?_ | refine pu_mul ?_ | refine pu_neg ?_ | refine fa_at ?_ | refine nl_ptr ?_ | refine ex20 ?_ | refine ex21 ?_ | refine ex30 ?_ | refine ex31 ?_ | refine ex32 ?_ | refine ln_rule ?_ | refine lnT_rule ?_ | refine pu_and ?_ | refine pu_or ?_ | refine pu_xor ?_ | refine pu_seq ?_ | refine pu_sne ?_)
          refine al_rule hwa (l := (bare 0).cells) zins (fun ba wb hwb => ?_)
          refine al_rule hwb (l := [vI 0, vI 0]) (by kernel_rfl) (fun bb wc hwc => ?_)
          refine st_here (A := [_]) hwc i1.cells rfl rfl (ins_plain _) (by simp [Ins.cells]) (fun wd hwd => ?_)
          have e5 : ∀ i : Ins, (bare 0).cells.take 0 ++ i.cells ++ (bare 0).cells.drop (0 + 5) = i.cells := fun i => rfl
          rw [e5] at hwd
          refine st_here (A := []) hwd [vI t1.m.fn, vI t1.m.pc] rfl rfl rfl (by simp) (fun we hwe => ?_)
          repeat (first | refine pu_not ?_ | refine pu_eql ?_ | refine pu_neq ?_ | refine pu_lss ?_ | refine pu_leq ?_ | refine pu_gtr ?_ | refine pu_geq ?_ | refine pu_add ?_ | refine pu_sub ?_ | refine pu_mul ?_ | refine pu_neg ?_ | refine fa_at ?_ | refine nl_ptr ?_ | refine ex20 ?_ | refine ex21 ?_ | refine ex30 ?_ | refine ex31 ?_ | refine ex32 ?_ | refine ln_rule ?_ | refine lnT_rule ?_ | refine pu_and ?_ | refine pu_or ?_ | refine pu_xor ?_ | refine pu_seq ?_ | refine pu_sne ?_)
          refine ldn_here hwe (.tail _ (.tail _ (List.mem_append_right _ (List.mem_append_right _ m2r)))) (vs := p.cells v) rfl rfl ?_
          refine ldn_here hwe (.head _) (vs := [vI t1.m.fn, vI t1.m.pc]) rfl rfl ?_
          refine refAt_spec (n := t1.m.fn) (m := t1.m.pc) hv (fun y hy => .tail _ (.tail _ (List.mem_append_right _ (List.mem_append_right _ (hH0 y hy))))) hwe (fun r e wf hre hwf => ?_)
          obtain ⟨rfl, rfl⟩ := hre _ _ hfi.hf hi1
          repeat (first | refine pu_not ?_ | refine pu_eql ?_ | refine pu_neq ?_ | refine pu_lss ?_ | refine pu_leq ?_ | refine pu_gtr ?_ | refine pu_geq ?_ | refine pu_add ?_ | refine pu_sub ?_ | refine pu_mul ?_ | refine pu_neg ?_ | refine fa_at ?_ | refine nl_ptr ?_ | refine ex20 ?_ | refine ex21 ?_ | refine ex30 ?_ | refine ex31 ?_ | refine ex32 ?_ | refine ln_rule ?_ | refine lnT_rule ?_ | refine pu_and ?_ | refine pu_or ?_ | refine pu_xor ?_ | refine pu_seq ?_ | refine pu_sne ?_)
          refine al_rule hwf (l := (bare 0).cells) zins (fun bc wg hwg => ?_)
          refine st_here (A := []) hwg r.cells rfl rfl (ins_plain _) (by simp [Ins.cells]) (fun wh hwh => ?_)
          rw [e5] at hwh
          repeat (first | refine pu_not ?_ | refine pu_eql ?_ | refine pu_neq ?_ | refine pu_lss ?_ | refine pu_leq ?_ | refine pu_gtr ?_ | refine pu_geq ?_ | refine pu_add ?_ | refine pu_sub ?_ | refine pu_mul ?_ | refine pu_neg ?_ | refine fa_at ?_ | refine nl_ptr ?_ | refine ex20 ?_ | refine ex21 ?_ | refine ex30 ?_ | refine ex31 ?_ | refine ex32 ?_ | refine ln_rule ?_ | refine lnT_rule ?_ | refine pu_and ?_ | refine pu_or ?_ | refine pu_xor ?_ | refine pu_seq ?_ | refine pu_sne ?_)
          refine pu_bneq (by kernel_rfl) ?_
          refine cnd_f (by simp) ?_
          refine cnd_t rfl ?_
          repeat (first | refine pu_not ?_ | refine pu_eql ?_ | refine pu_neq ?_ | refine pu_lss ?_ | refine pu_leq ?_ | refine pu_gtr ?_ | refine pu_geq ?_ | refine pu_add ?_ | refine pu_sub ?_ | refine pu_mul ?_ | refine pu_neg ?_ | refine fa_at ?_ | refine nl_ptr ?_ | refine ex20 ?_ | refine ex21 ?_ | refine ex30 ?_ | refine ex31 ?_ | refine ex32 ?_ | refine ln_rule ?_ | refine lnT_rule ?_ | refine pu_and ?_ | refine pu_or ?_ | refine pu_xor ?_ | refine pu_seq ?_ | refine pu_sne ?_)
          refine cnd_f rfl ?_
          refine ldn_here hwh (.tail _ (.tail _ (.head _))) (vs := r.cells) rfl rfl ?_
          refine ldn_here hwh (.head _) (vs := r.cells) rfl rfl ?_
          refine pu_aneq (by kernel_rfl) (eq_ins _ _) ?_
          refine cnd_f (by simp) ?_
          unfold linesmanlaw12_StackHolds.k0
          have hz : Ow B wh (s1.hp p ++ R0) := by
            have := Ow.drop (Ow.drop (Ow.drop hwh))
            exact this.sub ((List.Sublist.refl _).append (List.sublist_append_right _ _))
          repeat (first | refine pu_not ?_ | refine pu_eql ?_ | refine pu_neq ?_ | refine pu_lss ?_ | refine pu_leq ?_ | refine pu_gtr ?_ | refine pu_geq ?_ | refine pu_add ?_ | refine pu_sub ?_ | refine pu_mul ?_ | refine pu_neg ?_ | refine fa_at ?_ | refine nl_ptr ?_ | refine ex20 ?_ | refine ex21 ?_ | refine ex30 ?_ | refine ex31 ?_ | refine ex32 ?_ | refine ln_rule ?_ | refine lnT_rule ?_ | refine pu_and ?_ | refine pu_or ?_ | refine pu_xor ?_ | refine pu_seq ?_ | refine pu_sne ?_)
          rw [wrap64_in (by omega) (by omega)]
          exact ⟨⟨n + 1, s1, rfl, hlt, rfl, hs1, hI1, by omega, hz⟩, by simp; omega⟩
      · cases hes : s1.es with
        | nil =>
          have hl0 : s1.frs.length = 0 := by rw [← SK.es_len, hes]; rfl
          refine next_end hs1 hes hN (.head _) (fun wa hwa => ?_)
          unfold zeroNext
          repeat (first | refine pu_not ?_ | refine pu_eql ?_ | refine pu_neq ?_ | refine pu_lss ?_ | refine pu_leq ?_ | refine pu_gtr ?_ | refine pu_geq ?_ | refine pu_add ?_ | refine pu_sub ?_ | refine pu_mul ?_ | refine pu_neg ?_ | refine fa_at ?_ | refine nl_ptr ?_ | refine ex20 ?_ | refine ex21 ?_ | refine ex30 ?_ | refine ex31 ?_ | refine ex32 ?_ | refine ln_rule ?_ | refine lnT_rule ?_ | refine pu_and ?_ | refine pu_or ?_ | refine pu_xor ?_ | refine pu_seq ?_ | refine pu_sne ?_)
          refine al_rule hwa (l := (bare 0).cells) zins (fun ba wb hwb => ?_)
          refine al_rule hwb (l := [vI 0, vI 0]) (by kernel_rfl) (fun bb wc hwc => ?_)
          refine st_here (A := [_]) hwc (bare 0).cells rfl rfl (ins_plain _) (by simp [Ins.cells]) (fun wd hwd => ?_)
          refine st_here (A := []) hwd [vI 0, vI 0] rfl rfl rfl (by simp) (fun we hwe => ?_)
          repeat (first | refine pu_not ?_ | refine pu_eql ?_ | refine pu_neq ?_ | refine pu_lss ?_ | refine pu_leq ?_ | refine pu_gtr ?_ | refine pu_geq ?_ | refine pu_add ?_ | refine pu_sub ?_ | refine pu_mul ?_ | refine pu_neg ?_ | refine fa_at ?_ | refine nl_ptr ?_ | refine ex20 ?_ | refine ex21 ?_ | refine ex30 ?_ | refine ex31 ?_ | refine ex32 ?_ | refine ln_rule ?_ | refine lnT_rule ?_ | refine pu_and ?_ | refine pu_or ?_ | refine pu_xor ?_ | refine pu_seq ?_ | refine pu_sne ?_)
          refine ldn_here hwe (.tail _ (.tail _ (List.mem_append_right _ (List.mem_append_right _ m2r)))) (vs := p.cells v) rfl rfl ?_
          refine ldn_here hwe (.head _) (vs := [vI (0 : Nat), vI (0 : Nat)]) rfl rfl ?_
          refine refAt_spec (n := 0) (m := 0) hv (fun y hy => .tail _ (.tail _ (List.mem_append_right _ (List.mem_append_right _ (hH0 y hy))))) hwe (fun r e wf _ hwf => ?_)
          repeat (first | refine pu_not ?_ | refine pu_eql ?_ | refine pu_neq ?_ | refine pu_lss ?_ | refine pu_leq ?_ | refine pu_gtr ?_ | refine pu_geq ?_ | refine pu_add ?_ | refine pu_sub ?_ | refine pu_mul ?_ | refine pu_neg ?_ | refine fa_at ?_ | refine nl_ptr ?_ | refine ex20 ?_ | refine ex21 ?_ | refine ex30 ?_ | refine ex31 ?_ | refine ex32 ?_ | refine ln_rule ?_ | refine lnT_rule ?_ | refine pu_and ?_ | refine pu_or ?_ | refine pu_xor ?_ | refine pu_seq ?_ | refine pu_sne ?_)
          refine al_rule hwf (l := (bare 0).cells) zins (fun bc wg hwg => ?_)
          refine st_here (A := []) hwg r.cells rfl rfl (ins_plain _) (by simp [Ins.cells]) (fun wh hwh => ?_)
          repeat (first | refine pu_not ?_ | refine pu_eql ?_ | refine pu_neq ?_ | refine pu_lss ?_ | refine pu_leq ?_ | refine pu_gtr ?_ | refine pu_geq ?_ | refine pu_add ?_ | refine pu_sub ?_ | refine pu_mul ?_ | refine pu_neg ?_ | refine fa_at ?_ | refine nl_ptr ?_ | refine ex20 ?_ | refine ex21 ?_ | refine ex30 ?_ | refine ex31 ?_ | refine ex32 ?_ | refine ln_rule ?_ | refine lnT_rule ?_ | refine pu_and ?_ | refine pu_or ?_ | refine pu_xor ?_ | refine pu_seq ?_ | refine pu_sne ?_)
          refine pu_bneq (by kernel_rfl) ?_
          refine cnd_f (by simp) ?_
          refine cnd_f rfl ?_
          unfold linesmanlaw12_StackHolds.k0
          have hz : Ow B wh (s1.hp p ++ R0) := by
            have := Ow.drop (Ow.drop (Ow.drop hwh))
            exact this.sub ((List.Sublist.refl _).append (List.sublist_append_right _ _))
          repeat (first | refine pu_not ?_ | refine pu_eql ?_ | refine pu_neq ?_ | refine pu_lss ?_ | refine pu_leq ?_ | refine pu_gtr ?_ | refine pu_geq ?_ | refine pu_add ?_ | refine pu_sub ?_ | refine pu_mul ?_ | refine pu_neg ?_ | refine fa_at ?_ | refine nl_ptr ?_ | refine ex20 ?_ | refine ex21 ?_ | refine ex30 ?_ | refine ex31 ?_ | refine ex32 ?_ | refine ln_rule ?_ | refine lnT_rule ?_ | refine pu_and ?_ | refine pu_or ?_ | refine pu_xor ?_ | refine pu_seq ?_ | refine pu_sne ?_)
          rw [wrap64_in (by omega) (by omega)]
          exact ⟨⟨n + 1, s1, rfl, hlt, rfl, hs1, hI1, by omega, hz⟩, by simp; omega⟩
        | cons t1 lo1 =>
          have hfr1 : s1.frs = t1.m :: lo1.map FE.m := by simp [SK.frs, hes]
          have hlp : 0 < s1.es.length := by rw [hes]; simp
          obtain ⟨f1', hfi⟩ := hI1.fi t1.m (by rw [hfr1]; exact .head _)
          obtain ⟨i1, hi1, _⟩ := good.facts hfi
          refine next_at hs1 hes hFr hfi.hf hi1 hN (fun wa hwa => ?_)
          repeat (first | refine pu_not ?_ | refine pu_eql ?_ | refine pu_neq ?_ | refine pu_lss ?_ | refine pu_leq ?_ | refine pu_gtr ?_ | refine pu_geq ?_ | refine pu_add ?_ | refine pu_sub ?_ | refine pu_mul ?_ | refine pu_neg ?_ | refine fa_at ?_ | refine nl_ptr ?_ | refine ex20 ?_ | refine ex21 ?_ | refine ex30 ?_ | refine ex31 ?_ | refine ex32 ?_ | refine ln_rule ?_ | refine lnT_rule ?_ | refine pu_and ?_ | refine pu_or ?_ | refine pu_xor ?_ | refine pu_seq ?_ | refine pu_sne ?_)
          refine al_rule hwa (l := (bare 0).cells) zins (fun ba wb hwb => ?_)
          refine al_rule hwb (l := [vI 0, vI 0]) (by kernel_rfl) (fun bb wc hwc => ?_)
          refine st_here (A := [_]) hwc i1.cells rfl rfl (ins_plain _) (by simp [Ins.cells]) (fun wd hwd => ?_)
          have e5 : ∀ i : Ins, (bare 0).cells.take 0 ++ i.cells ++ (bare 0).cells.drop (0 + 5) = i.cells := fun i => rfl
          rw [e5] at hwd
          refine st_here (A := []) hwd [vI t1.m.fn, vI t1.m.pc] rfl rfl rfl (by simp) (fun we hwe => ?_)
          repeat (first | refine pu_not ?_ | refine pu_eql ?_ | refine pu_neq ?_ | refine pu_lss ?_ | refine pu_leq ?_ | refine pu_gtr ?_ | refine pu_geq ?_ | refine pu_add ?_ | refine pu_sub ?_ | refine pu_mul ?_ | refine pu_neg ?_ | refine fa_at ?_ | refine nl_ptr ?_ | refine ex20 ?_ | refine ex21 ?_ | refine ex30 ?_ | refine ex31 ?_ | refine ex32 ?_ | refine ln_rule ?_ | refine lnT_rule ?_ | refine pu_and ?_ | refine pu_or ?_ | refine pu_xor ?_ | refine pu_seq ?_ | refine pu_sne ?_)
          refine ldn_here hwe (.tail _ (.tail _ (List.mem_append_right _ (List.mem_append_right _ m2r)))) (vs := p.cells v) rfl rfl ?_
          refine ldn_here hwe (.head _) (vs := [vI t1.m.fn, vI t1.m.pc]) rfl rfl ?_
          refine refAt_spec (n := t1.m.fn) (m := t1.m.pc) hv (fun y hy => .tail _ (.tail _ (List.mem_append_right _ (List.mem_append_right _ (hH0 y hy))))) hwe (fun r e wf hre hwf => ?_)
          obtain ⟨rfl, rfl⟩ := hre _ _ hfi.hf hi1
          repeat (first | refine pu_not ?_ | refine pu_eql ?_ | refine pu_neq ?_ | refine pu_lss ?_ | refine pu_leq ?_ | refine pu_gtr ?_ | refine pu_geq ?_ | refine pu_add ?_ | refine pu_sub ?_ | refine pu_mul ?_ | refine pu_neg ?_ | refine fa_at ?_ | refine nl_ptr ?_ | refine ex20 ?_ | refine ex21 ?_ | refine ex30 ?_ | refine ex31 ?_ | refine ex32 ?_ | refine ln_rule ?_ | refine lnT_rule ?_ | refine pu_and ?_ | refine pu_or ?_ | refine pu_xor ?_ | refine pu_seq ?_ | refine pu_sne ?_)
          refine al_rule hwf (l := (bare 0).cells) zins (fun bc wg hwg => ?_)
          refine st_here (A := []) hwg r.cells rfl rfl (ins_plain _) (by simp [Ins.cells]) (fun wh hwh => ?_)
          rw [e5] at hwh
          repeat (first | refine pu_not ?_ | refine pu_eql ?_ | refine pu_neq ?_ | refine pu_lss ?_ | refine pu_leq ?_ | refine pu_gtr ?_ | refine pu_geq ?_ | refine pu_add ?_ | refine pu_sub ?_ | refine pu_mul ?_ | refine pu_neg ?_ | refine fa_at ?_ | refine nl_ptr ?_ | refine ex20 ?_ | refine ex21 ?_ | refine ex30 ?_ | refine ex31 ?_ | refine ex32 ?_ | refine ln_rule ?_ | refine lnT_rule ?_ | refine pu_and ?_ | refine pu_or ?_ | refine pu_xor ?_ | refine pu_seq ?_ | refine pu_sne ?_)
          refine pu_bneq (by kernel_rfl) ?_
          refine cnd_f (by simp) ?_
          refine cnd_t rfl ?_
          repeat (first | refine pu_not ?_ | refine pu_eql ?_ | refine pu_neq ?_ | refine pu_lss ?_ | refine pu_leq ?_ | refine pu_gtr ?_ | refine pu_geq ?_ | refine pu_add ?_ | refine pu_sub ?_ | refine pu_mul ?_ | refine pu_neg ?_ | refine fa_at ?_ | refine nl_ptr ?_ | refine ex20 ?_ | refine ex21 ?_ | refine ex30 ?_ | refine ex31 ?_ | refine ex32 ?_ | refine ln_rule ?_ | refine lnT_rule ?_ | refine pu_and ?_ | refine pu_or ?_ | refine pu_xor ?_ | refine pu_seq ?_ | refine pu_sne ?_)
          refine cnd_f rfl ?_
          refine ldn_here hwh (.tail _ (.tail _ (.head _))) (vs := r.cells) rfl rfl ?_
          refine ldn_here hwh (.head _) (vs := r.cells) rfl rfl ?_
          refine pu_aneq (by kernel_rfl) (eq_ins _ _) ?_
          refine cnd_f (by simp) ?_
          unfold linesmanlaw12_StackHolds.k0
          have hz : Ow B wh (s1.hp p ++ R0) := by
            have := Ow.drop (Ow.drop (Ow.drop hwh))
            exact this.sub ((List.Sublist.refl _).append (List.sublist_append_right _ _))
          repeat (first | refine pu_not ?_ | refine pu_eql ?_ | refine pu_neq ?_ | refine pu_lss ?_ | refine pu_leq ?_ | refine pu_gtr ?_ | refine pu_geq ?_ | refine pu_add ?_ | refine pu_sub ?_ | refine pu_mul ?_ | refine pu_neg ?_ | refine fa_at ?_ | refine nl_ptr ?_ | refine ex20 ?_ | refine ex21 ?_ | refine ex30 ?_ | refine ex31 ?_ | refine ex32 ?_ | refine ln_rule ?_ | refine lnT_rule ?_ | refine pu_and ?_ | refine pu_or ?_ | refine pu_xor ?_ | refine pu_seq ?_ | refine pu_sne ?_)
          rw [wrap64_in (by omega) (by omega)]
          exact ⟨⟨n + 1, s1, rfl, hlt, rfl, hs1, hI1, by omega, hz⟩, by simp; omega⟩
end
end Go.Proofs.YtkkkcafkepnecaaGreat

