/- Stacks: New; Copy. -/
import Derived.Test.YtkkkcafkepnecaaGreatVsK
import Derived.Test.YtkkkcafkepnecaaGreatVpG
set_option linter.unusedVariables false
set_option linter.unusedSimpArgs false
namespace Go.Proofs.YtkkkcafkepnecaaGreat
open Go Go.RowKit Vc Ar
attribute [local irreducible] binV Op.unary convert nlW faW ldS ldW ixS ixA ixV ixT exW lnS lnT pu stW alW opW opU bsW mkW

section
variable {B w : World} {H X F Q R : Hp} {K : Value → World → Prop} {PK : List PanicEntry → World → Prop} {KK : Value → Prop} {b n cap g : Nat} {c pre post : List Value} {t u : FE} {i : Ins} {p : Pr} {s : SK} {lo : List FE} {f : Fun} {v a : Value}
theorem SK.vplain (hs : s.ok p F) : plainV s.vfr = true := by
  obtain ⟨a0, c0, hv0, _⟩ := hs.fro.len
  rw [hv0]; rfl
theorem SK.cplain (hs : s.ok p F) : (s.cell p).all plainV = true := by
  simp only [SK.cell, List.all_cons, fsIn.plain hs.hf, SK.vplain hs]; rfl
/-- The frames in memory's order. -/
def SK.L (s : SK) : List (Value × Frm) := s.es.reverse.map fun e => (e.c, e.m)
theorem SK.L_rows (s : SK) : lrows s.L = frw s.es := by
  simp only [lrows, SK.L, frw, List.map_map, ← List.map_reverse]; rfl
theorem SK.L_frs (s : SK) : s.L.map Prod.snd = s.frs.reverse := by
  simp only [SK.L, SK.frs, List.map_map, ← List.map_reverse]; rfl
theorem SK.L_in (hs : s.ok p F) (hr : ∀ m ∈ s.frs, m.regs.length ≤ 1000) : ∀ q ∈ s.L, Sl (s.hp p) q.1 (rgs q.2.regs) ∧ q.2.regs.length ≤ 1000 := fun q hq => by
  obtain ⟨e, he, rfl⟩ := List.mem_map.1 hq
  have he := List.mem_reverse.1 he
  refine ⟨(Vc.Own.sl (hs.eok e he)).mono fun x hx => .tail _ (List.mem_append_right _ (List.mem_flatMap.2 ⟨e, he, hx⟩)), hr _ (List.mem_map_of_mem he)⟩
theorem SK.L_sls (hs : s.ok p F) : Sls (s.hp p) s.vfr 4 (lrows s.L) := by
  rw [SK.L_rows]
  exact (Fro.sls hs.fro).mono fun x hx => .tail _ (List.mem_append_left _ hx)
theorem ffoot_rev (l : List FE) : (ffoot l.reverse).Perm (ffoot l) := by
  unfold ffoot
  induction l with
  | nil => exact .refl _
  | cons x l ih =>
    simp only [List.reverse_cons, List.flatMap_append, List.flatMap_cons, List.flatMap_nil, List.append_nil]
    exact (List.perm_append_comm).trans (List.Perm.append_left _ ih)
abbrev zstack : List Value := [.slice none 0 0, vI 0, vI 0, vI 0, .slice none 0 0, vU 0, vB false]
theorem scopy_spec (hs : s.ok p F) (hr : ∀ m ∈ s.frs, m.regs.length ≤ 1000) (h : Ow B w (s.hp p ++ R)) (k : ∀ (s' : SK) w', s'.vF = s.vF → s'.res = s.res → s'.frs = s.frs → s'.ok p F → Ow B w' (s'.hp p ++ (s.hp p ++ R)) → K (ptr s'.b) w') : callW PG N.stack_Stack_Copy [ptr s.b] K PK w := by
  refine stack_Stack_Copy.ok ?_
  unfold stack_Stack_Copy.C
  refine sk_none h (.head _) (cnd_f rfl ?_)
  repeat (first | refine pu_not ?_ | refine pu_eql ?_ | refine pu_neq ?_ | refine pu_lss ?_ | refine pu_leq ?_ | refine pu_gtr ?_ | refine pu_geq ?_ | refine pu_add ?_ | refine pu_sub ?_ | refine pu_mul ?_ | refine pu_neg ?_ | refine fa_at ?_ | refine nl_ptr ?_ | refine ex20 ?_ | refine ex21 ?_ | refine ex30 ?_ | refine ex31 ?_ | refine ex32 ?_ | refine ln_rule ?_ | refine lnT_rule ?_ | refine pu_and ?_ | refine pu_or ?_ | refine pu_xor ?_ | refine pu_seq ?_ | refine pu_sne ?_)
  refine ldn_here h (.head _) (vs := s.cell p) rfl rfl ?_
  refine al_rule h (l := zstack) (by kernel_rfl) (fun bn w1 h1 => ?_)
  refine st_here (A := []) h1 (s.cell p) rfl rfl (SK.cplain hs) (by simp) (fun w2 h2 => ?_)
  simp only [List.take_zero, List.nil_append, Nat.zero_add, List.drop_succ_cons, List.drop_zero, List.drop_nil, List.append_nil] at h2
  repeat (first | refine pu_not ?_ | refine pu_eql ?_ | refine pu_neq ?_ | refine pu_lss ?_ | refine pu_leq ?_ | refine pu_gtr ?_ | refine pu_geq ?_ | refine pu_add ?_ | refine pu_sub ?_ | refine pu_mul ?_ | refine pu_neg ?_ | refine fa_at ?_ | refine nl_ptr ?_ | refine ex20 ?_ | refine ex21 ?_ | refine ex30 ?_ | refine ex31 ?_ | refine ex32 ?_ | refine ln_rule ?_ | refine lnT_rule ?_ | refine pu_and ?_ | refine pu_or ?_ | refine pu_xor ?_ | refine pu_seq ?_ | refine pu_sne ?_)
  refine ld_here h2 (.tail _ (.head _)) (v := s.vfr) rfl ?_
  have hln := hs.len
  have hll : s.L.length = s.es.length := by simp [SK.L]
  refine copied_spec h2 (SK.L_sls hs) (SK.L_in hs hr) (fun x hx => .tail _ (List.mem_append_left _ hx)) (by omega) cloned_cl (fun Sf v' don w3 hdm hdo ho h3 => ?_)
  obtain ⟨a9, c9, hv9⟩ := ho.len
  repeat (first | refine pu_not ?_ | refine pu_eql ?_ | refine pu_neq ?_ | refine pu_lss ?_ | refine pu_leq ?_ | refine pu_gtr ?_ | refine pu_geq ?_ | refine pu_add ?_ | refine pu_sub ?_ | refine pu_mul ?_ | refine pu_neg ?_ | refine fa_at ?_ | refine nl_ptr ?_ | refine ex20 ?_ | refine ex21 ?_ | refine ex30 ?_ | refine ex31 ?_ | refine ex32 ?_ | refine ln_rule ?_ | refine lnT_rule ?_ | refine pu_and ?_ | refine pu_or ?_ | refine pu_xor ?_ | refine pu_seq ?_ | refine pu_sne ?_)
  have h3 : Ow B w3 ((Sf ++ ffoot don) ++ (bn, cel (s.cell p) T.t_stack_Stack) :: (s.hp p ++ R)) := by simpa using h3
  refine st1_here h3 (by rw [hv9]; rfl) (by rw [hv9]; rfl) (by simp [SK.cell]) (fun w4 h4 => ?_)
  have e4 : (s.cell p).set (0 + 4) v' = SK.cell p { b := bn, vF := s.vF, vfr := v', Sf := Sf, es := don.reverse, res := s.res } := rfl
  rw [e4] at h4
  have hdl : don.length = s.es.length := by
    have := congrArg List.length hdm
    simpa [SK.L] using this
  have hfrw : frw don.reverse = drows don := by simp [frw, drows, List.map_reverse]
  refine k { b := bn, vF := s.vF, vfr := v', Sf := Sf, es := don.reverse, res := s.res } w4 rfl rfl ?_ ⟨hs.hf, ?_, ?_, ?_⟩ ?_
  · show (don.reverse).map FE.m = s.frs
    rw [List.map_reverse, hdm, SK.L_frs, List.reverse_reverse]
  · show Fro T.t_api_Frame 4 Sf v' (frw don.reverse)
    rw [hfrw]
    exact ⟨drows_four don, .inl ho⟩
  · intro e he
    exact hdo e (List.mem_reverse.1 he)
  · show don.reverse.length < 1000
    rw [List.length_reverse, hdl]; exact hln
  · refine h4.perm ?_
    refine List.perm_middle.trans ?_
    show List.Perm _ (((bn, stO (SK.cell p { b := bn, vF := s.vF, vfr := v', Sf := Sf, es := don.reverse, res := s.res })) :: (Sf ++ ffoot don.reverse)) ++ (s.hp p ++ R))
    rw [List.cons_append]
    exact ((List.Perm.append_left Sf (ffoot_rev don).symm).append_right _).cons _
theorem num_facts (h : numI p = true) : 1 ≤ p.fs.length ∧ p.fs.length ≤ 32 ∧ ∀ f ∈ p.fs, 1 ≤ f.regs ∧ f.regs ≤ 16 ∧ 1 ≤ f.code.length ∧ f.code.length ≤ 512 := by
  unfold numI numL at h
  simp only [List.all_append, List.all_cons, List.all_nil, Bool.and_true, Bool.and_eq_true, inB, decide_eq_true_eq] at h
  obtain ⟨⟨h1, h2, h3, h4⟩, h5⟩ := h
  refine ⟨by omega, by omega, fun f hf => ?_⟩
  have := List.all_eq_true.1 h5
  have q1 := this (f.regs, 1, 16) (List.mem_flatMap.2 ⟨f, hf, .head _⟩)
  have q2 := this ((f.code.length : Int), 1, 512) (List.mem_flatMap.2 ⟨f, hf, .tail _ (.head _)⟩)
  simp only [inB, Bool.and_eq_true, decide_eq_true_eq] at q1 q2
  omega
theorem ok_num (h : okP' p = true) : numI p = true := by
  unfold okP' at h
  rw [Bool.and_eq_true] at h
  exact h.1
/-- Where a stack begins. -/
def begF (x : Nat) (f : Fun) (ws : List Int) : Frm := ⟨x, 0, 0, padd ws f.regs.toNat⟩
set_option maxHeartbeats 1000000 in
theorem new_spec {x : Int} {ws : List Int} (hv : fsIn X v p.fs) (ha : Sl X a (rgs ws)) (hX : ∀ x, x ∈ X → x ∈ H) (hlen : p.fs.length ≤ 1000) (hwl : ws.length ≤ 1000) (h : Ow B w H)
    (kbad : okP' p = false → ∀ w', Ow B w' H → K (.tuple #[.pointer none, vI 2]) w')
    (krange : okP' p = true → (∀ f, 0 ≤ x → p.fs[x.toNat]? = some f → ¬ (ws.length : Int) ≤ f.regs) → ∀ w', Ow B w' H → K (.tuple #[.pointer none, vI 4]) w')
    (kok : okP' p = true → ∀ f, 0 ≤ x → p.fs[x.toNat]? = some f → (ws.length : Int) ≤ f.regs → ∀ (s : SK) (F : Hp) w', s.res = 0 → s.frs = [begF x.toNat f ws] → s.ok p F → Ow B w' (s.hp p ++ (F ++ H)) → K (.tuple #[ptr s.b, vI 0]) w') :
    callW PG N.stack_New [.agg (p.cells v).toArray, vI x, a] K PK w := by
  refine stack_New.ok ?_
  unfold stack_New.C
  refine al_rule h (l := p.cells v) rfl (fun b2 w1 h1 => ?_)
  refine ldn_here h1 (.head _) (vs := p.cells v) rfl rfl ?_
  refine check_spec hv (fun x hx => .tail _ (hX x hx)) hlen h1 (fun w2 h2 => ?_)
  repeat (first | refine pu_not ?_ | refine pu_eql ?_ | refine pu_neq ?_ | refine pu_lss ?_ | refine pu_leq ?_ | refine pu_gtr ?_ | refine pu_geq ?_ | refine pu_add ?_ | refine pu_sub ?_ | refine pu_mul ?_ | refine pu_neg ?_ | refine fa_at ?_ | refine nl_ptr ?_ | refine ex20 ?_ | refine ex21 ?_ | refine ex30 ?_ | refine ex31 ?_ | refine ex32 ?_ | refine ln_rule ?_ | refine lnT_rule ?_ | refine pu_and ?_ | refine pu_or ?_ | refine pu_xor ?_ | refine pu_seq ?_ | refine pu_sne ?_)
  refine cnd (fun hq => ?_) (fun hq => ?_)
  · refine kbad ?_ _ h2.drop
    cases hok : okP' p
    · rfl
    · rw [hok] at hq; simp at hq
  have hok : okP' p = true := by
    cases hok : okP' p
    · rw [hok] at hq; simp at hq
    · rfl
  have hnf := num_facts (ok_num hok)
  repeat (first | refine pu_not ?_ | refine pu_eql ?_ | refine pu_neq ?_ | refine pu_lss ?_ | refine pu_leq ?_ | refine pu_gtr ?_ | refine pu_geq ?_ | refine pu_add ?_ | refine pu_sub ?_ | refine pu_mul ?_ | refine pu_neg ?_ | refine fa_at ?_ | refine nl_ptr ?_ | refine ex20 ?_ | refine ex21 ?_ | refine ex30 ?_ | refine ex31 ?_ | refine ex32 ?_ | refine ln_rule ?_ | refine lnT_rule ?_ | refine pu_and ?_ | refine pu_or ?_ | refine pu_xor ?_ | refine pu_seq ?_ | refine pu_sne ?_)
  refine cnd (fun h0 => ?_) (fun h0 => ?_)
  · have h0 : x < 0 := by simpa using h0
    exact krange hok (fun f hx => by omega) _ h2.drop
  have h0 : 0 ≤ x := by simpa using h0
  repeat (first | refine pu_not ?_ | refine pu_eql ?_ | refine pu_neq ?_ | refine pu_lss ?_ | refine pu_leq ?_ | refine pu_gtr ?_ | refine pu_geq ?_ | refine pu_add ?_ | refine pu_sub ?_ | refine pu_mul ?_ | refine pu_neg ?_ | refine fa_at ?_ | refine nl_ptr ?_ | refine ex20 ?_ | refine ex21 ?_ | refine ex30 ?_ | refine ex31 ?_ | refine ex32 ?_ | refine ln_rule ?_ | refine lnT_rule ?_ | refine pu_and ?_ | refine pu_or ?_ | refine pu_xor ?_ | refine pu_seq ?_ | refine pu_sne ?_)
  refine ld_here h2 (.head _) (v := v) rfl ?_
  refine hv.ln ?_
  repeat (first | refine pu_not ?_ | refine pu_eql ?_ | refine pu_neq ?_ | refine pu_lss ?_ | refine pu_leq ?_ | refine pu_gtr ?_ | refine pu_geq ?_ | refine pu_add ?_ | refine pu_sub ?_ | refine pu_mul ?_ | refine pu_neg ?_ | refine fa_at ?_ | refine nl_ptr ?_ | refine ex20 ?_ | refine ex21 ?_ | refine ex30 ?_ | refine ex31 ?_ | refine ex32 ?_ | refine ln_rule ?_ | refine lnT_rule ?_ | refine pu_and ?_ | refine pu_or ?_ | refine pu_xor ?_ | refine pu_seq ?_ | refine pu_sne ?_)
  refine cnd (fun h3 => ?_) (fun h3 => ?_)
  · have h3 : (p.fs.length : Int) ≤ x := by simpa using h3
    refine krange hok (fun f hx hf => ?_) _ h2.drop
    have := (List.getElem?_eq_some_iff.1 hf).1
    omega
  have h3 : x < p.fs.length := by simpa using h3
  have hX2 : ∀ x, x ∈ X → x ∈ (b2, cel (p.cells v) T.t_api_Program) :: H := fun x hx => .tail _ (hX x hx)
  obtain ⟨ps, cc, f, f1, f2, f3, f4, f5⟩ := hv.at (n := x) h0 h3
  have hfr := hnf.2.2 f (List.mem_of_getElem? f1)
  have hrl : (rgs ws).length = ws.length := by simp [rgs]
  refine sl_ln ha ?_
  rw [hrl]
  repeat (first | refine pu_not ?_ | refine pu_eql ?_ | refine pu_neq ?_ | refine pu_lss ?_ | refine pu_leq ?_ | refine pu_gtr ?_ | refine pu_geq ?_ | refine pu_add ?_ | refine pu_sub ?_ | refine pu_mul ?_ | refine pu_neg ?_ | refine fa_at ?_ | refine nl_ptr ?_ | refine ex20 ?_ | refine ex21 ?_ | refine ex30 ?_ | refine ex31 ?_ | refine ex32 ?_ | refine ln_rule ?_ | refine lnT_rule ?_ | refine pu_and ?_ | refine pu_or ?_ | refine pu_xor ?_ | refine pu_seq ?_ | refine pu_sne ?_)
  refine ld_here h2 (.head _) (v := v) rfl ?_
  refine sls_fld h2 (f2.mono hX2) h0 f3 (j := 0) (v := vI f.regs) rfl ?_
  repeat (first | refine pu_not ?_ | refine pu_eql ?_ | refine pu_neq ?_ | refine pu_lss ?_ | refine pu_leq ?_ | refine pu_gtr ?_ | refine pu_geq ?_ | refine pu_add ?_ | refine pu_sub ?_ | refine pu_mul ?_ | refine pu_neg ?_ | refine fa_at ?_ | refine nl_ptr ?_ | refine ex20 ?_ | refine ex21 ?_ | refine ex30 ?_ | refine ex31 ?_ | refine ex32 ?_ | refine ln_rule ?_ | refine lnT_rule ?_ | refine pu_and ?_ | refine pu_or ?_ | refine pu_xor ?_ | refine pu_seq ?_ | refine pu_sne ?_)
  refine cnd (fun h4 => ?_) (fun h4 => ?_)
  · have h4 : f.regs < ws.length := by simpa using h4
    refine krange hok (fun f' hx hf => ?_) _ h2.drop
    rw [f1] at hf
    cases hf
    omega
  have h4 : (ws.length : Int) ≤ f.regs := by simpa using h4
  refine ⟨fun w => Ow B w ((b2, cel (p.cells v) T.t_api_Program) :: H), h2.drew, ?_⟩
  refine ldsn_here (fun w h => h) (.head _) (vs := p.cells v) rfl rfl ?_
  repeat (first | refine pu_not ?_ | refine pu_eql ?_ | refine pu_neq ?_ | refine pu_lss ?_ | refine pu_leq ?_ | refine pu_gtr ?_ | refine pu_geq ?_ | refine pu_add ?_ | refine pu_sub ?_ | refine pu_mul ?_ | refine pu_neg ?_ | refine fa_at ?_ | refine nl_ptr ?_ | refine ex20 ?_ | refine ex21 ?_ | refine ex30 ?_ | refine ex31 ?_ | refine ex32 ?_ | refine ln_rule ?_ | refine lnT_rule ?_ | refine pu_and ?_ | refine pu_or ?_ | refine pu_xor ?_ | refine pu_seq ?_ | refine pu_sne ?_)
  refine lds_here (fun w h => h) (.head _) (v := v) rfl ?_
  refine sls_flds (fun w h => h) (f2.mono hX2) h0 f3 (j := 0) (v := vI f.regs) rfl ?_
  refine copy_spec hv hX2 hlen (fun g hg => by have := hnf.2.2 g hg; omega) h2.drew (fun F v' w3 hcp h3' => ?_)
  have sub : ∀ {A : Hp} {w : World}, Ow B w (A ++ ((b2, cel (p.cells v) T.t_api_Program) :: H)) → Ow B w ((b2, cel (p.cells v) T.t_api_Program) :: H) := fun h => h.sub (List.sublist_append_right _ _)
  refine ⟨sub h3', ?_⟩
  have hfs : fsIn F v' p.fs := CpP.ins hcp (fun g hg => by
    obtain ⟨qs, e1, e2, e3⟩ := hv
    rw [← e1] at hg
    obtain ⟨q, hq, rfl⟩ := List.mem_map.1 hg
    exact (e3 q hq).2)
  have e1 : x = ((x.toNat : Nat) : Int) := by omega
  have e2 : f.regs = ((f.regs.toNat : Nat) : Int) := by omega
  have harg : [vI x, vI f.regs, vI 0, a] = [vI (x.toNat : Nat), vI (f.regs.toNat : Nat), vI (0 : Nat), a] := by rw [← e1, ← e2]; rfl
  rw [harg]
  refine entered_spec h3' ha (fun x hx => List.mem_append_right _ (hX2 x hx)) (by omega) (by omega) (fun S cv w4 hw4 ho4 => ?_)
  have hw4' : Ow B w4 ((S ++ F) ++ ((b2, cel (p.cells v) T.t_api_Program) :: H)) := by simpa using hw4
  refine ⟨sub hw4', ?_⟩
  obtain ⟨a9, c9, hcv⟩ := ho4.len
  refine bs_rule hw4' [vI (x.toNat : Nat), vI 0, vI (0 : Nat), cv] (by kernel_rfl) (fun bx w5 hw5 => ?_)
  refine ⟨sub (A := _ :: (S ++ F)) hw5, ?_⟩
  refine pu_build [v', vI p.mu, vI p.rw, vI p.gr, .slice (some ⟨bx, 0, none⟩) 1 1, vU 0, vB true] (by kernel_rfl) ?_
  refine al_rule hw5 (l := [v', vI p.mu, vI p.rw, vI p.gr, .slice (some ⟨bx, 0, none⟩) 1 1, vU 0, vB true]) rfl (fun bn w6 hw6 => ?_)
  refine ⟨sub (A := _ :: _ :: (S ++ F)) hw6, ?_⟩
  let fe : FE := { S := S, c := cv, m := begF x.toNat f ws }
  have hfe : fe.ok := by
    unfold FE.ok
    have : fe.m.regs.length = f.regs.toNat := padd_len (by omega)
    rw [this]; exact ho4
  refine kok hok f h0 f1 h4 { b := bn, vF := v', vfr := .slice (some ⟨bx, 0, none⟩) 1 1, Sf := [(bx, cel fe.row T.t_api_Frame)], es := [fe], res := 0 } F w6 rfl rfl ⟨hfs, ⟨?_, .inr ⟨bx, fe.row, rfl, rfl, ?_, ?_, ?_⟩⟩, ?_, ?_⟩ ?_
  · intro x hx
    have hx : x ∈ [fe.row] := hx
    rw [List.mem_singleton.1 hx]; rfl
  · show 1 ≤ maxLen
    simp [maxLen]
  · show 1 * 4 ≤ fe.row.length
    simp [FE.row, frow]
  · rfl
  · intro e he
    rw [List.mem_singleton.1 he]; exact hfe
  · show 1 < 1000
    omega
  · have : Ow B w6 (((bn, cel [v', vI p.mu, vI p.rw, vI p.gr, .slice (some ⟨bx, 0, none⟩) 1 1, vU 0, vB true] T.t_stack_Stack) :: ([(bx, cel fe.row T.t_api_Frame)] ++ S)) ++ (F ++ (b2, cel (p.cells v) T.t_api_Program) :: H)) := by
      simp only [List.cons_append, List.nil_append, List.append_assoc] at hw6 ⊢
      exact hw6
    have h7 := this.sub ((List.Sublist.refl _).append ((List.Sublist.refl F).append (List.sublist_cons_self _ _)))
    have eS : ffoot [fe] = S := by simp [ffoot, fe]
    unfold SK.hp
    simp only [eS]
    exact h7
end
end Go.Proofs.YtkkkcafkepnecaaGreat
