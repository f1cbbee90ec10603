/- Fibers: Do. -/
import Derived.Test.YtkkkcafkepnecaaGreatYB
import Derived.Test.YtkkkcafkepnecaaGreatGC

set_option linter.unusedVariables false
set_option linter.unusedSimpArgs false
namespace Go.Proofs.YtkkkcafkepnecaaGreat
open Go Go.RowKit Vc Ar
attribute [local irreducible] binV Op.unary convert nlW faW ldS ldW ixS ixA ixV ixT exW lnS lnT pu stW alW opW opU bsW mkW

section
variable {B w : World} {H X F F' Q R : Hp} {K : Value → World → Prop} {PK : List PanicEntry → World → Prop} {KK : Value → Prop} {p : Pr} {s s' : SK} {v a : Value} {bf bw : Nat} {fr e : Int} {i : Ins} {l : List Value} {t : FE} {lo : List FE} {f : Fun}
theorem fmust_t (k : K (.tuple #[]) w) : callW PG N.fiber_must [vB true, vI e] K PK w := by
  refine fiber_must.ok ?_
  unfold fiber_must.C
  refine pu_not (cnd_f rfl k)
theorem fmust_f (k : PK (pan e) w) : callW PG N.fiber_must [vB false, vI e] K PK w := by
  refine fiber_must.ok ?_
  unfold fiber_must.C
  refine pu_not (cnd_t rfl k)
/-- Do: an error's number, the frames, the result. -/
def doF (p : Pr) (fr word : Int) (l : List Frm) (res : Int) : Int × List Frm × Int := match l with
  | [] => (220, [], res)
  | t :: lo =>
    let k := (wantW fr t.fn t.pc l (insF p t)).1.kind
    if k = 14 then (270, l, res) else if k = 1 ∨ k = 13 then stepF p fr l res else if k = 2 then ((passF p (insF p t).a word l).1, (passF p (insF p t).a word l).2, res) else ((passF p (-1) 0 l).1, (passF p (-1) 0 l).2, res)
theorem Inv.uu {l : List Frm} (hI : Inv p l) : ∀ t ∈ l, AllU t.regs := fun t ht => by
  obtain ⟨f, hf⟩ := hI.fi t ht
  exact hf.u
set_option maxHeartbeats 1000000 in
theorem do17_spec {word : Int} (good : Good p) (hI : Inv p s.frs) (hs : s.ok p F) (hF : ∀ x, x ∈ F → x ∈ R) (hlen : s.es.length + 1 < 1000) (hfr : fr ≠ 0) (hf : (bf, fbO s.b fr) ∈ R) (h : Ow B w (s.hp p ++ R))
    (k : ∀ (s' : SK) w', s'.b = s.b → s'.vF = s.vF → s'.ok p F → s'.frs = (doF p fr word s.frs s.res).2.1 → s'.res = (doF p fr word s.frs s.res).2.2 → Ow B w' (s'.hp p ++ R) → K (vI (doF p fr word s.frs s.res).1) w') :
    callW PG N.fiber_Fiber_Do [ptr bf, vU word] K PK w := by
  refine fiber_Fiber_Do.ok ?_
  unfold fiber_Fiber_Do.C
  refine al_rule h (l := [vI 0]) (by kernel_rfl) (fun be w1 hw1 => ?_)
  have hw1 := ins_perm hw1
  have hFe : ∀ x, x ∈ F → x ∈ (be, cel [vI 0] T.t_api_Errno) :: R := fun x hx => .tail _ (hF x hx)
  have hfe : (bf, fbO s.b fr) ∈ (be, cel [vI 0] T.t_api_Errno) :: R := .tail _ hf
  have fail : ∀ {er : Int} {w : World} {A : Hp}, Ow B w (A ++ (s.hp p ++ ((be, cel [vI 0] T.t_api_Errno) :: R))) → (doF p fr word s.frs s.res) = (er, s.frs, s.res) → LvW PG ({ target := .fn (.func N.fiber_caught) #[], args := #[ptr be] } :: []) (.panicking (pan er)) w (endV (fun w => ldW none (ptr be) w fun t => K t w) fun | .returned v, w' => K v w' | .panicked ch, w' => PK ch w' | .outgrown, _ => False) := fun {er w A} h he => by
    have h : Ow B w ((A ++ s.hp p) ++ (be, cel [vI 0] T.t_api_Errno) :: R) := by simpa using h
    refine fiber_lv_pan h (fun w2 h2 => ?_)
    refine ld_here h2 (List.mem_append_right _ (.head _)) rfl ?_
    rw [he] at k
    refine k s w2 rfl rfl hs rfl rfl ?_
    have h2 := h2.sub ((List.Sublist.refl _).append (List.sublist_cons_self _ _))
    rw [List.append_assoc] at h2
    exact h2.sub (List.sublist_append_right _ _)
  refine fnone_at hw1 (List.mem_append_right _ hfe) ?_
  repeat (first | refine pu_not ?_ | refine pu_eql ?_ | refine pu_neq ?_ | refine pu_lss ?_ | refine pu_leq ?_ | refine pu_gtr ?_ | refine pu_geq ?_ | refine pu_add ?_ | refine pu_sub ?_ | refine pu_mul ?_ | refine pu_neg ?_ | refine fa_at ?_ | refine nl_ptr ?_ | refine ex20 ?_ | refine ex21 ?_ | refine ex30 ?_ | refine ex31 ?_ | refine ex32 ?_ | refine ln_rule ?_ | refine lnT_rule ?_ | refine pu_and ?_ | refine pu_or ?_ | refine pu_xor ?_ | refine pu_seq ?_ | refine pu_sne ?_)
  have e0 : (!decide (fr = 0)) = true := by simp [hfr]
  rw [e0]
  refine fmust_t ?_
  cases hes : s.es with
  | nil =>
    have hnil : s.frs = [] := by simp [SK.frs, hes]
    refine want_end hs hes hfr (List.mem_append_right _ hfe) (.head _) hw1 (fun w2 hw2 => ?_)
    repeat (first | refine pu_not ?_ | refine pu_eql ?_ | refine pu_neq ?_ | refine pu_lss ?_ | refine pu_leq ?_ | refine pu_gtr ?_ | refine pu_geq ?_ | refine pu_add ?_ | refine pu_sub ?_ | refine pu_mul ?_ | refine pu_neg ?_ | refine fa_at ?_ | refine nl_ptr ?_ | refine ex20 ?_ | refine ex21 ?_ | refine ex30 ?_ | refine ex31 ?_ | refine ex32 ?_ | refine ln_rule ?_ | refine lnT_rule ?_ | refine pu_and ?_ | refine pu_or ?_ | refine pu_xor ?_ | refine pu_seq ?_ | refine pu_sne ?_)
    refine al_rule hw2 (l := wt0.cells (.slice none 0 0)) zwant (fun b20 w3 hw3 => ?_)
    refine st_here (A := []) hw3 (wt0.cells (.slice none 0 0)) rfl rfl rfl (by simp [wt_len]) (fun w4 hw4 => ?_)
    refine fmust_f ?_
    exact fail (A := [_]) hw4 (by rw [hnil]; rfl)
  | cons t lo =>
    have hfrs : s.frs = t.m :: lo.map FE.m := by simp [SK.frs, hes]
    obtain ⟨f, hfi⟩ := hI.fi t.m (by rw [hfrs]; exact .head _)
    obtain ⟨i, hi, hok, hrg, _, _, _, him⟩ := good.facts hfi
    have hins := hfi.ins hi
    have hdo : doF p fr word s.frs s.res = (if (wantW fr t.m.fn t.m.pc s.frs i).1.kind = 14 then (270, s.frs, s.res) else if (wantW fr t.m.fn t.m.pc s.frs i).1.kind = 1 ∨ (wantW fr t.m.fn t.m.pc s.frs i).1.kind = 13 then stepF p fr s.frs s.res else if (wantW fr t.m.fn t.m.pc s.frs i).1.kind = 2 then ((passF p i.a word s.frs).1, (passF p i.a word s.frs).2, s.res) else ((passF p (-1) 0 s.frs).1, (passF p (-1) 0 s.frs).2, s.res)) := by
      conv => lhs; unfold doF
      rw [hfrs]
      simp only [hins]
    refine want_at hs hes hFe hI.uu hfi.hf hi him hok hfr hfe hw1 (fun S v w2 hv hsl hw2 => ?_)
    generalize hW : wantW fr t.m.fn t.m.pc s.frs i = W at *
    repeat (first | refine pu_not ?_ | refine pu_eql ?_ | refine pu_neq ?_ | refine pu_lss ?_ | refine pu_leq ?_ | refine pu_gtr ?_ | refine pu_geq ?_ | refine pu_add ?_ | refine pu_sub ?_ | refine pu_mul ?_ | refine pu_neg ?_ | refine fa_at ?_ | refine nl_ptr ?_ | refine ex20 ?_ | refine ex21 ?_ | refine ex30 ?_ | refine ex31 ?_ | refine ex32 ?_ | refine ln_rule ?_ | refine lnT_rule ?_ | refine pu_and ?_ | refine pu_or ?_ | refine pu_xor ?_ | refine pu_seq ?_ | refine pu_sne ?_)
    refine al_rule hw2 (l := wt0.cells (.slice none 0 0)) zwant (fun b20 w3 hw3 => ?_)
    refine st_here (A := []) hw3 (W.1.cells v) rfl rfl (wt_plain _ hv) (by simp [wt_len]) (fun w4 hw4 => ?_)
    rw [wt_set _ _ _ rfl] at hw4
    refine fmust_t ?_
    repeat (first | refine pu_not ?_ | refine pu_eql ?_ | refine pu_neq ?_ | refine pu_lss ?_ | refine pu_leq ?_ | refine pu_gtr ?_ | refine pu_geq ?_ | refine pu_add ?_ | refine pu_sub ?_ | refine pu_mul ?_ | refine pu_neg ?_ | refine fa_at ?_ | refine nl_ptr ?_ | refine ex20 ?_ | refine ex21 ?_ | refine ex30 ?_ | refine ex31 ?_ | refine ex32 ?_ | refine ln_rule ?_ | refine lnT_rule ?_ | refine pu_and ?_ | refine pu_or ?_ | refine pu_xor ?_ | refine pu_seq ?_ | refine pu_sne ?_)
    refine ld_here hw4 (.head _) (v := vI W.1.kind) rfl ?_
    repeat (first | refine pu_not ?_ | refine pu_eql ?_ | refine pu_neq ?_ | refine pu_lss ?_ | refine pu_leq ?_ | refine pu_gtr ?_ | refine pu_geq ?_ | refine pu_add ?_ | refine pu_sub ?_ | refine pu_mul ?_ | refine pu_neg ?_ | refine fa_at ?_ | refine nl_ptr ?_ | refine ex20 ?_ | refine ex21 ?_ | refine ex30 ?_ | refine ex31 ?_ | refine ex32 ?_ | refine ln_rule ?_ | refine lnT_rule ?_ | refine pu_and ?_ | refine pu_or ?_ | refine pu_xor ?_ | refine pu_seq ?_ | refine pu_sne ?_)
    by_cases h14 : W.1.kind = 14
    · have e1 : (W.1.kind != 14) = false := by simp [h14]
      rw [e1]
      refine fmust_f ?_
      rw [if_pos h14] at hdo
      exact fail (A := _ :: S) hw4 hdo
    have e1 : (W.1.kind != 14) = true := by simp [h14]
    rw [e1]
    refine fmust_t ?_
    rw [if_neg h14] at hdo
    repeat (first | refine pu_not ?_ | refine pu_eql ?_ | refine pu_neq ?_ | refine pu_lss ?_ | refine pu_leq ?_ | refine pu_gtr ?_ | refine pu_geq ?_ | refine pu_add ?_ | refine pu_sub ?_ | refine pu_mul ?_ | refine pu_neg ?_ | refine fa_at ?_ | refine nl_ptr ?_ | refine ex20 ?_ | refine ex21 ?_ | refine ex30 ?_ | refine ex31 ?_ | refine ex32 ?_ | refine ln_rule ?_ | refine lnT_rule ?_ | refine pu_and ?_ | refine pu_or ?_ | refine pu_xor ?_ | refine pu_seq ?_ | refine pu_sne ?_)
    refine ld_here hw4 (.head _) (v := vI W.1.kind) rfl ?_
    have hw5 : Ow B w4 (s.hp p ++ ((be, cel [vI 0] T.t_api_Errno) :: (((b20, wnO (W.1.cells v)) :: S) ++ R))) := by
      have h1 : Ow B w4 (((b20, wnO (W.1.cells v)) :: S) ++ (s.hp p ++ ((be, cel [vI 0] T.t_api_Errno) :: R))) := hw4
      have h2 := h1.perm (List.perm_append_comm_assoc _ (s.hp p) _)
      exact h2.perm (List.Perm.append_left _ List.perm_middle)
    have hF5 : ∀ x, x ∈ F → x ∈ (be, cel [vI 0] T.t_api_Errno) :: (((b20, wnO (W.1.cells v)) :: S) ++ R) := fun x hx => .tail _ (List.mem_append_right _ (hF x hx))
    have hf5 : (bf, fbO s.b fr) ∈ s.hp p ++ ((be, cel [vI 0] T.t_api_Errno) :: (((b20, wnO (W.1.cells v)) :: S) ++ R)) := List.mem_append_right _ (.tail _ (List.mem_append_right _ hf))
    generalize hZ : ((b20, wnO (W.1.cells v)) :: S) = Z at *
    -- a refusal or none is told
    have tell : ∀ {er : Int} {s' : SK} {w : World}, s'.b = s.b → s'.vF = s.vF → s'.ok p F → doF p fr word s.frs s.res = (er, s'.frs, s'.res) → Ow B w (s'.hp p ++ ((be, cel [vI 0] T.t_api_Errno) :: (Z ++ R))) → stW 1 (ptr be) (vI er) (fun w57 => LvW PG ({ target := .fn (.func N.fiber_caught) #[], args := #[ptr be] } :: []) .returning w57 (endV (fun w => ldW none (ptr be) w fun t => K t w) fun | .returned v, w' => K v w' | .panicked ch, w' => PK ch w' | .outgrown, _ => False)) w := fun {er s' w} q1 q2 q3 hd h => by
      refine st1_here h rfl rfl (by simp) (fun w2 h2 => ?_)
      refine fiber_lv_ret ?_
      refine ld_here h2 (List.mem_append_right _ (.head _)) rfl ?_
      rw [hd] at k
      refine k s' w2 q1 q2 q3 rfl rfl (h2.sub ((List.Sublist.refl _).append (.cons _ (List.sublist_append_right _ _))))
    have hsafe := good.safeL hI
    repeat (first | refine pu_not ?_ | refine pu_eql ?_ | refine pu_neq ?_ | refine pu_lss ?_ | refine pu_leq ?_ | refine pu_gtr ?_ | refine pu_geq ?_ | refine pu_add ?_ | refine pu_sub ?_ | refine pu_mul ?_ | refine pu_neg ?_ | refine fa_at ?_ | refine nl_ptr ?_ | refine ex20 ?_ | refine ex21 ?_ | refine ex30 ?_ | refine ex31 ?_ | refine ex32 ?_ | refine ln_rule ?_ | refine lnT_rule ?_ | refine pu_and ?_ | refine pu_or ?_ | refine pu_xor ?_ | refine pu_seq ?_ | refine pu_sne ?_)
    refine cnd (fun h1 => ?_) (fun h1 => ?_)
    · have h1' : W.1.kind = 1 := by simpa using h1
      rw [if_pos (.inl h1')] at hdo
      have hdo : doF p fr word s.frs s.res = ((stepF p fr s.frs s.res).1, (stepF p fr s.frs s.res).2) := hdo
      refine cnd_t h1 ?_
      refine ⟨fun w => Ow B w (s.hp p ++ ((be, cel [vI 0] T.t_api_Errno) :: (Z ++ R))), hw5.drew, ?_⟩
      refine fb_lds (fun w h => h) hf5 ?_
      repeat (first | refine pu_not ?_ | refine pu_eql ?_ | refine pu_neq ?_ | refine pu_lss ?_ | refine pu_leq ?_ | refine pu_gtr ?_ | refine pu_geq ?_ | refine pu_add ?_ | refine pu_sub ?_ | refine pu_mul ?_ | refine pu_neg ?_ | refine fa_at ?_ | refine nl_ptr ?_ | refine ex20 ?_ | refine ex21 ?_ | refine ex30 ?_ | refine ex31 ?_ | refine ex32 ?_ | refine ln_rule ?_ | refine lnT_rule ?_ | refine pu_and ?_ | refine pu_or ?_ | refine pu_xor ?_ | refine pu_seq ?_ | refine pu_sne ?_)
      refine lds_here (fun w h => h) hf5 (v := vI fr) rfl ?_
      refine step_spec hs hF5 hsafe hlen hw5.drew (fun s' w6 q1 q2 q3 hs' h6 => ?_)
      refine tell q1 q2 hs' ?_ h6
      rw [hdo, q3.symm]
    have h1' : ¬ W.1.kind = 1 := by simpa using h1
    repeat (first | refine pu_not ?_ | refine pu_eql ?_ | refine pu_neq ?_ | refine pu_lss ?_ | refine pu_leq ?_ | refine pu_gtr ?_ | refine pu_geq ?_ | refine pu_add ?_ | refine pu_sub ?_ | refine pu_mul ?_ | refine pu_neg ?_ | refine fa_at ?_ | refine nl_ptr ?_ | refine ex20 ?_ | refine ex21 ?_ | refine ex30 ?_ | refine ex31 ?_ | refine ex32 ?_ | refine ln_rule ?_ | refine lnT_rule ?_ | refine pu_and ?_ | refine pu_or ?_ | refine pu_xor ?_ | refine pu_seq ?_ | refine pu_sne ?_)
    refine cnd (fun h13 => ?_) (fun h13 => ?_)
    · have h13' : W.1.kind = 13 := by simpa using h13
      rw [if_pos (.inr h13')] at hdo
      have hdo : doF p fr word s.frs s.res = ((stepF p fr s.frs s.res).1, (stepF p fr s.frs s.res).2) := hdo
      refine ⟨fun w => Ow B w (s.hp p ++ ((be, cel [vI 0] T.t_api_Errno) :: (Z ++ R))), hw5.drew, ?_⟩
      refine fb_lds (fun w h => h) hf5 ?_
      repeat (first | refine pu_not ?_ | refine pu_eql ?_ | refine pu_neq ?_ | refine pu_lss ?_ | refine pu_leq ?_ | refine pu_gtr ?_ | refine pu_geq ?_ | refine pu_add ?_ | refine pu_sub ?_ | refine pu_mul ?_ | refine pu_neg ?_ | refine fa_at ?_ | refine nl_ptr ?_ | refine ex20 ?_ | refine ex21 ?_ | refine ex30 ?_ | refine ex31 ?_ | refine ex32 ?_ | refine ln_rule ?_ | refine lnT_rule ?_ | refine pu_and ?_ | refine pu_or ?_ | refine pu_xor ?_ | refine pu_seq ?_ | refine pu_sne ?_)
      refine lds_here (fun w h => h) hf5 (v := vI fr) rfl ?_
      refine step_spec hs hF5 hsafe hlen hw5.drew (fun s' w6 q1 q2 q3 hs' h6 => ?_)
      refine tell q1 q2 hs' ?_ h6
      rw [hdo, q3.symm]
    have h13' : ¬ W.1.kind = 13 := by simpa using h13
    rw [if_neg (by omega)] at hdo
    repeat (first | refine pu_not ?_ | refine pu_eql ?_ | refine pu_neq ?_ | refine pu_lss ?_ | refine pu_leq ?_ | refine pu_gtr ?_ | refine pu_geq ?_ | refine pu_add ?_ | refine pu_sub ?_ | refine pu_mul ?_ | refine pu_neg ?_ | refine fa_at ?_ | refine nl_ptr ?_ | refine ex20 ?_ | refine ex21 ?_ | refine ex30 ?_ | refine ex31 ?_ | refine ex32 ?_ | refine ln_rule ?_ | refine lnT_rule ?_ | refine pu_and ?_ | refine pu_or ?_ | refine pu_xor ?_ | refine pu_seq ?_ | refine pu_sne ?_)
    refine cnd (fun h2 => ?_) (fun h2 => ?_)
    · have h2' : W.1.kind = 2 := by simpa using h2
      rw [if_pos h2'] at hdo
      refine fb_ldw hw5 hf5 ?_
      refine next_at hs hes hF5 hfi.hf hi hw5 (fun w6 h6 => ?_)
      repeat (first | refine pu_not ?_ | refine pu_eql ?_ | refine pu_neq ?_ | refine pu_lss ?_ | refine pu_leq ?_ | refine pu_gtr ?_ | refine pu_geq ?_ | refine pu_add ?_ | refine pu_sub ?_ | refine pu_mul ?_ | refine pu_neg ?_ | refine fa_at ?_ | refine nl_ptr ?_ | refine ex20 ?_ | refine ex21 ?_ | refine ex30 ?_ | refine ex31 ?_ | refine ex32 ?_ | refine ln_rule ?_ | refine lnT_rule ?_ | refine pu_and ?_ | refine pu_or ?_ | refine pu_xor ?_ | refine pu_seq ?_ | refine pu_sne ?_)
      refine al_rule h6 (l := (bare 0).cells) zins (fun bi w7 h7 => ?_)
      refine al_rule h7 (l := [vI 0, vI 0]) (by kernel_rfl) (fun bs w8 h8 => ?_)
      refine st_here (A := [_]) h8 i.cells rfl rfl (ins_plain _) (by simp [Ins.cells]) (fun w9 h9 => ?_)
      have e5 : ∀ i : Ins, (bare 0).cells.take 0 ++ i.cells ++ (bare 0).cells.drop (0 + 5) = i.cells := fun i => rfl
      rw [e5] at h9
      refine st_here (A := []) h9 [vI t.m.fn, vI t.m.pc] rfl rfl rfl (by simp) (fun w10 h10 => ?_)
      simp only [List.take_zero, List.nil_append, Nat.zero_add, List.drop_succ_cons, List.drop_zero, List.drop_nil, List.append_nil] at h10
      refine ⟨fun w => Ow B w ([(bs, cel [vI t.m.fn, vI t.m.pc] T.t_api_Site), (bi, iO i)] ++ (s.hp p ++ ((be, cel [vI 0] T.t_api_Errno) :: (Z ++ R)))), h10.drew, ?_⟩
      refine fb_lds (fun w h => h) (.tail _ (.tail _ hf5)) ?_
      repeat (first | refine pu_not ?_ | refine pu_eql ?_ | refine pu_neq ?_ | refine pu_lss ?_ | refine pu_leq ?_ | refine pu_gtr ?_ | refine pu_geq ?_ | refine pu_add ?_ | refine pu_sub ?_ | refine pu_mul ?_ | refine pu_neg ?_ | refine fa_at ?_ | refine nl_ptr ?_ | refine ex20 ?_ | refine ex21 ?_ | refine ex30 ?_ | refine ex31 ?_ | refine ex32 ?_ | refine ln_rule ?_ | refine lnT_rule ?_ | refine pu_and ?_ | refine pu_or ?_ | refine pu_xor ?_ | refine pu_seq ?_ | refine pu_sne ?_)
      refine lds_here (fun w h => h) (.tail _ (.head _)) (v := vI i.a) rfl ?_
      have h11 : Ow B w10.drew (s.hp p ++ ([(bs, cel [vI t.m.fn, vI t.m.pc] T.t_api_Site), (bi, iO i)] ++ ((be, cel [vI 0] T.t_api_Errno) :: (Z ++ R)))) := h10.drew.perm (List.perm_append_comm_assoc [_, _] (s.hp p) _)
      refine pass_spec hs (fun x hx => .tail _ (.tail _ (hF5 x hx))) hsafe h11 (fun s' w12 q1 q2 q3 q4 hs' h12 => ?_)
      refine tell q1 q2 hs' ?_ (h12.sub ((List.Sublist.refl _).append (List.sublist_append_right [_, _] _)))
      rw [hdo, q4, q3]
    · have h2' : ¬ W.1.kind = 2 := by simpa using h2
      rw [if_neg h2'] at hdo
      refine fb_ldw hw5 hf5 ?_
      refine pass_spec hs hF5 hsafe hw5 (fun s' w12 q1 q2 q3 q4 hs' h12 => ?_)
      refine tell q1 q2 hs' ?_ h12
      rw [hdo, q4, q3]
theorem do17_none {s : Value} {word : Int} (h : Ow B w H) (hs : Nofi H s) (k : ∀ w', Ow B w' H → K (vI 1) w') : callW PG N.fiber_Fiber_Do [s, vU word] K PK w := by
  refine fiber_Fiber_Do.ok ?_
  unfold fiber_Fiber_Do.C
  refine al_rule h (l := [vI 0]) (by kernel_rfl) (fun be w1 hw1 => ?_)
  refine nofi_spec hw1 (hs.mono fun x hx => .tail _ hx) ?_
  repeat (first | refine pu_not ?_ | refine pu_eql ?_ | refine pu_neq ?_ | refine pu_lss ?_ | refine pu_leq ?_ | refine pu_gtr ?_ | refine pu_geq ?_ | refine pu_add ?_ | refine pu_sub ?_ | refine pu_mul ?_ | refine pu_neg ?_ | refine fa_at ?_ | refine nl_ptr ?_ | refine ex20 ?_ | refine ex21 ?_ | refine ex30 ?_ | refine ex31 ?_ | refine ex32 ?_ | refine ln_rule ?_ | refine lnT_rule ?_ | refine pu_and ?_ | refine pu_or ?_ | refine pu_xor ?_ | refine pu_seq ?_ | refine pu_sne ?_)
  refine fmust_f ?_
  refine fiber_lv_pan (A := []) hw1 (fun w2 h2 => ?_)
  refine ld_here h2 (.head _) rfl ?_
  exact k _ (Ow.drop h2)
theorem run17_none {s : Value} {n : Int} (h : Ow B w H) (hs : Nofi H s) (k : ∀ w', Ow B w' H → K (.tuple #[vI 0, vI 1]) w') : callW PG N.fiber_Fiber_Run [s, vI n] K PK w := by
  refine fiber_Fiber_Run.ok ?_
  unfold fiber_Fiber_Run.C
  refine al_rule h (l := [vI 0]) (by kernel_rfl) (fun be w1 hw1 => ?_)
  refine nofi_spec hw1 (hs.mono fun x hx => .tail _ hx) ?_
  repeat (first | refine pu_not ?_ | refine pu_eql ?_ | refine pu_neq ?_ | refine pu_lss ?_ | refine pu_leq ?_ | refine pu_gtr ?_ | refine pu_geq ?_ | refine pu_add ?_ | refine pu_sub ?_ | refine pu_mul ?_ | refine pu_neg ?_ | refine fa_at ?_ | refine nl_ptr ?_ | refine ex20 ?_ | refine ex21 ?_ | refine ex30 ?_ | refine ex31 ?_ | refine ex32 ?_ | refine ln_rule ?_ | refine lnT_rule ?_ | refine pu_and ?_ | refine pu_or ?_ | refine pu_xor ?_ | refine pu_seq ?_ | refine pu_sne ?_)
  refine fmust_f ?_
  refine fiber_lv_pan (A := []) hw1 (fun w2 h2 => ?_)
  refine ld_here h2 (.head _) rfl ?_
  exact k _ (Ow.drop h2)
theorem fcopy_none {s : Value} (h : Ow B w H) (hs : Nofi H s) (k : K (.pointer none) w) : callW PG N.fiber_Fiber_Copy [s] K PK w := by
  refine fiber_Fiber_Copy.ok ?_
  unfold fiber_Fiber_Copy.C
  exact nofi_spec h hs (cnd_t rfl k)
theorem fstack_none {s : Value} (h : Ow B w H) (hs : Nofi H s) (k : K (.pointer none) w) : callW PG N.fiber_Fiber_Stack [s] K PK w := by
  refine fiber_Fiber_Stack.ok ?_
  unfold fiber_Fiber_Stack.C
  exact nofi_spec h hs (cnd_t rfl k)
theorem fended_none {s : Value} (h : Ow B w H) (hs : Nofi H s) (k : K (vB false) w) : callW PG N.fiber_Fiber_Ended [s] K PK w := by
  refine fiber_Fiber_Ended.ok ?_
  unfold fiber_Fiber_Ended.C
  refine nofi_spec h hs ?_
  repeat (first | refine pu_not ?_ | refine pu_eql ?_ | refine pu_neq ?_ | refine pu_lss ?_ | refine pu_leq ?_ | refine pu_gtr ?_ | refine pu_geq ?_ | refine pu_add ?_ | refine pu_sub ?_ | refine pu_mul ?_ | refine pu_neg ?_ | refine fa_at ?_ | refine nl_ptr ?_ | refine ex20 ?_ | refine ex21 ?_ | refine ex30 ?_ | refine ex31 ?_ | refine ex32 ?_ | refine ln_rule ?_ | refine lnT_rule ?_ | refine pu_and ?_ | refine pu_or ?_ | refine pu_xor ?_ | refine pu_seq ?_ | refine pu_sne ?_)
  exact cnd_f rfl k
theorem fended_spec (hs : s.ok p F) (hfr : fr ≠ 0) (hf : (bf, fbO s.b fr) ∈ H) (hm : (s.b, stO (s.cell p)) ∈ H) (h : Ow B w H) (k : K (vB (decide (s.frs = []))) w) : callW PG N.fiber_Fiber_Ended [ptr bf] K PK w := by
  refine fiber_Fiber_Ended.ok ?_
  unfold fiber_Fiber_Ended.C
  refine fnone_at h hf ?_
  repeat (first | refine pu_not ?_ | refine pu_eql ?_ | refine pu_neq ?_ | refine pu_lss ?_ | refine pu_leq ?_ | refine pu_gtr ?_ | refine pu_geq ?_ | refine pu_add ?_ | refine pu_sub ?_ | refine pu_mul ?_ | refine pu_neg ?_ | refine fa_at ?_ | refine nl_ptr ?_ | refine ex20 ?_ | refine ex21 ?_ | refine ex30 ?_ | refine ex31 ?_ | refine ex32 ?_ | refine ln_rule ?_ | refine lnT_rule ?_ | refine pu_and ?_ | refine pu_or ?_ | refine pu_xor ?_ | refine pu_seq ?_ | refine pu_sne ?_)
  refine cnd_t (by simp [hfr]) ?_
  refine fb_ldw h hf ?_
  refine depth_spec hs h hm ?_
  repeat (first | refine pu_not ?_ | refine pu_eql ?_ | refine pu_neq ?_ | refine pu_lss ?_ | refine pu_leq ?_ | refine pu_gtr ?_ | refine pu_geq ?_ | refine pu_add ?_ | refine pu_sub ?_ | refine pu_mul ?_ | refine pu_neg ?_ | refine fa_at ?_ | refine nl_ptr ?_ | refine ex20 ?_ | refine ex21 ?_ | refine ex30 ?_ | refine ex31 ?_ | refine ex32 ?_ | refine ln_rule ?_ | refine lnT_rule ?_ | refine pu_and ?_ | refine pu_or ?_ | refine pu_xor ?_ | refine pu_seq ?_ | refine pu_sne ?_)
  have e1 : ((s.es.length : Int) == 0) = decide (s.frs = []) := by
    rw [ibeq]
    refine decide_eq_decide.2 ?_
    rw [← List.length_eq_zero_iff, ← SK.es_len2]
    omega
  rw [e1]
  exact k
theorem fcopy_spec (hs : s.ok p F) (hr : ∀ m ∈ s.frs, m.regs.length ≤ 1000) (hfr : fr ≠ 0) (hf : (bf, fbO s.b fr) ∈ R) (h : Ow B w (s.hp p ++ R)) (k : ∀ (s' : SK) bf' w', s'.vF = s.vF → s'.res = s.res → s'.frs = s.frs → s'.ok p F → Ow B w' ((bf', fbO s'.b fr) :: (s'.hp p ++ (s.hp p ++ R))) → K (ptr bf') w') : callW PG N.fiber_Fiber_Copy [ptr bf] K PK w := by
  refine fiber_Fiber_Copy.ok ?_
  unfold fiber_Fiber_Copy.C
  have hfm : (bf, fbO s.b fr) ∈ s.hp p ++ R := List.mem_append_right _ hf
  refine fnone_at h hfm (cnd_f (by simp [hfr]) ?_)
  refine ⟨fun w => Ow B w (s.hp p ++ R), h.drew, ?_⟩
  refine fb_lds (fun w h => h) hfm ?_
  repeat (first | refine pu_not ?_ | refine pu_eql ?_ | refine pu_neq ?_ | refine pu_lss ?_ | refine pu_leq ?_ | refine pu_gtr ?_ | refine pu_geq ?_ | refine pu_add ?_ | refine pu_sub ?_ | refine pu_mul ?_ | refine pu_neg ?_ | refine fa_at ?_ | refine nl_ptr ?_ | refine ex20 ?_ | refine ex21 ?_ | refine ex30 ?_ | refine ex31 ?_ | refine ex32 ?_ | refine ln_rule ?_ | refine lnT_rule ?_ | refine pu_and ?_ | refine pu_or ?_ | refine pu_xor ?_ | refine pu_seq ?_ | refine pu_sne ?_)
  refine lds_here (fun w h => h) hfm (v := vI fr) rfl ?_
  refine scopy_spec hs hr h.drew (fun s' w1 q1 q2 q3 hs' h1 => ⟨h1.sub (List.sublist_append_right _ _), ?_⟩)
  refine pu_build [ptr s'.b] (by kernel_rfl) ?_
  refine pu_build [ptr s'.b, vI fr] (by kernel_rfl) ?_
  refine al_rule h1 (l := [ptr s'.b, vI fr]) rfl (fun bf' w2 h2 => ⟨(Ow.drop h2).sub (List.sublist_append_right _ _), ?_⟩)
  exact k s' bf' w2 q1 q2 q3 hs' h2
theorem fstack_spec (hs : s.ok p F) (hr : ∀ m ∈ s.frs, m.regs.length ≤ 1000) (hfr : fr ≠ 0) (hf : (bf, fbO s.b fr) ∈ R) (h : Ow B w (s.hp p ++ R)) (k : ∀ (s' : SK) w', s'.vF = s.vF → s'.res = s.res → s'.frs = s.frs → s'.ok p F → Ow B w' (s'.hp p ++ (s.hp p ++ R)) → K (ptr s'.b) w') : callW PG N.fiber_Fiber_Stack [ptr bf] K PK w := by
  refine fiber_Fiber_Stack.ok ?_
  unfold fiber_Fiber_Stack.C
  have hfm : (bf, fbO s.b fr) ∈ s.hp p ++ R := List.mem_append_right _ hf
  refine fnone_at h hfm (cnd_f (by simp [hfr]) ?_)
  refine fb_ldw h hfm ?_
  exact scopy_spec hs hr h k
theorem fnew_spec {x : Int} {ws : List Int} (hv : fsIn X v p.fs) (ha : Sl X a (rgs ws)) (hX : ∀ x, x ∈ X → x ∈ H) (hlen : p.fs.length ≤ 1000) (hwl : ws.length ≤ 1000) (h : Ow B w H)
    (kfr : ¬ (1 ≤ fr ∧ fr ≤ 256) → ∀ w', Ow B w' H → K (.tuple #[.pointer none, vI 2]) w')
    (kbad : 1 ≤ fr ∧ fr ≤ 256 → okP' p = false → ∀ w', Ow B w' H → K (.tuple #[.pointer none, vI 2]) w')
    (krange : 1 ≤ fr ∧ fr ≤ 256 → okP' p = true → (∀ f, 0 ≤ x → p.fs[x.toNat]? = some f → ¬ (ws.length : Int) ≤ f.regs) → ∀ w', Ow B w' H → K (.tuple #[.pointer none, vI 4]) w')
    (kok : 1 ≤ fr ∧ fr ≤ 256 → okP' p = true → ∀ f, 0 ≤ x → p.fs[x.toNat]? = some f → (ws.length : Int) ≤ f.regs → ∀ (s : SK) (F : Hp) bf w', s.res = 0 → s.frs = [begF x.toNat f ws] → s.ok p F → Ow B w' ((bf, fbO s.b fr) :: (s.hp p ++ (F ++ H))) → K (.tuple #[ptr bf, vI 0]) w') :
    callW PG N.fiber_New [.agg (p.cells v).toArray, vI fr, vI x, a] K PK w := by
  refine fiber_New.ok ?_
  unfold fiber_New.C
  refine al_rule h (l := p.cells v) rfl (fun b2 w1 h1 => ?_)
  repeat (first | refine pu_not ?_ | refine pu_eql ?_ | refine pu_neq ?_ | refine pu_lss ?_ | refine pu_leq ?_ | refine pu_gtr ?_ | refine pu_geq ?_ | refine pu_add ?_ | refine pu_sub ?_ | refine pu_mul ?_ | refine pu_neg ?_ | refine fa_at ?_ | refine nl_ptr ?_ | refine ex20 ?_ | refine ex21 ?_ | refine ex30 ?_ | refine ex31 ?_ | refine ex32 ?_ | refine ln_rule ?_ | refine lnT_rule ?_ | refine pu_and ?_ | refine pu_or ?_ | refine pu_xor ?_ | refine pu_seq ?_ | refine pu_sne ?_)
  refine cnd (fun h0 => ?_) (fun h0 => ?_)
  · have h0 : fr < 1 := by simpa using h0
    exact kfr (by omega) _ h1.drop
  have h0 : 1 ≤ fr := by simp at h0; omega
  repeat (first | refine pu_not ?_ | refine pu_eql ?_ | refine pu_neq ?_ | refine pu_lss ?_ | refine pu_leq ?_ | refine pu_gtr ?_ | refine pu_geq ?_ | refine pu_add ?_ | refine pu_sub ?_ | refine pu_mul ?_ | refine pu_neg ?_ | refine fa_at ?_ | refine nl_ptr ?_ | refine ex20 ?_ | refine ex21 ?_ | refine ex30 ?_ | refine ex31 ?_ | refine ex32 ?_ | refine ln_rule ?_ | refine lnT_rule ?_ | refine pu_and ?_ | refine pu_or ?_ | refine pu_xor ?_ | refine pu_seq ?_ | refine pu_sne ?_)
  refine cnd (fun h0 => ?_) (fun h2 => ?_)
  · have h0 : 256 < fr := by simpa using h0
    exact kfr (by omega) _ h1.drop
  have h2 : fr ≤ 256 := by simpa using h2
  refine ldn_here h1 (.head _) (vs := p.cells v) rfl rfl ?_
  refine new_spec hv ha (fun x hx => .tail _ (hX x hx)) hlen hwl h1 (fun hb w2 hw2 => ?_) (fun ho hb w2 hw2 => ?_) (fun ho f hx0 hf hl s F w2 q1 q2 hs hw2 => ?_)
  · repeat (first | refine pu_not ?_ | refine pu_eql ?_ | refine pu_neq ?_ | refine pu_lss ?_ | refine pu_leq ?_ | refine pu_gtr ?_ | refine pu_geq ?_ | refine pu_add ?_ | refine pu_sub ?_ | refine pu_mul ?_ | refine pu_neg ?_ | refine fa_at ?_ | refine nl_ptr ?_ | refine ex20 ?_ | refine ex21 ?_ | refine ex30 ?_ | refine ex31 ?_ | refine ex32 ?_ | refine ln_rule ?_ | refine lnT_rule ?_ | refine pu_and ?_ | refine pu_or ?_ | refine pu_xor ?_ | refine pu_seq ?_ | refine pu_sne ?_)
    refine cnd_t rfl ?_
    exact kbad ⟨h0, h2⟩ hb _ hw2.drop
  · repeat (first | refine pu_not ?_ | refine pu_eql ?_ | refine pu_neq ?_ | refine pu_lss ?_ | refine pu_leq ?_ | refine pu_gtr ?_ | refine pu_geq ?_ | refine pu_add ?_ | refine pu_sub ?_ | refine pu_mul ?_ | refine pu_neg ?_ | refine fa_at ?_ | refine nl_ptr ?_ | refine ex20 ?_ | refine ex21 ?_ | refine ex30 ?_ | refine ex31 ?_ | refine ex32 ?_ | refine ln_rule ?_ | refine lnT_rule ?_ | refine pu_and ?_ | refine pu_or ?_ | refine pu_xor ?_ | refine pu_seq ?_ | refine pu_sne ?_)
    refine cnd_t rfl ?_
    exact krange ⟨h0, h2⟩ ho hb _ hw2.drop
  · repeat (first | refine pu_not ?_ | refine pu_eql ?_ | refine pu_neq ?_ | refine pu_lss ?_ | refine pu_leq ?_ | refine pu_gtr ?_ | refine pu_geq ?_ | refine pu_add ?_ | refine pu_sub ?_ | refine pu_mul ?_ | refine pu_neg ?_ | refine fa_at ?_ | refine nl_ptr ?_ | refine ex20 ?_ | refine ex21 ?_ | refine ex30 ?_ | refine ex31 ?_ | refine ex32 ?_ | refine ln_rule ?_ | refine lnT_rule ?_ | refine pu_and ?_ | refine pu_or ?_ | refine pu_xor ?_ | refine pu_seq ?_ | refine pu_sne ?_)
    refine cnd_f rfl ?_
    refine pu_build [ptr s.b] (by kernel_rfl) ?_
    refine pu_build [ptr s.b, vI fr] (by kernel_rfl) ?_
    refine al_rule hw2 (l := [ptr s.b, vI fr]) rfl (fun bf w3 h3 => ?_)
    exact kok ⟨h0, h2⟩ ho f hx0 hf hl s F bf w3 q1 q2 hs (h3.sub (.cons_cons _ ((List.Sublist.refl _).append ((List.Sublist.refl _).append (List.sublist_cons_self _ _)))))
end
end Go.Proofs.YtkkkcafkepnecaaGreat

