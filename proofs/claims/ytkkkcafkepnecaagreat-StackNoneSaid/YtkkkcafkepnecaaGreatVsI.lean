/- Stacks: Step. -/
import Derived.Test.YtkkkcafkepnecaaGreatVsH
set_option linter.unusedVariables false
set_option linter.unusedSimpArgs false
namespace Go.Proofs.YtkkkcafkepnecaaGreat
open Go Go.RowKit Vc Ar
attribute [local irreducible] binV Op.unary convert nlW faW ldS ldW ixS ixA ixV ixT exW lnS lnT pu stW alW opW opU bsW mkW

section
variable {B w : World} {H X F Q R : Hp} {K : Value → World → Prop} {PK : List PanicEntry → World → Prop} {KK : Value → Prop} {e : Int} {b n cap g : Nat} {c pre post : List Value} {t u : FE} {i : Ins} {p : Pr} {s : SK} {lo : List FE} {f : Fun}
/-- What a local instruction does that is not refused: the frames (the top first), the result. -/
def doneF (p : Pr) (i : Ins) (t : Frm) (lo : List Frm) (res : Int) : List Frm × Int :=
  let t' : Frm := { t with pc := t.pc + 1 }
  if i.op = 1 then ({ t' with regs := t.regs.set i.a.toNat i.imm } :: lo, res)
  else if i.op = 2 then ({ t' with regs := t.regs.set i.a.toNat (regR t.regs i.b) } :: lo, res)
  else if i.op = 3 then ({ t' with regs := t.regs.set i.a.toNat (aDo i.imm (regR t.regs i.b) (regR t.regs i.c)).1 } :: lo, res)
  else if i.op = 4 then ({ t with pc := i.imm.toNat } :: lo, res)
  else if i.op = 5 then ((if regR t.regs i.a = 0 then t' else { t with pc := i.imm.toNat }) :: lo, res)
  else if i.op = 8 then (newF i (p.fs.getD i.imm.toNat ⟨0, []⟩) t.regs :: t' :: lo, res)
  else if i.op = 9 then (match lo with | [] => ([], regR t.regs i.a) | u :: lo' => ({ u with regs := u.regs.set t.dest (regR t.regs i.a) } :: lo', res))
  else (t' :: lo, res)
def insF (p : Pr) (t : Frm) : Ins := ((p.fs[t.fn]?.bind fun f => f.code[t.pc]?).getD (bare 0))
/-- A step: an error's number, the frames, the result. -/
def stepF (p : Pr) (most : Int) (l : List Frm) (res : Int) : Int × List Frm × Int :=
  if most < 1 then (2, l, res) else match l with
  | [] => (220, [], res)
  | t :: lo => if refE t (lo.length + 1) (insF p t) most = 0 then (0, doneF p (insF p t) t lo res) else (refE t (lo.length + 1) (insF p t) most, l, res)
theorem Safe.ins {t : Frm} {lo : List Frm} (h : Safe p t lo f i) : insF p t = i := by
  unfold insF
  rw [h.hf]
  simp [h.hi]
def SK.up (s : SK) (g : Nat) (pre post : List Value) (t' : FE) (lo : List FE) : SK := { s with Sf := [(g, frO pre t'.row post)], es := t' :: lo }
theorem SK.up_hp {t' : FE} {R : Hp} : (SK.up s g pre post t' lo).hp p ++ R = VH s.b g (s.cell p) pre post t' (ffoot lo ++ R) := by
  simp [SK.up, SK.hp, ffoot, SK.cell]
theorem SK.up_ok {t' : FE} (hs : s.ok p F) (he : s.es = t :: lo) (hup : ∀ t' : FE, Fro T.t_api_Frame 4 [(g, frO pre t'.row post)] s.vfr (frw (t' :: lo))) (ht : t'.ok) : (SK.up s g pre post t' lo).ok p F :=
  ⟨hs.hf, hup t', fun e hem => by
    rcases List.mem_cons.1 hem with rfl | hem
    · exact ht
    · exact hs.eok e (by rw [he]; exact .tail _ hem), by
    have := hs.len
    rw [he] at this
    exact this⟩
theorem setPc_ok {pc : Nat} (h : t.ok) : (t.setPc pc).ok := h
theorem localI_op (h : localI i = true) : i.op = 1 ∨ i.op = 2 ∨ i.op = 3 ∨ i.op = 4 ∨ i.op = 5 ∨ i.op = 8 ∨ i.op = 9 ∨ i.op = 19 := by
  unfold localI at h
  rw [Bool.and_eq_true] at h
  have h1 := ok_nn h.1
  have h2 := of_decide_eq_true h.2
  omega
/-- What the table's function does. -/
theorem done_spec (hs : s.ok p F) (hF : ∀ x, x ∈ F → x ∈ R) (he : s.es = t :: lo) (sf : Safe p { t.m with pc := t.m.pc - 1 } (lo.map FE.m) f i) (hpc : 1 ≤ t.m.pc) (hloc : localI i = true) (hlen : lo.length + 2 < 1000) (h : Ow B w (s.hp p ++ R))
    (k : ∀ (s' : SK) r w', s'.b = s.b → s'.vF = s.vF → (s'.frs, s'.res) = doneF p i { t.m with pc := t.m.pc - 1 } (lo.map FE.m) s.res → s'.ok p F → Ow B w' (s'.hp p ++ R) → K r w') :
    callV PG ((lk doesS i.op).getD .nilFunc) [ptr s.b, .agg i.cells.toArray] K PK w := by
  obtain ⟨g, pre, post, cap, hv, hSf, hvfr, hh, hup⟩ := SK.view hs he
  have hto : t.ok := hs.eok t (by rw [he]; exact .head _)
  have hnn := ok_nn sf.ok
  have him := sf.im
  have ha := sf.ha
  have hb := sf.hb
  have hc := sf.hc
  have hrg := sf.hl
  have hpc1 : t.m.pc - 1 + 1 = t.m.pc := by omega
  have htm : ({ t.m with pc := t.m.pc - 1 + 1 } : Frm) = t.m := by
    have : t.m.pc - 1 + 1 = t.m.pc := by omega
    rw [this]
  simp only at ha hb hc hrg
  have up : ∀ (t' : FE) (r : Value) (w' : World), t'.ok → (t'.m :: lo.map FE.m, s.res) = doneF p i { t.m with pc := t.m.pc - 1 } (lo.map FE.m) s.res → Ow B w' (VH s.b g (s.cell p) pre post t' (ffoot lo ++ R)) → K r w' := fun t' r w' ht hd hw =>
    k (SK.up s g pre post t' lo) r w' rfl rfl hd (SK.up_ok hs he hup ht) (by rw [SK.up_hp]; exact hw)
  rcases localI_op hloc with h1 | h1 | h1 | h1 | h1 | h1 | h1 | h1
  · have e : (lk doesS i.op).getD .nilFunc = fnc N.stack_Stack_consts #[] := by rw [h1]; rfl
    rw [e]
    rw [hh] at h
    refine callV_fn stack_Stack_consts.okf (consts_spec hv hto hnn.2.2.1 (ha (.inl h1)) h (fun S' w' ho' h' => up _ _ w' ho' ?_ h'))
    unfold doneF
    rw [if_pos h1]
    simp only [hpc1]
  · have e : (lk doesS i.op).getD .nilFunc = fnc N.stack_Stack_moves #[] := by rw [h1]; rfl
    rw [e]
    rw [hh] at h
    refine callV_fn stack_Stack_moves.okf (moves_spec hv hto hnn.2.2.1 (ha (.inr (.inl h1))) hnn.2.2.2.1 (hb (.inl h1)) h (fun S' w' ho' h' => up _ _ w' ho' ?_ h'))
    unfold doneF
    rw [if_neg (by omega), if_pos h1]
    simp only [hpc1]
  · have e : (lk doesS i.op).getD .nilFunc = fnc N.stack_Stack_ariths #[] := by rw [h1]; rfl
    rw [e]
    rw [hh] at h
    refine callV_fn stack_Stack_ariths.okf (ariths_spec hv hto sf.hu him hnn.2.2.1 (ha (.inr (.inr (.inl h1)))) hnn.2.2.2.1 (hb (.inr h1)) hnn.2.2.2.2 (hc h1) h (fun S' w' ho' h' => up _ _ w' ho' ?_ h'))
    unfold doneF
    rw [if_neg (by omega), if_neg (by omega), if_pos h1]
    simp only [hpc1]
  · have e : (lk doesS i.op).getD .nilFunc = fnc N.stack_Stack_jumps #[] := by rw [h1]; rfl
    rw [e]
    rw [hh] at h
    refine callV_fn stack_Stack_jumps.okf (jumps_spec hv him h (fun w' h' => up _ _ w' (setPc_ok hto) ?_ h'))
    unfold doneF
    rw [if_neg (by omega), if_neg (by omega), if_neg (by omega), if_pos h1]
  · have e : (lk doesS i.op).getD .nilFunc = fnc N.stack_Stack_ifs #[] := by rw [h1]; rfl
    rw [e]
    rw [hh] at h
    refine callV_fn stack_Stack_ifs.okf (ifs_spec hv hto him hnn.2.2.1 (ha (.inr (.inr (.inr (.inl h1))))) h (fun w' h' => ?_))
    by_cases hz : regR t.m.regs i.a = 0
    · rw [if_pos hz] at h'
      refine up t _ w' hto ?_ h'
      unfold doneF
      rw [if_neg (by omega), if_neg (by omega), if_neg (by omega), if_neg (by omega), if_pos h1]
      simp only [hz, if_true, hpc1]
    · rw [if_neg hz] at h'
      refine up (t.setPc i.imm.toNat) _ w' (setPc_ok hto) ?_ h'
      unfold doneF
      rw [if_neg (by omega), if_neg (by omega), if_neg (by omega), if_neg (by omega), if_pos h1]
      simp only [hz, if_false]
  · have e : (lk doesS i.op).getD .nilFunc = fnc N.stack_Stack_calls #[] := by rw [h1]; rfl
    rw [e]
    obtain ⟨hbc, f', hf', hcf, hfr⟩ := sf.call h1
    refine callV_fn stack_Stack_calls.okf (calls_spec hs he hF him hnn.2.2.1 hnn.2.2.2.1 hnn.2.2.2.2 hbc hf' hcf hfr hlen (by omega) h (fun s' w' e1 e2 e3 e4 hs' h' => k s' _ w' e1 e2 ?_ hs' h'))
    unfold doneF
    rw [if_neg (by omega), if_neg (by omega), if_neg (by omega), if_neg (by omega), if_neg (by omega), if_pos h1]
    have e5 : p.fs.getD i.imm.toNat ⟨0, []⟩ = f' := by rw [List.getD, hf']; rfl
    rw [e3, e4, e5]
    simp only [htm, SK.frs, he, List.map_cons]
  · have e : (lk doesS i.op).getD .nilFunc = fnc N.stack_Stack_returns #[] := by rw [h1]; rfl
    rw [e]
    refine callV_fn stack_Stack_returns.okf (returns_spec hs he (fun u lo' hlo => ?_) hnn.2.2.1 (ha (.inr (.inr (.inr (.inr h1))))) h (fun s' w' e1 e2 e3 hs' h' => k s' _ w' e1 e2 ?_ hs' h'))
    · exact sf.ret h1 u.m (lo'.map FE.m) (by rw [hlo]; rfl)
    · unfold doneF
      rw [if_neg (by omega), if_neg (by omega), if_neg (by omega), if_neg (by omega), if_neg (by omega), if_neg (by omega), if_pos h1]
      rcases e3 with ⟨rfl, e4, e5⟩ | ⟨u, lo', rfl, e4, e5⟩
      · rw [e4, e5]; rfl
      · rw [e4, e5]; rfl
  · have e : (lk doesS i.op).getD .nilFunc = fnc N.stack_Stack_yields #[] := by rw [h1]; rfl
    rw [e]
    rw [hh] at h
    refine callV_fn stack_Stack_yields.okf (yields_spec h (fun w' h' => up t _ w' hto ?_ h'))
    unfold doneF
    rw [if_neg (by omega), if_neg (by omega), if_neg (by omega), if_neg (by omega), if_neg (by omega), if_neg (by omega), if_neg (by omega)]
    simp only [htm]
/-- Is a stack's top fit for a step? -/
def SafeL (p : Pr) (l : List Frm) : Prop := ∀ t lo, l = t :: lo → ∃ f i, Safe p t lo f i
set_option maxHeartbeats 1000000 in
theorem step_spec {most : Int} (hs : s.ok p F) (hF : ∀ x, x ∈ F → x ∈ R) (hsl : SafeL p s.frs) (hlen : s.es.length + 1 < 1000) (h : Ow B w (s.hp p ++ R))
    (k : ∀ (s' : SK) w', s'.b = s.b → s'.vF = s.vF → (s'.frs, s'.res) = (stepF p most s.frs s.res).2 → s'.ok p F → Ow B w' (s'.hp p ++ R) → K (vI (stepF p most s.frs s.res).1) w') : callW PG N.stack_Stack_Step [ptr s.b, vI most] K PK w := by
  refine stack_Stack_Step.ok ?_
  unfold stack_Stack_Step.C
  have c6 : ∀ s : SK, (s.cell p)[6]? = some (vB true) := fun s => rfl
  have hin : ∀ (s : SK) (A : Hp), (s.b, stO (s.cell p)) ∈ A ++ (s.hp p ++ R) := fun s A => List.mem_append_right _ (.head _)
  refine al_rule h (l := [vI 0]) (by kernel_rfl) (fun be w1 hw1 => ?_)
  -- an error is told
  have fail : ∀ {er : Int} {w : World}, Ow B w ((be, cel [vI 0] T.t_api_Errno) :: (s.hp p ++ R)) → (stepF p most s.frs s.res) = (er, s.frs, s.res) → LvW PG ({ target := .fn (.func N.stack_caught) #[], args := #[ptr be] } :: []) (.panicking (pan er)) w (endV (fun w19 => ldW none (ptr be) w19 fun t20 => K t20 w19) fun | .returned v, w' => K v w' | .panicked ch, w' => PK ch w' | .outgrown, _ => False) := fun h he => by
    refine stack_lv_pan (A := []) h (fun w2 h2 => ?_)
    refine ld_here h2 (.head _) rfl ?_
    have := k s w2 rfl rfl (by rw [he]) hs (Ow.drop h2)
    rw [he] at this
    exact this
  refine none_at hw1 (hin s [_]) (c6 s) ?_
  repeat (first | refine pu_not ?_ | refine pu_eql ?_ | refine pu_neq ?_ | refine pu_lss ?_ | refine pu_leq ?_ | refine pu_gtr ?_ | refine pu_geq ?_ | refine pu_add ?_ | refine pu_sub ?_ | refine pu_mul ?_ | refine pu_neg ?_ | refine fa_at ?_ | refine nl_ptr ?_ | refine ex20 ?_ | refine ex21 ?_ | refine ex30 ?_ | refine ex31 ?_ | refine ex32 ?_ | refine ln_rule ?_ | refine lnT_rule ?_ | refine pu_and ?_ | refine pu_or ?_ | refine pu_xor ?_ | refine pu_seq ?_ | refine pu_sne ?_)
  refine must_t ?_
  repeat (first | refine pu_not ?_ | refine pu_eql ?_ | refine pu_neq ?_ | refine pu_lss ?_ | refine pu_leq ?_ | refine pu_gtr ?_ | refine pu_geq ?_ | refine pu_add ?_ | refine pu_sub ?_ | refine pu_mul ?_ | refine pu_neg ?_ | refine fa_at ?_ | refine nl_ptr ?_ | refine ex20 ?_ | refine ex21 ?_ | refine ex30 ?_ | refine ex31 ?_ | refine ex32 ?_ | refine ln_rule ?_ | refine lnT_rule ?_ | refine pu_and ?_ | refine pu_or ?_ | refine pu_xor ?_ | refine pu_seq ?_ | refine pu_sne ?_)
  refine must_b (fun hm => ?_) (fun hm => ?_)
  rotate_left
  · exact fail hw1 (by unfold stepF; rw [if_pos (by simp at hm; omega)])
  have hm : ¬ most < 1 := by simp at hm; omega
  cases hes : s.es with
  | nil =>
    have hnil : s.frs = [] := by simp [SK.frs, hes]
    refine stack_Stack_ins.ok ?_
    unfold stack_Stack_ins.C
    refine al_rule hw1 (l := (bare 0).cells) zins (fun bi w2 hw2 => ?_)
    obtain ⟨a0, c0, hv0, _⟩ := hs.fro.len
    rw [frw_len, hes] at hv0
    refine top_end hw2 (hin s [_, _]) (c6 s) (a := a0) (c := c0) (by simp only [SK.cell, hv0]; rfl) ?_
    exact fail (Ow.drop (p := (bi, cel (bare 0).cells T.t_api_Ins)) hw2) (by unfold stepF; rw [if_neg hm, hnil])
  | cons t lo =>
    have hfrs : s.frs = t.m :: lo.map FE.m := by simp [SK.frs, hes]
    obtain ⟨f, i, sf⟩ := hsl _ _ hfrs
    have hlen' : lo.length + 2 < 1000 := by rw [hes] at hlen; simp only [List.length_cons] at hlen; omega
    have hto : t.ok := hs.eok t (by rw [hes]; exact .head _)
    have hstep : stepF p most s.frs s.res = (if refE t.m (lo.length + 1) i most = 0 then (0, doneF p i t.m (lo.map FE.m) s.res) else (refE t.m (lo.length + 1) i most, s.frs, s.res)) := by
      unfold stepF
      rw [if_neg hm, hfrs]
      simp only [Safe.ins sf, List.length_map]
    have pm : ∀ (A : List (Nat × Obj)) (s : SK), (A ++ (s.hp p ++ R)).Perm (s.hp p ++ (A ++ R)) := fun A s => List.perm_append_comm_assoc A (s.hp p) R
    refine sins_spec (R := (be, cel [vI 0] T.t_api_Errno) :: R) hs hes (fun x hx => .tail _ (hF x hx)) sf.hf sf.hi (hw1.perm (pm [_] s)) (fun w2 hw2 => ?_)
    refine al_rule hw2 (l := (bare 0).cells) zins (fun bi w3 hw3 => ?_)
    refine st_here (A := []) hw3 i.cells rfl rfl (ins_plain _) (by simp [Ins.cells]) (fun w4 hw4 => ?_)
    have e3 : (bare 0).cells.take 0 ++ i.cells ++ (bare 0).cells.drop (0 + 5) = i.cells := rfl
    rw [e3] at hw4
    refine ldn_here hw4 (.head _) (vs := i.cells) rfl rfl ?_
    have hw4 : Ow B w4 (s.hp p ++ ((bi, iO i) :: (be, cel [vI 0] T.t_api_Errno) :: R)) := hw4.perm (pm [(bi, iO i)] s |>.trans (by rfl) |> fun h => by simpa using (List.perm_append_comm_assoc [(bi, iO i)] (s.hp p) ((be, cel [vI 0] T.t_api_Errno) :: R)))
    refine refused_spec hs hes sf hw4 (fun hr w5 hw5 => ?_) (fun hr w5 hw5 => ?_)
    rotate_left
    · have h6 : Ow B w5 ((be, cel [vI 0] T.t_api_Errno) :: (s.hp p ++ R)) := by
        have := hw5.perm (List.perm_append_comm_assoc (s.hp p) [(bi, iO i), (be, cel [vI 0] T.t_api_Errno)] R)
        exact Ow.drop (p := (bi, iO i)) this
      exact fail h6 (by rw [hstep, if_neg hr])
    rw [if_pos hr] at hstep
    obtain ⟨g, pre, post, cap, hv, hSf, hvfr, hh, hup⟩ := SK.view hs hes
    rw [hh] at hw5
    refine vtop (A := []) hv hw5 (fun w6 hw6 => ?_)
    repeat (first | refine pu_not ?_ | refine pu_eql ?_ | refine pu_neq ?_ | refine pu_lss ?_ | refine pu_leq ?_ | refine pu_gtr ?_ | refine pu_geq ?_ | refine pu_add ?_ | refine pu_sub ?_ | refine pu_mul ?_ | refine pu_neg ?_ | refine fa_at ?_ | refine nl_ptr ?_ | refine ex20 ?_ | refine ex21 ?_ | refine ex30 ?_ | refine ex31 ?_ | refine ex32 ?_ | refine ln_rule ?_ | refine lnT_rule ?_ | refine pu_and ?_ | refine pu_or ?_ | refine pu_xor ?_ | refine pu_seq ?_ | refine pu_sne ?_)
    refine ld_here hw6 (.tail _ (.head _)) (row_at hv.pl (v := vI t.m.pc) rfl) ?_
    have hpcb := sf.pcb
    repeat (first | refine pu_not ?_ | refine pu_eql ?_ | refine pu_neq ?_ | refine pu_lss ?_ | refine pu_leq ?_ | refine pu_gtr ?_ | refine pu_geq ?_ | refine pu_add ?_ | refine pu_sub ?_ | refine pu_mul ?_ | refine pu_neg ?_ | refine fa_at ?_ | refine nl_ptr ?_ | refine ex20 ?_ | refine ex21 ?_ | refine ex30 ?_ | refine ex31 ?_ | refine ex32 ?_ | refine ln_rule ?_ | refine lnT_rule ?_ | refine pu_and ?_ | refine pu_or ?_ | refine pu_xor ?_ | refine pu_seq ?_ | refine pu_sne ?_)
    have e4 : IntKind.i64.wrap ((t.m.pc : Int) + 1) = ((t.m.pc + 1 : Nat) : Int) := by rw [wrap64_in (by omega) (by omega)]; omega
    rw [e4]
    have hl : lo.length * 4 + 1 < (pre ++ (t.row ++ post)).length := by rw [List.length_append, hv.pl, List.length_append]; simp [FE.row, frow]; omega
    refine st1_here (A := [_]) hw6 rfl rfl hl (fun w7 hw7 => ?_)
    rw [row_set hv.pl (by simp [FE.row, frow])] at hw7
    have hs1 : (SK.up s g pre post (t.setPc (t.m.pc + 1)) lo).ok p F := SK.up_ok hs hes hup (setPc_ok hto)
    have hw7 : Ow B w7 ((SK.up s g pre post (t.setPc (t.m.pc + 1)) lo).hp p ++ ((bi, iO i) :: (be, cel [vI 0] T.t_api_Errno) :: R)) := by rw [SK.up_hp]; exact hw7
    generalize hs1' : SK.up s g pre post (t.setPc (t.m.pc + 1)) lo = s1 at *
    have hb1 : s1.b = s.b := by rw [← hs1']; rfl
    have hF1 : s1.vF = s.vF := by rw [← hs1']; rfl
    have he1 : s1.es = t.setPc (t.m.pc + 1) :: lo := by rw [← hs1']; rfl
    have hr1 : s1.res = s.res := by rw [← hs1']; rfl
    refine ⟨fun w => Ow B w [(bi, iO i)], ?_, ?_⟩
    · exact hw7.drew.sub ((List.Sublist.cons_cons _ (List.nil_sublist _)).trans (List.sublist_append_right _ _))
    repeat (first | refine pu_not ?_ | refine pu_eql ?_ | refine pu_neq ?_ | refine pu_lss ?_ | refine pu_leq ?_ | refine pu_gtr ?_ | refine pu_geq ?_ | refine pu_add ?_ | refine pu_sub ?_ | refine pu_mul ?_ | refine pu_neg ?_ | refine fa_at ?_ | refine nl_ptr ?_ | refine ex20 ?_ | refine ex21 ?_ | refine ex30 ?_ | refine ex31 ?_ | refine ex32 ?_ | refine ln_rule ?_ | refine lnT_rule ?_ | refine pu_and ?_ | refine pu_or ?_ | refine pu_xor ?_ | refine pu_seq ?_ | refine pu_sne ?_)
    refine lds_here (fun w h => h) (.head _) (v := vI i.op) rfl ?_
    refine ldsn_here (fun w h => h) (.head _) (vs := i.cells) rfl rfl ?_
    refine does_spec hw7.drew (fun bm w8 hw8 => ⟨?_, ?_⟩)
    · exact hw8.sub ((List.Sublist.cons_cons _ (List.nil_sublist _)).trans ((List.sublist_append_right _ _).trans (List.sublist_cons_self _ _)))
    refine lkf_rule hw8 (.head _) und_sdoes und_op (z := .nilFunc) (by kernel_rfl) ⟨?_, ?_⟩
    · exact hw8.sub ((List.Sublist.cons_cons _ (List.nil_sublist _)).trans ((List.sublist_append_right _ _).trans (List.sublist_cons_self _ _)))
    have hw9 : Ow B w8 (s1.hp p ++ ((bm, mpo .i64 doesS) :: (bi, iO i) :: (be, cel [vI 0] T.t_api_Errno) :: R)) := hw8.perm List.perm_middle.symm
    have hloc : localI i = true := by
      unfold refE at hr
      cases hl : localI i
      · rw [if_pos hl] at hr; cases hr
      · rfl
    have sf1 : Safe p { (t.setPc (t.m.pc + 1)).m with pc := (t.setPc (t.m.pc + 1)).m.pc - 1 } (lo.map FE.m) f i := sf
    rw [← hb1]
    refine done_spec hs1 (fun x hx => .tail _ (.tail _ (.tail _ (hF x hx)))) he1 sf1 (Nat.succ_le_succ (Nat.zero_le _)) hloc hlen' hw9 (fun s2 r w10 q1 q2 q3 hs2 hw10 => ?_)
    have hw10 : Ow B w10 ([] ++ (be, cel [vI 0] T.t_api_Errno) :: (s2.hp p ++ R)) := by
      have := hw10.perm (List.perm_append_comm_assoc (s2.hp p) [(bm, mpo .i64 doesS), (bi, iO i), (be, cel [vI 0] T.t_api_Errno)] R)
      exact Ow.drop (p := (bi, iO i)) (Ow.drop (p := (bm, mpo .i64 doesS)) this)
    refine st1_here hw10 rfl rfl (by simp) (fun w11 hw11 => ?_)
    refine stack_lv_ret ?_
    refine ld_here hw11 (.head _) rfl ?_
    rw [hstep] at k
    refine k s2 w11 (q1.trans hb1) (q2.trans hF1) ?_ hs2 (Ow.drop hw11)
    rw [q3, hr1]
    rfl
end
end Go.Proofs.YtkkkcafkepnecaaGreat
