/- Stacks: New; what is told; Pass; Copy. -/
import Derived.Test.YtkkkcafkepnecaaGreatVsJ
set_option linter.unusedVariables false
set_option linter.unusedSimpArgs false
namespace Go.Proofs.YtkkkcafkepnecaaGreat
open Go Go.RowKit Vc Ar
attribute [local irreducible] binV Op.unary convert nlW faW ldS ldW ixS ixA ixV ixT exW lnS lnT pu stW alW opW opU bsW mkW

section
variable {B w : World} {H X F Q R : Hp} {K : Value → World → Prop} {PK : List PanicEntry → World → Prop} {KK : Value → Prop} {b n cap g : Nat} {c pre post : List Value} {t u : FE} {i : Ins} {p : Pr} {s : SK} {lo : List FE} {f : Fun} {v a : Value}
theorem SK.in {s : SK} {x : Nat × Obj} : (s.b, stO (s.cell p)) ∈ s.hp p ++ R := .head _
theorem sk_none (h : Ow B w H) (hm : (s.b, stO (s.cell p)) ∈ H) (k : K (vB false) w) : callW PG N.stack_Stack_none [ptr s.b] K PK w := none_at h hm rfl k
theorem SK.vln (hs : s.ok p F) (k : KK (vI s.es.length)) : lnS s.vfr KK := by
  obtain ⟨a0, c0, hv0, _⟩ := hs.fro.len
  rw [frw_len] at hv0
  rw [hv0]; exact ln_rule k
theorem depth_spec (hs : s.ok p F) (h : Ow B w H) (hm : (s.b, stO (s.cell p)) ∈ H) (k : K (vI s.es.length) w) : callW PG N.stack_Stack_Depth [ptr s.b] K PK w := by
  refine stack_Stack_Depth.ok ?_
  unfold stack_Stack_Depth.C
  refine sk_none h hm (cnd_f rfl ?_)
  repeat (first | refine pu_not ?_ | refine pu_eql ?_ | refine pu_neq ?_ | refine pu_lss ?_ | refine pu_leq ?_ | refine pu_gtr ?_ | refine pu_geq ?_ | refine pu_add ?_ | refine pu_sub ?_ | refine pu_mul ?_ | refine pu_neg ?_ | refine fa_at ?_ | refine nl_ptr ?_ | refine ex20 ?_ | refine ex21 ?_ | refine ex30 ?_ | refine ex31 ?_ | refine ex32 ?_ | refine ln_rule ?_ | refine lnT_rule ?_ | refine pu_and ?_ | refine pu_or ?_ | refine pu_xor ?_ | refine pu_seq ?_ | refine pu_sne ?_)
  refine ld_here h hm (v := s.vfr) rfl ?_
  exact SK.vln hs k
theorem result_spec (h : Ow B w H) (hm : (s.b, stO (s.cell p)) ∈ H) (k : K (vU s.res) w) : callW PG N.stack_Stack_Result [ptr s.b] K PK w := by
  refine stack_Stack_Result.ok ?_
  unfold stack_Stack_Result.C
  refine sk_none h hm (cnd_f rfl ?_)
  repeat (first | refine pu_not ?_ | refine pu_eql ?_ | refine pu_neq ?_ | refine pu_lss ?_ | refine pu_leq ?_ | refine pu_gtr ?_ | refine pu_geq ?_ | refine pu_add ?_ | refine pu_sub ?_ | refine pu_mul ?_ | refine pu_neg ?_ | refine fa_at ?_ | refine nl_ptr ?_ | refine ex20 ?_ | refine ex21 ?_ | refine ex30 ?_ | refine ex31 ?_ | refine ex32 ?_ | refine ln_rule ?_ | refine lnT_rule ?_ | refine pu_and ?_ | refine pu_or ?_ | refine pu_xor ?_ | refine pu_seq ?_ | refine pu_sne ?_)
  refine ld_here h hm (v := vU s.res) rfl ?_
  exact k
def zeroNext : Value := .tuple #[.agg (bare 0).cells.toArray, .agg #[vI 0, vI 0], vB false]
theorem next_end (hs : s.ok p F) (he : s.es = []) (h : Ow B w H) (hm : (s.b, stO (s.cell p)) ∈ H) (k : ∀ w', Ow B w' H → K zeroNext w') : callW PG N.stack_Stack_Next [ptr s.b] K PK w := by
  refine stack_Stack_Next.ok ?_
  unfold stack_Stack_Next.C
  refine al_rule h (l := (bare 0).cells) zins (fun b1 w1 h1 => ?_)
  refine al_rule h1 (l := [vI 0, vI 0]) (by kernel_rfl) (fun b2 w2 h2 => ?_)
  refine depth_spec hs h2 (.tail _ (.tail _ hm)) ?_
  rw [he]
  repeat (first | refine pu_not ?_ | refine pu_eql ?_ | refine pu_neq ?_ | refine pu_lss ?_ | refine pu_leq ?_ | refine pu_gtr ?_ | refine pu_geq ?_ | refine pu_add ?_ | refine pu_sub ?_ | refine pu_mul ?_ | refine pu_neg ?_ | refine fa_at ?_ | refine nl_ptr ?_ | refine ex20 ?_ | refine ex21 ?_ | refine ex30 ?_ | refine ex31 ?_ | refine ex32 ?_ | refine ln_rule ?_ | refine lnT_rule ?_ | refine pu_and ?_ | refine pu_or ?_ | refine pu_xor ?_ | refine pu_seq ?_ | refine pu_sne ?_)
  refine cnd_t rfl ?_
  refine pu_build (bare 0).cells (by kernel_rfl) ?_
  refine pu_build [vI 0, vI 0] (by kernel_rfl) ?_
  refine st_here (A := [_]) h2 (bare 0).cells rfl rfl (ins_plain _) (by simp [Ins.cells]) (fun w3 h3 => ?_)
  have e3 : (bare 0).cells.take 0 ++ (bare 0).cells ++ (bare 0).cells.drop (0 + 5) = (bare 0).cells := rfl
  rw [e3] at h3
  refine st_here (A := []) h3 [vI 0, vI 0] rfl rfl rfl (by simp) (fun w4 h4 => ?_)
  refine ldn_here h4 (.tail _ (.head _)) (vs := (bare 0).cells) rfl rfl ?_
  refine ldn_here h4 (.head _) (vs := [vI 0, vI 0]) rfl rfl ?_
  exact k _ (Ow.drop (Ow.drop h4))
theorem next_at (hs : s.ok p F) (he : s.es = t :: lo) (hF : ∀ x, x ∈ F → x ∈ R) (h1 : p.fs[t.m.fn]? = some f) (h2 : f.code[t.m.pc]? = some i) (h : Ow B w (s.hp p ++ R)) (k : ∀ w', Ow B w' (s.hp p ++ R) → K (.tuple #[.agg i.cells.toArray, .agg #[vI t.m.fn, vI t.m.pc], vB true]) w') : callW PG N.stack_Stack_Next [ptr s.b] K PK w := by
  refine stack_Stack_Next.ok ?_
  unfold stack_Stack_Next.C
  refine al_rule h (l := (bare 0).cells) zins (fun b1 w1 hw1 => ?_)
  refine al_rule hw1 (l := [vI 0, vI 0]) (by kernel_rfl) (fun b2 w2 hw2 => ?_)
  refine depth_spec hs hw2 (.tail _ (.tail _ (.head _))) ?_
  rw [he]
  repeat (first | refine pu_not ?_ | refine pu_eql ?_ | refine pu_neq ?_ | refine pu_lss ?_ | refine pu_leq ?_ | refine pu_gtr ?_ | refine pu_geq ?_ | refine pu_add ?_ | refine pu_sub ?_ | refine pu_mul ?_ | refine pu_neg ?_ | refine fa_at ?_ | refine nl_ptr ?_ | refine ex20 ?_ | refine ex21 ?_ | refine ex30 ?_ | refine ex31 ?_ | refine ex32 ?_ | refine ln_rule ?_ | refine lnT_rule ?_ | refine pu_and ?_ | refine pu_or ?_ | refine pu_xor ?_ | refine pu_seq ?_ | refine pu_sne ?_)
  refine cnd_f (by simp; omega) ?_
  obtain ⟨g, pre, post, cap, hv, _, _, hh, _⟩ := SK.view hs he
  have hw2' : Ow B w2 ([(b2, cel [vI 0, vI 0] T.t_api_Site), (b1, cel (bare 0).cells T.t_api_Ins)] ++ VH s.b g (s.cell p) pre post t (ffoot lo ++ R)) := by rw [← hh]; exact hw2
  refine vtop hv hw2' (fun w3 hw3 => ?_)
  rw [← hh] at hw3
  have sub : ∀ {w : World} {A : Hp}, Ow B w (A ++ (s.hp p ++ R)) → Ow B w (s.hp p ++ R) := fun h => h.sub (List.sublist_append_right _ _)
  refine ⟨fun w => Ow B w (s.hp p ++ R), sub hw3.drew, ?_⟩
  have mg : (g, frO pre t.row post) ∈ s.hp p ++ R := by rw [hh]; exact .tail _ (.head _)
  repeat (first | refine pu_not ?_ | refine pu_eql ?_ | refine pu_neq ?_ | refine pu_lss ?_ | refine pu_leq ?_ | refine pu_gtr ?_ | refine pu_geq ?_ | refine pu_add ?_ | refine pu_sub ?_ | refine pu_mul ?_ | refine pu_neg ?_ | refine fa_at ?_ | refine nl_ptr ?_ | refine ex20 ?_ | refine ex21 ?_ | refine ex30 ?_ | refine ex31 ?_ | refine ex32 ?_ | refine ln_rule ?_ | refine lnT_rule ?_ | refine pu_and ?_ | refine pu_or ?_ | refine pu_xor ?_ | refine pu_seq ?_ | refine pu_sne ?_)
  refine lds_here (fun w h => h) mg (row_at hv.pl (v := vI t.m.fn) rfl) ?_
  repeat (first | refine pu_not ?_ | refine pu_eql ?_ | refine pu_neq ?_ | refine pu_lss ?_ | refine pu_leq ?_ | refine pu_gtr ?_ | refine pu_geq ?_ | refine pu_add ?_ | refine pu_sub ?_ | refine pu_mul ?_ | refine pu_neg ?_ | refine fa_at ?_ | refine nl_ptr ?_ | refine ex20 ?_ | refine ex21 ?_ | refine ex30 ?_ | refine ex31 ?_ | refine ex32 ?_ | refine ln_rule ?_ | refine lnT_rule ?_ | refine pu_and ?_ | refine pu_or ?_ | refine pu_xor ?_ | refine pu_seq ?_ | refine pu_sne ?_)
  refine lds_here (fun w h => h) mg (row_at hv.pl (v := vI t.m.pc) rfl) ?_
  refine pu_build [vI t.m.fn, vI t.m.pc] (by kernel_rfl) ?_
  have pm : ∀ (A : List (Nat × Obj)), (A ++ (s.hp p ++ R)).Perm (s.hp p ++ (A ++ R)) := fun A => List.perm_append_comm_assoc A (s.hp p) R
  refine sins_spec hs he (fun x hx => List.mem_append_right _ (hF x hx)) h1 h2 (hw3.drew.perm (pm _)) (fun w4 hw4 => ?_)
  have hw4 := hw4.perm (pm _).symm
  refine ⟨sub hw4, ?_⟩
  refine st_here (A := [_]) hw4 i.cells rfl rfl (ins_plain _) (by simp [Ins.cells]) (fun w5 hw5 => ?_)
  have e3 : (bare 0).cells.take 0 ++ i.cells ++ (bare 0).cells.drop (0 + 5) = i.cells := rfl
  rw [e3] at hw5
  refine ⟨hw5.drop.drop, ?_⟩
  refine st_here (A := []) hw5 [vI t.m.fn, vI t.m.pc] rfl rfl rfl (by simp) (fun w6 hw6 => ?_)
  refine ldn_here hw6 (.tail _ (.head _)) (vs := i.cells) rfl rfl ?_
  refine ldn_here hw6 (.head _) (vs := [vI t.m.fn, vI t.m.pc]) rfl rfl ?_
  exact k _ (Ow.drop (Ow.drop hw6))
/-- A register of the top. -/
def regT (l : List Frm) (i : Int) : Int := match l with
  | [] => 0
  | t :: _ => if 0 ≤ i ∧ i < t.regs.length then regR t.regs i else 0
theorem reg_spec {i : Int} (hs : s.ok p F) (h : Ow B w (s.hp p ++ R)) (k : ∀ w', Ow B w' (s.hp p ++ R) → K (vU (regT s.frs i)) w') : callW PG N.stack_Stack_Reg [ptr s.b, vI i] K PK w := by
  refine stack_Stack_Reg.ok ?_
  unfold stack_Stack_Reg.C
  refine depth_spec hs h (.head _) ?_
  cases he : s.es with
  | nil =>
    repeat (first | refine pu_not ?_ | refine pu_eql ?_ | refine pu_neq ?_ | refine pu_lss ?_ | refine pu_leq ?_ | refine pu_gtr ?_ | refine pu_geq ?_ | refine pu_add ?_ | refine pu_sub ?_ | refine pu_mul ?_ | refine pu_neg ?_ | refine fa_at ?_ | refine nl_ptr ?_ | refine ex20 ?_ | refine ex21 ?_ | refine ex30 ?_ | refine ex31 ?_ | refine ex32 ?_ | refine ln_rule ?_ | refine lnT_rule ?_ | refine pu_and ?_ | refine pu_or ?_ | refine pu_xor ?_ | refine pu_seq ?_ | refine pu_sne ?_)
    refine cnd_t rfl ?_
    have := k _ h
    rw [SK.frs, he] at this
    exact this
  | cons t lo =>
    repeat (first | refine pu_not ?_ | refine pu_eql ?_ | refine pu_neq ?_ | refine pu_lss ?_ | refine pu_leq ?_ | refine pu_gtr ?_ | refine pu_geq ?_ | refine pu_add ?_ | refine pu_sub ?_ | refine pu_mul ?_ | refine pu_neg ?_ | refine fa_at ?_ | refine nl_ptr ?_ | refine ex20 ?_ | refine ex21 ?_ | refine ex30 ?_ | refine ex31 ?_ | refine ex32 ?_ | refine ln_rule ?_ | refine lnT_rule ?_ | refine pu_and ?_ | refine pu_or ?_ | refine pu_xor ?_ | refine pu_seq ?_ | refine pu_sne ?_)
    refine cnd_f (by simp; omega) ?_
    have hk : ∀ w', Ow B w' (s.hp p ++ R) → K (vU (if 0 ≤ i ∧ i < t.m.regs.length then regR t.m.regs i else 0)) w' := fun w' h' => by
      have := k w' h'
      rw [SK.frs, he] at this
      exact this
    clear k
    have hto : t.ok := hs.eok t (by rw [he]; exact .head _)
    obtain ⟨g, pre, post, cap, hv, _, _, hh, _⟩ := SK.view hs he
    rw [hh] at h hk
    repeat (first | refine pu_not ?_ | refine pu_eql ?_ | refine pu_neq ?_ | refine pu_lss ?_ | refine pu_leq ?_ | refine pu_gtr ?_ | refine pu_geq ?_ | refine pu_add ?_ | refine pu_sub ?_ | refine pu_mul ?_ | refine pu_neg ?_ | refine fa_at ?_ | refine nl_ptr ?_ | refine ex20 ?_ | refine ex21 ?_ | refine ex30 ?_ | refine ex31 ?_ | refine ex32 ?_ | refine ln_rule ?_ | refine lnT_rule ?_ | refine pu_and ?_ | refine pu_or ?_ | refine pu_xor ?_ | refine pu_seq ?_ | refine pu_sne ?_)
    refine cnd (fun hq => ?_) (fun hq => ?_)
    · have hq : i < 0 := by simpa using hq
      rw [if_neg (by omega)] at hk
      exact hk _ h
    have hq : 0 ≤ i := by simpa using hq
    refine vtop (A := []) hv h (fun w2 hw2 => ?_)
    have mg : (g, frO pre t.row post) ∈ [] ++ VH s.b g (s.cell p) pre post t (ffoot lo ++ R) := .tail _ (.head _)
    repeat (first | refine pu_not ?_ | refine pu_eql ?_ | refine pu_neq ?_ | refine pu_lss ?_ | refine pu_leq ?_ | refine pu_gtr ?_ | refine pu_geq ?_ | refine pu_add ?_ | refine pu_sub ?_ | refine pu_mul ?_ | refine pu_neg ?_ | refine fa_at ?_ | refine nl_ptr ?_ | refine ex20 ?_ | refine ex21 ?_ | refine ex30 ?_ | refine ex31 ?_ | refine ex32 ?_ | refine ln_rule ?_ | refine lnT_rule ?_ | refine pu_and ?_ | refine pu_or ?_ | refine pu_xor ?_ | refine pu_seq ?_ | refine pu_sne ?_)
    refine ld_here hw2 mg (row_at hv.pl row3) ?_
    refine regs_ln hto ?_
    repeat (first | refine pu_not ?_ | refine pu_eql ?_ | refine pu_neq ?_ | refine pu_lss ?_ | refine pu_leq ?_ | refine pu_gtr ?_ | refine pu_geq ?_ | refine pu_add ?_ | refine pu_sub ?_ | refine pu_mul ?_ | refine pu_neg ?_ | refine fa_at ?_ | refine nl_ptr ?_ | refine ex20 ?_ | refine ex21 ?_ | refine ex30 ?_ | refine ex31 ?_ | refine ex32 ?_ | refine ln_rule ?_ | refine lnT_rule ?_ | refine pu_and ?_ | refine pu_or ?_ | refine pu_xor ?_ | refine pu_seq ?_ | refine pu_sne ?_)
    refine cnd (fun hr => ?_) (fun hr => ?_)
    · have hr : (t.m.regs.length : Int) ≤ i := by simpa using hr
      rw [if_neg (by omega)] at hk
      exact hk _ hw2
    have hr : i < t.m.regs.length := by simpa using hr
    rw [if_pos ⟨hq, hr⟩] at hk
    refine vtop (A := []) hv hw2 (fun w3 hw3 => ?_)
    repeat (first | refine pu_not ?_ | refine pu_eql ?_ | refine pu_neq ?_ | refine pu_lss ?_ | refine pu_leq ?_ | refine pu_gtr ?_ | refine pu_geq ?_ | refine pu_add ?_ | refine pu_sub ?_ | refine pu_mul ?_ | refine pu_neg ?_ | refine fa_at ?_ | refine nl_ptr ?_ | refine ex20 ?_ | refine ex21 ?_ | refine ex30 ?_ | refine ex31 ?_ | refine ex32 ?_ | refine ln_rule ?_ | refine lnT_rule ?_ | refine pu_and ?_ | refine pu_or ?_ | refine pu_xor ?_ | refine pu_seq ?_ | refine pu_sne ?_)
    refine ld_here hw3 mg (row_at hv.pl row3) ?_
    refine regs_rdw hto hw3 (fun x hx => .tail _ (.tail _ (List.mem_append_left _ hx))) hq hr ?_
    exact hk _ hw3
/-- Pass: an error's number, the frames. -/
def passF (p : Pr) (reg word : Int) (l : List Frm) : Int × List Frm := match l with
  | [] => (220, [])
  | t :: lo => if localI (insF p t) = true then (223, l) else if reg < -1 ∨ (t.regs.length : Int) ≤ reg then (2, l) else (0, { t with pc := t.pc + 1, regs := if 0 ≤ reg then t.regs.set reg.toNat word else t.regs } :: lo)
set_option maxHeartbeats 1000000 in
theorem pass_spec {reg word : Int} (hs : s.ok p F) (hF : ∀ x, x ∈ F → x ∈ R) (hsl : SafeL p s.frs) (h : Ow B w (s.hp p ++ R))
    (k : ∀ (s' : SK) w', s'.b = s.b → s'.vF = s.vF → s'.res = s.res → s'.frs = (passF p reg word s.frs).2 → s'.ok p F → Ow B w' (s'.hp p ++ R) → K (vI (passF p reg word s.frs).1) w') : callW PG N.stack_Stack_Pass [ptr s.b, vI reg, vU word] K PK w := by
  refine stack_Stack_Pass.ok ?_
  unfold stack_Stack_Pass.C
  refine al_rule h (l := [vI 0]) (by kernel_rfl) (fun be w1 hw1 => ?_)
  have fail : ∀ {er : Int} {w : World}, Ow B w ((be, cel [vI 0] T.t_api_Errno) :: (s.hp p ++ R)) → passF p reg word s.frs = (er, s.frs) → LvW PG ({ target := .fn (.func N.stack_caught) #[], args := #[ptr be] } :: []) (.panicking (pan er)) w (endV (fun w => ldW none (ptr be) w fun t => K t w) fun | .returned v, w' => K v w' | .panicked ch, w' => PK ch w' | .outgrown, _ => False) := fun h he => by
    refine stack_lv_pan (A := []) h (fun w2 h2 => ?_)
    refine ld_here h2 (.head _) rfl ?_
    have := k s w2 rfl rfl rfl (by rw [he]) hs (Ow.drop h2)
    rw [he] at this
    exact this
  cases he : s.es with
  | nil =>
    have hnil : s.frs = [] := by simp [SK.frs, he]
    obtain ⟨a0, c0, hv0, _⟩ := hs.fro.len
    rw [frw_len, he] at hv0
    refine top_end hw1 (.tail _ (.head _)) (l := s.cell p) rfl (a := a0) (c := c0) (by simp only [SK.cell, hv0]; rfl) ?_
    exact fail hw1 (by rw [hnil]; rfl)
  | cons t lo =>
    have hfrs : s.frs = t.m :: lo.map FE.m := by simp [SK.frs, he]
    obtain ⟨f, i, sf⟩ := hsl _ _ hfrs
    have hto : t.ok := hs.eok t (by rw [he]; exact .head _)
    have hpf : passF p reg word s.frs = (if localI i = true then (223, s.frs) else if reg < -1 ∨ (t.m.regs.length : Int) ≤ reg then (2, s.frs) else (0, { t.m with pc := t.m.pc + 1, regs := if 0 ≤ reg then t.m.regs.set reg.toNat word else t.m.regs } :: lo.map FE.m)) := by
      rw [hfrs]
      simp only [passF, Safe.ins sf]
    obtain ⟨g, pre, post, cap, hv, hSf, hvfr, hh, hup⟩ := SK.view hs he
    have hw1' : Ow B w1 ([(be, cel [vI 0] T.t_api_Errno)] ++ VH s.b g (s.cell p) pre post t (ffoot lo ++ R)) := by rw [← hh]; exact hw1
    refine vtop hv hw1' (fun w2 hw2 => ?_)
    rw [← hh] at hw2
    have pm : ∀ (A : List (Nat × Obj)), (A ++ (s.hp p ++ R)).Perm (s.hp p ++ (A ++ R)) := fun A => List.perm_append_comm_assoc A (s.hp p) R
    refine sins_spec hs he (fun x hx => List.mem_append_right _ (hF x hx)) sf.hf sf.hi (hw2.perm (pm _)) (fun w3 hw3 => ?_)
    have hw3 := hw3.perm (pm _).symm
    refine local_spec sf.im hw3 (fun w4 hw4 => ?_)
    repeat (first | refine pu_not ?_ | refine pu_eql ?_ | refine pu_neq ?_ | refine pu_lss ?_ | refine pu_leq ?_ | refine pu_gtr ?_ | refine pu_geq ?_ | refine pu_add ?_ | refine pu_sub ?_ | refine pu_mul ?_ | refine pu_neg ?_ | refine fa_at ?_ | refine nl_ptr ?_ | refine ex20 ?_ | refine ex21 ?_ | refine ex30 ?_ | refine ex31 ?_ | refine ex32 ?_ | refine ln_rule ?_ | refine lnT_rule ?_ | refine pu_and ?_ | refine pu_or ?_ | refine pu_xor ?_ | refine pu_seq ?_ | refine pu_sne ?_)
    refine must_b (fun hq => ?_) (fun hq => ?_)
    rotate_left
    · have hq : localI i = true := by simpa using hq
      exact fail hw4 (by rw [hpf, if_pos hq])
    have hq : ¬ localI i = true := by simpa using hq
    have mg : (g, frO pre t.row post) ∈ [(be, cel [vI 0] T.t_api_Errno)] ++ VH s.b g (s.cell p) pre post t (ffoot lo ++ R) := .tail _ (.tail _ (.head _))
    have bad : reg < -1 ∨ (t.m.regs.length : Int) ≤ reg → LvW PG ({ target := .fn (.func N.stack_caught) #[], args := #[ptr be] } :: []) (.panicking (pan 2)) w4 (endV (fun w => ldW none (ptr be) w fun t => K t w) fun | .returned v, w' => K v w' | .panicked ch, w' => PK ch w' | .outgrown, _ => False) := fun hb => fail hw4 (by rw [hpf, if_neg hq, if_pos hb])
    repeat (first | refine pu_not ?_ | refine pu_eql ?_ | refine pu_neq ?_ | refine pu_lss ?_ | refine pu_leq ?_ | refine pu_gtr ?_ | refine pu_geq ?_ | refine pu_add ?_ | refine pu_sub ?_ | refine pu_mul ?_ | refine pu_neg ?_ | refine fa_at ?_ | refine nl_ptr ?_ | refine ex20 ?_ | refine ex21 ?_ | refine ex30 ?_ | refine ex31 ?_ | refine ex32 ?_ | refine ln_rule ?_ | refine lnT_rule ?_ | refine pu_and ?_ | refine pu_or ?_ | refine pu_xor ?_ | refine pu_seq ?_ | refine pu_sne ?_)
    refine cnd (fun hr => ?_) (fun hr => ?_)
    rotate_left
    · have hr : reg < -1 := by simpa using hr
      exact must_f (bad (.inl hr))
    have hr : -1 ≤ reg := by simpa using hr
    rw [hh] at hw4
    repeat (first | refine pu_not ?_ | refine pu_eql ?_ | refine pu_neq ?_ | refine pu_lss ?_ | refine pu_leq ?_ | refine pu_gtr ?_ | refine pu_geq ?_ | refine pu_add ?_ | refine pu_sub ?_ | refine pu_mul ?_ | refine pu_neg ?_ | refine fa_at ?_ | refine nl_ptr ?_ | refine ex20 ?_ | refine ex21 ?_ | refine ex30 ?_ | refine ex31 ?_ | refine ex32 ?_ | refine ln_rule ?_ | refine lnT_rule ?_ | refine pu_and ?_ | refine pu_or ?_ | refine pu_xor ?_ | refine pu_seq ?_ | refine pu_sne ?_)
    refine ld_here hw4 mg (row_at hv.pl row3) ?_
    refine regs_ln hto ?_
    repeat (first | refine pu_not ?_ | refine pu_eql ?_ | refine pu_neq ?_ | refine pu_lss ?_ | refine pu_leq ?_ | refine pu_gtr ?_ | refine pu_geq ?_ | refine pu_add ?_ | refine pu_sub ?_ | refine pu_mul ?_ | refine pu_neg ?_ | refine fa_at ?_ | refine nl_ptr ?_ | refine ex20 ?_ | refine ex21 ?_ | refine ex30 ?_ | refine ex31 ?_ | refine ex32 ?_ | refine ln_rule ?_ | refine lnT_rule ?_ | refine pu_and ?_ | refine pu_or ?_ | refine pu_xor ?_ | refine pu_seq ?_ | refine pu_sne ?_)
    refine must_b (fun hl => ?_) (fun hl => ?_)
    rotate_left
    · have hl : (t.m.regs.length : Int) ≤ reg := by simpa using hl
      exact bad (.inr hl)
    have hl : reg < t.m.regs.length := by simpa using hl
    have hpcb := sf.pcb
    rw [if_neg hq, if_neg (by omega)] at hpf
    have fin : ∀ (t' : FE) (w : World), t'.ok → t'.m = { t.m with regs := if 0 ≤ reg then t.m.regs.set reg.toNat word else t.m.regs } → Ow B w ([(be, cel [vI 0] T.t_api_Errno)] ++ VH s.b g (s.cell p) pre post t' (ffoot lo ++ R)) →
        (nlW (ptr g (lo.length * 4)) fun t48 => faW 1 t48 fun t49 => ldW none t49 w fun t50 => pu PG (binV .add T.t_int true t50 (.int .i64 1)) fun t51 => nlW (ptr g (lo.length * 4)) fun t52 => faW 1 t52 fun t53 => stW 1 t53 t51 (fun w54 => stW 1 (ptr be) (.int .i64 0) (fun w56 => LvW PG ({ target := .fn (.func N.stack_caught) #[], args := #[ptr be] } :: []) .returning w56 (endV (fun w => ldW none (ptr be) w fun t => K t w) fun | .returned v, w' => K v w' | .panicked ch, w' => PK ch w' | .outgrown, _ => False)) w54) w) := fun t' w ht' hm' hw => by
      have hpc : t'.m.pc = t.m.pc := by rw [hm']
      have mg' : (g, frO pre t'.row post) ∈ [(be, cel [vI 0] T.t_api_Errno)] ++ VH s.b g (s.cell p) pre post t' (ffoot lo ++ R) := .tail _ (.tail _ (.head _))
      repeat (first | refine pu_not ?_ | refine pu_eql ?_ | refine pu_neq ?_ | refine pu_lss ?_ | refine pu_leq ?_ | refine pu_gtr ?_ | refine pu_geq ?_ | refine pu_add ?_ | refine pu_sub ?_ | refine pu_mul ?_ | refine pu_neg ?_ | refine fa_at ?_ | refine nl_ptr ?_ | refine ex20 ?_ | refine ex21 ?_ | refine ex30 ?_ | refine ex31 ?_ | refine ex32 ?_ | refine ln_rule ?_ | refine lnT_rule ?_ | refine pu_and ?_ | refine pu_or ?_ | refine pu_xor ?_ | refine pu_seq ?_ | refine pu_sne ?_)
      refine ld_here hw mg' (row_at hv.pl (v := vI t'.m.pc) rfl) ?_
      repeat (first | refine pu_not ?_ | refine pu_eql ?_ | refine pu_neq ?_ | refine pu_lss ?_ | refine pu_leq ?_ | refine pu_gtr ?_ | refine pu_geq ?_ | refine pu_add ?_ | refine pu_sub ?_ | refine pu_mul ?_ | refine pu_neg ?_ | refine fa_at ?_ | refine nl_ptr ?_ | refine ex20 ?_ | refine ex21 ?_ | refine ex30 ?_ | refine ex31 ?_ | refine ex32 ?_ | refine ln_rule ?_ | refine lnT_rule ?_ | refine pu_and ?_ | refine pu_or ?_ | refine pu_xor ?_ | refine pu_seq ?_ | refine pu_sne ?_)
      have e4 : IntKind.i64.wrap ((t'.m.pc : Int) + 1) = ((t'.m.pc + 1 : Nat) : Int) := by rw [wrap64_in (by omega) (by omega)]; omega
      rw [e4]
      have hl : lo.length * 4 + 1 < (pre ++ (t'.row ++ post)).length := by rw [List.length_append, hv.pl, List.length_append]; simp [FE.row, frow]; omega
      refine st1_here (A := [_, _]) hw rfl rfl hl (fun w7 hw7 => ?_)
      rw [row_set hv.pl (by simp [FE.row, frow])] at hw7
      refine st1_here (A := []) hw7 rfl rfl (by simp) (fun w8 hw8 => ?_)
      refine stack_lv_ret ?_
      refine ld_here hw8 (.head _) rfl ?_
      rw [hpf] at k
      have hw8 : Ow B w8 ((SK.up s g pre post (t'.setPc (t'.m.pc + 1)) lo).hp p ++ R) := by rw [SK.up_hp]; exact Ow.drop (p := (be, cel [vI 0] T.t_api_Errno)) hw8
      refine k (SK.up s g pre post (t'.setPc (t'.m.pc + 1)) lo) w8 rfl rfl rfl ?_ (SK.up_ok hs he hup (setPc_ok ht')) hw8
      simp only [SK.up, SK.frs, List.map_cons, FE.setPc, hm']
    repeat (first | refine pu_not ?_ | refine pu_eql ?_ | refine pu_neq ?_ | refine pu_lss ?_ | refine pu_leq ?_ | refine pu_gtr ?_ | refine pu_geq ?_ | refine pu_add ?_ | refine pu_sub ?_ | refine pu_mul ?_ | refine pu_neg ?_ | refine fa_at ?_ | refine nl_ptr ?_ | refine ex20 ?_ | refine ex21 ?_ | refine ex30 ?_ | refine ex31 ?_ | refine ex32 ?_ | refine ln_rule ?_ | refine lnT_rule ?_ | refine pu_and ?_ | refine pu_or ?_ | refine pu_xor ?_ | refine pu_seq ?_ | refine pu_sne ?_)
    refine cnd (fun h0 => ?_) (fun h0 => ?_)
    · have h0 : 0 ≤ reg := by simpa using h0
      repeat (first | refine pu_not ?_ | refine pu_eql ?_ | refine pu_neq ?_ | refine pu_lss ?_ | refine pu_leq ?_ | refine pu_gtr ?_ | refine pu_geq ?_ | refine pu_add ?_ | refine pu_sub ?_ | refine pu_mul ?_ | refine pu_neg ?_ | refine fa_at ?_ | refine nl_ptr ?_ | refine ex20 ?_ | refine ex21 ?_ | refine ex30 ?_ | refine ex31 ?_ | refine ex32 ?_ | refine ln_rule ?_ | refine lnT_rule ?_ | refine pu_and ?_ | refine pu_or ?_ | refine pu_xor ?_ | refine pu_seq ?_ | refine pu_sne ?_)
      refine ld_here hw4 mg (row_at hv.pl row3) ?_
      refine regs_st (A := [_, _, _]) (C := ffoot lo ++ R) hto (by simpa using hw4) h0 hl (fun S' w5 ho5 h5 => ?_)
      exact fin (t.setR S' reg word) w5 ho5 (by rw [if_pos h0]) h5
    · have h0 : ¬ 0 ≤ reg := by simpa using h0
      exact fin t w4 hto (by rw [if_neg h0]) hw4
end
end Go.Proofs.YtkkkcafkepnecaaGreat
