/- Stacks: a step. -/
import Derived.Test.YtkkkcafkepnecaaGreatVsG
set_option linter.unusedVariables false
set_option linter.unusedSimpArgs false
namespace Go.Proofs.YtkkkcafkepnecaaGreat
open Go Go.RowKit Vc Ar
attribute [local irreducible] binV Op.unary convert nlW faW ldS ldW ixS ixA ixV ixT exW lnS lnT pu stW alW opW opU bsW mkW

section
variable {B w : World} {H X F Q R : Hp} {K : Value → World → Prop} {PK : List PanicEntry → World → Prop} {KK : Value → Prop} {e : Int} {b n cap g : Nat} {c pre post : List Value} {t u : FE} {i : Ins} {p : Pr} {s : SK} {lo : List FE} {f : Fun}
/-- Does an instruction touch nothing shared? -/
def localI (i : Ins) : Bool := okI i && decide (i.op ≤ 5 ∨ i.op = 8 ∨ i.op = 9 ∨ i.op = 19)
theorem local_spec (hu : 0 ≤ i.imm ∧ i.imm < 4294967296) (h : Ow B w H) (k : ∀ w', Ow B w' H → K (vB (localI i)) w') : callW PG N.instr_Local [.agg i.cells.toArray] K PK w := by
  refine instr_Local.ok ?_
  unfold instr_Local.C
  refine al_rule h (l := i.cells) rfl (fun b w1 h1 => ?_)
  refine ldn_here h1 (.head _) (vs := i.cells) rfl rfl ?_
  refine right_spec hu h1 (fun w2 h2 => ?_)
  unfold localI at k
  refine cnd (fun hq => ?_) (fun hq => ?_)
  · rw [hq, Bool.true_and] at k
    repeat (first | refine pu_not ?_ | refine pu_eql ?_ | refine pu_neq ?_ | refine pu_lss ?_ | refine pu_leq ?_ | refine pu_gtr ?_ | refine pu_geq ?_ | refine pu_add ?_ | refine pu_sub ?_ | refine pu_mul ?_ | refine pu_neg ?_ | refine fa_at ?_ | refine nl_ptr ?_ | refine ex20 ?_ | refine ex21 ?_ | refine ex30 ?_ | refine ex31 ?_ | refine ex32 ?_ | refine ln_rule ?_ | refine lnT_rule ?_ | refine pu_and ?_ | refine pu_or ?_ | refine pu_xor ?_ | refine pu_seq ?_ | refine pu_sne ?_)
    refine ld_here h2 (.head _) (v := vI i.op) rfl ?_
    repeat (first | refine pu_not ?_ | refine pu_eql ?_ | refine pu_neq ?_ | refine pu_lss ?_ | refine pu_leq ?_ | refine pu_gtr ?_ | refine pu_geq ?_ | refine pu_add ?_ | refine pu_sub ?_ | refine pu_mul ?_ | refine pu_neg ?_ | refine fa_at ?_ | refine nl_ptr ?_ | refine ex20 ?_ | refine ex21 ?_ | refine ex30 ?_ | refine ex31 ?_ | refine ex32 ?_ | refine ln_rule ?_ | refine lnT_rule ?_ | refine pu_and ?_ | refine pu_or ?_ | refine pu_xor ?_ | refine pu_seq ?_ | refine pu_sne ?_)
    refine cnd (fun h5 => ?_) (fun h5 => ?_)
    · have h5 : i.op ≤ 5 := by simpa using h5
      rw [decide_eq_true (.inl h5)] at k
      exact k _ h2.drop
    · have h5 : ¬ i.op ≤ 5 := by simpa using h5
      repeat (first | refine pu_not ?_ | refine pu_eql ?_ | refine pu_neq ?_ | refine pu_lss ?_ | refine pu_leq ?_ | refine pu_gtr ?_ | refine pu_geq ?_ | refine pu_add ?_ | refine pu_sub ?_ | refine pu_mul ?_ | refine pu_neg ?_ | refine fa_at ?_ | refine nl_ptr ?_ | refine ex20 ?_ | refine ex21 ?_ | refine ex30 ?_ | refine ex31 ?_ | refine ex32 ?_ | refine ln_rule ?_ | refine lnT_rule ?_ | refine pu_and ?_ | refine pu_or ?_ | refine pu_xor ?_ | refine pu_seq ?_ | refine pu_sne ?_)
      refine ld_here h2 (.head _) (v := vI i.op) rfl ?_
      refine bs_rule h2 [vI 8, vI 9, vI 19] (by kernel_rfl) (fun b7 w7 h7 => ?_)
      refine among_spec (xs := [8, 9, 19]) h7 (sl_here (l := [vI 8, vI 9, vI 19]) (.head _)) (by simp) (fun w8 h8 => ?_)
      have e : decide (i.op ∈ [8, 9, 19]) = decide (i.op ≤ 5 ∨ i.op = 8 ∨ i.op = 9 ∨ i.op = 19) := by simp [h5]
      rw [e]
      exact k _ h8.drop.drop
  · rw [hq, Bool.false_and] at k
    exact k _ h2.drop
/-- What the code relies on, of a top and its instruction. -/
structure Safe (p : Pr) (t : Frm) (lo : List Frm) (f : Fun) (i : Ins) : Prop where
  hf : p.fs[t.fn]? = some f
  hi : f.code[t.pc]? = some i
  im : 0 ≤ i.imm ∧ i.imm < 4294967296
  ok : okI i = true
  ha : (i.op = 1 ∨ i.op = 2 ∨ i.op = 3 ∨ i.op = 5 ∨ i.op = 9) → i.a < t.regs.length
  hb : (i.op = 2 ∨ i.op = 3) → i.b < t.regs.length
  hc : i.op = 3 → i.c < t.regs.length
  call : i.op = 8 → i.b + i.c ≤ t.regs.length ∧ ∃ f', p.fs[i.imm.toNat]? = some f' ∧ i.c ≤ f'.regs ∧ f'.regs ≤ 16
  ret : i.op = 9 → ∀ u lo', lo = u :: lo' → t.dest < u.regs.length
  hu : AllU t.regs
  hl : t.regs.length ≤ 16
  pcb : t.pc < 1000000
theorem ok_nn (h : okI i = true) : 1 ≤ i.op ∧ i.op ≤ 19 ∧ 0 ≤ i.a ∧ 0 ≤ i.b ∧ 0 ≤ i.c := by
  unfold okI at h
  rw [Bool.and_eq_true, Bool.and_eq_true] at h
  have := of_decide_eq_true h.1.1
  exact ⟨this.1, this.2.1, this.2.2.1, this.2.2.2.1, this.2.2.2.2.1⟩
/-- Why an instruction is refused; 0: it is not. -/
def refE (t : Frm) (n : Nat) (i : Ins) (most : Int) : Int :=
  if localI i = false then 221 else if i.op = 3 ∧ (aDo i.imm (regR t.regs i.b) (regR t.regs i.c)).2 ≠ 0 then (aDo i.imm (regR t.regs i.b) (regR t.regs i.c)).2 else if i.op = 8 ∧ ¬ ((n : Int) < most) then 222 else 0
theorem refused_spec {most : Int} (hs : s.ok p F) (he : s.es = t :: lo) (sf : Safe p t.m (lo.map FE.m) f i) (h : Ow B w (s.hp p ++ R)) (kt : refE t.m (lo.length + 1) i most = 0 → ∀ w', Ow B w' (s.hp p ++ R) → K (.tuple #[]) w')
    (kf : refE t.m (lo.length + 1) i most ≠ 0 → ∀ w', Ow B w' (s.hp p ++ R) → PK (pan (refE t.m (lo.length + 1) i most)) w') : callW PG N.stack_Stack_refused [ptr s.b, .agg i.cells.toArray, vI most] K PK w := by
  refine stack_Stack_refused.ok ?_
  unfold stack_Stack_refused.C
  obtain ⟨g, pre, post, cap, hv, hSf, hvfr, hh, hup⟩ := SK.view hs he
  have hto : t.ok := hs.eok t (by rw [he]; exact .head _)
  have hlen := hs.len
  rw [he] at hlen
  simp only [List.length_cons] at hlen
  rw [hh] at h kt kf
  refine al_rule h (l := i.cells) rfl (fun bi w1 hw1 => ?_)
  refine ldn_here hw1 (.head _) (vs := i.cells) rfl rfl ?_
  refine local_spec sf.im hw1 (fun w2 hw2 => ?_)
  refine must_b (fun hq => ?_) (fun hq => ?_)
  rotate_left
  · have e : refE t.m (lo.length + 1) i most = 221 := by unfold refE; rw [if_pos hq]
    rw [e] at kf
    exact kf (by decide) _ (Ow.drop (p := (bi, iO i)) hw2)
  have hloc : ¬ localI i = false := by simp [hq]
  have gv : ∀ {w : World} {X : Value → Prop}, Ow B w ((bi, iO i) :: VH s.b g (s.cell p) pre post t (ffoot lo ++ R)) → X s.vfr → ldW none (ptr s.b (0 + 4)) w X := fun h k => ld_here h (.tail _ (.head _)) (v := s.vfr) rfl k
  have gl : ∀ {X : Value → Prop}, X (vI (lo.length + 1 : Nat)) → lnS s.vfr X := fun k => by rw [hvfr]; exact ln_rule k
  repeat (first | refine pu_not ?_ | refine pu_eql ?_ | refine pu_neq ?_ | refine pu_lss ?_ | refine pu_leq ?_ | refine pu_gtr ?_ | refine pu_geq ?_ | refine pu_add ?_ | refine pu_sub ?_ | refine pu_mul ?_ | refine pu_neg ?_ | refine fa_at ?_ | refine nl_ptr ?_ | refine ex20 ?_ | refine ex21 ?_ | refine ex30 ?_ | refine ex31 ?_ | refine ex32 ?_ | refine ln_rule ?_ | refine lnT_rule ?_ | refine pu_and ?_ | refine pu_or ?_ | refine pu_xor ?_ | refine pu_seq ?_ | refine pu_sne ?_)
  refine ld_here hw2 (.head _) (v := vI i.op) rfl ?_
  repeat (first | refine pu_not ?_ | refine pu_eql ?_ | refine pu_neq ?_ | refine pu_lss ?_ | refine pu_leq ?_ | refine pu_gtr ?_ | refine pu_geq ?_ | refine pu_add ?_ | refine pu_sub ?_ | refine pu_mul ?_ | refine pu_neg ?_ | refine fa_at ?_ | refine nl_ptr ?_ | refine ex20 ?_ | refine ex21 ?_ | refine ex30 ?_ | refine ex31 ?_ | refine ex32 ?_ | refine ln_rule ?_ | refine lnT_rule ?_ | refine pu_and ?_ | refine pu_or ?_ | refine pu_xor ?_ | refine pu_seq ?_ | refine pu_sne ?_)
  refine cnd (fun h3 => ?_) (fun h3 => ?_)
  · have h3 : i.op = 3 := by simpa using h3
    have hnn := ok_nn sf.ok
    refine vtop1 hv hw2 (fun w3 hw3 => ?_)
    repeat (first | refine pu_not ?_ | refine pu_eql ?_ | refine pu_neq ?_ | refine pu_lss ?_ | refine pu_leq ?_ | refine pu_gtr ?_ | refine pu_geq ?_ | refine pu_add ?_ | refine pu_sub ?_ | refine pu_mul ?_ | refine pu_neg ?_ | refine fa_at ?_ | refine nl_ptr ?_ | refine ex20 ?_ | refine ex21 ?_ | refine ex30 ?_ | refine ex31 ?_ | refine ex32 ?_ | refine ln_rule ?_ | refine lnT_rule ?_ | refine pu_and ?_ | refine pu_or ?_ | refine pu_xor ?_ | refine pu_seq ?_ | refine pu_sne ?_)
    refine ld_here hw3 mem_g (row_at hv.pl row3) ?_
    refine ⟨fun w => Ow B w ((bi, iO i) :: VH s.b g (s.cell p) pre post t (ffoot lo ++ R)), hw3.drew, ?_⟩
    repeat (first | refine pu_not ?_ | refine pu_eql ?_ | refine pu_neq ?_ | refine pu_lss ?_ | refine pu_leq ?_ | refine pu_gtr ?_ | refine pu_geq ?_ | refine pu_add ?_ | refine pu_sub ?_ | refine pu_mul ?_ | refine pu_neg ?_ | refine fa_at ?_ | refine nl_ptr ?_ | refine ex20 ?_ | refine ex21 ?_ | refine ex30 ?_ | refine ex31 ?_ | refine ex32 ?_ | refine ln_rule ?_ | refine lnT_rule ?_ | refine pu_and ?_ | refine pu_or ?_ | refine pu_xor ?_ | refine pu_seq ?_ | refine pu_sne ?_)
    refine lds_here (fun w h => h) (.head _) (v := vU i.imm) rfl ?_
    have him := sf.im
    refine cvt (by kernel_rfl) (by kernel_rfl) (m := i.imm) (by rw [wrap64_in (by omega) (by omega)]) ?_
    repeat (first | refine pu_not ?_ | refine pu_eql ?_ | refine pu_neq ?_ | refine pu_lss ?_ | refine pu_leq ?_ | refine pu_gtr ?_ | refine pu_geq ?_ | refine pu_add ?_ | refine pu_sub ?_ | refine pu_mul ?_ | refine pu_neg ?_ | refine fa_at ?_ | refine nl_ptr ?_ | refine ex20 ?_ | refine ex21 ?_ | refine ex30 ?_ | refine ex31 ?_ | refine ex32 ?_ | refine ln_rule ?_ | refine lnT_rule ?_ | refine pu_and ?_ | refine pu_or ?_ | refine pu_xor ?_ | refine pu_seq ?_ | refine pu_sne ?_)
    refine lds_here (fun w h => h) (.head _) (v := vI i.b) rfl ?_
    refine regs_rd hto (fun w h => h) mem_S hnn.2.2.2.1 (sf.hb (.inr h3)) ?_
    repeat (first | refine pu_not ?_ | refine pu_eql ?_ | refine pu_neq ?_ | refine pu_lss ?_ | refine pu_leq ?_ | refine pu_gtr ?_ | refine pu_geq ?_ | refine pu_add ?_ | refine pu_sub ?_ | refine pu_mul ?_ | refine pu_neg ?_ | refine fa_at ?_ | refine nl_ptr ?_ | refine ex20 ?_ | refine ex21 ?_ | refine ex30 ?_ | refine ex31 ?_ | refine ex32 ?_ | refine ln_rule ?_ | refine lnT_rule ?_ | refine pu_and ?_ | refine pu_or ?_ | refine pu_xor ?_ | refine pu_seq ?_ | refine pu_sne ?_)
    refine lds_here (fun w h => h) (.head _) (v := vI i.c) rfl ?_
    refine regs_rd hto (fun w h => h) mem_S hnn.2.2.2.2 (sf.hc h3) ?_
    refine do_spec (sf.hu.reg _) (sf.hu.reg _) hw3.drew (fun w4 hw4 => ?_)
    repeat (first | refine pu_not ?_ | refine pu_eql ?_ | refine pu_neq ?_ | refine pu_lss ?_ | refine pu_leq ?_ | refine pu_gtr ?_ | refine pu_geq ?_ | refine pu_add ?_ | refine pu_sub ?_ | refine pu_mul ?_ | refine pu_neg ?_ | refine fa_at ?_ | refine nl_ptr ?_ | refine ex20 ?_ | refine ex21 ?_ | refine ex30 ?_ | refine ex31 ?_ | refine ex32 ?_ | refine ln_rule ?_ | refine lnT_rule ?_ | refine pu_and ?_ | refine pu_or ?_ | refine pu_xor ?_ | refine pu_seq ?_ | refine pu_sne ?_)
    refine must_b (fun hq => ?_) (fun hq => ?_)
    · have hz : (aDo i.imm (regR t.m.regs i.b) (regR t.m.regs i.c)).2 = 0 := by simpa using hq
      repeat (first | refine pu_not ?_ | refine pu_eql ?_ | refine pu_neq ?_ | refine pu_lss ?_ | refine pu_leq ?_ | refine pu_gtr ?_ | refine pu_geq ?_ | refine pu_add ?_ | refine pu_sub ?_ | refine pu_mul ?_ | refine pu_neg ?_ | refine fa_at ?_ | refine nl_ptr ?_ | refine ex20 ?_ | refine ex21 ?_ | refine ex30 ?_ | refine ex31 ?_ | refine ex32 ?_ | refine ln_rule ?_ | refine lnT_rule ?_ | refine pu_and ?_ | refine pu_or ?_ | refine pu_xor ?_ | refine pu_seq ?_ | refine pu_sne ?_)
      refine ld_here hw4 (.head _) (v := vI i.op) rfl ?_
      repeat (first | refine pu_not ?_ | refine pu_eql ?_ | refine pu_neq ?_ | refine pu_lss ?_ | refine pu_leq ?_ | refine pu_gtr ?_ | refine pu_geq ?_ | refine pu_add ?_ | refine pu_sub ?_ | refine pu_mul ?_ | refine pu_neg ?_ | refine fa_at ?_ | refine nl_ptr ?_ | refine ex20 ?_ | refine ex21 ?_ | refine ex30 ?_ | refine ex31 ?_ | refine ex32 ?_ | refine ln_rule ?_ | refine lnT_rule ?_ | refine pu_and ?_ | refine pu_or ?_ | refine pu_xor ?_ | refine pu_seq ?_ | refine pu_sne ?_)
      refine cnd_t (by simp [h3]) ?_
      refine must_t ?_
      refine kt ?_ _ (Ow.drop (p := (bi, iO i)) hw4)
      unfold refE
      rw [if_neg hloc, if_neg (fun h => h.2 hz), if_neg (by omega)]
    · have hz : ¬ (aDo i.imm (regR t.m.regs i.b) (regR t.m.regs i.c)).2 = 0 := by simpa using hq
      have e : refE t.m (lo.length + 1) i most = (aDo i.imm (regR t.m.regs i.b) (regR t.m.regs i.c)).2 := by
        unfold refE
        rw [if_neg hloc, if_pos ⟨h3, hz⟩]
      rw [e] at kf
      exact kf hz _ (Ow.drop (p := (bi, iO i)) hw4)
  · have h3 : ¬ i.op = 3 := by simpa using h3
    repeat (first | refine pu_not ?_ | refine pu_eql ?_ | refine pu_neq ?_ | refine pu_lss ?_ | refine pu_leq ?_ | refine pu_gtr ?_ | refine pu_geq ?_ | refine pu_add ?_ | refine pu_sub ?_ | refine pu_mul ?_ | refine pu_neg ?_ | refine fa_at ?_ | refine nl_ptr ?_ | refine ex20 ?_ | refine ex21 ?_ | refine ex30 ?_ | refine ex31 ?_ | refine ex32 ?_ | refine ln_rule ?_ | refine lnT_rule ?_ | refine pu_and ?_ | refine pu_or ?_ | refine pu_xor ?_ | refine pu_seq ?_ | refine pu_sne ?_)
    refine ld_here hw2 (.head _) (v := vI i.op) rfl ?_
    repeat (first | refine pu_not ?_ | refine pu_eql ?_ | refine pu_neq ?_ | refine pu_lss ?_ | refine pu_leq ?_ | refine pu_gtr ?_ | refine pu_geq ?_ | refine pu_add ?_ | refine pu_sub ?_ | refine pu_mul ?_ | refine pu_neg ?_ | refine fa_at ?_ | refine nl_ptr ?_ | refine ex20 ?_ | refine ex21 ?_ | refine ex30 ?_ | refine ex31 ?_ | refine ex32 ?_ | refine ln_rule ?_ | refine lnT_rule ?_ | refine pu_and ?_ | refine pu_or ?_ | refine pu_xor ?_ | refine pu_seq ?_ | refine pu_sne ?_)
    refine cnd (fun h8 => ?_) (fun h8 => ?_)
    · have h8 : ¬ i.op = 8 := by simpa using h8
      refine must_t ?_
      refine kt ?_ _ (Ow.drop (p := (bi, iO i)) hw2)
      unfold refE
      rw [if_neg hloc, if_neg (fun h => h3 h.1), if_neg (fun h => h8 h.1)]
    · have h8 : i.op = 8 := by simpa using h8
      repeat (first | refine pu_not ?_ | refine pu_eql ?_ | refine pu_neq ?_ | refine pu_lss ?_ | refine pu_leq ?_ | refine pu_gtr ?_ | refine pu_geq ?_ | refine pu_add ?_ | refine pu_sub ?_ | refine pu_mul ?_ | refine pu_neg ?_ | refine fa_at ?_ | refine nl_ptr ?_ | refine ex20 ?_ | refine ex21 ?_ | refine ex30 ?_ | refine ex31 ?_ | refine ex32 ?_ | refine ln_rule ?_ | refine lnT_rule ?_ | refine pu_and ?_ | refine pu_or ?_ | refine pu_xor ?_ | refine pu_seq ?_ | refine pu_sne ?_)
      refine gv hw2 ?_
      refine gl ?_
      repeat (first | refine pu_not ?_ | refine pu_eql ?_ | refine pu_neq ?_ | refine pu_lss ?_ | refine pu_leq ?_ | refine pu_gtr ?_ | refine pu_geq ?_ | refine pu_add ?_ | refine pu_sub ?_ | refine pu_mul ?_ | refine pu_neg ?_ | refine fa_at ?_ | refine nl_ptr ?_ | refine ex20 ?_ | refine ex21 ?_ | refine ex30 ?_ | refine ex31 ?_ | refine ex32 ?_ | refine ln_rule ?_ | refine lnT_rule ?_ | refine pu_and ?_ | refine pu_or ?_ | refine pu_xor ?_ | refine pu_seq ?_ | refine pu_sne ?_)
      refine must_b (fun hq => ?_) (fun hq => ?_)
      · refine kt ?_ _ (Ow.drop (p := (bi, iO i)) hw2)
        unfold refE
        rw [if_neg hloc, if_neg (fun h => h3 h.1), if_neg (fun h => h.2 (by simpa using hq))]
      · have e : refE t.m (lo.length + 1) i most = 222 := by
          unfold refE
          rw [if_neg hloc, if_neg (fun h => h3 h.1), if_pos ⟨h8, by simpa using hq⟩]
        rw [e] at kf
        exact kf (by decide) _ (Ow.drop (p := (bi, iO i)) hw2)
def doesS : List (Int × Value) := [(1, fnc N.stack_Stack_consts #[]), (2, fnc N.stack_Stack_moves #[]), (3, fnc N.stack_Stack_ariths #[]), (4, fnc N.stack_Stack_jumps #[]), (5, fnc N.stack_Stack_ifs #[]), (8, fnc N.stack_Stack_calls #[]), (9, fnc N.stack_Stack_returns #[]), (19, fnc N.stack_Stack_yields #[])]
theorem und_sdoes : PG.underlying T.t_map_api_Op_func_ptr_stack_Stack_api_Ins = some (.map T.t_api_Op T.t_func_ptr_stack_Stack_api_Ins) := by kernel_rfl
theorem does_spec (h : Ow B w H) (k : ∀ b w', Ow B w' ((b, mpo .i64 doesS) :: H) → K (.map (some b)) w') : callW PG N.stack_does [] K PK w := by
  refine stack_does.ok ?_
  unfold stack_does.C
  refine mk_rule (kd := .i64) h (fun bm w h => ?_)
  iterate 8 refine mu_rule (A := []) h und_sdoes und_op rfl (fun w h => ?_)
  exact k bm _ h
end
end Go.Proofs.YtkkkcafkepnecaaGreat
