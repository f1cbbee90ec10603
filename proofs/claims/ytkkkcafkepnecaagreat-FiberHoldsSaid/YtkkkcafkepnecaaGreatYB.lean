/- Fibers: Want. -/
import Derived.Test.YtkkkcafkepnecaaGreatYA
import Derived.Test.YtkkkcafkepnecaaGreatGB

set_option linter.unusedVariables false
set_option linter.unusedSimpArgs false
namespace Go.Proofs.YtkkkcafkepnecaaGreat
open Go Go.RowKit Vc Ar
attribute [local irreducible] binV Op.unary convert nlW faW ldS ldW ixS ixA ixV ixT exW lnS lnT pu stW alW opW opU bsW mkW

section
variable {B w : World} {H X F F' Q R : Hp} {K : Value → World → Prop} {PK : List PanicEntry → World → Prop} {KK : Value → Prop} {p : Pr} {s s' : SK} {v a : Value} {bf bw : Nat} {fr : Int} {i : Ins} {l : List Value} {t : FE} {lo : List FE} {f : Fun}
/-- What is wanted. -/
structure Wt where
  kind : Int
  fn : Int
  pc : Int
  addr : Int
  word : Int
  obj : Int
  n : Int
  func : Int
  trap : Int
deriving DecidableEq
def Wt.cells (x : Wt) (a : Value) : List Value := [vI x.kind, vI x.fn, vI x.pc, vU x.addr, vU x.word, vU x.obj, vI x.n, vI x.func, a, vI x.trap]
def wt0 : Wt := ⟨0, 0, 0, 0, 0, 0, 0, 0, 0⟩
theorem wt_plain (x : Wt) {a : Value} (h : plainV a = true) : (x.cells a).all plainV = true := by
  simp only [Wt.cells, List.all_cons, h]; rfl
/-- An instruction of a place, frames l (the top first): what is wanted, and the words that are handed in. -/
def wantW (fr : Int) (fn pc : Nat) (l : List Frm) (i : Ins) : Wt × List Int :=
  if i.op = 6 then (⟨2, fn, pc, regT l i.b, 0, 0, 0, 0, 0⟩, [])
  else if i.op = 7 then (⟨3, fn, pc, regT l i.a, regT l i.b, 0, 0, 0, 0⟩, [])
  else if i.op = 10 then (⟨4, fn, pc, 0, 0, 0, 0, i.imm, 0⟩, gathL l i.b i.c.toNat)
  else if i.op = 17 then (⟨11, fn, pc, 0, 0, regT l i.a, aSg (regT l i.b), 0, 0⟩, [])
  else if 11 ≤ i.op ∧ i.op ≤ 18 then (⟨i.op - 6, fn, pc, 0, 0, regT l i.a, 0, 0, 0⟩, [])
  else (⟨(wtL fr l i).1, fn, pc, 0, 0, 0, 0, 0, (wtL fr l i).2⟩, [])
def wantsS : List (Int × Value) := [(6, fnc N.fiber_Fiber_loads #[]), (7, fnc N.fiber_Fiber_stores #[]), (10, fnc N.fiber_Fiber_begins #[]), (17, fnc N.fiber_Fiber_counts #[]), (18, fnc N.fiber_Fiber_shares #[]), (11, fnc N.fiber_Fiber_shares #[]), (12, fnc N.fiber_Fiber_shares #[]), (13, fnc N.fiber_Fiber_shares #[]), (14, fnc N.fiber_Fiber_shares #[]), (15, fnc N.fiber_Fiber_shares #[]), (16, fnc N.fiber_Fiber_shares #[])]
theorem und_wants : PG.underlying T.t_map_api_Op_func_ptr_fiber_Fiber_api_Ins_ptr_api_Want = some (.map T.t_api_Op T.t_func_ptr_fiber_Fiber_api_Ins_ptr_api_Want) := by kernel_rfl
theorem wants_spec (h : Ow B w H) (k : ∀ b w', Ow B w' ((b, mpo .i64 wantsS) :: H) → K (.map (some b)) w') : callW PG N.fiber_wants [] K PK w := by
  refine fiber_wants.ok ?_
  unfold fiber_wants.C
  refine mk_rule (kd := .i64) h (fun bm w h => ?_)
  iterate 11 refine mu_rule (A := []) h und_wants und_op rfl (fun w h => ?_)
  exact k bm _ h
/-- What the table's function does. -/
theorem disp_spec {fn pc : Nat} (hs : s.ok p F) (hu : ∀ t ∈ s.frs, AllU t.regs) (him : 0 ≤ i.imm ∧ i.imm < 4294967296) (hok : okI i = true) (hin : ∃ g, lk wantsS i.op = some g) (hf : (bf, fbO s.b fr) ∈ R) (h : Ow B w (s.hp p ++ (bw, wnO ({ wt0 with fn := fn, pc := pc }.cells (.slice none 0 0))) :: R))
    (k : ∀ S v w', plainV v = true → Sl S v (rgs (wantW fr fn pc s.frs i).2) → Ow B w' (S ++ (s.hp p ++ (bw, wnO ((wantW fr fn pc s.frs i).1.cells v)) :: R)) → K (.tuple #[]) w') :
    callV PG ((lk wantsS i.op).getD .nilFunc) [ptr bf, .agg i.cells.toArray, ptr bw] K PK w := by
  have hsm := ok_sm him hok
  have hsa := hsm.a
  have hsb := hsm.b
  have hsc := hsm.c
  have nil : Sl ([] : Hp) (.slice none 0 0) (rgs []) := sl_nil _ _ rfl
  by_cases h6 : i.op = 6
  · have e : (lk wantsS i.op).getD .nilFunc = fnc N.fiber_Fiber_loads #[] := by rw [h6]; rfl
    have ew : wantW fr fn pc s.frs i = (⟨2, fn, pc, regT s.frs i.b, 0, 0, 0, 0, 0⟩, []) := by unfold wantW; rw [if_pos h6]
    rw [e]
    rw [ew] at k
    exact callV_fn fiber_Fiber_loads.okf (loads_spec hs hf rfl h (fun w' h' => k [] _ w' rfl nil h'))
  by_cases h7 : i.op = 7
  · have e : (lk wantsS i.op).getD .nilFunc = fnc N.fiber_Fiber_stores #[] := by rw [h7]; rfl
    have ew : wantW fr fn pc s.frs i = (⟨3, fn, pc, regT s.frs i.a, regT s.frs i.b, 0, 0, 0, 0⟩, []) := by unfold wantW; rw [if_neg h6, if_pos h7]
    rw [e]
    rw [ew] at k
    exact callV_fn fiber_Fiber_stores.okf (stores_spec hs hf rfl h (fun w' h' => k [] _ w' rfl nil h'))
  by_cases h10 : i.op = 10
  · have e : (lk wantsS i.op).getD .nilFunc = fnc N.fiber_Fiber_begins #[] := by rw [h10]; rfl
    have ew : wantW fr fn pc s.frs i = (⟨4, fn, pc, 0, 0, 0, 0, i.imm, 0⟩, gathL s.frs i.b i.c.toNat) := by unfold wantW; rw [if_neg h6, if_neg h7, if_pos h10]
    rw [e]
    rw [ew] at k
    refine callV_fn fiber_Fiber_begins.okf (begins_spec hs him (by omega) (by omega) hf rfl h (fun S v w' ho h' => ?_))
    have hgl : (rgs (gathL s.frs i.b i.c.toNat)).length = i.c.toNat := by simp [rgs, gathL]
    obtain ⟨a9, c9, hv9⟩ := ho.len
    exact k S v w' (by rw [hv9]; rfl) (Vc.Own.sl ho) h'
  by_cases h17 : i.op = 17
  · have e : (lk wantsS i.op).getD .nilFunc = fnc N.fiber_Fiber_counts #[] := by rw [h17]; rfl
    have ew : wantW fr fn pc s.frs i = (⟨11, fn, pc, 0, 0, regT s.frs i.a, aSg (regT s.frs i.b), 0, 0⟩, []) := by unfold wantW; rw [if_neg h6, if_neg h7, if_neg h10, if_pos h17]
    rw [e]
    rw [ew] at k
    exact callV_fn fiber_Fiber_counts.okf (counts_spec hs hu hf rfl h (fun w' h' => k [] _ w' rfl nil h'))
  have hr : 11 ≤ i.op ∧ i.op ≤ 18 := by
    obtain ⟨g, hg⟩ := hin
    have hnn := ok_nn hok
    have : i.op = 1 ∨ i.op = 2 ∨ i.op = 3 ∨ i.op = 4 ∨ i.op = 5 ∨ i.op = 8 ∨ i.op = 9 ∨ i.op = 19 ∨ (11 ≤ i.op ∧ i.op ≤ 18) := by omega
    rcases this with h | h | h | h | h | h | h | h | h
    any_goals (rw [h] at hg; cases hg)
    exact h
  have e : (lk wantsS i.op).getD .nilFunc = fnc N.fiber_Fiber_shares #[] := by
    have : i.op = 11 ∨ i.op = 12 ∨ i.op = 13 ∨ i.op = 14 ∨ i.op = 15 ∨ i.op = 16 ∨ i.op = 18 := by omega
    rcases this with h | h | h | h | h | h | h <;> rw [h] <;> rfl
  have ew : wantW fr fn pc s.frs i = (⟨i.op - 6, fn, pc, 0, 0, regT s.frs i.a, 0, 0, 0⟩, []) := by unfold wantW; rw [if_neg h6, if_neg h7, if_neg h10, if_neg h17, if_pos hr]
  rw [e]
  rw [ew] at k
  exact callV_fn fiber_Fiber_shares.okf (shares_spec hs hr hf rfl h (fun w' h' => k [] _ w' rfl nil h'))
theorem disp_none {fn pc : Nat} (hok : okI i = true) (h : lk wantsS i.op = none) : wantW fr fn pc s.frs i = (⟨(wtL fr s.frs i).1, fn, pc, 0, 0, 0, 0, 0, (wtL fr s.frs i).2⟩, []) := by
  have hno : ¬ (i.op = 6 ∨ i.op = 7 ∨ i.op = 10 ∨ i.op = 17 ∨ (11 ≤ i.op ∧ i.op ≤ 18)) := by
    intro hc
    have : i.op = 6 ∨ i.op = 7 ∨ i.op = 10 ∨ i.op = 11 ∨ i.op = 12 ∨ i.op = 13 ∨ i.op = 14 ∨ i.op = 15 ∨ i.op = 16 ∨ i.op = 17 ∨ i.op = 18 := by omega
    rcases this with h' | h' | h' | h' | h' | h' | h' | h' | h' | h' | h' <;> (rw [h'] at h; cases h)
  unfold wantW
  rw [if_neg (by omega), if_neg (by omega), if_neg (by omega), if_neg (by omega), if_neg (by omega)]
theorem fnone_nil (k : K (vB true) w) : callW PG N.fiber_Fiber_none [.pointer none] K PK w := by
  refine fiber_Fiber_none.ok ?_
  unfold fiber_Fiber_none.C
  exact pu_pnil (e := T.t_fiber_Fiber) (by kernel_rfl) (cnd_t rfl k)
theorem fnone_at {b : Value} (h : Ow B w H) (hm : (bf, cel [b, vI fr] T.t_fiber_Fiber) ∈ H) (k : K (vB (decide (fr = 0))) w) : callW PG N.fiber_Fiber_none [ptr bf] K PK w := by
  refine fiber_Fiber_none.ok ?_
  unfold fiber_Fiber_none.C
  refine pu_pnil (e := T.t_fiber_Fiber) (by kernel_rfl) (cnd_f rfl ?_)
  repeat (first | refine pu_not ?_ | refine pu_eql ?_ | refine pu_neq ?_ | refine pu_lss ?_ | refine pu_leq ?_ | refine pu_gtr ?_ | refine pu_geq ?_ | refine pu_add ?_ | refine pu_sub ?_ | refine pu_mul ?_ | refine pu_neg ?_ | refine fa_at ?_ | refine nl_ptr ?_ | refine ex20 ?_ | refine ex21 ?_ | refine ex30 ?_ | refine ex31 ?_ | refine ex32 ?_ | refine ln_rule ?_ | refine lnT_rule ?_ | refine pu_and ?_ | refine pu_or ?_ | refine pu_xor ?_ | refine pu_seq ?_ | refine pu_sne ?_)
  refine ld_here h hm (v := vI fr) rfl ?_
  repeat (first | refine pu_not ?_ | refine pu_eql ?_ | refine pu_neq ?_ | refine pu_lss ?_ | refine pu_leq ?_ | refine pu_gtr ?_ | refine pu_geq ?_ | refine pu_add ?_ | refine pu_sub ?_ | refine pu_mul ?_ | refine pu_neg ?_ | refine fa_at ?_ | refine nl_ptr ?_ | refine ex20 ?_ | refine ex21 ?_ | refine ex30 ?_ | refine ex31 ?_ | refine ex32 ?_ | refine ln_rule ?_ | refine lnT_rule ?_ | refine pu_and ?_ | refine pu_or ?_ | refine pu_xor ?_ | refine pu_seq ?_ | refine pu_sne ?_)
  rw [ibeq]
  exact k
/-- A fiber that is none. -/
def Nofi (H : Hp) (s : Value) : Prop := s = .pointer none ∨ ∃ b v, s = ptr b ∧ (b, cel [v, vI 0] T.t_fiber_Fiber) ∈ H
theorem nofi_spec {s : Value} (h : Ow B w H) (hs : Nofi H s) (k : K (vB true) w) : callW PG N.fiber_Fiber_none [s] K PK w := by
  rcases hs with rfl | ⟨b, v, rfl, hm⟩
  · exact fnone_nil k
  · exact fnone_at h hm k
theorem Nofi.mono {s : Value} {H' : Hp} (h : Nofi H s) (hs : ∀ x, x ∈ H → x ∈ H') : Nofi H' s := by
  rcases h with rfl | ⟨b, v, rfl, hm⟩
  · exact .inl rfl
  · exact .inr ⟨b, v, rfl, hs _ hm⟩
theorem zwant : zc PG T.t_api_Want = (wt0.cells (.slice none 0 0)).toArray := by kernel_rfl
theorem wt_set (l : List Value) (x : Wt) (a : Value) (hl : l.length = 10) : l.take 0 ++ x.cells a ++ l.drop (0 + 10) = x.cells a := by
  rw [Nat.zero_add, List.drop_eq_nil_of_le (by omega)]
  simp
theorem wt_len (x : Wt) (a : Value) : (x.cells a).length = 10 := rfl
theorem want_none {s : Value} (h : Ow B w H) (hs : Nofi H s) (k : ∀ w', Ow B w' H → K (.tuple #[.agg (wt0.cells (.slice none 0 0)).toArray, vB false]) w') : callW PG N.fiber_Fiber_Want [s] K PK w := by
  refine fiber_Fiber_Want.ok ?_
  unfold fiber_Fiber_Want.C
  refine al_rule h (l := wt0.cells (.slice none 0 0)) zwant (fun b1 w1 h1 => ?_)
  refine nofi_spec h1 (hs.mono fun x hx => .tail _ hx) (cnd_t rfl ?_)
  refine pu_build (wt0.cells (.slice none 0 0)) (by kernel_rfl) ?_
  refine st_here (A := []) h1 (wt0.cells (.slice none 0 0)) rfl rfl rfl (by simp [wt_len]) (fun w2 h2 => ?_)
  rw [wt_set _ _ _ rfl] at h2
  refine ldn_here h2 (.head _) (vs := wt0.cells (.slice none 0 0)) rfl rfl ?_
  exact k _ (Ow.drop h2)
theorem want_end (hs : s.ok p F) (he : s.es = []) (hfr : fr ≠ 0) (hf : (bf, fbO s.b fr) ∈ H) (hm : (s.b, stO (s.cell p)) ∈ H) (h : Ow B w H) (k : ∀ w', Ow B w' H → K (.tuple #[.agg (wt0.cells (.slice none 0 0)).toArray, vB false]) w') : callW PG N.fiber_Fiber_Want [ptr bf] K PK w := by
  refine fiber_Fiber_Want.ok ?_
  unfold fiber_Fiber_Want.C
  refine al_rule h (l := wt0.cells (.slice none 0 0)) zwant (fun b1 w1 h1 => ?_)
  refine fnone_at h1 (.tail _ hf) (cnd_f (by simp [hfr]) ?_)
  refine fb_ldw h1 (.tail _ hf) ?_
  refine next_end hs he h1 (.tail _ hm) (fun w2 h2 => ?_)
  unfold zeroNext
  repeat (first | refine pu_not ?_ | refine pu_eql ?_ | refine pu_neq ?_ | refine pu_lss ?_ | refine pu_leq ?_ | refine pu_gtr ?_ | refine pu_geq ?_ | refine pu_add ?_ | refine pu_sub ?_ | refine pu_mul ?_ | refine pu_neg ?_ | refine fa_at ?_ | refine nl_ptr ?_ | refine ex20 ?_ | refine ex21 ?_ | refine ex30 ?_ | refine ex31 ?_ | refine ex32 ?_ | refine ln_rule ?_ | refine lnT_rule ?_ | refine pu_and ?_ | refine pu_or ?_ | refine pu_xor ?_ | refine pu_seq ?_ | refine pu_sne ?_)
  refine al_rule h2 (l := (bare 0).cells) zins (fun bi w3 h3 => ?_)
  refine al_rule h3 (l := [vI 0, vI 0]) (by kernel_rfl) (fun bs w4 h4 => ?_)
  refine st_here (A := [_]) h4 (bare 0).cells rfl rfl (ins_plain _) (by simp [Ins.cells]) (fun w5 h5 => ?_)
  refine st_here (A := []) h5 [vI 0, vI 0] rfl rfl rfl (by simp) (fun w6 h6 => ?_)
  repeat (first | refine pu_not ?_ | refine pu_eql ?_ | refine pu_neq ?_ | refine pu_lss ?_ | refine pu_leq ?_ | refine pu_gtr ?_ | refine pu_geq ?_ | refine pu_add ?_ | refine pu_sub ?_ | refine pu_mul ?_ | refine pu_neg ?_ | refine fa_at ?_ | refine nl_ptr ?_ | refine ex20 ?_ | refine ex21 ?_ | refine ex30 ?_ | refine ex31 ?_ | refine ex32 ?_ | refine ln_rule ?_ | refine lnT_rule ?_ | refine pu_and ?_ | refine pu_or ?_ | refine pu_xor ?_ | refine pu_seq ?_ | refine pu_sne ?_)
  refine cnd_t rfl ?_
  refine pu_build (wt0.cells (.slice none 0 0)) (by kernel_rfl) ?_
  refine st_here (A := [_, _]) h6 (wt0.cells (.slice none 0 0)) rfl rfl rfl (by simp [wt_len]) (fun w7 h7 => ?_)
  rw [wt_set _ _ _ rfl] at h7
  refine ldn_here h7 (.tail _ (.tail _ (.head _))) (vs := wt0.cells (.slice none 0 0)) rfl rfl ?_
  exact k _ (Ow.drop (Ow.drop (Ow.drop h7)))
theorem want_at (hs : s.ok p F) (he : s.es = t :: lo) (hF : ∀ x, x ∈ F → x ∈ R) (hu : ∀ t ∈ s.frs, AllU t.regs) (h1 : p.fs[t.m.fn]? = some f) (h2 : f.code[t.m.pc]? = some i) (him : 0 ≤ i.imm ∧ i.imm < 4294967296) (hok : okI i = true) (hfr : fr ≠ 0) (hf : (bf, fbO s.b fr) ∈ R) (h : Ow B w (s.hp p ++ R))
    (k : ∀ S v w', plainV v = true → Sl S v (rgs (wantW fr t.m.fn t.m.pc s.frs i).2) → Ow B w' (S ++ (s.hp p ++ R)) → K (.tuple #[.agg ((wantW fr t.m.fn t.m.pc s.frs i).1.cells v).toArray, vB true]) w') : callW PG N.fiber_Fiber_Want [ptr bf] K PK w := by
  refine fiber_Fiber_Want.ok ?_
  unfold fiber_Fiber_Want.C
  refine al_rule h (l := wt0.cells (.slice none 0 0)) zwant (fun b2 w1 hw1 => ?_)
  refine fnone_at hw1 (.tail _ (List.mem_append_right _ hf)) (cnd_f (by simp [hfr]) ?_)
  refine fb_ldw hw1 (.tail _ (List.mem_append_right _ hf)) ?_
  have hw1 := ins_perm hw1
  refine next_at hs he (fun x hx => .tail _ (hF x hx)) h1 h2 hw1 (fun w2 hw2 => ?_)
  repeat (first | refine pu_not ?_ | refine pu_eql ?_ | refine pu_neq ?_ | refine pu_lss ?_ | refine pu_leq ?_ | refine pu_gtr ?_ | refine pu_geq ?_ | refine pu_add ?_ | refine pu_sub ?_ | refine pu_mul ?_ | refine pu_neg ?_ | refine fa_at ?_ | refine nl_ptr ?_ | refine ex20 ?_ | refine ex21 ?_ | refine ex30 ?_ | refine ex31 ?_ | refine ex32 ?_ | refine ln_rule ?_ | refine lnT_rule ?_ | refine pu_and ?_ | refine pu_or ?_ | refine pu_xor ?_ | refine pu_seq ?_ | refine pu_sne ?_)
  refine al_rule hw2 (l := (bare 0).cells) zins (fun bi w3 hw3 => ?_)
  refine al_rule hw3 (l := [vI 0, vI 0]) (by kernel_rfl) (fun bs w4 hw4 => ?_)
  refine st_here (A := [_]) hw4 i.cells rfl rfl (ins_plain _) (by simp [Ins.cells]) (fun w5 hw5 => ?_)
  have e5 : ∀ i : Ins, (bare 0).cells.take 0 ++ i.cells ++ (bare 0).cells.drop (0 + 5) = i.cells := fun i => rfl
  rw [e5] at hw5
  refine st_here (A := []) hw5 [vI t.m.fn, vI t.m.pc] rfl rfl rfl (by simp) (fun w6 hw6 => ?_)
  simp only [List.take_zero, List.nil_append, Nat.zero_add, List.drop_succ_cons, List.drop_zero, List.drop_nil, List.append_nil] at hw6
  repeat (first | refine pu_not ?_ | refine pu_eql ?_ | refine pu_neq ?_ | refine pu_lss ?_ | refine pu_leq ?_ | refine pu_gtr ?_ | refine pu_geq ?_ | refine pu_add ?_ | refine pu_sub ?_ | refine pu_mul ?_ | refine pu_neg ?_ | refine fa_at ?_ | refine nl_ptr ?_ | refine ex20 ?_ | refine ex21 ?_ | refine ex30 ?_ | refine ex31 ?_ | refine ex32 ?_ | refine ln_rule ?_ | refine lnT_rule ?_ | refine pu_and ?_ | refine pu_or ?_ | refine pu_xor ?_ | refine pu_seq ?_ | refine pu_sne ?_)
  refine cnd_f rfl ?_
  refine ldn_here hw6 (.head _) (vs := [vI t.m.fn, vI t.m.pc]) rfl rfl ?_
  refine pu_build ({ wt0 with fn := t.m.fn, pc := t.m.pc }.cells (.slice none 0 0)) (by kernel_rfl) ?_
  refine al_rule hw6 (l := wt0.cells (.slice none 0 0)) zwant (fun bw w7 hw7 => ?_)
  refine st_here (A := []) hw7 ({ wt0 with fn := t.m.fn, pc := t.m.pc }.cells (.slice none 0 0)) rfl rfl rfl (by simp [wt_len]) (fun w8 hw8 => ?_)
  rw [wt_set _ _ _ rfl] at hw8
  have him' : (bi, iO i) ∈ [(bs, cel [vI t.m.fn, vI t.m.pc] T.t_api_Site), (bi, iO i)] ++ (s.hp p ++ ((b2, wnO (wt0.cells (.slice none 0 0))) :: R)) := .tail _ (.head _)
  have hsub : ∀ {w : World} {A : Hp}, Ow B w (A ++ ([(bs, cel [vI t.m.fn, vI t.m.pc] T.t_api_Site), (bi, iO i)] ++ (s.hp p ++ ((b2, wnO (wt0.cells (.slice none 0 0))) :: R)))) → Ow B w ([(bs, cel [vI t.m.fn, vI t.m.pc] T.t_api_Site), (bi, iO i)] ++ (s.hp p ++ ((b2, wnO (wt0.cells (.slice none 0 0))) :: R))) := fun h => h.sub (List.sublist_append_right _ _)
  refine ⟨fun w => Ow B w ([(bs, cel [vI t.m.fn, vI t.m.pc] T.t_api_Site), (bi, iO i)] ++ (s.hp p ++ ((b2, wnO (wt0.cells (.slice none 0 0))) :: R))), hsub (A := [_]) hw8.drew, ?_⟩
  repeat (first | refine pu_not ?_ | refine pu_eql ?_ | refine pu_neq ?_ | refine pu_lss ?_ | refine pu_leq ?_ | refine pu_gtr ?_ | refine pu_geq ?_ | refine pu_add ?_ | refine pu_sub ?_ | refine pu_mul ?_ | refine pu_neg ?_ | refine fa_at ?_ | refine nl_ptr ?_ | refine ex20 ?_ | refine ex21 ?_ | refine ex30 ?_ | refine ex31 ?_ | refine ex32 ?_ | refine ln_rule ?_ | refine lnT_rule ?_ | refine pu_and ?_ | refine pu_or ?_ | refine pu_xor ?_ | refine pu_seq ?_ | refine pu_sne ?_)
  refine lds_here (fun w h => h) him' (v := vI i.op) rfl ?_
  refine wants_spec hw8.drew (fun bm w9 hw9 => ⟨hsub (A := [_, _]) hw9, ?_⟩)
  refine lk_rule hw9 (.head _) und_wants und_op (z := .nilFunc) (by kernel_rfl) ?_
  repeat (first | refine pu_not ?_ | refine pu_eql ?_ | refine pu_neq ?_ | refine pu_lss ?_ | refine pu_leq ?_ | refine pu_gtr ?_ | refine pu_geq ?_ | refine pu_add ?_ | refine pu_sub ?_ | refine pu_mul ?_ | refine pu_neg ?_ | refine fa_at ?_ | refine nl_ptr ?_ | refine ex20 ?_ | refine ex21 ?_ | refine ex30 ?_ | refine ex31 ?_ | refine ex32 ?_ | refine ln_rule ?_ | refine lnT_rule ?_ | refine pu_and ?_ | refine pu_or ?_ | refine pu_xor ?_ | refine pu_seq ?_ | refine pu_sne ?_)
  have hw9 : Ow B w9 (s.hp p ++ (bw, wnO ({ wt0 with fn := t.m.fn, pc := t.m.pc }.cells (.slice none 0 0))) :: ((bm, mpo .i64 wantsS) :: (bs, cel [vI t.m.fn, vI t.m.pc] T.t_api_Site) :: (bi, iO i) :: (b2, wnO (wt0.cells (.slice none 0 0))) :: R)) := by
    have := hw9.perm (List.perm_append_comm_assoc [_, _, _, _] (s.hp p) _)
    exact this.perm (List.Perm.append_left _ (List.Perm.swap _ _ _))
  have hRf : (bf, fbO s.b fr) ∈ (bm, mpo .i64 wantsS) :: (bs, cel [vI t.m.fn, vI t.m.pc] T.t_api_Site) :: (bi, iO i) :: (b2, wnO (wt0.cells (.slice none 0 0))) :: R := .tail _ (.tail _ (.tail _ (.tail _ hf)))
  have hmi : (bi, iO i) ∈ s.hp p ++ (bw, wnO ({ wt0 with fn := t.m.fn, pc := t.m.pc }.cells (.slice none 0 0))) :: ((bm, mpo .i64 wantsS) :: (bs, cel [vI t.m.fn, vI t.m.pc] T.t_api_Site) :: (bi, iO i) :: (b2, wnO (wt0.cells (.slice none 0 0))) :: R) := List.mem_append_right _ (.tail _ (.tail _ (.tail _ (.head _))))
  have fin : ∀ {w : World} {S : Hp} {v : Value}, plainV v = true → Sl S v (rgs (wantW fr t.m.fn t.m.pc s.frs i).2) → Ow B w (S ++ (s.hp p ++ (bw, wnO ((wantW fr t.m.fn t.m.pc s.frs i).1.cells v)) :: ((bm, mpo .i64 wantsS) :: (bs, cel [vI t.m.fn, vI t.m.pc] T.t_api_Site) :: (bi, iO i) :: (b2, wnO (wt0.cells (.slice none 0 0))) :: R))) →
      ldW (some 10) (ptr bw) w fun t60 => stW 10 (ptr b2) t60 (fun w61 => ldW (some 10) (ptr b2) w61 fun t62 => K (.tuple #[t62, vB true]) w61) w := fun {w S v} hv hsl h => by
    refine ldn_here h (List.mem_append_right _ (List.mem_append_right _ (.head _))) (vs := (wantW fr t.m.fn t.m.pc s.frs i).1.cells v) rfl rfl ?_
    have h' : Ow B w ((S ++ (s.hp p ++ [(bw, wnO ((wantW fr t.m.fn t.m.pc s.frs i).1.cells v)), (bm, mpo .i64 wantsS), (bs, cel [vI t.m.fn, vI t.m.pc] T.t_api_Site), (bi, iO i)])) ++ (b2, wnO (wt0.cells (.slice none 0 0))) :: R) := by simpa using h
    refine st_here h' ((wantW fr t.m.fn t.m.pc s.frs i).1.cells v) rfl rfl (wt_plain _ hv) (by simp [wt_len]) (fun w2 h2 => ?_)
    rw [wt_set _ _ _ rfl] at h2
    refine ldn_here h2 (List.mem_append_right _ (.head _)) (vs := (wantW fr t.m.fn t.m.pc s.frs i).1.cells v) rfl rfl ?_
    refine k S v _ hv hsl (h2.sub ?_)
    rw [List.append_assoc]
    exact (List.Sublist.refl S).append ((List.sublist_append_left _ _).append (.cons _ (.refl _)))
  refine cnd (fun hq => ?_) (fun hq => ?_)
  · have hnone : lk wantsS i.op = none := by
      cases hl : lk wantsS i.op
      · rfl
      · rw [hl] at hq; simp at hq
    refine ldn_here hw9 hmi (vs := i.cells) rfl rfl ?_
    have ew := disp_none (fr := fr) (fn := t.m.fn) (pc := t.m.pc) (s := s) hok hnone
    refine callV_fn fiber_Fiber_local.okf (flocal_spec hs hu him hRf rfl rfl hw9 (fun w10 hw10 => ?_))
    rw [ew] at fin
    exact fin (S := []) (v := .slice none 0 0) rfl (sl_nil _ _ rfl) hw10
  · have hsome : ∃ g, lk wantsS i.op = some g := by
      cases hl : lk wantsS i.op
      · rw [hl] at hq; simp at hq
      · exact ⟨_, rfl⟩
    refine ldn_here hw9 hmi (vs := i.cells) rfl rfl ?_
    exact disp_spec hs hu him hok hsome hRf hw9 (fun S v w10 hv hsl hw10 => fin hv hsl hw10)
end
end Go.Proofs.YtkkkcafkepnecaaGreat

