/- Fibers: what is wanted. -/
import Derived.Test.YtkkkcafkepnecaaGreatZU
import Derived.Test.YtkkkcafkepnecaaGreatGA

set_option linter.unusedVariables false
set_option linter.unusedSimpArgs false
namespace Go.Proofs.YtkkkcafkepnecaaGreat
open Go Go.RowKit Vc Ar
attribute [local irreducible] binV Op.unary convert nlW faW ldS ldW ixS ixA ixV ixT exW lnS lnT pu stW alW opW opU bsW mkW

section
variable {B w : World} {H X F F' Q R : Hp} {K : Value → World → Prop} {PK : List PanicEntry → World → Prop} {KK : Value → Prop} {p : Pr} {s s' : SK} {v a : Value} {bf bw : Nat} {fr : Int} {i : Ins} {l : List Value}
abbrev fbO (b : Nat) (fr : Int) : Obj := cel [ptr b, vI fr] T.t_fiber_Fiber
abbrev wnO (l : List Value) : Obj := cel l T.t_api_Want
theorem SK.es_len2 (s : SK) : s.es.length = s.frs.length := by simp [SK.frs]
theorem regT_u {frs : List Frm} {i : Int} (h : ∀ t ∈ frs, AllU t.regs) : IsU (regT frs i) := by
  unfold regT
  split
  · exact zero_u
  · rename_i t lo
    split
    · exact (h t (.head _)).reg i
    · exact zero_u
/-- The heap with an instruction's own cells moved behind the stack. -/
theorem ins_perm {b : Nat} {o : Obj} {C : Hp} (h : Ow B w ((b, o) :: (s.hp p ++ C))) : Ow B w (s.hp p ++ ((b, o) :: C)) := h.perm List.perm_middle.symm
theorem wn_perm {C : Hp} (h : Ow B w (s.hp p ++ ((bw, wnO l) :: C))) : Ow B w ((s.hp p) ++ (bw, wnO l) :: C) := h
/-- A cell of what is wanted is written. -/
theorem wn_st {KU : World → Prop} {A C : Hp} {j : Nat} {x : Value} (h : Ow B w (A ++ (bw, wnO l) :: C)) (hx : x.cells = #[x]) (hp : plainV x = true) (hj : j < l.length) (k : ∀ w', Ow B w' (A ++ (bw, wnO (l.set j x)) :: C) → KU w') : nlW (ptr bw) fun t => faW j t fun q => stW 1 q x KU w := by
  refine nl_ptr (fa_at ?_)
  refine st1_here (off := 0 + j) h hx hp (by omega) (fun w' h' => k w' (by rw [Nat.zero_add] at h'; exact h'))
/-- The fiber's stack. -/
theorem fb_lds {Q : World → Prop} {H' : Hp} {b : Nat} (h : ∀ w, Q w → Ow B w H') (hm : (bf, fbO b fr) ∈ H') (k : KK (ptr b)) : nlW (ptr bf) fun t => faW 0 t fun t => faW 0 t fun t => ldS none t Q KK := by
  refine nl_ptr (fa_at (fa_at ?_))
  exact lds_here h hm (v := ptr b) rfl k
theorem fb_ldw {b : Nat} (h : Ow B w H) (hm : (bf, fbO b fr) ∈ H) (k : KK (ptr b)) : nlW (ptr bf) fun t => faW 0 t fun t => faW 0 t fun t => ldW none t w KK := by
  refine nl_ptr (fa_at (fa_at ?_))
  exact ld_here h hm (v := ptr b) rfl k
theorem loads_spec (hs : s.ok p F) (hf : (bf, fbO s.b fr) ∈ R) (hl : l.length = 10) (h : Ow B w (s.hp p ++ (bw, wnO l) :: R)) (k : ∀ w', Ow B w' (s.hp p ++ (bw, wnO ((l.set 0 (vI 2)).set 3 (vU (regT s.frs i.b)))) :: R) → K (.tuple #[]) w') : callW PG N.fiber_Fiber_loads [ptr bf, .agg i.cells.toArray, ptr bw] K PK w := by
  refine fiber_Fiber_loads.ok ?_
  unfold fiber_Fiber_loads.C
  refine al_rule h (l := i.cells) rfl (fun bi w1 h1 => ?_)
  have h1 := ins_perm h1
  have hfm : (bf, fbO s.b fr) ∈ s.hp p ++ ((bi, iO i) :: (bw, wnO l) :: R) := List.mem_append_right _ (.tail _ (.tail _ hf))
  have him : (bi, iO i) ∈ s.hp p ++ ((bi, iO i) :: (bw, wnO l) :: R) := List.mem_append_right _ (.head _)
  refine ⟨fun w => Ow B w (s.hp p ++ ((bi, iO i) :: (bw, wnO l) :: R)), h1.drew, ?_⟩
  refine fb_lds (fun w h => h) hfm ?_
  repeat (first | refine pu_not ?_ | refine pu_eql ?_ | refine pu_neq ?_ | refine pu_lss ?_ | refine pu_leq ?_ | refine pu_gtr ?_ | refine pu_geq ?_ | refine pu_add ?_ | refine pu_sub ?_ | refine pu_mul ?_ | refine pu_neg ?_ | refine fa_at ?_ | refine nl_ptr ?_ | refine ex20 ?_ | refine ex21 ?_ | refine ex30 ?_ | refine ex31 ?_ | refine ex32 ?_ | refine ln_rule ?_ | refine lnT_rule ?_ | refine pu_and ?_ | refine pu_or ?_ | refine pu_xor ?_ | refine pu_seq ?_ | refine pu_sne ?_)
  refine lds_here (fun w h => h) him (v := vI i.b) rfl ?_
  refine reg_spec hs h1.drew (fun w2 h2 => ?_)
  have h2 : Ow B w2 ((s.hp p ++ [(bi, iO i)]) ++ (bw, wnO l) :: R) := by simpa using h2
  refine wn_st h2 rfl rfl (by omega) (fun w3 h3 => ?_)
  refine wn_st h3 rfl rfl (by rw [List.length_set]; omega) (fun w4 h4 => ?_)
  exact k _ (h4.sub ((List.sublist_append_left _ _).append (.refl _)))
theorem stores_spec (hs : s.ok p F) (hf : (bf, fbO s.b fr) ∈ R) (hl : l.length = 10) (h : Ow B w (s.hp p ++ (bw, wnO l) :: R)) (k : ∀ w', Ow B w' (s.hp p ++ (bw, wnO (((l.set 0 (vI 3)).set 3 (vU (regT s.frs i.a))).set 4 (vU (regT s.frs i.b)))) :: R) → K (.tuple #[]) w') : callW PG N.fiber_Fiber_stores [ptr bf, .agg i.cells.toArray, ptr bw] K PK w := by
  refine fiber_Fiber_stores.ok ?_
  unfold fiber_Fiber_stores.C
  refine al_rule h (l := i.cells) rfl (fun bi w1 h1 => ?_)
  have h1 := ins_perm h1
  have hfm : (bf, fbO s.b fr) ∈ s.hp p ++ ((bi, iO i) :: (bw, wnO l) :: R) := List.mem_append_right _ (.tail _ (.tail _ hf))
  have him : (bi, iO i) ∈ s.hp p ++ ((bi, iO i) :: (bw, wnO l) :: R) := List.mem_append_right _ (.head _)
  refine ⟨fun w => Ow B w (s.hp p ++ ((bi, iO i) :: (bw, wnO l) :: R)), h1.drew, ?_⟩
  refine fb_lds (fun w h => h) hfm ?_
  repeat (first | refine pu_not ?_ | refine pu_eql ?_ | refine pu_neq ?_ | refine pu_lss ?_ | refine pu_leq ?_ | refine pu_gtr ?_ | refine pu_geq ?_ | refine pu_add ?_ | refine pu_sub ?_ | refine pu_mul ?_ | refine pu_neg ?_ | refine fa_at ?_ | refine nl_ptr ?_ | refine ex20 ?_ | refine ex21 ?_ | refine ex30 ?_ | refine ex31 ?_ | refine ex32 ?_ | refine ln_rule ?_ | refine lnT_rule ?_ | refine pu_and ?_ | refine pu_or ?_ | refine pu_xor ?_ | refine pu_seq ?_ | refine pu_sne ?_)
  refine lds_here (fun w h => h) him (v := vI i.a) rfl ?_
  refine fb_lds (fun w h => h) hfm ?_
  repeat (first | refine pu_not ?_ | refine pu_eql ?_ | refine pu_neq ?_ | refine pu_lss ?_ | refine pu_leq ?_ | refine pu_gtr ?_ | refine pu_geq ?_ | refine pu_add ?_ | refine pu_sub ?_ | refine pu_mul ?_ | refine pu_neg ?_ | refine fa_at ?_ | refine nl_ptr ?_ | refine ex20 ?_ | refine ex21 ?_ | refine ex30 ?_ | refine ex31 ?_ | refine ex32 ?_ | refine ln_rule ?_ | refine lnT_rule ?_ | refine pu_and ?_ | refine pu_or ?_ | refine pu_xor ?_ | refine pu_seq ?_ | refine pu_sne ?_)
  refine lds_here (fun w h => h) him (v := vI i.b) rfl ?_
  refine reg_spec hs h1.drew (fun w2 h2 => ⟨h2, ?_⟩)
  refine reg_spec hs h2 (fun w2 h2 => ?_)
  have h2 : Ow B w2 ((s.hp p ++ [(bi, iO i)]) ++ (bw, wnO l) :: R) := by simpa using h2
  refine wn_st h2 rfl rfl (by omega) (fun w3 h3 => ?_)
  refine wn_st h3 rfl rfl (by rw [List.length_set]; omega) (fun w4 h4 => ?_)
  refine wn_st h4 rfl rfl (by rw [List.length_set, List.length_set]; omega) (fun w5 h5 => ?_)
  exact k _ (h5.sub ((List.sublist_append_left _ _).append (.refl _)))
theorem counts_spec (hs : s.ok p F) (hu : ∀ t ∈ s.frs, AllU t.regs) (hf : (bf, fbO s.b fr) ∈ R) (hl : l.length = 10) (h : Ow B w (s.hp p ++ (bw, wnO l) :: R)) (k : ∀ w', Ow B w' (s.hp p ++ (bw, wnO (((l.set 0 (vI 11)).set 5 (vU (regT s.frs i.a))).set 6 (vI (aSg (regT s.frs i.b))))) :: R) → K (.tuple #[]) w') : callW PG N.fiber_Fiber_counts [ptr bf, .agg i.cells.toArray, ptr bw] K PK w := by
  refine fiber_Fiber_counts.ok ?_
  unfold fiber_Fiber_counts.C
  refine al_rule h (l := i.cells) rfl (fun bi w1 h1 => ?_)
  have h1 := ins_perm h1
  have hfm : (bf, fbO s.b fr) ∈ s.hp p ++ ((bi, iO i) :: (bw, wnO l) :: R) := List.mem_append_right _ (.tail _ (.tail _ hf))
  have him : (bi, iO i) ∈ s.hp p ++ ((bi, iO i) :: (bw, wnO l) :: R) := List.mem_append_right _ (.head _)
  refine ⟨fun w => Ow B w (s.hp p ++ ((bi, iO i) :: (bw, wnO l) :: R)), h1.drew, ?_⟩
  refine fb_lds (fun w h => h) hfm ?_
  repeat (first | refine pu_not ?_ | refine pu_eql ?_ | refine pu_neq ?_ | refine pu_lss ?_ | refine pu_leq ?_ | refine pu_gtr ?_ | refine pu_geq ?_ | refine pu_add ?_ | refine pu_sub ?_ | refine pu_mul ?_ | refine pu_neg ?_ | refine fa_at ?_ | refine nl_ptr ?_ | refine ex20 ?_ | refine ex21 ?_ | refine ex30 ?_ | refine ex31 ?_ | refine ex32 ?_ | refine ln_rule ?_ | refine lnT_rule ?_ | refine pu_and ?_ | refine pu_or ?_ | refine pu_xor ?_ | refine pu_seq ?_ | refine pu_sne ?_)
  refine lds_here (fun w h => h) him (v := vI i.a) rfl ?_
  refine fb_lds (fun w h => h) hfm ?_
  repeat (first | refine pu_not ?_ | refine pu_eql ?_ | refine pu_neq ?_ | refine pu_lss ?_ | refine pu_leq ?_ | refine pu_gtr ?_ | refine pu_geq ?_ | refine pu_add ?_ | refine pu_sub ?_ | refine pu_mul ?_ | refine pu_neg ?_ | refine fa_at ?_ | refine nl_ptr ?_ | refine ex20 ?_ | refine ex21 ?_ | refine ex30 ?_ | refine ex31 ?_ | refine ex32 ?_ | refine ln_rule ?_ | refine lnT_rule ?_ | refine pu_and ?_ | refine pu_or ?_ | refine pu_xor ?_ | refine pu_seq ?_ | refine pu_sne ?_)
  refine lds_here (fun w h => h) him (v := vI i.b) rfl ?_
  refine reg_spec hs h1.drew (fun w2 h2 => ⟨h2, ?_⟩)
  refine reg_spec hs h2 (fun w2 h2 => ?_)
  refine signed_spec (regT_u hu) h2 (fun w2 h2 => ?_)
  have h2 : Ow B w2 ((s.hp p ++ [(bi, iO i)]) ++ (bw, wnO l) :: R) := by simpa using h2
  refine wn_st h2 rfl rfl (by omega) (fun w3 h3 => ?_)
  refine wn_st h3 rfl rfl (by rw [List.length_set]; omega) (fun w4 h4 => ?_)
  refine wn_st h4 rfl rfl (by rw [List.length_set, List.length_set]; omega) (fun w5 h5 => ?_)
  exact k _ (h5.sub ((List.sublist_append_left _ _).append (.refl _)))
theorem shared_spec (h : Ow B w H) (k : ∀ w', Ow B w' H → K (.agg #[vI 5, vI 6, vI 7, vI 8, vI 9, vI 10, vI 11, vI 12]) w') : callW PG N.fiber_shared [] K PK w := by
  refine fiber_shared.ok ?_
  unfold fiber_shared.C
  refine al_rule h (l := [vI 0, vI 0, vI 0, vI 0, vI 0, vI 0, vI 0, vI 0]) (by kernel_rfl) (fun b w1 h1 => ?_)
  refine pu_build [vI 5, vI 6, vI 7, vI 8, vI 9, vI 10, vI 11, vI 12] (by kernel_rfl) ?_
  refine st_here (A := []) h1 [vI 5, vI 6, vI 7, vI 8, vI 9, vI 10, vI 11, vI 12] rfl rfl rfl (by simp) (fun w2 h2 => ?_)
  simp only [List.take_zero, List.nil_append, Nat.zero_add, List.drop_succ_cons, List.drop_zero, List.drop_nil, List.append_nil] at h2
  refine ldn_here h2 (.head _) (vs := [vI 5, vI 6, vI 7, vI 8, vI 9, vI 10, vI 11, vI 12]) rfl rfl ?_
  exact k _ h2.drop
theorem shares_spec (hs : s.ok p F) (hop : 11 ≤ i.op ∧ i.op ≤ 18) (hf : (bf, fbO s.b fr) ∈ R) (hl : l.length = 10) (h : Ow B w (s.hp p ++ (bw, wnO l) :: R)) (k : ∀ w', Ow B w' (s.hp p ++ (bw, wnO ((l.set 0 (vI (i.op - 6))).set 5 (vU (regT s.frs i.a)))) :: R) → K (.tuple #[]) w') : callW PG N.fiber_Fiber_shares [ptr bf, .agg i.cells.toArray, ptr bw] K PK w := by
  refine fiber_Fiber_shares.ok ?_
  unfold fiber_Fiber_shares.C
  refine al_rule h (l := i.cells) rfl (fun bi w1 h1 => ?_)
  have h1 := ins_perm h1
  have hsub : ∀ {l : List Value} {w : World}, Ow B w (s.hp p ++ ((bi, iO i) :: (bw, wnO l) :: R)) → Ow B w (s.hp p ++ ((bi, iO i) :: R)) := fun h => h.sub ((List.Sublist.refl _).append (.cons_cons _ (.cons _ (.refl _))))
  have hfm : (bf, fbO s.b fr) ∈ s.hp p ++ ((bi, iO i) :: R) := List.mem_append_right _ (.tail _ hf)
  have him : (bi, iO i) ∈ s.hp p ++ ((bi, iO i) :: R) := List.mem_append_right _ (.head _)
  refine ⟨fun w => Ow B w (s.hp p ++ ((bi, iO i) :: R)), hsub h1.drew, ?_⟩
  repeat (first | refine pu_not ?_ | refine pu_eql ?_ | refine pu_neq ?_ | refine pu_lss ?_ | refine pu_leq ?_ | refine pu_gtr ?_ | refine pu_geq ?_ | refine pu_add ?_ | refine pu_sub ?_ | refine pu_mul ?_ | refine pu_neg ?_ | refine fa_at ?_ | refine nl_ptr ?_ | refine ex20 ?_ | refine ex21 ?_ | refine ex30 ?_ | refine ex31 ?_ | refine ex32 ?_ | refine ln_rule ?_ | refine lnT_rule ?_ | refine pu_and ?_ | refine pu_or ?_ | refine pu_xor ?_ | refine pu_seq ?_ | refine pu_sne ?_)
  refine lds_here (fun w h => h) him (v := vI i.op) rfl ?_
  repeat (first | refine pu_not ?_ | refine pu_eql ?_ | refine pu_neq ?_ | refine pu_lss ?_ | refine pu_leq ?_ | refine pu_gtr ?_ | refine pu_geq ?_ | refine pu_add ?_ | refine pu_sub ?_ | refine pu_mul ?_ | refine pu_neg ?_ | refine fa_at ?_ | refine nl_ptr ?_ | refine ex20 ?_ | refine ex21 ?_ | refine ex30 ?_ | refine ex31 ?_ | refine ex32 ?_ | refine ln_rule ?_ | refine lnT_rule ?_ | refine pu_and ?_ | refine pu_or ?_ | refine pu_xor ?_ | refine pu_seq ?_ | refine pu_sne ?_)
  rw [wrap64_in (by omega) (by omega)]
  refine lds_here (fun w h => h) hfm (v := ptr s.b) rfl ?_
  repeat (first | refine pu_not ?_ | refine pu_eql ?_ | refine pu_neq ?_ | refine pu_lss ?_ | refine pu_leq ?_ | refine pu_gtr ?_ | refine pu_geq ?_ | refine pu_add ?_ | refine pu_sub ?_ | refine pu_mul ?_ | refine pu_neg ?_ | refine fa_at ?_ | refine nl_ptr ?_ | refine ex20 ?_ | refine ex21 ?_ | refine ex30 ?_ | refine ex31 ?_ | refine ex32 ?_ | refine ln_rule ?_ | refine lnT_rule ?_ | refine pu_and ?_ | refine pu_or ?_ | refine pu_xor ?_ | refine pu_seq ?_ | refine pu_sne ?_)
  refine lds_here (fun w h => h) him (v := vI i.a) rfl ?_
  refine shared_spec h1.drew (fun w2 h2 => ⟨hsub h2, ?_⟩)
  have hix : ([vI 5, vI 6, vI 7, vI 8, vI 9, vI 10, vI 11, vI 12] : List Value)[(i.op - 11).toNat]? = some (vI (i.op - 6)) := by
    have : i.op = 11 ∨ i.op = 12 ∨ i.op = 13 ∨ i.op = 14 ∨ i.op = 15 ∨ i.op = 16 ∨ i.op = 17 ∨ i.op = 18 := by omega
    rcases this with h | h | h | h | h | h | h | h <;> rw [h] <;> rfl
  refine ixV_rule (len := 8) (l := [vI 5, vI 6, vI 7, vI 8, vI 9, vI 10, vI 11, vI 12]) (by omega) (by omega) hix ?_
  refine reg_spec hs h2 (fun w3 h3 => ⟨hsub h3, ?_⟩)
  have h3 : Ow B w3 ((s.hp p ++ [(bi, iO i)]) ++ (bw, wnO l) :: R) := by simpa using h3
  refine wn_st h3 rfl rfl (by omega) (fun w4 h4 => ?_)
  refine wn_st h4 rfl rfl (by rw [List.length_set]; omega) (fun w5 h5 => ?_)
  exact k _ (h5.sub ((List.sublist_append_left _ _).append (.refl _)))
/-- Registers, from one on. -/
def gathL (frs : List Frm) (b : Int) (n : Nat) : List Int := (List.range n).map fun (k : Nat) => regT frs (b + (k : Int))
theorem gath_spec {b c : Int} (hs : s.ok p F) (hb : 0 ≤ b ∧ b ≤ 1000) (hc : 0 ≤ c ∧ c ≤ 1000) (h : Ow B w (s.hp p ++ R)) (k : ∀ S v w', Vc.Own S T.t_uint32 1 v c.toNat (rgs (gathL s.frs b c.toNat)) → Ow B w' (S ++ (s.hp p ++ R)) → K v w') :
    callW PG N.fiber_gathered_uint32 [vI b, vI c, .func (.func N.stack_Stack_Reg) #[ptr s.b] #[]] K PK w := by
  refine fiber_gathered_uint32.ok ?_
  unfold fiber_gathered_uint32.C
  refine ⟨fun l w => ∃ (n : Nat) (S : Hp) (v : Value), l = [v, vI n] ∧ (n : Int) ≤ c ∧ Vc.Own S T.t_uint32 1 v n (rgs (gathL s.frs b n)) ∧ Ow B w (S ++ (s.hp p ++ R)), fun l _ => match l with | [_, .int _ n] => c.toNat - n.toNat | _ => 0, ⟨0, [], _, rfl, hc.1, own_none _ _, h⟩, ?_⟩
  rintro l w2 ⟨n, S, v, rfl, hn, ho, h2⟩ j
  repeat (first | refine pu_not ?_ | refine pu_eql ?_ | refine pu_neq ?_ | refine pu_lss ?_ | refine pu_leq ?_ | refine pu_gtr ?_ | refine pu_geq ?_ | refine pu_add ?_ | refine pu_sub ?_ | refine pu_mul ?_ | refine pu_neg ?_ | refine fa_at ?_ | refine nl_ptr ?_ | refine ex20 ?_ | refine ex21 ?_ | refine ex30 ?_ | refine ex31 ?_ | refine ex32 ?_ | refine ln_rule ?_ | refine lnT_rule ?_ | refine pu_and ?_ | refine pu_or ?_ | refine pu_xor ?_ | refine pu_seq ?_ | refine pu_sne ?_)
  refine cnd (fun hlt => ?_) (fun hlt => ?_)
  · have hlt : (n : Int) < c := by simpa using hlt
    repeat (first | refine pu_not ?_ | refine pu_eql ?_ | refine pu_neq ?_ | refine pu_lss ?_ | refine pu_leq ?_ | refine pu_gtr ?_ | refine pu_geq ?_ | refine pu_add ?_ | refine pu_sub ?_ | refine pu_mul ?_ | refine pu_neg ?_ | refine fa_at ?_ | refine nl_ptr ?_ | refine ex20 ?_ | refine ex21 ?_ | refine ex30 ?_ | refine ex31 ?_ | refine ex32 ?_ | refine ln_rule ?_ | refine lnT_rule ?_ | refine pu_and ?_ | refine pu_or ?_ | refine pu_xor ?_ | refine pu_seq ?_ | refine pu_sne ?_)
    rw [wrap64_in (by omega) (by omega)]
    have h2 : Ow B w2 (s.hp p ++ (S ++ R)) := h2.perm (List.perm_append_comm_assoc _ _ _)
    refine callV_fn stack_Stack_Reg.okf (reg_spec hs h2 (fun w3 h3 => ?_))
    refine bs_rule h3 (rgs [regT s.frs (b + n)]) (by kernel_rfl) (fun bx w4 h4 => ?_)
    have h4 : Ow B w4 (((bx, cel (rgs [regT s.frs (b + n)]) T.t_uint32) :: s.hp p) ++ S ++ R) := by simpa using h4
    refine app1 h4 ho (sl_here (l := rgs [regT s.frs (b + n)]) (.head _)) (H' := [(bx, cel (rgs [regT s.frs (b + n)]) T.t_uint32)]) (fun y hy => by rw [List.mem_singleton.1 hy]; exact .head _) (rgs_plain _) und_slu info_u rfl (by simp [maxLen]; omega) (by simp; omega) (fun S' v' w5 h5 ho5 => ?_)
    repeat (first | refine pu_not ?_ | refine pu_eql ?_ | refine pu_neq ?_ | refine pu_lss ?_ | refine pu_leq ?_ | refine pu_gtr ?_ | refine pu_geq ?_ | refine pu_add ?_ | refine pu_sub ?_ | refine pu_mul ?_ | refine pu_neg ?_ | refine fa_at ?_ | refine nl_ptr ?_ | refine ex20 ?_ | refine ex21 ?_ | refine ex30 ?_ | refine ex31 ?_ | refine ex32 ?_ | refine ln_rule ?_ | refine lnT_rule ?_ | refine pu_and ?_ | refine pu_or ?_ | refine pu_xor ?_ | refine pu_seq ?_ | refine pu_sne ?_)
    rw [wrap64_in (by omega) (by omega)]
    refine ⟨⟨n + 1, S', v', rfl, by omega, ?_, ?_⟩, by simp; omega⟩
    · have : gathL s.frs b (n + 1) = gathL s.frs b n ++ [regT s.frs (b + n)] := by simp [gathL, List.range_succ]
      rw [this]
      have e2 : rgs (gathL s.frs b n ++ [regT s.frs (b + n)]) = rgs (gathL s.frs b n) ++ rgs [regT s.frs (b + n)] := by simp [rgs]
      rw [e2]
      exact ho5
    · have h6 : Ow B w5 (s.hp p ++ (S' ++ R)) := h5.sub (by rw [List.cons_append, List.cons_append, List.append_assoc]; exact .cons _ (.refl _))
      exact h6.perm (List.perm_append_comm_assoc _ _ _)
  · obtain rfl : c = (n : Int) := by simp at hlt; omega
    rw [Int.toNat_natCast] at k
    exact k S v _ ho h2
theorem begins_spec (hs : s.ok p F) (him : 0 ≤ i.imm ∧ i.imm < 4294967296) (hb : 0 ≤ i.b ∧ i.b ≤ 1000) (hc : 0 ≤ i.c ∧ i.c ≤ 1000) (hf : (bf, fbO s.b fr) ∈ R) (hl : l.length = 10) (h : Ow B w (s.hp p ++ (bw, wnO l) :: R))
    (k : ∀ S v w', Vc.Own S T.t_uint32 1 v i.c.toNat (rgs (gathL s.frs i.b i.c.toNat)) → Ow B w' (S ++ (s.hp p ++ (bw, wnO (((l.set 0 (vI 4)).set 7 (vI i.imm)).set 8 v)) :: R)) → K (.tuple #[]) w') : callW PG N.fiber_Fiber_begins [ptr bf, .agg i.cells.toArray, ptr bw] K PK w := by
  refine fiber_Fiber_begins.ok ?_
  unfold fiber_Fiber_begins.C
  refine al_rule h (l := i.cells) rfl (fun bi w1 h1 => ?_)
  have h1 := ins_perm h1
  have hsub : ∀ {S : Hp} {l : List Value} {w : World}, Ow B w (S ++ (s.hp p ++ ((bi, iO i) :: (bw, wnO l) :: R))) → Ow B w (s.hp p ++ ((bi, iO i) :: R)) := fun h => (h.sub (List.sublist_append_right _ _)).sub ((List.Sublist.refl _).append (.cons_cons _ (.cons _ (.refl _))))
  have hfm : (bf, fbO s.b fr) ∈ s.hp p ++ ((bi, iO i) :: (bw, wnO l) :: R) := List.mem_append_right _ (.tail _ (.tail _ hf))
  have him' : (bi, iO i) ∈ s.hp p ++ ((bi, iO i) :: (bw, wnO l) :: R) := List.mem_append_right _ (.head _)
  have him'' : (bi, iO i) ∈ s.hp p ++ ((bi, iO i) :: R) := List.mem_append_right _ (.head _)
  refine ⟨fun w => Ow B w (s.hp p ++ ((bi, iO i) :: R)), hsub (S := []) h1.drew, ?_⟩
  repeat (first | refine pu_not ?_ | refine pu_eql ?_ | refine pu_neq ?_ | refine pu_lss ?_ | refine pu_leq ?_ | refine pu_gtr ?_ | refine pu_geq ?_ | refine pu_add ?_ | refine pu_sub ?_ | refine pu_mul ?_ | refine pu_neg ?_ | refine fa_at ?_ | refine nl_ptr ?_ | refine ex20 ?_ | refine ex21 ?_ | refine ex30 ?_ | refine ex31 ?_ | refine ex32 ?_ | refine ln_rule ?_ | refine lnT_rule ?_ | refine pu_and ?_ | refine pu_or ?_ | refine pu_xor ?_ | refine pu_seq ?_ | refine pu_sne ?_)
  refine lds_here (fun w h => h) him'' (v := vU i.imm) rfl ?_
  refine cvt (by kernel_rfl) und_int (m := i.imm) (by rw [wrap64_in (by omega) (by omega)]) ?_
  repeat (first | refine pu_not ?_ | refine pu_eql ?_ | refine pu_neq ?_ | refine pu_lss ?_ | refine pu_leq ?_ | refine pu_gtr ?_ | refine pu_geq ?_ | refine pu_add ?_ | refine pu_sub ?_ | refine pu_mul ?_ | refine pu_neg ?_ | refine fa_at ?_ | refine nl_ptr ?_ | refine ex20 ?_ | refine ex21 ?_ | refine ex30 ?_ | refine ex31 ?_ | refine ex32 ?_ | refine ln_rule ?_ | refine lnT_rule ?_ | refine pu_and ?_ | refine pu_or ?_ | refine pu_xor ?_ | refine pu_seq ?_ | refine pu_sne ?_)
  refine ld_here h1.drew him' (v := vI i.b) rfl ?_
  repeat (first | refine pu_not ?_ | refine pu_eql ?_ | refine pu_neq ?_ | refine pu_lss ?_ | refine pu_leq ?_ | refine pu_gtr ?_ | refine pu_geq ?_ | refine pu_add ?_ | refine pu_sub ?_ | refine pu_mul ?_ | refine pu_neg ?_ | refine fa_at ?_ | refine nl_ptr ?_ | refine ex20 ?_ | refine ex21 ?_ | refine ex30 ?_ | refine ex31 ?_ | refine ex32 ?_ | refine ln_rule ?_ | refine lnT_rule ?_ | refine pu_and ?_ | refine pu_or ?_ | refine pu_xor ?_ | refine pu_seq ?_ | refine pu_sne ?_)
  refine ld_here h1.drew him' (v := vI i.c) rfl ?_
  refine fb_ldw h1.drew hfm ?_
  refine gath_spec hs hb hc h1.drew (fun S v w2 ho h2 => ⟨hsub h2, ?_⟩)
  obtain ⟨a9, c9, hv9⟩ := ho.len
  have h2 : Ow B w2 ((S ++ (s.hp p ++ [(bi, iO i)])) ++ (bw, wnO l) :: R) := by simpa using h2
  refine wn_st h2 rfl rfl (by omega) (fun w3 h3 => ⟨hsub (S := S) (by simpa using h3), ?_⟩)
  refine wn_st h3 rfl rfl (by rw [List.length_set]; omega) (fun w4 h4 => ?_)
  refine wn_st h4 (by rw [hv9]; rfl) (by rw [hv9]; rfl) (by rw [List.length_set, List.length_set]; omega) (fun w5 h5 => ?_)
  refine k S v _ ho ?_
  have : Ow B w5 (S ++ ((s.hp p ++ [(bi, iO i)]) ++ (bw, wnO (((l.set 0 (vI 4)).set 7 (vI i.imm)).set 8 v)) :: R)) := by simpa using h5
  exact this.sub ((List.Sublist.refl S).append ((List.sublist_append_left _ _).append (.refl _)))
/-- A local instruction: the kind, and why nothing goes on. -/
def wtL (fr : Int) (l : List Frm) (i : Ins) : Int × Int :=
  if i.op = 3 then (if (aDo i.imm (regT l i.b) (regT l i.c)).2 = 0 then (1, 0) else (14, 4)) else if i.op = 8 then (if fr ≤ l.length then (14, 6) else (1, 0)) else if i.op = 9 then (if l.length = 1 then (13, 0) else (1, 0)) else (1, 0)
theorem flocal_spec (hs : s.ok p F) (hu : ∀ t ∈ s.frs, AllU t.regs) (him : 0 ≤ i.imm ∧ i.imm < 4294967296) (hf : (bf, fbO s.b fr) ∈ R) (hl : l.length = 10) (h9 : l[9]? = some (vI 0)) (h : Ow B w (s.hp p ++ (bw, wnO l) :: R))
    (k : ∀ w', Ow B w' (s.hp p ++ (bw, wnO ((l.set 0 (vI (wtL fr s.frs i).1)).set 9 (vI (wtL fr s.frs i).2))) :: R) → K (.tuple #[]) w') : callW PG N.fiber_Fiber_local [ptr bf, .agg i.cells.toArray, ptr bw] K PK w := by
  refine fiber_Fiber_local.ok ?_
  unfold fiber_Fiber_local.C
  refine al_rule h (l := i.cells) rfl (fun bi w1 h1 => ?_)
  have h1 := ins_perm h1
  have h1 : Ow B w1 ((s.hp p ++ [(bi, iO i)]) ++ (bw, wnO l) :: R) := by simpa using h1
  refine wn_st h1 rfl rfl (by omega) (fun w2 h2 => ?_)
  have h2' : Ow B w2 (s.hp p ++ ((bi, iO i) :: (bw, wnO (l.set 0 (vI 1))) :: R)) := by simpa using h2
  have him1 : (bi, iO i) ∈ s.hp p ++ ((bi, iO i) :: (bw, wnO (l.set 0 (vI 1))) :: R) := List.mem_append_right _ (.head _)
  have hfm : (bf, fbO s.b fr) ∈ s.hp p ++ ((bi, iO i) :: (bw, wnO (l.set 0 (vI 1))) :: R) := List.mem_append_right _ (.tail _ (.tail _ hf))
  have e1 : l.set 0 (vI 1) = (l.set 0 (vI 1)).set 9 (vI 0) := by
    apply List.ext_getElem?
    intro j
    by_cases hj : j = 9
    · subst hj
      rw [List.getElem?_set_self (by rw [List.length_set]; omega), List.getElem?_set_ne (by omega), h9]
    · rw [List.getElem?_set_ne (Ne.symm hj)]
  have done1 : ∀ {w : World}, wtL fr s.frs i = (1, 0) → Ow B w (s.hp p ++ ((bi, iO i) :: (bw, wnO (l.set 0 (vI 1))) :: R)) → K (.tuple #[]) w := fun hw h => by
    rw [hw, ← e1] at k
    exact k _ (h.sub ((List.Sublist.refl _).append (.cons _ (.refl _))))
  have dep : ∀ {w : World} {H' : Hp} {X : Value → Prop}, True := trivial
  repeat (first | refine pu_not ?_ | refine pu_eql ?_ | refine pu_neq ?_ | refine pu_lss ?_ | refine pu_leq ?_ | refine pu_gtr ?_ | refine pu_geq ?_ | refine pu_add ?_ | refine pu_sub ?_ | refine pu_mul ?_ | refine pu_neg ?_ | refine fa_at ?_ | refine nl_ptr ?_ | refine ex20 ?_ | refine ex21 ?_ | refine ex30 ?_ | refine ex31 ?_ | refine ex32 ?_ | refine ln_rule ?_ | refine lnT_rule ?_ | refine pu_and ?_ | refine pu_or ?_ | refine pu_xor ?_ | refine pu_seq ?_ | refine pu_sne ?_)
  refine ld_here h2' him1 (v := vI i.op) rfl ?_
  repeat (first | refine pu_not ?_ | refine pu_eql ?_ | refine pu_neq ?_ | refine pu_lss ?_ | refine pu_leq ?_ | refine pu_gtr ?_ | refine pu_geq ?_ | refine pu_add ?_ | refine pu_sub ?_ | refine pu_mul ?_ | refine pu_neg ?_ | refine fa_at ?_ | refine nl_ptr ?_ | refine ex20 ?_ | refine ex21 ?_ | refine ex30 ?_ | refine ex31 ?_ | refine ex32 ?_ | refine ln_rule ?_ | refine lnT_rule ?_ | refine pu_and ?_ | refine pu_or ?_ | refine pu_xor ?_ | refine pu_seq ?_ | refine pu_sne ?_)
  refine cnd (fun h3 => ?_) (fun h3 => ?_)
  · have h3 : i.op = 3 := by simpa using h3
    refine ⟨fun w => Ow B w (s.hp p ++ ((bi, iO i) :: (bw, wnO (l.set 0 (vI 1))) :: R)), h2'.drew, ?_⟩
    repeat (first | refine pu_not ?_ | refine pu_eql ?_ | refine pu_neq ?_ | refine pu_lss ?_ | refine pu_leq ?_ | refine pu_gtr ?_ | refine pu_geq ?_ | refine pu_add ?_ | refine pu_sub ?_ | refine pu_mul ?_ | refine pu_neg ?_ | refine fa_at ?_ | refine nl_ptr ?_ | refine ex20 ?_ | refine ex21 ?_ | refine ex30 ?_ | refine ex31 ?_ | refine ex32 ?_ | refine ln_rule ?_ | refine lnT_rule ?_ | refine pu_and ?_ | refine pu_or ?_ | refine pu_xor ?_ | refine pu_seq ?_ | refine pu_sne ?_)
    refine lds_here (fun w h => h) him1 (v := vU i.imm) rfl ?_
    refine cvt (by kernel_rfl) (by kernel_rfl) (m := i.imm) (by rw [wrap64_in (by omega) (by omega)]) ?_
    refine fb_lds (fun w h => h) hfm ?_
    repeat (first | refine pu_not ?_ | refine pu_eql ?_ | refine pu_neq ?_ | refine pu_lss ?_ | refine pu_leq ?_ | refine pu_gtr ?_ | refine pu_geq ?_ | refine pu_add ?_ | refine pu_sub ?_ | refine pu_mul ?_ | refine pu_neg ?_ | refine fa_at ?_ | refine nl_ptr ?_ | refine ex20 ?_ | refine ex21 ?_ | refine ex30 ?_ | refine ex31 ?_ | refine ex32 ?_ | refine ln_rule ?_ | refine lnT_rule ?_ | refine pu_and ?_ | refine pu_or ?_ | refine pu_xor ?_ | refine pu_seq ?_ | refine pu_sne ?_)
    refine lds_here (fun w h => h) him1 (v := vI i.b) rfl ?_
    refine fb_lds (fun w h => h) hfm ?_
    repeat (first | refine pu_not ?_ | refine pu_eql ?_ | refine pu_neq ?_ | refine pu_lss ?_ | refine pu_leq ?_ | refine pu_gtr ?_ | refine pu_geq ?_ | refine pu_add ?_ | refine pu_sub ?_ | refine pu_mul ?_ | refine pu_neg ?_ | refine fa_at ?_ | refine nl_ptr ?_ | refine ex20 ?_ | refine ex21 ?_ | refine ex30 ?_ | refine ex31 ?_ | refine ex32 ?_ | refine ln_rule ?_ | refine lnT_rule ?_ | refine pu_and ?_ | refine pu_or ?_ | refine pu_xor ?_ | refine pu_seq ?_ | refine pu_sne ?_)
    refine lds_here (fun w h => h) him1 (v := vI i.c) rfl ?_
    refine reg_spec hs h2'.drew (fun w3 hw3 => ⟨hw3, ?_⟩)
    refine reg_spec hs hw3 (fun w4 hw4 => ⟨hw4, ?_⟩)
    refine do_spec (regT_u hu) (regT_u hu) hw4 (fun w5 hw5 => ?_)
    repeat (first | refine pu_not ?_ | refine pu_eql ?_ | refine pu_neq ?_ | refine pu_lss ?_ | refine pu_leq ?_ | refine pu_gtr ?_ | refine pu_geq ?_ | refine pu_add ?_ | refine pu_sub ?_ | refine pu_mul ?_ | refine pu_neg ?_ | refine fa_at ?_ | refine nl_ptr ?_ | refine ex20 ?_ | refine ex21 ?_ | refine ex30 ?_ | refine ex31 ?_ | refine ex32 ?_ | refine ln_rule ?_ | refine lnT_rule ?_ | refine pu_and ?_ | refine pu_or ?_ | refine pu_xor ?_ | refine pu_seq ?_ | refine pu_sne ?_)
    refine cnd (fun he => ?_) (fun he => ?_)
    · have he : ¬ (aDo i.imm (regT s.frs i.b) (regT s.frs i.c)).2 = 0 := by simpa using he
      have hw : wtL fr s.frs i = (14, 4) := by unfold wtL; rw [if_pos h3, if_neg he]
      rw [hw] at k
      have hw5 : Ow B w5 ((s.hp p ++ [(bi, iO i)]) ++ (bw, wnO (l.set 0 (vI 1))) :: R) := by simpa using hw5
      refine wn_st hw5 rfl rfl (by rw [List.length_set]; omega) (fun w6 h6 => ?_)
      refine wn_st h6 rfl rfl (by rw [List.length_set, List.length_set]; omega) (fun w7 h7 => ?_)
      rw [List.set_set] at h7
      exact k _ (h7.sub ((List.sublist_append_left _ _).append (.refl _)))
    · have he : (aDo i.imm (regT s.frs i.b) (regT s.frs i.c)).2 = 0 := by simpa using he
      exact done1 (by unfold wtL; rw [if_pos h3, if_pos he]) hw5
  have h3 : ¬ i.op = 3 := by simpa using h3
  repeat (first | refine pu_not ?_ | refine pu_eql ?_ | refine pu_neq ?_ | refine pu_lss ?_ | refine pu_leq ?_ | refine pu_gtr ?_ | refine pu_geq ?_ | refine pu_add ?_ | refine pu_sub ?_ | refine pu_mul ?_ | refine pu_neg ?_ | refine fa_at ?_ | refine nl_ptr ?_ | refine ex20 ?_ | refine ex21 ?_ | refine ex30 ?_ | refine ex31 ?_ | refine ex32 ?_ | refine ln_rule ?_ | refine lnT_rule ?_ | refine pu_and ?_ | refine pu_or ?_ | refine pu_xor ?_ | refine pu_seq ?_ | refine pu_sne ?_)
  refine cnd (fun h8 => ?_) (fun h8 => ?_)
  · have h8 : i.op = 8 := by simpa using h8
    refine ⟨fun w => Ow B w (s.hp p ++ ((bi, iO i) :: (bw, wnO (l.set 0 (vI 1))) :: R)), h2'.drew, ?_⟩
    refine fb_lds (fun w h => h) hfm ?_
    repeat (first | refine pu_not ?_ | refine pu_eql ?_ | refine pu_neq ?_ | refine pu_lss ?_ | refine pu_leq ?_ | refine pu_gtr ?_ | refine pu_geq ?_ | refine pu_add ?_ | refine pu_sub ?_ | refine pu_mul ?_ | refine pu_neg ?_ | refine fa_at ?_ | refine nl_ptr ?_ | refine ex20 ?_ | refine ex21 ?_ | refine ex30 ?_ | refine ex31 ?_ | refine ex32 ?_ | refine ln_rule ?_ | refine lnT_rule ?_ | refine pu_and ?_ | refine pu_or ?_ | refine pu_xor ?_ | refine pu_seq ?_ | refine pu_sne ?_)
    refine lds_here (fun w h => h) hfm (v := vI fr) rfl ?_
    refine depth_spec hs h2'.drew (.head _) ⟨h2'.drew, ?_⟩
    rw [SK.es_len2]
    repeat (first | refine pu_not ?_ | refine pu_eql ?_ | refine pu_neq ?_ | refine pu_lss ?_ | refine pu_leq ?_ | refine pu_gtr ?_ | refine pu_geq ?_ | refine pu_add ?_ | refine pu_sub ?_ | refine pu_mul ?_ | refine pu_neg ?_ | refine fa_at ?_ | refine nl_ptr ?_ | refine ex20 ?_ | refine ex21 ?_ | refine ex30 ?_ | refine ex31 ?_ | refine ex32 ?_ | refine ln_rule ?_ | refine lnT_rule ?_ | refine pu_and ?_ | refine pu_or ?_ | refine pu_xor ?_ | refine pu_seq ?_ | refine pu_sne ?_)
    refine cnd (fun he => ?_) (fun he => ?_)
    · have he : fr ≤ s.frs.length := by simpa using he
      have hw : wtL fr s.frs i = (14, 6) := by unfold wtL; rw [if_neg h3, if_pos h8, if_pos he]
      rw [hw] at k
      have hw5 : Ow B w2.drew ((s.hp p ++ [(bi, iO i)]) ++ (bw, wnO (l.set 0 (vI 1))) :: R) := h2.drew
      refine wn_st hw5 rfl rfl (by rw [List.length_set]; omega) (fun w6 h6 => ?_)
      refine wn_st h6 rfl rfl (by rw [List.length_set, List.length_set]; omega) (fun w7 h7 => ?_)
      rw [List.set_set] at h7
      exact k _ (h7.sub ((List.sublist_append_left _ _).append (.refl _)))
    · have he : ¬ fr ≤ s.frs.length := by simpa using he
      exact done1 (by unfold wtL; rw [if_neg h3, if_pos h8, if_neg he]) h2'.drew
  have h8 : ¬ i.op = 8 := by simpa using h8
  repeat (first | refine pu_not ?_ | refine pu_eql ?_ | refine pu_neq ?_ | refine pu_lss ?_ | refine pu_leq ?_ | refine pu_gtr ?_ | refine pu_geq ?_ | refine pu_add ?_ | refine pu_sub ?_ | refine pu_mul ?_ | refine pu_neg ?_ | refine fa_at ?_ | refine nl_ptr ?_ | refine ex20 ?_ | refine ex21 ?_ | refine ex30 ?_ | refine ex31 ?_ | refine ex32 ?_ | refine ln_rule ?_ | refine lnT_rule ?_ | refine pu_and ?_ | refine pu_or ?_ | refine pu_xor ?_ | refine pu_seq ?_ | refine pu_sne ?_)
  refine cnd (fun h9' => ?_) (fun h9' => ?_)
  · have h9' : i.op = 9 := by simpa using h9'
    refine fb_ldw h2' hfm ?_
    refine depth_spec hs h2' (.head _) ?_
    rw [SK.es_len2]
    repeat (first | refine pu_not ?_ | refine pu_eql ?_ | refine pu_neq ?_ | refine pu_lss ?_ | refine pu_leq ?_ | refine pu_gtr ?_ | refine pu_geq ?_ | refine pu_add ?_ | refine pu_sub ?_ | refine pu_mul ?_ | refine pu_neg ?_ | refine fa_at ?_ | refine nl_ptr ?_ | refine ex20 ?_ | refine ex21 ?_ | refine ex30 ?_ | refine ex31 ?_ | refine ex32 ?_ | refine ln_rule ?_ | refine lnT_rule ?_ | refine pu_and ?_ | refine pu_or ?_ | refine pu_xor ?_ | refine pu_seq ?_ | refine pu_sne ?_)
    refine cnd (fun he => ?_) (fun he => ?_)
    · have he : s.frs.length = 1 := by simp at he; omega
      have hw : wtL fr s.frs i = (13, 0) := by unfold wtL; rw [if_neg h3, if_neg h8, if_pos h9', if_pos he]
      rw [hw] at k
      refine wn_st h2 rfl rfl (by rw [List.length_set]; omega) (fun w6 h6 => ?_)
      rw [List.set_set] at h6
      have e2 : (l.set 0 (vI 13)).set 9 (vI 0) = l.set 0 (vI 13) := by
        apply List.ext_getElem?
        intro j
        by_cases hj : j = 9
        · subst hj
          rw [List.getElem?_set_self (by rw [List.length_set]; omega), List.getElem?_set_ne (by omega), h9]
        · rw [List.getElem?_set_ne (Ne.symm hj)]
      rw [e2] at k
      exact k _ (h6.sub ((List.sublist_append_left _ _).append (.refl _)))
    · have he : ¬ s.frs.length = 1 := by simp at he; omega
      exact done1 (by unfold wtL; rw [if_neg h3, if_neg h8, if_pos h9', if_neg he]) h2'
  · have h9' : ¬ i.op = 9 := by simpa using h9'
    exact done1 (by unfold wtL; rw [if_neg h3, if_neg h8, if_neg h9']) h2'
end
end Go.Proofs.YtkkkcafkepnecaaGreat

