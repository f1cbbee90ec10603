/- Stacks: returns. -/
import Derived.Test.YtkkkcafkepnecaaGreatVsF
set_option linter.unusedVariables false
set_option linter.unusedSimpArgs false
namespace Go.Proofs.YtkkkcafkepnecaaGreat
open Go Go.RowKit Vc Ar
attribute [local irreducible] binV Op.unary convert nlW faW ldS ldW ixS ixA ixV ixT exW lnS lnT pu stW alW opW opU bsW mkW

section
theorem pu_cutHM {P : Program} {t e : TypeId} {K : Value → Prop} {a : Option Addr} {n c : Nat} {h m : Int} (ht : P.underlying t = some (.slice e)) (hi : ∃ i, P.info? e = some i) (h0 : 0 ≤ h) (h2 : h ≤ m) (h3 : m ≤ c) (k : K (Vc.cut (.slice a n c) 0 h.toNat m.toNat)) :
    pu P (Instr.sliceAt t (.slice a n c) none (some (.int .i64 h)) (some (.int .i64 m))) K := by
  obtain ⟨i, hi⟩ := hi
  refine pu_of (fun w => ?_) k
  simp only [Instr.sliceAt, Instr.slice, Sem.run_bind, run_und ht, Result.andThen, Instr.sliceBounds, Sem.run_pure, slb (P := P) (n := m) (y := c) (by omega) h3, slb (P := P) (n := h) (y := m.toNat) (by omega) (by omega), run_size hi, Nat.zero_mul, Option.isSome, Vc.cut, if_true]
theorem frmi : ∃ i, PG.info? T.t_api_Frame = some i := by
  obtain ⟨i, h1, _⟩ := info_of info_frm
  exact ⟨i, h1⟩
variable {B w : World} {H X F Q R : Hp} {K : Value → World → Prop} {PK : List PanicEntry → World → Prop} {KK : Value → Prop} {e : Int} {b n cap g : Nat} {c pre post : List Value} {t u : FE} {i : Ins} {p : Pr} {s : SK} {lo : List FE}
set_option maxRecDepth 20000 in
theorem returns_spec (hs : s.ok p F) (he : s.es = t :: lo) (hd : ∀ u lo', lo = u :: lo' → t.m.dest < u.m.regs.length) (ha : 0 ≤ i.a) (ha1 : i.a < t.m.regs.length) (h : Ow B w (s.hp p ++ R))
    (k : ∀ (s' : SK) w', s'.b = s.b → s'.vF = s.vF → ((lo = [] ∧ s'.res = regR t.m.regs i.a ∧ s'.frs = []) ∨ ∃ u lo', lo = u :: lo' ∧ s'.res = s.res ∧ s'.frs = { u.m with regs := u.m.regs.set t.m.dest (regR t.m.regs i.a) } :: lo'.map FE.m) → s'.ok p F → Ow B w' (s'.hp p ++ R) → K (.tuple #[]) w') : callW PG N.stack_Stack_returns [ptr s.b, .agg i.cells.toArray] K PK w := by
  refine stack_Stack_returns.ok ?_
  unfold stack_Stack_returns.C
  obtain ⟨g, pre, post, cap, hv, hSf, hvfr, hh, hup⟩ := SK.view hs he
  have hto : t.ok := hs.eok t (by rw [he]; exact .head _)
  have hlen := hs.len
  rw [he] at hlen
  simp only [List.length_cons] at hlen
  rw [hh] at h
  refine al_rule h (l := i.cells) rfl (fun bi w1 hw1 => ?_)
  refine vtop1 hv hw1 (fun w2 hw2 => ?_)
  repeat (first | refine pu_not ?_ | refine pu_eql ?_ | refine pu_neq ?_ | refine pu_lss ?_ | refine pu_leq ?_ | refine pu_gtr ?_ | refine pu_geq ?_ | refine pu_add ?_ | refine pu_sub ?_ | refine pu_mul ?_ | refine pu_neg ?_ | refine fa_at ?_ | refine nl_ptr ?_ | refine ex20 ?_ | refine ex21 ?_ | refine ex30 ?_ | refine ex31 ?_ | refine ex32 ?_ | refine ln_rule ?_ | refine lnT_rule ?_ | refine pu_and ?_ | refine pu_or ?_ | refine pu_xor ?_ | refine pu_seq ?_ | refine pu_sne ?_)
  have hrw : ((pre ++ (t.row ++ post)).drop (lo.length * 4)).take 4 = t.row := by
    rw [← hv.pl, List.drop_left]; exact List.take_left' rfl
  refine ldn_here hw2 mem_g (vs := t.row) hrw rfl ?_
  refine al_rule hw2 (l := zfrm) (by kernel_rfl) (fun bf w3 hw3 => ?_)
  obtain ⟨a0, cc0, htc⟩ := t_len hto
  refine st_here (A := []) hw3 t.row rfl rfl (by simp only [FE.row, frow, htc]; rfl) (by simp) (fun w4 hw4 => ?_)
  simp only [List.take_zero, List.nil_append, Nat.zero_add, List.drop_succ_cons, List.drop_zero, List.drop_nil, List.append_nil] at hw4
  have hfr := hs.fro
  rw [he, frw_cons] at hfr
  obtain ⟨ac, cc1, hvf, hcc1, hfro⟩ := hfr.pop
  rw [frw_len] at hvf hcc1 hfro
  refine ⟨fun w => Ow B w ((bf, cel t.row T.t_api_Frame) :: (bi, iO i) :: VH s.b g (s.cell p) pre post t (ffoot lo ++ R)), hw4.drew, ?_⟩
  have gv : ∀ {X : Value → Prop}, X s.vfr → ldS none (ptr s.b (0 + 4)) (fun w => Ow B w ((bf, cel t.row T.t_api_Frame) :: (bi, iO i) :: VH s.b g (s.cell p) pre post t (ffoot lo ++ R))) X := fun k => lds_here (fun w h => h) (.tail _ (.tail _ (.head _))) (v := s.vfr) rfl k
  have gl : ∀ {X : Value → Prop}, X (vI (lo.length : Nat)) → lnS s.vfr fun t20 => pu PG (binV .sub T.t_int true t20 (.int .i64 1)) X := fun k => by
    rw [hvf]
    refine ln_rule (pu_sub ?_)
    have e2 : IntKind.i64.wrap (((lo.length + 1 : Nat) : Int) - 1) = (lo.length : Int) := by rw [wrap64_in (by omega) (by omega)]; omega
    rw [e2]; exact k
  repeat (first | refine pu_not ?_ | refine pu_eql ?_ | refine pu_neq ?_ | refine pu_lss ?_ | refine pu_leq ?_ | refine pu_gtr ?_ | refine pu_geq ?_ | refine pu_add ?_ | refine pu_sub ?_ | refine pu_mul ?_ | refine pu_neg ?_ | refine fa_at ?_ | refine nl_ptr ?_ | refine ex20 ?_ | refine ex21 ?_ | refine ex30 ?_ | refine ex31 ?_ | refine ex32 ?_ | refine ln_rule ?_ | refine lnT_rule ?_ | refine pu_and ?_ | refine pu_or ?_ | refine pu_xor ?_ | refine pu_seq ?_ | refine pu_sne ?_)
  refine gv ?_
  repeat (first | refine pu_not ?_ | refine pu_eql ?_ | refine pu_neq ?_ | refine pu_lss ?_ | refine pu_leq ?_ | refine pu_gtr ?_ | refine pu_geq ?_ | refine pu_add ?_ | refine pu_sub ?_ | refine pu_mul ?_ | refine pu_neg ?_ | refine fa_at ?_ | refine nl_ptr ?_ | refine ex20 ?_ | refine ex21 ?_ | refine ex30 ?_ | refine ex31 ?_ | refine ex32 ?_ | refine ln_rule ?_ | refine lnT_rule ?_ | refine pu_and ?_ | refine pu_or ?_ | refine pu_xor ?_ | refine pu_seq ?_ | refine pu_sne ?_)
  refine gv ?_
  refine gl ?_
  repeat (first | refine pu_not ?_ | refine pu_eql ?_ | refine pu_neq ?_ | refine pu_lss ?_ | refine pu_leq ?_ | refine pu_gtr ?_ | refine pu_geq ?_ | refine pu_add ?_ | refine pu_sub ?_ | refine pu_mul ?_ | refine pu_neg ?_ | refine fa_at ?_ | refine nl_ptr ?_ | refine ex20 ?_ | refine ex21 ?_ | refine ex30 ?_ | refine ex31 ?_ | refine ex32 ?_ | refine ln_rule ?_ | refine lnT_rule ?_ | refine pu_and ?_ | refine pu_or ?_ | refine pu_xor ?_ | refine pu_seq ?_ | refine pu_sne ?_)
  refine gv ?_
  refine gl ?_
  have gc : ∀ {X : Value → Prop}, X (Vc.cut s.vfr 0 lo.length lo.length) → pu PG (Instr.sliceAt T.t_sl_api_Frame s.vfr none (some (vI (lo.length : Nat))) (some (vI (lo.length : Nat)))) X := fun k => by
    rw [hvf] at k ⊢
    exact pu_cutHM und_slfrm frmi (by omega) (by omega) (by omega) (by simpa using k)
  refine gc ?_
  generalize Vc.cut s.vfr 0 lo.length lo.length = v2 at hfro
  obtain ⟨a2, c2, hv2, _, _⟩ := hfro.len
  rw [frw_len] at hv2
  repeat (first | refine pu_not ?_ | refine pu_eql ?_ | refine pu_neq ?_ | refine pu_lss ?_ | refine pu_leq ?_ | refine pu_gtr ?_ | refine pu_geq ?_ | refine pu_add ?_ | refine pu_sub ?_ | refine pu_mul ?_ | refine pu_neg ?_ | refine fa_at ?_ | refine nl_ptr ?_ | refine ex20 ?_ | refine ex21 ?_ | refine ex30 ?_ | refine ex31 ?_ | refine ex32 ?_ | refine ln_rule ?_ | refine lnT_rule ?_ | refine pu_and ?_ | refine pu_or ?_ | refine pu_xor ?_ | refine pu_seq ?_ | refine pu_sne ?_)
  refine st1_here (A := [_, _]) hw4.drew (by rw [hv2]; rfl) (by rw [hv2]; rfl) (by simp [SK.cell]) (fun w5 hw5 => ?_)
  have e5 : (s.cell p).set (0 + 4) v2 = SK.cell p { s with vfr := v2 } := rfl
  rw [e5] at hw5
  repeat (first | refine pu_not ?_ | refine pu_eql ?_ | refine pu_neq ?_ | refine pu_lss ?_ | refine pu_leq ?_ | refine pu_gtr ?_ | refine pu_geq ?_ | refine pu_add ?_ | refine pu_sub ?_ | refine pu_mul ?_ | refine pu_neg ?_ | refine fa_at ?_ | refine nl_ptr ?_ | refine ex20 ?_ | refine ex21 ?_ | refine ex30 ?_ | refine ex31 ?_ | refine ex32 ?_ | refine ln_rule ?_ | refine lnT_rule ?_ | refine pu_and ?_ | refine pu_or ?_ | refine pu_xor ?_ | refine pu_seq ?_ | refine pu_sne ?_)
  refine ld_here hw5 (.tail _ (.tail _ (.head _))) (v := v2) rfl ?_
  have g0 : ∀ {X : Value → Prop}, X (vI (lo.length : Nat)) → lnS v2 X := fun k => by rw [hv2]; exact ln_rule k
  refine g0 ?_
  repeat (first | refine pu_not ?_ | refine pu_eql ?_ | refine pu_neq ?_ | refine pu_lss ?_ | refine pu_leq ?_ | refine pu_gtr ?_ | refine pu_geq ?_ | refine pu_add ?_ | refine pu_sub ?_ | refine pu_mul ?_ | refine pu_neg ?_ | refine fa_at ?_ | refine nl_ptr ?_ | refine ex20 ?_ | refine ex21 ?_ | refine ex30 ?_ | refine ex31 ?_ | refine ex32 ?_ | refine ln_rule ?_ | refine lnT_rule ?_ | refine pu_and ?_ | refine pu_or ?_ | refine pu_xor ?_ | refine pu_seq ?_ | refine pu_sne ?_)
  have mS : ∀ x, x ∈ t.S → x ∈ (bf, cel t.row T.t_api_Frame) :: (bi, iO i) :: VH s.b g (SK.cell p { s with vfr := v2 }) pre post t (ffoot lo ++ R) := fun x hx => .tail _ (mem_S x hx)
  have hmap : ∀ l : List FE, (l.map FE.m).length = l.length := fun l => List.length_map _
  refine cnd (fun hq => ?_) (fun hq => ?_)
  · have hlo : lo = [] := by cases lo; rfl; simp at hq; omega
    subst hlo
    repeat (first | refine pu_not ?_ | refine pu_eql ?_ | refine pu_neq ?_ | refine pu_lss ?_ | refine pu_leq ?_ | refine pu_gtr ?_ | refine pu_geq ?_ | refine pu_add ?_ | refine pu_sub ?_ | refine pu_mul ?_ | refine pu_neg ?_ | refine fa_at ?_ | refine nl_ptr ?_ | refine ex20 ?_ | refine ex21 ?_ | refine ex30 ?_ | refine ex31 ?_ | refine ex32 ?_ | refine ln_rule ?_ | refine lnT_rule ?_ | refine pu_and ?_ | refine pu_or ?_ | refine pu_xor ?_ | refine pu_seq ?_ | refine pu_sne ?_)
    refine ld_here hw5 (.head _) (v := t.c) rfl ?_
    repeat (first | refine pu_not ?_ | refine pu_eql ?_ | refine pu_neq ?_ | refine pu_lss ?_ | refine pu_leq ?_ | refine pu_gtr ?_ | refine pu_geq ?_ | refine pu_add ?_ | refine pu_sub ?_ | refine pu_mul ?_ | refine pu_neg ?_ | refine fa_at ?_ | refine nl_ptr ?_ | refine ex20 ?_ | refine ex21 ?_ | refine ex30 ?_ | refine ex31 ?_ | refine ex32 ?_ | refine ln_rule ?_ | refine lnT_rule ?_ | refine pu_and ?_ | refine pu_or ?_ | refine pu_xor ?_ | refine pu_seq ?_ | refine pu_sne ?_)
    refine ld_here hw5 (.tail _ (.head _)) (v := vI i.a) rfl ?_
    refine regs_rdw hto hw5 mS ha ha1 ?_
    repeat (first | refine pu_not ?_ | refine pu_eql ?_ | refine pu_neq ?_ | refine pu_lss ?_ | refine pu_leq ?_ | refine pu_gtr ?_ | refine pu_geq ?_ | refine pu_add ?_ | refine pu_sub ?_ | refine pu_mul ?_ | refine pu_neg ?_ | refine fa_at ?_ | refine nl_ptr ?_ | refine ex20 ?_ | refine ex21 ?_ | refine ex30 ?_ | refine ex31 ?_ | refine ex32 ?_ | refine ln_rule ?_ | refine lnT_rule ?_ | refine pu_and ?_ | refine pu_or ?_ | refine pu_xor ?_ | refine pu_seq ?_ | refine pu_sne ?_)
    refine st1_here (A := [_, _]) hw5 rfl rfl (by simp [SK.cell]) (fun w6 hw6 => ?_)
    have e6 : (SK.cell p { s with vfr := v2 }).set (0 + 5) (vU (regR t.m.regs i.a)) = SK.cell p { s with vfr := v2, es := [], res := regR t.m.regs i.a } := rfl
    rw [e6] at hw6
    refine k { s with vfr := v2, es := [], res := regR t.m.regs i.a } w6 rfl rfl (.inl ⟨rfl, rfl, rfl⟩) ⟨hs.hf, ?_, fun e he => by simp at he, Nat.zero_lt_succ _⟩ ?_
    · exact hfro
    · unfold SK.hp
      simp only [hSf]
      refine hw6.sub (.cons _ (.cons _ (.cons_cons _ (.cons_cons _ ?_))))
      exact List.sublist_append_right _ _
  · obtain ⟨u, lo', rfl⟩ : ∃ u lo', lo = u :: lo' := by
      cases lo with
      | nil => simp at hq
      | cons u lo' => exact ⟨u, lo', rfl⟩
    have hdu := hd u lo' rfl
    have huo : u.ok := hs.eok u (by rw [he]; exact .tail _ (.head _))
    refine ⟨fun w => Ow B w ((bf, cel t.row T.t_api_Frame) :: (bi, iO i) :: VH s.b g (SK.cell p { s with vfr := v2 }) pre post t (ffoot (u :: lo') ++ R)), hw5.drew, ?_⟩
    repeat (first | refine pu_not ?_ | refine pu_eql ?_ | refine pu_neq ?_ | refine pu_lss ?_ | refine pu_leq ?_ | refine pu_gtr ?_ | refine pu_geq ?_ | refine pu_add ?_ | refine pu_sub ?_ | refine pu_mul ?_ | refine pu_neg ?_ | refine fa_at ?_ | refine nl_ptr ?_ | refine ex20 ?_ | refine ex21 ?_ | refine ex30 ?_ | refine ex31 ?_ | refine ex32 ?_ | refine ln_rule ?_ | refine lnT_rule ?_ | refine pu_and ?_ | refine pu_or ?_ | refine pu_xor ?_ | refine pu_seq ?_ | refine pu_sne ?_)
    refine lds_here (fun w h => h) (.head _) (v := vI t.m.dest) rfl ?_
    repeat (first | refine pu_not ?_ | refine pu_eql ?_ | refine pu_neq ?_ | refine pu_lss ?_ | refine pu_leq ?_ | refine pu_gtr ?_ | refine pu_geq ?_ | refine pu_add ?_ | refine pu_sub ?_ | refine pu_mul ?_ | refine pu_neg ?_ | refine fa_at ?_ | refine nl_ptr ?_ | refine ex20 ?_ | refine ex21 ?_ | refine ex30 ?_ | refine ex31 ?_ | refine ex32 ?_ | refine ln_rule ?_ | refine lnT_rule ?_ | refine pu_and ?_ | refine pu_or ?_ | refine pu_xor ?_ | refine pu_seq ?_ | refine pu_sne ?_)
    refine lds_here (fun w h => h) (.head _) (v := t.c) rfl ?_
    repeat (first | refine pu_not ?_ | refine pu_eql ?_ | refine pu_neq ?_ | refine pu_lss ?_ | refine pu_leq ?_ | refine pu_gtr ?_ | refine pu_geq ?_ | refine pu_add ?_ | refine pu_sub ?_ | refine pu_mul ?_ | refine pu_neg ?_ | refine fa_at ?_ | refine nl_ptr ?_ | refine ex20 ?_ | refine ex21 ?_ | refine ex30 ?_ | refine ex31 ?_ | refine ex32 ?_ | refine ln_rule ?_ | refine lnT_rule ?_ | refine pu_and ?_ | refine pu_or ?_ | refine pu_xor ?_ | refine pu_seq ?_ | refine pu_sne ?_)
    refine lds_here (fun w h => h) (.tail _ (.head _)) (v := vI i.a) rfl ?_
    refine regs_rd hto (fun w h => h) mS ha ha1 ?_
    -- the stack without its top
    rw [frw_cons] at hfro
    obtain ⟨g', pre', post', cap', q1, q2, q3, q4⟩ := hfro.top
    rw [frw_len] at q1 q3
    rw [hSf] at q2
    obtain ⟨rfl, q5⟩ : g' = g ∧ pre ++ (t.row ++ post) = pre' ++ (u.row ++ post') := by
      simp only [List.cons.injEq, Prod.mk.injEq, and_true] at q2
      obtain ⟨h1, h2⟩ := q2
      refine ⟨h1.symm, ?_⟩
      have := congrArg (fun o : Obj => match o with | .cells a _ _ => a.toList | _ => []) h2
      simpa using this
    have hv' : Vw (SK.cell p { s with vfr := v2 }) pre' g' lo'.length cap' := ⟨by rw [← q1]; rfl, rfl, q3, by simp only [List.length_cons] at hlen; omega⟩
    have ffc : ffoot (u :: lo') = u.S ++ ffoot lo' := rfl
    refine top_at (g := g') (n := lo'.length) (cap := cap') hw5.drew (.tail _ (.tail _ (.head _))) hv'.c6 hv'.c4 hv'.hn (fun w6 hw6 => ⟨hw6, ?_⟩)
    repeat (first | refine pu_not ?_ | refine pu_eql ?_ | refine pu_neq ?_ | refine pu_lss ?_ | refine pu_leq ?_ | refine pu_gtr ?_ | refine pu_geq ?_ | refine pu_add ?_ | refine pu_sub ?_ | refine pu_mul ?_ | refine pu_neg ?_ | refine fa_at ?_ | refine nl_ptr ?_ | refine ex20 ?_ | refine ex21 ?_ | refine ex30 ?_ | refine ex31 ?_ | refine ex32 ?_ | refine ln_rule ?_ | refine lnT_rule ?_ | refine pu_and ?_ | refine pu_or ?_ | refine pu_xor ?_ | refine pu_seq ?_ | refine pu_sne ?_)
    refine lds_here (fun w h => h) (.tail _ mem_g) (v := u.c) (by rw [q5]; exact row_at q3 row3) ?_
    have hw6' : Ow B w6 (((bf, cel t.row T.t_api_Frame) :: (bi, iO i) :: (s.b, stO (SK.cell p { s with vfr := v2 })) :: (g', frO pre t.row post) :: t.S) ++ u.S ++ (ffoot lo' ++ R)) := by
      have := hw6
      rw [ffc] at this
      simpa only [VH, List.nil_append, List.cons_append, List.append_assoc] using this
    refine regs_st (x := (t.m.dest : Int)) huo hw6' (by omega) (by omega) (fun S' w7 ho7 hw7 => ?_)
    rw [Int.toNat_natCast] at ho7
    refine k { s with vfr := v2, es := { S := S', c := u.c, m := { u.m with regs := u.m.regs.set t.m.dest (regR t.m.regs i.a) } } :: lo' } w7 rfl rfl (.inr ⟨u, lo', rfl, rfl, rfl⟩) ⟨hs.hf, ?_, ?_, ?_⟩ ?_
    · rw [frw_cons]
      show Fro T.t_api_Frame 4 s.Sf v2 (frw lo' ++ [u.row])
      have q6 : frO pre t.row post = frO pre' u.row post' := congrArg (fun l => cel l T.t_api_Frame) q5
      rw [hSf, q6]
      exact q4 _ rfl
    · intro e hem
      rcases List.mem_cons.1 hem with rfl | hem
      · exact ho7
      · exact hs.eok e (by rw [he]; exact .tail _ (.tail _ hem))
    · simp only [List.length_cons] at hlen ⊢; omega
    · unfold SK.hp
      have hw8 : Ow B w7 ((bf, cel t.row T.t_api_Frame) :: (bi, iO i) :: (s.b, stO (SK.cell p { s with vfr := v2 })) :: (g', frO pre t.row post) :: (t.S ++ (S' ++ (ffoot lo' ++ R)))) := by simpa using hw7
      have e8 : ffoot ({ S := S', c := u.c, m := { u.m with regs := u.m.regs.set t.m.dest (regR t.m.regs i.a) } } :: lo') = S' ++ ffoot lo' := rfl
      simp only [hSf, e8]
      refine hw8.sub (.cons _ (.cons _ (.cons_cons _ ?_)))
      refine .cons_cons _ ?_
      show List.Sublist ((S' ++ ffoot lo') ++ R) _
      rw [List.append_assoc]
      exact List.sublist_append_right _ _
end
end Go.Proofs.YtkkkcafkepnecaaGreat
