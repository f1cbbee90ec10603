/- Stacks: the instruction at the top; calls; returns. -/
import Derived.Test.YtkkkcafkepnecaaGreatVsE
set_option linter.unusedVariables false
set_option linter.unusedSimpArgs false
namespace Go.Proofs.YtkkkcafkepnecaaGreat
open Go Go.RowKit Vc Ar
attribute [local irreducible] binV Op.unary convert nlW faW ldS ldW ixS ixA ixV ixT exW lnS lnT pu stW alW opW opU bsW mkW

section
variable {B w : World} {H X F Q R : Hp} {K : Value → World → Prop} {PK : List PanicEntry → World → Prop} {KK : Value → Prop} {e : Int} {b n cap g : Nat} {c pre post : List Value} {t : FE} {i : Ins} {p : Pr}
theorem usz : ∃ i, PG.info? T.t_uint32 = some i ∧ i.size = 1 := by
  obtain ⟨i, h1, _, h3, _⟩ := info_of info_u
  exact ⟨i, h1, h3⟩
/-- A stack as it lies in memory. -/
structure SK where
  b : Nat
  vF : Value
  vfr : Value
  Sf : Hp
  es : List FE
  res : Int
def SK.cell (p : Pr) (s : SK) : List Value := [s.vF, vI p.mu, vI p.rw, vI p.gr, s.vfr, vU s.res, vB true]
def SK.hp (p : Pr) (s : SK) : Hp := (s.b, stO (s.cell p)) :: (s.Sf ++ ffoot s.es)
structure SK.ok (p : Pr) (F : Hp) (s : SK) : Prop where
  hf : fsIn F s.vF p.fs
  fro : Fro T.t_api_Frame 4 s.Sf s.vfr (frw s.es)
  eok : ∀ e ∈ s.es, e.ok
  len : s.es.length < 1000
def SK.frs (s : SK) : List Frm := s.es.map FE.m
variable {s : SK} {lo : List FE}
theorem row4 (t : FE) : t.row.length = 4 := rfl
/-- The view of a stack that has a top. -/
theorem SK.view (hs : s.ok p F) (he : s.es = t :: lo) : ∃ g pre post cap, Vw (s.cell p) pre g lo.length cap ∧ s.Sf = [(g, frO pre t.row post)] ∧ s.vfr = .slice (some ⟨g, 0, none⟩) (lo.length + 1) cap ∧ (∀ R, s.hp p ++ R = VH s.b g (s.cell p) pre post t (ffoot lo ++ R)) ∧
    ∀ t' : FE, Fro T.t_api_Frame 4 [(g, frO pre t'.row post)] s.vfr (frw (t' :: lo)) := by
  have hfr := hs.fro
  rw [he, frw_cons] at hfr
  obtain ⟨g, pre, post, cap, e1, e2, e3, e4⟩ := hfr.top
  rw [frw_len] at e1 e3
  have hl := hs.len
  rw [he] at hl
  simp only [List.length_cons] at hl
  refine ⟨g, pre, post, cap, ⟨by rw [← e1]; rfl, rfl, e3, by omega⟩, e2, e1, fun R => ?_, fun t' => ?_⟩
  · unfold SK.hp
    rw [he, e2]
    simp [ffoot]
  · rw [frw_cons]; exact e4 _ rfl
/-- The instruction at the top. -/
theorem sins_spec {f : Fun} (hs : s.ok p F) (he : s.es = t :: lo) (hF : ∀ x, x ∈ F → x ∈ R) (h1 : p.fs[t.m.fn]? = some f) (h2 : f.code[t.m.pc]? = some i) (h : Ow B w (s.hp p ++ R)) (k : ∀ w', Ow B w' (s.hp p ++ R) → K (.agg i.cells.toArray) w') : callW PG N.stack_Stack_ins [ptr s.b] K PK w := by
  refine stack_Stack_ins.ok ?_
  unfold stack_Stack_ins.C
  obtain ⟨g, pre, post, cap, hv, _, _, hh, _⟩ := SK.view hs he
  rw [hh] at h k
  refine al_rule h (l := (bare 0).cells) zins (fun bi w1 hw1 => ?_)
  refine vtop1 hv hw1 (fun w2 hw2 => ?_)
  refine ⟨fun w => Ow B w ((bi, cel (bare 0).cells T.t_api_Ins) :: VH s.b g (s.cell p) pre post t (ffoot lo ++ R)), hw2.drew, ?_⟩
  have hX : ∀ x, x ∈ F → x ∈ (bi, cel (bare 0).cells T.t_api_Ins) :: VH s.b g (s.cell p) pre post t (ffoot lo ++ R) := fun x hx => .tail _ (.tail _ (.tail _ (List.mem_append_right _ (List.mem_append_right _ (hF x hx)))))
  have hlt := (List.getElem?_eq_some_iff.1 h1).1
  obtain ⟨ps, cc, f', f1, f2, f3, f4, f5⟩ := hs.hf.at (n := (t.m.fn : Int)) (by omega) (by omega)
  rw [Int.toNat_natCast, h1] at f1
  cases f1
  repeat (first | refine pu_not ?_ | refine pu_eql ?_ | refine pu_neq ?_ | refine pu_lss ?_ | refine pu_leq ?_ | refine pu_gtr ?_ | refine pu_geq ?_ | refine pu_add ?_ | refine pu_sub ?_ | refine pu_mul ?_ | refine pu_neg ?_ | refine fa_at ?_ | refine nl_ptr ?_ | refine ex20 ?_ | refine ex21 ?_ | refine ex30 ?_ | refine ex31 ?_ | refine ex32 ?_ | refine ln_rule ?_ | refine lnT_rule ?_ | refine pu_and ?_ | refine pu_or ?_ | refine pu_xor ?_ | refine pu_seq ?_ | refine pu_sne ?_)
  refine lds_here (fun w h => h) (.tail _ (.head _)) (v := s.vF) rfl ?_
  repeat (first | refine pu_not ?_ | refine pu_eql ?_ | refine pu_neq ?_ | refine pu_lss ?_ | refine pu_leq ?_ | refine pu_gtr ?_ | refine pu_geq ?_ | refine pu_add ?_ | refine pu_sub ?_ | refine pu_mul ?_ | refine pu_neg ?_ | refine fa_at ?_ | refine nl_ptr ?_ | refine ex20 ?_ | refine ex21 ?_ | refine ex30 ?_ | refine ex31 ?_ | refine ex32 ?_ | refine ln_rule ?_ | refine lnT_rule ?_ | refine pu_and ?_ | refine pu_or ?_ | refine pu_xor ?_ | refine pu_seq ?_ | refine pu_sne ?_)
  refine lds_here (fun w h => h) mem_g (row_at hv.pl (v := vI t.m.fn) rfl) ?_
  refine sls_flds (fun w h => h) (f2.mono hX) (by omega) f3 (j := 1) (v := cc) rfl ?_
  repeat (first | refine pu_not ?_ | refine pu_eql ?_ | refine pu_neq ?_ | refine pu_lss ?_ | refine pu_leq ?_ | refine pu_gtr ?_ | refine pu_geq ?_ | refine pu_add ?_ | refine pu_sub ?_ | refine pu_mul ?_ | refine pu_neg ?_ | refine fa_at ?_ | refine nl_ptr ?_ | refine ex20 ?_ | refine ex21 ?_ | refine ex30 ?_ | refine ex31 ?_ | refine ex32 ?_ | refine ln_rule ?_ | refine lnT_rule ?_ | refine pu_and ?_ | refine pu_or ?_ | refine pu_xor ?_ | refine pu_seq ?_ | refine pu_sne ?_)
  refine lds_here (fun w h => h) mem_g (row_at hv.pl (v := vI t.m.pc) rfl) ?_
  refine sls_lds (fun w h => h) (f4.mono hX) (by omega) (code_at h2) ?_
  refine st_here (A := []) hw2.drew i.cells rfl rfl (ins_plain _) (by simp [Ins.cells]) (fun w3 hw3 => ?_)
  have e3 : (bare 0).cells.take 0 ++ i.cells ++ (bare 0).cells.drop (0 + 5) = i.cells := rfl
  rw [e3] at hw3
  refine ldn_here hw3 (.head _) (vs := i.cells) rfl rfl ?_
  exact k _ (Ow.drop hw3)
/-- A frame that a call enters. -/
def newF (i : Ins) (f : Fun) (regs : List Int) : Frm := ⟨i.imm.toNat, 0, i.a.toNat, padd ((regs.take (i.b + i.c).toNat).drop i.b.toNat) f.regs.toNat⟩
set_option maxRecDepth 20000 in
theorem calls_spec {f : Fun} (hs : s.ok p F) (he : s.es = t :: lo) (hF : ∀ x, x ∈ F → x ∈ R) (him : 0 ≤ i.imm ∧ i.imm < 4294967296) (ha : 0 ≤ i.a) (hb0 : 0 ≤ i.b) (hc0 : 0 ≤ i.c) (hbc : i.b + i.c ≤ t.m.regs.length)
    (hf : p.fs[i.imm.toNat]? = some f) (hcf : i.c ≤ f.regs) (hfr : f.regs ≤ 16) (hlen : lo.length + 2 < 1000) (hrl : t.m.regs.length < 1000000) (h : Ow B w (s.hp p ++ R))
    (k : ∀ (s' : SK) w', s'.b = s.b → s'.vF = s.vF → s'.res = s.res → s'.frs = newF i f t.m.regs :: s.frs → s'.ok p F → Ow B w' (s'.hp p ++ R) → K (.tuple #[]) w') : callW PG N.stack_Stack_calls [ptr s.b, .agg i.cells.toArray] K PK w := by
  refine stack_Stack_calls.ok ?_
  unfold stack_Stack_calls.C
  obtain ⟨g, pre, post, cap, hv, hSf, hvfr, hh, hup⟩ := SK.view hs he
  have hto : t.ok := hs.eok t (by rw [he]; exact .head _)
  have hflo : f.regs = ((f.regs.toNat : Nat) : Int) := by omega
  rw [hh] at h
  refine al_rule h (l := i.cells) rfl (fun bi w1 hw1 => ?_)
  refine ⟨fun w => Ow B w ((bi, iO i) :: VH s.b g (s.cell p) pre post t (ffoot lo ++ R)), hw1.drew, ?_⟩
  repeat (first | refine pu_not ?_ | refine pu_eql ?_ | refine pu_neq ?_ | refine pu_lss ?_ | refine pu_leq ?_ | refine pu_gtr ?_ | refine pu_geq ?_ | refine pu_add ?_ | refine pu_sub ?_ | refine pu_mul ?_ | refine pu_neg ?_ | refine fa_at ?_ | refine nl_ptr ?_ | refine ex20 ?_ | refine ex21 ?_ | refine ex30 ?_ | refine ex31 ?_ | refine ex32 ?_ | refine ln_rule ?_ | refine lnT_rule ?_ | refine pu_and ?_ | refine pu_or ?_ | refine pu_xor ?_ | refine pu_seq ?_ | refine pu_sne ?_)
  refine lds_here (fun w h => h) (.head _) (v := vI i.b) rfl ?_
  repeat (first | refine pu_not ?_ | refine pu_eql ?_ | refine pu_neq ?_ | refine pu_lss ?_ | refine pu_leq ?_ | refine pu_gtr ?_ | refine pu_geq ?_ | refine pu_add ?_ | refine pu_sub ?_ | refine pu_mul ?_ | refine pu_neg ?_ | refine fa_at ?_ | refine nl_ptr ?_ | refine ex20 ?_ | refine ex21 ?_ | refine ex30 ?_ | refine ex31 ?_ | refine ex32 ?_ | refine ln_rule ?_ | refine lnT_rule ?_ | refine pu_and ?_ | refine pu_or ?_ | refine pu_xor ?_ | refine pu_seq ?_ | refine pu_sne ?_)
  refine lds_here (fun w h => h) (.head _) (v := vI i.b) rfl ?_
  repeat (first | refine pu_not ?_ | refine pu_eql ?_ | refine pu_neq ?_ | refine pu_lss ?_ | refine pu_leq ?_ | refine pu_gtr ?_ | refine pu_geq ?_ | refine pu_add ?_ | refine pu_sub ?_ | refine pu_mul ?_ | refine pu_neg ?_ | refine fa_at ?_ | refine nl_ptr ?_ | refine ex20 ?_ | refine ex21 ?_ | refine ex30 ?_ | refine ex31 ?_ | refine ex32 ?_ | refine ln_rule ?_ | refine lnT_rule ?_ | refine pu_and ?_ | refine pu_or ?_ | refine pu_xor ?_ | refine pu_seq ?_ | refine pu_sne ?_)
  refine lds_here (fun w h => h) (.head _) (v := vI i.c) rfl ?_
  repeat (first | refine pu_not ?_ | refine pu_eql ?_ | refine pu_neq ?_ | refine pu_lss ?_ | refine pu_leq ?_ | refine pu_gtr ?_ | refine pu_geq ?_ | refine pu_add ?_ | refine pu_sub ?_ | refine pu_mul ?_ | refine pu_neg ?_ | refine fa_at ?_ | refine nl_ptr ?_ | refine ex20 ?_ | refine ex21 ?_ | refine ex30 ?_ | refine ex31 ?_ | refine ex32 ?_ | refine ln_rule ?_ | refine lnT_rule ?_ | refine pu_and ?_ | refine pu_or ?_ | refine pu_xor ?_ | refine pu_seq ?_ | refine pu_sne ?_)
  refine lds_here (fun w h => h) (.head _) (v := vI i.b) rfl ?_
  repeat (first | refine pu_not ?_ | refine pu_eql ?_ | refine pu_neq ?_ | refine pu_lss ?_ | refine pu_leq ?_ | refine pu_gtr ?_ | refine pu_geq ?_ | refine pu_add ?_ | refine pu_sub ?_ | refine pu_mul ?_ | refine pu_neg ?_ | refine fa_at ?_ | refine nl_ptr ?_ | refine ex20 ?_ | refine ex21 ?_ | refine ex30 ?_ | refine ex31 ?_ | refine ex32 ?_ | refine ln_rule ?_ | refine lnT_rule ?_ | refine pu_and ?_ | refine pu_or ?_ | refine pu_xor ?_ | refine pu_seq ?_ | refine pu_sne ?_)
  refine lds_here (fun w h => h) (.head _) (v := vI i.c) rfl ?_
  repeat (first | refine pu_not ?_ | refine pu_eql ?_ | refine pu_neq ?_ | refine pu_lss ?_ | refine pu_leq ?_ | refine pu_gtr ?_ | refine pu_geq ?_ | refine pu_add ?_ | refine pu_sub ?_ | refine pu_mul ?_ | refine pu_neg ?_ | refine fa_at ?_ | refine nl_ptr ?_ | refine ex20 ?_ | refine ex21 ?_ | refine ex30 ?_ | refine ex31 ?_ | refine ex32 ?_ | refine ln_rule ?_ | refine lnT_rule ?_ | refine pu_and ?_ | refine pu_or ?_ | refine pu_xor ?_ | refine pu_seq ?_ | refine pu_sne ?_)
  rw [wrap64_in (by omega) (by omega)]
  refine vtop1 hv hw1.drew (fun w2 hw2 => ⟨hw2, ?_⟩)
  repeat (first | refine pu_not ?_ | refine pu_eql ?_ | refine pu_neq ?_ | refine pu_lss ?_ | refine pu_leq ?_ | refine pu_gtr ?_ | refine pu_geq ?_ | refine pu_add ?_ | refine pu_sub ?_ | refine pu_mul ?_ | refine pu_neg ?_ | refine fa_at ?_ | refine nl_ptr ?_ | refine ex20 ?_ | refine ex21 ?_ | refine ex30 ?_ | refine ex31 ?_ | refine ex32 ?_ | refine ln_rule ?_ | refine lnT_rule ?_ | refine pu_and ?_ | refine pu_or ?_ | refine pu_xor ?_ | refine pu_seq ?_ | refine pu_sne ?_)
  refine lds_here (fun w h => h) mem_g (row_at hv.pl row3) ?_
  obtain ⟨a0, cc0, htc, hcc⟩ := Sl.cap (Vc.Own.sl hto)
  have hrl2 : (rgs t.m.regs).length = t.m.regs.length := by simp [rgs]
  rw [hrl2] at hcc htc
  rw [htc]
  refine pu_cutLHM und_slu usz hb0 (by omega) (by omega) (by omega) ?_
  rw [← htc]
  have hcut : Sl t.S (Vc.cut t.c i.b.toNat (i.b + i.c).toNat (i.b + i.c).toNat) (rgs ((t.m.regs.take (i.b + i.c).toNat).drop i.b.toNat)) := by
    have := sl_cut (l := i.b.toNat) (h := (i.b + i.c).toNat) (m := (i.b + i.c).toNat) (Vc.Own.sl hto) (by omega) (by rw [hrl2]; omega) (by omega)
    rwa [← List.map_take, ← List.map_drop] at this
  generalize Vc.cut t.c i.b.toNat (i.b + i.c).toNat (i.b + i.c).toNat = av at hcut ⊢
  refine ⟨fun w => Ow B w ((bi, iO i) :: (s.b, stO (s.cell p)) :: R), ?_, ?_⟩
  · exact hw2.drew.sub (.cons_cons _ (.cons_cons _ (.cons _ ((List.sublist_append_right _ _).trans (List.sublist_append_right _ _)))))
  have hX : ∀ x, x ∈ F → x ∈ (bi, iO i) :: (s.b, stO (s.cell p)) :: R := fun x hx => .tail _ (.tail _ (hF x hx))
  have hlt := (List.getElem?_eq_some_iff.1 hf).1
  obtain ⟨ps, cc, f', f1, f2, f3, f4, f5⟩ := hs.hf.at (n := i.imm) him.1 (by omega)
  rw [hf] at f1
  cases f1
  repeat (first | refine pu_not ?_ | refine pu_eql ?_ | refine pu_neq ?_ | refine pu_lss ?_ | refine pu_leq ?_ | refine pu_gtr ?_ | refine pu_geq ?_ | refine pu_add ?_ | refine pu_sub ?_ | refine pu_mul ?_ | refine pu_neg ?_ | refine fa_at ?_ | refine nl_ptr ?_ | refine ex20 ?_ | refine ex21 ?_ | refine ex30 ?_ | refine ex31 ?_ | refine ex32 ?_ | refine ln_rule ?_ | refine lnT_rule ?_ | refine pu_and ?_ | refine pu_or ?_ | refine pu_xor ?_ | refine pu_seq ?_ | refine pu_sne ?_)
  refine lds_here (fun w h => h) (.tail _ (.head _)) (v := s.vfr) rfl ?_
  repeat (first | refine pu_not ?_ | refine pu_eql ?_ | refine pu_neq ?_ | refine pu_lss ?_ | refine pu_leq ?_ | refine pu_gtr ?_ | refine pu_geq ?_ | refine pu_add ?_ | refine pu_sub ?_ | refine pu_mul ?_ | refine pu_neg ?_ | refine fa_at ?_ | refine nl_ptr ?_ | refine ex20 ?_ | refine ex21 ?_ | refine ex30 ?_ | refine ex31 ?_ | refine ex32 ?_ | refine ln_rule ?_ | refine lnT_rule ?_ | refine pu_and ?_ | refine pu_or ?_ | refine pu_xor ?_ | refine pu_seq ?_ | refine pu_sne ?_)
  refine lds_here (fun w h => h) (.head _) (v := vU i.imm) rfl ?_
  refine cvt (by kernel_rfl) und_int (m := i.imm) (by rw [wrap64_in (by omega) (by omega)]) ?_
  repeat (first | refine pu_not ?_ | refine pu_eql ?_ | refine pu_neq ?_ | refine pu_lss ?_ | refine pu_leq ?_ | refine pu_gtr ?_ | refine pu_geq ?_ | refine pu_add ?_ | refine pu_sub ?_ | refine pu_mul ?_ | refine pu_neg ?_ | refine fa_at ?_ | refine nl_ptr ?_ | refine ex20 ?_ | refine ex21 ?_ | refine ex30 ?_ | refine ex31 ?_ | refine ex32 ?_ | refine ln_rule ?_ | refine lnT_rule ?_ | refine pu_and ?_ | refine pu_or ?_ | refine pu_xor ?_ | refine pu_seq ?_ | refine pu_sne ?_)
  refine lds_here (fun w h => h) (.tail _ (.head _)) (v := s.vF) rfl ?_
  repeat (first | refine pu_not ?_ | refine pu_eql ?_ | refine pu_neq ?_ | refine pu_lss ?_ | refine pu_leq ?_ | refine pu_gtr ?_ | refine pu_geq ?_ | refine pu_add ?_ | refine pu_sub ?_ | refine pu_mul ?_ | refine pu_neg ?_ | refine fa_at ?_ | refine nl_ptr ?_ | refine ex20 ?_ | refine ex21 ?_ | refine ex30 ?_ | refine ex31 ?_ | refine ex32 ?_ | refine ln_rule ?_ | refine lnT_rule ?_ | refine pu_and ?_ | refine pu_or ?_ | refine pu_xor ?_ | refine pu_seq ?_ | refine pu_sne ?_)
  refine lds_here (fun w h => h) (.head _) (v := vU i.imm) rfl ?_
  refine sls_flds (fun w h => h) (f2.mono hX) him.1 f3 (j := 0) (v := vI f.regs) rfl ?_
  repeat (first | refine pu_not ?_ | refine pu_eql ?_ | refine pu_neq ?_ | refine pu_lss ?_ | refine pu_leq ?_ | refine pu_gtr ?_ | refine pu_geq ?_ | refine pu_add ?_ | refine pu_sub ?_ | refine pu_mul ?_ | refine pu_neg ?_ | refine fa_at ?_ | refine nl_ptr ?_ | refine ex20 ?_ | refine ex21 ?_ | refine ex30 ?_ | refine ex31 ?_ | refine ex32 ?_ | refine ln_rule ?_ | refine lnT_rule ?_ | refine pu_and ?_ | refine pu_or ?_ | refine pu_xor ?_ | refine pu_seq ?_ | refine pu_sne ?_)
  refine lds_here (fun w h => h) (.head _) (v := vI i.a) rfl ?_
  have e1 : i.imm = ((i.imm.toNat : Nat) : Int) := by omega
  have e2 : i.a = ((i.a.toNat : Nat) : Int) := by omega
  have harg : [vI i.imm, vI f.regs, vI i.a, av] = [vI (i.imm.toNat : Nat), vI (f.regs.toNat : Nat), vI (i.a.toNat : Nat), av] := by rw [← e1, ← e2, ← hflo]
  rw [harg]
  have hwl : ((t.m.regs.take (i.b + i.c).toNat).drop i.b.toNat).length = i.c.toNat := by rw [List.length_drop, List.length_take]; omega
  refine entered_spec hw2.drew hcut (fun x hx => mem_S x hx) (by rw [hwl]; omega) (by omega) (fun S cv w3 hw3 ho3 => ?_)
  have sub3 : ∀ {A : Hp} {w : World}, Ow B w (A ++ (S ++ (bi, iO i) :: VH s.b g (s.cell p) pre post t (ffoot lo ++ R))) → Ow B w ((bi, iO i) :: (s.b, stO (s.cell p)) :: R) := fun h => h.sub (((List.Sublist.cons_cons _ (.cons_cons _ (.cons _ ((List.sublist_append_right _ _).trans (List.sublist_append_right _ _))))).trans (List.sublist_append_right S _)).trans (List.sublist_append_right _ _))
  refine ⟨sub3 (A := []) hw3, ?_⟩
  obtain ⟨a9, c9, hcv⟩ := ho3.len
  refine bs_rule hw3 [vI (i.imm.toNat : Nat), vI 0, vI (i.a.toNat : Nat), cv] (by kernel_rfl) (fun bx w4 hw4 => ⟨sub3 (A := [_]) hw4, ?_⟩)
  let fe : FE := { S := S, c := cv, m := newF i f t.m.regs }
  have hfe : fe.ok := by
    unfold FE.ok
    have : fe.m.regs.length = f.regs.toNat := padd_len (by rw [hwl]; omega)
    rw [this]; exact ho3
  have hfrow : fe.row = [vI (i.imm.toNat : Nat), vI 0, vI (i.a.toNat : Nat), cv] := rfl
  have h4' : Ow B w4 (((bx, cel fe.row T.t_api_Frame) :: (S ++ [(bi, iO i), (s.b, stO (s.cell p))])) ++ s.Sf ++ (t.S ++ (ffoot lo ++ R))) := by rw [hSf, hfrow]; simpa using hw4
  refine Fro.app (rows := frw s.es) (r := fe.row) h4' hs.fro (src_here (.head _) (len := 1) (l := fe.row) rfl) (H' := [(bx, cel fe.row T.t_api_Frame)]) (fun y hy => ?_) ?_ und_slfrm info_frm rfl (by omega) ?_ (by omega) (fun Sf' v' w5 hw5 hfro => ?_)
  · rw [List.mem_singleton.1 hy]; exact List.mem_append_left _ (List.mem_append_left _ (.head _))
  · rw [hfrow, hcv]; rfl
  · rw [frw_len, he]; simp only [List.length_cons]; omega
  have h5s : Ow B w5 ((bi, iO i) :: (s.b, stO (s.cell p)) :: R) := by
    refine hw5.sub ?_
    have e9 : (bx, cel fe.row T.t_api_Frame) :: (S ++ [(bi, iO i), (s.b, stO (s.cell p))]) ++ Sf' ++ (t.S ++ (ffoot lo ++ R)) = ((bx, cel fe.row T.t_api_Frame) :: S) ++ ([(bi, iO i), (s.b, stO (s.cell p))] ++ (Sf' ++ (t.S ++ (ffoot lo ++ R)))) := by simp
    rw [e9]
    refine List.Sublist.trans ?_ (List.sublist_append_right _ _)
    refine (List.Sublist.refl [(bi, iO i), (s.b, stO (s.cell p))]).append ?_
    exact ((List.sublist_append_right _ _).trans (List.sublist_append_right _ _)).trans (List.sublist_append_right _ _)
  refine ⟨h5s, ?_⟩
  repeat (first | refine pu_not ?_ | refine pu_eql ?_ | refine pu_neq ?_ | refine pu_lss ?_ | refine pu_leq ?_ | refine pu_gtr ?_ | refine pu_geq ?_ | refine pu_add ?_ | refine pu_sub ?_ | refine pu_mul ?_ | refine pu_neg ?_ | refine fa_at ?_ | refine nl_ptr ?_ | refine ex20 ?_ | refine ex21 ?_ | refine ex30 ?_ | refine ex31 ?_ | refine ex32 ?_ | refine ln_rule ?_ | refine lnT_rule ?_ | refine pu_and ?_ | refine pu_or ?_ | refine pu_xor ?_ | refine pu_seq ?_ | refine pu_sne ?_)
  obtain ⟨a10, c10, hv', _⟩ := hfro.len
  have h6 : Ow B w5 (((bx, cel fe.row T.t_api_Frame) :: (S ++ [(bi, iO i)])) ++ (s.b, stO (s.cell p)) :: (Sf' ++ (t.S ++ (ffoot lo ++ R)))) := by simpa using hw5
  refine st1_here h6 (by rw [hv']; rfl) (by rw [hv']; rfl) (by simp [SK.cell]) (fun w6 hw6 => ?_)
  refine k { b := s.b, vF := s.vF, vfr := v', Sf := Sf', es := fe :: s.es, res := s.res } w6 rfl rfl rfl rfl ⟨hs.hf, ?_, ?_, ?_⟩ ?_
  · rw [frw_cons]; exact hfro
  · intro e hem
    rcases List.mem_cons.1 hem with rfl | hem
    · exact hfe
    · exact hs.eok e hem
  · show (fe :: s.es).length < 1000
    rw [he]; simp only [List.length_cons]; omega
  · have e10 : (s.cell p).set (0 + 4) v' = SK.cell p { b := s.b, vF := s.vF, vfr := v', Sf := Sf', es := fe :: s.es, res := s.res } := rfl
    rw [e10] at hw6
    have h7 : Ow B w6 (S ++ ((s.b, stO (SK.cell p { b := s.b, vF := s.vF, vfr := v', Sf := Sf', es := fe :: s.es, res := s.res })) :: (Sf' ++ (t.S ++ (ffoot lo ++ R))))) := by
      have := Ow.drop (p := (bx, cel fe.row T.t_api_Frame)) hw6
      refine this.sub ?_
      show List.Sublist _ ((S ++ [(bi, iO i)]) ++ _)
      rw [List.append_assoc]
      exact (List.Sublist.refl S).append (.cons _ (.refl _))
    have hff : ffoot (fe :: s.es) = S ++ (t.S ++ ffoot lo) := by rw [he]; rfl
    unfold SK.hp
    simp only [hff]
    refine h7.perm ?_
    have p1 := List.perm_middle (a := (s.b, stO (SK.cell p { b := s.b, vF := s.vF, vfr := v', Sf := Sf', es := fe :: s.es, res := s.res }))) (l₁ := S) (l₂ := Sf' ++ (t.S ++ (ffoot lo ++ R)))
    refine p1.trans ?_
    simp only [List.cons_append, List.append_assoc]
    exact (List.perm_append_comm_assoc S Sf' _).cons _
end
end Go.Proofs.YtkkkcafkepnecaaGreat
