/- Stacks: the instruction at the top; calls; returns. -/
import Derived.Test.YtkkkcafkepnecaaGreatZD
import Derived.Test.YtkkkcafkepnecaaGreatZC
import Derived.Test.YtkkkcafkepnecaaGreatFC

set_option linter.unusedVariables false
set_option linter.unusedSimpArgs false
namespace Go.Proofs.YtkkkcafkepnecaaGreat
open Go Go.RowKit Vc Ar
attribute [local irreducible] binV Op.unary convert nlW faW ldS ldW ixS ixA ixV ixT exW lnS lnT pu stW alW opW opU bsW mkW

section
variable {B w : World} {H X F Q R : Hp} {K : Value → World → Prop} {PK : List PanicEntry → World → Prop} {KK : Value → Prop} {e : Int} {b n cap g : Nat} {c pre post : List Value} {t : FE} {i : Ins} {p : Pr}
theorem usz : ∃ i, PG.info? T.t_uint32 = some i ∧ i.size = 1 := by
  obtain ⟨i, h1, _, h3, _⟩ := info_of info_u
  exact ⟨i, h1, h3⟩
/-- A stack as it lies in memory. -/
structure SK where
  b : Nat
  vF : Value
  vfr : Value
  Sf : Hp
  es : List FE
  res : Int
def SK.cell (p : Pr) (s : SK) : List Value := [s.vF, vI p.mu, vI p.rw, vI p.gr, s.vfr, vU s.res, vB true]
def SK.hp (p : Pr) (s : SK) : Hp := (s.b, stO (s.cell p)) :: (s.Sf ++ ffoot s.es)
structure SK.ok (p : Pr) (F : Hp) (s : SK) : Prop where
  hf : fsIn F s.vF p.fs
  fro : Fro T.t_api_Frame 4 s.Sf s.vfr (frw s.es)
  eok : ∀ e ∈ s.es, e.ok
  len : s.es.length < 1000
def SK.frs (s : SK) : List Frm := s.es.map FE.m
variable {s : SK} {lo : List FE}
theorem row4 (t : FE) : t.row.length = 4 := rfl
/-- The view of a stack that has a top. -/
theorem SK.view (hs : s.ok p F) (he : s.es = t :: lo) : ∃ g pre post cap, Vw (s.cell p) pre g lo.length cap ∧ s.Sf = [(g, frO pre t.row post)] ∧ s.vfr = .slice (some ⟨g, 0, none⟩) (lo.length + 1) cap ∧ (∀ R, s.hp p ++ R = VH s.b g (s.cell p) pre post t (ffoot lo ++ R)) ∧
    ∀ t' : FE, Fro T.t_api_Frame 4 [(g, frO pre t'.row post)] s.vfr (frw (t' :: lo)) := by
  have hfr := hs.fro
  rw [he, frw_cons] at hfr
  obtain ⟨g, pre, post, cap, e1, e2, e3, e4⟩ := hfr.top
  rw [frw_len] at e1 e3
  have hl := hs.len
  rw [he] at hl
  simp only [List.length_cons] at hl
  refine ⟨g, pre, post, cap, ⟨by rw [← e1]; rfl, rfl, e3, by omega⟩, e2, e1, fun R => ?_, fun t' => ?_⟩
  · unfold SK.hp
    rw [he, e2]
    simp [ffoot]
  · rw [frw_cons]; exact e4 _ rfl
/-- The instruction at the top. -/
theorem sins_spec {f : Fun} (hs : s.ok p F) (he : s.es = t :: lo) (hF : ∀ x, x ∈ F → x ∈ R) (h1 : p.fs[t.m.fn]? = some f) (h2 : f.code[t.m.pc]? = some i) (h : Ow B w (s.hp p ++ R)) (k : ∀ w', Ow B w' (s.hp p ++ R) → K (.agg i.cells.toArray) w') : callW PG N.stack_Stack_ins [ptr s.b] K PK w := by
  refine stack_Stack_ins.ok ?_
  unfold stack_Stack_ins.C
  obtain ⟨g, pre, post, cap, hv, _, _, hh, _⟩ := SK.view hs he
  rw [hh] at h k
  refine al_rule h (l := (bare 0).cells) zins (fun bi w1 hw1 => ?_)
  refine vtop1 hv hw1 (fun w2 hw2 => ?_)
  refine ⟨fun w => Ow B w ((bi, cel (bare 0).cells T.t_api_Ins) :: VH s.b g (s.cell p) pre post t (ffoot lo ++ R)), hw2.drew, ?_⟩
  have hX : ∀ x, x ∈ F → x ∈ (bi, cel (bare 0).cells T.t_api_Ins) :: VH s.b g (s.cell p) pre post t (ffoot lo ++ R) := fun x hx => .tail _ (.tail _ (.tail _ (List.mem_append_right _ (List.mem_append_right _ (hF x hx)))))
  have hlt := (List.getElem?_eq_some_iff.1 h1).1
  obtain ⟨ps, cc, f', f1, f2, f3, f4, f5⟩ := hs.hf.at (n := (t.m.fn : Int)) (by omega) (by omega)
  rw [Int.toNat_natCast, h1] at f1
  cases f1
  repeat (first | refine pu_not ?_ | refine pu_eql ?_ | refine pu_neq ?_ | refine pu_lss ?_ | refine pu_leq ?_ | refine pu_gtr ?_ | refine pu_geq ?_ | refine pu_add ?_ | refine pu_sub ?_ | refine pu_mul ?_ | refine pu_neg ?_ | refine fa_at ?_ | refine nl_ptr ?_ | refine ex20 ?_ | refine ex21 ?_ | refine ex30 ?_ | refine ex31 ?_ | refine ex32 ?_ | refine ln_rule ?_ | refine lnT_rule ?_ | refine pu_and ?_ | refine pu_or ?_ | refine pu_xor ?_ | refine pu_seq ?_ | refine pu_sne ?_)
  refine lds_here (fun w h => h) (.tail _ (.head _)) (v := s.vF) rfl ?_
  repeat (first | refine pu_not ?_ | refine pu_eql ?_ | refine pu_neq ?_ | refine pu_lss ?_ | refine pu_leq ?_ | refine pu_gtr ?_ | refine pu_geq ?_ | refine pu_add ?_ | refine pu_sub ?_ | refine pu_mul ?_ | refine pu_neg ?_ | refine fa_at ?_ | refine nl_ptr ?_ | refine ex20 ?_ | refine ex21 ?_ | refine ex30 ?_ | refine ex31 ?_ | refine ex32 ?_ | refine ln_rule ?_ | refine lnT_rule ?_ | refine pu_and ?_ | refine pu_or ?_ | refine pu_xor ?_ | refine pu_seq ?_ | refine pu_sne ?_)
  refine lds_here (fun w h => h) mem_g (row_at hv.pl (v := vI t.m.fn) rfl) ?_
  refine sls_flds (fun w h => h) (f2.mono hX) (by omega) f3 (j := 1) (v := cc) rfl ?_
  repeat (first | refine pu_not ?_ | refine pu_eql ?_ | refine pu_neq ?_ | refine pu_lss ?_ | refine pu_leq ?_ | refine pu_gtr ?_ | refine pu_geq ?_ | refine pu_add ?_ | refine pu_sub ?_ | refine pu_mul ?_ | refine pu_neg ?_ | refine fa_at ?_ | refine nl_ptr ?_ | refine ex20 ?_ | refine ex21 ?_ | refine ex30 ?_ | refine ex31 ?_ | refine ex32 ?_ | refine ln_rule ?_ | refine lnT_rule ?_ | refine pu_and ?_ | refine pu_or ?_ | refine pu_xor ?_ | refine pu_seq ?_ | refine pu_sne ?_)
  refine lds_here (fun w h => h) mem_g (row_at hv.pl (v := vI t.m.pc) rfl) ?_
  refine sls_lds (fun w h => h) (f4.mono hX) (by omega) (code_at h2) ?_
  refine st_here (A := []) hw2.drew i.cells rfl rfl (ins_plain _) (by simp [Ins.cells]) (fun w3 hw3 => ?_)
  have e3 : (bare 0).cells.take 0 ++ i.cells ++ (bare 0).cells.drop (0 + 5) = i.cells := rfl
  rw [e3] at hw3
  refine ldn_here hw3 (.head _) (vs := i.cells) rfl rfl ?_
  exact k _ (Ow.drop hw3)
/-- A frame that a call enters. -/
def newF (i : Ins) (f : Fun) (regs : List Int) : Frm := ⟨i.imm.toNat, 0, i.a.toNat, padd ((regs.take (i.b + i.c).toNat).drop i.b.toNat) f.regs.toNat⟩
set_option maxRecDepth 20000 in
theorem calls_spec {f : Fun} (hs : s.ok p F) (he : s.es = t :: lo) (hF : ∀ x, x ∈ F → x ∈ R) (him : 0 ≤ i.imm ∧ i.imm < 4294967296) (ha : 0 ≤ i.a) (hb0 : 0 ≤ i.b) (hc0 : 0 ≤ i.c) (hbc : i.b + i.c ≤ t.m.regs.length)
    (hf : p.fs[i.imm.toNat]? = some f) (hcf : i.c ≤ f.regs) (hfr : f.regs ≤ 16) (hlen : lo.length + 2 < 1000) (hrl : t.m.regs.length < 1000000) (h : Ow B w (s.hp p ++ R))
    (k : ∀ (s' : SK) w', s'.b = s.b → s'.vF = s.vF → s'.res = s.res → s'.frs = newF i f t.m.regs :: s.frs → s'.ok p F → Ow B w' (s'.hp p ++ R) → K (.tuple #[]) w') : callW PG N.stack_Stack_calls [ptr s.b, .agg i.cells.toArray] K PK w := by
  refine stack_Stack_calls.ok ?_
  unfold stack_Stack_calls.C
  obtain ⟨g, pre, post, cap, hv, hSf, hvfr, hh, hup⟩ := SK.view hs he
  have hto : t.ok := hs.eok t (by rw [he]; exact .head _)
  have hflo : f.regs = ((f.regs.toNat : Nat) : Int) := by omega
  rw [hh] at h
  refine al_rule h (l := i.cells) rfl (fun bi w1 hw1 => ?_)
  refine ⟨fun w => Ow B w ((bi, iO i) :: VH s.b g (s.cell p) pre post t (ffoot lo ++ R)), hw1.drew, ?_⟩
  repeat (first | refine pu_not ?_ | refine pu_eql ?_ | refine pu_neq ?_ | refine pu_lss ?_ | refine pu_leq ?_ | refine pu_gtr ?_ | refine pu_geq ?_ | refine pu_add ?_ | refine pu_sub ?_ | refine pu_mul ?_ | refine pu_neg ?_ | refine fa_at ?_ | refine nl_ptr ?_ | refine ex20 ?_ | refine ex21 ?_ | refine ex30 ?_ | refine ex31 ?_ | refine ex32 ?_ | refine ln_rule ?_ | refine lnT_rule ?_ | refine pu_and ?_ | refine pu_or ?_ | refine pu_xor ?_ | refine pu_seq ?_ | refine pu_sne ?_)
  refine lds_here (fun w h => h) (.head _) (v := vI i.b) rfl ?_
  repeat (first | refine pu_not ?_ | refine pu_eql ?_ | refine pu_neq ?_ | refine pu_lss ?_ | refine pu_leq ?_ | refine pu_gtr ?_ | refine pu_geq ?_ | refine pu_add ?_ | refine pu_sub ?_ | refine pu_mul ?_ | refine pu_neg ?_ | refine fa_at ?_ | refine nl_ptr ?_ | refine ex20 ?_ | refine ex21 ?_ | refine ex30 ?_ | refine ex31 ?_ | refine ex32 ?_ | refine ln_rule ?_ | refine lnT_rule ?_ | refine pu_and ?_ | refine pu_or ?_ | refine pu_xor ?_ | refine pu_seq ?_ | refine pu_sne ?_)
  refine lds_here (fun w h => h) (.head _) (v := vI i.b) rfl ?_
  repeat (first | refine pu_not ?_ | refine pu_eql ?_ | refine pu_neq ?_ | refine pu_lss ?_ | refine pu_leq ?_ | refine pu_gtr ?_ | refine pu_geq ?_ | refine pu_add ?_ | refine pu_sub ?_ | refine pu_mul ?_ | refine pu_neg ?_ | refine fa_at ?_ | refine nl_ptr ?_ | refine ex20 ?_ | refine ex21 ?_ | refine ex30 ?_ | refine ex31 ?_ | refine ex32 ?_ | refine ln_rule ?_ | refine lnT_rule ?_ | refine pu_and ?_ | refine pu_or ?_ | refine pu_xor ?_ | refine pu_seq ?_ | refine pu_sne ?_)
  refine lds_here (fun w h => h) (.head _) (v := vI i.c) rfl ?_
  repeat (first | refine pu_not ?_ | refine pu_eql ?_ | refine pu_neq ?_ | refine pu_lss ?_ | refine pu_leq ?_ | refine pu_gtr ?_ | refine pu_geq ?_ | refine pu_add ?_ | refine pu_sub ?_ | refine pu_mul ?_ | refine pu_neg ?_ | refine fa_at ?_ | refine nl_ptr ?_ | refine ex20 ?_ | refine ex21 ?_ | refine ex30 ?_ | refine ex31 ?_ | refine ex32 ?_ | refine ln_rule ?_ | refine lnT_rule ?_ | refine pu_and ?_ | refine pu_or ?_ | refine pu_xor ?_ | refine pu_seq ?_ | refine pu_sne ?_)
  refine lds_here (fun w h => h) (.head _) (v := vI i.b) rfl ?_
  repeat (first | refine pu_not ?_ | refine pu_eql ?_ | refine pu_neq ?_ | refine pu_lss ?_ | refine pu_leq ?_ | refine pu_gtr ?_ | refine pu_geq ?_ | refine pu_add ?_ | refine pu_sub ?_ | refine pu_mul ?_ | refine pu_neg ?_ | refine fa_at ?_ | refine nl_ptr ?_ | refine ex20 ?_ | refine ex21 ?_ | refine ex30 ?_ | refine ex31 ?_ | refine ex32 ?_ | refine ln_rule ?_ | refine lnT_rule ?_ | refine pu_and ?_ | refine pu_or ?_ | refine pu_xor ?_ | refine pu_seq ?_ | refine pu_sne ?_)
  refine lds_here (fun w h => h) (.head _) (v := vI i.c) rfl ?_
  repeat (first | refine pu_not ?_ | refine pu_eql ?_ | refine pu_neq ?_ | refine pu_lss ?_ | refine pu_leq ?_ | refine pu_gtr ?_ | refine pu_geq ?_ | refine pu_add ?_ | refine pu_sub ?_ | refine pu_mul ?_ | refine pu_neg ?_ | refine fa_at ?_ | refine nl_ptr ?_ | refine ex20 ?_ | refine ex21 ?_ | refine ex30 ?_ | refine ex31 ?_ | refine ex32 ?_ | refine ln_rule ?_ | refine lnT_rule ?_ | refine pu_and ?_ | refine pu_or ?_ | refine pu_xor ?_ | refine pu_seq ?_ | refine pu_sne ?_)
  rw [wrap64_in (by omega) (by omega)]
  refine vtop1 hv hw1.drew (fun w2 hw2 => ⟨hw2, ?_⟩)
  repeat (first | refine pu_not ?_ | refine pu_eql ?_ | refine pu_neq ?_ | refine pu_lss ?_ | refine pu_leq ?_ | refine pu_gtr ?_ | refine pu_geq ?_ | refine pu_add ?_ | refine pu_sub ?_ | refine pu_mul ?_ | refine pu_neg ?_ | refine fa_at ?_ | refine nl_ptr ?_ | refine ex20 ?_ | refine ex21 ?_ | refine ex30 ?_ | refine ex31 ?_ | refine ex32 ?_ | refine ln_rule ?_ | refine lnT_rule ?_ | refine pu_and ?_ | refine pu_or ?_ | refine pu_xor ?_ | refine pu_seq ?_ | refine pu_sne ?_)
  refine lds_here (fun w h => h) mem_g (row_at hv.pl row3) ?_
  obtain ⟨a0, cc0, htc, hcc⟩ := Sl.cap (Vc.Own.sl hto)
  have hrl2 : (rgs t.m.regs).length = t.m.regs.length := by simp [rgs]
  rw [hrl2] at hcc htc
  rw [htc]
  refine pu_cutLHM und_slu usz hb0 (by omega) (by omega) (by omega) ?_
  rw [← htc]
  have hcut : Sl t.S (Vc.cut t.c i.b.toNat (i.b + i.c).toNat (i.b + i.c).toNat) (rgs ((t.m.regs.take (i.b + i.c).toNat).drop i.b.toNat)) := by
    have := sl_cut (l := i.b.toNat) (h := (i.b + i.c).toNat) (m := (i.b + i.c).toNat) (Vc.Own.sl hto) (by omega) (by rw [hrl2]; omega) (by omega)
    rwa [← List.map_take, ← List.map_drop] at this
  generalize Vc.cut t.c i.b.toNat (i.b + i.c).toNat (i.b + i.c).toNat = av at hcut ⊢
  refine ⟨fun w => Ow B w ((bi, iO i) :: (s.b, stO (s.cell p)) :: R), ?_, ?_⟩
  · exact hw2.drew.sub (.cons_cons _ (.cons_cons _ (.cons _ ((List.sublist_append_right _ _).trans (List.sublist_append_right _ _)))))
  have hX : ∀ x, x ∈ F → x ∈ (bi, iO i) :: (s.b, stO (s.cell p)) :: R := fun x hx => .tail _ (.tail _ (hF x hx))
  have hlt := (List.getElem?_eq_some_iff.1 hf).1
  obtain ⟨ps, cc, f', f1, f2, f3, f4, f5⟩ := hs.hf.at (n := i.imm) him.1 (by omega)
  rw [hf] at f1
  cases f1
  repeat (first | refine pu_not ?_ | refine pu_eql ?_ | refine pu_neq ?_ | refine pu_lss ?_ | refine pu_leq ?_ | refine pu_gtr ?_ | refine pu_geq ?_ | refine pu_add ?_ | refine pu_sub ?_ | refine pu_mul ?_ | refine pu_neg ?_ | refine fa_at ?_ | refine nl_ptr ?_ | refine ex20 ?_ | refine ex21 ?_ | refine ex30 ?_ | refine ex31 ?_ | refine ex32 ?_ | refine ln_rule ?_ | refine lnT_rule ?_ | refine pu_and ?_ | refine pu_or ?_ | refine pu_xor ?_ | refine pu_seq ?_ | refine pu_sne ?_)
  refine lds_here (fun w h => h) (.tail _ (.head _)) (v := s.vfr) rfl ?_
  repeat (first | refine pu_not ?_ | refine pu_eql ?_ | refine pu_neq ?_ | refine pu_lss ?_ | refine pu_leq ?_ | refine pu_gtr ?_ | refine pu_geq ?_ | refine pu_add ?_ | refine pu_sub ?_ | refine pu_mul ?_ | refine pu_neg ?_ | refine fa_at ?_ | refine nl_ptr ?_ | refine ex20 ?_ | refine ex21 ?_ | refine ex30 ?_ | refine ex31 ?_ | refine ex32 ?_ | refine ln_rule ?_ | refine lnT_rule ?_ | refine pu_and ?_ | refine pu_or ?_ | refine pu_xor ?_ | refine pu_seq ?_ | refine pu_sne ?_)
  refine lds_here (fun w h => h) (.head _) (v := vU i.imm) rfl ?_
  refine cvt (by kernel_rfl) und_int (m := i.imm) (by rw [wrap64_in (by omega) (by omega)]) ?_
  repeat (first | refine pu_not ?_ | refine pu_eql ?_ | refine pu_neq ?_ | refine pu_lss ?_ | refine pu_leq ?_ | refine pu_gtr ?_ | refine pu_geq ?_ | refine pu_add ?_ | refine pu_sub ?_ | refine pu_mul ?_ | refine pu_neg ?_ | refine fa_at ?_ | refine nl_ptr ?_ | refine ex20 ?_ | refine ex21 ?_ | refine ex30 ?_ | refine ex31 ?_ | refine ex32 ?_ | refine ln_rule ?_ | refine lnT_rule ?_ | refine pu_and ?_ | refine pu_or ?_ | refine pu_xor ?_ | refine pu_seq ?_ | refine pu_sne ?_)
  refine lds_here (fun w h => h) (.tail _ (.head _)) (v := s.vF) rfl ?_
  repeat (first | refine pu_not ?_ | refine pu_eql ?_ | refine pu_neq ?_ | refine pu_lss ?_ | refine pu_leq ?_ | refine pu_gtr ?_ | refine pu_geq ?_ | refine pu_add ?_ | refine pu_sub ?_ | refine pu_mul ?_ | refine pu_neg ?_ | refine fa_at ?_ | refine nl_ptr ?_ | refine ex20 ?_ | refine ex21 ?_ | refine ex30 ?_ | refine ex31 ?_ | refine ex32 ?_ | refine ln_rule ?_ | refine lnT_rule ?_ | refine pu_and ?_ | refine pu_or ?_ | refine pu_xor ?_ | refine pu_seq ?_ | refine pu_sne ?_)
  refine lds_here (fun w h => h) (.head _) (v := vU i.imm) rfl ?_
  refine sls_flds (fun w h => h) (f2.mono hX) him.1 f3 (j := 0) (v := vI f.regs) rfl ?_
  repeat (first | refine pu_not ?_ | refine pu_eql ?_ | refine pu_neq ?_ | refine pu_lss ?_ | refine pu_leq ?_ | refine pu_gtr ?_ | refine pu_geq ?_ | refine pu_add ?_ | refine pu_sub ?_ | refine pu_mul ?_ | refine pu_neg ?_ | refine fa_at ?_ | refine nl_ptr ?_ | refine ex20 ?_ | refine ex21 ?_ | refine ex30 ?_ | refine ex31 ?_ | refine ex32 ?_ | refine ln_rule ?_ | refine lnT_rule ?_ | refine pu_and ?_ | refine pu_or ?_ | refine pu_xor ?_ | refine pu_seq ?_ | refine pu_sne ?_)
  refine lds_here (fun w h => h) (.head _) (v := vI i.a) rfl ?_
  have e1 : i.imm = ((i.imm.toNat : Nat) : Int) := by omega
  have e2 : i.a = ((i.a.toNat : Nat) : Int) := by omega
  have harg : [vI i.imm, vI f.regs, vI i.a, av] = [vI (i.imm.toNat : Nat), vI (f.regs.toNat : Nat), vI (i.a.toNat : Nat), av] := by rw [← e1, ← e2, ← hflo]
  rw [harg]
  have hwl : ((t.m.regs.take (i.b + i.c).toNat).drop i.b.toNat).length = i.c.toNat := by rw [List.length_drop, List.length_take]; omega
  refine entered_spec hw2.drew hcut (fun x hx => mem_S x hx) (by rw [hwl]; omega) (by omega) (fun S cv w3 hw3 ho3 => ?_)
  have sub3 : ∀ {A : Hp} {w : World}, Ow B w (A ++ (S ++ (bi, iO i) :: VH s.b g (s.cell p) pre post t (ffoot lo ++ R))) → Ow B w ((bi, iO i) :: (s.b, stO (s.cell p)) :: R) := fun h => h.sub (((List.Sublist.cons_cons _ (.cons_cons _ (.cons _ ((List.sublist_append_right _ _).trans (List.sublist_append_right _ _))))).trans (List.sublist_append_right S _)).trans (List.sublist_append_right _ _))
  refine ⟨sub3 (A := []) hw3, ?_⟩
  obtain ⟨a9, c9, hcv⟩ := ho3.len
  refine bs_rule hw3 [vI (i.imm.toNat : Nat), vI 0, vI (i.a.toNat : Nat), cv] (by kernel_rfl) (fun bx w4 hw4 => ⟨sub3 (A := [_]) hw4, ?_⟩)
  let fe : FE := { S := S, c := cv, m := newF i f t.m.regs }
  have hfe : fe.ok := by
    unfold FE.ok
    have : fe.m.regs.length = f.regs.toNat := padd_len (by rw [hwl]; omega)
    rw [this]; exact ho3
  have hfrow : fe.row = [vI (i.imm.toNat : Nat), vI 0, vI (i.a.toNat : Nat), cv] := rfl
  have h4' : Ow B w4 (((bx, cel fe.row T.t_api_Frame) :: (S ++ [(bi, iO i), (s.b, stO (s.cell p))])) ++ s.Sf ++ (t.S ++ (ffoot lo ++ R))) := by rw [hSf, hfrow]; simpa using hw4
  refine Fro.app (rows := frw s.es) (r := fe.row) h4' hs.fro (src_here (.head _) (len := 1) (l := fe.row) rfl) (H' := [(bx, cel fe.row T.t_api_Frame)]) (fun y hy => ?_) ?_ und_slfrm info_frm rfl (by omega) ?_ (by omega) (fun Sf' v' w5 hw5 hfro => ?_)
  · rw [List.mem_singleton.1 hy]; exact List.mem_append_left _ (List.mem_append_left _ (.head _))
  · rw [hfrow, hcv]; rfl
  · rw [frw_len, he]; simp only [List.length_cons]; omega
  have h5s : Ow B w5 ((bi, iO i) :: (s.b, stO (s.cell p)) :: R) := by
    refine hw5.sub ?_
    have e9 : (bx, cel fe.row T.t_api_Frame) :: (S ++ [(bi, iO i), (s.b, stO (s.cell p))]) ++ Sf' ++ (t.S ++ (ffoot lo ++ R)) = ((bx, cel fe.row T.t_api_Frame) :: S) ++ ([(bi, iO i), (s.b, stO (s.cell p))] ++ (Sf' ++ (t.S ++ (ffoot lo ++ R)))) := by simp
    rw [e9]
    refine List.Sublist.trans ?_ (List.sublist_append_right _ _)
    refine (List.Sublist.refl [(bi, iO i), (s.b, stO (s.cell p))]).append ?_
    exact ((List.sublist_append_right _ _).trans (List.sublist_append_right _ _)).trans (List.sublist_append_right _ _)
  refine ⟨h5s, ?_⟩
  repeat (first | refine pu_not ?_ | refine pu_eql ?_ | refine pu_neq ?_ | refine pu_lss ?_ | refine pu_leq ?_ | refine pu_gtr ?_ | refine pu_geq ?_ | refine pu_add ?_ | refine pu_sub ?_ | refine pu_mul ?_ | refine pu_neg ?_ | refine fa_at ?_ | refine nl_ptr ?_ | refine ex20 ?_ | refine ex21 ?_ | refine ex30 ?_ | refine ex31 ?_ | refine ex32 ?_ | refine ln_rule ?_ | refine lnT_rule ?_ | refine pu_and ?_ | refine pu_or ?_ | refine pu_xor ?_ | refine pu_seq ?_ | refine pu_sne ?_)
  obtain ⟨a10, c10, hv', _⟩ := hfro.len
  have h6 : Ow B w5 (((bx, cel fe.row T.t_api_Frame) :: (S ++ [(bi, iO i)])) ++ (s.b, stO (s.cell p)) :: (Sf' ++ (t.S ++ (ffoot lo ++ R)))) := by simpa using hw5
  refine st1_here h6 (by rw [hv']; rfl) (by rw [hv']; rfl) (by simp [SK.cell]) (fun w6 hw6 => ?_)
  refine k { b := s.b, vF := s.vF, vfr := v', Sf := Sf', es := fe :: s.es, res := s.res } w6 rfl rfl rfl rfl ⟨hs.hf, ?_, ?_, ?_⟩ ?_
  · rw [frw_cons]; exact hfro
  · intro e hem
    rcases List.mem_cons.1 hem with rfl | hem
    · exact hfe
    · exact hs.eok e hem
  · show (fe :: s.es).length < 1000
    rw [he]; simp only [List.length_cons]; omega
  · have e10 : (s.cell p).set (0 + 4) v' = SK.cell p { b := s.b, vF := s.vF, vfr := v', Sf := Sf', es := fe :: s.es, res := s.res } := rfl
    rw [e10] at hw6
    have h7 : Ow B w6 (S ++ ((s.b, stO (SK.cell p { b := s.b, vF := s.vF, vfr := v', Sf := Sf', es := fe :: s.es, res := s.res })) :: (Sf' ++ (t.S ++ (ffoot lo ++ R))))) := by
      have := Ow.drop (p := (bx, cel fe.row T.t_api_Frame)) hw6
      refine this.sub ?_
      show List.Sublist _ ((S ++ [(bi, iO i)]) ++ _)
      rw [List.append_assoc]
      exact (List.Sublist.refl S).append (.cons _ (.refl _))
    have hff : ffoot (fe :: s.es) = S ++ (t.S ++ ffoot lo) := by rw [he]; rfl
    unfold SK.hp
    simp only [hff]
    refine h7.perm ?_
    have p1 := List.perm_middle (a := (s.b, stO (SK.cell p { b := s.b, vF := s.vF, vfr := v', Sf := Sf', es := fe :: s.es, res := s.res }))) (l₁ := S) (l₂ := Sf' ++ (t.S ++ (ffoot lo ++ R)))
    refine p1.trans ?_
    simp only [List.cons_append, List.append_assoc]
    exact (List.perm_append_comm_assoc S Sf' _).cons _
end
end Go.Proofs.YtkkkcafkepnecaaGreat

/-! Stacks: returns. -/
set_option linter.unusedVariables false
set_option linter.unusedSimpArgs false
namespace Go.Proofs.YtkkkcafkepnecaaGreat
open Go Go.RowKit Vc Ar
attribute [local irreducible] binV Op.unary convert nlW faW ldS ldW ixS ixA ixV ixT exW lnS lnT pu stW alW opW opU bsW mkW

section
theorem pu_cutHM {P : Program} {t e : TypeId} {K : Value → Prop} {a : Option Addr} {n c : Nat} {h m : Int} (ht : P.underlying t = some (.slice e)) (hi : ∃ i, P.info? e = some i) (h0 : 0 ≤ h) (h2 : h ≤ m) (h3 : m ≤ c) (k : K (Vc.cut (.slice a n c) 0 h.toNat m.toNat)) :
    pu P (Instr.sliceAt t (.slice a n c) none (some (.int .i64 h)) (some (.int .i64 m))) K := by
  obtain ⟨i, hi⟩ := hi
  refine pu_of (fun w => ?_) k
  simp only [Instr.sliceAt, Instr.slice, Sem.run_bind, run_und ht, Result.andThen, Instr.sliceBounds, Sem.run_pure, slb (P := P) (n := m) (y := c) (by omega) h3, slb (P := P) (n := h) (y := m.toNat) (by omega) (by omega), run_size hi, Nat.zero_mul, Option.isSome, Vc.cut, if_true]
theorem frmi : ∃ i, PG.info? T.t_api_Frame = some i := by
  obtain ⟨i, h1, _⟩ := info_of info_frm
  exact ⟨i, h1⟩
variable {B w : World} {H X F Q R : Hp} {K : Value → World → Prop} {PK : List PanicEntry → World → Prop} {KK : Value → Prop} {e : Int} {b n cap g : Nat} {c pre post : List Value} {t u : FE} {i : Ins} {p : Pr} {s : SK} {lo : List FE}
set_option maxRecDepth 20000 in
theorem returns_spec (hs : s.ok p F) (he : s.es = t :: lo) (hd : ∀ u lo', lo = u :: lo' → t.m.dest < u.m.regs.length) (ha : 0 ≤ i.a) (ha1 : i.a < t.m.regs.length) (h : Ow B w (s.hp p ++ R))
    (k : ∀ (s' : SK) w', s'.b = s.b → s'.vF = s.vF → ((lo = [] ∧ s'.res = regR t.m.regs i.a ∧ s'.frs = []) ∨ ∃ u lo', lo = u :: lo' ∧ s'.res = s.res ∧ s'.frs = { u.m with regs := u.m.regs.set t.m.dest (regR t.m.regs i.a) } :: lo'.map FE.m) → s'.ok p F → Ow B w' (s'.hp p ++ R) → K (.tuple #[]) w') : callW PG N.stack_Stack_returns [ptr s.b, .agg i.cells.toArray] K PK w := by
  refine stack_Stack_returns.ok ?_
  unfold stack_Stack_returns.C
  obtain ⟨g, pre, post, cap, hv, hSf, hvfr, hh, hup⟩ := SK.view hs he
  have hto : t.ok := hs.eok t (by rw [he]; exact .head _)
  have hlen := hs.len
  rw [he] at hlen
  simp only [List.length_cons] at hlen
  rw [hh] at h
  refine al_rule h (l := i.cells) rfl (fun bi w1 hw1 => ?_)
  refine vtop1 hv hw1 (fun w2 hw2 => ?_)
  repeat (first | refine pu_not ?_ | refine pu_eql ?_ | refine pu_neq ?_ | refine pu_lss ?_ | refine pu_leq ?_ | refine pu_gtr ?_ | refine pu_geq ?_ | refine pu_add ?_ | refine pu_sub ?_ | refine pu_mul ?_ | refine pu_neg ?_ | refine fa_at ?_ | refine nl_ptr ?_ | refine ex20 ?_ | refine ex21 ?_ | refine ex30 ?_ | refine ex31 ?_ | refine ex32 ?_ | refine ln_rule ?_ | refine lnT_rule ?_ | refine pu_and ?_ | refine pu_or ?_ | refine pu_xor ?_ | refine pu_seq ?_ | refine pu_sne ?_)
  have hrw : ((pre ++ (t.row ++ post)).drop (lo.length * 4)).take 4 = t.row := by
    rw [← hv.pl, List.drop_left]; exact List.take_left' rfl
  refine ldn_here hw2 mem_g (vs := t.row) hrw rfl ?_
  refine al_rule hw2 (l := zfrm) (by kernel_rfl) (fun bf w3 hw3 => ?_)
  obtain ⟨a0, cc0, htc⟩ := t_len hto
  refine st_here (A := []) hw3 t.row rfl rfl (by simp only [FE.row, frow, htc]; rfl) (by simp) (fun w4 hw4 => ?_)
  simp only [List.take_zero, List.nil_append, Nat.zero_add, List.drop_succ_cons, List.drop_zero, List.drop_nil, List.append_nil] at hw4
  have hfr := hs.fro
  rw [he, frw_cons] at hfr
  obtain ⟨ac, cc1, hvf, hcc1, hfro⟩ := hfr.pop
  rw [frw_len] at hvf hcc1 hfro
  refine ⟨fun w => Ow B w ((bf, cel t.row T.t_api_Frame) :: (bi, iO i) :: VH s.b g (s.cell p) pre post t (ffoot lo ++ R)), hw4.drew, ?_⟩
  have gv : ∀ {X : Value → Prop}, X s.vfr → ldS none (ptr s.b (0 + 4)) (fun w => Ow B w ((bf, cel t.row T.t_api_Frame) :: (bi, iO i) :: VH s.b g (s.cell p) pre post t (ffoot lo ++ R))) X := fun k => lds_here (fun w h => h) (.tail _ (.tail _ (.head _))) (v := s.vfr) rfl k
  have gl : ∀ {X : Value → Prop}, X (vI (lo.length : Nat)) → lnS s.vfr fun t20 => pu PG (binV .sub T.t_int true t20 (.int .i64 1)) X := fun k => by
    rw [hvf]
    refine ln_rule (pu_sub ?_)
    have e2 : IntKind.i64.wrap (((lo.length + 1 : Nat) : Int) - 1) = (lo.length : Int) := by rw [wrap64_in (by omega) (by omega)]; omega
    rw [e2]; exact k
  repeat (first | refine pu_not ?_ | refine pu_eql ?_ | refine pu_neq ?_ | refine pu_lss ?_ | refine pu_leq ?_ | refine pu_gtr ?_ | refine pu_geq ?_ | refine pu_add ?_ | refine pu_sub ?_ | refine pu_mul ?_ | refine pu_neg ?_ | refine fa_at ?_ | refine nl_ptr ?_ | refine ex20 ?_ | refine ex21 ?_ | refine ex30 ?_ | refine ex31 ?_ | refine ex32 ?_ | refine ln_rule ?_ | refine lnT_rule ?_ | refine pu_and ?_ | refine pu_or ?_ | refine pu_xor ?_ | refine pu_seq ?_ | refine pu_sne ?_)
  refine gv ?_
  repeat (first | refine pu_not ?_ | refine pu_eql ?_ | refine pu_neq ?_ | refine pu_lss ?_ | refine pu_leq ?_ | refine pu_gtr ?_ | refine pu_geq ?_ | refine pu_add ?_ | refine pu_sub ?_ | refine pu_mul ?_ | refine pu_neg ?_ | refine fa_at ?_ | refine nl_ptr ?_ | refine ex20 ?_ | refine ex21 ?_ | refine ex30 ?_ | refine ex31 ?_ | refine ex32 ?_ | refine ln_rule ?_ | refine lnT_rule ?_ | refine pu_and ?_ | refine pu_or ?_ | refine pu_xor ?_ | refine pu_seq ?_ | refine pu_sne ?_)
  refine gv ?_
  refine gl ?_
  repeat (first | refine pu_not ?_ | refine pu_eql ?_ | refine pu_neq ?_ | refine pu_lss ?_ | refine pu_leq ?_ | refine pu_gtr ?_ | refine pu_geq ?_ | refine pu_add ?_ | refine pu_sub ?_ | refine pu_mul ?_ | refine pu_neg ?_ | refine fa_at ?_ | refine nl_ptr ?_ | refine ex20 ?_ | refine ex21 ?_ | refine ex30 ?_ | refine ex31 ?_ | refine ex32 ?_ | refine ln_rule ?_ | refine lnT_rule ?_ | refine pu_and ?_ | refine pu_or ?_ | refine pu_xor ?_ | refine pu_seq ?_ | refine pu_sne ?_)
  refine gv ?_
  refine gl ?_
  have gc : ∀ {X : Value → Prop}, X (Vc.cut s.vfr 0 lo.length lo.length) → pu PG (Instr.sliceAt T.t_sl_api_Frame s.vfr none (some (vI (lo.length : Nat))) (some (vI (lo.length : Nat)))) X := fun k => by
    rw [hvf] at k ⊢
    exact pu_cutHM und_slfrm frmi (by omega) (by omega) (by omega) (by simpa using k)
  refine gc ?_
  generalize Vc.cut s.vfr 0 lo.length lo.length = v2 at hfro
  obtain ⟨a2, c2, hv2, _, _⟩ := hfro.len
  rw [frw_len] at hv2
  repeat (first | refine pu_not ?_ | refine pu_eql ?_ | refine pu_neq ?_ | refine pu_lss ?_ | refine pu_leq ?_ | refine pu_gtr ?_ | refine pu_geq ?_ | refine pu_add ?_ | refine pu_sub ?_ | refine pu_mul ?_ | refine pu_neg ?_ | refine fa_at ?_ | refine nl_ptr ?_ | refine ex20 ?_ | refine ex21 ?_ | refine ex30 ?_ | refine ex31 ?_ | refine ex32 ?_ | refine ln_rule ?_ | refine lnT_rule ?_ | refine pu_and ?_ | refine pu_or ?_ | refine pu_xor ?_ | refine pu_seq ?_ | refine pu_sne ?_)
  refine st1_here (A := [_, _]) hw4.drew (by rw [hv2]; rfl) (by rw [hv2]; rfl) (by simp [SK.cell]) (fun w5 hw5 => ?_)
  have e5 : (s.cell p).set (0 + 4) v2 = SK.cell p { s with vfr := v2 } := rfl
  rw [e5] at hw5
  repeat (first | refine pu_not ?_ | refine pu_eql ?_ | refine pu_neq ?_ | refine pu_lss ?_ | refine pu_leq ?_ | refine pu_gtr ?_ | refine pu_geq ?_ | refine pu_add ?_ | refine pu_sub ?_ | refine pu_mul ?_ | refine pu_neg ?_ | refine fa_at ?_ | refine nl_ptr ?_ | refine ex20 ?_ | refine ex21 ?_ | refine ex30 ?_ | refine ex31 ?_ | refine ex32 ?_ | refine ln_rule ?_ | refine lnT_rule ?_ | refine pu_and ?_ | refine pu_or ?_ | refine pu_xor ?_ | refine pu_seq ?_ | refine pu_sne ?_)
  refine ld_here hw5 (.tail _ (.tail _ (.head _))) (v := v2) rfl ?_
  have g0 : ∀ {X : Value → Prop}, X (vI (lo.length : Nat)) → lnS v2 X := fun k => by rw [hv2]; exact ln_rule k
  refine g0 ?_
  repeat (first | refine pu_not ?_ | refine pu_eql ?_ | refine pu_neq ?_ | refine pu_lss ?_ | refine pu_leq ?_ | refine pu_gtr ?_ | refine pu_geq ?_ | refine pu_add ?_ | refine pu_sub ?_ | refine pu_mul ?_ | refine pu_neg ?_ | refine fa_at ?_ | refine nl_ptr ?_ | refine ex20 ?_ | refine ex21 ?_ | refine ex30 ?_ | refine ex31 ?_ | refine ex32 ?_ | refine ln_rule ?_ | refine lnT_rule ?_ | refine pu_and ?_ | refine pu_or ?_ | refine pu_xor ?_ | refine pu_seq ?_ | refine pu_sne ?_)
  have mS : ∀ x, x ∈ t.S → x ∈ (bf, cel t.row T.t_api_Frame) :: (bi, iO i) :: VH s.b g (SK.cell p { s with vfr := v2 }) pre post t (ffoot lo ++ R) := fun x hx => .tail _ (mem_S x hx)
  have hmap : ∀ l : List FE, (l.map FE.m).length = l.length := fun l => List.length_map _
  refine cnd (fun hq => ?_) (fun hq => ?_)
  · have hlo : lo = [] := by cases lo; rfl; simp at hq; omega
    subst hlo
    repeat (first | refine pu_not ?_ | refine pu_eql ?_ | refine pu_neq ?_ | refine pu_lss ?_ | refine pu_leq ?_ | refine pu_gtr ?_ | refine pu_geq ?_ | refine pu_add ?_ | refine pu_sub ?_ | refine pu_mul ?_ | refine pu_neg ?_ | refine fa_at ?_ | refine nl_ptr ?_ | refine ex20 ?_ | refine ex21 ?_ | refine ex30 ?_ | refine ex31 ?_ | refine ex32 ?_ | refine ln_rule ?_ | refine lnT_rule ?_ | refine pu_and ?_ | refine pu_or ?_ | refine pu_xor ?_ | refine pu_seq ?_ | refine pu_sne ?_)
    refine ld_here hw5 (.head _) (v := t.c) rfl ?_
    repeat (first | refine pu_not ?_ | refine pu_eql ?_ | refine pu_neq ?_ | refine pu_lss ?_ | refine pu_leq ?_ | refine pu_gtr ?_ | refine pu_geq ?_ | refine pu_add ?_ | refine pu_sub ?_ | refine pu_mul ?_ | refine pu_neg ?_ | refine fa_at ?_ | refine nl_ptr ?_ | refine ex20 ?_ | refine ex21 ?_ | refine ex30 ?_ | refine ex31 ?_ | refine ex32 ?_ | refine ln_rule ?_ | refine lnT_rule ?_ | refine pu_and ?_ | refine pu_or ?_ | refine pu_xor ?_ | refine pu_seq ?_ | refine pu_sne ?_)
    refine ld_here hw5 (.tail _ (.head _)) (v := vI i.a) rfl ?_
    refine regs_rdw hto hw5 mS ha ha1 ?_
    repeat (first | refine pu_not ?_ | refine pu_eql ?_ | refine pu_neq ?_ | refine pu_lss ?_ | refine pu_leq ?_ | refine pu_gtr ?_ | refine pu_geq ?_ | refine pu_add ?_ | refine pu_sub ?_ | refine pu_mul ?_ | refine pu_neg ?_ | refine fa_at ?_ | refine nl_ptr ?_ | refine ex20 ?_ | refine ex21 ?_ | refine ex30 ?_ | refine ex31 ?_ | refine ex32 ?_ | refine ln_rule ?_ | refine lnT_rule ?_ | refine pu_and ?_ | refine pu_or ?_ | refine pu_xor ?_ | refine pu_seq ?_ | refine pu_sne ?_)
    refine st1_here (A := [_, _]) hw5 rfl rfl (by simp [SK.cell]) (fun w6 hw6 => ?_)
    have e6 : (SK.cell p { s with vfr := v2 }).set (0 + 5) (vU (regR t.m.regs i.a)) = SK.cell p { s with vfr := v2, es := [], res := regR t.m.regs i.a } := rfl
    rw [e6] at hw6
    refine k { s with vfr := v2, es := [], res := regR t.m.regs i.a } w6 rfl rfl (.inl ⟨rfl, rfl, rfl⟩) ⟨hs.hf, ?_, fun e he => by simp at he, Nat.zero_lt_succ _⟩ ?_
    · exact hfro
    · unfold SK.hp
      simp only [hSf]
      refine hw6.sub (.cons _ (.cons _ (.cons_cons _ (.cons_cons _ ?_))))
      exact List.sublist_append_right _ _
  · obtain ⟨u, lo', rfl⟩ : ∃ u lo', lo = u :: lo' := by
      cases lo with
      | nil => simp at hq
      | cons u lo' => exact ⟨u, lo', rfl⟩
    have hdu := hd u lo' rfl
    have huo : u.ok := hs.eok u (by rw [he]; exact .tail _ (.head _))
    refine ⟨fun w => Ow B w ((bf, cel t.row T.t_api_Frame) :: (bi, iO i) :: VH s.b g (SK.cell p { s with vfr := v2 }) pre post t (ffoot (u :: lo') ++ R)), hw5.drew, ?_⟩
    repeat (first | refine pu_not ?_ | refine pu_eql ?_ | refine pu_neq ?_ | refine pu_lss ?_ | refine pu_leq ?_ | refine pu_gtr ?_ | refine pu_geq ?_ | refine pu_add ?_ | refine pu_sub ?_ | refine pu_mul ?_ | refine pu_neg ?_ | refine fa_at ?_ | refine nl_ptr ?_ | refine ex20 ?_ | refine ex21 ?_ | refine ex30 ?_ | refine ex31 ?_ | refine ex32 ?_ | refine ln_rule ?_ | refine lnT_rule ?_ | refine pu_and ?_ | refine pu_or ?_ | refine pu_xor ?_ | refine pu_seq ?_ | refine pu_sne ?_)
    refine lds_here (fun w h => h) (.head _) (v := vI t.m.dest) rfl ?_
    repeat (first | refine pu_not ?_ | refine pu_eql ?_ | refine pu_neq ?_ | refine pu_lss ?_ | refine pu_leq ?_ | refine pu_gtr ?_ | refine pu_geq ?_ | refine pu_add ?_ | refine pu_sub ?_ | refine pu_mul ?_ | refine pu_neg ?_ | refine fa_at ?_ | refine nl_ptr ?_ | refine ex20 ?_ | refine ex21 ?_ | refine ex30 ?_ | refine ex31 ?_ | refine ex32 ?_ | refine ln_rule ?_ | refine lnT_rule ?_ | refine pu_and ?_ | refine pu_or ?_ | refine pu_xor ?_ | refine pu_seq ?_ | refine pu_sne ?_)
    refine lds_here (fun w h => h) (.head _) (v := t.c) rfl ?_
    repeat (first | refine pu_not ?_ | refine pu_eql ?_ | refine pu_neq ?_ | refine pu_lss ?_ | refine pu_leq ?_ | refine pu_gtr ?_ | refine pu_geq ?_ | refine pu_add ?_ | refine pu_sub ?_ | refine pu_mul ?_ | refine pu_neg ?_ | refine fa_at ?_ | refine nl_ptr ?_ | refine ex20 ?_ | refine ex21 ?_ | refine ex30 ?_ | refine ex31 ?_ | refine ex32 ?_ | refine ln_rule ?_ | refine lnT_rule ?_ | refine pu_and ?_ | refine pu_or ?_ | refine pu_xor ?_ | refine pu_seq ?_ | refine pu_sne ?_)
    refine lds_here (fun w h => h) (.tail _ (.head _)) (v := vI i.a) rfl ?_
    refine regs_rd hto (fun w h => h) mS ha ha1 ?_
    -- the stack without its top
    rw [frw_cons] at hfro
    obtain ⟨g', pre', post', cap', q1, q2, q3, q4⟩ := hfro.top
    rw [frw_len] at q1 q3
    rw [hSf] at q2
    obtain ⟨rfl, q5⟩ : g' = g ∧ pre ++ (t.row ++ post) = pre' ++ (u.row ++ post') := by
      simp only [List.cons.injEq, Prod.mk.injEq, and_true] at q2
      obtain ⟨h1, h2⟩ := q2
      refine ⟨h1.symm, ?_⟩
      have := congrArg (fun o : Obj => match o with | .cells a _ _ => a.toList | _ => []) h2
      simpa using this
    have hv' : Vw (SK.cell p { s with vfr := v2 }) pre' g' lo'.length cap' := ⟨by rw [← q1]; rfl, rfl, q3, by simp only [List.length_cons] at hlen; omega⟩
    have ffc : ffoot (u :: lo') = u.S ++ ffoot lo' := rfl
    refine top_at (g := g') (n := lo'.length) (cap := cap') hw5.drew (.tail _ (.tail _ (.head _))) hv'.c6 hv'.c4 hv'.hn (fun w6 hw6 => ⟨hw6, ?_⟩)
    repeat (first | refine pu_not ?_ | refine pu_eql ?_ | refine pu_neq ?_ | refine pu_lss ?_ | refine pu_leq ?_ | refine pu_gtr ?_ | refine pu_geq ?_ | refine pu_add ?_ | refine pu_sub ?_ | refine pu_mul ?_ | refine pu_neg ?_ | refine fa_at ?_ | refine nl_ptr ?_ | refine ex20 ?_ | refine ex21 ?_ | refine ex30 ?_ | refine ex31 ?_ | refine ex32 ?_ | refine ln_rule ?_ | refine lnT_rule ?_ | refine pu_and ?_ | refine pu_or ?_ | refine pu_xor ?_ | refine pu_seq ?_ | refine pu_sne ?_)
    refine lds_here (fun w h => h) (.tail _ mem_g) (v := u.c) (by rw [q5]; exact row_at q3 row3) ?_
    have hw6' : Ow B w6 (((bf, cel t.row T.t_api_Frame) :: (bi, iO i) :: (s.b, stO (SK.cell p { s with vfr := v2 })) :: (g', frO pre t.row post) :: t.S) ++ u.S ++ (ffoot lo' ++ R)) := by
      have := hw6
      rw [ffc] at this
      simpa only [VH, List.nil_append, List.cons_append, List.append_assoc] using this
    refine regs_st (x := (t.m.dest : Int)) huo hw6' (by omega) (by omega) (fun S' w7 ho7 hw7 => ?_)
    rw [Int.toNat_natCast] at ho7
    refine k { s with vfr := v2, es := { S := S', c := u.c, m := { u.m with regs := u.m.regs.set t.m.dest (regR t.m.regs i.a) } } :: lo' } w7 rfl rfl (.inr ⟨u, lo', rfl, rfl, rfl⟩) ⟨hs.hf, ?_, ?_, ?_⟩ ?_
    · rw [frw_cons]
      show Fro T.t_api_Frame 4 s.Sf v2 (frw lo' ++ [u.row])
      have q6 : frO pre t.row post = frO pre' u.row post' := congrArg (fun l => cel l T.t_api_Frame) q5
      rw [hSf, q6]
      exact q4 _ rfl
    · intro e hem
      rcases List.mem_cons.1 hem with rfl | hem
      · exact ho7
      · exact hs.eok e (by rw [he]; exact .tail _ (.tail _ hem))
    · simp only [List.length_cons] at hlen ⊢; omega
    · unfold SK.hp
      have hw8 : Ow B w7 ((bf, cel t.row T.t_api_Frame) :: (bi, iO i) :: (s.b, stO (SK.cell p { s with vfr := v2 })) :: (g', frO pre t.row post) :: (t.S ++ (S' ++ (ffoot lo' ++ R)))) := by simpa using hw7
      have e8 : ffoot ({ S := S', c := u.c, m := { u.m with regs := u.m.regs.set t.m.dest (regR t.m.regs i.a) } } :: lo') = S' ++ ffoot lo' := rfl
      simp only [hSf, e8]
      refine hw8.sub (.cons _ (.cons _ (.cons_cons _ ?_)))
      refine .cons_cons _ ?_
      show List.Sublist ((S' ++ ffoot lo') ++ R) _
      rw [List.append_assoc]
      exact List.sublist_append_right _ _
end
end Go.Proofs.YtkkkcafkepnecaaGreat

/-! Stacks: a step. -/
set_option linter.unusedVariables false
set_option linter.unusedSimpArgs false
namespace Go.Proofs.YtkkkcafkepnecaaGreat
open Go Go.RowKit Vc Ar
attribute [local irreducible] binV Op.unary convert nlW faW ldS ldW ixS ixA ixV ixT exW lnS lnT pu stW alW opW opU bsW mkW

section
variable {B w : World} {H X F Q R : Hp} {K : Value → World → Prop} {PK : List PanicEntry → World → Prop} {KK : Value → Prop} {e : Int} {b n cap g : Nat} {c pre post : List Value} {t u : FE} {i : Ins} {p : Pr} {s : SK} {lo : List FE} {f : Fun}
/-- Does an instruction touch nothing shared? -/
def localI (i : Ins) : Bool := okI i && decide (i.op ≤ 5 ∨ i.op = 8 ∨ i.op = 9 ∨ i.op = 19)
theorem local_spec (hu : 0 ≤ i.imm ∧ i.imm < 4294967296) (h : Ow B w H) (k : ∀ w', Ow B w' H → K (vB (localI i)) w') : callW PG N.instr_Local [.agg i.cells.toArray] K PK w := by
  refine instr_Local.ok ?_
  unfold instr_Local.C
  refine al_rule h (l := i.cells) rfl (fun b w1 h1 => ?_)
  refine ldn_here h1 (.head _) (vs := i.cells) rfl rfl ?_
  refine right_spec hu h1 (fun w2 h2 => ?_)
  unfold localI at k
  refine cnd (fun hq => ?_) (fun hq => ?_)
  · rw [hq, Bool.true_and] at k
    repeat (first | refine pu_not ?_ | refine pu_eql ?_ | refine pu_neq ?_ | refine pu_lss ?_ | refine pu_leq ?_ | refine pu_gtr ?_ | refine pu_geq ?_ | refine pu_add ?_ | refine pu_sub ?_ | refine pu_mul ?_ | refine pu_neg ?_ | refine fa_at ?_ | refine nl_ptr ?_ | refine ex20 ?_ | refine ex21 ?_ | refine ex30 ?_ | refine ex31 ?_ | refine ex32 ?_ | refine ln_rule ?_ | refine lnT_rule ?_ | refine pu_and ?_ | refine pu_or ?_ | refine pu_xor ?_ | refine pu_seq ?_ | refine pu_sne ?_)
    refine ld_here h2 (.head _) (v := vI i.op) rfl ?_
    repeat (first | refine pu_not ?_ | refine pu_eql ?_ | refine pu_neq ?_ | refine pu_lss ?_ | refine pu_leq ?_ | refine pu_gtr ?_ | refine pu_geq ?_ | refine pu_add ?_ | refine pu_sub ?_ | refine pu_mul ?_ | refine pu_neg ?_ | refine fa_at ?_ | refine nl_ptr ?_ | refine ex20 ?_ | refine ex21 ?_ | refine ex30 ?_ | refine ex31 ?_ | refine ex32 ?_ | refine ln_rule ?_ | refine lnT_rule ?_ | refine pu_and ?_ | refine pu_or ?_ | refine pu_xor ?_ | refine pu_seq ?_ | refine pu_sne ?_)
    refine cnd (fun h5 => ?_) (fun h5 => ?_)
    · have h5 : i.op ≤ 5 := by simpa using h5
      rw [decide_eq_true (.inl h5)] at k
      exact k _ h2.drop
    · have h5 : ¬ i.op ≤ 5 := by simpa using h5
      repeat (first | refine pu_not ?_ | refine pu_eql ?_ | refine pu_neq ?_ | refine pu_lss ?_ | refine pu_leq ?_ | refine pu_gtr ?_ | refine pu_geq ?_ | refine pu_add ?_ | refine pu_sub ?_ | refine pu_mul ?_ | refine pu_neg ?_ | refine fa_at ?_ | refine nl_ptr ?_ | refine ex20 ?_ | refine ex21 ?_ | refine ex30 ?_ | refine ex31 ?_ | refine ex32 ?_ | refine ln_rule ?_ | refine lnT_rule ?_ | refine pu_and ?_ | refine pu_or ?_ | refine pu_xor ?_ | refine pu_seq ?_ | refine pu_sne ?_)
      refine ld_here h2 (.head _) (v := vI i.op) rfl ?_
      refine bs_rule h2 [vI 8, vI 9, vI 19] (by kernel_rfl) (fun b7 w7 h7 => ?_)
      refine among_spec (xs := [8, 9, 19]) h7 (sl_here (l := [vI 8, vI 9, vI 19]) (.head _)) (by simp) (fun w8 h8 => ?_)
      have e : decide (i.op ∈ [8, 9, 19]) = decide (i.op ≤ 5 ∨ i.op = 8 ∨ i.op = 9 ∨ i.op = 19) := by simp [h5]
      rw [e]
      exact k _ h8.drop.drop
  · rw [hq, Bool.false_and] at k
    exact k _ h2.drop
/-- What the code relies on, of a top and its instruction. -/
structure Safe (p : Pr) (t : Frm) (lo : List Frm) (f : Fun) (i : Ins) : Prop where
  hf : p.fs[t.fn]? = some f
  hi : f.code[t.pc]? = some i
  im : 0 ≤ i.imm ∧ i.imm < 4294967296
  ok : okI i = true
  ha : (i.op = 1 ∨ i.op = 2 ∨ i.op = 3 ∨ i.op = 5 ∨ i.op = 9) → i.a < t.regs.length
  hb : (i.op = 2 ∨ i.op = 3) → i.b < t.regs.length
  hc : i.op = 3 → i.c < t.regs.length
  call : i.op = 8 → i.b + i.c ≤ t.regs.length ∧ ∃ f', p.fs[i.imm.toNat]? = some f' ∧ i.c ≤ f'.regs ∧ f'.regs ≤ 16
  ret : i.op = 9 → ∀ u lo', lo = u :: lo' → t.dest < u.regs.length
  hu : AllU t.regs
  hl : t.regs.length ≤ 16
  pcb : t.pc < 1000000
theorem ok_nn (h : okI i = true) : 1 ≤ i.op ∧ i.op ≤ 19 ∧ 0 ≤ i.a ∧ 0 ≤ i.b ∧ 0 ≤ i.c := by
  unfold okI at h
  rw [Bool.and_eq_true, Bool.and_eq_true] at h
  have := of_decide_eq_true h.1.1
  exact ⟨this.1, this.2.1, this.2.2.1, this.2.2.2.1, this.2.2.2.2.1⟩
/-- Why an instruction is refused; 0: it is not. -/
def refE (t : Frm) (n : Nat) (i : Ins) (most : Int) : Int :=
  if localI i = false then 221 else if i.op = 3 ∧ (aDo i.imm (regR t.regs i.b) (regR t.regs i.c)).2 ≠ 0 then (aDo i.imm (regR t.regs i.b) (regR t.regs i.c)).2 else if i.op = 8 ∧ ¬ ((n : Int) < most) then 222 else 0
theorem refused_spec {most : Int} (hs : s.ok p F) (he : s.es = t :: lo) (sf : Safe p t.m (lo.map FE.m) f i) (h : Ow B w (s.hp p ++ R)) (kt : refE t.m (lo.length + 1) i most = 0 → ∀ w', Ow B w' (s.hp p ++ R) → K (.tuple #[]) w')
    (kf : refE t.m (lo.length + 1) i most ≠ 0 → ∀ w', Ow B w' (s.hp p ++ R) → PK (pan (refE t.m (lo.length + 1) i most)) w') : callW PG N.stack_Stack_refused [ptr s.b, .agg i.cells.toArray, vI most] K PK w := by
  refine stack_Stack_refused.ok ?_
  unfold stack_Stack_refused.C
  obtain ⟨g, pre, post, cap, hv, hSf, hvfr, hh, hup⟩ := SK.view hs he
  have hto : t.ok := hs.eok t (by rw [he]; exact .head _)
  have hlen := hs.len
  rw [he] at hlen
  simp only [List.length_cons] at hlen
  rw [hh] at h kt kf
  refine al_rule h (l := i.cells) rfl (fun bi w1 hw1 => ?_)
  refine ldn_here hw1 (.head _) (vs := i.cells) rfl rfl ?_
  refine local_spec sf.im hw1 (fun w2 hw2 => ?_)
  refine must_b (fun hq => ?_) (fun hq => ?_)
  rotate_left
  · have e : refE t.m (lo.length + 1) i most = 221 := by unfold refE; rw [if_pos hq]
    rw [e] at kf
    exact kf (by decide) _ (Ow.drop (p := (bi, iO i)) hw2)
  have hloc : ¬ localI i = false := by simp [hq]
  have gv : ∀ {w : World} {X : Value → Prop}, Ow B w ((bi, iO i) :: VH s.b g (s.cell p) pre post t (ffoot lo ++ R)) → X s.vfr → ldW none (ptr s.b (0 + 4)) w X := fun h k => ld_here h (.tail _ (.head _)) (v := s.vfr) rfl k
  have gl : ∀ {X : Value → Prop}, X (vI (lo.length + 1 : Nat)) → lnS s.vfr X := fun k => by rw [hvfr]; exact ln_rule k
  repeat (first | refine pu_not ?_ | refine pu_eql ?_ | refine pu_neq ?_ | refine pu_lss ?_ | refine pu_leq ?_ | refine pu_gtr ?_ | refine pu_geq ?_ | refine pu_add ?_ | refine pu_sub ?_ | refine pu_mul ?_ | refine pu_neg ?_ | refine fa_at ?_ | refine nl_ptr ?_ | refine ex20 ?_ | refine ex21 ?_ | refine ex30 ?_ | refine ex31 ?_ | refine ex32 ?_ | refine ln_rule ?_ | refine lnT_rule ?_ | refine pu_and ?_ | refine pu_or ?_ | refine pu_xor ?_ | refine pu_seq ?_ | refine pu_sne ?_)
  refine ld_here hw2 (.head _) (v := vI i.op) rfl ?_
  repeat (first | refine pu_not ?_ | refine pu_eql ?_ | refine pu_neq ?_ | refine pu_lss ?_ | refine pu_leq ?_ | refine pu_gtr ?_ | refine pu_geq ?_ | refine pu_add ?_ | refine pu_sub ?_ | refine pu_mul ?_ | refine pu_neg ?_ | refine fa_at ?_ | refine nl_ptr ?_ | refine ex20 ?_ | refine ex21 ?_ | refine ex30 ?_ | refine ex31 ?_ | refine ex32 ?_ | refine ln_rule ?_ | refine lnT_rule ?_ | refine pu_and ?_ | refine pu_or ?_ | refine pu_xor ?_ | refine pu_seq ?_ | refine pu_sne ?_)
  refine cnd (fun h3 => ?_) (fun h3 => ?_)
  · have h3 : i.op = 3 := by simpa using h3
    have hnn := ok_nn sf.ok
    refine vtop1 hv hw2 (fun w3 hw3 => ?_)
    repeat (first | refine pu_not ?_ | refine pu_eql ?_ | refine pu_neq ?_ | refine pu_lss ?_ | refine pu_leq ?_ | refine pu_gtr ?_ | refine pu_geq ?_ | refine pu_add ?_ | refine pu_sub ?_ | refine pu_mul ?_ | refine pu_neg ?_ | refine fa_at ?_ | refine nl_ptr ?_ | refine ex20 ?_ | refine ex21 ?_ | refine ex30 ?_ | refine ex31 ?_ | refine ex32 ?_ | refine ln_rule ?_ | refine lnT_rule ?_ | refine pu_and ?_ | refine pu_or ?_ | refine pu_xor ?_ | refine pu_seq ?_ | refine pu_sne ?_)
    refine ld_here hw3 mem_g (row_at hv.pl row3) ?_
    refine ⟨fun w => Ow B w ((bi, iO i) :: VH s.b g (s.cell p) pre post t (ffoot lo ++ R)), hw3.drew, ?_⟩
    repeat (first | refine pu_not ?_ | refine pu_eql ?_ | refine pu_neq ?_ | refine pu_lss ?_ | refine pu_leq ?_ | refine pu_gtr ?_ | refine pu_geq ?_ | refine pu_add ?_ | refine pu_sub ?_ | refine pu_mul ?_ | refine pu_neg ?_ | refine fa_at ?_ | refine nl_ptr ?_ | refine ex20 ?_ | refine ex21 ?_ | refine ex30 ?_ | refine ex31 ?_ | refine ex32 ?_ | refine ln_rule ?_ | refine lnT_rule ?_ | refine pu_and ?_ | refine pu_or ?_ | refine pu_xor ?_ | refine pu_seq ?_ | refine pu_sne ?_)
    refine lds_here (fun w h => h) (.head _) (v := vU i.imm) rfl ?_
    have him := sf.im
    refine cvt (by kernel_rfl) (by kernel_rfl) (m := i.imm) (by rw [wrap64_in (by omega) (by omega)]) ?_
    repeat (first | refine pu_not ?_ | refine pu_eql ?_ | refine pu_neq ?_ | refine pu_lss ?_ | refine pu_leq ?_ | refine pu_gtr ?_ | refine pu_geq ?_ | refine pu_add ?_ | refine pu_sub ?_ | refine pu_mul ?_ | refine pu_neg ?_ | refine fa_at ?_ | refine nl_ptr ?_ | refine ex20 ?_ | refine ex21 ?_ | refine ex30 ?_ | refine ex31 ?_ | refine ex32 ?_ | refine ln_rule ?_ | refine lnT_rule ?_ | refine pu_and ?_ | refine pu_or ?_ | refine pu_xor ?_ | refine pu_seq ?_ | refine pu_sne ?_)
    refine lds_here (fun w h => h) (.head _) (v := vI i.b) rfl ?_
    refine regs_rd hto (fun w h => h) mem_S hnn.2.2.2.1 (sf.hb (.inr h3)) ?_
    repeat (first | refine pu_not ?_ | refine pu_eql ?_ | refine pu_neq ?_ | refine pu_lss ?_ | refine pu_leq ?_ | refine pu_gtr ?_ | refine pu_geq ?_ | refine pu_add ?_ | refine pu_sub ?_ | refine pu_mul ?_ | refine pu_neg ?_ | refine fa_at ?_ | refine nl_ptr ?_ | refine ex20 ?_ | refine ex21 ?_ | refine ex30 ?_ | refine ex31 ?_ | refine ex32 ?_ | refine ln_rule ?_ | refine lnT_rule ?_ | refine pu_and ?_ | refine pu_or ?_ | refine pu_xor ?_ | refine pu_seq ?_ | refine pu_sne ?_)
    refine lds_here (fun w h => h) (.head _) (v := vI i.c) rfl ?_
    refine regs_rd hto (fun w h => h) mem_S hnn.2.2.2.2 (sf.hc h3) ?_
    refine do_spec (sf.hu.reg _) (sf.hu.reg _) hw3.drew (fun w4 hw4 => ?_)
    repeat (first | refine pu_not ?_ | refine pu_eql ?_ | refine pu_neq ?_ | refine pu_lss ?_ | refine pu_leq ?_ | refine pu_gtr ?_ | refine pu_geq ?_ | refine pu_add ?_ | refine pu_sub ?_ | refine pu_mul ?_ | refine pu_neg ?_ | refine fa_at ?_ | refine nl_ptr ?_ | refine ex20 ?_ | refine ex21 ?_ | refine ex30 ?_ | refine ex31 ?_ | refine ex32 ?_ | refine ln_rule ?_ | refine lnT_rule ?_ | refine pu_and ?_ | refine pu_or ?_ | refine pu_xor ?_ | refine pu_seq ?_ | refine pu_sne ?_)
    refine must_b (fun hq => ?_) (fun hq => ?_)
    · have hz : (aDo i.imm (regR t.m.regs i.b) (regR t.m.regs i.c)).2 = 0 := by simpa using hq
      repeat (first | refine pu_not ?_ | refine pu_eql ?_ | refine pu_neq ?_ | refine pu_lss ?_ | refine pu_leq ?_ | refine pu_gtr ?_ | refine pu_geq ?_ | refine pu_add ?_ | refine pu_sub ?_ | refine pu_mul ?_ | refine pu_neg ?_ | refine fa_at ?_ | refine nl_ptr ?_ | refine ex20 ?_ | refine ex21 ?_ | refine ex30 ?_ | refine ex31 ?_ | refine ex32 ?_ | refine ln_rule ?_ | refine lnT_rule ?_ | refine pu_and ?_ | refine pu_or ?_ | refine pu_xor ?_ | refine pu_seq ?_ | refine pu_sne ?_)
      refine ld_here hw4 (.head _) (v := vI i.op) rfl ?_
      repeat (first | refine pu_not ?_ | refine pu_eql ?_ | refine pu_neq ?_ | refine pu_lss ?_ | refine pu_leq ?_ | refine pu_gtr ?_ | refine pu_geq ?_ | refine pu_add ?_ | refine pu_sub ?_ | refine pu_mul ?_ | refine pu_neg ?_ | refine fa_at ?_ | refine nl_ptr ?_ | refine ex20 ?_ | refine ex21 ?_ | refine ex30 ?_ | refine ex31 ?_ | refine ex32 ?_ | refine ln_rule ?_ | refine lnT_rule ?_ | refine pu_and ?_ | refine pu_or ?_ | refine pu_xor ?_ | refine pu_seq ?_ | refine pu_sne ?_)
      refine cnd_t (by simp [h3]) ?_
      refine must_t ?_
      refine kt ?_ _ (Ow.drop (p := (bi, iO i)) hw4)
      unfold refE
      rw [if_neg hloc, if_neg (fun h => h.2 hz), if_neg (by omega)]
    · have hz : ¬ (aDo i.imm (regR t.m.regs i.b) (regR t.m.regs i.c)).2 = 0 := by simpa using hq
      have e : refE t.m (lo.length + 1) i most = (aDo i.imm (regR t.m.regs i.b) (regR t.m.regs i.c)).2 := by
        unfold refE
        rw [if_neg hloc, if_pos ⟨h3, hz⟩]
      rw [e] at kf
      exact kf hz _ (Ow.drop (p := (bi, iO i)) hw4)
  · have h3 : ¬ i.op = 3 := by simpa using h3
    repeat (first | refine pu_not ?_ | refine pu_eql ?_ | refine pu_neq ?_ | refine pu_lss ?_ | refine pu_leq ?_ | refine pu_gtr ?_ | refine pu_geq ?_ | refine pu_add ?_ | refine pu_sub ?_ | refine pu_mul ?_ | refine pu_neg ?_ | refine fa_at ?_ | refine nl_ptr ?_ | refine ex20 ?_ | refine ex21 ?_ | refine ex30 ?_ | refine ex31 ?_ | refine ex32 ?_ | refine ln_rule ?_ | refine lnT_rule ?_ | refine pu_and ?_ | refine pu_or ?_ | refine pu_xor ?_ | refine pu_seq ?_ | refine pu_sne ?_)
    refine ld_here hw2 (.head _) (v := vI i.op) rfl ?_
    repeat (first | refine pu_not ?_ | refine pu_eql ?_ | refine pu_neq ?_ | refine pu_lss ?_ | refine pu_leq ?_ | refine pu_gtr ?_ | refine pu_geq ?_ | refine pu_add ?_ | refine pu_sub ?_ | refine pu_mul ?_ | refine pu_neg ?_ | refine fa_at ?_ | refine nl_ptr ?_ | refine ex20 ?_ | refine ex21 ?_ | refine ex30 ?_ | refine ex31 ?_ | refine ex32 ?_ | refine ln_rule ?_ | refine lnT_rule ?_ | refine pu_and ?_ | refine pu_or ?_ | refine pu_xor ?_ | refine pu_seq ?_ | refine pu_sne ?_)
    refine cnd (fun h8 => ?_) (fun h8 => ?_)
    · have h8 : ¬ i.op = 8 := by simpa using h8
      refine must_t ?_
      refine kt ?_ _ (Ow.drop (p := (bi, iO i)) hw2)
      unfold refE
      rw [if_neg hloc, if_neg (fun h => h3 h.1), if_neg (fun h => h8 h.1)]
    · have h8 : i.op = 8 := by simpa using h8
      repeat (first | refine pu_not ?_ | refine pu_eql ?_ | refine pu_neq ?_ | refine pu_lss ?_ | refine pu_leq ?_ | refine pu_gtr ?_ | refine pu_geq ?_ | refine pu_add ?_ | refine pu_sub ?_ | refine pu_mul ?_ | refine pu_neg ?_ | refine fa_at ?_ | refine nl_ptr ?_ | refine ex20 ?_ | refine ex21 ?_ | refine ex30 ?_ | refine ex31 ?_ | refine ex32 ?_ | refine ln_rule ?_ | refine lnT_rule ?_ | refine pu_and ?_ | refine pu_or ?_ | refine pu_xor ?_ | refine pu_seq ?_ | refine pu_sne ?_)
      refine gv hw2 ?_
      refine gl ?_
      repeat (first | refine pu_not ?_ | refine pu_eql ?_ | refine pu_neq ?_ | refine pu_lss ?_ | refine pu_leq ?_ | refine pu_gtr ?_ | refine pu_geq ?_ | refine pu_add ?_ | refine pu_sub ?_ | refine pu_mul ?_ | refine pu_neg ?_ | refine fa_at ?_ | refine nl_ptr ?_ | refine ex20 ?_ | refine ex21 ?_ | refine ex30 ?_ | refine ex31 ?_ | refine ex32 ?_ | refine ln_rule ?_ | refine lnT_rule ?_ | refine pu_and ?_ | refine pu_or ?_ | refine pu_xor ?_ | refine pu_seq ?_ | refine pu_sne ?_)
      refine must_b (fun hq => ?_) (fun hq => ?_)
      · refine kt ?_ _ (Ow.drop (p := (bi, iO i)) hw2)
        unfold refE
        rw [if_neg hloc, if_neg (fun h => h3 h.1), if_neg (fun h => h.2 (by simpa using hq))]
      · have e : refE t.m (lo.length + 1) i most = 222 := by
          unfold refE
          rw [if_neg hloc, if_neg (fun h => h3 h.1), if_pos ⟨h8, by simpa using hq⟩]
        rw [e] at kf
        exact kf (by decide) _ (Ow.drop (p := (bi, iO i)) hw2)
def doesS : List (Int × Value) := [(1, fnc N.stack_Stack_consts #[]), (2, fnc N.stack_Stack_moves #[]), (3, fnc N.stack_Stack_ariths #[]), (4, fnc N.stack_Stack_jumps #[]), (5, fnc N.stack_Stack_ifs #[]), (8, fnc N.stack_Stack_calls #[]), (9, fnc N.stack_Stack_returns #[]), (19, fnc N.stack_Stack_yields #[])]
theorem und_sdoes : PG.underlying T.t_map_api_Op_func_ptr_stack_Stack_api_Ins = some (.map T.t_api_Op T.t_func_ptr_stack_Stack_api_Ins) := by kernel_rfl
theorem does_spec (h : Ow B w H) (k : ∀ b w', Ow B w' ((b, mpo .i64 doesS) :: H) → K (.map (some b)) w') : callW PG N.stack_does [] K PK w := by
  refine stack_does.ok ?_
  unfold stack_does.C
  refine mk_rule (kd := .i64) h (fun bm w h => ?_)
  iterate 8 refine mu_rule (A := []) h und_sdoes und_op rfl (fun w h => ?_)
  exact k bm _ h
end
end Go.Proofs.YtkkkcafkepnecaaGreat

/-! Stacks: Step. -/
set_option linter.unusedVariables false
set_option linter.unusedSimpArgs false
namespace Go.Proofs.YtkkkcafkepnecaaGreat
open Go Go.RowKit Vc Ar
attribute [local irreducible] binV Op.unary convert nlW faW ldS ldW ixS ixA ixV ixT exW lnS lnT pu stW alW opW opU bsW mkW

section
variable {B w : World} {H X F Q R : Hp} {K : Value → World → Prop} {PK : List PanicEntry → World → Prop} {KK : Value → Prop} {e : Int} {b n cap g : Nat} {c pre post : List Value} {t u : FE} {i : Ins} {p : Pr} {s : SK} {lo : List FE} {f : Fun}
/-- What a local instruction does that is not refused: the frames (the top first), the result. -/
def doneF (p : Pr) (i : Ins) (t : Frm) (lo : List Frm) (res : Int) : List Frm × Int :=
  let t' : Frm := { t with pc := t.pc + 1 }
  if i.op = 1 then ({ t' with regs := t.regs.set i.a.toNat i.imm } :: lo, res)
  else if i.op = 2 then ({ t' with regs := t.regs.set i.a.toNat (regR t.regs i.b) } :: lo, res)
  else if i.op = 3 then ({ t' with regs := t.regs.set i.a.toNat (aDo i.imm (regR t.regs i.b) (regR t.regs i.c)).1 } :: lo, res)
  else if i.op = 4 then ({ t with pc := i.imm.toNat } :: lo, res)
  else if i.op = 5 then ((if regR t.regs i.a = 0 then t' else { t with pc := i.imm.toNat }) :: lo, res)
  else if i.op = 8 then (newF i (p.fs.getD i.imm.toNat ⟨0, []⟩) t.regs :: t' :: lo, res)
  else if i.op = 9 then (match lo with | [] => ([], regR t.regs i.a) | u :: lo' => ({ u with regs := u.regs.set t.dest (regR t.regs i.a) } :: lo', res))
  else (t' :: lo, res)
def insF (p : Pr) (t : Frm) : Ins := ((p.fs[t.fn]?.bind fun f => f.code[t.pc]?).getD (bare 0))
/-- A step: an error's number, the frames, the result. -/
def stepF (p : Pr) (most : Int) (l : List Frm) (res : Int) : Int × List Frm × Int :=
  if most < 1 then (2, l, res) else match l with
  | [] => (220, [], res)
  | t :: lo => if refE t (lo.length + 1) (insF p t) most = 0 then (0, doneF p (insF p t) t lo res) else (refE t (lo.length + 1) (insF p t) most, l, res)
theorem Safe.ins {t : Frm} {lo : List Frm} (h : Safe p t lo f i) : insF p t = i := by
  unfold insF
  rw [h.hf]
  simp [h.hi]
def SK.up (s : SK) (g : Nat) (pre post : List Value) (t' : FE) (lo : List FE) : SK := { s with Sf := [(g, frO pre t'.row post)], es := t' :: lo }
theorem SK.up_hp {t' : FE} {R : Hp} : (SK.up s g pre post t' lo).hp p ++ R = VH s.b g (s.cell p) pre post t' (ffoot lo ++ R) := by
  simp [SK.up, SK.hp, ffoot, SK.cell]
theorem SK.up_ok {t' : FE} (hs : s.ok p F) (he : s.es = t :: lo) (hup : ∀ t' : FE, Fro T.t_api_Frame 4 [(g, frO pre t'.row post)] s.vfr (frw (t' :: lo))) (ht : t'.ok) : (SK.up s g pre post t' lo).ok p F :=
  ⟨hs.hf, hup t', fun e hem => by
    rcases List.mem_cons.1 hem with rfl | hem
    · exact ht
    · exact hs.eok e (by rw [he]; exact .tail _ hem), by
    have := hs.len
    rw [he] at this
    exact this⟩
theorem setPc_ok {pc : Nat} (h : t.ok) : (t.setPc pc).ok := h
theorem localI_op (h : localI i = true) : i.op = 1 ∨ i.op = 2 ∨ i.op = 3 ∨ i.op = 4 ∨ i.op = 5 ∨ i.op = 8 ∨ i.op = 9 ∨ i.op = 19 := by
  unfold localI at h
  rw [Bool.and_eq_true] at h
  have h1 := ok_nn h.1
  have h2 := of_decide_eq_true h.2
  omega
/-- What the table's function does. -/
theorem done_spec (hs : s.ok p F) (hF : ∀ x, x ∈ F → x ∈ R) (he : s.es = t :: lo) (sf : Safe p { t.m with pc := t.m.pc - 1 } (lo.map FE.m) f i) (hpc : 1 ≤ t.m.pc) (hloc : localI i = true) (hlen : lo.length + 2 < 1000) (h : Ow B w (s.hp p ++ R))
    (k : ∀ (s' : SK) r w', s'.b = s.b → s'.vF = s.vF → (s'.frs, s'.res) = doneF p i { t.m with pc := t.m.pc - 1 } (lo.map FE.m) s.res → s'.ok p F → Ow B w' (s'.hp p ++ R) → K r w') :
    callV PG ((lk doesS i.op).getD .nilFunc) [ptr s.b, .agg i.cells.toArray] K PK w := by
  obtain ⟨g, pre, post, cap, hv, hSf, hvfr, hh, hup⟩ := SK.view hs he
  have hto : t.ok := hs.eok t (by rw [he]; exact .head _)
  have hnn := ok_nn sf.ok
  have him := sf.im
  have ha := sf.ha
  have hb := sf.hb
  have hc := sf.hc
  have hrg := sf.hl
  have hpc1 : t.m.pc - 1 + 1 = t.m.pc := by omega
  have htm : ({ t.m with pc := t.m.pc - 1 + 1 } : Frm) = t.m := by
    have : t.m.pc - 1 + 1 = t.m.pc := by omega
    rw [this]
  simp only at ha hb hc hrg
  have up : ∀ (t' : FE) (r : Value) (w' : World), t'.ok → (t'.m :: lo.map FE.m, s.res) = doneF p i { t.m with pc := t.m.pc - 1 } (lo.map FE.m) s.res → Ow B w' (VH s.b g (s.cell p) pre post t' (ffoot lo ++ R)) → K r w' := fun t' r w' ht hd hw =>
    k (SK.up s g pre post t' lo) r w' rfl rfl hd (SK.up_ok hs he hup ht) (by rw [SK.up_hp]; exact hw)
  rcases localI_op hloc with h1 | h1 | h1 | h1 | h1 | h1 | h1 | h1
  · have e : (lk doesS i.op).getD .nilFunc = fnc N.stack_Stack_consts #[] := by rw [h1]; rfl
    rw [e]
    rw [hh] at h
    refine callV_fn stack_Stack_consts.okf (consts_spec hv hto hnn.2.2.1 (ha (.inl h1)) h (fun S' w' ho' h' => up _ _ w' ho' ?_ h'))
    unfold doneF
    rw [if_pos h1]
    simp only [hpc1]
  · have e : (lk doesS i.op).getD .nilFunc = fnc N.stack_Stack_moves #[] := by rw [h1]; rfl
    rw [e]
    rw [hh] at h
    refine callV_fn stack_Stack_moves.okf (moves_spec hv hto hnn.2.2.1 (ha (.inr (.inl h1))) hnn.2.2.2.1 (hb (.inl h1)) h (fun S' w' ho' h' => up _ _ w' ho' ?_ h'))
    unfold doneF
    rw [if_neg (by omega), if_pos h1]
    simp only [hpc1]
  · have e : (lk doesS i.op).getD .nilFunc = fnc N.stack_Stack_ariths #[] := by rw [h1]; rfl
    rw [e]
    rw [hh] at h
    refine callV_fn stack_Stack_ariths.okf (ariths_spec hv hto sf.hu him hnn.2.2.1 (ha (.inr (.inr (.inl h1)))) hnn.2.2.2.1 (hb (.inr h1)) hnn.2.2.2.2 (hc h1) h (fun S' w' ho' h' => up _ _ w' ho' ?_ h'))
    unfold doneF
    rw [if_neg (by omega), if_neg (by omega), if_pos h1]
    simp only [hpc1]
  · have e : (lk doesS i.op).getD .nilFunc = fnc N.stack_Stack_jumps #[] := by rw [h1]; rfl
    rw [e]
    rw [hh] at h
    refine callV_fn stack_Stack_jumps.okf (jumps_spec hv him h (fun w' h' => up _ _ w' (setPc_ok hto) ?_ h'))
    unfold doneF
    rw [if_neg (by omega), if_neg (by omega), if_neg (by omega), if_pos h1]
  · have e : (lk doesS i.op).getD .nilFunc = fnc N.stack_Stack_ifs #[] := by rw [h1]; rfl
    rw [e]
    rw [hh] at h
    refine callV_fn stack_Stack_ifs.okf (ifs_spec hv hto him hnn.2.2.1 (ha (.inr (.inr (.inr (.inl h1))))) h (fun w' h' => ?_))
    by_cases hz : regR t.m.regs i.a = 0
    · rw [if_pos hz] at h'
      refine up t _ w' hto ?_ h'
      unfold doneF
      rw [if_neg (by omega), if_neg (by omega), if_neg (by omega), if_neg (by omega), if_pos h1]
      simp only [hz, if_true, hpc1]
    · rw [if_neg hz] at h'
      refine up (t.setPc i.imm.toNat) _ w' (setPc_ok hto) ?_ h'
      unfold doneF
      rw [if_neg (by omega), if_neg (by omega), if_neg (by omega), if_neg (by omega), if_pos h1]
      simp only [hz, if_false]
  · have e : (lk doesS i.op).getD .nilFunc = fnc N.stack_Stack_calls #[] := by rw [h1]; rfl
    rw [e]
    obtain ⟨hbc, f', hf', hcf, hfr⟩ := sf.call h1
    refine callV_fn stack_Stack_calls.okf (calls_spec hs he hF him hnn.2.2.1 hnn.2.2.2.1 hnn.2.2.2.2 hbc hf' hcf hfr hlen (by omega) h (fun s' w' e1 e2 e3 e4 hs' h' => k s' _ w' e1 e2 ?_ hs' h'))
    unfold doneF
    rw [if_neg (by omega), if_neg (by omega), if_neg (by omega), if_neg (by omega), if_neg (by omega), if_pos h1]
    have e5 : p.fs.getD i.imm.toNat ⟨0, []⟩ = f' := by rw [List.getD, hf']; rfl
    rw [e3, e4, e5]
    simp only [htm, SK.frs, he, List.map_cons]
  · have e : (lk doesS i.op).getD .nilFunc = fnc N.stack_Stack_returns #[] := by rw [h1]; rfl
    rw [e]
    refine callV_fn stack_Stack_returns.okf (returns_spec hs he (fun u lo' hlo => ?_) hnn.2.2.1 (ha (.inr (.inr (.inr (.inr h1))))) h (fun s' w' e1 e2 e3 hs' h' => k s' _ w' e1 e2 ?_ hs' h'))
    · exact sf.ret h1 u.m (lo'.map FE.m) (by rw [hlo]; rfl)
    · unfold doneF
      rw [if_neg (by omega), if_neg (by omega), if_neg (by omega), if_neg (by omega), if_neg (by omega), if_neg (by omega), if_pos h1]
      rcases e3 with ⟨rfl, e4, e5⟩ | ⟨u, lo', rfl, e4, e5⟩
      · rw [e4, e5]; rfl
      · rw [e4, e5]; rfl
  · have e : (lk doesS i.op).getD .nilFunc = fnc N.stack_Stack_yields #[] := by rw [h1]; rfl
    rw [e]
    rw [hh] at h
    refine callV_fn stack_Stack_yields.okf (yields_spec h (fun w' h' => up t _ w' hto ?_ h'))
    unfold doneF
    rw [if_neg (by omega), if_neg (by omega), if_neg (by omega), if_neg (by omega), if_neg (by omega), if_neg (by omega), if_neg (by omega)]
    simp only [htm]
/-- Is a stack's top fit for a step? -/
def SafeL (p : Pr) (l : List Frm) : Prop := ∀ t lo, l = t :: lo → ∃ f i, Safe p t lo f i
set_option maxHeartbeats 1000000 in
theorem step_spec {most : Int} (hs : s.ok p F) (hF : ∀ x, x ∈ F → x ∈ R) (hsl : SafeL p s.frs) (hlen : s.es.length + 1 < 1000) (h : Ow B w (s.hp p ++ R))
    (k : ∀ (s' : SK) w', s'.b = s.b → s'.vF = s.vF → (s'.frs, s'.res) = (stepF p most s.frs s.res).2 → s'.ok p F → Ow B w' (s'.hp p ++ R) → K (vI (stepF p most s.frs s.res).1) w') : callW PG N.stack_Stack_Step [ptr s.b, vI most] K PK w := by
  refine stack_Stack_Step.ok ?_
  unfold stack_Stack_Step.C
  have c6 : ∀ s : SK, (s.cell p)[6]? = some (vB true) := fun s => rfl
  have hin : ∀ (s : SK) (A : Hp), (s.b, stO (s.cell p)) ∈ A ++ (s.hp p ++ R) := fun s A => List.mem_append_right _ (.head _)
  refine al_rule h (l := [vI 0]) (by kernel_rfl) (fun be w1 hw1 => ?_)
  -- an error is told
  have fail : ∀ {er : Int} {w : World}, Ow B w ((be, cel [vI 0] T.t_api_Errno) :: (s.hp p ++ R)) → (stepF p most s.frs s.res) = (er, s.frs, s.res) → LvW PG ({ target := .fn (.func N.stack_caught) #[], args := #[ptr be] } :: []) (.panicking (pan er)) w (endV (fun w19 => ldW none (ptr be) w19 fun t20 => K t20 w19) fun | .returned v, w' => K v w' | .panicked ch, w' => PK ch w' | .outgrown, _ => False) := fun h he => by
    refine stack_lv_pan (A := []) h (fun w2 h2 => ?_)
    refine ld_here h2 (.head _) rfl ?_
    have := k s w2 rfl rfl (by rw [he]) hs (Ow.drop h2)
    rw [he] at this
    exact this
  refine none_at hw1 (hin s [_]) (c6 s) ?_
  repeat (first | refine pu_not ?_ | refine pu_eql ?_ | refine pu_neq ?_ | refine pu_lss ?_ | refine pu_leq ?_ | refine pu_gtr ?_ | refine pu_geq ?_ | refine pu_add ?_ | refine pu_sub ?_ | refine pu_mul ?_ | refine pu_neg ?_ | refine fa_at ?_ | refine nl_ptr ?_ | refine ex20 ?_ | refine ex21 ?_ | refine ex30 ?_ | refine ex31 ?_ | refine ex32 ?_ | refine ln_rule ?_ | refine lnT_rule ?_ | refine pu_and ?_ | refine pu_or ?_ | refine pu_xor ?_ | refine pu_seq ?_ | refine pu_sne ?_)
  refine must_t ?_
  repeat (first | refine pu_not ?_ | refine pu_eql ?_ | refine pu_neq ?_ | refine pu_lss ?_ | refine pu_leq ?_ | refine pu_gtr ?_ | refine pu_geq ?_ | refine pu_add ?_ | refine pu_sub ?_ | refine pu_mul ?_ | refine pu_neg ?_ | refine fa_at ?_ | refine nl_ptr ?_ | refine ex20 ?_ | refine ex21 ?_ | refine ex30 ?_ | refine ex31 ?_ | refine ex32 ?_ | refine ln_rule ?_ | refine lnT_rule ?_ | refine pu_and ?_ | refine pu_or ?_ | refine pu_xor ?_ | refine pu_seq ?_ | refine pu_sne ?_)
  refine must_b (fun hm => ?_) (fun hm => ?_)
  rotate_left
  · exact fail hw1 (by unfold stepF; rw [if_pos (by simp at hm; omega)])
  have hm : ¬ most < 1 := by simp at hm; omega
  cases hes : s.es with
  | nil =>
    have hnil : s.frs = [] := by simp [SK.frs, hes]
    refine stack_Stack_ins.ok ?_
    unfold stack_Stack_ins.C
    refine al_rule hw1 (l := (bare 0).cells) zins (fun bi w2 hw2 => ?_)
    obtain ⟨a0, c0, hv0, _⟩ := hs.fro.len
    rw [frw_len, hes] at hv0
    refine top_end hw2 (hin s [_, _]) (c6 s) (a := a0) (c := c0) (by simp only [SK.cell, hv0]; rfl) ?_
    exact fail (Ow.drop (p := (bi, cel (bare 0).cells T.t_api_Ins)) hw2) (by unfold stepF; rw [if_neg hm, hnil])
  | cons t lo =>
    have hfrs : s.frs = t.m :: lo.map FE.m := by simp [SK.frs, hes]
    obtain ⟨f, i, sf⟩ := hsl _ _ hfrs
    have hlen' : lo.length + 2 < 1000 := by rw [hes] at hlen; simp only [List.length_cons] at hlen; omega
    have hto : t.ok := hs.eok t (by rw [hes]; exact .head _)
    have hstep : stepF p most s.frs s.res = (if refE t.m (lo.length + 1) i most = 0 then (0, doneF p i t.m (lo.map FE.m) s.res) else (refE t.m (lo.length + 1) i most, s.frs, s.res)) := by
      unfold stepF
      rw [if_neg hm, hfrs]
      simp only [Safe.ins sf, List.length_map]
    have pm : ∀ (A : List (Nat × Obj)) (s : SK), (A ++ (s.hp p ++ R)).Perm (s.hp p ++ (A ++ R)) := fun A s => List.perm_append_comm_assoc A (s.hp p) R
    refine sins_spec (R := (be, cel [vI 0] T.t_api_Errno) :: R) hs hes (fun x hx => .tail _ (hF x hx)) sf.hf sf.hi (hw1.perm (pm [_] s)) (fun w2 hw2 => ?_)
    refine al_rule hw2 (l := (bare 0).cells) zins (fun bi w3 hw3 => ?_)
    refine st_here (A := []) hw3 i.cells rfl rfl (ins_plain _) (by simp [Ins.cells]) (fun w4 hw4 => ?_)
    have e3 : (bare 0).cells.take 0 ++ i.cells ++ (bare 0).cells.drop (0 + 5) = i.cells := rfl
    rw [e3] at hw4
    refine ldn_here hw4 (.head _) (vs := i.cells) rfl rfl ?_
    have hw4 : Ow B w4 (s.hp p ++ ((bi, iO i) :: (be, cel [vI 0] T.t_api_Errno) :: R)) := hw4.perm (pm [(bi, iO i)] s |>.trans (by rfl) |> fun h => by simpa using (List.perm_append_comm_assoc [(bi, iO i)] (s.hp p) ((be, cel [vI 0] T.t_api_Errno) :: R)))
    refine refused_spec hs hes sf hw4 (fun hr w5 hw5 => ?_) (fun hr w5 hw5 => ?_)
    rotate_left
    · have h6 : Ow B w5 ((be, cel [vI 0] T.t_api_Errno) :: (s.hp p ++ R)) := by
        have := hw5.perm (List.perm_append_comm_assoc (s.hp p) [(bi, iO i), (be, cel [vI 0] T.t_api_Errno)] R)
        exact Ow.drop (p := (bi, iO i)) this
      exact fail h6 (by rw [hstep, if_neg hr])
    rw [if_pos hr] at hstep
    obtain ⟨g, pre, post, cap, hv, hSf, hvfr, hh, hup⟩ := SK.view hs hes
    rw [hh] at hw5
    refine vtop (A := []) hv hw5 (fun w6 hw6 => ?_)
    repeat (first | refine pu_not ?_ | refine pu_eql ?_ | refine pu_neq ?_ | refine pu_lss ?_ | refine pu_leq ?_ | refine pu_gtr ?_ | refine pu_geq ?_ | refine pu_add ?_ | refine pu_sub ?_ | refine pu_mul ?_ | refine pu_neg ?_ | refine fa_at ?_ | refine nl_ptr ?_ | refine ex20 ?_ | refine ex21 ?_ | refine ex30 ?_ | refine ex31 ?_ | refine ex32 ?_ | refine ln_rule ?_ | refine lnT_rule ?_ | refine pu_and ?_ | refine pu_or ?_ | refine pu_xor ?_ | refine pu_seq ?_ | refine pu_sne ?_)
    refine ld_here hw6 (.tail _ (.head _)) (row_at hv.pl (v := vI t.m.pc) rfl) ?_
    have hpcb := sf.pcb
    repeat (first | refine pu_not ?_ | refine pu_eql ?_ | refine pu_neq ?_ | refine pu_lss ?_ | refine pu_leq ?_ | refine pu_gtr ?_ | refine pu_geq ?_ | refine pu_add ?_ | refine pu_sub ?_ | refine pu_mul ?_ | refine pu_neg ?_ | refine fa_at ?_ | refine nl_ptr ?_ | refine ex20 ?_ | refine ex21 ?_ | refine ex30 ?_ | refine ex31 ?_ | refine ex32 ?_ | refine ln_rule ?_ | refine lnT_rule ?_ | refine pu_and ?_ | refine pu_or ?_ | refine pu_xor ?_ | refine pu_seq ?_ | refine pu_sne ?_)
    have e4 : IntKind.i64.wrap ((t.m.pc : Int) + 1) = ((t.m.pc + 1 : Nat) : Int) := by rw [wrap64_in (by omega) (by omega)]; omega
    rw [e4]
    have hl : lo.length * 4 + 1 < (pre ++ (t.row ++ post)).length := by rw [List.length_append, hv.pl, List.length_append]; simp [FE.row, frow]; omega
    refine st1_here (A := [_]) hw6 rfl rfl hl (fun w7 hw7 => ?_)
    rw [row_set hv.pl (by simp [FE.row, frow])] at hw7
    have hs1 : (SK.up s g pre post (t.setPc (t.m.pc + 1)) lo).ok p F := SK.up_ok hs hes hup (setPc_ok hto)
    have hw7 : Ow B w7 ((SK.up s g pre post (t.setPc (t.m.pc + 1)) lo).hp p ++ ((bi, iO i) :: (be, cel [vI 0] T.t_api_Errno) :: R)) := by rw [SK.up_hp]; exact hw7
    generalize hs1' : SK.up s g pre post (t.setPc (t.m.pc + 1)) lo = s1 at *
    have hb1 : s1.b = s.b := by rw [← hs1']; rfl
    have hF1 : s1.vF = s.vF := by rw [← hs1']; rfl
    have he1 : s1.es = t.setPc (t.m.pc + 1) :: lo := by rw [← hs1']; rfl
    have hr1 : s1.res = s.res := by rw [← hs1']; rfl
    refine ⟨fun w => Ow B w [(bi, iO i)], ?_, ?_⟩
    · exact hw7.drew.sub ((List.Sublist.cons_cons _ (List.nil_sublist _)).trans (List.sublist_append_right _ _))
    repeat (first | refine pu_not ?_ | refine pu_eql ?_ | refine pu_neq ?_ | refine pu_lss ?_ | refine pu_leq ?_ | refine pu_gtr ?_ | refine pu_geq ?_ | refine pu_add ?_ | refine pu_sub ?_ | refine pu_mul ?_ | refine pu_neg ?_ | refine fa_at ?_ | refine nl_ptr ?_ | refine ex20 ?_ | refine ex21 ?_ | refine ex30 ?_ | refine ex31 ?_ | refine ex32 ?_ | refine ln_rule ?_ | refine lnT_rule ?_ | refine pu_and ?_ | refine pu_or ?_ | refine pu_xor ?_ | refine pu_seq ?_ | refine pu_sne ?_)
    refine lds_here (fun w h => h) (.head _) (v := vI i.op) rfl ?_
    refine ldsn_here (fun w h => h) (.head _) (vs := i.cells) rfl rfl ?_
    refine does_spec hw7.drew (fun bm w8 hw8 => ⟨?_, ?_⟩)
    · exact hw8.sub ((List.Sublist.cons_cons _ (List.nil_sublist _)).trans ((List.sublist_append_right _ _).trans (List.sublist_cons_self _ _)))
    refine lkf_rule hw8 (.head _) und_sdoes und_op (z := .nilFunc) (by kernel_rfl) ⟨?_, ?_⟩
    · exact hw8.sub ((List.Sublist.cons_cons _ (List.nil_sublist _)).trans ((List.sublist_append_right _ _).trans (List.sublist_cons_self _ _)))
    have hw9 : Ow B w8 (s1.hp p ++ ((bm, mpo .i64 doesS) :: (bi, iO i) :: (be, cel [vI 0] T.t_api_Errno) :: R)) := hw8.perm List.perm_middle.symm
    have hloc : localI i = true := by
      unfold refE at hr
      cases hl : localI i
      · rw [if_pos hl] at hr; cases hr
      · rfl
    have sf1 : Safe p { (t.setPc (t.m.pc + 1)).m with pc := (t.setPc (t.m.pc + 1)).m.pc - 1 } (lo.map FE.m) f i := sf
    rw [← hb1]
    refine done_spec hs1 (fun x hx => .tail _ (.tail _ (.tail _ (hF x hx)))) he1 sf1 (Nat.succ_le_succ (Nat.zero_le _)) hloc hlen' hw9 (fun s2 r w10 q1 q2 q3 hs2 hw10 => ?_)
    have hw10 : Ow B w10 ([] ++ (be, cel [vI 0] T.t_api_Errno) :: (s2.hp p ++ R)) := by
      have := hw10.perm (List.perm_append_comm_assoc (s2.hp p) [(bm, mpo .i64 doesS), (bi, iO i), (be, cel [vI 0] T.t_api_Errno)] R)
      exact Ow.drop (p := (bi, iO i)) (Ow.drop (p := (bm, mpo .i64 doesS)) this)
    refine st1_here hw10 rfl rfl (by simp) (fun w11 hw11 => ?_)
    refine stack_lv_ret ?_
    refine ld_here hw11 (.head _) rfl ?_
    rw [hstep] at k
    refine k s2 w11 (q1.trans hb1) (q2.trans hF1) ?_ hs2 (Ow.drop hw11)
    rw [q3, hr1]
    rfl
end
end Go.Proofs.YtkkkcafkepnecaaGreat

/-! Stacks: clones of registers and of frames. -/
set_option linter.unusedVariables false
set_option linter.unusedSimpArgs false
namespace Go.Proofs.YtkkkcafkepnecaaGreat.Vc
open Go Go.RowKit
section
variable {P : Program} {B w : World} {H : Hp} {K : Value → Prop} {KU : World → Prop} {t e : TypeId}
theorem Sls.src {X : Hp} {s : Value} {size : Nat} {rows : List (List Value)} (hs : Sls X s size rows) (h0 : 0 < size) : Src X s rows.length size rows.flatten := by
  obtain ⟨a, cap, hse, q1, q2, q3, q4⟩ := id hs
  have hfl := flatten_len' q3
  refine ⟨hfl, a, cap, hse, fun j y hj => ?_⟩
  have hjl := (List.getElem?_eq_some_iff.1 hj).1
  have hd : j / size < rows.length := Nat.div_lt_of_lt_mul (by rw [Nat.mul_comm]; omega)
  have hm := Nat.mod_lt j h0
  have hjj : j / size * size + j % size = j := by rw [Nat.mul_comm]; exact Nat.div_add_mod j size
  obtain ⟨p, hpa, hc⟩ := q4 (j / size) rows[j / size] (List.getElem?_eq_getElem hd)
  refine ⟨p, hpa, ?_⟩
  have hxl := q3 _ (List.getElem_mem hd)
  have hr : rows[j / size][j % size]? = some (rows[j / size][j % size]'(by omega)) := List.getElem?_eq_getElem _
  have := flatten_at hr rows (j / size) q3 (List.getElem?_eq_getElem hd)
  rw [hjj, hj] at this
  have h2 := hc (j % size) _ hr
  rw [hjj, ← Option.some.inj this] at h2
  exact h2
theorem flatten_setr {size : Nat} {r' : List Value} : ∀ {rows : List (List Value)} {i : Nat}, (∀ x ∈ rows, x.length = size) → i < rows.length → rows.flatten.take (i * size) ++ r' ++ rows.flatten.drop (i * size + size) = (rows.set i r').flatten
  | [], i, _, h => by simp at h
  | z :: rows, 0, hz, h => by
    have hl := hz z (.head _)
    simp only [Nat.zero_mul, List.take_zero, List.nil_append, Nat.zero_add, List.flatten_cons, List.set_cons_zero]
    rw [List.drop_left' hl]
  | z :: rows, i + 1, hz, h => by
    have hl := hz z (.head _)
    have e : (i + 1) * size = z.length + i * size := by rw [hl, Nat.add_mul, Nat.one_mul]; omega
    have ih := flatten_setr (r' := r') (fun x hx => hz x (.tail _ hx)) (i := i) (by simpa using h)
    rw [List.flatten_cons, List.set_cons_succ, List.flatten_cons, e, List.take_length_add_append, Nat.add_assoc, List.drop_length_add_append, ← ih]
    simp only [List.append_assoc]
/-- A write of an element of an own slice. -/
theorem own_setr {A C S : Hp} {v : Value} {size : Nat} {rows : List (List Value)} {r' : List Value} {i : Int} {kd : IntKind} (h : Ow B w (A ++ S ++ C)) (ho : Own S e size v rows.length rows.flatten) (hl : ∀ x ∈ rows, x.length = size) (h0 : 0 ≤ i) (hi : i.toNat < rows.length) (hr : r'.length = size)
    (hp : r'.all plainV = true) (k : ∀ S' w', Ow B w' (A ++ S' ++ C) → Own S' e size v rows.length (rows.set i.toNat r').flatten → KU w') : ixS size v (.int kd i) fun p => stW size p (.agg r'.toArray) KU w := by
  have hfl := flatten_len' hl
  obtain ⟨hl0, ⟨rfl, rfl, h00⟩ | ⟨g, cap, l, rfl, rfl, hcap, hm, hlen, hx⟩⟩ := ho
  · omega
  · have hb : i.toNat * size + size ≤ rows.length * size := by
      have : (i.toNat + 1) * size ≤ rows.length * size := Nat.mul_le_mul_right _ hi
      rw [Nat.add_mul, Nat.one_mul] at this
      omega
    have hcs : rows.length * size ≤ cap * size := Nat.mul_le_mul_right _ hcap
    refine ixS_at h0 (by omega) ?_
    have h' : Ow B w (A ++ (g, cel l e) :: C) := by simpa using h
    refine st_here h' r' rfl hr hp (by omega) (fun w' hw' => ?_)
    simp only [Nat.zero_add] at hw'
    refine k [(g, cel (l.take (i.toNat * size) ++ r' ++ l.drop (i.toNat * size + size)) e)] w' (by simpa using hw') ?_
    refine Own.mk hcap hm ?_ ?_
    · simp only [List.length_append, List.length_take, List.length_drop, hr]
      omega
    · rw [← flatten_setr (r' := r') hl hi, ← hx]
      generalize rows.length * size = N at *
      generalize i.toNat * size = a at *
      apply List.ext_getElem?
      intro j
      simp only [List.getElem?_append, List.getElem?_take, List.getElem?_drop, List.length_take, List.length_append]
      grind
end
end Go.Proofs.YtkkkcafkepnecaaGreat.Vc
namespace Go.Proofs.YtkkkcafkepnecaaGreat
open Go Go.RowKit Vc Ar
attribute [local irreducible] binV Op.unary convert nlW faW ldS ldW ixS ixA ixV ixT exW lnS lnT pu stW alW opW opU bsW mkW

section
variable {B w : World} {H X F Q R : Hp} {K : Value → World → Prop} {PK : List PanicEntry → World → Prop} {KK : Value → Prop} {p : Pr} {s : SK} {m : Frm} {c : Value}
theorem cloneU_spec {s : Value} {ws : List Int} (h : Ow B w H) (hs : Sl X s (rgs ws)) (hX : ∀ x, x ∈ X → x ∈ H) (hl : ws.length ≤ 1000000) (k : ∀ S v w', Ow B w' (S ++ H) → Vc.Own S T.t_uint32 1 v ws.length (rgs ws) → K v w') : callW PG N.slices_Clone_sl_uint32_uint32 [s] K PK w := by
  refine slices_Clone_sl_uint32_uint32.ok ?_
  unfold slices_Clone_sl_uint32_uint32.C
  obtain ⟨a, cap, hse, q1, q2⟩ := id hs
  have hwl : (rgs ws).length = ws.length := by simp [rgs]
  have hgoal : ∀ (KK : Value → Prop), KK (vB a.isNone) → pu PG (binV .eql T.t_sl_uint32 true s (.slice none 0 0)) KK := fun KK k => by
    rw [hse]; exact pu_slnil und_slu k
  refine hgoal _ ?_
  refine cnd (fun hn => ?_) (fun hn => ?_)
  · have ha : a = none := by simpa using hn
    have : ws = [] := by
      cases ws with
      | nil => rfl
      | cons x l => obtain ⟨p, hp, _⟩ := q2 0 _ rfl; rw [ha] at hp; cases hp
    subst this
    exact k [] _ _ h (own_none _ _)
  · refine bs_rule h [] (by kernel_rfl) (fun b1 w1 h1 => ?_)
    refine app1 (A := []) (S := [(b1, cel [] T.t_uint32)]) (xs := []) (n := 0) h1 (Own.mk (n := 0) (cap := 0) (xs := []) (Nat.le_refl _) (Nat.zero_le _) rfl rfl) hs (fun y hy => .tail _ (hX y hy)) (rgs_plain ws) und_slu info_u rfl (by rw [hwl]; simp [maxLen]; omega) (by rw [hwl]; omega) (fun S v w2 h2 ho => ?_)
    refine k S v w2 h2 ?_
    simpa [hwl] using ho
theorem fr_plain {S : Hp} {n : Nat} {l : List Value} {c : Value} (m : Frm) (h : Vc.Own S T.t_uint32 1 c n l) : (frow m c).all plainV = true := by
  obtain ⟨a, c', rfl⟩ := h.len
  rfl
theorem fr_plain' {l : List Value} {c : Value} (m : Frm) (h : Sl X c l) : (frow m c).all plainV = true := by
  obtain ⟨a, c', rfl⟩ := h.len
  rfl
/-- A function value that tells a frame with own registers. -/
def Cloner (B : World) (g : Value) : Prop := ∀ (H X : Hp) (K : Value → World → Prop) (PK : List PanicEntry → World → Prop) (w : World) (m : Frm) (c : Value), Ow B w H → Sl X c (rgs m.regs) → (∀ x, x ∈ X → x ∈ H) → m.regs.length ≤ 1000 →
  (∀ S c' w', Ow B w' (S ++ H) → ({ S := S, c := c', m := m } : FE).ok → K (.agg (frow m c').toArray) w') → callV PG g [.agg (frow m c).toArray] K PK w
theorem cloned_spec (h : Ow B w H) (hc : Sl X c (rgs m.regs)) (hX : ∀ x, x ∈ X → x ∈ H) (hl : m.regs.length ≤ 1000) (k : ∀ S c' w', Ow B w' (S ++ H) → ({ S := S, c := c', m := m } : FE).ok → K (.agg (frow m c').toArray) w') : callW PG N.stack_cloned [.agg (frow m c).toArray] K PK w := by
  refine stack_cloned.ok ?_
  unfold stack_cloned.C
  refine al_rule h (l := frow m c) rfl (fun b1 w1 h1 => ?_)
  refine al_rule h1 (l := zfrm) (by kernel_rfl) (fun b2 w2 h2 => ?_)
  repeat (first | refine pu_not ?_ | refine pu_eql ?_ | refine pu_neq ?_ | refine pu_lss ?_ | refine pu_leq ?_ | refine pu_gtr ?_ | refine pu_geq ?_ | refine pu_add ?_ | refine pu_sub ?_ | refine pu_mul ?_ | refine pu_neg ?_ | refine fa_at ?_ | refine nl_ptr ?_ | refine ex20 ?_ | refine ex21 ?_ | refine ex30 ?_ | refine ex31 ?_ | refine ex32 ?_ | refine ln_rule ?_ | refine lnT_rule ?_ | refine pu_and ?_ | refine pu_or ?_ | refine pu_xor ?_ | refine pu_seq ?_ | refine pu_sne ?_)
  refine ld_here h2 (.tail _ (.head _)) (v := c) rfl ?_
  refine cloneU_spec h2 hc (fun x hx => .tail _ (.tail _ (hX x hx))) (by omega) (fun S c' w3 h3 ho => ?_)
  obtain ⟨a0, n0, hc'⟩ := ho.len
  repeat (first | refine pu_not ?_ | refine pu_eql ?_ | refine pu_neq ?_ | refine pu_lss ?_ | refine pu_leq ?_ | refine pu_gtr ?_ | refine pu_geq ?_ | refine pu_add ?_ | refine pu_sub ?_ | refine pu_mul ?_ | refine pu_neg ?_ | refine fa_at ?_ | refine nl_ptr ?_ | refine ex20 ?_ | refine ex21 ?_ | refine ex30 ?_ | refine ex31 ?_ | refine ex32 ?_ | refine ln_rule ?_ | refine lnT_rule ?_ | refine pu_and ?_ | refine pu_or ?_ | refine pu_xor ?_ | refine pu_seq ?_ | refine pu_sne ?_)
  have h3 : Ow B w3 ((S ++ [(b2, cel zfrm T.t_api_Frame)]) ++ (b1, cel (frow m c) T.t_api_Frame) :: H) := by simpa using h3
  refine st1_here h3 (by rw [hc']; rfl) (by rw [hc']; rfl) (by simp [frow]) (fun w4 h4 => ?_)
  have e4 : (frow m c).set (0 + 3) c' = frow m c' := rfl
  rw [e4] at h4
  refine ldn_here h4 (List.mem_append_right _ (.head _)) (vs := frow m c') rfl rfl ?_
  have h4 : Ow B w4 (S ++ (b2, cel zfrm T.t_api_Frame) :: (b1, cel (frow m c') T.t_api_Frame) :: H) := by simpa using h4
  refine st_here h4 (frow m c') rfl rfl (fr_plain m ho) (by simp) (fun w5 h5 => ?_)
  simp only [List.take_zero, List.nil_append, Nat.zero_add, List.drop_succ_cons, List.drop_zero, List.drop_nil, List.append_nil] at h5
  refine ldn_here h5 (List.mem_append_right _ (.head _)) (vs := frow m c') rfl rfl ?_
  exact k S c' w5 (h5.sub ((List.Sublist.refl _).append (.cons _ (.cons _ (.refl _))))) ho
theorem cloned_cl : Cloner B (fnc N.stack_cloned #[]) := fun H X K PK w m c h hc hX hl k => callV_fn stack_cloned.okf (cloned_spec h hc hX hl k)
theorem frames1_cl : Cloner B (fnc N.stack_Stack_Frames_1 #[]) := fun H X K PK w m c h hc hX hl k => by
  refine callV_fn stack_Stack_Frames_1.okf (stack_Stack_Frames_1.ok ?_)
  unfold stack_Stack_Frames_1.C
  refine al_rule h (l := frow m c) rfl (fun b1 w1 h1 => ?_)
  refine al_rule h1 (l := zfrm) (by kernel_rfl) (fun b2 w2 h2 => ?_)
  refine ldn_here h2 (.tail _ (.head _)) (vs := frow m c) rfl rfl ?_
  refine cloned_spec h2 hc (fun x hx => .tail _ (.tail _ (hX x hx))) hl (fun S c' w3 h3 ho => ?_)
  refine st_here h3 (frow m c') rfl rfl (fr_plain m ho) (by simp) (fun w5 h5 => ?_)
  simp only [List.take_zero, List.nil_append, Nat.zero_add, List.drop_succ_cons, List.drop_zero, List.drop_nil, List.append_nil] at h5
  refine ldn_here h5 (List.mem_append_right _ (.head _)) (vs := frow m c') rfl rfl ?_
  exact k S c' w5 (h5.sub ((List.Sublist.refl _).append (.cons _ (.cons _ (.refl _))))) ho
/-- Frames as they lie in memory. -/
def lrows (L : List (Value × Frm)) : List (List Value) := L.map fun q => frow q.2 q.1
def drows (l : List FE) : List (List Value) := l.map FE.row
theorem lrows_four (L : List (Value × Frm)) : ∀ x ∈ lrows L, x.length = 4 := fun x hx => by
  obtain ⟨e, _, rfl⟩ := List.mem_map.1 hx
  rfl
theorem drows_four (L : List FE) : ∀ x ∈ drows L, x.length = 4 := fun x hx => by
  obtain ⟨e, _, rfl⟩ := List.mem_map.1 hx
  rfl
theorem cloneFr_spec {s : Value} {rows : List (List Value)} (h : Ow B w H) (hs : Sls X s 4 rows) (hp : rows.flatten.all plainV = true) (hX : ∀ x, x ∈ X → x ∈ H) (hl : rows.length ≤ 1000) (k : ∀ S v w', Ow B w' (S ++ H) → Vc.Own S T.t_api_Frame 4 v rows.length rows.flatten → K v w') : callW PG N.slices_Clone_sl_api_Frame_api_Frame [s] K PK w := by
  refine slices_Clone_sl_api_Frame_api_Frame.ok ?_
  unfold slices_Clone_sl_api_Frame_api_Frame.C
  obtain ⟨a, cap, hse, q1, q2, q3, q4⟩ := id hs
  have hgoal : ∀ (KK : Value → Prop), KK (vB a.isNone) → pu PG (binV .eql T.t_sl_api_Frame true s (.slice none 0 0)) KK := fun KK k => by
    rw [hse]; exact pu_slnil und_slfrm k
  refine hgoal _ ?_
  refine cnd (fun hn => ?_) (fun hn => ?_)
  · have ha : a = none := by simpa using hn
    have : rows = [] := by
      cases rows with
      | nil => rfl
      | cons x l => obtain ⟨p, hp, _⟩ := q4 0 x rfl; rw [ha] at hp; cases hp
    subst this
    exact k [] _ _ h (own_none _ _)
  · refine bs_rule h [] (by kernel_rfl) (fun b1 w1 h1 => ?_)
    obtain ⟨inf, i1, i2, i3, i4⟩ := info_of info_frm
    refine app_rule (A := []) (S := [(b1, cel [] T.t_api_Frame)]) (xs := []) (n := 0) h1 (Own.mk (n := 0) (cap := 0) (xs := []) (Nat.le_refl _) (Nat.zero_le _) rfl rfl) (Sls.src hs (by omega)) (fun y hy => .tail _ (hX y hy)) hp und_slfrm i1 i2 i3 i4 rfl (by omega) (by simp [maxLen]; omega) (by omega) (fun S v w2 h2 ho => ?_)
    refine k S v w2 h2 ?_
    simpa using ho
theorem copied_spec {s g : Value} {L : List (Value × Frm)} (h : Ow B w H) (hs : Sls X s 4 (lrows L)) (hc : ∀ q ∈ L, Sl X q.1 (rgs q.2.regs) ∧ q.2.regs.length ≤ 1000) (hX : ∀ x, x ∈ X → x ∈ H) (hlen : L.length ≤ 1000) (hg : Cloner B g)
    (k : ∀ Sf v' don w', don.map FE.m = L.map Prod.snd → (∀ e ∈ don, e.ok) → Vc.Own Sf T.t_api_Frame 4 v' (drows don).length (drows don).flatten → Ow B w' (Sf ++ (ffoot don ++ H)) → K v' w') : callW PG N.stack_copied_api_Frame [s, g] K PK w := by
  refine stack_copied_api_Frame.ok ?_
  unfold stack_copied_api_Frame.C
  have hfl : (lrows L).length = L.length := by simp [lrows]
  have hfp : (lrows L).flatten.all plainV = true := by
    refine List.all_eq_true.2 fun u hu => ?_
    obtain ⟨x, hx, hu⟩ := List.mem_flatten.1 hu
    obtain ⟨q, hq, rfl⟩ := List.mem_map.1 hx
    exact List.all_eq_true.1 (fr_plain' q.2 (hc q hq).1) u hu
  refine cloneFr_spec h hs hfp hX (by omega) (fun S v' w3 h3 ho => ?_)
  obtain ⟨a0, c0, hv'⟩ := ho.len
  have hln : ∀ KK : Value → Prop, KK (vI L.length) → lnS v' KK := fun KK kk => by rw [hv', ← hfl] at *; exact ln_rule kk
  refine hln _ ?_
  refine ⟨fun l w => ∃ (n : Nat) (Sf : Hp) (don : List FE), l = [vI n] ∧ n ≤ L.length ∧ don.length = n ∧ don.map FE.m = (L.map Prod.snd).take n ∧ (∀ e ∈ don, e.ok) ∧ Vc.Own Sf T.t_api_Frame 4 v' (drows don ++ (lrows L).drop n).length (drows don ++ (lrows L).drop n).flatten ∧ Ow B w (Sf ++ (ffoot don ++ H)),
    fun l _ => match l with | [.int _ q] => L.length - q.toNat | _ => 0, ⟨0, S, [], rfl, Nat.zero_le _, rfl, rfl, by simp, by simpa [drows] using ho, h3⟩, ?_⟩
  clear h3 ho
  rintro l w5 ⟨n, Sf, don, rfl, hn, hdl, hdf, hdo, ho, h5⟩ j
  have two : ∀ x ∈ drows don ++ (lrows L).drop n, x.length = 4 := fun x hx => (List.mem_append.1 hx).elim (drows_four don x) fun h => lrows_four L x (List.mem_of_mem_drop h)
  have hcl : (drows don).length = n := by simp [drows, hdl]
  repeat (first | refine pu_not ?_ | refine pu_eql ?_ | refine pu_neq ?_ | refine pu_lss ?_ | refine pu_leq ?_ | refine pu_gtr ?_ | refine pu_geq ?_ | refine pu_add ?_ | refine pu_sub ?_ | refine pu_mul ?_ | refine pu_neg ?_ | refine fa_at ?_ | refine nl_ptr ?_ | refine ex20 ?_ | refine ex21 ?_ | refine ex30 ?_ | refine ex31 ?_ | refine ex32 ?_ | refine ln_rule ?_ | refine lnT_rule ?_ | refine pu_and ?_ | refine pu_or ?_ | refine pu_xor ?_ | refine pu_seq ?_ | refine pu_sne ?_)
  refine cnd (fun hlt => ?_) (fun hlt => ?_)
  · have hlt : n < L.length := by simpa using hlt
    obtain ⟨⟨c, f⟩, hq⟩ : ∃ q, L[n]? = some q := ⟨_, List.getElem?_eq_getElem hlt⟩
    obtain ⟨q1, q2⟩ := hc _ (List.mem_of_getElem? hq)
    have hdrop : (lrows L).drop n = frow f c :: (lrows L).drop (n + 1) := by
      rw [List.drop_eq_getElem_cons (by omega)]
      congr 1
      have : (lrows L)[n]? = some (frow f c) := by rw [lrows, List.getElem?_map, hq]; rfl
      rw [List.getElem?_eq_getElem (by omega)] at this
      exact Option.some.inj this
    have hat : (drows don ++ (lrows L).drop n)[(n : Int).toNat]? = some (frow f c) := by
      rw [Int.toNat_natCast, List.getElem?_append_right (by omega), hcl, Nat.sub_self, hdrop]; rfl
    refine sls_ld h5 ((own_sls two ho).mono fun x hx => List.mem_append_left _ hx) (by omega) hat ?_
    refine al_rule h5 (l := zfrm) (by kernel_rfl) (fun b6 w6 h6 => ?_)
    refine st_here (A := []) h6 (frow f c) rfl rfl (fr_plain' f q1) (by simp) (fun w7 h7 => ?_)
    simp only [List.take_zero, List.nil_append, Nat.zero_add, List.drop_succ_cons, List.drop_zero, List.drop_nil, List.append_nil] at h7
    refine ldn_here h7 (.head _) (vs := frow f c) rfl rfl ?_
    refine hg _ X _ _ _ f c h7 q1 (fun x hx => .tail _ (List.mem_append_right _ (List.mem_append_right _ (hX x hx)))) q2 (fun S' c' w8 h8 ho' => ?_)
    have h8 : Ow B w8 ((S' ++ [(b6, cel (frow f c) T.t_api_Frame)]) ++ Sf ++ (ffoot don ++ H)) := by simpa using h8
    refine own_setr (r' := frow f c') h8 ho two (by omega) ((List.getElem?_eq_some_iff.1 hat).1) rfl (fr_plain f ho') (fun Sf' w9 h9 ho9 => ?_)
    repeat (first | refine pu_not ?_ | refine pu_eql ?_ | refine pu_neq ?_ | refine pu_lss ?_ | refine pu_leq ?_ | refine pu_gtr ?_ | refine pu_geq ?_ | refine pu_add ?_ | refine pu_sub ?_ | refine pu_mul ?_ | refine pu_neg ?_ | refine fa_at ?_ | refine nl_ptr ?_ | refine ex20 ?_ | refine ex21 ?_ | refine ex30 ?_ | refine ex31 ?_ | refine ex32 ?_ | refine ln_rule ?_ | refine lnT_rule ?_ | refine pu_and ?_ | refine pu_or ?_ | refine pu_xor ?_ | refine pu_seq ?_ | refine pu_sne ?_)
    rw [wrap64_in (by omega) (by omega)]
    have hset : (drows don ++ (lrows L).drop n).set (n : Int).toNat (frow f c') = drows (don ++ [⟨S', c', f⟩]) ++ (lrows L).drop (n + 1) := by
      rw [Int.toNat_natCast, List.set_append_right _ _ (by omega), hcl, Nat.sub_self, hdrop]
      unfold drows
      rw [List.map_append, List.append_assoc]
      rfl
    rw [hset] at ho9
    refine ⟨⟨n + 1, Sf', don ++ [⟨S', c', f⟩], rfl, hlt, by simp [hdl], ?_, ?_, ?_, ?_⟩, by simp; omega⟩
    · rw [List.map_append, hdf, List.take_add_one, List.getElem?_map, hq]; rfl
    · intro e he
      rcases List.mem_append.1 he with he | he
      · exact hdo e he
      · rw [List.mem_singleton.1 he]; exact ho'
    · have hl2 : (drows don ++ (lrows L).drop n).length = (drows (don ++ [⟨S', c', f⟩]) ++ (lrows L).drop (n + 1)).length := by rw [← hset, List.length_set]
      rw [← hl2]; exact ho9
    · have h10 : Ow B w9 (S' ++ (Sf' ++ (ffoot don ++ H))) := h9.sub (by
        rw [List.append_assoc, List.append_assoc]
        exact (List.Sublist.refl S').append (.cons _ (.refl _)))
      have hcf : ffoot (don ++ [⟨S', c', f⟩]) = ffoot don ++ S' := by simp [ffoot]
      rw [hcf, List.append_assoc]
      refine h10.perm ((List.perm_append_comm_assoc S' Sf' _).trans (List.Perm.append_left Sf' (List.perm_append_comm_assoc S' (ffoot don) H)))
  · obtain rfl : n = L.length := by simp at hlt; omega
    have hdn : (lrows L).drop L.length = [] := List.drop_eq_nil_of_le (by omega)
    rw [hdn, List.append_nil] at ho
    have hdf : don.map FE.m = L.map Prod.snd := by rw [hdf]; exact List.take_of_length_le (by simp)
    exact k Sf v' don _ hdf hdo ho h5
end
end Go.Proofs.YtkkkcafkepnecaaGreat

/-! Stacks: New; what is told; Pass; Copy. -/
set_option linter.unusedVariables false
set_option linter.unusedSimpArgs false
namespace Go.Proofs.YtkkkcafkepnecaaGreat
open Go Go.RowKit Vc Ar
attribute [local irreducible] binV Op.unary convert nlW faW ldS ldW ixS ixA ixV ixT exW lnS lnT pu stW alW opW opU bsW mkW

section
variable {B w : World} {H X F Q R : Hp} {K : Value → World → Prop} {PK : List PanicEntry → World → Prop} {KK : Value → Prop} {b n cap g : Nat} {c pre post : List Value} {t u : FE} {i : Ins} {p : Pr} {s : SK} {lo : List FE} {f : Fun} {v a : Value}
theorem SK.in {s : SK} {x : Nat × Obj} : (s.b, stO (s.cell p)) ∈ s.hp p ++ R := .head _
theorem sk_none (h : Ow B w H) (hm : (s.b, stO (s.cell p)) ∈ H) (k : K (vB false) w) : callW PG N.stack_Stack_none [ptr s.b] K PK w := none_at h hm rfl k
theorem SK.vln (hs : s.ok p F) (k : KK (vI s.es.length)) : lnS s.vfr KK := by
  obtain ⟨a0, c0, hv0, _⟩ := hs.fro.len
  rw [frw_len] at hv0
  rw [hv0]; exact ln_rule k
theorem depth_spec (hs : s.ok p F) (h : Ow B w H) (hm : (s.b, stO (s.cell p)) ∈ H) (k : K (vI s.es.length) w) : callW PG N.stack_Stack_Depth [ptr s.b] K PK w := by
  refine stack_Stack_Depth.ok ?_
  unfold stack_Stack_Depth.C
  refine sk_none h hm (cnd_f rfl ?_)
  repeat (first | refine pu_not ?_ | refine pu_eql ?_ | refine pu_neq ?_ | refine pu_lss ?_ | refine pu_leq ?_ | refine pu_gtr ?_ | refine pu_geq ?_ | refine pu_add ?_ | refine pu_sub ?_ | refine pu_mul ?_ | refine pu_neg ?_ | refine fa_at ?_ | refine nl_ptr ?_ | refine ex20 ?_ | refine ex21 ?_ | refine ex30 ?_ | refine ex31 ?_ | refine ex32 ?_ | refine ln_rule ?_ | refine lnT_rule ?_ | refine pu_and ?_ | refine pu_or ?_ | refine pu_xor ?_ | refine pu_seq ?_ | refine pu_sne ?_)
  refine ld_here h hm (v := s.vfr) rfl ?_
  exact SK.vln hs k
theorem result_spec (h : Ow B w H) (hm : (s.b, stO (s.cell p)) ∈ H) (k : K (vU s.res) w) : callW PG N.stack_Stack_Result [ptr s.b] K PK w := by
  refine stack_Stack_Result.ok ?_
  unfold stack_Stack_Result.C
  refine sk_none h hm (cnd_f rfl ?_)
  repeat (first | refine pu_not ?_ | refine pu_eql ?_ | refine pu_neq ?_ | refine pu_lss ?_ | refine pu_leq ?_ | refine pu_gtr ?_ | refine pu_geq ?_ | refine pu_add ?_ | refine pu_sub ?_ | refine pu_mul ?_ | refine pu_neg ?_ | refine fa_at ?_ | refine nl_ptr ?_ | refine ex20 ?_ | refine ex21 ?_ | refine ex30 ?_ | refine ex31 ?_ | refine ex32 ?_ | refine ln_rule ?_ | refine lnT_rule ?_ | refine pu_and ?_ | refine pu_or ?_ | refine pu_xor ?_ | refine pu_seq ?_ | refine pu_sne ?_)
  refine ld_here h hm (v := vU s.res) rfl ?_
  exact k
def zeroNext : Value := .tuple #[.agg (bare 0).cells.toArray, .agg #[vI 0, vI 0], vB false]
theorem next_end (hs : s.ok p F) (he : s.es = []) (h : Ow B w H) (hm : (s.b, stO (s.cell p)) ∈ H) (k : ∀ w', Ow B w' H → K zeroNext w') : callW PG N.stack_Stack_Next [ptr s.b] K PK w := by
  refine stack_Stack_Next.ok ?_
  unfold stack_Stack_Next.C
  refine al_rule h (l := (bare 0).cells) zins (fun b1 w1 h1 => ?_)
  refine al_rule h1 (l := [vI 0, vI 0]) (by kernel_rfl) (fun b2 w2 h2 => ?_)
  refine depth_spec hs h2 (.tail _ (.tail _ hm)) ?_
  rw [he]
  repeat (first | refine pu_not ?_ | refine pu_eql ?_ | refine pu_neq ?_ | refine pu_lss ?_ | refine pu_leq ?_ | refine pu_gtr ?_ | refine pu_geq ?_ | refine pu_add ?_ | refine pu_sub ?_ | refine pu_mul ?_ | refine pu_neg ?_ | refine fa_at ?_ | refine nl_ptr ?_ | refine ex20 ?_ | refine ex21 ?_ | refine ex30 ?_ | refine ex31 ?_ | refine ex32 ?_ | refine ln_rule ?_ | refine lnT_rule ?_ | refine pu_and ?_ | refine pu_or ?_ | refine pu_xor ?_ | refine pu_seq ?_ | refine pu_sne ?_)
  refine cnd_t rfl ?_
  refine pu_build (bare 0).cells (by kernel_rfl) ?_
  refine pu_build [vI 0, vI 0] (by kernel_rfl) ?_
  refine st_here (A := [_]) h2 (bare 0).cells rfl rfl (ins_plain _) (by simp [Ins.cells]) (fun w3 h3 => ?_)
  have e3 : (bare 0).cells.take 0 ++ (bare 0).cells ++ (bare 0).cells.drop (0 + 5) = (bare 0).cells := rfl
  rw [e3] at h3
  refine st_here (A := []) h3 [vI 0, vI 0] rfl rfl rfl (by simp) (fun w4 h4 => ?_)
  refine ldn_here h4 (.tail _ (.head _)) (vs := (bare 0).cells) rfl rfl ?_
  refine ldn_here h4 (.head _) (vs := [vI 0, vI 0]) rfl rfl ?_
  exact k _ (Ow.drop (Ow.drop h4))
theorem next_at (hs : s.ok p F) (he : s.es = t :: lo) (hF : ∀ x, x ∈ F → x ∈ R) (h1 : p.fs[t.m.fn]? = some f) (h2 : f.code[t.m.pc]? = some i) (h : Ow B w (s.hp p ++ R)) (k : ∀ w', Ow B w' (s.hp p ++ R) → K (.tuple #[.agg i.cells.toArray, .agg #[vI t.m.fn, vI t.m.pc], vB true]) w') : callW PG N.stack_Stack_Next [ptr s.b] K PK w := by
  refine stack_Stack_Next.ok ?_
  unfold stack_Stack_Next.C
  refine al_rule h (l := (bare 0).cells) zins (fun b1 w1 hw1 => ?_)
  refine al_rule hw1 (l := [vI 0, vI 0]) (by kernel_rfl) (fun b2 w2 hw2 => ?_)
  refine depth_spec hs hw2 (.tail _ (.tail _ (.head _))) ?_
  rw [he]
  repeat (first | refine pu_not ?_ | refine pu_eql ?_ | refine pu_neq ?_ | refine pu_lss ?_ | refine pu_leq ?_ | refine pu_gtr ?_ | refine pu_geq ?_ | refine pu_add ?_ | refine pu_sub ?_ | refine pu_mul ?_ | refine pu_neg ?_ | refine fa_at ?_ | refine nl_ptr ?_ | refine ex20 ?_ | refine ex21 ?_ | refine ex30 ?_ | refine ex31 ?_ | refine ex32 ?_ | refine ln_rule ?_ | refine lnT_rule ?_ | refine pu_and ?_ | refine pu_or ?_ | refine pu_xor ?_ | refine pu_seq ?_ | refine pu_sne ?_)
  refine cnd_f (by simp; omega) ?_
  obtain ⟨g, pre, post, cap, hv, _, _, hh, _⟩ := SK.view hs he
  have hw2' : Ow B w2 ([(b2, cel [vI 0, vI 0] T.t_api_Site), (b1, cel (bare 0).cells T.t_api_Ins)] ++ VH s.b g (s.cell p) pre post t (ffoot lo ++ R)) := by rw [← hh]; exact hw2
  refine vtop hv hw2' (fun w3 hw3 => ?_)
  rw [← hh] at hw3
  have sub : ∀ {w : World} {A : Hp}, Ow B w (A ++ (s.hp p ++ R)) → Ow B w (s.hp p ++ R) := fun h => h.sub (List.sublist_append_right _ _)
  refine ⟨fun w => Ow B w (s.hp p ++ R), sub hw3.drew, ?_⟩
  have mg : (g, frO pre t.row post) ∈ s.hp p ++ R := by rw [hh]; exact .tail _ (.head _)
  repeat (first | refine pu_not ?_ | refine pu_eql ?_ | refine pu_neq ?_ | refine pu_lss ?_ | refine pu_leq ?_ | refine pu_gtr ?_ | refine pu_geq ?_ | refine pu_add ?_ | refine pu_sub ?_ | refine pu_mul ?_ | refine pu_neg ?_ | refine fa_at ?_ | refine nl_ptr ?_ | refine ex20 ?_ | refine ex21 ?_ | refine ex30 ?_ | refine ex31 ?_ | refine ex32 ?_ | refine ln_rule ?_ | refine lnT_rule ?_ | refine pu_and ?_ | refine pu_or ?_ | refine pu_xor ?_ | refine pu_seq ?_ | refine pu_sne ?_)
  refine lds_here (fun w h => h) mg (row_at hv.pl (v := vI t.m.fn) rfl) ?_
  repeat (first | refine pu_not ?_ | refine pu_eql ?_ | refine pu_neq ?_ | refine pu_lss ?_ | refine pu_leq ?_ | refine pu_gtr ?_ | refine pu_geq ?_ | refine pu_add ?_ | refine pu_sub ?_ | refine pu_mul ?_ | refine pu_neg ?_ | refine fa_at ?_ | refine nl_ptr ?_ | refine ex20 ?_ | refine ex21 ?_ | refine ex30 ?_ | refine ex31 ?_ | refine ex32 ?_ | refine ln_rule ?_ | refine lnT_rule ?_ | refine pu_and ?_ | refine pu_or ?_ | refine pu_xor ?_ | refine pu_seq ?_ | refine pu_sne ?_)
  refine lds_here (fun w h => h) mg (row_at hv.pl (v := vI t.m.pc) rfl) ?_
  refine pu_build [vI t.m.fn, vI t.m.pc] (by kernel_rfl) ?_
  have pm : ∀ (A : List (Nat × Obj)), (A ++ (s.hp p ++ R)).Perm (s.hp p ++ (A ++ R)) := fun A => List.perm_append_comm_assoc A (s.hp p) R
  refine sins_spec hs he (fun x hx => List.mem_append_right _ (hF x hx)) h1 h2 (hw3.drew.perm (pm _)) (fun w4 hw4 => ?_)
  have hw4 := hw4.perm (pm _).symm
  refine ⟨sub hw4, ?_⟩
  refine st_here (A := [_]) hw4 i.cells rfl rfl (ins_plain _) (by simp [Ins.cells]) (fun w5 hw5 => ?_)
  have e3 : (bare 0).cells.take 0 ++ i.cells ++ (bare 0).cells.drop (0 + 5) = i.cells := rfl
  rw [e3] at hw5
  refine ⟨hw5.drop.drop, ?_⟩
  refine st_here (A := []) hw5 [vI t.m.fn, vI t.m.pc] rfl rfl rfl (by simp) (fun w6 hw6 => ?_)
  refine ldn_here hw6 (.tail _ (.head _)) (vs := i.cells) rfl rfl ?_
  refine ldn_here hw6 (.head _) (vs := [vI t.m.fn, vI t.m.pc]) rfl rfl ?_
  exact k _ (Ow.drop (Ow.drop hw6))
/-- A register of the top. -/
def regT (l : List Frm) (i : Int) : Int := match l with
  | [] => 0
  | t :: _ => if 0 ≤ i ∧ i < t.regs.length then regR t.regs i else 0
theorem reg_spec {i : Int} (hs : s.ok p F) (h : Ow B w (s.hp p ++ R)) (k : ∀ w', Ow B w' (s.hp p ++ R) → K (vU (regT s.frs i)) w') : callW PG N.stack_Stack_Reg [ptr s.b, vI i] K PK w := by
  refine stack_Stack_Reg.ok ?_
  unfold stack_Stack_Reg.C
  refine depth_spec hs h (.head _) ?_
  cases he : s.es with
  | nil =>
    repeat (first | refine pu_not ?_ | refine pu_eql ?_ | refine pu_neq ?_ | refine pu_lss ?_ | refine pu_leq ?_ | refine pu_gtr ?_ | refine pu_geq ?_ | refine pu_add ?_ | refine pu_sub ?_ | refine pu_mul ?_ | refine pu_neg ?_ | refine fa_at ?_ | refine nl_ptr ?_ | refine ex20 ?_ | refine ex21 ?_ | refine ex30 ?_ | refine ex31 ?_ | refine ex32 ?_ | refine ln_rule ?_ | refine lnT_rule ?_ | refine pu_and ?_ | refine pu_or ?_ | refine pu_xor ?_ | refine pu_seq ?_ | refine pu_sne ?_)
    refine cnd_t rfl ?_
    have := k _ h
    rw [SK.frs, he] at this
    exact this
  | cons t lo =>
    repeat (first | refine pu_not ?_ | refine pu_eql ?_ | refine pu_neq ?_ | refine pu_lss ?_ | refine pu_leq ?_ | refine pu_gtr ?_ | refine pu_geq ?_ | refine pu_add ?_ | refine pu_sub ?_ | refine pu_mul ?_ | refine pu_neg ?_ | refine fa_at ?_ | refine nl_ptr ?_ | refine ex20 ?_ | refine ex21 ?_ | refine ex30 ?_ | refine ex31 ?_ | refine ex32 ?_ | refine ln_rule ?_ | refine lnT_rule ?_ | refine pu_and ?_ | refine pu_or ?_ | refine pu_xor ?_ | refine pu_seq ?_ | refine pu_sne ?_)
    refine cnd_f (by simp; omega) ?_
    have hk : ∀ w', Ow B w' (s.hp p ++ R) → K (vU (if 0 ≤ i ∧ i < t.m.regs.length then regR t.m.regs i else 0)) w' := fun w' h' => by
      have := k w' h'
      rw [SK.frs, he] at this
      exact this
    clear k
    have hto : t.ok := hs.eok t (by rw [he]; exact .head _)
    obtain ⟨g, pre, post, cap, hv, _, _, hh, _⟩ := SK.view hs he
    rw [hh] at h hk
    repeat (first | refine pu_not ?_ | refine pu_eql ?_ | refine pu_neq ?_ | refine pu_lss ?_ | refine pu_leq ?_ | refine pu_gtr ?_ | refine pu_geq ?_ | refine pu_add ?_ | refine pu_sub ?_ | refine pu_mul ?_ | refine pu_neg ?_ | refine fa_at ?_ | refine nl_ptr ?_ | refine ex20 ?_ | refine ex21 ?_ | refine ex30 ?_ | refine ex31 ?_ | refine ex32 ?_ | refine ln_rule ?_ | refine lnT_rule ?_ | refine pu_and ?_ | refine pu_or ?_ | refine pu_xor ?_ | refine pu_seq ?_ | refine pu_sne ?_)
    refine cnd (fun hq => ?_) (fun hq => ?_)
    · have hq : i < 0 := by simpa using hq
      rw [if_neg (by omega)] at hk
      exact hk _ h
    have hq : 0 ≤ i := by simpa using hq
    refine vtop (A := []) hv h (fun w2 hw2 => ?_)
    have mg : (g, frO pre t.row post) ∈ [] ++ VH s.b g (s.cell p) pre post t (ffoot lo ++ R) := .tail _ (.head _)
    repeat (first | refine pu_not ?_ | refine pu_eql ?_ | refine pu_neq ?_ | refine pu_lss ?_ | refine pu_leq ?_ | refine pu_gtr ?_ | refine pu_geq ?_ | refine pu_add ?_ | refine pu_sub ?_ | refine pu_mul ?_ | refine pu_neg ?_ | refine fa_at ?_ | refine nl_ptr ?_ | refine ex20 ?_ | refine ex21 ?_ | refine ex30 ?_ | refine ex31 ?_ | refine ex32 ?_ | refine ln_rule ?_ | refine lnT_rule ?_ | refine pu_and ?_ | refine pu_or ?_ | refine pu_xor ?_ | refine pu_seq ?_ | refine pu_sne ?_)
    refine ld_here hw2 mg (row_at hv.pl row3) ?_
    refine regs_ln hto ?_
    repeat (first | refine pu_not ?_ | refine pu_eql ?_ | refine pu_neq ?_ | refine pu_lss ?_ | refine pu_leq ?_ | refine pu_gtr ?_ | refine pu_geq ?_ | refine pu_add ?_ | refine pu_sub ?_ | refine pu_mul ?_ | refine pu_neg ?_ | refine fa_at ?_ | refine nl_ptr ?_ | refine ex20 ?_ | refine ex21 ?_ | refine ex30 ?_ | refine ex31 ?_ | refine ex32 ?_ | refine ln_rule ?_ | refine lnT_rule ?_ | refine pu_and ?_ | refine pu_or ?_ | refine pu_xor ?_ | refine pu_seq ?_ | refine pu_sne ?_)
    refine cnd (fun hr => ?_) (fun hr => ?_)
    · have hr : (t.m.regs.length : Int) ≤ i := by simpa using hr
      rw [if_neg (by omega)] at hk
      exact hk _ hw2
    have hr : i < t.m.regs.length := by simpa using hr
    rw [if_pos ⟨hq, hr⟩] at hk
    refine vtop (A := []) hv hw2 (fun w3 hw3 => ?_)
    repeat (first | refine pu_not ?_ | refine pu_eql ?_ | refine pu_neq ?_ | refine pu_lss ?_ | refine pu_leq ?_ | refine pu_gtr ?_ | refine pu_geq ?_ | refine pu_add ?_ | refine pu_sub ?_ | refine pu_mul ?_ | refine pu_neg ?_ | refine fa_at ?_ | refine nl_ptr ?_ | refine ex20 ?_ | refine ex21 ?_ | refine ex30 ?_ | refine ex31 ?_ | refine ex32 ?_ | refine ln_rule ?_ | refine lnT_rule ?_ | refine pu_and ?_ | refine pu_or ?_ | refine pu_xor ?_ | refine pu_seq ?_ | refine pu_sne ?_)
    refine ld_here hw3 mg (row_at hv.pl row3) ?_
    refine regs_rdw hto hw3 (fun x hx => .tail _ (.tail _ (List.mem_append_left _ hx))) hq hr ?_
    exact hk _ hw3
/-- Pass: an error's number, the frames. -/
def passF (p : Pr) (reg word : Int) (l : List Frm) : Int × List Frm := match l with
  | [] => (220, [])
  | t :: lo => if localI (insF p t) = true then (223, l) else if reg < -1 ∨ (t.regs.length : Int) ≤ reg then (2, l) else (0, { t with pc := t.pc + 1, regs := if 0 ≤ reg then t.regs.set reg.toNat word else t.regs } :: lo)
set_option maxHeartbeats 1000000 in
theorem pass_spec {reg word : Int} (hs : s.ok p F) (hF : ∀ x, x ∈ F → x ∈ R) (hsl : SafeL p s.frs) (h : Ow B w (s.hp p ++ R))
    (k : ∀ (s' : SK) w', s'.b = s.b → s'.vF = s.vF → s'.res = s.res → s'.frs = (passF p reg word s.frs).2 → s'.ok p F → Ow B w' (s'.hp p ++ R) → K (vI (passF p reg word s.frs).1) w') : callW PG N.stack_Stack_Pass [ptr s.b, vI reg, vU word] K PK w := by
  refine stack_Stack_Pass.ok ?_
  unfold stack_Stack_Pass.C
  refine al_rule h (l := [vI 0]) (by kernel_rfl) (fun be w1 hw1 => ?_)
  have fail : ∀ {er : Int} {w : World}, Ow B w ((be, cel [vI 0] T.t_api_Errno) :: (s.hp p ++ R)) → passF p reg word s.frs = (er, s.frs) → LvW PG ({ target := .fn (.func N.stack_caught) #[], args := #[ptr be] } :: []) (.panicking (pan er)) w (endV (fun w => ldW none (ptr be) w fun t => K t w) fun | .returned v, w' => K v w' | .panicked ch, w' => PK ch w' | .outgrown, _ => False) := fun h he => by
    refine stack_lv_pan (A := []) h (fun w2 h2 => ?_)
    refine ld_here h2 (.head _) rfl ?_
    have := k s w2 rfl rfl rfl (by rw [he]) hs (Ow.drop h2)
    rw [he] at this
    exact this
  cases he : s.es with
  | nil =>
    have hnil : s.frs = [] := by simp [SK.frs, he]
    obtain ⟨a0, c0, hv0, _⟩ := hs.fro.len
    rw [frw_len, he] at hv0
    refine top_end hw1 (.tail _ (.head _)) (l := s.cell p) rfl (a := a0) (c := c0) (by simp only [SK.cell, hv0]; rfl) ?_
    exact fail hw1 (by rw [hnil]; rfl)
  | cons t lo =>
    have hfrs : s.frs = t.m :: lo.map FE.m := by simp [SK.frs, he]
    obtain ⟨f, i, sf⟩ := hsl _ _ hfrs
    have hto : t.ok := hs.eok t (by rw [he]; exact .head _)
    have hpf : passF p reg word s.frs = (if localI i = true then (223, s.frs) else if reg < -1 ∨ (t.m.regs.length : Int) ≤ reg then (2, s.frs) else (0, { t.m with pc := t.m.pc + 1, regs := if 0 ≤ reg then t.m.regs.set reg.toNat word else t.m.regs } :: lo.map FE.m)) := by
      rw [hfrs]
      simp only [passF, Safe.ins sf]
    obtain ⟨g, pre, post, cap, hv, hSf, hvfr, hh, hup⟩ := SK.view hs he
    have hw1' : Ow B w1 ([(be, cel [vI 0] T.t_api_Errno)] ++ VH s.b g (s.cell p) pre post t (ffoot lo ++ R)) := by rw [← hh]; exact hw1
    refine vtop hv hw1' (fun w2 hw2 => ?_)
    rw [← hh] at hw2
    have pm : ∀ (A : List (Nat × Obj)), (A ++ (s.hp p ++ R)).Perm (s.hp p ++ (A ++ R)) := fun A => List.perm_append_comm_assoc A (s.hp p) R
    refine sins_spec hs he (fun x hx => List.mem_append_right _ (hF x hx)) sf.hf sf.hi (hw2.perm (pm _)) (fun w3 hw3 => ?_)
    have hw3 := hw3.perm (pm _).symm
    refine local_spec sf.im hw3 (fun w4 hw4 => ?_)
    repeat (first | refine pu_not ?_ | refine pu_eql ?_ | refine pu_neq ?_ | refine pu_lss ?_ | refine pu_leq ?_ | refine pu_gtr ?_ | refine pu_geq ?_ | refine pu_add ?_ | refine pu_sub ?_ | refine pu_mul ?_ | refine pu_neg ?_ | refine fa_at ?_ | refine nl_ptr ?_ | refine ex20 ?_ | refine ex21 ?_ | refine ex30 ?_ | refine ex31 ?_ | refine ex32 ?_ | refine ln_rule ?_ | refine lnT_rule ?_ | refine pu_and ?_ | refine pu_or ?_ | refine pu_xor ?_ | refine pu_seq ?_ | refine pu_sne ?_)
    refine must_b (fun hq => ?_) (fun hq => ?_)
    rotate_left
    · have hq : localI i = true := by simpa using hq
      exact fail hw4 (by rw [hpf, if_pos hq])
    have hq : ¬ localI i = true := by simpa using hq
    have mg : (g, frO pre t.row post) ∈ [(be, cel [vI 0] T.t_api_Errno)] ++ VH s.b g (s.cell p) pre post t (ffoot lo ++ R) := .tail _ (.tail _ (.head _))
    have bad : reg < -1 ∨ (t.m.regs.length : Int) ≤ reg → LvW PG ({ target := .fn (.func N.stack_caught) #[], args := #[ptr be] } :: []) (.panicking (pan 2)) w4 (endV (fun w => ldW none (ptr be) w fun t => K t w) fun | .returned v, w' => K v w' | .panicked ch, w' => PK ch w' | .outgrown, _ => False) := fun hb => fail hw4 (by rw [hpf, if_neg hq, if_pos hb])
    repeat (first | refine pu_not ?_ | refine pu_eql ?_ | refine pu_neq ?_ | refine pu_lss ?_ | refine pu_leq ?_ | refine pu_gtr ?_ | refine pu_geq ?_ | refine pu_add ?_ | refine pu_sub ?_ | refine pu_mul ?_ | refine pu_neg ?_ | refine fa_at ?_ | refine nl_ptr ?_ | refine ex20 ?_ | refine ex21 ?_ | refine ex30 ?_ | refine ex31 ?_ | refine ex32 ?_ | refine ln_rule ?_ | refine lnT_rule ?_ | refine pu_and ?_ | refine pu_or ?_ | refine pu_xor ?_ | refine pu_seq ?_ | refine pu_sne ?_)
    refine cnd (fun hr => ?_) (fun hr => ?_)
    rotate_left
    · have hr : reg < -1 := by simpa using hr
      exact must_f (bad (.inl hr))
    have hr : -1 ≤ reg := by simpa using hr
    rw [hh] at hw4
    repeat (first | refine pu_not ?_ | refine pu_eql ?_ | refine pu_neq ?_ | refine pu_lss ?_ | refine pu_leq ?_ | refine pu_gtr ?_ | refine pu_geq ?_ | refine pu_add ?_ | refine pu_sub ?_ | refine pu_mul ?_ | refine pu_neg ?_ | refine fa_at ?_ | refine nl_ptr ?_ | refine ex20 ?_ | refine ex21 ?_ | refine ex30 ?_ | refine ex31 ?_ | refine ex32 ?_ | refine ln_rule ?_ | refine lnT_rule ?_ | refine pu_and ?_ | refine pu_or ?_ | refine pu_xor ?_ | refine pu_seq ?_ | refine pu_sne ?_)
    refine ld_here hw4 mg (row_at hv.pl row3) ?_
    refine regs_ln hto ?_
    repeat (first | refine pu_not ?_ | refine pu_eql ?_ | refine pu_neq ?_ | refine pu_lss ?_ | refine pu_leq ?_ | refine pu_gtr ?_ | refine pu_geq ?_ | refine pu_add ?_ | refine pu_sub ?_ | refine pu_mul ?_ | refine pu_neg ?_ | refine fa_at ?_ | refine nl_ptr ?_ | refine ex20 ?_ | refine ex21 ?_ | refine ex30 ?_ | refine ex31 ?_ | refine ex32 ?_ | refine ln_rule ?_ | refine lnT_rule ?_ | refine pu_and ?_ | refine pu_or ?_ | refine pu_xor ?_ | refine pu_seq ?_ | refine pu_sne ?_)
    refine must_b (fun hl => ?_) (fun hl => ?_)
    rotate_left
    · have hl : (t.m.regs.length : Int) ≤ reg := by simpa using hl
      exact bad (.inr hl)
    have hl : reg < t.m.regs.length := by simpa using hl
    have hpcb := sf.pcb
    rw [if_neg hq, if_neg (by omega)] at hpf
    have fin : ∀ (t' : FE) (w : World), t'.ok → t'.m = { t.m with regs := if 0 ≤ reg then t.m.regs.set reg.toNat word else t.m.regs } → Ow B w ([(be, cel [vI 0] T.t_api_Errno)] ++ VH s.b g (s.cell p) pre post t' (ffoot lo ++ R)) →
        (nlW (ptr g (lo.length * 4)) fun t48 => faW 1 t48 fun t49 => ldW none t49 w fun t50 => pu PG (binV .add T.t_int true t50 (.int .i64 1)) fun t51 => nlW (ptr g (lo.length * 4)) fun t52 => faW 1 t52 fun t53 => stW 1 t53 t51 (fun w54 => stW 1 (ptr be) (.int .i64 0) (fun w56 => LvW PG ({ target := .fn (.func N.stack_caught) #[], args := #[ptr be] } :: []) .returning w56 (endV (fun w => ldW none (ptr be) w fun t => K t w) fun | .returned v, w' => K v w' | .panicked ch, w' => PK ch w' | .outgrown, _ => False)) w54) w) := fun t' w ht' hm' hw => by
      have hpc : t'.m.pc = t.m.pc := by rw [hm']
      have mg' : (g, frO pre t'.row post) ∈ [(be, cel [vI 0] T.t_api_Errno)] ++ VH s.b g (s.cell p) pre post t' (ffoot lo ++ R) := .tail _ (.tail _ (.head _))
      repeat (first | refine pu_not ?_ | refine pu_eql ?_ | refine pu_neq ?_ | refine pu_lss ?_ | refine pu_leq ?_ | refine pu_gtr ?_ | refine pu_geq ?_ | refine pu_add ?_ | refine pu_sub ?_ | refine pu_mul ?_ | refine pu_neg ?_ | refine fa_at ?_ | refine nl_ptr ?_ | refine ex20 ?_ | refine ex21 ?_ | refine ex30 ?_ | refine ex31 ?_ | refine ex32 ?_ | refine ln_rule ?_ | refine lnT_rule ?_ | refine pu_and ?_ | refine pu_or ?_ | refine pu_xor ?_ | refine pu_seq ?_ | refine pu_sne ?_)
      refine ld_here hw mg' (row_at hv.pl (v := vI t'.m.pc) rfl) ?_
      repeat (first | refine pu_not ?_ | refine pu_eql ?_ | refine pu_neq ?_ | refine pu_lss ?_ | refine pu_leq ?_ | refine pu_gtr ?_ | refine pu_geq ?_ | refine pu_add ?_ | refine pu_sub ?_ | refine pu_mul ?_ | refine pu_neg ?_ | refine fa_at ?_ | refine nl_ptr ?_ | refine ex20 ?_ | refine ex21 ?_ | refine ex30 ?_ | refine ex31 ?_ | refine ex32 ?_ | refine ln_rule ?_ | refine lnT_rule ?_ | refine pu_and ?_ | refine pu_or ?_ | refine pu_xor ?_ | refine pu_seq ?_ | refine pu_sne ?_)
      have e4 : IntKind.i64.wrap ((t'.m.pc : Int) + 1) = ((t'.m.pc + 1 : Nat) : Int) := by rw [wrap64_in (by omega) (by omega)]; omega
      rw [e4]
      have hl : lo.length * 4 + 1 < (pre ++ (t'.row ++ post)).length := by rw [List.length_append, hv.pl, List.length_append]; simp [FE.row, frow]; omega
      refine st1_here (A := [_, _]) hw rfl rfl hl (fun w7 hw7 => ?_)
      rw [row_set hv.pl (by simp [FE.row, frow])] at hw7
      refine st1_here (A := []) hw7 rfl rfl (by simp) (fun w8 hw8 => ?_)
      refine stack_lv_ret ?_
      refine ld_here hw8 (.head _) rfl ?_
      rw [hpf] at k
      have hw8 : Ow B w8 ((SK.up s g pre post (t'.setPc (t'.m.pc + 1)) lo).hp p ++ R) := by rw [SK.up_hp]; exact Ow.drop (p := (be, cel [vI 0] T.t_api_Errno)) hw8
      refine k (SK.up s g pre post (t'.setPc (t'.m.pc + 1)) lo) w8 rfl rfl rfl ?_ (SK.up_ok hs he hup (setPc_ok ht')) hw8
      simp only [SK.up, SK.frs, List.map_cons, FE.setPc, hm']
    repeat (first | refine pu_not ?_ | refine pu_eql ?_ | refine pu_neq ?_ | refine pu_lss ?_ | refine pu_leq ?_ | refine pu_gtr ?_ | refine pu_geq ?_ | refine pu_add ?_ | refine pu_sub ?_ | refine pu_mul ?_ | refine pu_neg ?_ | refine fa_at ?_ | refine nl_ptr ?_ | refine ex20 ?_ | refine ex21 ?_ | refine ex30 ?_ | refine ex31 ?_ | refine ex32 ?_ | refine ln_rule ?_ | refine lnT_rule ?_ | refine pu_and ?_ | refine pu_or ?_ | refine pu_xor ?_ | refine pu_seq ?_ | refine pu_sne ?_)
    refine cnd (fun h0 => ?_) (fun h0 => ?_)
    · have h0 : 0 ≤ reg := by simpa using h0
      repeat (first | refine pu_not ?_ | refine pu_eql ?_ | refine pu_neq ?_ | refine pu_lss ?_ | refine pu_leq ?_ | refine pu_gtr ?_ | refine pu_geq ?_ | refine pu_add ?_ | refine pu_sub ?_ | refine pu_mul ?_ | refine pu_neg ?_ | refine fa_at ?_ | refine nl_ptr ?_ | refine ex20 ?_ | refine ex21 ?_ | refine ex30 ?_ | refine ex31 ?_ | refine ex32 ?_ | refine ln_rule ?_ | refine lnT_rule ?_ | refine pu_and ?_ | refine pu_or ?_ | refine pu_xor ?_ | refine pu_seq ?_ | refine pu_sne ?_)
      refine ld_here hw4 mg (row_at hv.pl row3) ?_
      refine regs_st (A := [_, _, _]) (C := ffoot lo ++ R) hto (by simpa using hw4) h0 hl (fun S' w5 ho5 h5 => ?_)
      exact fin (t.setR S' reg word) w5 ho5 (by rw [if_pos h0]) h5
    · have h0 : ¬ 0 ≤ reg := by simpa using h0
      exact fin t w4 hto (by rw [if_neg h0]) hw4
end
end Go.Proofs.YtkkkcafkepnecaaGreat

/-! Stacks: New; Copy. -/
set_option linter.unusedVariables false
set_option linter.unusedSimpArgs false
namespace Go.Proofs.YtkkkcafkepnecaaGreat
open Go Go.RowKit Vc Ar
attribute [local irreducible] binV Op.unary convert nlW faW ldS ldW ixS ixA ixV ixT exW lnS lnT pu stW alW opW opU bsW mkW

section
variable {B w : World} {H X F Q R : Hp} {K : Value → World → Prop} {PK : List PanicEntry → World → Prop} {KK : Value → Prop} {b n cap g : Nat} {c pre post : List Value} {t u : FE} {i : Ins} {p : Pr} {s : SK} {lo : List FE} {f : Fun} {v a : Value}
theorem SK.vplain (hs : s.ok p F) : plainV s.vfr = true := by
  obtain ⟨a0, c0, hv0, _⟩ := hs.fro.len
  rw [hv0]; rfl
theorem SK.cplain (hs : s.ok p F) : (s.cell p).all plainV = true := by
  simp only [SK.cell, List.all_cons, fsIn.plain hs.hf, SK.vplain hs]; rfl
/-- The frames in memory's order. -/
def SK.L (s : SK) : List (Value × Frm) := s.es.reverse.map fun e => (e.c, e.m)
theorem SK.L_rows (s : SK) : lrows s.L = frw s.es := by
  simp only [lrows, SK.L, frw, List.map_map, ← List.map_reverse]; rfl
theorem SK.L_frs (s : SK) : s.L.map Prod.snd = s.frs.reverse := by
  simp only [SK.L, SK.frs, List.map_map, ← List.map_reverse]; rfl
theorem SK.L_in (hs : s.ok p F) (hr : ∀ m ∈ s.frs, m.regs.length ≤ 1000) : ∀ q ∈ s.L, Sl (s.hp p) q.1 (rgs q.2.regs) ∧ q.2.regs.length ≤ 1000 := fun q hq => by
  obtain ⟨e, he, rfl⟩ := List.mem_map.1 hq
  have he := List.mem_reverse.1 he
  refine ⟨(Vc.Own.sl (hs.eok e he)).mono fun x hx => .tail _ (List.mem_append_right _ (List.mem_flatMap.2 ⟨e, he, hx⟩)), hr _ (List.mem_map_of_mem he)⟩
theorem SK.L_sls (hs : s.ok p F) : Sls (s.hp p) s.vfr 4 (lrows s.L) := by
  rw [SK.L_rows]
  exact (Fro.sls hs.fro).mono fun x hx => .tail _ (List.mem_append_left _ hx)
theorem ffoot_rev (l : List FE) : (ffoot l.reverse).Perm (ffoot l) := by
  unfold ffoot
  induction l with
  | nil => exact .refl _
  | cons x l ih =>
    simp only [List.reverse_cons, List.flatMap_append, List.flatMap_cons, List.flatMap_nil, List.append_nil]
    exact (List.perm_append_comm).trans (List.Perm.append_left _ ih)
abbrev zstack : List Value := [.slice none 0 0, vI 0, vI 0, vI 0, .slice none 0 0, vU 0, vB false]
theorem scopy_spec (hs : s.ok p F) (hr : ∀ m ∈ s.frs, m.regs.length ≤ 1000) (h : Ow B w (s.hp p ++ R)) (k : ∀ (s' : SK) w', s'.vF = s.vF → s'.res = s.res → s'.frs = s.frs → s'.ok p F → Ow B w' (s'.hp p ++ (s.hp p ++ R)) → K (ptr s'.b) w') : callW PG N.stack_Stack_Copy [ptr s.b] K PK w := by
  refine stack_Stack_Copy.ok ?_
  unfold stack_Stack_Copy.C
  refine sk_none h (.head _) (cnd_f rfl ?_)
  repeat (first | refine pu_not ?_ | refine pu_eql ?_ | refine pu_neq ?_ | refine pu_lss ?_ | refine pu_leq ?_ | refine pu_gtr ?_ | refine pu_geq ?_ | refine pu_add ?_ | refine pu_sub ?_ | refine pu_mul ?_ | refine pu_neg ?_ | refine fa_at ?_ | refine nl_ptr ?_ | refine ex20 ?_ | refine ex21 ?_ | refine ex30 ?_ | refine ex31 ?_ | refine ex32 ?_ | refine ln_rule ?_ | refine lnT_rule ?_ | refine pu_and ?_ | refine pu_or ?_ | refine pu_xor ?_ | refine pu_seq ?_ | refine pu_sne ?_)
  refine ldn_here h (.head _) (vs := s.cell p) rfl rfl ?_
  refine al_rule h (l := zstack) (by kernel_rfl) (fun bn w1 h1 => ?_)
  refine st_here (A := []) h1 (s.cell p) rfl rfl (SK.cplain hs) (by simp) (fun w2 h2 => ?_)
  simp only [List.take_zero, List.nil_append, Nat.zero_add, List.drop_succ_cons, List.drop_zero, List.drop_nil, List.append_nil] at h2
  repeat (first | refine pu_not ?_ | refine pu_eql ?_ | refine pu_neq ?_ | refine pu_lss ?_ | refine pu_leq ?_ | refine pu_gtr ?_ | refine pu_geq ?_ | refine pu_add ?_ | refine pu_sub ?_ | refine pu_mul ?_ | refine pu_neg ?_ | refine fa_at ?_ | refine nl_ptr ?_ | refine ex20 ?_ | refine ex21 ?_ | refine ex30 ?_ | refine ex31 ?_ | refine ex32 ?_ | refine ln_rule ?_ | refine lnT_rule ?_ | refine pu_and ?_ | refine pu_or ?_ | refine pu_xor ?_ | refine pu_seq ?_ | refine pu_sne ?_)
  refine ld_here h2 (.tail _ (.head _)) (v := s.vfr) rfl ?_
  have hln := hs.len
  have hll : s.L.length = s.es.length := by simp [SK.L]
  refine copied_spec h2 (SK.L_sls hs) (SK.L_in hs hr) (fun x hx => .tail _ (List.mem_append_left _ hx)) (by omega) cloned_cl (fun Sf v' don w3 hdm hdo ho h3 => ?_)
  obtain ⟨a9, c9, hv9⟩ := ho.len
  repeat (first | refine pu_not ?_ | refine pu_eql ?_ | refine pu_neq ?_ | refine pu_lss ?_ | refine pu_leq ?_ | refine pu_gtr ?_ | refine pu_geq ?_ | refine pu_add ?_ | refine pu_sub ?_ | refine pu_mul ?_ | refine pu_neg ?_ | refine fa_at ?_ | refine nl_ptr ?_ | refine ex20 ?_ | refine ex21 ?_ | refine ex30 ?_ | refine ex31 ?_ | refine ex32 ?_ | refine ln_rule ?_ | refine lnT_rule ?_ | refine pu_and ?_ | refine pu_or ?_ | refine pu_xor ?_ | refine pu_seq ?_ | refine pu_sne ?_)
  have h3 : Ow B w3 ((Sf ++ ffoot don) ++ (bn, cel (s.cell p) T.t_stack_Stack) :: (s.hp p ++ R)) := by simpa using h3
  refine st1_here h3 (by rw [hv9]; rfl) (by rw [hv9]; rfl) (by simp [SK.cell]) (fun w4 h4 => ?_)
  have e4 : (s.cell p).set (0 + 4) v' = SK.cell p { b := bn, vF := s.vF, vfr := v', Sf := Sf, es := don.reverse, res := s.res } := rfl
  rw [e4] at h4
  have hdl : don.length = s.es.length := by
    have := congrArg List.length hdm
    simpa [SK.L] using this
  have hfrw : frw don.reverse = drows don := by simp [frw, drows, List.map_reverse]
  refine k { b := bn, vF := s.vF, vfr := v', Sf := Sf, es := don.reverse, res := s.res } w4 rfl rfl ?_ ⟨hs.hf, ?_, ?_, ?_⟩ ?_
  · show (don.reverse).map FE.m = s.frs
    rw [List.map_reverse, hdm, SK.L_frs, List.reverse_reverse]
  · show Fro T.t_api_Frame 4 Sf v' (frw don.reverse)
    rw [hfrw]
    exact ⟨drows_four don, .inl ho⟩
  · intro e he
    exact hdo e (List.mem_reverse.1 he)
  · show don.reverse.length < 1000
    rw [List.length_reverse, hdl]; exact hln
  · refine h4.perm ?_
    refine List.perm_middle.trans ?_
    show List.Perm _ (((bn, stO (SK.cell p { b := bn, vF := s.vF, vfr := v', Sf := Sf, es := don.reverse, res := s.res })) :: (Sf ++ ffoot don.reverse)) ++ (s.hp p ++ R))
    rw [List.cons_append]
    exact ((List.Perm.append_left Sf (ffoot_rev don).symm).append_right _).cons _
theorem num_facts (h : numI p = true) : 1 ≤ p.fs.length ∧ p.fs.length ≤ 32 ∧ ∀ f ∈ p.fs, 1 ≤ f.regs ∧ f.regs ≤ 16 ∧ 1 ≤ f.code.length ∧ f.code.length ≤ 512 := by
  unfold numI numL at h
  simp only [List.all_append, List.all_cons, List.all_nil, Bool.and_true, Bool.and_eq_true, inB, decide_eq_true_eq] at h
  obtain ⟨⟨h1, h2, h3, h4⟩, h5⟩ := h
  refine ⟨by omega, by omega, fun f hf => ?_⟩
  have := List.all_eq_true.1 h5
  have q1 := this (f.regs, 1, 16) (List.mem_flatMap.2 ⟨f, hf, .head _⟩)
  have q2 := this ((f.code.length : Int), 1, 512) (List.mem_flatMap.2 ⟨f, hf, .tail _ (.head _)⟩)
  simp only [inB, Bool.and_eq_true, decide_eq_true_eq] at q1 q2
  omega
theorem ok_num (h : okP' p = true) : numI p = true := by
  unfold okP' at h
  rw [Bool.and_eq_true] at h
  exact h.1
/-- Where a stack begins. -/
def begF (x : Nat) (f : Fun) (ws : List Int) : Frm := ⟨x, 0, 0, padd ws f.regs.toNat⟩
set_option maxHeartbeats 1000000 in
theorem new_spec {x : Int} {ws : List Int} (hv : fsIn X v p.fs) (ha : Sl X a (rgs ws)) (hX : ∀ x, x ∈ X → x ∈ H) (hlen : p.fs.length ≤ 1000) (hwl : ws.length ≤ 1000) (h : Ow B w H)
    (kbad : okP' p = false → ∀ w', Ow B w' H → K (.tuple #[.pointer none, vI 2]) w')
    (krange : okP' p = true → (∀ f, 0 ≤ x → p.fs[x.toNat]? = some f → ¬ (ws.length : Int) ≤ f.regs) → ∀ w', Ow B w' H → K (.tuple #[.pointer none, vI 4]) w')
    (kok : okP' p = true → ∀ f, 0 ≤ x → p.fs[x.toNat]? = some f → (ws.length : Int) ≤ f.regs → ∀ (s : SK) (F : Hp) w', s.res = 0 → s.frs = [begF x.toNat f ws] → s.ok p F → Ow B w' (s.hp p ++ (F ++ H)) → K (.tuple #[ptr s.b, vI 0]) w') :
    callW PG N.stack_New [.agg (p.cells v).toArray, vI x, a] K PK w := by
  refine stack_New.ok ?_
  unfold stack_New.C
  refine al_rule h (l := p.cells v) rfl (fun b2 w1 h1 => ?_)
  refine ldn_here h1 (.head _) (vs := p.cells v) rfl rfl ?_
  refine check_spec hv (fun x hx => .tail _ (hX x hx)) hlen h1 (fun w2 h2 => ?_)
  repeat (first | refine pu_not ?_ | refine pu_eql ?_ | refine pu_neq ?_ | refine pu_lss ?_ | refine pu_leq ?_ | refine pu_gtr ?_ | refine pu_geq ?_ | refine pu_add ?_ | refine pu_sub ?_ | refine pu_mul ?_ | refine pu_neg ?_ | refine fa_at ?_ | refine nl_ptr ?_ | refine ex20 ?_ | refine ex21 ?_ | refine ex30 ?_ | refine ex31 ?_ | refine ex32 ?_ | refine ln_rule ?_ | refine lnT_rule ?_ | refine pu_and ?_ | refine pu_or ?_ | refine pu_xor ?_ | refine pu_seq ?_ | refine pu_sne ?_)
  refine cnd (fun hq => ?_) (fun hq => ?_)
  · refine kbad ?_ _ h2.drop
    cases hok : okP' p
    · rfl
    · rw [hok] at hq; simp at hq
  have hok : okP' p = true := by
    cases hok : okP' p
    · rw [hok] at hq; simp at hq
    · rfl
  have hnf := num_facts (ok_num hok)
  repeat (first | refine pu_not ?_ | refine pu_eql ?_ | refine pu_neq ?_ | refine pu_lss ?_ | refine pu_leq ?_ | refine pu_gtr ?_ | refine pu_geq ?_ | refine pu_add ?_ | refine pu_sub ?_ | refine pu_mul ?_ | refine pu_neg ?_ | refine fa_at ?_ | refine nl_ptr ?_ | refine ex20 ?_ | refine ex21 ?_ | refine ex30 ?_ | refine ex31 ?_ | refine ex32 ?_ | refine ln_rule ?_ | refine lnT_rule ?_ | refine pu_and ?_ | refine pu_or ?_ | refine pu_xor ?_ | refine pu_seq ?_ | refine pu_sne ?_)
  refine cnd (fun h0 => ?_) (fun h0 => ?_)
  · have h0 : x < 0 := by simpa using h0
    exact krange hok (fun f hx => by omega) _ h2.drop
  have h0 : 0 ≤ x := by simpa using h0
  repeat (first | refine pu_not ?_ | refine pu_eql ?_ | refine pu_neq ?_ | refine pu_lss ?_ | refine pu_leq ?_ | refine pu_gtr ?_ | refine pu_geq ?_ | refine pu_add ?_ | refine pu_sub ?_ | refine pu_mul ?_ | refine pu_neg ?_ | refine fa_at ?_ | refine nl_ptr ?_ | refine ex20 ?_ | refine ex21 ?_ | refine ex30 ?_ | refine ex31 ?_ | refine ex32 ?_ | refine ln_rule ?_ | refine lnT_rule ?_ | refine pu_and ?_ | refine pu_or ?_ | refine pu_xor ?_ | refine pu_seq ?_ | refine pu_sne ?_)
  refine ld_here h2 (.head _) (v := v) rfl ?_
  refine hv.ln ?_
  repeat (first | refine pu_not ?_ | refine pu_eql ?_ | refine pu_neq ?_ | refine pu_lss ?_ | refine pu_leq ?_ | refine pu_gtr ?_ | refine pu_geq ?_ | refine pu_add ?_ | refine pu_sub ?_ | refine pu_mul ?_ | refine pu_neg ?_ | refine fa_at ?_ | refine nl_ptr ?_ | refine ex20 ?_ | refine ex21 ?_ | refine ex30 ?_ | refine ex31 ?_ | refine ex32 ?_ | refine ln_rule ?_ | refine lnT_rule ?_ | refine pu_and ?_ | refine pu_or ?_ | refine pu_xor ?_ | refine pu_seq ?_ | refine pu_sne ?_)
  refine cnd (fun h3 => ?_) (fun h3 => ?_)
  · have h3 : (p.fs.length : Int) ≤ x := by simpa using h3
    refine krange hok (fun f hx hf => ?_) _ h2.drop
    have := (List.getElem?_eq_some_iff.1 hf).1
    omega
  have h3 : x < p.fs.length := by simpa using h3
  have hX2 : ∀ x, x ∈ X → x ∈ (b2, cel (p.cells v) T.t_api_Program) :: H := fun x hx => .tail _ (hX x hx)
  obtain ⟨ps, cc, f, f1, f2, f3, f4, f5⟩ := hv.at (n := x) h0 h3
  have hfr := hnf.2.2 f (List.mem_of_getElem? f1)
  have hrl : (rgs ws).length = ws.length := by simp [rgs]
  refine sl_ln ha ?_
  rw [hrl]
  repeat (first | refine pu_not ?_ | refine pu_eql ?_ | refine pu_neq ?_ | refine pu_lss ?_ | refine pu_leq ?_ | refine pu_gtr ?_ | refine pu_geq ?_ | refine pu_add ?_ | refine pu_sub ?_ | refine pu_mul ?_ | refine pu_neg ?_ | refine fa_at ?_ | refine nl_ptr ?_ | refine ex20 ?_ | refine ex21 ?_ | refine ex30 ?_ | refine ex31 ?_ | refine ex32 ?_ | refine ln_rule ?_ | refine lnT_rule ?_ | refine pu_and ?_ | refine pu_or ?_ | refine pu_xor ?_ | refine pu_seq ?_ | refine pu_sne ?_)
  refine ld_here h2 (.head _) (v := v) rfl ?_
  refine sls_fld h2 (f2.mono hX2) h0 f3 (j := 0) (v := vI f.regs) rfl ?_
  repeat (first | refine pu_not ?_ | refine pu_eql ?_ | refine pu_neq ?_ | refine pu_lss ?_ | refine pu_leq ?_ | refine pu_gtr ?_ | refine pu_geq ?_ | refine pu_add ?_ | refine pu_sub ?_ | refine pu_mul ?_ | refine pu_neg ?_ | refine fa_at ?_ | refine nl_ptr ?_ | refine ex20 ?_ | refine ex21 ?_ | refine ex30 ?_ | refine ex31 ?_ | refine ex32 ?_ | refine ln_rule ?_ | refine lnT_rule ?_ | refine pu_and ?_ | refine pu_or ?_ | refine pu_xor ?_ | refine pu_seq ?_ | refine pu_sne ?_)
  refine cnd (fun h4 => ?_) (fun h4 => ?_)
  · have h4 : f.regs < ws.length := by simpa using h4
    refine krange hok (fun f' hx hf => ?_) _ h2.drop
    rw [f1] at hf
    cases hf
    omega
  have h4 : (ws.length : Int) ≤ f.regs := by simpa using h4
  refine ⟨fun w => Ow B w ((b2, cel (p.cells v) T.t_api_Program) :: H), h2.drew, ?_⟩
  refine ldsn_here (fun w h => h) (.head _) (vs := p.cells v) rfl rfl ?_
  repeat (first | refine pu_not ?_ | refine pu_eql ?_ | refine pu_neq ?_ | refine pu_lss ?_ | refine pu_leq ?_ | refine pu_gtr ?_ | refine pu_geq ?_ | refine pu_add ?_ | refine pu_sub ?_ | refine pu_mul ?_ | refine pu_neg ?_ | refine fa_at ?_ | refine nl_ptr ?_ | refine ex20 ?_ | refine ex21 ?_ | refine ex30 ?_ | refine ex31 ?_ | refine ex32 ?_ | refine ln_rule ?_ | refine lnT_rule ?_ | refine pu_and ?_ | refine pu_or ?_ | refine pu_xor ?_ | refine pu_seq ?_ | refine pu_sne ?_)
  refine lds_here (fun w h => h) (.head _) (v := v) rfl ?_
  refine sls_flds (fun w h => h) (f2.mono hX2) h0 f3 (j := 0) (v := vI f.regs) rfl ?_
  refine copy_spec hv hX2 hlen (fun g hg => by have := hnf.2.2 g hg; omega) h2.drew (fun F v' w3 hcp h3' => ?_)
  have sub : ∀ {A : Hp} {w : World}, Ow B w (A ++ ((b2, cel (p.cells v) T.t_api_Program) :: H)) → Ow B w ((b2, cel (p.cells v) T.t_api_Program) :: H) := fun h => h.sub (List.sublist_append_right _ _)
  refine ⟨sub h3', ?_⟩
  have hfs : fsIn F v' p.fs := CpP.ins hcp (fun g hg => by
    obtain ⟨qs, e1, e2, e3⟩ := hv
    rw [← e1] at hg
    obtain ⟨q, hq, rfl⟩ := List.mem_map.1 hg
    exact (e3 q hq).2)
  have e1 : x = ((x.toNat : Nat) : Int) := by omega
  have e2 : f.regs = ((f.regs.toNat : Nat) : Int) := by omega
  have harg : [vI x, vI f.regs, vI 0, a] = [vI (x.toNat : Nat), vI (f.regs.toNat : Nat), vI (0 : Nat), a] := by rw [← e1, ← e2]; rfl
  rw [harg]
  refine entered_spec h3' ha (fun x hx => List.mem_append_right _ (hX2 x hx)) (by omega) (by omega) (fun S cv w4 hw4 ho4 => ?_)
  have hw4' : Ow B w4 ((S ++ F) ++ ((b2, cel (p.cells v) T.t_api_Program) :: H)) := by simpa using hw4
  refine ⟨sub hw4', ?_⟩
  obtain ⟨a9, c9, hcv⟩ := ho4.len
  refine bs_rule hw4' [vI (x.toNat : Nat), vI 0, vI (0 : Nat), cv] (by kernel_rfl) (fun bx w5 hw5 => ?_)
  refine ⟨sub (A := _ :: (S ++ F)) hw5, ?_⟩
  refine pu_build [v', vI p.mu, vI p.rw, vI p.gr, .slice (some ⟨bx, 0, none⟩) 1 1, vU 0, vB true] (by kernel_rfl) ?_
  refine al_rule hw5 (l := [v', vI p.mu, vI p.rw, vI p.gr, .slice (some ⟨bx, 0, none⟩) 1 1, vU 0, vB true]) rfl (fun bn w6 hw6 => ?_)
  refine ⟨sub (A := _ :: _ :: (S ++ F)) hw6, ?_⟩
  let fe : FE := { S := S, c := cv, m := begF x.toNat f ws }
  have hfe : fe.ok := by
    unfold FE.ok
    have : fe.m.regs.length = f.regs.toNat := padd_len (by omega)
    rw [this]; exact ho4
  refine kok hok f h0 f1 h4 { b := bn, vF := v', vfr := .slice (some ⟨bx, 0, none⟩) 1 1, Sf := [(bx, cel fe.row T.t_api_Frame)], es := [fe], res := 0 } F w6 rfl rfl ⟨hfs, ⟨?_, .inr ⟨bx, fe.row, rfl, rfl, ?_, ?_, ?_⟩⟩, ?_, ?_⟩ ?_
  · intro x hx
    have hx : x ∈ [fe.row] := hx
    rw [List.mem_singleton.1 hx]; rfl
  · show 1 ≤ maxLen
    simp [maxLen]
  · show 1 * 4 ≤ fe.row.length
    simp [FE.row, frow]
  · rfl
  · intro e he
    rw [List.mem_singleton.1 he]; exact hfe
  · show 1 < 1000
    omega
  · have : Ow B w6 (((bn, cel [v', vI p.mu, vI p.rw, vI p.gr, .slice (some ⟨bx, 0, none⟩) 1 1, vU 0, vB true] T.t_stack_Stack) :: ([(bx, cel fe.row T.t_api_Frame)] ++ S)) ++ (F ++ (b2, cel (p.cells v) T.t_api_Program) :: H)) := by
      simp only [List.cons_append, List.nil_append, List.append_assoc] at hw6 ⊢
      exact hw6
    have h7 := this.sub ((List.Sublist.refl _).append ((List.Sublist.refl F).append (List.sublist_cons_self _ _)))
    have eS : ffoot [fe] = S := by simp [ffoot, fe]
    unfold SK.hp
    simp only [eS]
    exact h7
end
end Go.Proofs.YtkkkcafkepnecaaGreat

/-! Stacks: what holds of frames of a program that may be. -/
set_option linter.unusedVariables false
set_option linter.unusedSimpArgs false
namespace Go.Proofs.YtkkkcafkepnecaaGreat
open Go Go.RowKit Vc Ar

section
variable {p : Pr} {t u : Frm} {lo l : List Frm} {f : Fun} {i : Ins}
theorem site_fine {n m : Nat} (h : okP' p = true) (hf : p.fs[n]? = some f) (hi : f.code[m]? = some i) : fineI p f m i = true := by
  unfold okP' at h
  rw [Bool.and_eq_true] at h
  have h2 := h.2
  have hn := (List.getElem?_eq_some_iff.1 hf).1
  have hm := (List.getElem?_eq_some_iff.1 hi).1
  have hc : clen p.fs n = f.code.length := by unfold clen; rw [hf]
  have hmem := List.mem_of_getElem? (site_at hn (by rw [hc]; exact hm))
  have h3 : badS p = none := by
    cases hb : badS p
    · rfl
    · rw [hb] at h2; cases h2
  have h4 := List.find?_eq_none.1 h3 _ hmem
  have h5 : fineS p (n, m) = true := by
    cases hs : fineS p (n, m)
    · exact absurd (by rw [hs]; rfl) h4
    · rfl
  unfold fineS at h5
  simp only [hf, hi] at h5
  exact h5
theorem fine_parts {m : Nat} (h : fineI p f m i = true) : okI i = true ∧ regsI i ≤ f.regs ∧ jumpsI f i = true ∧ callsI p.fs i = true ∧ endsI f m i = true := by
  unfold fineI fineL at h
  simp only [List.all_cons, List.all_nil, Bool.and_true, Bool.and_eq_true, id] at h
  obtain ⟨h1, h2, h3, h4⟩ := h
  unfold fitsI at h1
  rw [Bool.and_eq_true] at h1
  exact ⟨h1.1, of_decide_eq_true h1.2, h2, h3, h4⟩
theorem regF_le (i : Ins) (n : Int) (q : Pk) : n ≤ regF i n q := by
  unfold regF
  split
  · split <;> omega
  · omega
theorem fold_ge (i : Ins) : ∀ (l : List Pk) (n : Int), n ≤ l.foldl (regF i) n
  | [], n => Int.le_refl n
  | q :: l, n => Int.le_trans (regF_le i n q) (fold_ge i l _)
theorem fold_mem (i : Ins) {q : Pk} (hr : q.isR = true) : ∀ (l : List Pk) (n : Int), q ∈ l → q.get i + 1 ≤ l.foldl (regF i) n
  | x :: l, n, h => by
    rcases List.mem_cons.1 h with rfl | h
    · refine Int.le_trans ?_ (fold_ge i l _)
      show q.get i + 1 ≤ regF i n q
      unfold regF
      rw [if_pos hr]
      split <;> omega
    · exact fold_mem i hr l _ h
theorem regs_ge (h : okI i = true) {q : Pk} (hr : q.isR = true) (hq : q ∈ nmd i.op) : q.get i + 1 ≤ regsI i := by
  have := fold_mem i hr _ 0 hq
  unfold regsI
  rw [if_pos h]
  split
  · split <;> omega
  · exact this
theorem regs_bc (h : okI i = true) (h8 : i.op = 8) : i.b + i.c ≤ regsI i := by
  unfold regsI
  rw [if_pos h, if_pos (.inl h8)]
  split <;> omega
structure FI (p : Pr) (t : Frm) (f : Fun) : Prop where
  hf : p.fs[t.fn]? = some f
  pc : t.pc < f.code.length
  rl : t.regs.length = f.regs.toNat
  u : AllU t.regs
def Dst : List Frm → Prop
  | [] => True
  | t :: lo => (∀ u lo', lo = u :: lo' → t.dest < u.regs.length) ∧ Dst lo
structure Inv (p : Pr) (l : List Frm) : Prop where
  fi : ∀ t ∈ l, ∃ f, FI p t f
  d : Dst l
/-- A program that may be, of words. -/
structure Good (p : Pr) : Prop where
  ok : okP' p = true
  im : ∀ f ∈ p.fs, immOk f.code
theorem Good.facts (g : Good p) (hf : FI p t f) : ∃ i, f.code[t.pc]? = some i ∧ okI i = true ∧ regsI i ≤ f.regs ∧ jumpsI f i = true ∧ callsI p.fs i = true ∧ endsI f t.pc i = true ∧ 0 ≤ i.imm ∧ i.imm < 4294967296 := by
  have hi := List.getElem?_eq_getElem hf.pc
  obtain ⟨h1, h2, h3, h4, h5⟩ := fine_parts (site_fine g.ok hf.hf hi)
  have h6 := g.im f (List.mem_of_getElem? hf.hf) _ (List.getElem_mem hf.pc)
  exact ⟨_, hi, h1, h2, h3, h4, h5, h6.1, h6.2⟩
theorem Good.num (g : Good p) : 1 ≤ p.fs.length ∧ p.fs.length ≤ 32 ∧ ∀ f ∈ p.fs, 1 ≤ f.regs ∧ f.regs ≤ 16 ∧ 1 ≤ f.code.length ∧ f.code.length ≤ 512 := num_facts (ok_num g.ok)
theorem Good.safe (g : Good p) (hI : Inv p (t :: lo)) (hf : FI p t f) (hi : f.code[t.pc]? = some i) : Safe p t lo f i := by
  obtain ⟨i', hi', h1, h2, h3, h4, h5, h6, h7⟩ := g.facts hf
  rw [hi] at hi'
  cases hi'
  have hn := g.num.2.2 f (List.mem_of_getElem? hf.hf)
  have hl := hf.rl
  have hnn := ok_nn h1
  have la : Pk.a ∈ nmd i.op → i.a < t.regs.length := fun hm => by
    have := regs_ge h1 (q := .a) rfl hm
    simp only [Pk.get] at this
    omega
  have lb : Pk.b ∈ nmd i.op → i.b < t.regs.length := fun hm => by
    have := regs_ge h1 (q := .b) rfl hm
    simp only [Pk.get] at this
    omega
  have lc : Pk.c ∈ nmd i.op → i.c < t.regs.length := fun hm => by
    have := regs_ge h1 (q := .c) rfl hm
    simp only [Pk.get] at this
    omega
  refine ⟨hf.hf, hi, ⟨h6, h7⟩, h1, fun h => la ?_, fun h => lb ?_, fun h => lc ?_, fun h8 => ?_, fun h9 u lo' hlo => ?_, hf.u, by omega, ?_⟩
  · rcases h with h | h | h | h | h <;> simp [nmd, h]
  · rcases h with h | h <;> simp [nmd, h]
  · simp [nmd, h]
  · refine ⟨by have := regs_bc h1 h8; omega, ?_⟩
    unfold callsI at h4
    rw [Bool.or_eq_true] at h4
    rcases h4 with h4 | h4
    · exact absurd h8 (of_decide_eq_true h4).1
    · split at h4
      · rename_i f' hf'
        exact ⟨f', hf', of_decide_eq_true h4, (g.num.2.2 f' (List.mem_of_getElem? hf')).2.1⟩
      · cases h4
  · exact hI.d.1 u lo' hlo
  · have := hf.pc; omega
theorem Good.safeL (g : Good p) (hI : Inv p l) : SafeL p l := fun t lo h => by
  subst h
  obtain ⟨f, hf⟩ := hI.fi t (.head _)
  obtain ⟨i, hi, _⟩ := g.facts hf
  exact ⟨f, i, g.safe hI hf hi⟩
theorem FI.ins (hf : FI p t f) (hi : f.code[t.pc]? = some i) : insF p t = i := by
  unfold insF
  rw [hf.hf]
  simp [hi]
theorem AllU.set {l : List Int} {n : Nat} {x : Int} (h : AllU l) (hx : IsU x) : AllU (l.set n x) := fun y hy => by
  rcases List.mem_or_eq_of_mem_set hy with hy | rfl
  · exact h y hy
  · exact hx
theorem zero_u : IsU 0 := ⟨by decide, by decide⟩
theorem AllU.padd {l : List Int} {n : Nat} (h : AllU l) : AllU (padd l n) := fun y hy => by
  rcases List.mem_append.1 hy with hy | hy
  · exact h y hy
  · rw [List.eq_of_mem_replicate hy]; exact zero_u
/-- The top is changed. -/
theorem Inv.top (hI : Inv p (t :: lo)) (hu : ∃ f, FI p u f) (hd : u.dest = t.dest) : Inv p (u :: lo) :=
  ⟨fun x hx => by
    rcases List.mem_cons.1 hx with rfl | hx
    · exact hu
    · exact hI.fi x (.tail _ hx), ⟨fun v lo' h => by rw [hd]; exact hI.d.1 v lo' h, hI.d.2⟩⟩
theorem Inv.tail (hI : Inv p (t :: lo)) : Inv p lo := ⟨fun x hx => hI.fi x (.tail _ hx), hI.d.2⟩
theorem ends_next (h : endsI f t.pc i = true) (h4 : i.op ≠ 4) (h9 : i.op ≠ 9) : t.pc + 1 < f.code.length := by
  unfold endsI at h
  rw [Bool.or_eq_true] at h
  rcases h with h | h
  · exact of_decide_eq_true h
  · unfold lvI at h
    rw [Bool.and_eq_true] at h
    have := of_decide_eq_true h.2
    omega
theorem jumps_in (h : jumpsI f i = true) (h45 : i.op = 4 ∨ i.op = 5) (h0 : 0 ≤ i.imm) : i.imm.toNat < f.code.length := by
  unfold jumpsI at h
  have := of_decide_eq_true h
  omega
theorem Inv.done {res : Int} (g : Good p) (hI : Inv p (t :: lo)) (hloc : localI (insF p t) = true) : Inv p (doneF p (insF p t) t lo res).1 := by
  obtain ⟨f, hf⟩ := hI.fi t (.head _)
  obtain ⟨i, hi, h1, h2, h3, h4, h5, h6⟩ := g.facts hf
  have sf := g.safe hI hf hi
  rw [hf.ins hi] at hloc ⊢
  have hset : ∀ (x y : Int), i.op ≠ 4 → i.op ≠ 9 → IsU y → Inv p ({ t with pc := t.pc + 1, regs := t.regs.set x.toNat y } :: lo) := fun x y q4 q9 hy => by
    refine hI.top ⟨f, hf.hf, ends_next h5 q4 q9, ?_, hf.u.set hy⟩ rfl
    rw [List.length_set]; exact hf.rl
  have hpc : ∀ n : Nat, n < f.code.length → Inv p ({ t with pc := n } :: lo) := fun n hn => hI.top ⟨f, hf.hf, hn, hf.rl, hf.u⟩ rfl
  unfold doneF
  simp only
  split
  · exact hset _ _ (by omega) (by omega) h6
  split
  · exact hset _ _ (by omega) (by omega) (hf.u.reg _)
  split
  · exact hset _ _ (by omega) (by omega) (aDo_u (hf.u.reg _) (hf.u.reg _))
  split
  · exact hpc _ (jumps_in h3 (.inl (by assumption)) h6.1)
  split
  · split
    · exact hpc _ (ends_next h5 (by omega) (by omega))
    · exact hpc _ (jumps_in h3 (.inr (by assumption)) h6.1)
  split
  · rename_i h8
    obtain ⟨hbc, f', hf', hcf, hfr⟩ := sf.call h8
    have hnn := ok_nn h1
    have e5 : p.fs.getD i.imm.toNat ⟨0, []⟩ = f' := by rw [List.getD, hf']; rfl
    rw [e5]
    have hn' := g.num.2.2 f' (List.mem_of_getElem? hf')
    have hwl : ((t.regs.take (i.b + i.c).toNat).drop i.b.toNat).length = i.c.toNat := by rw [List.length_drop, List.length_take]; omega
    refine ⟨fun x hx => ?_, ⟨fun u lo' hlo => ?_, (hpc _ (ends_next h5 (by omega) (by omega))).d⟩⟩
    · rcases List.mem_cons.1 hx with rfl | hx
      · refine ⟨f', hf', by show 0 < _; omega, padd_len (by rw [hwl]; omega), AllU.padd fun y hy => hf.u y (List.mem_of_mem_take (List.mem_of_mem_drop hy))⟩
      · exact (hpc _ (ends_next h5 (by omega) (by omega))).fi x hx
    · cases hlo
      show i.a.toNat < t.regs.length
      have := regs_ge h1 (q := .a) rfl (by simp [nmd, h8])
      simp only [Pk.get] at this
      have := hf.rl
      omega
  split
  · cases lo with
    | nil => exact ⟨fun x hx => (by cases hx), trivial⟩
    | cons u lo' =>
      obtain ⟨f', hf'⟩ := hI.fi u (.tail _ (.head _))
      refine hI.tail.top ⟨f', hf'.hf, hf'.pc, ?_, hf'.u.set (hf.u.reg _)⟩ rfl
      show (u.regs.set _ _).length = _
      rw [List.length_set]; exact hf'.rl
  · rename_i q1 q2 q3 q4 q5 q8 q9
    exact hpc _ (ends_next h5 q4 q9)
theorem refE_local {n : Nat} {most : Int} (h : refE t n i most = 0) : localI i = true := by
  unfold refE at h
  cases hl : localI i
  · rw [if_pos hl] at h; cases h
  · rfl
theorem Inv.step {most res : Int} (g : Good p) (hI : Inv p l) : Inv p (stepF p most l res).2.1 := by
  unfold stepF
  split
  · exact hI
  split
  · exact hI
  split
  · exact hI.done g (refE_local (by assumption))
  · exact hI
theorem Inv.pass {reg word : Int} (g : Good p) (hI : Inv p l) (hw : IsU word) : Inv p (passF p reg word l).2 := by
  unfold passF
  split
  · exact hI
  split
  · exact hI
  split
  · exact hI
  · rename_i t lo hl hr
    obtain ⟨f, hf⟩ := hI.fi t (.head _)
    obtain ⟨i, hi, h1, h2, h3, h4, h5, h6⟩ := g.facts hf
    rw [hf.ins hi] at hl
    have hop : i.op ≠ 4 ∧ i.op ≠ 9 := by
      unfold localI at hl
      rw [h1, Bool.true_and] at hl
      have : ¬ (i.op ≤ 5 ∨ i.op = 8 ∨ i.op = 9 ∨ i.op = 19) := fun h => hl (decide_eq_true h)
      omega
    refine hI.top ⟨f, hf.hf, ends_next h5 hop.1 hop.2, ?_, ?_⟩ rfl
    · show (if 0 ≤ reg then t.regs.set reg.toNat word else t.regs).length = _
      split
      · rw [List.length_set]; exact hf.rl
      · exact hf.rl
    · show AllU (if 0 ≤ reg then t.regs.set reg.toNat word else t.regs)
      split
      · exact hf.u.set hw
      · exact hf.u
/-- Where a stack begins. -/
theorem Inv.beg {x : Nat} {ws : List Int} (g : Good p) (hf : p.fs[x]? = some f) (hl : (ws.length : Int) ≤ f.regs) (hu : AllU ws) : Inv p [begF x f ws] := by
  have hn := g.num.2.2 f (List.mem_of_getElem? hf)
  refine ⟨fun t ht => ?_, ⟨fun u lo' h => (by cases h), trivial⟩⟩
  rw [List.mem_singleton.1 ht]
  exact ⟨f, hf, by show 0 < _; omega, padd_len (by omega), AllU.padd hu⟩
theorem Inv.regs (g : Good p) (hI : Inv p l) : ∀ m ∈ l, m.regs.length ≤ 1000 := fun m hm => by
  obtain ⟨f, hf⟩ := hI.fi m hm
  have := (g.num.2.2 f (List.mem_of_getElem? hf.hf)).2.1
  have := hf.rl
  omega
theorem done_len {res : Int} {i : Ins} : (doneF p i t lo res).1.length ≤ lo.length + 2 ∧ lo.length ≤ (doneF p i t lo res).1.length ∧ (i.op ≠ 8 → (doneF p i t lo res).1.length ≤ lo.length + 1) := by
  unfold doneF
  simp only
  split
  · simp
  split
  · simp
  split
  · simp
  split
  · simp
  split
  · split <;> simp
  split
  · simp; omega
  split
  · cases lo <;> simp
  · simp
/-- How deep a step goes. -/
theorem step_len {most res : Int} : (stepF p most l res).2.1.length ≤ l.length + 1 ∧ l.length ≤ (stepF p most l res).2.1.length + 1 ∧ ((stepF p most l res).2.1.length ≤ l.length ∨ ((stepF p most l res).2.1.length : Int) ≤ most) ∧ ((stepF p most l res).1 ≠ 0 → (stepF p most l res).2 = (l, res)) := by
  unfold stepF
  split
  · simp
  split
  · simp
  · rename_i t lo
    split
    · rename_i hr
      obtain ⟨d1, d2, d3⟩ := done_len (p := p) (i := insF p t) (t := t) (lo := lo) (res := res)
      simp only [List.length_cons]
      refine ⟨by omega, by omega, ?_, by simp⟩
      by_cases h8 : (insF p t).op = 8
      · refine .inr ?_
        have : ((lo.length + 1 : Nat) : Int) < most := by
          unfold refE at hr
          split at hr
          · cases hr
          split at hr
          · rename_i h; exact absurd hr h.2
          split at hr
          · cases hr
          · rename_i h; exact Decidable.byContradiction fun hn => h ⟨h8, hn⟩
        omega
      · have := d3 h8
        exact .inl (by omega)
    · simp
theorem pass_len {reg word : Int} : (passF p reg word l).2.length = l.length ∧ ((passF p reg word l).1 ≠ 0 → (passF p reg word l).2 = l) := by
  unfold passF
  split
  · simp
  split
  · simp
  split
  · simp
  · simp
end
end Go.Proofs.YtkkkcafkepnecaaGreat

