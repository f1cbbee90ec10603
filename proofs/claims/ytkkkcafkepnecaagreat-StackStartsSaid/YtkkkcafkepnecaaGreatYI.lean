/- The reference of stacks of one frame; does a stack stand as it? -/
import Derived.Test.YtkkkcafkepnecaaGreatYG
import Derived.Test.YtkkkcafkepnecaaGreatYL
import Derived.Test.YtkkkcafkepnecaaGreatZF
import Derived.Test.YtkkkcafkepnecaaGreatGI

set_option linter.unusedVariables false
set_option linter.unusedSimpArgs false
namespace Go.Proofs.YtkkkcafkepnecaaGreat
open Go Go.RowKit Vc Ar
attribute [local irreducible] binV Op.unary convert nlW faW ldS ldW ixS ixA ixV ixT exW lnS lnT pu stW alW opW opU bsW mkW

section
variable {B w : World} {H X F F' Q R : Hp} {K : Value → World → Prop} {PK : List PanicEntry → World → Prop} {KK : Value → Prop} {p : Pr} {s s' : SK} {v a c d : Value} {bx : Nat} {res : Int} {m n : Frm} {f : Fun} {i : Ins}
abbrev oneL (bx : Nat) : Value := .slice (some ⟨bx, 0, none⟩) 1 1
theorem wr11 : IntKind.i64.wrap (((1 : Nat) : Int) - 1) = 0 := by decide
theorem next12_spec (h : Ow B w H) (hbx : (bx, cel (frow m c) T.t_api_Frame) ∈ H) (hc : Sl H c (rgs m.regs)) (hv : fsIn H v p.fs) (h1 : p.fs[m.fn]? = some f) (h2 : f.code[m.pc]? = some i) (k : ∀ w', Ow B w' H → K (.tuple #[.agg i.cells.toArray, .agg #[vI m.fn, vI m.pc], vB true]) w') :
    callW PG N.linesmanref12_Stack_Next [.agg (rsC p v (oneL bx) res).toArray] K PK w := by
  refine linesmanref12_Stack_Next.ok ?_
  unfold linesmanref12_Stack_Next.C
  have hlt := (List.getElem?_eq_some_iff.1 h1).1
  obtain ⟨ps, cc, f', f1, f2, f3, f4, f5⟩ := hv.at (n := (m.fn : Int)) (by omega) (by omega)
  rw [Int.toNat_natCast, h1] at f1
  cases f1
  refine al_rule h (l := rsC p v (oneL bx) res) (by rw [show v = v from rfl]; rfl) (fun b2 w1 hw1 => ?_)
  refine al_rule hw1 (l := (bare 0).cells) zins (fun b4 w2 hw2 => ?_)
  refine al_rule hw2 (l := [vI 0, vI 0]) (by kernel_rfl) (fun b6 w3 hw3 => ?_)
  have m2 : ∀ {A : Hp}, (b2, cel (rsC p v (oneL bx) res) T.t_linesmanref12_Stack) ∈ A ++ ((b6, cel [vI 0, vI 0] T.t_api_Site) :: (b4, cel (bare 0).cells T.t_api_Ins) :: (b2, cel (rsC p v (oneL bx) res) T.t_linesmanref12_Stack) :: H) := List.mem_append_right _ (.tail _ (.tail _ (.head _)))
  have inH : ∀ {A : Hp} {y}, y ∈ H → y ∈ A ++ ((b6, cel [vI 0, vI 0] T.t_api_Site) :: (b4, cel (bare 0).cells T.t_api_Ins) :: (b2, cel (rsC p v (oneL bx) res) T.t_linesmanref12_Stack) :: H) := fun h => List.mem_append_right _ (.tail _ (.tail _ (.tail _ h)))
  repeat (first | refine pu_not ?_ | refine pu_eql ?_ | refine pu_neq ?_ | refine pu_lss ?_ | refine pu_leq ?_ | refine pu_gtr ?_ | refine pu_geq ?_ | refine pu_add ?_ | refine pu_sub ?_ | refine pu_mul ?_ | refine pu_neg ?_ | refine fa_at ?_ | refine nl_ptr ?_ | refine ex20 ?_ | refine ex21 ?_ | refine ex30 ?_ | refine ex31 ?_ | refine ex32 ?_ | refine ln_rule ?_ | refine lnT_rule ?_ | refine pu_and ?_ | refine pu_or ?_ | refine pu_xor ?_ | refine pu_seq ?_ | refine pu_sne ?_)
  refine ld_here hw3 (m2 (A := [])) (v := oneL bx) rfl ?_
  repeat (first | refine pu_not ?_ | refine pu_eql ?_ | refine pu_neq ?_ | refine pu_lss ?_ | refine pu_leq ?_ | refine pu_gtr ?_ | refine pu_geq ?_ | refine pu_add ?_ | refine pu_sub ?_ | refine pu_mul ?_ | refine pu_neg ?_ | refine fa_at ?_ | refine nl_ptr ?_ | refine ex20 ?_ | refine ex21 ?_ | refine ex30 ?_ | refine ex31 ?_ | refine ex32 ?_ | refine ln_rule ?_ | refine lnT_rule ?_ | refine pu_and ?_ | refine pu_or ?_ | refine pu_xor ?_ | refine pu_seq ?_ | refine pu_sne ?_)
  refine cnd_f rfl ?_
  repeat (first | refine pu_not ?_ | refine pu_eql ?_ | refine pu_neq ?_ | refine pu_lss ?_ | refine pu_leq ?_ | refine pu_gtr ?_ | refine pu_geq ?_ | refine pu_add ?_ | refine pu_sub ?_ | refine pu_mul ?_ | refine pu_neg ?_ | refine fa_at ?_ | refine nl_ptr ?_ | refine ex20 ?_ | refine ex21 ?_ | refine ex30 ?_ | refine ex31 ?_ | refine ex32 ?_ | refine ln_rule ?_ | refine lnT_rule ?_ | refine pu_and ?_ | refine pu_or ?_ | refine pu_xor ?_ | refine pu_seq ?_ | refine pu_sne ?_)
  refine ld_here hw3 (m2 (A := [])) (v := oneL bx) rfl ?_
  repeat (first | refine pu_not ?_ | refine pu_eql ?_ | refine pu_neq ?_ | refine pu_lss ?_ | refine pu_leq ?_ | refine pu_gtr ?_ | refine pu_geq ?_ | refine pu_add ?_ | refine pu_sub ?_ | refine pu_mul ?_ | refine pu_neg ?_ | refine fa_at ?_ | refine nl_ptr ?_ | refine ex20 ?_ | refine ex21 ?_ | refine ex30 ?_ | refine ex31 ?_ | refine ex32 ?_ | refine ln_rule ?_ | refine lnT_rule ?_ | refine pu_and ?_ | refine pu_or ?_ | refine pu_xor ?_ | refine pu_seq ?_ | refine pu_sne ?_)
  refine ld_here hw3 (m2 (A := [])) (v := oneL bx) rfl ?_
  repeat (first | refine pu_not ?_ | refine pu_eql ?_ | refine pu_neq ?_ | refine pu_lss ?_ | refine pu_leq ?_ | refine pu_gtr ?_ | refine pu_geq ?_ | refine pu_add ?_ | refine pu_sub ?_ | refine pu_mul ?_ | refine pu_neg ?_ | refine fa_at ?_ | refine nl_ptr ?_ | refine ex20 ?_ | refine ex21 ?_ | refine ex30 ?_ | refine ex31 ?_ | refine ex32 ?_ | refine ln_rule ?_ | refine lnT_rule ?_ | refine pu_and ?_ | refine pu_or ?_ | refine pu_xor ?_ | refine pu_seq ?_ | refine pu_sne ?_)
  rw [wr11]
  refine ixS_at (by omega) (by omega) ?_
  refine ldn_here hw3 (inH (A := []) hbx) (vs := frow m c) rfl rfl ?_
  refine al_rule hw3 (l := zfrm) (by kernel_rfl) (fun b30 w4 hw4 => ?_)
  refine st_here (A := []) hw4 (frow m c) rfl rfl (fr_plain' m hc) (by simp) (fun w5 hw5 => ?_)
  simp only [List.take_zero, List.nil_append, Nat.zero_add, List.drop_succ_cons, List.drop_zero, List.drop_nil, List.append_nil] at hw5
  have hw5 : Ow B w5 ([(b30, cel (frow m c) T.t_api_Frame)] ++ ((b6, cel [vI 0, vI 0] T.t_api_Site) :: (b4, cel (bare 0).cells T.t_api_Ins) :: (b2, cel (rsC p v (oneL bx) res) T.t_linesmanref12_Stack) :: H)) := hw5
  have sub : ∀ {A : Hp} {w : World}, Ow B w ((b30, cel (frow m c) T.t_api_Frame) :: A) → Ow B w [(b30, cel (frow m c) T.t_api_Frame)] := fun h => h.sub (.cons_cons _ (List.nil_sublist _))
  refine ⟨fun w => Ow B w [(b30, cel (frow m c) T.t_api_Frame)], sub hw5.drew, ?_⟩
  repeat (first | refine pu_not ?_ | refine pu_eql ?_ | refine pu_neq ?_ | refine pu_lss ?_ | refine pu_leq ?_ | refine pu_gtr ?_ | refine pu_geq ?_ | refine pu_add ?_ | refine pu_sub ?_ | refine pu_mul ?_ | refine pu_neg ?_ | refine fa_at ?_ | refine nl_ptr ?_ | refine ex20 ?_ | refine ex21 ?_ | refine ex30 ?_ | refine ex31 ?_ | refine ex32 ?_ | refine ln_rule ?_ | refine lnT_rule ?_ | refine pu_and ?_ | refine pu_or ?_ | refine pu_xor ?_ | refine pu_seq ?_ | refine pu_sne ?_)
  refine ld_here hw5.drew m2 (v := v) rfl ?_
  repeat (first | refine pu_not ?_ | refine pu_eql ?_ | refine pu_neq ?_ | refine pu_lss ?_ | refine pu_leq ?_ | refine pu_gtr ?_ | refine pu_geq ?_ | refine pu_add ?_ | refine pu_sub ?_ | refine pu_mul ?_ | refine pu_neg ?_ | refine fa_at ?_ | refine nl_ptr ?_ | refine ex20 ?_ | refine ex21 ?_ | refine ex30 ?_ | refine ex31 ?_ | refine ex32 ?_ | refine ln_rule ?_ | refine lnT_rule ?_ | refine pu_and ?_ | refine pu_or ?_ | refine pu_xor ?_ | refine pu_seq ?_ | refine pu_sne ?_)
  refine ld_here hw5.drew (.head _) (v := vI m.fn) rfl ?_
  refine sls_fld hw5.drew (f2.mono fun y hy => inH hy) (by omega) f3 (j := 1) (v := cc) rfl ?_
  repeat (first | refine pu_not ?_ | refine pu_eql ?_ | refine pu_neq ?_ | refine pu_lss ?_ | refine pu_leq ?_ | refine pu_gtr ?_ | refine pu_geq ?_ | refine pu_add ?_ | refine pu_sub ?_ | refine pu_mul ?_ | refine pu_neg ?_ | refine fa_at ?_ | refine nl_ptr ?_ | refine ex20 ?_ | refine ex21 ?_ | refine ex30 ?_ | refine ex31 ?_ | refine ex32 ?_ | refine ln_rule ?_ | refine lnT_rule ?_ | refine pu_and ?_ | refine pu_or ?_ | refine pu_xor ?_ | refine pu_seq ?_ | refine pu_sne ?_)
  refine ld_here hw5.drew (.head _) (v := vI m.pc) rfl ?_
  refine sls_ld hw5.drew (f4.mono fun y hy => inH hy) (by omega) (code_at h2) ?_
  repeat (first | refine pu_not ?_ | refine pu_eql ?_ | refine pu_neq ?_ | refine pu_lss ?_ | refine pu_leq ?_ | refine pu_gtr ?_ | refine pu_geq ?_ | refine pu_add ?_ | refine pu_sub ?_ | refine pu_mul ?_ | refine pu_neg ?_ | refine fa_at ?_ | refine nl_ptr ?_ | refine ex20 ?_ | refine ex21 ?_ | refine ex30 ?_ | refine ex31 ?_ | refine ex32 ?_ | refine ln_rule ?_ | refine lnT_rule ?_ | refine pu_and ?_ | refine pu_or ?_ | refine pu_xor ?_ | refine pu_seq ?_ | refine pu_sne ?_)
  refine lds_here (fun w h => h) (.head _) (v := vI m.fn) rfl ?_
  repeat (first | refine pu_not ?_ | refine pu_eql ?_ | refine pu_neq ?_ | refine pu_lss ?_ | refine pu_leq ?_ | refine pu_gtr ?_ | refine pu_geq ?_ | refine pu_add ?_ | refine pu_sub ?_ | refine pu_mul ?_ | refine pu_neg ?_ | refine fa_at ?_ | refine nl_ptr ?_ | refine ex20 ?_ | refine ex21 ?_ | refine ex30 ?_ | refine ex31 ?_ | refine ex32 ?_ | refine ln_rule ?_ | refine lnT_rule ?_ | refine pu_and ?_ | refine pu_or ?_ | refine pu_xor ?_ | refine pu_seq ?_ | refine pu_sne ?_)
  refine lds_here (fun w h => h) (.head _) (v := vI m.pc) rfl ?_
  refine pu_build [vI m.fn, vI m.pc] (by kernel_rfl) ?_
  refine st_here (A := [_, _]) hw5.drew i.cells rfl rfl (ins_plain _) (by simp [Ins.cells]) (fun w6 hw6 => ⟨sub hw6, ?_⟩)
  have e5 : ∀ i : Ins, (bare 0).cells.take 0 ++ i.cells ++ (bare 0).cells.drop (0 + 5) = i.cells := fun i => rfl
  rw [e5] at hw6
  refine st_here (A := [_]) hw6 [vI m.fn, vI m.pc] rfl rfl rfl (by simp) (fun w7 hw7 => ?_)
  refine ldn_here hw7 (.tail _ (.tail _ (.head _))) (vs := i.cells) rfl rfl ?_
  refine ldn_here hw7 (.tail _ (.head _)) (vs := [vI m.fn, vI m.pc]) rfl rfl ?_
  exact k _ (Ow.drop (Ow.drop (Ow.drop (Ow.drop hw7))))
theorem reg12_spec {x : Int} (h : Ow B w H) (hbx : (bx, cel (frow m c) T.t_api_Frame) ∈ H) (hc : Sl H c (rgs m.regs)) (k : ∀ w', Ow B w' H → K (vU (regT [m] x)) w') :
    callW PG N.linesmanref12_Stack_Reg [.agg (rsC p v (oneL bx) res).toArray, vI x] K PK w := by
  refine linesmanref12_Stack_Reg.ok ?_
  unfold linesmanref12_Stack_Reg.C
  have hrl : (rgs m.regs).length = m.regs.length := by simp [rgs]
  refine al_rule h (l := rsC p v (oneL bx) res) rfl (fun b2 w1 hw1 => ?_)
  simp only [regT] at k
  repeat (first | refine pu_not ?_ | refine pu_eql ?_ | refine pu_neq ?_ | refine pu_lss ?_ | refine pu_leq ?_ | refine pu_gtr ?_ | refine pu_geq ?_ | refine pu_add ?_ | refine pu_sub ?_ | refine pu_mul ?_ | refine pu_neg ?_ | refine fa_at ?_ | refine nl_ptr ?_ | refine ex20 ?_ | refine ex21 ?_ | refine ex30 ?_ | refine ex31 ?_ | refine ex32 ?_ | refine ln_rule ?_ | refine lnT_rule ?_ | refine pu_and ?_ | refine pu_or ?_ | refine pu_xor ?_ | refine pu_seq ?_ | refine pu_sne ?_)
  refine ld_here hw1 (.head _) (v := oneL bx) rfl ?_
  repeat (first | refine pu_not ?_ | refine pu_eql ?_ | refine pu_neq ?_ | refine pu_lss ?_ | refine pu_leq ?_ | refine pu_gtr ?_ | refine pu_geq ?_ | refine pu_add ?_ | refine pu_sub ?_ | refine pu_mul ?_ | refine pu_neg ?_ | refine fa_at ?_ | refine nl_ptr ?_ | refine ex20 ?_ | refine ex21 ?_ | refine ex30 ?_ | refine ex31 ?_ | refine ex32 ?_ | refine ln_rule ?_ | refine lnT_rule ?_ | refine pu_and ?_ | refine pu_or ?_ | refine pu_xor ?_ | refine pu_seq ?_ | refine pu_sne ?_)
  refine cnd_f rfl ?_
  repeat (first | refine pu_not ?_ | refine pu_eql ?_ | refine pu_neq ?_ | refine pu_lss ?_ | refine pu_leq ?_ | refine pu_gtr ?_ | refine pu_geq ?_ | refine pu_add ?_ | refine pu_sub ?_ | refine pu_mul ?_ | refine pu_neg ?_ | refine fa_at ?_ | refine nl_ptr ?_ | refine ex20 ?_ | refine ex21 ?_ | refine ex30 ?_ | refine ex31 ?_ | refine ex32 ?_ | refine ln_rule ?_ | refine lnT_rule ?_ | refine pu_and ?_ | refine pu_or ?_ | refine pu_xor ?_ | refine pu_seq ?_ | refine pu_sne ?_)
  refine cnd (fun hq => ?_) (fun hq => ?_)
  · have hq : x < 0 := by simpa using hq
    rw [if_neg (by omega)] at k
    exact k _ hw1.drop
  have hq : 0 ≤ x := by simpa using hq
  repeat (first | refine pu_not ?_ | refine pu_eql ?_ | refine pu_neq ?_ | refine pu_lss ?_ | refine pu_leq ?_ | refine pu_gtr ?_ | refine pu_geq ?_ | refine pu_add ?_ | refine pu_sub ?_ | refine pu_mul ?_ | refine pu_neg ?_ | refine fa_at ?_ | refine nl_ptr ?_ | refine ex20 ?_ | refine ex21 ?_ | refine ex30 ?_ | refine ex31 ?_ | refine ex32 ?_ | refine ln_rule ?_ | refine lnT_rule ?_ | refine pu_and ?_ | refine pu_or ?_ | refine pu_xor ?_ | refine pu_seq ?_ | refine pu_sne ?_)
  refine ld_here hw1 (.head _) (v := oneL bx) rfl ?_
  repeat (first | refine pu_not ?_ | refine pu_eql ?_ | refine pu_neq ?_ | refine pu_lss ?_ | refine pu_leq ?_ | refine pu_gtr ?_ | refine pu_geq ?_ | refine pu_add ?_ | refine pu_sub ?_ | refine pu_mul ?_ | refine pu_neg ?_ | refine fa_at ?_ | refine nl_ptr ?_ | refine ex20 ?_ | refine ex21 ?_ | refine ex30 ?_ | refine ex31 ?_ | refine ex32 ?_ | refine ln_rule ?_ | refine lnT_rule ?_ | refine pu_and ?_ | refine pu_or ?_ | refine pu_xor ?_ | refine pu_seq ?_ | refine pu_sne ?_)
  refine ld_here hw1 (.head _) (v := oneL bx) rfl ?_
  repeat (first | refine pu_not ?_ | refine pu_eql ?_ | refine pu_neq ?_ | refine pu_lss ?_ | refine pu_leq ?_ | refine pu_gtr ?_ | refine pu_geq ?_ | refine pu_add ?_ | refine pu_sub ?_ | refine pu_mul ?_ | refine pu_neg ?_ | refine fa_at ?_ | refine nl_ptr ?_ | refine ex20 ?_ | refine ex21 ?_ | refine ex30 ?_ | refine ex31 ?_ | refine ex32 ?_ | refine ln_rule ?_ | refine lnT_rule ?_ | refine pu_and ?_ | refine pu_or ?_ | refine pu_xor ?_ | refine pu_seq ?_ | refine pu_sne ?_)
  rw [wr11]
  refine ixS_at (by omega) (by omega) ?_
  repeat (first | refine pu_not ?_ | refine pu_eql ?_ | refine pu_neq ?_ | refine pu_lss ?_ | refine pu_leq ?_ | refine pu_gtr ?_ | refine pu_geq ?_ | refine pu_add ?_ | refine pu_sub ?_ | refine pu_mul ?_ | refine pu_neg ?_ | refine fa_at ?_ | refine nl_ptr ?_ | refine ex20 ?_ | refine ex21 ?_ | refine ex30 ?_ | refine ex31 ?_ | refine ex32 ?_ | refine ln_rule ?_ | refine lnT_rule ?_ | refine pu_and ?_ | refine pu_or ?_ | refine pu_xor ?_ | refine pu_seq ?_ | refine pu_sne ?_)
  refine ld_here hw1 (.tail _ hbx) (v := c) rfl ?_
  refine sl_ln hc ?_
  rw [hrl]
  repeat (first | refine pu_not ?_ | refine pu_eql ?_ | refine pu_neq ?_ | refine pu_lss ?_ | refine pu_leq ?_ | refine pu_gtr ?_ | refine pu_geq ?_ | refine pu_add ?_ | refine pu_sub ?_ | refine pu_mul ?_ | refine pu_neg ?_ | refine fa_at ?_ | refine nl_ptr ?_ | refine ex20 ?_ | refine ex21 ?_ | refine ex30 ?_ | refine ex31 ?_ | refine ex32 ?_ | refine ln_rule ?_ | refine lnT_rule ?_ | refine pu_and ?_ | refine pu_or ?_ | refine pu_xor ?_ | refine pu_seq ?_ | refine pu_sne ?_)
  refine cnd (fun hr => ?_) (fun hr => ?_)
  · have hr : (m.regs.length : Int) ≤ x := by simpa using hr
    rw [if_neg (by omega)] at k
    exact k _ hw1.drop
  have hr : x < m.regs.length := by simpa using hr
  rw [if_pos ⟨hq, hr⟩] at k
  repeat (first | refine pu_not ?_ | refine pu_eql ?_ | refine pu_neq ?_ | refine pu_lss ?_ | refine pu_leq ?_ | refine pu_gtr ?_ | refine pu_geq ?_ | refine pu_add ?_ | refine pu_sub ?_ | refine pu_mul ?_ | refine pu_neg ?_ | refine fa_at ?_ | refine nl_ptr ?_ | refine ex20 ?_ | refine ex21 ?_ | refine ex30 ?_ | refine ex31 ?_ | refine ex32 ?_ | refine ln_rule ?_ | refine lnT_rule ?_ | refine pu_and ?_ | refine pu_or ?_ | refine pu_xor ?_ | refine pu_seq ?_ | refine pu_sne ?_)
  refine ld_here hw1 (.head _) (v := oneL bx) rfl ?_
  repeat (first | refine pu_not ?_ | refine pu_eql ?_ | refine pu_neq ?_ | refine pu_lss ?_ | refine pu_leq ?_ | refine pu_gtr ?_ | refine pu_geq ?_ | refine pu_add ?_ | refine pu_sub ?_ | refine pu_mul ?_ | refine pu_neg ?_ | refine fa_at ?_ | refine nl_ptr ?_ | refine ex20 ?_ | refine ex21 ?_ | refine ex30 ?_ | refine ex31 ?_ | refine ex32 ?_ | refine ln_rule ?_ | refine lnT_rule ?_ | refine pu_and ?_ | refine pu_or ?_ | refine pu_xor ?_ | refine pu_seq ?_ | refine pu_sne ?_)
  refine ld_here hw1 (.head _) (v := oneL bx) rfl ?_
  repeat (first | refine pu_not ?_ | refine pu_eql ?_ | refine pu_neq ?_ | refine pu_lss ?_ | refine pu_leq ?_ | refine pu_gtr ?_ | refine pu_geq ?_ | refine pu_add ?_ | refine pu_sub ?_ | refine pu_mul ?_ | refine pu_neg ?_ | refine fa_at ?_ | refine nl_ptr ?_ | refine ex20 ?_ | refine ex21 ?_ | refine ex30 ?_ | refine ex31 ?_ | refine ex32 ?_ | refine ln_rule ?_ | refine lnT_rule ?_ | refine pu_and ?_ | refine pu_or ?_ | refine pu_xor ?_ | refine pu_seq ?_ | refine pu_sne ?_)
  rw [wr11]
  refine ixS_at (by omega) (by omega) ?_
  repeat (first | refine pu_not ?_ | refine pu_eql ?_ | refine pu_neq ?_ | refine pu_lss ?_ | refine pu_leq ?_ | refine pu_gtr ?_ | refine pu_geq ?_ | refine pu_add ?_ | refine pu_sub ?_ | refine pu_mul ?_ | refine pu_neg ?_ | refine fa_at ?_ | refine nl_ptr ?_ | refine ex20 ?_ | refine ex21 ?_ | refine ex30 ?_ | refine ex31 ?_ | refine ex32 ?_ | refine ln_rule ?_ | refine lnT_rule ?_ | refine pu_and ?_ | refine pu_or ?_ | refine pu_xor ?_ | refine pu_seq ?_ | refine pu_sne ?_)
  refine ld_here hw1 (.tail _ hbx) (v := c) rfl ?_
  refine sl_ld hw1 (hc.mono fun y hy => .tail _ hy) hq (rgs_at hq hr) ?_
  exact k _ hw1.drop
theorem sframe_spec (hc : Sl H c (rgs m.regs)) (hd : Sl H d (rgs m.regs)) (hm : m.regs.length ≤ 1000) (h : Ow B w H) (k : ∀ w', Ow B w' H → K (vB true) w') : callW PG N.linesmanref12_SameFrame [.agg (frow m c).toArray, .agg (frow m d).toArray] K PK w := by
  refine linesmanref12_SameFrame.ok ?_
  unfold linesmanref12_SameFrame.C
  have hrl : (rgs m.regs).length = m.regs.length := by simp [rgs]
  refine al_rule h (l := frow m c) rfl (fun b2 w1 h1 => ?_)
  refine al_rule h1 (l := frow m d) rfl (fun b4 w2 h2 => ?_)
  have m2 : (b2, cel (frow m c) T.t_api_Frame) ∈ (b4, cel (frow m d) T.t_api_Frame) :: (b2, cel (frow m c) T.t_api_Frame) :: H := .tail _ (.head _)
  have m4 : (b4, cel (frow m d) T.t_api_Frame) ∈ (b4, cel (frow m d) T.t_api_Frame) :: (b2, cel (frow m c) T.t_api_Frame) :: H := .head _
  repeat (first | refine pu_not ?_ | refine pu_eql ?_ | refine pu_neq ?_ | refine pu_lss ?_ | refine pu_leq ?_ | refine pu_gtr ?_ | refine pu_geq ?_ | refine pu_add ?_ | refine pu_sub ?_ | refine pu_mul ?_ | refine pu_neg ?_ | refine fa_at ?_ | refine nl_ptr ?_ | refine ex20 ?_ | refine ex21 ?_ | refine ex30 ?_ | refine ex31 ?_ | refine ex32 ?_ | refine ln_rule ?_ | refine lnT_rule ?_ | refine pu_and ?_ | refine pu_or ?_ | refine pu_xor ?_ | refine pu_seq ?_ | refine pu_sne ?_)
  refine ld_here h2 m2 (v := vI m.fn) rfl ?_
  repeat (first | refine pu_not ?_ | refine pu_eql ?_ | refine pu_neq ?_ | refine pu_lss ?_ | refine pu_leq ?_ | refine pu_gtr ?_ | refine pu_geq ?_ | refine pu_add ?_ | refine pu_sub ?_ | refine pu_mul ?_ | refine pu_neg ?_ | refine fa_at ?_ | refine nl_ptr ?_ | refine ex20 ?_ | refine ex21 ?_ | refine ex30 ?_ | refine ex31 ?_ | refine ex32 ?_ | refine ln_rule ?_ | refine lnT_rule ?_ | refine pu_and ?_ | refine pu_or ?_ | refine pu_xor ?_ | refine pu_seq ?_ | refine pu_sne ?_)
  refine ld_here h2 m4 (v := vI m.fn) rfl ?_
  repeat (first | refine pu_not ?_ | refine pu_eql ?_ | refine pu_neq ?_ | refine pu_lss ?_ | refine pu_leq ?_ | refine pu_gtr ?_ | refine pu_geq ?_ | refine pu_add ?_ | refine pu_sub ?_ | refine pu_mul ?_ | refine pu_neg ?_ | refine fa_at ?_ | refine nl_ptr ?_ | refine ex20 ?_ | refine ex21 ?_ | refine ex30 ?_ | refine ex31 ?_ | refine ex32 ?_ | refine ln_rule ?_ | refine lnT_rule ?_ | refine pu_and ?_ | refine pu_or ?_ | refine pu_xor ?_ | refine pu_seq ?_ | refine pu_sne ?_)
  refine cnd_f (by simp) ?_
  repeat (first | refine pu_not ?_ | refine pu_eql ?_ | refine pu_neq ?_ | refine pu_lss ?_ | refine pu_leq ?_ | refine pu_gtr ?_ | refine pu_geq ?_ | refine pu_add ?_ | refine pu_sub ?_ | refine pu_mul ?_ | refine pu_neg ?_ | refine fa_at ?_ | refine nl_ptr ?_ | refine ex20 ?_ | refine ex21 ?_ | refine ex30 ?_ | refine ex31 ?_ | refine ex32 ?_ | refine ln_rule ?_ | refine lnT_rule ?_ | refine pu_and ?_ | refine pu_or ?_ | refine pu_xor ?_ | refine pu_seq ?_ | refine pu_sne ?_)
  refine ld_here h2 m2 (v := vI m.pc) rfl ?_
  repeat (first | refine pu_not ?_ | refine pu_eql ?_ | refine pu_neq ?_ | refine pu_lss ?_ | refine pu_leq ?_ | refine pu_gtr ?_ | refine pu_geq ?_ | refine pu_add ?_ | refine pu_sub ?_ | refine pu_mul ?_ | refine pu_neg ?_ | refine fa_at ?_ | refine nl_ptr ?_ | refine ex20 ?_ | refine ex21 ?_ | refine ex30 ?_ | refine ex31 ?_ | refine ex32 ?_ | refine ln_rule ?_ | refine lnT_rule ?_ | refine pu_and ?_ | refine pu_or ?_ | refine pu_xor ?_ | refine pu_seq ?_ | refine pu_sne ?_)
  refine ld_here h2 m4 (v := vI m.pc) rfl ?_
  repeat (first | refine pu_not ?_ | refine pu_eql ?_ | refine pu_neq ?_ | refine pu_lss ?_ | refine pu_leq ?_ | refine pu_gtr ?_ | refine pu_geq ?_ | refine pu_add ?_ | refine pu_sub ?_ | refine pu_mul ?_ | refine pu_neg ?_ | refine fa_at ?_ | refine nl_ptr ?_ | refine ex20 ?_ | refine ex21 ?_ | refine ex30 ?_ | refine ex31 ?_ | refine ex32 ?_ | refine ln_rule ?_ | refine lnT_rule ?_ | refine pu_and ?_ | refine pu_or ?_ | refine pu_xor ?_ | refine pu_seq ?_ | refine pu_sne ?_)
  refine cnd_f (by simp) ?_
  repeat (first | refine pu_not ?_ | refine pu_eql ?_ | refine pu_neq ?_ | refine pu_lss ?_ | refine pu_leq ?_ | refine pu_gtr ?_ | refine pu_geq ?_ | refine pu_add ?_ | refine pu_sub ?_ | refine pu_mul ?_ | refine pu_neg ?_ | refine fa_at ?_ | refine nl_ptr ?_ | refine ex20 ?_ | refine ex21 ?_ | refine ex30 ?_ | refine ex31 ?_ | refine ex32 ?_ | refine ln_rule ?_ | refine lnT_rule ?_ | refine pu_and ?_ | refine pu_or ?_ | refine pu_xor ?_ | refine pu_seq ?_ | refine pu_sne ?_)
  refine ld_here h2 m2 (v := vI m.dest) rfl ?_
  repeat (first | refine pu_not ?_ | refine pu_eql ?_ | refine pu_neq ?_ | refine pu_lss ?_ | refine pu_leq ?_ | refine pu_gtr ?_ | refine pu_geq ?_ | refine pu_add ?_ | refine pu_sub ?_ | refine pu_mul ?_ | refine pu_neg ?_ | refine fa_at ?_ | refine nl_ptr ?_ | refine ex20 ?_ | refine ex21 ?_ | refine ex30 ?_ | refine ex31 ?_ | refine ex32 ?_ | refine ln_rule ?_ | refine lnT_rule ?_ | refine pu_and ?_ | refine pu_or ?_ | refine pu_xor ?_ | refine pu_seq ?_ | refine pu_sne ?_)
  refine ld_here h2 m4 (v := vI m.dest) rfl ?_
  repeat (first | refine pu_not ?_ | refine pu_eql ?_ | refine pu_neq ?_ | refine pu_lss ?_ | refine pu_leq ?_ | refine pu_gtr ?_ | refine pu_geq ?_ | refine pu_add ?_ | refine pu_sub ?_ | refine pu_mul ?_ | refine pu_neg ?_ | refine fa_at ?_ | refine nl_ptr ?_ | refine ex20 ?_ | refine ex21 ?_ | refine ex30 ?_ | refine ex31 ?_ | refine ex32 ?_ | refine ln_rule ?_ | refine lnT_rule ?_ | refine pu_and ?_ | refine pu_or ?_ | refine pu_xor ?_ | refine pu_seq ?_ | refine pu_sne ?_)
  refine cnd_f (by simp) ?_
  repeat (first | refine pu_not ?_ | refine pu_eql ?_ | refine pu_neq ?_ | refine pu_lss ?_ | refine pu_leq ?_ | refine pu_gtr ?_ | refine pu_geq ?_ | refine pu_add ?_ | refine pu_sub ?_ | refine pu_mul ?_ | refine pu_neg ?_ | refine fa_at ?_ | refine nl_ptr ?_ | refine ex20 ?_ | refine ex21 ?_ | refine ex30 ?_ | refine ex31 ?_ | refine ex32 ?_ | refine ln_rule ?_ | refine lnT_rule ?_ | refine pu_and ?_ | refine pu_or ?_ | refine pu_xor ?_ | refine pu_seq ?_ | refine pu_sne ?_)
  refine ld_here h2 m2 (v := c) rfl ?_
  refine sl_ln hc ?_
  rw [hrl]
  repeat (first | refine pu_not ?_ | refine pu_eql ?_ | refine pu_neq ?_ | refine pu_lss ?_ | refine pu_leq ?_ | refine pu_gtr ?_ | refine pu_geq ?_ | refine pu_add ?_ | refine pu_sub ?_ | refine pu_mul ?_ | refine pu_neg ?_ | refine fa_at ?_ | refine nl_ptr ?_ | refine ex20 ?_ | refine ex21 ?_ | refine ex30 ?_ | refine ex31 ?_ | refine ex32 ?_ | refine ln_rule ?_ | refine lnT_rule ?_ | refine pu_and ?_ | refine pu_or ?_ | refine pu_xor ?_ | refine pu_seq ?_ | refine pu_sne ?_)
  refine ld_here h2 m4 (v := d) rfl ?_
  refine sl_ln hd ?_
  rw [hrl]
  repeat (first | refine pu_not ?_ | refine pu_eql ?_ | refine pu_neq ?_ | refine pu_lss ?_ | refine pu_leq ?_ | refine pu_gtr ?_ | refine pu_geq ?_ | refine pu_add ?_ | refine pu_sub ?_ | refine pu_mul ?_ | refine pu_neg ?_ | refine fa_at ?_ | refine nl_ptr ?_ | refine ex20 ?_ | refine ex21 ?_ | refine ex30 ?_ | refine ex31 ?_ | refine ex32 ?_ | refine ln_rule ?_ | refine lnT_rule ?_ | refine pu_and ?_ | refine pu_or ?_ | refine pu_xor ?_ | refine pu_seq ?_ | refine pu_sne ?_)
  refine cnd_f (by simp) ?_
  refine ⟨fun l w => ∃ n : Nat, l = [vI n] ∧ n ≤ m.regs.length ∧ Ow B w ((b4, cel (frow m d) T.t_api_Frame) :: (b2, cel (frow m c) T.t_api_Frame) :: H), fun l _ => match l with | [.int _ n] => m.regs.length - n.toNat | _ => 0, ⟨0, rfl, Nat.zero_le _, h2⟩, ?_⟩
  rintro l w3 ⟨n, rfl, hn, h3⟩ j
  repeat (first | refine pu_not ?_ | refine pu_eql ?_ | refine pu_neq ?_ | refine pu_lss ?_ | refine pu_leq ?_ | refine pu_gtr ?_ | refine pu_geq ?_ | refine pu_add ?_ | refine pu_sub ?_ | refine pu_mul ?_ | refine pu_neg ?_ | refine fa_at ?_ | refine nl_ptr ?_ | refine ex20 ?_ | refine ex21 ?_ | refine ex30 ?_ | refine ex31 ?_ | refine ex32 ?_ | refine ln_rule ?_ | refine lnT_rule ?_ | refine pu_and ?_ | refine pu_or ?_ | refine pu_xor ?_ | refine pu_seq ?_ | refine pu_sne ?_)
  refine ld_here h3 m2 (v := c) rfl ?_
  refine sl_ln hc ?_
  rw [hrl]
  repeat (first | refine pu_not ?_ | refine pu_eql ?_ | refine pu_neq ?_ | refine pu_lss ?_ | refine pu_leq ?_ | refine pu_gtr ?_ | refine pu_geq ?_ | refine pu_add ?_ | refine pu_sub ?_ | refine pu_mul ?_ | refine pu_neg ?_ | refine fa_at ?_ | refine nl_ptr ?_ | refine ex20 ?_ | refine ex21 ?_ | refine ex30 ?_ | refine ex31 ?_ | refine ex32 ?_ | refine ln_rule ?_ | refine lnT_rule ?_ | refine pu_and ?_ | refine pu_or ?_ | refine pu_xor ?_ | refine pu_seq ?_ | refine pu_sne ?_)
  refine cnd (fun hlt => ?_) (fun hlt => ?_)
  · have hlt : n < m.regs.length := by simpa using hlt
    refine ⟨fun w => Ow B w ((b4, cel (frow m d) T.t_api_Frame) :: (b2, cel (frow m c) T.t_api_Frame) :: H), h3.drew, ?_⟩
    repeat (first | refine pu_not ?_ | refine pu_eql ?_ | refine pu_neq ?_ | refine pu_lss ?_ | refine pu_leq ?_ | refine pu_gtr ?_ | refine pu_geq ?_ | refine pu_add ?_ | refine pu_sub ?_ | refine pu_mul ?_ | refine pu_neg ?_ | refine fa_at ?_ | refine nl_ptr ?_ | refine ex20 ?_ | refine ex21 ?_ | refine ex30 ?_ | refine ex31 ?_ | refine ex32 ?_ | refine ln_rule ?_ | refine lnT_rule ?_ | refine pu_and ?_ | refine pu_or ?_ | refine pu_xor ?_ | refine pu_seq ?_ | refine pu_sne ?_)
    refine lds_here (fun w h => h) m2 (v := c) rfl ?_
    refine sl_lds (fun w h => h) (hc.mono fun y hy => .tail _ (.tail _ hy)) (by omega) (rgs_get hlt) ?_
    repeat (first | refine pu_not ?_ | refine pu_eql ?_ | refine pu_neq ?_ | refine pu_lss ?_ | refine pu_leq ?_ | refine pu_gtr ?_ | refine pu_geq ?_ | refine pu_add ?_ | refine pu_sub ?_ | refine pu_mul ?_ | refine pu_neg ?_ | refine fa_at ?_ | refine nl_ptr ?_ | refine ex20 ?_ | refine ex21 ?_ | refine ex30 ?_ | refine ex31 ?_ | refine ex32 ?_ | refine ln_rule ?_ | refine lnT_rule ?_ | refine pu_and ?_ | refine pu_or ?_ | refine pu_xor ?_ | refine pu_seq ?_ | refine pu_sne ?_)
    refine lds_here (fun w h => h) m4 (v := d) rfl ?_
    refine sl_lds (fun w h => h) (hd.mono fun y hy => .tail _ (.tail _ hy)) (by omega) (rgs_get hlt) ?_
    repeat (first | refine pu_not ?_ | refine pu_eql ?_ | refine pu_neq ?_ | refine pu_lss ?_ | refine pu_leq ?_ | refine pu_gtr ?_ | refine pu_geq ?_ | refine pu_add ?_ | refine pu_sub ?_ | refine pu_mul ?_ | refine pu_neg ?_ | refine fa_at ?_ | refine nl_ptr ?_ | refine ex20 ?_ | refine ex21 ?_ | refine ex30 ?_ | refine ex31 ?_ | refine ex32 ?_ | refine ln_rule ?_ | refine lnT_rule ?_ | refine pu_and ?_ | refine pu_or ?_ | refine pu_xor ?_ | refine pu_seq ?_ | refine pu_sne ?_)
    refine cnd_f (by simp) ?_
    repeat (first | refine pu_not ?_ | refine pu_eql ?_ | refine pu_neq ?_ | refine pu_lss ?_ | refine pu_leq ?_ | refine pu_gtr ?_ | refine pu_geq ?_ | refine pu_add ?_ | refine pu_sub ?_ | refine pu_mul ?_ | refine pu_neg ?_ | refine fa_at ?_ | refine nl_ptr ?_ | refine ex20 ?_ | refine ex21 ?_ | refine ex30 ?_ | refine ex31 ?_ | refine ex32 ?_ | refine ln_rule ?_ | refine lnT_rule ?_ | refine pu_and ?_ | refine pu_or ?_ | refine pu_xor ?_ | refine pu_seq ?_ | refine pu_sne ?_)
    rw [wrap64_in (by omega) (by omega)]
    exact ⟨⟨n + 1, rfl, hlt, h3.drew⟩, by simp; omega⟩
  · exact k _ (Ow.drop (Ow.drop h3))
theorem isFn_cases {g : Value} (h : isFnV g = true) : ∃ f a b, g = .func f a b := by
  cases g <;> first | (exact ⟨_, _, _, rfl⟩) | cases h
theorem und_fnT' : isFnT PG T.t_iter_Seq2_int_linesman_api_Frame = true := by kernel_rfl
theorem i12 : IntKind.i64.wrap (0 + 1) = ((1 : Nat) : Int) := by decide
set_option maxRecDepth 40000 in
set_option maxHeartbeats 2000000 in
theorem is12_spec (good : Good p) (hI : Inv p s.frs) (hl : s.frs = [m]) (hs : s.ok p F) (hF : ∀ x, x ∈ F → x ∈ R) (hbx : (bx, cel (frow m c) T.t_api_Frame) ∈ R) (hc : Sl R c (rgs m.regs)) (hv : fsIn R v p.fs) (h : Ow B w (s.hp p ++ R)) (k : ∀ w', Ow B w' (s.hp p ++ R) → K (vB true) w') :
    callW PG N.linesmanlaw12_is [ptr s.b, .agg (rsC p v (oneL bx) s.res).toArray, vI 2] K PK w := by
  refine linesmanlaw12_is.ok ?_
  unfold linesmanlaw12_is.C
  obtain ⟨t, lo, he, hm, hlo⟩ := SK.es_of hl
  obtain ⟨f, hfi⟩ := hI.fi m (by rw [hl]; exact .head _)
  obtain ⟨i, hi, hok, _, _, _, _, him⟩ := good.facts hfi
  have hrg := hI.regs good
  have hmr : m.regs.length ≤ 1000 := hrg m (by rw [hl]; exact .head _)
  refine al_rule h (l := rsC p v (oneL bx) s.res) rfl (fun b2 w1 hw1 => ?_)
  refine al_rule hw1 (l := [vI 2]) rfl (fun b4 w2 hw2 => ?_)
  refine al_rule hw2 (l := [vB false]) (by kernel_rfl) (fun b6 w3 hw3 => ?_)
  have hw3 : Ow B w3 (s.hp p ++ ([(b6, cel [vB false] T.t_bool), (b4, cel [vI 2] T.t_int), (b2, cel (rsC p v (oneL bx) s.res) T.t_linesmanref12_Stack)] ++ R)) := hw3.perm (List.perm_append_comm_assoc [_, _, _] (s.hp p) R)
  refine next_at hs he (fun y hy => List.mem_append_right _ (hF y hy)) (by rw [hm]; exact hfi.hf) (by rw [hm]; exact hi) hw3 (fun w4 hw4 => ?_)
  rw [hm]
  repeat (first | refine pu_not ?_ | refine pu_eql ?_ | refine pu_neq ?_ | refine pu_lss ?_ | refine pu_leq ?_ | refine pu_gtr ?_ | refine pu_geq ?_ | refine pu_add ?_ | refine pu_sub ?_ | refine pu_mul ?_ | refine pu_neg ?_ | refine fa_at ?_ | refine nl_ptr ?_ | refine ex20 ?_ | refine ex21 ?_ | refine ex30 ?_ | refine ex31 ?_ | refine ex32 ?_ | refine ln_rule ?_ | refine lnT_rule ?_ | refine pu_and ?_ | refine pu_or ?_ | refine pu_xor ?_ | refine pu_seq ?_ | refine pu_sne ?_)
  refine al_rule hw4 (l := (bare 0).cells) zins (fun b14 w5 hw5 => ?_)
  refine al_rule hw5 (l := [vI 0, vI 0]) (by kernel_rfl) (fun b16 w6 hw6 => ?_)
  refine st_here (A := [_]) hw6 i.cells rfl rfl (ins_plain _) (by simp [Ins.cells]) (fun w7 hw7 => ?_)
  have e5 : ∀ i : Ins, (bare 0).cells.take 0 ++ i.cells ++ (bare 0).cells.drop (0 + 5) = i.cells := fun i => rfl
  rw [e5] at hw7
  refine st_here (A := []) hw7 [vI m.fn, vI m.pc] rfl rfl rfl (by simp) (fun w8 hw8 => ?_)
  simp only [List.take_zero, List.nil_append, Nat.zero_add, List.drop_succ_cons, List.drop_zero, List.drop_nil, List.append_nil] at hw8
  have hw8 : Ow B w8 (s.hp p ++ ([(b16, cel [vI m.fn, vI m.pc] T.t_api_Site), (b14, iO i), (b6, cel [vB false] T.t_bool), (b4, cel [vI 2] T.t_int), (b2, cel (rsC p v (oneL bx) s.res) T.t_linesmanref12_Stack)] ++ R)) := hw8.perm (List.perm_append_comm_assoc [_, _] (s.hp p) _)
  refine ldn_here hw8 (List.mem_append_right _ (List.mem_append_left _ (.tail _ (.tail _ (.tail _ (.tail _ (.head _))))))) (vs := rsC p v (oneL bx) s.res) rfl rfl ?_
  have inR : ∀ {A C : Hp} {y}, y ∈ R → y ∈ A ++ (C ++ R) := fun h => List.mem_append_right _ (List.mem_append_right _ h)
  refine next12_spec hw8 (inR hbx) (hc.mono fun y hy => inR hy) (hv.mono fun y hy => inR hy) hfi.hf hi (fun w9 hw9 => ?_)
  repeat (first | refine pu_not ?_ | refine pu_eql ?_ | refine pu_neq ?_ | refine pu_lss ?_ | refine pu_leq ?_ | refine pu_gtr ?_ | refine pu_geq ?_ | refine pu_add ?_ | refine pu_sub ?_ | refine pu_mul ?_ | refine pu_neg ?_ | refine fa_at ?_ | refine nl_ptr ?_ | refine ex20 ?_ | refine ex21 ?_ | refine ex30 ?_ | refine ex31 ?_ | refine ex32 ?_ | refine ln_rule ?_ | refine lnT_rule ?_ | refine pu_and ?_ | refine pu_or ?_ | refine pu_xor ?_ | refine pu_seq ?_ | refine pu_sne ?_)
  refine al_rule hw9 (l := (bare 0).cells) zins (fun b27 w10 hw10 => ?_)
  refine al_rule hw10 (l := [vI 0, vI 0]) (by kernel_rfl) (fun b29 w11 hw11 => ?_)
  refine st_here (A := [_]) hw11 i.cells rfl rfl (ins_plain _) (by simp [Ins.cells]) (fun w12 hw12 => ?_)
  rw [e5] at hw12
  refine st_here (A := []) hw12 [vI m.fn, vI m.pc] rfl rfl rfl (by simp) (fun w13 hw13 => ?_)
  simp only [List.take_zero, List.nil_append, Nat.zero_add, List.drop_succ_cons, List.drop_zero, List.drop_nil, List.append_nil] at hw13
  obtain ⟨L5, hL5⟩ : ∃ L5 : Hp, L5 = [(b29, cel [vI m.fn, vI m.pc] T.t_api_Site), (b27, iO i), (b16, cel [vI m.fn, vI m.pc] T.t_api_Site), (b14, iO i), (b4, cel [vI 2] T.t_int), (b2, cel (rsC p v (oneL bx) s.res) T.t_linesmanref12_Stack)] := ⟨_, rfl⟩
  have hw13 : Ow B w13 (s.hp p ++ ((b6, cel [vB false] T.t_bool) :: (L5 ++ R))) := by
    have h1 : Ow B w13 (s.hp p ++ ([(b29, cel [vI m.fn, vI m.pc] T.t_api_Site), (b27, iO i), (b16, cel [vI m.fn, vI m.pc] T.t_api_Site), (b14, iO i)] ++ ((b6, cel [vB false] T.t_bool) :: ([(b4, cel [vI 2] T.t_int), (b2, cel (rsC p v (oneL bx) s.res) T.t_linesmanref12_Stack)] ++ R)))) := hw13.perm (List.perm_append_comm_assoc [_, _] (s.hp p) _)
    have h2 := h1.perm (List.Perm.append_left _ List.perm_middle)
    rw [hL5]
    simpa using h2
  have n29 : (b29, cel [vI m.fn, vI m.pc] T.t_api_Site) ∈ L5 := by rw [hL5]; exact .head _
  have n27 : (b27, iO i) ∈ L5 := by rw [hL5]; exact .tail _ (.head _)
  have n16 : (b16, cel [vI m.fn, vI m.pc] T.t_api_Site) ∈ L5 := by rw [hL5]; exact .tail _ (.tail _ (.head _))
  have n14 : (b14, iO i) ∈ L5 := by rw [hL5]; exact .tail _ (.tail _ (.tail _ (.head _)))
  have n4 : (b4, cel [vI 2] T.t_int) ∈ L5 := by rw [hL5]; exact .tail _ (.tail _ (.tail _ (.tail _ (.head _))))
  have n2 : (b2, cel (rsC p v (oneL bx) s.res) T.t_linesmanref12_Stack) ∈ L5 := by rw [hL5]; exact .tail _ (.tail _ (.tail _ (.tail _ (.tail _ (.head _)))))
  clear hL5 hw1 hw2 hw3 hw4 hw5 hw6 hw7 hw8 hw9 hw10 hw11 hw12
  refine frames_spec hs hrg hw13 (fun y hy => List.mem_append_left _ hy) (fun g G w14 hsq hg hw14 => ?_)
  obtain ⟨gf, ga, gb, hgg⟩ := isFn_cases hg
  have hw14 : Ow B w14 (s.hp p ++ ((b6, cel [vB false] T.t_bool) :: (L5 ++ (R ++ G)))) := by
    have h1 : Ow B w14 (s.hp p ++ (G ++ ((b6, cel [vB false] T.t_bool) :: (L5 ++ R)))) := hw14.perm (List.perm_append_comm_assoc _ _ _)
    refine h1.perm (List.Perm.append_left _ ?_)
    refine List.perm_append_comm.trans ?_
    simp
  have i5 : ∀ {A : Hp} {y}, y ∈ L5 → y ∈ A ++ ((b6, cel [vB false] T.t_bool) :: (L5 ++ (R ++ G))) := fun h => List.mem_append_right _ (.tail _ (List.mem_append_left _ h))
  have iR : ∀ {A : Hp} {y}, y ∈ R → y ∈ A ++ ((b6, cel [vB false] T.t_bool) :: (L5 ++ (R ++ G))) := fun h => List.mem_append_right _ (.tail _ (List.mem_append_right _ (List.mem_append_left _ h)))
  refine ⟨fun w => Ow B w (s.hp p ++ ((b6, cel [vB false] T.t_bool) :: (L5 ++ (R ++ G)))), hw14.drew, ?_⟩
  have gnil : ∀ {X : Value → Prop}, X (.bool false) → pu PG (binV .eql T.t_iter_Seq2_int_linesman_api_Frame true g .nilFunc) X := fun k => by rw [hgg]; exact pu_fnl und_fnT' k
  refine gnil (cnd_f rfl ?_)
  refine ldsn_here (fun w h => h) (i5 n14) (vs := i.cells) rfl rfl ?_
  refine ldsn_here (fun w h => h) (i5 n27) (vs := i.cells) rfl rfl ?_
  refine pu_aneq (by kernel_rfl) (eq_ins _ _) ?_
  refine cnd_f (by simp) ?_
  refine ldsn_here (fun w h => h) (i5 n16) (vs := [vI m.fn, vI m.pc]) rfl rfl ?_
  refine ldsn_here (fun w h => h) (i5 n29) (vs := [vI m.fn, vI m.pc]) rfl rfl ?_
  refine pu_aneq (by kernel_rfl) (eq_siteS _ _ _ _) ?_
  refine cnd_f (by simp) ?_
  refine pu_bneq (by kernel_rfl) ?_
  refine cnd_f rfl ?_
  repeat (first | refine pu_not ?_ | refine pu_eql ?_ | refine pu_neq ?_ | refine pu_lss ?_ | refine pu_leq ?_ | refine pu_gtr ?_ | refine pu_geq ?_ | refine pu_add ?_ | refine pu_sub ?_ | refine pu_mul ?_ | refine pu_neg ?_ | refine fa_at ?_ | refine nl_ptr ?_ | refine ex20 ?_ | refine ex21 ?_ | refine ex30 ?_ | refine ex31 ?_ | refine ex32 ?_ | refine ln_rule ?_ | refine lnT_rule ?_ | refine pu_and ?_ | refine pu_or ?_ | refine pu_xor ?_ | refine pu_seq ?_ | refine pu_sne ?_)
  refine lds_here (fun w h => h) (i5 n2) (v := oneL bx) rfl ?_
  repeat (first | refine pu_not ?_ | refine pu_eql ?_ | refine pu_neq ?_ | refine pu_lss ?_ | refine pu_leq ?_ | refine pu_gtr ?_ | refine pu_geq ?_ | refine pu_add ?_ | refine pu_sub ?_ | refine pu_mul ?_ | refine pu_neg ?_ | refine fa_at ?_ | refine nl_ptr ?_ | refine ex20 ?_ | refine ex21 ?_ | refine ex30 ?_ | refine ex31 ?_ | refine ex32 ?_ | refine ln_rule ?_ | refine lnT_rule ?_ | refine pu_and ?_ | refine pu_or ?_ | refine pu_xor ?_ | refine pu_seq ?_ | refine pu_sne ?_)
  refine depth_spec hs hw14.drew (.head _) ⟨hw14.drew, ?_⟩
  rw [SK.es_len, hl]
  repeat (first | refine pu_not ?_ | refine pu_eql ?_ | refine pu_neq ?_ | refine pu_lss ?_ | refine pu_leq ?_ | refine pu_gtr ?_ | refine pu_geq ?_ | refine pu_add ?_ | refine pu_sub ?_ | refine pu_mul ?_ | refine pu_neg ?_ | refine fa_at ?_ | refine nl_ptr ?_ | refine ex20 ?_ | refine ex21 ?_ | refine ex30 ?_ | refine ex31 ?_ | refine ex32 ?_ | refine ln_rule ?_ | refine lnT_rule ?_ | refine pu_and ?_ | refine pu_or ?_ | refine pu_xor ?_ | refine pu_seq ?_ | refine pu_sne ?_)
  refine cnd_f rfl ?_
  repeat (first | refine pu_not ?_ | refine pu_eql ?_ | refine pu_neq ?_ | refine pu_lss ?_ | refine pu_leq ?_ | refine pu_gtr ?_ | refine pu_geq ?_ | refine pu_add ?_ | refine pu_sub ?_ | refine pu_mul ?_ | refine pu_neg ?_ | refine fa_at ?_ | refine nl_ptr ?_ | refine ex20 ?_ | refine ex21 ?_ | refine ex30 ?_ | refine ex31 ?_ | refine ex32 ?_ | refine ln_rule ?_ | refine lnT_rule ?_ | refine pu_and ?_ | refine pu_or ?_ | refine pu_xor ?_ | refine pu_seq ?_ | refine pu_sne ?_)
  refine lds_here (fun w h => h) (i5 n2) (v := vU s.res) rfl ?_
  refine result_spec hw14.drew (.head _) ⟨hw14.drew, ?_⟩
  repeat (first | refine pu_not ?_ | refine pu_eql ?_ | refine pu_neq ?_ | refine pu_lss ?_ | refine pu_leq ?_ | refine pu_gtr ?_ | refine pu_geq ?_ | refine pu_add ?_ | refine pu_sub ?_ | refine pu_mul ?_ | refine pu_neg ?_ | refine fa_at ?_ | refine nl_ptr ?_ | refine ex20 ?_ | refine ex21 ?_ | refine ex30 ?_ | refine ex31 ?_ | refine ex32 ?_ | refine ln_rule ?_ | refine lnT_rule ?_ | refine pu_and ?_ | refine pu_or ?_ | refine pu_xor ?_ | refine pu_seq ?_ | refine pu_sne ?_)
  refine cnd_f (by simp) ?_
  refine ⟨fun l w => ∃ x : Int, l = [vI x] ∧ -1 ≤ x ∧ x ≤ 17 ∧ Ow B w (s.hp p ++ ((b6, cel [vB false] T.t_bool) :: (L5 ++ (R ++ G)))), fun l _ => match l with | [.int _ x] => (17 - x).toNat | _ => 0, ⟨-1, rfl, by omega, by omega, hw14.drew⟩, ?_⟩
  rintro l w15 ⟨x, rfl, hx0, hx1, hw15⟩ j
  repeat (first | refine pu_not ?_ | refine pu_eql ?_ | refine pu_neq ?_ | refine pu_lss ?_ | refine pu_leq ?_ | refine pu_gtr ?_ | refine pu_geq ?_ | refine pu_add ?_ | refine pu_sub ?_ | refine pu_mul ?_ | refine pu_neg ?_ | refine fa_at ?_ | refine nl_ptr ?_ | refine ex20 ?_ | refine ex21 ?_ | refine ex30 ?_ | refine ex31 ?_ | refine ex32 ?_ | refine ln_rule ?_ | refine lnT_rule ?_ | refine pu_and ?_ | refine pu_or ?_ | refine pu_xor ?_ | refine pu_seq ?_ | refine pu_sne ?_)
  refine cnd (fun hx => ?_) (fun hx => ?_)
  · have hx : x ≤ 16 := by simpa using hx
    refine ⟨fun w => Ow B w (s.hp p ++ ((b6, cel [vB false] T.t_bool) :: (L5 ++ (R ++ G)))), hw15.drew, ?_⟩
    refine ldsn_here (fun w h => h) (i5 n2) (vs := rsC p v (oneL bx) s.res) rfl rfl ?_
    refine reg_spec hs hw15.drew (fun w16 hw16 => ⟨hw16, ?_⟩)
    refine reg12_spec hw16 (iR hbx) (hc.mono fun y hy => iR hy) (fun w17 hw17 => ?_)
    rw [hl]
    repeat (first | refine pu_not ?_ | refine pu_eql ?_ | refine pu_neq ?_ | refine pu_lss ?_ | refine pu_leq ?_ | refine pu_gtr ?_ | refine pu_geq ?_ | refine pu_add ?_ | refine pu_sub ?_ | refine pu_mul ?_ | refine pu_neg ?_ | refine fa_at ?_ | refine nl_ptr ?_ | refine ex20 ?_ | refine ex21 ?_ | refine ex30 ?_ | refine ex31 ?_ | refine ex32 ?_ | refine ln_rule ?_ | refine lnT_rule ?_ | refine pu_and ?_ | refine pu_or ?_ | refine pu_xor ?_ | refine pu_seq ?_ | refine pu_sne ?_)
    refine cnd_f (by simp) ?_
    repeat (first | refine pu_not ?_ | refine pu_eql ?_ | refine pu_neq ?_ | refine pu_lss ?_ | refine pu_leq ?_ | refine pu_gtr ?_ | refine pu_geq ?_ | refine pu_add ?_ | refine pu_sub ?_ | refine pu_mul ?_ | refine pu_neg ?_ | refine fa_at ?_ | refine nl_ptr ?_ | refine ex20 ?_ | refine ex21 ?_ | refine ex30 ?_ | refine ex31 ?_ | refine ex32 ?_ | refine ln_rule ?_ | refine lnT_rule ?_ | refine pu_and ?_ | refine pu_or ?_ | refine pu_xor ?_ | refine pu_seq ?_ | refine pu_sne ?_)
    rw [wrap64_in (by omega) (by omega)]
    exact ⟨⟨x + 1, rfl, by omega, by omega, hw17⟩, by simp only []; omega⟩
  refine al_rule hw15 (l := [vI 0]) (by kernel_rfl) (fun b103 w16 hw16 => ?_)
  refine st1_here (A := []) hw16 rfl rfl (by simp) (fun w17 hw17 => ?_)
  simp only [List.set_cons_zero] at hw17
  obtain ⟨Z, hZ⟩ : ∃ Z : Hp, Z = s.hp p ++ (L5 ++ R) := ⟨_, rfl⟩
  have hw17 : Ow B w17 (((b103, cel [vI 0] T.t_int) :: (b6, cel [vB false] T.t_bool) :: Z) ++ G) := by
    have h1 : Ow B w17 ([(b103, cel [vI 0] T.t_int)] ++ (s.hp p ++ ((b6, cel [vB false] T.t_bool) :: (L5 ++ (R ++ G))))) := hw17
    have h2 := h1.perm (List.Perm.append_left _ List.perm_middle)
    rw [hZ]
    simpa using h2
  have kz : ∀ {A : Hp} {w' : World}, Ow B w' (A ++ (Z ++ G)) → K (vB true) w' := fun {A w'} h' => by
    have h2 := (h'.sub (List.sublist_append_right _ _)).sub (List.sublist_append_left _ _)
    rw [hZ] at h2
    exact k _ (h2.sub ((List.Sublist.refl _).append (List.sublist_append_right _ _)))
  have z5 : ∀ {y}, y ∈ L5 → y ∈ Z := fun h => by rw [hZ]; exact List.mem_append_right _ (List.mem_append_left _ h)
  have zR : ∀ {y}, y ∈ R → y ∈ Z := fun h => by rw [hZ]; exact List.mem_append_right _ (List.mem_append_right _ h)
  rw [hl] at hsq
  refine range_fnX (X := (b103, cel [vI 0] T.t_int) :: (b6, cel [vB false] T.t_bool) :: Z) (H := G) (A := linesmanlaw12_is.note) (fuel := 400) mixed hsq frT_mono (by simp) (fun i args F ⟨c, m, e, _⟩ => by rw [e]; rfl) hw17
    (fun n Y => Y = (b103, cel [vI (n : Nat)] T.t_int) :: (b6, cel [vB false] T.t_bool) :: Z) (fun _ _ => False) rfl ?_ ?_ ?_
  · rintro lp r n args Y F2 R2 w18 hn ⟨c', m', rfl, hm', hc'⟩ hY hF2 h18 k1 k2 u
    have hn0 : n = 0 := by simp at hn; omega
    subst hn0
    have : m' = m := by simp at hm'; exact hm'.symm
    subst this
    subst hY
    refine Eq.mpr (linesmanlaw12_is.Rd0_eq lp R2 _ _ _ _ _ _ w18 u) ?_
    unfold linesmanlaw12_is.Rd0
    refine al_rule h18 (l := zfrm) (by kernel_rfl) (fun b139 w19 h19 => ?_)
    refine st_here (A := []) h19 (frow m' c') rfl rfl (fr_plain' m' hc') (by simp) (fun w20 h20 => ?_)
    simp only [List.take_zero, List.nil_append, Nat.zero_add, List.drop_succ_cons, List.drop_zero, List.drop_nil, List.append_nil] at h20
    have h20 : Ow B w20 ((lp, recR r) :: (b139, cel (frow m' c') T.t_api_Frame) :: (((b103, cel [vI ((0 : Nat) : Int)] T.t_int) :: (b6, cel [vB false] T.t_bool) :: Z) ++ F2)) := h20.perm (.swap _ _ _)
    refine rbeg h20 (fun w21 h21 => ?_)
    have q139 : (b139, cel (frow m' c') T.t_api_Frame) ∈ (lp, recB r) :: (b139, cel (frow m' c') T.t_api_Frame) :: (((b103, cel [vI ((0 : Nat) : Int)] T.t_int) :: (b6, cel [vB false] T.t_bool) :: Z) ++ F2) := .tail _ (.head _)
    have q103 : (b103, cel [vI ((0 : Nat) : Int)] T.t_int) ∈ (lp, recB r) :: (b139, cel (frow m' c') T.t_api_Frame) :: (((b103, cel [vI ((0 : Nat) : Int)] T.t_int) :: (b6, cel [vB false] T.t_bool) :: Z) ++ F2) := .tail _ (.tail _ (.head _))
    have qZ : ∀ {y}, y ∈ Z → y ∈ (lp, recB r) :: (b139, cel (frow m' c') T.t_api_Frame) :: (((b103, cel [vI ((0 : Nat) : Int)] T.t_int) :: (b6, cel [vB false] T.t_bool) :: Z) ++ F2) := fun h => .tail _ (.tail _ (List.mem_append_left _ (.tail _ (.tail _ h))))
    have qF : ∀ {y}, y ∈ F2 → y ∈ (lp, recB r) :: (b139, cel (frow m' c') T.t_api_Frame) :: (((b103, cel [vI ((0 : Nat) : Int)] T.t_int) :: (b6, cel [vB false] T.t_bool) :: Z) ++ F2) := fun h => .tail _ (.tail _ (List.mem_append_right _ h))
    refine ⟨fun w => Ow B w ((lp, recB r) :: (b139, cel (frow m' c') T.t_api_Frame) :: (((b103, cel [vI ((0 : Nat) : Int)] T.t_int) :: (b6, cel [vB false] T.t_bool) :: Z) ++ F2)), h21.drew, ?_⟩
    refine lds_here (fun w h => h) q103 (v := vI ((0 : Nat) : Int)) rfl ?_
    repeat (first | refine pu_not ?_ | refine pu_eql ?_ | refine pu_neq ?_ | refine pu_lss ?_ | refine pu_leq ?_ | refine pu_gtr ?_ | refine pu_geq ?_ | refine pu_add ?_ | refine pu_sub ?_ | refine pu_mul ?_ | refine pu_neg ?_ | refine fa_at ?_ | refine nl_ptr ?_ | refine ex20 ?_ | refine ex21 ?_ | refine ex30 ?_ | refine ex31 ?_ | refine ex32 ?_ | refine ln_rule ?_ | refine lnT_rule ?_ | refine pu_and ?_ | refine pu_or ?_ | refine pu_xor ?_ | refine pu_seq ?_ | refine pu_sne ?_)
    refine cnd_f rfl ?_
    refine lds_here (fun w h => h) q103 (v := vI ((0 : Nat) : Int)) rfl ?_
    repeat (first | refine pu_not ?_ | refine pu_eql ?_ | refine pu_neq ?_ | refine pu_lss ?_ | refine pu_leq ?_ | refine pu_gtr ?_ | refine pu_geq ?_ | refine pu_add ?_ | refine pu_sub ?_ | refine pu_mul ?_ | refine pu_neg ?_ | refine fa_at ?_ | refine nl_ptr ?_ | refine ex20 ?_ | refine ex21 ?_ | refine ex30 ?_ | refine ex31 ?_ | refine ex32 ?_ | refine ln_rule ?_ | refine lnT_rule ?_ | refine pu_and ?_ | refine pu_or ?_ | refine pu_xor ?_ | refine pu_seq ?_ | refine pu_sne ?_)
    refine lds_here (fun w h => h) (qZ (z5 n2)) (v := oneL bx) rfl ?_
    repeat (first | refine pu_not ?_ | refine pu_eql ?_ | refine pu_neq ?_ | refine pu_lss ?_ | refine pu_leq ?_ | refine pu_gtr ?_ | refine pu_geq ?_ | refine pu_add ?_ | refine pu_sub ?_ | refine pu_mul ?_ | refine pu_neg ?_ | refine fa_at ?_ | refine nl_ptr ?_ | refine ex20 ?_ | refine ex21 ?_ | refine ex30 ?_ | refine ex31 ?_ | refine ex32 ?_ | refine ln_rule ?_ | refine lnT_rule ?_ | refine pu_and ?_ | refine pu_or ?_ | refine pu_xor ?_ | refine pu_seq ?_ | refine pu_sne ?_)
    refine cnd_f rfl ?_
    refine ldsn_here (fun w h => h) q139 (vs := frow m' c') rfl rfl ?_
    repeat (first | refine pu_not ?_ | refine pu_eql ?_ | refine pu_neq ?_ | refine pu_lss ?_ | refine pu_leq ?_ | refine pu_gtr ?_ | refine pu_geq ?_ | refine pu_add ?_ | refine pu_sub ?_ | refine pu_mul ?_ | refine pu_neg ?_ | refine fa_at ?_ | refine nl_ptr ?_ | refine ex20 ?_ | refine ex21 ?_ | refine ex30 ?_ | refine ex31 ?_ | refine ex32 ?_ | refine ln_rule ?_ | refine lnT_rule ?_ | refine pu_and ?_ | refine pu_or ?_ | refine pu_xor ?_ | refine pu_seq ?_ | refine pu_sne ?_)
    refine lds_here (fun w h => h) (qZ (z5 n2)) (v := oneL bx) rfl ?_
    repeat (first | refine pu_not ?_ | refine pu_eql ?_ | refine pu_neq ?_ | refine pu_lss ?_ | refine pu_leq ?_ | refine pu_gtr ?_ | refine pu_geq ?_ | refine pu_add ?_ | refine pu_sub ?_ | refine pu_mul ?_ | refine pu_neg ?_ | refine fa_at ?_ | refine nl_ptr ?_ | refine ex20 ?_ | refine ex21 ?_ | refine ex30 ?_ | refine ex31 ?_ | refine ex32 ?_ | refine ln_rule ?_ | refine lnT_rule ?_ | refine pu_and ?_ | refine pu_or ?_ | refine pu_xor ?_ | refine pu_seq ?_ | refine pu_sne ?_)
    refine lds_here (fun w h => h) (qZ (z5 n2)) (v := oneL bx) rfl ?_
    repeat (first | refine pu_not ?_ | refine pu_eql ?_ | refine pu_neq ?_ | refine pu_lss ?_ | refine pu_leq ?_ | refine pu_gtr ?_ | refine pu_geq ?_ | refine pu_add ?_ | refine pu_sub ?_ | refine pu_mul ?_ | refine pu_neg ?_ | refine fa_at ?_ | refine nl_ptr ?_ | refine ex20 ?_ | refine ex21 ?_ | refine ex30 ?_ | refine ex31 ?_ | refine ex32 ?_ | refine ln_rule ?_ | refine lnT_rule ?_ | refine pu_and ?_ | refine pu_or ?_ | refine pu_xor ?_ | refine pu_seq ?_ | refine pu_sne ?_)
    rw [wr11]
    refine lds_here (fun w h => h) q103 (v := vI ((0 : Nat) : Int)) rfl ?_
    repeat (first | refine pu_not ?_ | refine pu_eql ?_ | refine pu_neq ?_ | refine pu_lss ?_ | refine pu_leq ?_ | refine pu_gtr ?_ | refine pu_geq ?_ | refine pu_add ?_ | refine pu_sub ?_ | refine pu_mul ?_ | refine pu_neg ?_ | refine fa_at ?_ | refine nl_ptr ?_ | refine ex20 ?_ | refine ex21 ?_ | refine ex30 ?_ | refine ex31 ?_ | refine ex32 ?_ | refine ln_rule ?_ | refine lnT_rule ?_ | refine pu_and ?_ | refine pu_or ?_ | refine pu_xor ?_ | refine pu_seq ?_ | refine pu_sne ?_)
    have e0 : IntKind.i64.wrap (0 - ((0 : Nat) : Int)) = 0 := by decide
    rw [e0]
    refine ixS_at (by omega) (by omega) ?_
    refine ldsn_here (fun w h => h) (qZ (zR hbx)) (vs := frow m' c) rfl rfl ?_
    refine sframe_spec (hc'.mono fun y hy => qF hy) (hc.mono fun y hy => qZ (zR hy)) hmr h21.drew (fun w22 h22 => ⟨h22, ?_⟩)
    repeat (first | refine pu_not ?_ | refine pu_eql ?_ | refine pu_neq ?_ | refine pu_lss ?_ | refine pu_leq ?_ | refine pu_gtr ?_ | refine pu_geq ?_ | refine pu_add ?_ | refine pu_sub ?_ | refine pu_mul ?_ | refine pu_neg ?_ | refine fa_at ?_ | refine nl_ptr ?_ | refine ex20 ?_ | refine ex21 ?_ | refine ex30 ?_ | refine ex31 ?_ | refine ex32 ?_ | refine ln_rule ?_ | refine lnT_rule ?_ | refine pu_and ?_ | refine pu_or ?_ | refine pu_xor ?_ | refine pu_seq ?_ | refine pu_sne ?_)
    refine cnd_f rfl ?_
    refine ld_here h22 q103 (v := vI ((0 : Nat) : Int)) rfl ?_
    repeat (first | refine pu_not ?_ | refine pu_eql ?_ | refine pu_neq ?_ | refine pu_lss ?_ | refine pu_leq ?_ | refine pu_gtr ?_ | refine pu_geq ?_ | refine pu_add ?_ | refine pu_sub ?_ | refine pu_mul ?_ | refine pu_neg ?_ | refine fa_at ?_ | refine nl_ptr ?_ | refine ex20 ?_ | refine ex21 ?_ | refine ex30 ?_ | refine ex31 ?_ | refine ex32 ?_ | refine ln_rule ?_ | refine lnT_rule ?_ | refine pu_and ?_ | refine pu_or ?_ | refine pu_xor ?_ | refine pu_seq ?_ | refine pu_sne ?_)
    have e1 : IntKind.i64.wrap (((0 : Nat) : Int) + 1) = ((0 + 1 : Nat) : Int) := by decide
    rw [e1]
    refine st1_here (A := [_, _]) h22 rfl rfl (by simp) (fun w23 h23 => ?_)
    simp only [List.set_cons_zero] at h23
    refine ld_here h23 (.tail _ (.tail _ (.head _))) rfl ?_
    refine ld_here h23 (.tail _ (.tail _ (.tail _ (List.mem_append_left _ (.tail _ (z5 n4)))))) (v := vI 2) rfl ?_
    repeat (first | refine pu_not ?_ | refine pu_eql ?_ | refine pu_neq ?_ | refine pu_lss ?_ | refine pu_leq ?_ | refine pu_gtr ?_ | refine pu_geq ?_ | refine pu_add ?_ | refine pu_sub ?_ | refine pu_mul ?_ | refine pu_neg ?_ | refine fa_at ?_ | refine nl_ptr ?_ | refine ex20 ?_ | refine ex21 ?_ | refine ex30 ?_ | refine ex31 ?_ | refine ex32 ?_ | refine ln_rule ?_ | refine lnT_rule ?_ | refine pu_and ?_ | refine pu_or ?_ | refine pu_xor ?_ | refine pu_seq ?_ | refine pu_sne ?_)
    refine cnd_f rfl ?_
    refine rend_go h23 (fun w24 h24 => k1 _ w24 rfl (h24.sub (.cons_cons _ (.cons _ (.refl _)))))
  · rintro mk Y w18 hY h18
    subst hY
    have h18 : Ow B w18 ([((mk, .deferred (some [])) : Nat × Obj), (b103, cel [vI (([m].length : Nat) : Int)] T.t_int)] ++ (b6, cel [vB false] T.t_bool) :: (Z ++ G)) := h18
    have t2 : (b2, cel (rsC p v (oneL bx) s.res) T.t_linesmanref12_Stack) ∈ [((mk, .deferred (some [])) : Nat × Obj), (b103, cel [vI (([m].length : Nat) : Int)] T.t_int)] ++ (b6, cel [vB false] T.t_bool) :: (Z ++ G) := List.mem_append_right _ (.tail _ (List.mem_append_left _ (z5 n2)))
    have t4 : (b4, cel [vI 2] T.t_int) ∈ [((mk, .deferred (some [])) : Nat × Obj), (b103, cel [vI (([m].length : Nat) : Int)] T.t_int)] ++ (b6, cel [vB false] T.t_bool) :: (Z ++ G) := List.mem_append_right _ (.tail _ (List.mem_append_left _ (z5 n4)))
    refine ld_here h18 (.tail _ (.head _)) rfl ?_
    repeat (first | refine pu_not ?_ | refine pu_eql ?_ | refine pu_neq ?_ | refine pu_lss ?_ | refine pu_leq ?_ | refine pu_gtr ?_ | refine pu_geq ?_ | refine pu_add ?_ | refine pu_sub ?_ | refine pu_mul ?_ | refine pu_neg ?_ | refine fa_at ?_ | refine nl_ptr ?_ | refine ex20 ?_ | refine ex21 ?_ | refine ex30 ?_ | refine ex31 ?_ | refine ex32 ?_ | refine ln_rule ?_ | refine lnT_rule ?_ | refine pu_and ?_ | refine pu_or ?_ | refine pu_xor ?_ | refine pu_seq ?_ | refine pu_sne ?_)
    refine ld_here h18 t2 (v := oneL bx) rfl ?_
    repeat (first | refine pu_not ?_ | refine pu_eql ?_ | refine pu_neq ?_ | refine pu_lss ?_ | refine pu_leq ?_ | refine pu_gtr ?_ | refine pu_geq ?_ | refine pu_add ?_ | refine pu_sub ?_ | refine pu_mul ?_ | refine pu_neg ?_ | refine fa_at ?_ | refine nl_ptr ?_ | refine ex20 ?_ | refine ex21 ?_ | refine ex30 ?_ | refine ex31 ?_ | refine ex32 ?_ | refine ln_rule ?_ | refine lnT_rule ?_ | refine pu_and ?_ | refine pu_or ?_ | refine pu_xor ?_ | refine pu_seq ?_ | refine pu_sne ?_)
    refine ld_here h18 t4 (v := vI 2) rfl ?_
    refine pu_max2 ?_
    refine pu_min2 ?_
    repeat (first | refine pu_not ?_ | refine pu_eql ?_ | refine pu_neq ?_ | refine pu_lss ?_ | refine pu_leq ?_ | refine pu_gtr ?_ | refine pu_geq ?_ | refine pu_add ?_ | refine pu_sub ?_ | refine pu_mul ?_ | refine pu_neg ?_ | refine fa_at ?_ | refine nl_ptr ?_ | refine ex20 ?_ | refine ex21 ?_ | refine ex30 ?_ | refine ex31 ?_ | refine ex32 ?_ | refine ln_rule ?_ | refine lnT_rule ?_ | refine pu_and ?_ | refine pu_or ?_ | refine pu_xor ?_ | refine pu_seq ?_ | refine pu_sne ?_)
    refine st1_here h18 rfl rfl (by simp) (fun w19 h19 => ?_)
    refine lv_ret h19 (fun w20 h20 => ?_)
    refine ld_here h20 (.tail _ (.head _)) rfl ?_
    exact kz (A := [_, _]) h20
  · intro mk j Y w18 hz
    exact hz.elim
end
end Go.Proofs.YtkkkcafkepnecaaGreat

