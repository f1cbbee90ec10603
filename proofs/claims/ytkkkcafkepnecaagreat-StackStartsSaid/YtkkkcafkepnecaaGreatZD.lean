/- Programs that are handed in; the law ProgramAt. -/
import Derived.Test.YtkkkcafkepnecaaGreatZC
import Derived.Test.YtkkkcafkepnecaaGreatZB
import Derived.RecoverIn
import Derived.Laws.CopyRow
import Derived.Laws.IdiomCopy
import Derived.Test.YtkkkcafkepnecaaGreatFB

set_option linter.unusedVariables false
set_option linter.unusedSimpArgs false
namespace Go.Proofs.YtkkkcafkepnecaaGreat
open Go Go.RowKit Vc
attribute [local irreducible] binV Op.unary convert nlW faW ldS ldW ixS ixA ixV ixT exW lnS lnT pu stW alW opW opU bsW mkW

section
variable {B w : World} {H X : Hp} {K : Value → World → Prop} {PK : List PanicEntry → World → Prop} {KK : Value → Prop} {v : Value} {p : Pr}
theorem ins_of {cs : List Value} (h : Fit PG H T.t_api_Ins cs) : ∃ i : Ins, cs = i.cells ∧ 0 ≤ i.imm ∧ i.imm < 4294967296 := by
  have hl : cs.length = 5 := h.len (by kernel_rfl) (by kernel_rfl)
  match cs, hl with
  | [x, y, z, u, t], _ =>
    obtain ⟨a, ha, _⟩ := (h.field (i := 0) (T := T.t_api_Op) (off := 0) (n := 1) (by kernel_rfl)).of_int und_op
    obtain ⟨b, hb, _⟩ := (h.field (i := 1) (T := T.t_int) (off := 1) (n := 1) (by kernel_rfl)).of_int und_int
    obtain ⟨c, hc, _⟩ := (h.field (i := 2) (T := T.t_int) (off := 2) (n := 1) (by kernel_rfl)).of_int und_int
    obtain ⟨d, hd, _⟩ := (h.field (i := 3) (T := T.t_int) (off := 3) (n := 1) (by kernel_rfl)).of_int und_int
    obtain ⟨e, he, hw⟩ := (h.field (i := 4) (T := T.t_uint32) (off := 4) (n := 1) (by kernel_rfl)).of_int und_u32
    refine ⟨⟨a, b, c, d, e⟩, ?_, wf_u32 hw⟩
    have e1 : [x] = [vI a] := ha
    have e2 : [y] = [vI b] := hb
    have e3 : [z] = [vI c] := hc
    have e4 : [u] = [vI d] := hd
    have e5 : [t] = [.int .u32 e] := he
    cases e1; cases e2; cases e3; cases e4; cases e5
    rfl
theorem code_of : ∀ {ys : List (List Value)}, (∀ y ∈ ys, Fit PG H T.t_api_Ins y) → ∃ l : List Ins, ys = icode l ∧ immOk l
  | [], _ => ⟨[], rfl, fun i hi => by cases hi⟩
  | y :: ys, h => by
    obtain ⟨l, rfl, h2⟩ := code_of fun z hz => h z (.tail _ hz)
    obtain ⟨i, rfl, hi⟩ := ins_of (h y (.head _))
    refine ⟨i :: l, rfl, fun x hx => ?_⟩
    rcases List.mem_cons.1 hx with rfl | hx
    · exact hi
    · exact h2 x hx
theorem cells_ins : PG.cellsOf T.t_api_Ins = 5 := by kernel_rfl
theorem cells_func : PG.cellsOf T.t_api_Func = 2 := by kernel_rfl
theorem und_slins : PG.underlying T.t_sl_api_Ins = some (.slice T.t_api_Ins) := by kernel_rfl
theorem und_slfunc : PG.underlying T.t_sl_api_Func = some (.slice T.t_api_Func) := by kernel_rfl
theorem fun_of {cs : List Value} (h : Fit PG H T.t_api_Func cs) : ∃ (f : Fun) (c : Value), cs = [vI f.regs, c] ∧ Sls H c 5 (icode f.code) ∧ immOk f.code := by
  have hl : cs.length = 2 := h.len (by kernel_rfl) (by kernel_rfl)
  match cs, hl with
  | [x, y], _ =>
    obtain ⟨a, ha, _⟩ := (h.field (i := 0) (T := T.t_int) (off := 0) (n := 1) (by kernel_rfl)).of_int und_int
    obtain ⟨c, ys, hc, hs, hf⟩ := (h.field (i := 1) (T := T.t_sl_api_Ins) (off := 1) (n := 1) (by kernel_rfl)).of_slice und_slins
    obtain ⟨l, rfl, hm⟩ := code_of hf
    have e1 : [x] = [vI a] := ha
    have e2 : [y] = [c] := hc
    cases e1; cases e2
    rw [cells_ins] at hs
    exact ⟨⟨a, l⟩, y, rfl, hs, hm⟩
theorem funs_of : ∀ {ys : List (List Value)}, (∀ y ∈ ys, Fit PG H T.t_api_Func y) → ∃ ps : List (Value × Fun), ys = frows ps ∧ ∀ q ∈ ps, Sls H q.1 5 (icode q.2.code) ∧ immOk q.2.code
  | [], _ => ⟨[], rfl, fun q hq => by cases hq⟩
  | y :: ys, h => by
    obtain ⟨ps, rfl, h2⟩ := funs_of fun z hz => h z (.tail _ hz)
    obtain ⟨f, c, rfl, h3, h4⟩ := fun_of (h y (.head _))
    refine ⟨(c, f) :: ps, rfl, fun q hq => ?_⟩
    rcases List.mem_cons.1 hq with rfl | hq
    · exact ⟨h3, h4⟩
    · exact h2 q hq
theorem prog_of' {cs : List Value} (h : Fit PG H T.t_api_Program cs) : ∃ (p : Pr) (v : Value), cs = p.cells v ∧ fsIn H v p.fs := by
  have hl : cs.length = 4 := h.len (by kernel_rfl) (by kernel_rfl)
  match cs, hl with
  | [x, y, z, u], _ =>
    obtain ⟨c, ys, hc, hs, hf⟩ := (h.field (i := 0) (T := T.t_sl_api_Func) (off := 0) (n := 1) (by kernel_rfl)).of_slice und_slfunc
    obtain ⟨ps, rfl, hm⟩ := funs_of hf
    obtain ⟨a, ha, _⟩ := (h.field (i := 1) (T := T.t_int) (off := 1) (n := 1) (by kernel_rfl)).of_int und_int
    obtain ⟨b, hb, _⟩ := (h.field (i := 2) (T := T.t_int) (off := 2) (n := 1) (by kernel_rfl)).of_int und_int
    obtain ⟨d, hd, _⟩ := (h.field (i := 3) (T := T.t_int) (off := 3) (n := 1) (by kernel_rfl)).of_int und_int
    have e1 : [x] = [c] := hc
    have e2 : [y] = [vI a] := ha
    have e3 : [z] = [vI b] := hb
    have e4 : [u] = [vI d] := hd
    cases e1; cases e2; cases e3; cases e4
    rw [cells_func] at hs
    exact ⟨⟨ps.map Prod.snd, a, b, d⟩, x, rfl, ps, rfl, hs, hm⟩
theorem prog_of {v0 : Value} (g : FitV PG H T.t_api_Program v0) : ∃ (p : Pr) (v : Value), v0 = .agg (p.cells v).toArray ∧ fsIn H v p.fs := by
  obtain ⟨cs, rfl, hf⟩ := g.agg (by kernel_rfl)
  obtain ⟨p, v, rfl, h⟩ := prog_of' hf
  exact ⟨p, v, rfl, h⟩
theorem site_of {v0 : Value} (g : FitV PG H T.t_api_Site v0) : ∃ a b : Int, v0 = .agg #[vI a, vI b] := by
  obtain ⟨cs, rfl, h⟩ := g.agg (by kernel_rfl)
  have hl : cs.length = 2 := h.len (by kernel_rfl) (by kernel_rfl)
  match cs, hl with
  | [x, y], _ =>
    obtain ⟨a, ha, _⟩ := (h.field (i := 0) (T := T.t_int) (off := 0) (n := 1) (by kernel_rfl)).of_int und_int
    obtain ⟨b, hb, _⟩ := (h.field (i := 1) (T := T.t_int) (off := 1) (n := 1) (by kernel_rfl)).of_int und_int
    have e1 : [x] = [vI a] := ha
    have e2 : [y] = [vI b] := hb
    cases e1; cases e2
    exact ⟨a, b, rfl⟩
end
end Go.Proofs.YtkkkcafkepnecaaGreat

/-! Programs: which are the same; how much there is. -/
set_option linter.unusedVariables false
set_option linter.unusedSimpArgs false
namespace Go.Proofs.YtkkkcafkepnecaaGreat
open Go Go.RowKit Vc
attribute [local irreducible] binV Op.unary convert nlW faW ldS ldW ixS ixA ixV ixT exW lnS lnT pu stW alW opW opU bsW mkW
deriving instance DecidableEq for Fun
deriving instance DecidableEq for Pr

section
variable {B w : World} {H X : Hp} {K : Value → World → Prop} {PK : List PanicEntry → World → Prop} {KK : Value → Prop} {v v' : Value} {p q : Pr}
theorem icode_at {l : List Ins} {n : Nat} (h : n < l.length) : (icode l)[(n : Int).toNat]? = some l[n].cells := by
  rw [Int.toNat_natCast, List.getElem?_map, List.getElem?_eq_getElem h]; rfl
/-- The lists of instructions are gone over, side by side. -/
theorem equal_spec {s s' : Value} {xs ys : List Ins} (h : Ow B w H) (hs : Sls H s 5 (icode xs)) (hs' : Sls H s' 5 (icode ys))
    (k : ∀ w', Ow B w' H → K (vB (decide (xs = ys))) w') : callW PG N.slices_Equal_sl_api_Ins_api_Ins [s, s'] K PK w := by
  refine slices_Equal_sl_api_Ins_api_Ins.ok ?_
  unfold slices_Equal_sl_api_Ins_api_Ins.C
  have hmax := hs.max
  have hl : ∀ l : List Ins, (icode l).length = l.length := fun l => List.length_map _
  rw [hl] at hmax
  simp only [maxLen] at hmax
  refine sls_ln hs ?_
  refine sls_ln hs' ?_
  rw [hl, hl]
  repeat (first | refine pu_not ?_ | refine pu_eql ?_ | refine pu_neq ?_ | refine pu_lss ?_ | refine pu_leq ?_ | refine pu_gtr ?_ | refine pu_geq ?_ | refine pu_add ?_ | refine pu_sub ?_ | refine pu_mul ?_ | refine pu_neg ?_ | refine fa_at ?_ | refine nl_ptr ?_ | refine ex20 ?_ | refine ex21 ?_ | refine ex30 ?_ | refine ex31 ?_ | refine ex32 ?_ | refine ln_rule ?_ | refine lnT_rule ?_ | refine pu_and ?_ | refine pu_or ?_ | refine pu_xor ?_ | refine pu_seq ?_ | refine pu_sne ?_)
  refine cnd (fun hne => ?_) (fun heq => ?_)
  · have e : decide (xs = ys) = false := by
      simp only [decide_eq_false_iff_not]
      rintro rfl
      simp at hne
    rw [e] at k; exact k _ h
  · have heq : xs.length = ys.length := by simp at heq; omega
    refine sls_ln hs ?_
    rw [hl]
    refine ⟨fun l w => ∃ i : Nat, l = [vI i] ∧ i ≤ xs.length ∧ (∀ j, j < i → xs[j]? = ys[j]?) ∧ Ow B w H,
      fun l _ => match l with | [.int _ n] => xs.length - n.toNat | _ => 0, ⟨0, rfl, Nat.zero_le _, fun j hj => absurd hj (by omega), h⟩, ?_⟩
    rintro l w3 ⟨i, rfl, hi, hall, h3⟩ j
    repeat (first | refine pu_not ?_ | refine pu_eql ?_ | refine pu_neq ?_ | refine pu_lss ?_ | refine pu_leq ?_ | refine pu_gtr ?_ | refine pu_geq ?_ | refine pu_add ?_ | refine pu_sub ?_ | refine pu_mul ?_ | refine pu_neg ?_ | refine fa_at ?_ | refine nl_ptr ?_ | refine ex20 ?_ | refine ex21 ?_ | refine ex30 ?_ | refine ex31 ?_ | refine ex32 ?_ | refine ln_rule ?_ | refine lnT_rule ?_ | refine pu_and ?_ | refine pu_or ?_ | refine pu_xor ?_ | refine pu_seq ?_ | refine pu_sne ?_)
    refine cnd (fun hlt => ?_) (fun hlt => ?_)
    · have hlt : i < xs.length := by simpa using hlt
      refine ⟨fun w => Ow B w H, h3.drew, ?_⟩
      refine sls_lds (fun w h => h) hs (by omega) (icode_at hlt) ?_
      refine sls_lds (fun w h => h) hs' (by omega) (icode_at (heq ▸ hlt)) ?_
      refine pu_aneq (by kernel_rfl) (eq_ins _ _) ?_
      refine cnd (fun hne => ?_) (fun he => ?_)
      · have e : decide (xs = ys) = false := by
          simp only [decide_eq_false_iff_not]
          rintro rfl
          simp at hne
        rw [e] at k; exact k _ h3.drew
      · have he : xs[i] = ys[i] := by simpa using he
        repeat (first | refine pu_not ?_ | refine pu_eql ?_ | refine pu_neq ?_ | refine pu_lss ?_ | refine pu_leq ?_ | refine pu_gtr ?_ | refine pu_geq ?_ | refine pu_add ?_ | refine pu_sub ?_ | refine pu_mul ?_ | refine pu_neg ?_ | refine fa_at ?_ | refine nl_ptr ?_ | refine ex20 ?_ | refine ex21 ?_ | refine ex30 ?_ | refine ex31 ?_ | refine ex32 ?_ | refine ln_rule ?_ | refine lnT_rule ?_ | refine pu_and ?_ | refine pu_or ?_ | refine pu_xor ?_ | refine pu_seq ?_ | refine pu_sne ?_)
        rw [wrap64_in (by omega) (by omega)]
        refine ⟨⟨i + 1, rfl, hlt, fun j hj => ?_, h3.drew⟩, by simp; omega⟩
        rcases Nat.lt_succ_iff_lt_or_eq.1 hj with hj | rfl
        · exact hall j hj
        · rw [List.getElem?_eq_getElem hlt, List.getElem?_eq_getElem (heq ▸ hlt), he]
    · have e : decide (xs = ys) = true := by
        simp only [decide_eq_true_eq]
        refine List.ext_getElem? fun j => ?_
        by_cases hj : j < xs.length
        · exact hall j (by simp at hlt; omega)
        · rw [List.getElem?_eq_none (by omega), List.getElem?_eq_none (by omega)]
      rw [e] at k; exact k _ h3
theorem fun_ne {f g : Fun} : decide (f = g) = (decide (f.regs = g.regs) && decide (f.code = g.code)) := by
  cases f; cases g
  simp [Bool.decide_and]
theorem same1_pf {f g : Fun} {c d : Value} (hc : Sls H c 5 (icode f.code)) (hd : Sls H d 5 (icode g.code)) : PF PG B H (fnc N.program_Same_1 #[]) [.agg #[vI f.regs, c], .agg #[vI g.regs, d]] (vB (decide (f = g))) := fun Z K PK w hw k => by
  refine callV_fn program_Same_1.okf (program_Same_1.ok ?_)
  unfold program_Same_1.C
  rw [fun_ne] at k
  refine al_rule hw (l := [vI f.regs, c]) rfl (fun b2 w1 h1 => ?_)
  refine al_rule h1 (l := [vI g.regs, d]) rfl (fun b4 w2 h2 => ?_)
  repeat (first | refine pu_not ?_ | refine pu_eql ?_ | refine pu_neq ?_ | refine pu_lss ?_ | refine pu_leq ?_ | refine pu_gtr ?_ | refine pu_geq ?_ | refine pu_add ?_ | refine pu_sub ?_ | refine pu_mul ?_ | refine pu_neg ?_ | refine fa_at ?_ | refine nl_ptr ?_ | refine ex20 ?_ | refine ex21 ?_ | refine ex30 ?_ | refine ex31 ?_ | refine ex32 ?_ | refine ln_rule ?_ | refine lnT_rule ?_ | refine pu_and ?_ | refine pu_or ?_ | refine pu_xor ?_ | refine pu_seq ?_ | refine pu_sne ?_)
  refine ld_here h2 (.tail _ (.head _)) (v := vI f.regs) rfl ?_
  repeat (first | refine pu_not ?_ | refine pu_eql ?_ | refine pu_neq ?_ | refine pu_lss ?_ | refine pu_leq ?_ | refine pu_gtr ?_ | refine pu_geq ?_ | refine pu_add ?_ | refine pu_sub ?_ | refine pu_mul ?_ | refine pu_neg ?_ | refine fa_at ?_ | refine nl_ptr ?_ | refine ex20 ?_ | refine ex21 ?_ | refine ex30 ?_ | refine ex31 ?_ | refine ex32 ?_ | refine ln_rule ?_ | refine lnT_rule ?_ | refine pu_and ?_ | refine pu_or ?_ | refine pu_xor ?_ | refine pu_seq ?_ | refine pu_sne ?_)
  refine ld_here h2 (.head _) (v := vI g.regs) rfl ?_
  repeat (first | refine pu_not ?_ | refine pu_eql ?_ | refine pu_neq ?_ | refine pu_lss ?_ | refine pu_leq ?_ | refine pu_gtr ?_ | refine pu_geq ?_ | refine pu_add ?_ | refine pu_sub ?_ | refine pu_mul ?_ | refine pu_neg ?_ | refine fa_at ?_ | refine nl_ptr ?_ | refine ex20 ?_ | refine ex21 ?_ | refine ex30 ?_ | refine ex31 ?_ | refine ex32 ?_ | refine ln_rule ?_ | refine lnT_rule ?_ | refine pu_and ?_ | refine pu_or ?_ | refine pu_xor ?_ | refine pu_seq ?_ | refine pu_sne ?_)
  refine cnd (fun hq => ?_) (fun hq => ?_)
  · have hq : f.regs = g.regs := by simpa using hq
    rw [decide_eq_true hq, Bool.true_and] at k
    repeat (first | refine pu_not ?_ | refine pu_eql ?_ | refine pu_neq ?_ | refine pu_lss ?_ | refine pu_leq ?_ | refine pu_gtr ?_ | refine pu_geq ?_ | refine pu_add ?_ | refine pu_sub ?_ | refine pu_mul ?_ | refine pu_neg ?_ | refine fa_at ?_ | refine nl_ptr ?_ | refine ex20 ?_ | refine ex21 ?_ | refine ex30 ?_ | refine ex31 ?_ | refine ex32 ?_ | refine ln_rule ?_ | refine lnT_rule ?_ | refine pu_and ?_ | refine pu_or ?_ | refine pu_xor ?_ | refine pu_seq ?_ | refine pu_sne ?_)
    refine ld_here h2 (.tail _ (.head _)) (v := c) rfl ?_
    repeat (first | refine pu_not ?_ | refine pu_eql ?_ | refine pu_neq ?_ | refine pu_lss ?_ | refine pu_leq ?_ | refine pu_gtr ?_ | refine pu_geq ?_ | refine pu_add ?_ | refine pu_sub ?_ | refine pu_mul ?_ | refine pu_neg ?_ | refine fa_at ?_ | refine nl_ptr ?_ | refine ex20 ?_ | refine ex21 ?_ | refine ex30 ?_ | refine ex31 ?_ | refine ex32 ?_ | refine ln_rule ?_ | refine lnT_rule ?_ | refine pu_and ?_ | refine pu_or ?_ | refine pu_xor ?_ | refine pu_seq ?_ | refine pu_sne ?_)
    refine ld_here h2 (.head _) (v := d) rfl ?_
    refine equal_spec h2 (hc.mono fun x hx => .tail _ (.tail _ (List.mem_append_right _ hx))) (hd.mono fun x hx => .tail _ (.tail _ (List.mem_append_right _ hx))) (fun w3 h3 => ?_)
    exact k _ h3.drop.drop
  · have hq : ¬ f.regs = g.regs := by simpa using hq
    rw [decide_eq_false hq, Bool.false_and] at k
    exact k _ h2.drop.drop
theorem equalFunc_spec {fs gs : List Fun} (h : Ow B w H) (hv : fsIn H v fs) (hv' : fsIn H v' gs) (k : ∀ w', Ow B w' H → K (vB (decide (fs = gs))) w') :
    callW PG N.slices_EqualFunc_sl_api_Func_sl_api_Func_api_Func_api_Func [v, v', fnc N.program_Same_1 #[]] K PK w := by
  refine slices_EqualFunc_sl_api_Func_sl_api_Func_api_Func_api_Func.ok ?_
  unfold slices_EqualFunc_sl_api_Func_sl_api_Func_api_Func_api_Func.C
  have hmax : fs.length ≤ 9223372036854775807 := by
    obtain ⟨ps, e1, e2, e3⟩ := hv
    have := e2.max
    rw [← e1]
    simp only [frows, List.length_map, maxLen] at this ⊢
    omega
  refine hv.ln ?_
  refine hv'.ln ?_
  repeat (first | refine pu_not ?_ | refine pu_eql ?_ | refine pu_neq ?_ | refine pu_lss ?_ | refine pu_leq ?_ | refine pu_gtr ?_ | refine pu_geq ?_ | refine pu_add ?_ | refine pu_sub ?_ | refine pu_mul ?_ | refine pu_neg ?_ | refine fa_at ?_ | refine nl_ptr ?_ | refine ex20 ?_ | refine ex21 ?_ | refine ex30 ?_ | refine ex31 ?_ | refine ex32 ?_ | refine ln_rule ?_ | refine lnT_rule ?_ | refine pu_and ?_ | refine pu_or ?_ | refine pu_xor ?_ | refine pu_seq ?_ | refine pu_sne ?_)
  refine cnd (fun hne => ?_) (fun heq => ?_)
  · have e : decide (fs = gs) = false := by
      simp only [decide_eq_false_iff_not]
      rintro rfl
      simp at hne
    rw [e] at k; exact k _ h
  have heq : fs.length = gs.length := by simp at heq; omega
  refine hv.ln ?_
  refine ⟨fun l w => ∃ i : Nat, l = [vI i] ∧ i ≤ fs.length ∧ (∀ j, j < i → fs[j]? = gs[j]?) ∧ Ow B w H,
    fun l _ => match l with | [.int _ n] => fs.length - n.toNat | _ => 0, ⟨0, rfl, Nat.zero_le _, fun j hj => absurd hj (by omega), h⟩, ?_⟩
  rintro l w3 ⟨i, rfl, hi, hall, h3⟩ j
  repeat (first | refine pu_not ?_ | refine pu_eql ?_ | refine pu_neq ?_ | refine pu_lss ?_ | refine pu_leq ?_ | refine pu_gtr ?_ | refine pu_geq ?_ | refine pu_add ?_ | refine pu_sub ?_ | refine pu_mul ?_ | refine pu_neg ?_ | refine fa_at ?_ | refine nl_ptr ?_ | refine ex20 ?_ | refine ex21 ?_ | refine ex30 ?_ | refine ex31 ?_ | refine ex32 ?_ | refine ln_rule ?_ | refine lnT_rule ?_ | refine pu_and ?_ | refine pu_or ?_ | refine pu_xor ?_ | refine pu_seq ?_ | refine pu_sne ?_)
  refine cnd (fun hlt => ?_) (fun hlt => ?_)
  · have hlt : i < fs.length := by simpa using hlt
    obtain ⟨ps, c, f, f1, f2, f3, f4, f5⟩ := hv.at (n := (i : Int)) (by omega) (by omega)
    obtain ⟨ps', c', g, g1, g2, g3, g4, g5⟩ := hv'.at (n := (i : Int)) (by omega) (by omega)
    rw [Int.toNat_natCast] at f1 g1
    refine sls_ld h3 f2 (by omega) f3 ?_
    refine al_rule h3 (l := [vI 0, .slice none 0 0]) (by kernel_rfl) (fun bx w4 h4 => ?_)
    refine st_here (A := []) h4 [vI f.regs, c] rfl rfl (by simp only [List.all_cons, sls_plain f4]; rfl) (by simp) (fun w5 h5 => ?_)
    simp only [List.take_zero, List.nil_append, Nat.zero_add, List.drop_succ_cons, List.drop_zero, List.drop_nil, List.append_nil] at h5
    refine sls_ld h5 (g2.mono fun x hx => .tail _ hx) (by omega) g3 ?_
    refine al_rule h5 (l := [vI 0, .slice none 0 0]) (by kernel_rfl) (fun by' w6 h6 => ?_)
    refine st_here (A := []) h6 [vI g.regs, c'] rfl rfl (by simp only [List.all_cons, sls_plain g4]; rfl) (by simp) (fun w7 h7 => ?_)
    simp only [List.take_zero, List.nil_append, Nat.zero_add, List.drop_succ_cons, List.drop_zero, List.drop_nil, List.append_nil] at h7
    refine ldn_here h7 (.tail _ (.head _)) (vs := [vI f.regs, c]) rfl rfl ?_
    refine ldn_here h7 (.head _) (vs := [vI g.regs, c']) rfl rfl ?_
    refine same1_pf f4 g4 [_, _] _ _ _ h7 (fun w8 h8 => ?_)
    have h8 : Ow B w8 H := Ow.drop (Ow.drop h8)
    repeat (first | refine pu_not ?_ | refine pu_eql ?_ | refine pu_neq ?_ | refine pu_lss ?_ | refine pu_leq ?_ | refine pu_gtr ?_ | refine pu_geq ?_ | refine pu_add ?_ | refine pu_sub ?_ | refine pu_mul ?_ | refine pu_neg ?_ | refine fa_at ?_ | refine nl_ptr ?_ | refine ex20 ?_ | refine ex21 ?_ | refine ex30 ?_ | refine ex31 ?_ | refine ex32 ?_ | refine ln_rule ?_ | refine lnT_rule ?_ | refine pu_and ?_ | refine pu_or ?_ | refine pu_xor ?_ | refine pu_seq ?_ | refine pu_sne ?_)
    refine cnd (fun hn => ?_) (fun hn => ?_)
    · have hn : ¬ f = g := by simpa using hn
      have : decide (fs = gs) = false := decide_eq_false fun h => by
        rw [h, g1] at f1
        exact hn (Option.some.inj f1).symm
      rw [this] at k
      exact k _ h8
    · have hn : f = g := by simpa using hn
      repeat (first | refine pu_not ?_ | refine pu_eql ?_ | refine pu_neq ?_ | refine pu_lss ?_ | refine pu_leq ?_ | refine pu_gtr ?_ | refine pu_geq ?_ | refine pu_add ?_ | refine pu_sub ?_ | refine pu_mul ?_ | refine pu_neg ?_ | refine fa_at ?_ | refine nl_ptr ?_ | refine ex20 ?_ | refine ex21 ?_ | refine ex30 ?_ | refine ex31 ?_ | refine ex32 ?_ | refine ln_rule ?_ | refine lnT_rule ?_ | refine pu_and ?_ | refine pu_or ?_ | refine pu_xor ?_ | refine pu_seq ?_ | refine pu_sne ?_)
      rw [wrap64_in (by omega) (by omega)]
      refine ⟨⟨i + 1, rfl, hlt, fun j hj => ?_, h8⟩, by simp; omega⟩
      rcases Nat.lt_succ_iff_lt_or_eq.1 hj with hj | rfl
      · exact hall j hj
      · rw [f1, g1, hn]
  · have : decide (fs = gs) = true := by
      simp only [decide_eq_true_eq]
      refine List.ext_getElem? fun j => ?_
      by_cases hj : j < fs.length
      · exact hall j (by simp at hlt; omega)
      · rw [List.getElem?_eq_none (by omega), List.getElem?_eq_none (by omega)]
    rw [this] at k
    exact k _ h3
theorem pr_ne : decide (p = q) = (decide (p.mu = q.mu) && (decide (p.rw = q.rw) && (decide (p.gr = q.gr) && decide (p.fs = q.fs)))) := by
  cases p; cases q
  by_cases h1 : ‹Int› = ‹Int› <;> simp [Bool.decide_and]
  all_goals (rw [Bool.eq_iff_iff]; simp; constructor <;> (intro h; obtain ⟨a, b, c, d⟩ := h; exact ⟨by assumption, by assumption, by assumption, by assumption⟩))
theorem same_spec (hv : fsIn X v p.fs) (hv' : fsIn X v' q.fs) (hX : ∀ x, x ∈ X → x ∈ H) (h : Ow B w H) (k : ∀ w', Ow B w' H → K (vB (decide (p = q))) w') : callW PG N.program_Same [.agg (p.cells v).toArray, .agg (q.cells v').toArray] K PK w := by
  refine program_Same.ok ?_
  unfold program_Same.C
  rw [pr_ne] at k
  refine al_rule h (l := p.cells v) rfl (fun b2 w1 h1 => ?_)
  refine al_rule h1 (l := q.cells v') rfl (fun b4 w2 h2 => ?_)
  have hXX : ∀ x, x ∈ X → x ∈ (b4, cel (q.cells v') T.t_api_Program) :: (b2, cel (p.cells v) T.t_api_Program) :: H := fun x hx => .tail _ (.tail _ (hX x hx))
  repeat (first | refine pu_not ?_ | refine pu_eql ?_ | refine pu_neq ?_ | refine pu_lss ?_ | refine pu_leq ?_ | refine pu_gtr ?_ | refine pu_geq ?_ | refine pu_add ?_ | refine pu_sub ?_ | refine pu_mul ?_ | refine pu_neg ?_ | refine fa_at ?_ | refine nl_ptr ?_ | refine ex20 ?_ | refine ex21 ?_ | refine ex30 ?_ | refine ex31 ?_ | refine ex32 ?_ | refine ln_rule ?_ | refine lnT_rule ?_ | refine pu_and ?_ | refine pu_or ?_ | refine pu_xor ?_ | refine pu_seq ?_ | refine pu_sne ?_)
  refine ld_here h2 (.tail _ (.head _)) (v := vI p.mu) rfl ?_
  repeat (first | refine pu_not ?_ | refine pu_eql ?_ | refine pu_neq ?_ | refine pu_lss ?_ | refine pu_leq ?_ | refine pu_gtr ?_ | refine pu_geq ?_ | refine pu_add ?_ | refine pu_sub ?_ | refine pu_mul ?_ | refine pu_neg ?_ | refine fa_at ?_ | refine nl_ptr ?_ | refine ex20 ?_ | refine ex21 ?_ | refine ex30 ?_ | refine ex31 ?_ | refine ex32 ?_ | refine ln_rule ?_ | refine lnT_rule ?_ | refine pu_and ?_ | refine pu_or ?_ | refine pu_xor ?_ | refine pu_seq ?_ | refine pu_sne ?_)
  refine ld_here h2 (.head _) (v := vI q.mu) rfl ?_
  repeat (first | refine pu_not ?_ | refine pu_eql ?_ | refine pu_neq ?_ | refine pu_lss ?_ | refine pu_leq ?_ | refine pu_gtr ?_ | refine pu_geq ?_ | refine pu_add ?_ | refine pu_sub ?_ | refine pu_mul ?_ | refine pu_neg ?_ | refine fa_at ?_ | refine nl_ptr ?_ | refine ex20 ?_ | refine ex21 ?_ | refine ex30 ?_ | refine ex31 ?_ | refine ex32 ?_ | refine ln_rule ?_ | refine lnT_rule ?_ | refine pu_and ?_ | refine pu_or ?_ | refine pu_xor ?_ | refine pu_seq ?_ | refine pu_sne ?_)
  refine cnd (fun hq => ?_) (fun hq => ?_)
  · have hq : p.mu = q.mu := by simpa using hq
    rw [decide_eq_true hq, Bool.true_and] at k
    repeat (first | refine pu_not ?_ | refine pu_eql ?_ | refine pu_neq ?_ | refine pu_lss ?_ | refine pu_leq ?_ | refine pu_gtr ?_ | refine pu_geq ?_ | refine pu_add ?_ | refine pu_sub ?_ | refine pu_mul ?_ | refine pu_neg ?_ | refine fa_at ?_ | refine nl_ptr ?_ | refine ex20 ?_ | refine ex21 ?_ | refine ex30 ?_ | refine ex31 ?_ | refine ex32 ?_ | refine ln_rule ?_ | refine lnT_rule ?_ | refine pu_and ?_ | refine pu_or ?_ | refine pu_xor ?_ | refine pu_seq ?_ | refine pu_sne ?_)
    refine ld_here h2 (.tail _ (.head _)) (v := vI p.rw) rfl ?_
    repeat (first | refine pu_not ?_ | refine pu_eql ?_ | refine pu_neq ?_ | refine pu_lss ?_ | refine pu_leq ?_ | refine pu_gtr ?_ | refine pu_geq ?_ | refine pu_add ?_ | refine pu_sub ?_ | refine pu_mul ?_ | refine pu_neg ?_ | refine fa_at ?_ | refine nl_ptr ?_ | refine ex20 ?_ | refine ex21 ?_ | refine ex30 ?_ | refine ex31 ?_ | refine ex32 ?_ | refine ln_rule ?_ | refine lnT_rule ?_ | refine pu_and ?_ | refine pu_or ?_ | refine pu_xor ?_ | refine pu_seq ?_ | refine pu_sne ?_)
    refine ld_here h2 (.head _) (v := vI q.rw) rfl ?_
    repeat (first | refine pu_not ?_ | refine pu_eql ?_ | refine pu_neq ?_ | refine pu_lss ?_ | refine pu_leq ?_ | refine pu_gtr ?_ | refine pu_geq ?_ | refine pu_add ?_ | refine pu_sub ?_ | refine pu_mul ?_ | refine pu_neg ?_ | refine fa_at ?_ | refine nl_ptr ?_ | refine ex20 ?_ | refine ex21 ?_ | refine ex30 ?_ | refine ex31 ?_ | refine ex32 ?_ | refine ln_rule ?_ | refine lnT_rule ?_ | refine pu_and ?_ | refine pu_or ?_ | refine pu_xor ?_ | refine pu_seq ?_ | refine pu_sne ?_)
    refine cnd (fun hq => ?_) (fun hq => ?_)
    · have hq : p.rw = q.rw := by simpa using hq
      rw [decide_eq_true hq, Bool.true_and] at k
      repeat (first | refine pu_not ?_ | refine pu_eql ?_ | refine pu_neq ?_ | refine pu_lss ?_ | refine pu_leq ?_ | refine pu_gtr ?_ | refine pu_geq ?_ | refine pu_add ?_ | refine pu_sub ?_ | refine pu_mul ?_ | refine pu_neg ?_ | refine fa_at ?_ | refine nl_ptr ?_ | refine ex20 ?_ | refine ex21 ?_ | refine ex30 ?_ | refine ex31 ?_ | refine ex32 ?_ | refine ln_rule ?_ | refine lnT_rule ?_ | refine pu_and ?_ | refine pu_or ?_ | refine pu_xor ?_ | refine pu_seq ?_ | refine pu_sne ?_)
      refine ld_here h2 (.tail _ (.head _)) (v := vI p.gr) rfl ?_
      repeat (first | refine pu_not ?_ | refine pu_eql ?_ | refine pu_neq ?_ | refine pu_lss ?_ | refine pu_leq ?_ | refine pu_gtr ?_ | refine pu_geq ?_ | refine pu_add ?_ | refine pu_sub ?_ | refine pu_mul ?_ | refine pu_neg ?_ | refine fa_at ?_ | refine nl_ptr ?_ | refine ex20 ?_ | refine ex21 ?_ | refine ex30 ?_ | refine ex31 ?_ | refine ex32 ?_ | refine ln_rule ?_ | refine lnT_rule ?_ | refine pu_and ?_ | refine pu_or ?_ | refine pu_xor ?_ | refine pu_seq ?_ | refine pu_sne ?_)
      refine ld_here h2 (.head _) (v := vI q.gr) rfl ?_
      repeat (first | refine pu_not ?_ | refine pu_eql ?_ | refine pu_neq ?_ | refine pu_lss ?_ | refine pu_leq ?_ | refine pu_gtr ?_ | refine pu_geq ?_ | refine pu_add ?_ | refine pu_sub ?_ | refine pu_mul ?_ | refine pu_neg ?_ | refine fa_at ?_ | refine nl_ptr ?_ | refine ex20 ?_ | refine ex21 ?_ | refine ex30 ?_ | refine ex31 ?_ | refine ex32 ?_ | refine ln_rule ?_ | refine lnT_rule ?_ | refine pu_and ?_ | refine pu_or ?_ | refine pu_xor ?_ | refine pu_seq ?_ | refine pu_sne ?_)
      refine cnd (fun hq => ?_) (fun hq => ?_)
      · have hq : p.gr = q.gr := by simpa using hq
        rw [decide_eq_true hq, Bool.true_and] at k
        repeat (first | refine pu_not ?_ | refine pu_eql ?_ | refine pu_neq ?_ | refine pu_lss ?_ | refine pu_leq ?_ | refine pu_gtr ?_ | refine pu_geq ?_ | refine pu_add ?_ | refine pu_sub ?_ | refine pu_mul ?_ | refine pu_neg ?_ | refine fa_at ?_ | refine nl_ptr ?_ | refine ex20 ?_ | refine ex21 ?_ | refine ex30 ?_ | refine ex31 ?_ | refine ex32 ?_ | refine ln_rule ?_ | refine lnT_rule ?_ | refine pu_and ?_ | refine pu_or ?_ | refine pu_xor ?_ | refine pu_seq ?_ | refine pu_sne ?_)
        refine ld_here h2 (.tail _ (.head _)) (v := v) rfl ?_
        repeat (first | refine pu_not ?_ | refine pu_eql ?_ | refine pu_neq ?_ | refine pu_lss ?_ | refine pu_leq ?_ | refine pu_gtr ?_ | refine pu_geq ?_ | refine pu_add ?_ | refine pu_sub ?_ | refine pu_mul ?_ | refine pu_neg ?_ | refine fa_at ?_ | refine nl_ptr ?_ | refine ex20 ?_ | refine ex21 ?_ | refine ex30 ?_ | refine ex31 ?_ | refine ex32 ?_ | refine ln_rule ?_ | refine lnT_rule ?_ | refine pu_and ?_ | refine pu_or ?_ | refine pu_xor ?_ | refine pu_seq ?_ | refine pu_sne ?_)
        refine ld_here h2 (.head _) (v := v') rfl ?_
        refine equalFunc_spec h2 (hv.mono hXX) (hv'.mono hXX) (fun w3 h3 => ?_)
        exact k _ h3.drop.drop
      · have hq : ¬ p.gr = q.gr := by simpa using hq
        rw [decide_eq_false hq, Bool.false_and] at k
        exact k _ h2.drop.drop
    · have hq : ¬ p.rw = q.rw := by simpa using hq
      rw [decide_eq_false hq, Bool.false_and] at k
      exact k _ h2.drop.drop
  · have hq : ¬ p.mu = q.mu := by simpa using hq
    rw [decide_eq_false hq, Bool.false_and] at k
    exact k _ h2.drop.drop
end
end Go.Proofs.YtkkkcafkepnecaaGreat

/-! Programs: copies. -/
set_option linter.unusedVariables false
set_option linter.unusedSimpArgs false
namespace Go.Proofs.YtkkkcafkepnecaaGreat.Vc
open Go Go.RowKit
section
variable {P : Program} {B w : World} {H : Hp} {K : Value → Prop} {KU : World → Prop} {t e : TypeId}
theorem eq_slnil {t e : TypeId} (ht : P.underlying t = some (.slice e)) (a : Option Addr) (n c : Nat) (w : World) : (Op.equal t (.slice a n c) (.slice none 0 0)).run P w = .ok a.isNone w := by
  have : ∀ d, (Op.equalIn (d + 1) t (.slice a n c) (.slice none 0 0)).run P w = .ok a.isNone w := fun d => by cases a <;> simp only [Op.equalIn, Sem.run_bind, run_und ht, Result.andThen, Sem.run_pure, Option.isNone]
  exact this 9999
theorem pu_slnil {t e : TypeId} {c : Bool} {KK : Value → Prop} (ht : P.underlying t = some (.slice e)) {a : Option Addr} {n cc : Nat} (k : KK (vB a.isNone)) : pu P (binV .eql t c (.slice a n cc) (.slice none 0 0)) KK :=
  pu_of (binV_run rfl (fun w => run_eqB (eq_slnil ht a n cc w))) k
theorem flatten_len' {size : Nat} : ∀ {rows : List (List Value)}, (∀ x ∈ rows, x.length = size) → rows.flatten.length = rows.length * size
  | [], _ => by simp
  | x :: rows, h => by
    rw [List.flatten_cons, List.length_append, h x (.head _), flatten_len' fun y hy => h y (.tail _ hy), List.length_cons, Nat.add_mul, Nat.one_mul]
    omega
theorem flatten_setf {size j : Nat} {x : Value} {r : List Value} : ∀ {rows : List (List Value)} {i : Nat}, (∀ x ∈ rows, x.length = size) → rows[i]? = some r → j < size → rows.flatten.set (i * size + j) x = (rows.set i (r.set j x)).flatten
  | [], i, _, h, _ => by simp at h
  | z :: rows, 0, hz, h, hj => by
    simp only [List.getElem?_cons_zero, Option.some.injEq] at h
    subst h
    have hl := hz z (.head _)
    rw [List.flatten_cons, List.set_cons_zero, List.flatten_cons, Nat.zero_mul, Nat.zero_add, List.set_append_left _ _ (by omega)]
  | z :: rows, i + 1, hz, h, hj => by
    have hzl := hz z (.head _)
    have e : (i + 1) * size + j = size + (i * size + j) := by rw [Nat.add_mul, Nat.one_mul]; omega
    rw [List.flatten_cons, List.set_cons_succ, List.flatten_cons, List.set_append_right _ _ (by omega), hzl, e, Nat.add_sub_cancel_left, flatten_setf (fun x hx => hz x (.tail _ hx)) (by simpa using h) hj]
/-- A write at a field of an element of an own slice. -/
theorem own_setf {A C S : Hp} {v x : Value} {size j : Nat} {rows : List (List Value)} {r : List Value} {i : Int} {kd : IntKind} (h : Ow B w (A ++ S ++ C)) (ho : Own S e size v rows.length rows.flatten) (hl : ∀ x ∈ rows, x.length = size) (h0 : 0 ≤ i) (hr : rows[i.toNat]? = some r) (hj : j < size)
    (hc : x.cells = #[x]) (hp : plainV x = true) (k : ∀ S' w', Ow B w' (A ++ S' ++ C) → Own S' e size v rows.length (rows.set i.toNat (r.set j x)).flatten → KU w') : ixS size v (.int kd i) fun p => faW j p fun q => stW 1 q x KU w := by
  have hlt := (List.getElem?_eq_some_iff.1 hr).1
  have hfl := flatten_len' hl
  obtain ⟨hl0, ⟨rfl, rfl, h00⟩ | ⟨g, cap, l, rfl, rfl, hcap, hm, hlen, hx⟩⟩ := ho
  · omega
  · have hb : i.toNat * size + j < rows.length * size := by
      have : (i.toNat + 1) * size ≤ rows.length * size := Nat.mul_le_mul_right _ hlt
      rw [Nat.add_mul, Nat.one_mul] at this
      omega
    have hcs : rows.length * size ≤ cap * size := Nat.mul_le_mul_right _ hcap
    refine ixS_at h0 (by omega) ?_
    refine fa_at ?_
    have h' : Ow B w (A ++ (g, cel l e) :: C) := by simpa using h
    refine st1_here h' hc hp (by omega) (fun w' hw' => ?_)
    simp only [Nat.zero_add] at hw'
    refine k [(g, cel (l.set (i.toNat * size + j) x) e)] w' (by simpa using hw') ?_
    refine Own.mk hcap hm (by simpa using hlen) ?_
    rw [List.take_set, hx, flatten_setf hl hr hj]
end
end Go.Proofs.YtkkkcafkepnecaaGreat.Vc
namespace Go.Proofs.YtkkkcafkepnecaaGreat
open Go Go.RowKit Vc
attribute [local irreducible] binV Op.unary convert nlW faW ldS ldW ixS ixA ixV ixT exW lnS lnT pu stW alW opW opU bsW mkW

section
variable {B w : World} {H X : Hp} {K : Value → World → Prop} {PK : List PanicEntry → World → Prop} {KK : Value → Prop} {v v' : Value} {p q : Pr}
theorem info_func : (PG.info? T.t_api_Func).map (fun i => (i.zero, i.size, i.bytes)) = some (some (.agg #[vI 0, .slice none 0 0]), 2, 32) := by kernel_rfl
theorem info_ins : (PG.info? T.t_api_Ins).map (fun i => (i.zero, i.size, i.bytes)) = some (some (.agg #[vI 0, vI 0, vI 0, vI 0, .int .u32 0]), 5, 40) := by kernel_rfl
theorem cloneF_spec {s : Value} {rows : List (List Value)} (h : Ow B w H) (hs : Sls X s 2 rows) (hp : rows.flatten.all plainV = true) (hX : ∀ x, x ∈ X → x ∈ H) (hl : rows.length ≤ 1000) (k : ∀ S v w', Ow B w' (S ++ H) → Vc.Own S T.t_api_Func 2 v rows.length rows.flatten → K v w') : callW PG N.slices_Clone_sl_api_Func_api_Func [s] K PK w := by
  refine slices_Clone_sl_api_Func_api_Func.ok ?_
  unfold slices_Clone_sl_api_Func_api_Func.C
  obtain ⟨a, cap, hse, q1, q2, q3, q4⟩ := id hs
  have hgoal : ∀ (KK : Value → Prop), KK (vB a.isNone) → pu PG (binV .eql T.t_sl_api_Func true s (.slice none 0 0)) KK := fun KK k => by
    rw [hse]; exact pu_slnil und_slfunc k
  refine hgoal _ ?_
  refine cnd (fun hn => ?_) (fun hn => ?_)
  · have ha : a = none := by simpa using hn
    have : rows = [] := by
      cases rows with
      | nil => rfl
      | cons x l => obtain ⟨p, hp, _⟩ := q4 0 x rfl; rw [ha] at hp; cases hp
    subst this
    exact k [] _ _ h (own_none _ _)
  · refine bs_rule h [] (by kernel_rfl) (fun b1 w1 h1 => ?_)
    obtain ⟨inf, i1, i2, i3, i4⟩ := info_of info_func
    have hfl := flatten_len' q3
    refine app_rule (A := []) (S := [(b1, cel [] T.t_api_Func)]) (xs := []) (n := 0) (m := rows.length) (ys := rows.flatten) (H := X) h1 (Own.mk (n := 0) (cap := 0) (xs := []) (Nat.le_refl _) (Nat.zero_le _) rfl rfl) ⟨hfl, a, cap, hse, fun j y hj => ?_⟩ (fun y hy => .tail _ (hX y hy)) hp und_slfunc i1 i2 i3 i4 rfl (by omega) (by simp [maxLen]; omega) (by omega) (fun S p w2 h2 ho => ?_)
    · have hjl := (List.getElem?_eq_some_iff.1 hj).1
      have hd : j / 2 < rows.length := by omega
      obtain ⟨p, hpa, hc⟩ := q4 (j / 2) rows[j / 2] (List.getElem?_eq_getElem hd)
      refine ⟨p, hpa, ?_⟩
      have hxl := q3 _ (List.getElem_mem hd)
      have hr : rows[j / 2][j % 2]? = some (rows[j / 2][j % 2]'(by omega)) := List.getElem?_eq_getElem _
      have := flatten_at hr rows (j / 2) q3 (List.getElem?_eq_getElem hd)
      rw [show j / 2 * 2 + j % 2 = j by omega, hj] at this
      have h2 := hc (j % 2) _ hr
      rw [show j / 2 * 2 + j % 2 = j by omega, ← Option.some.inj this] at h2
      exact h2
    · refine k S p w2 h2 ?_
      simpa using ho
theorem cloneI_spec {s : Value} {rows : List (List Value)} (h : Ow B w H) (hs : Sls X s 5 rows) (hp : rows.flatten.all plainV = true) (hX : ∀ x, x ∈ X → x ∈ H) (hl : rows.length ≤ 2000) (k : ∀ S v w', Ow B w' (S ++ H) → Vc.Own S T.t_api_Ins 5 v rows.length rows.flatten → K v w') : callW PG N.slices_Clone_sl_api_Ins_api_Ins [s] K PK w := by
  refine slices_Clone_sl_api_Ins_api_Ins.ok ?_
  unfold slices_Clone_sl_api_Ins_api_Ins.C
  obtain ⟨a, cap, hse, q1, q2, q3, q4⟩ := id hs
  have hgoal : ∀ (KK : Value → Prop), KK (vB a.isNone) → pu PG (binV .eql T.t_sl_api_Ins true s (.slice none 0 0)) KK := fun KK k => by
    rw [hse]; exact pu_slnil und_slins k
  refine hgoal _ ?_
  refine cnd (fun hn => ?_) (fun hn => ?_)
  · have ha : a = none := by simpa using hn
    have : rows = [] := by
      cases rows with
      | nil => rfl
      | cons x l => obtain ⟨p, hp, _⟩ := q4 0 x rfl; rw [ha] at hp; cases hp
    subst this
    exact k [] _ _ h (own_none _ _)
  · refine bs_rule h [] (by kernel_rfl) (fun b1 w1 h1 => ?_)
    obtain ⟨inf, i1, i2, i3, i4⟩ := info_of info_ins
    have hfl := flatten_len' q3
    refine app_rule (A := []) (S := [(b1, cel [] T.t_api_Ins)]) (xs := []) (n := 0) (m := rows.length) (ys := rows.flatten) (H := X) h1 (Own.mk (n := 0) (cap := 0) (xs := []) (Nat.le_refl _) (Nat.zero_le _) rfl rfl) ⟨hfl, a, cap, hse, fun j y hj => ?_⟩ (fun y hy => .tail _ (hX y hy)) hp und_slins i1 i2 i3 i4 rfl (by omega) (by simp [maxLen]; omega) (by omega) (fun S p w2 h2 ho => ?_)
    · have hjl := (List.getElem?_eq_some_iff.1 hj).1
      have hd : j / 5 < rows.length := by omega
      obtain ⟨p, hpa, hc⟩ := q4 (j / 5) rows[j / 5] (List.getElem?_eq_getElem hd)
      refine ⟨p, hpa, ?_⟩
      have hxl := q3 _ (List.getElem_mem hd)
      have hr : rows[j / 5][j % 5]? = some (rows[j / 5][j % 5]'(by omega)) := List.getElem?_eq_getElem _
      have := flatten_at hr rows (j / 5) q3 (List.getElem?_eq_getElem hd)
      rw [show j / 5 * 5 + j % 5 = j by omega, hj] at this
      have h2 := hc (j % 5) _ hr
      rw [show j / 5 * 5 + j % 5 = j by omega, ← Option.some.inj this] at h2
      exact h2
    · refine k S p w2 h2 ?_
      simpa using ho
/-- A function that is owned. -/
structure CE where
  S : Hp
  c : Value
  f : Fun
def CE.ok (e : CE) : Prop := Vc.Own e.S T.t_api_Ins 5 e.c (icode e.f.code).length (icode e.f.code).flatten
def crow (e : CE) : List Value := [vI e.f.regs, e.c]
def crows (es : List CE) : List (List Value) := es.map crow
def cfoot (es : List CE) : Hp := es.flatMap CE.S
theorem crows_two (es : List CE) : ∀ x ∈ crows es, x.length = 2 := fun x hx => by
  obtain ⟨e, _, rfl⟩ := List.mem_map.1 hx
  rfl
theorem icode_five (l : List Ins) : ∀ x ∈ icode l, x.length = 5 := fun x hx => by
  obtain ⟨e, _, rfl⟩ := List.mem_map.1 hx
  rfl
theorem icode_plain (l : List Ins) : (icode l).flatten.all plainV = true := by
  refine List.all_eq_true.2 fun u hu => ?_
  obtain ⟨x, hx, hu⟩ := List.mem_flatten.1 hu
  obtain ⟨i, _, rfl⟩ := List.mem_map.1 hx
  exact List.all_eq_true.1 (ins_plain i) u hu
theorem frows_two (ps : List (Value × Fun)) : ∀ x ∈ frows ps, x.length = 2 := fun x hx => by
  obtain ⟨e, _, rfl⟩ := List.mem_map.1 hx
  rfl
theorem CE.sls {e : CE} (h : e.ok) : Sls e.S e.c 5 (icode e.f.code) := own_sls (icode_five _) h
/-- A program's functions, all of them owned. -/
def CpP (F : Hp) (v : Value) (fs : List Fun) : Prop := ∃ (Sf : Hp) (es : List CE), es.map CE.f = fs ∧ (∀ e ∈ es, e.ok) ∧ Vc.Own Sf T.t_api_Func 2 v (crows es).length (crows es).flatten ∧ F = Sf ++ cfoot es
theorem CpP.ins {F : Hp} {fs : List Fun} (h : CpP F v fs) (hm : ∀ f ∈ fs, immOk f.code) : fsIn F v fs := by
  obtain ⟨Sf, es, h1, h2, h3, rfl⟩ := h
  refine ⟨es.map fun e => (e.c, e.f), ?_, ?_, ?_⟩
  · rw [List.map_map, ← h1]; rfl
  · have : frows (es.map fun e => (e.c, e.f)) = crows es := by
      unfold frows crows
      rw [List.map_map]; rfl
    rw [this]
    exact (own_sls (crows_two es) h3).mono fun x hx => List.mem_append_left _ hx
  · intro q hq
    obtain ⟨e, he, rfl⟩ := List.mem_map.1 hq
    exact ⟨(CE.sls (h2 e he)).mono fun x hx => List.mem_append_right _ (List.mem_flatMap.2 ⟨e, he, hx⟩), hm _ (by rw [← h1]; exact List.mem_map_of_mem he)⟩
theorem copy_spec (hv : fsIn X v p.fs) (hX : ∀ x, x ∈ X → x ∈ H) (hlen : p.fs.length ≤ 1000) (hc : ∀ f ∈ p.fs, f.code.length ≤ 2000) (h : Ow B w H) (k : ∀ F v' w', CpP F v' p.fs → Ow B w' (F ++ H) → K (.agg (p.cells v').toArray) w') : callW PG N.program_Copy [.agg (p.cells v).toArray] K PK w := by
  refine program_Copy.ok ?_
  unfold program_Copy.C
  obtain ⟨ps, e1, e2, e3⟩ := hv
  have hpl : ps.length = p.fs.length := by rw [← e1]; simp
  have hfl : (frows ps).length = ps.length := by simp [frows]
  refine al_rule h (l := p.cells v) rfl (fun b2 w1 h1 => ?_)
  refine al_rule h1 (l := [.slice none 0 0, vI 0, vI 0, vI 0]) (by kernel_rfl) (fun b4 w2 h2 => ?_)
  repeat (first | refine pu_not ?_ | refine pu_eql ?_ | refine pu_neq ?_ | refine pu_lss ?_ | refine pu_leq ?_ | refine pu_gtr ?_ | refine pu_geq ?_ | refine pu_add ?_ | refine pu_sub ?_ | refine pu_mul ?_ | refine pu_neg ?_ | refine fa_at ?_ | refine nl_ptr ?_ | refine ex20 ?_ | refine ex21 ?_ | refine ex30 ?_ | refine ex31 ?_ | refine ex32 ?_ | refine ln_rule ?_ | refine lnT_rule ?_ | refine pu_and ?_ | refine pu_or ?_ | refine pu_xor ?_ | refine pu_seq ?_ | refine pu_sne ?_)
  refine ld_here h2 (.tail _ (.head _)) (v := v) rfl ?_
  have hfp : (frows ps).flatten.all plainV = true := by
    refine List.all_eq_true.2 fun u hu => ?_
    obtain ⟨x, hx, hu⟩ := List.mem_flatten.1 hu
    obtain ⟨q, hq, rfl⟩ := List.mem_map.1 hx
    rcases List.mem_cons.1 hu with rfl | hu
    · rfl
    · rw [List.mem_singleton.1 hu]; exact sls_plain (e3 q hq).1
  refine cloneF_spec h2 e2 hfp (fun x hx => .tail _ (.tail _ (hX x hx))) (by omega) (fun S v' w3 h3 ho => ?_)
  obtain ⟨a0, c0, hv'⟩ := ho.len
  have hvp : plainV v' = true := by rw [hv']; rfl
  have hvc : v'.cells = #[v'] := by rw [hv']; rfl
  repeat (first | refine pu_not ?_ | refine pu_eql ?_ | refine pu_neq ?_ | refine pu_lss ?_ | refine pu_leq ?_ | refine pu_gtr ?_ | refine pu_geq ?_ | refine pu_add ?_ | refine pu_sub ?_ | refine pu_mul ?_ | refine pu_neg ?_ | refine fa_at ?_ | refine nl_ptr ?_ | refine ex20 ?_ | refine ex21 ?_ | refine ex30 ?_ | refine ex31 ?_ | refine ex32 ?_ | refine ln_rule ?_ | refine lnT_rule ?_ | refine pu_and ?_ | refine pu_or ?_ | refine pu_xor ?_ | refine pu_seq ?_ | refine pu_sne ?_)
  have h3 : Ow B w3 ((S ++ [(b4, cel [.slice none 0 0, vI 0, vI 0, vI 0] T.t_api_Program)]) ++ (b2, cel (p.cells v) T.t_api_Program) :: H) := by simpa using h3
  refine st1_here h3 hvc hvp (by simp [Pr.cells]) (fun w4 h4 => ?_)
  have e4 : (p.cells v).set (0 + 0) v' = p.cells v' := rfl
  rw [e4] at h4
  have h4 : Ow B w4 (S ++ ([] ++ ((b4, cel [.slice none 0 0, vI 0, vI 0, vI 0] T.t_api_Program) :: (b2, cel (p.cells v') T.t_api_Program) :: H))) := by simpa using h4
  repeat (first | refine pu_not ?_ | refine pu_eql ?_ | refine pu_neq ?_ | refine pu_lss ?_ | refine pu_leq ?_ | refine pu_gtr ?_ | refine pu_geq ?_ | refine pu_add ?_ | refine pu_sub ?_ | refine pu_mul ?_ | refine pu_neg ?_ | refine fa_at ?_ | refine nl_ptr ?_ | refine ex20 ?_ | refine ex21 ?_ | refine ex30 ?_ | refine ex31 ?_ | refine ex32 ?_ | refine ln_rule ?_ | refine lnT_rule ?_ | refine pu_and ?_ | refine pu_or ?_ | refine pu_xor ?_ | refine pu_seq ?_ | refine pu_sne ?_)
  refine ld_here h4 (List.mem_append_right _ (.tail _ (.head _))) (v := v') rfl ?_
  have hln : ∀ KK : Value → Prop, KK (vI ps.length) → lnS v' KK := fun KK kk => by rw [hv', ← hfl] at *; exact ln_rule kk
  refine hln _ ?_
  generalize hR : (b4, cel [.slice none 0 0, vI 0, vI 0, vI 0] T.t_api_Program) :: (b2, cel (p.cells v') T.t_api_Program) :: H = R at *
  have m2 : (b2, cel (p.cells v') T.t_api_Program) ∈ R := by rw [← hR]; exact .tail _ (.head _)
  have mX : ∀ x, x ∈ X → x ∈ R := fun x hx => by rw [← hR]; exact .tail _ (.tail _ (hX x hx))
  refine ⟨fun l w => ∃ (n : Nat) (Sf : Hp) (don : List CE), l = [vI n] ∧ n ≤ ps.length ∧ don.length = n ∧ don.map CE.f = p.fs.take n ∧ (∀ e ∈ don, e.ok) ∧ Vc.Own Sf T.t_api_Func 2 v' (crows don ++ (frows ps).drop n).length (crows don ++ (frows ps).drop n).flatten ∧ Ow B w (Sf ++ (cfoot don ++ R)),
    fun l _ => match l with | [.int _ q] => ps.length - q.toNat | _ => 0, ⟨0, S, [], rfl, Nat.zero_le _, rfl, rfl, by simp, by simpa [crows] using ho, h4⟩, ?_⟩
  clear h4 h3 h2 h1 ho
  rintro l w5 ⟨n, Sf, don, rfl, hn, hdl, hdf, hdo, ho, h5⟩ j
  have two : ∀ x ∈ crows don ++ (frows ps).drop n, x.length = 2 := fun x hx => (List.mem_append.1 hx).elim (crows_two don x) fun h => frows_two ps x (List.mem_of_mem_drop h)
  have hcl : (crows don).length = n := by simp [crows, hdl]
  repeat (first | refine pu_not ?_ | refine pu_eql ?_ | refine pu_neq ?_ | refine pu_lss ?_ | refine pu_leq ?_ | refine pu_gtr ?_ | refine pu_geq ?_ | refine pu_add ?_ | refine pu_sub ?_ | refine pu_mul ?_ | refine pu_neg ?_ | refine fa_at ?_ | refine nl_ptr ?_ | refine ex20 ?_ | refine ex21 ?_ | refine ex30 ?_ | refine ex31 ?_ | refine ex32 ?_ | refine ln_rule ?_ | refine lnT_rule ?_ | refine pu_and ?_ | refine pu_or ?_ | refine pu_xor ?_ | refine pu_seq ?_ | refine pu_sne ?_)
  refine cnd (fun hlt => ?_) (fun hlt => ?_)
  · have hlt : n < ps.length := by simpa using hlt
    obtain ⟨⟨c, f⟩, hq⟩ : ∃ q, ps[n]? = some q := ⟨_, List.getElem?_eq_getElem hlt⟩
    have hf : p.fs[n]? = some f := by rw [← e1, List.getElem?_map, hq]; rfl
    obtain ⟨q1, q2⟩ := e3 _ (List.mem_of_getElem? hq)
    have hdrop : (frows ps).drop n = [vI f.regs, c] :: (frows ps).drop (n + 1) := by
      rw [List.drop_eq_getElem_cons (by omega)]
      congr 1
      have : (frows ps)[n]? = some [vI f.regs, c] := by rw [frows, List.getElem?_map, hq]; rfl
      rw [List.getElem?_eq_getElem (by omega)] at this
      exact Option.some.inj this
    have hat : (crows don ++ (frows ps).drop n)[(n : Int).toNat]? = some [vI f.regs, c] := by
      rw [Int.toNat_natCast, List.getElem?_append_right (by omega), hcl, Nat.sub_self, hdrop]; rfl
    refine sls_ld h5 ((own_sls two ho).mono fun x hx => List.mem_append_left _ hx) (by omega) hat ?_
    refine al_rule h5 (l := [vI 0, .slice none 0 0]) (by kernel_rfl) (fun b6 w6 h6 => ?_)
    refine st_here (A := []) h6 [vI f.regs, c] rfl rfl (by simp only [List.all_cons, sls_plain q1]; rfl) (by simp) (fun w7 h7 => ?_)
    simp only [List.take_zero, List.nil_append, Nat.zero_add, List.drop_succ_cons, List.drop_zero, List.drop_nil, List.append_nil] at h7
    have hsub : ∀ (S : Hp) (w : World), Ow B w (S ++ ((b6, cel [vI f.regs, c] T.t_api_Func) :: (Sf ++ (cfoot don ++ R)))) → Ow B w ((b6, cel [vI f.regs, c] T.t_api_Func) :: R) := fun S w h => h.sub ((List.Sublist.cons_cons _ ((List.sublist_append_right _ _).trans (List.sublist_append_right _ _))).trans (List.sublist_append_right _ _))
    refine ⟨fun w => Ow B w ((b6, cel [vI f.regs, c] T.t_api_Func) :: R), hsub [] _ h7.drew, ?_⟩
    repeat (first | refine pu_not ?_ | refine pu_eql ?_ | refine pu_neq ?_ | refine pu_lss ?_ | refine pu_leq ?_ | refine pu_gtr ?_ | refine pu_geq ?_ | refine pu_add ?_ | refine pu_sub ?_ | refine pu_mul ?_ | refine pu_neg ?_ | refine fa_at ?_ | refine nl_ptr ?_ | refine ex20 ?_ | refine ex21 ?_ | refine ex30 ?_ | refine ex31 ?_ | refine ex32 ?_ | refine ln_rule ?_ | refine lnT_rule ?_ | refine pu_and ?_ | refine pu_or ?_ | refine pu_xor ?_ | refine pu_seq ?_ | refine pu_sne ?_)
    refine lds_here (fun w h => h) (.tail _ m2) (v := v') rfl ?_
    repeat (first | refine pu_not ?_ | refine pu_eql ?_ | refine pu_neq ?_ | refine pu_lss ?_ | refine pu_leq ?_ | refine pu_gtr ?_ | refine pu_geq ?_ | refine pu_add ?_ | refine pu_sub ?_ | refine pu_mul ?_ | refine pu_neg ?_ | refine fa_at ?_ | refine nl_ptr ?_ | refine ex20 ?_ | refine ex21 ?_ | refine ex30 ?_ | refine ex31 ?_ | refine ex32 ?_ | refine ln_rule ?_ | refine lnT_rule ?_ | refine pu_and ?_ | refine pu_or ?_ | refine pu_xor ?_ | refine pu_seq ?_ | refine pu_sne ?_)
    refine lds_here (fun w h => h) (.head _) (v := c) rfl ?_
    refine cloneI_spec h7.drew q1 (icode_plain _) (fun x hx => .tail _ (List.mem_append_right _ (List.mem_append_right _ (mX x hx)))) (by rw [icode_len]; exact hc f (List.mem_of_getElem? hf)) (fun S' c' w8 h8 ho' => ?_)
    refine ⟨hsub S' _ h8, ?_⟩
    obtain ⟨a9, c9, hc9⟩ := ho'.len
    have h8 : Ow B w8 ((S' ++ [(b6, cel [vI f.regs, c] T.t_api_Func)]) ++ Sf ++ (cfoot don ++ R)) := by simpa using h8
    refine own_setf (j := 1) h8 ho two (by omega) hat (by omega) (by rw [hc9]; rfl) (by rw [hc9]; rfl) (fun Sf' w9 h9 ho9 => ?_)
    repeat (first | refine pu_not ?_ | refine pu_eql ?_ | refine pu_neq ?_ | refine pu_lss ?_ | refine pu_leq ?_ | refine pu_gtr ?_ | refine pu_geq ?_ | refine pu_add ?_ | refine pu_sub ?_ | refine pu_mul ?_ | refine pu_neg ?_ | refine fa_at ?_ | refine nl_ptr ?_ | refine ex20 ?_ | refine ex21 ?_ | refine ex30 ?_ | refine ex31 ?_ | refine ex32 ?_ | refine ln_rule ?_ | refine lnT_rule ?_ | refine pu_and ?_ | refine pu_or ?_ | refine pu_xor ?_ | refine pu_seq ?_ | refine pu_sne ?_)
    rw [wrap64_in (by omega) (by omega)]
    have hset : (crows don ++ (frows ps).drop n).set (n : Int).toNat ([vI f.regs, c].set 1 c') = crows (don ++ [⟨S', c', f⟩]) ++ (frows ps).drop (n + 1) := by
      rw [Int.toNat_natCast, List.set_append_right _ _ (by omega), hcl, Nat.sub_self, hdrop]
      unfold crows
      rw [List.map_append, List.append_assoc]
      rfl
    rw [hset] at ho9
    refine ⟨⟨n + 1, Sf', don ++ [⟨S', c', f⟩], rfl, hlt, by simp [hdl], ?_, ?_, ?_, ?_⟩, by simp; omega⟩
    · rw [List.map_append, hdf, List.take_add_one, hf]; rfl
    · intro e he
      rcases List.mem_append.1 he with he | he
      · exact hdo e he
      · rw [List.mem_singleton.1 he]; exact ho'
    · have hl2 : (crows don ++ (frows ps).drop n).length = (crows (don ++ [⟨S', c', f⟩]) ++ (frows ps).drop (n + 1)).length := by rw [← hset, List.length_set]
      rw [← hl2]; exact ho9
    · have h10 : Ow B w9 (S' ++ (Sf' ++ (cfoot don ++ R))) := h9.sub (by
        rw [List.append_assoc, List.append_assoc]
        exact (List.Sublist.refl S').append (.cons _ (.refl _)))
      have hcf : cfoot (don ++ [⟨S', c', f⟩]) = cfoot don ++ S' := by simp [cfoot]
      rw [hcf, List.append_assoc]
      refine h10.perm ((List.perm_append_comm_assoc S' Sf' _).trans (List.Perm.append_left Sf' (List.perm_append_comm_assoc S' (cfoot don) R)))
  · obtain rfl : n = ps.length := by simp at hlt; omega
    have hdn : (frows ps).drop ps.length = [] := List.drop_eq_nil_of_le (by omega)
    rw [hdn, List.append_nil] at ho
    rw [hpl, List.take_length] at hdf
    rw [← hR] at h5
    refine ldn_here h5 (List.mem_append_right _ (List.mem_append_right _ (.tail _ (.head _)))) (vs := p.cells v') rfl rfl ?_
    have h5 : Ow B w5 ((Sf ++ cfoot don) ++ (b4, cel [.slice none 0 0, vI 0, vI 0, vI 0] T.t_api_Program) :: (b2, cel (p.cells v') T.t_api_Program) :: H) := by simpa using h5
    refine st_here h5 (p.cells v') rfl rfl (by simp only [Pr.cells, List.all_cons, hvp]; rfl) (by simp) (fun w6 h6 => ?_)
    simp only [List.take_zero, List.nil_append, Nat.zero_add, List.drop_succ_cons, List.drop_zero, List.drop_nil, List.append_nil] at h6
    refine ldn_here h6 (List.mem_append_right _ (.head _)) (vs := p.cells v') rfl rfl ?_
    exact k (Sf ++ cfoot don) v' _ ⟨Sf, don, hdf, hdo, ho, rfl⟩ (h6.sub ((List.Sublist.refl _).append (.cons _ (.cons _ (.refl _)))))
end
end Go.Proofs.YtkkkcafkepnecaaGreat

/-! What is given up with is caught: deferred functions that recover. -/
set_option linter.unusedVariables false
set_option linter.unusedSimpArgs false
namespace Go.Proofs.YtkkkcafkepnecaaGreat.Vc
open Go Go.RowKit
section
variable {P : Program} {B w : World}
/-- What a deferred function that recovers meets: the frame's mode, what recover tells, the mode behind it. -/
def Meets (u : FrameMode) (x : Value) (u' : FrameMode) : Prop :=
  (u = .returning ∧ x = .nilIface ∧ u' = .returning) ∨ ∃ v older, u = .panicking ({ v, recovered := false } :: older) ∧ x = v ∧ u' = .panicking ({ v, recovered := true } :: older)
def restK (E : World → Prop) : K4 := fun e _ d w => match e with
  | .normal => d = [] ∧ E w
  | _ => False
theorem caught_gen (hm : P.follows .mixedOrders = true) {A : Note} {f : FuncId} {fn : Func} {o1 o2 : Oper} {id a b fuel : Nat} {rest : Code} {args : List Value} {x : Value} {u u' : FrameMode} {R : Ending → FrameMode → World → Prop} {E : World → Prop}
    (hf : P.funcs[f]? = some fn) (hb : fn.body = some (.seq (.region id #[o1, o2] false) rest))
    (h1 : o1.dst = some a ∧ o1.guard = none ∧ o1.op = .call { callee := .builtin .recover, args := #[], argTypes := #[] }) (h2 : o2.dst = some b ∧ o2.guard = none ∧ o2.op = .assign (.tmp a))
    (hr : fn.results = #[]) (hn : args.length ≤ fn.ntmps) (ha : a < fn.ntmps) (hu : Meets u x u')
    (h : vc P A none fn.ntmps fuel 0 rest (restK E) (wr (wr (ini args) a x) b x) [] w)
    (hE : ∀ w', E w' → R (.returned (.tuple #[])) u' w') : CallsDIn (FW none) 0 P f args.toArray u w R := by
  refine callsDIn_of_wpSIn hf hb trivial fun c₀ cs hmode => ?_
  refine wpSIn_seq (wpSIn_region ?_)
  obtain ⟨h1a, h1b, h1c⟩ := h1
  obtain ⟨h2a, h2b, h2c⟩ := h2
  have hrec : ∃ c₁ : Frame, c₁ = { c₀ with mode := u' } ∧ ((∃ r, recoverD (c₀ :: cs) = some (r, c₁ :: cs) ∧ x = r) ∨ (recoverD (c₀ :: cs) = none ∧ x = .nilIface ∧ c₁ = c₀)) := by
    refine ⟨_, rfl, ?_⟩
    rcases hu with ⟨rfl, rfl, rfl⟩ | ⟨v, older, rfl, rfl, rfl⟩
    · refine .inr ⟨by simp [recoverD, hmode], rfl, ?_⟩
      cases c₀; simp only at hmode; subst hmode; rfl
    · exact .inl ⟨_, by simp [recoverD, hmode], rfl⟩
  have ht : (args.toArray ++ Array.replicate (fn.ntmps - args.toArray.size) undef) = rep fn.ntmps (ini args) := rep_ini (args := args.toArray) (by simpa using hn)
  have hgo : ∀ cs' : List Frame, (∃ c₁ : Frame, c₁ = { c₀ with mode := u' } ∧ cs' = c₁ :: cs) → (rest.wpSIn (FW none) 0 P (bodyPostS P fn c₀ cs R)) (act fn.ntmps (wr (wr (ini args) a x) b x) []) cs' w := by
    rintro _ ⟨c₁, rfl, rfl⟩
    refine wpSIn_of_wpIn rfl (wpIn_mono (vc_sound hm A fuel 0 rest _ _ _ w h) ?_)
    intro e a' w' he
    cases e with
    | normal =>
      obtain ⟨s, d, rfl, _, _, rfl, hk⟩ := he
      refine ⟨rfl, u', rfl, .tuple #[], ?_, hE _ hk⟩
      simp [results, hr, Sem.run_bind, Sem.run_pure, Result.andThen]
    | ret => obtain ⟨s, d, rfl, _, _, hk⟩ := he; exact hk.elim
    | panic ch => obtain ⟨s, d, rfl, hk⟩ := he; exact hk.elim
    | exit i => obtain ⟨s, d, rfl, _, _, hk⟩ := he; exact hk.elim
    | goto i => obtain ⟨s, d, rfl, _, _, hk⟩ := he; exact hk.elim
    | outgrown => exact he.elim
  have hl : List.range (#[o1, o2] : Array Oper).size = [0, 1] := rfl
  have w1 : ∀ t, Region.wanted o1 t = true := fun t => by simp [Region.wanted, h1b]
  have w2 : ∀ t, Region.wanted o2 t = true := fun t => by simp [Region.wanted, h2b]
  have r1 : ∀ ev w, (execOp ev o1).run P w = .ok .recover w := fun ev w => by
    obtain ⟨d1, op1, t1, p1, af1, g1⟩ := o1
    simp only at h1c
    subst h1c
    simp [execOp, resolve, invoke, builtin, Sem.run_bind, Sem.run_pure, Result.andThen]
  have r2 : ∀ ev w, (execOp ev o2).run P w = .ok (.value (ev (.tmp a))) w := fun ev w => by
    obtain ⟨d1, op1, t1, p1, af1, g1⟩ := o2
    simp only at h2c
    subst h2c
    simp [execOp, go_sem]
  have fin : ∀ cs', (∃ c₁ : Frame, c₁ = { c₀ with mode := u' } ∧ cs' = c₁ :: cs) → wpOpsSIn (FW none) 0 P #[o1, o2] (Exit.thenS (rest.wpSIn (FW none) 0 P (bodyPostS P fn c₀ cs R)) (bodyPostS P fn c₀ cs R)) [1] (act fn.ntmps (wr (ini args) a x) []) cs' w := fun cs' hcs => by
    simp only [wpOpsSIn, show (#[o1, o2] : Array Oper)[1]? = some o2 from rfl, w2, if_true, r2]
    refine ⟨fun _ _ => trivial, ?_⟩
    rw [h2a, put_act, ev_act]
    have e1 : ev fn.ntmps (wr (ini args) a x) (.tmp a) = x := by simp [ev, rd, blt_of ha, wr_same]
    rw [e1]
    exact hgo cs' hcs
  rw [hl, ht]
  generalize hrs : [1] = rs at *
  simp only [wpOpsSIn, show (#[o1, o2] : Array Oper)[0]? = some o1 from rfl, w1, if_true, r1]
  refine ⟨fun _ _ => trivial, ?_⟩
  have eput : ∀ y, Act.put { tmps := rep fn.ntmps (ini args), defers := [] } o1.dst y = act fn.ntmps (wr (ini args) a y) [] := fun y => by
    rw [h1a]; exact put_act fn.ntmps (ini args) [] (some a) y
  obtain ⟨c₁, hc1, ⟨r, hr1, rfl⟩ | ⟨hr1, rfl, rfl⟩⟩ := hrec
  · rw [hr1]
    simp only [eput]
    exact fin _ ⟨_, hc1, rfl⟩
  · rw [hr1]
    simp only [eput]
    exact fin _ ⟨_, hc1, rfl⟩
theorem as_iface {t u : TypeId} {v : Value} {d : TypeDesc} {K : Value → Prop} (hd : P.underlying t = some d) (hn : ∀ m, d ≠ .interface m) (k : K (.tuple #[v, .bool true])) : pu P (Instr.typeAssert (.iface t v) u t true) K := by
  refine ⟨_, fun w => ?_, k⟩
  unfold Instr.typeAssert
  simp only [Sem.run_bind, run_und hd, Result.andThen]
  cases d <;> first | (exact absurd rfl (hn _)) | simp [Sem.run_pure]
theorem if_nil {t : TypeId} {K : Value → Prop} {ms} (ht : P.underlying t = some (.interface ms)) (k : K (.bool false)) : pu P (binV .neq t true .nilIface .nilIface) K := by
  refine ⟨_, fun w => ?_, k⟩
  have : ∀ d, (Op.equalIn (d + 1) t .nilIface .nilIface).run P w = .ok true w := fun d => by simp only [Op.equalIn, Sem.run_bind, run_und ht, Result.andThen, Sem.run_pure]
  have e : (Op.equal t .nilIface .nilIface).run P w = .ok true w := this 9999
  unfold binV
  simp [eqGuard, binOp, Sem.run_bind, Result.andThen, Sem.run_pure, e]
theorem if_val {t u : TypeId} {v : Value} {K : Value → Prop} {ms} (ht : P.underlying t = some (.interface ms)) (k : K (.bool true)) : pu P (binV .neq t true (.iface u v) .nilIface) K := by
  refine ⟨_, fun w => ?_, k⟩
  have : ∀ d, (Op.equalIn (d + 1) t (.iface u v) .nilIface).run P w = .ok false w := fun d => by simp only [Op.equalIn, Sem.run_bind, run_und ht, Result.andThen, Sem.run_pure]
  have e : (Op.equal t (.iface u v) .nilIface).run P w = .ok false w := this 9999
  unfold binV
  simp [eqGuard, binOp, Sem.run_bind, Result.andThen, Sem.run_pure, e]
end
end Go.Proofs.YtkkkcafkepnecaaGreat.Vc
namespace Go.Proofs.YtkkkcafkepnecaaGreat
open Go Go.RowKit Vc
def restOf (f : Func) : Code := sub [1] (bodyOf f)
theorem stack_caught_eq (E : World → Prop) (x0 x : Value) (w : World) : vc PG ⟨[], []⟩ none 19 400 0 (restOf Tryz.f79) (restK E) (wr (wr (ini [x0]) 5 x) 2 x) [] w =
    (pu PG (binV .neq T.t_interface true x .nilIface) fun t7 => condV t7 (pu PG (Instr.typeAssert x T.t_interface T.t_api_Errno true) fun t10 => exW 0 t10 fun t11 => exW 1 t10 fun t12 => pu PG (Op.unary .not t12) fun t14 => condV t14 (pnW x (fun _ _ => False) w) (nlW x0 fun t18 => stW 1 t18 t11 (fun w => ([] : D) = [] ∧ E w) w)) (([] : D) = [] ∧ E w)) := by kernel_rfl
theorem fiber_caught_eq (E : World → Prop) (x0 x : Value) (w : World) : vc PG ⟨[], []⟩ none 19 400 0 (restOf Tryz.f101) (restK E) (wr (wr (ini [x0]) 5 x) 2 x) [] w =
    (pu PG (binV .neq T.t_interface true x .nilIface) fun t7 => condV t7 (pu PG (Instr.typeAssert x T.t_interface T.t_api_Errno true) fun t10 => exW 0 t10 fun t11 => exW 1 t10 fun t12 => pu PG (Op.unary .not t12) fun t14 => condV t14 (pnW x (fun _ _ => False) w) (nlW x0 fun t18 => stW 1 t18 t11 (fun w => ([] : D) = [] ∧ E w) w)) (([] : D) = [] ∧ E w)) := by kernel_rfl
theorem image_caught_eq (E : World → Prop) (x0 x1 x : Value) (w : World) : vc PG ⟨[], []⟩ none 23 400 0 (restOf Tryz.f110) (restK E) (wr (wr (ini [x0, x1]) 7 x) 4 x) [] w =
    (pu PG (binV .neq T.t_interface true x .nilIface) fun t7 => condV t7 (pu PG (Instr.typeAssert x T.t_interface T.t_api_Errno true) fun t10 => exW 0 t10 fun t11 => exW 1 t10 fun t12 => pu PG (Op.unary .not t12) fun t14 => condV t14 (pnW x (fun _ _ => False) w) (callV PG x1 [] (fun _ w => nlW x0 fun t18 => stW 1 t18 t11 (fun w => ([] : D) = [] ∧ E w) w) (fun _ _ => False) w)) (([] : D) = [] ∧ E w)) := by kernel_rfl
theorem instr_caught_eq (E : World → Prop) (x0 x1 x : Value) (w : World) : vc PG ⟨[], []⟩ none 23 400 0 (restOf Tryz.f222) (restK E) (wr (wr (ini [x0, x1]) 7 x) 4 x) [] w =
    (pu PG (binV .neq T.t_interface true x .nilIface) fun t7 => condV t7 (pu PG (Instr.typeAssert x T.t_interface T.t_api_Errno true) fun t10 => exW 0 t10 fun t11 => exW 1 t10 fun t12 => pu PG (Op.unary .not t12) fun t14 => condV t14 (pnW x (fun _ _ => False) w) (callV PG x1 [] (fun _ w => nlW x0 fun t18 => stW 1 t18 t11 (fun w => ([] : D) = [] ∧ E w) w) (fun _ _ => False) w)) (([] : D) = [] ∧ E w)) := by kernel_rfl
abbrev errV (e : Int) : Value := .iface T.t_api_Errno (vI e)
abbrev pan (e : Int) : List PanicEntry := [{ v := errV e, recovered := false }]
abbrev dfr (f : FuncId) (args : List Value) : Deferred := { target := .fn (.func f) #[], args := args.toArray }
def isAny (P : Program) (t : TypeId) : Bool := match P.underlying t with
  | some (.interface _) => true
  | _ => false
theorem und_any : ∃ ms, PG.underlying T.t_interface = some (.interface ms) := by
  have h : isAny PG T.t_interface = true := by kernel_rfl
  unfold isAny at h
  split at h
  · rename_i ms hm; exact ⟨ms, hm⟩
  · cases h
def opAt (f : Func) (i : Nat) : Oper := match sub [0] (bodyOf f) with
  | .region _ ops _ => ops.getD i default
  | _ => default
theorem und_errno : PG.underlying T.t_api_Errno = some (.int .i64) := by kernel_rfl
section
attribute [local irreducible] binV Op.unary convert nlW faW ldS ldW ixS ixA ixV ixT exW lnS lnT pu stW alW opW opU bsW mkW
variable {B w : World} {H A C : Hp} {X : World → Prop} {R : Ending → World → Prop} {b : Nat} {u : Value} {e : Int}
theorem rest_nil {x : Value} {f : Value → Prop} {Y : Prop} (hx : x = .nilIface) (h : Y) : pu PG (binV .neq T.t_interface true x .nilIface) fun t7 => condV t7 (f t7) Y := by
  subst hx
  obtain ⟨ms, hm⟩ := und_any
  exact if_nil hm (cnd_f rfl h)
theorem rest_val {x : Value} {f : Value → Value → Prop} {Y : Prop} (hx : x = errV e) (h : f (vI e) (vB true)) : pu PG (binV .neq T.t_interface true x .nilIface) fun t7 => condV t7 (pu PG (Instr.typeAssert x T.t_interface T.t_api_Errno true) fun t10 => exW 0 t10 fun t11 => exW 1 t10 fun t12 => f t11 t12) Y := by
  subst hx
  obtain ⟨ms, hm⟩ := und_any
  refine if_val hm (cnd_t rfl ?_)
  exact as_iface und_errno (fun m => by simp) (ex20 (ex21 h))
theorem stack_lv_ret (k : X w) : LvW PG (dfr N.stack_caught [ptr b] :: []) .returning w (endV X R) := by
  refine ⟨by simp, .inr ⟨N.stack_caught, rfl, by kernel_rfl, ?_⟩⟩
  refine caught_gen (A := ⟨[], []⟩) (fn := Tryz.f79) (a := 5) (b := 2) (fuel := 400) (id := 0) (o1 := opAt Tryz.f79 0) (o2 := opAt Tryz.f79 1) (rest := restOf Tryz.f79) (E := fun w' => w' = w) mixed Tryz.func79 (by kernel_rfl) ⟨by kernel_rfl, by kernel_rfl, by kernel_rfl⟩ ⟨by kernel_rfl, by kernel_rfl, by kernel_rfl⟩ (by kernel_rfl) (of_decide_eq_true (by kernel_rfl)) (of_decide_eq_true (by kernel_rfl)) (.inl ⟨rfl, rfl, rfl⟩) ?_ ?_
  · exact (stack_caught_eq _ _ _ _).mpr (rest_nil rfl ⟨rfl, rfl⟩)
  · rintro w' rfl; exact k
theorem stack_lv_pan (h : Ow B w (A ++ (b, cel [u] T.t_api_Errno) :: C)) (k : ∀ w', Ow B w' (A ++ (b, cel [vI e] T.t_api_Errno) :: C) → X w') : LvW PG (dfr N.stack_caught [ptr b] :: []) (.panicking (pan e)) w (endV X R) := by
  refine ⟨by simp, .inr ⟨N.stack_caught, rfl, by kernel_rfl, ?_⟩⟩
  refine caught_gen (A := ⟨[], []⟩) (fn := Tryz.f79) (a := 5) (b := 2) (fuel := 400) (id := 0) (o1 := opAt Tryz.f79 0) (o2 := opAt Tryz.f79 1) (rest := restOf Tryz.f79) (E := fun w' => Ow B w' (A ++ (b, cel [vI e] T.t_api_Errno) :: C)) mixed Tryz.func79 (by kernel_rfl) ⟨by kernel_rfl, by kernel_rfl, by kernel_rfl⟩ ⟨by kernel_rfl, by kernel_rfl, by kernel_rfl⟩ (by kernel_rfl) (of_decide_eq_true (by kernel_rfl)) (of_decide_eq_true (by kernel_rfl)) (.inr ⟨_, _, rfl, rfl, rfl⟩) ?_ ?_
  · refine (stack_caught_eq _ _ _ _).mpr (rest_val (e := e) rfl ?_)
    refine pu_not (cnd_f rfl ?_)
    refine nl_ptr ?_
    refine st1_here h rfl rfl (by simp) (fun w1 h1 => ⟨rfl, h1⟩)
  · intro w' h'; exact k _ h'
theorem fiber_lv_ret (k : X w) : LvW PG (dfr N.fiber_caught [ptr b] :: []) .returning w (endV X R) := by
  refine ⟨by simp, .inr ⟨N.fiber_caught, rfl, by kernel_rfl, ?_⟩⟩
  refine caught_gen (A := ⟨[], []⟩) (fn := Tryz.f101) (a := 5) (b := 2) (fuel := 400) (id := 0) (o1 := opAt Tryz.f101 0) (o2 := opAt Tryz.f101 1) (rest := restOf Tryz.f101) (E := fun w' => w' = w) mixed Tryz.func101 (by kernel_rfl) ⟨by kernel_rfl, by kernel_rfl, by kernel_rfl⟩ ⟨by kernel_rfl, by kernel_rfl, by kernel_rfl⟩ (by kernel_rfl) (of_decide_eq_true (by kernel_rfl)) (of_decide_eq_true (by kernel_rfl)) (.inl ⟨rfl, rfl, rfl⟩) ?_ ?_
  · exact (fiber_caught_eq _ _ _ _).mpr (rest_nil rfl ⟨rfl, rfl⟩)
  · rintro w' rfl; exact k
theorem fiber_lv_pan (h : Ow B w (A ++ (b, cel [u] T.t_api_Errno) :: C)) (k : ∀ w', Ow B w' (A ++ (b, cel [vI e] T.t_api_Errno) :: C) → X w') : LvW PG (dfr N.fiber_caught [ptr b] :: []) (.panicking (pan e)) w (endV X R) := by
  refine ⟨by simp, .inr ⟨N.fiber_caught, rfl, by kernel_rfl, ?_⟩⟩
  refine caught_gen (A := ⟨[], []⟩) (fn := Tryz.f101) (a := 5) (b := 2) (fuel := 400) (id := 0) (o1 := opAt Tryz.f101 0) (o2 := opAt Tryz.f101 1) (rest := restOf Tryz.f101) (E := fun w' => Ow B w' (A ++ (b, cel [vI e] T.t_api_Errno) :: C)) mixed Tryz.func101 (by kernel_rfl) ⟨by kernel_rfl, by kernel_rfl, by kernel_rfl⟩ ⟨by kernel_rfl, by kernel_rfl, by kernel_rfl⟩ (by kernel_rfl) (of_decide_eq_true (by kernel_rfl)) (of_decide_eq_true (by kernel_rfl)) (.inr ⟨_, _, rfl, rfl, rfl⟩) ?_ ?_
  · refine (fiber_caught_eq _ _ _ _).mpr (rest_val (e := e) rfl ?_)
    refine pu_not (cnd_f rfl ?_)
    refine nl_ptr ?_
    refine st1_here h rfl rfl (by simp) (fun w1 h1 => ⟨rfl, h1⟩)
  · intro w' h'; exact k _ h'
theorem image_lv_ret {cl : Value} (k : X w) : LvW PG (dfr N.image_caught [ptr b, cl] :: []) .returning w (endV X R) := by
  refine ⟨by simp, .inr ⟨N.image_caught, rfl, by kernel_rfl, ?_⟩⟩
  refine caught_gen (A := ⟨[], []⟩) (fn := Tryz.f110) (a := 7) (b := 4) (fuel := 400) (id := 0) (o1 := opAt Tryz.f110 0) (o2 := opAt Tryz.f110 1) (rest := restOf Tryz.f110) (E := fun w' => w' = w) mixed Tryz.func110 (by kernel_rfl) ⟨by kernel_rfl, by kernel_rfl, by kernel_rfl⟩ ⟨by kernel_rfl, by kernel_rfl, by kernel_rfl⟩ (by kernel_rfl) (of_decide_eq_true (by kernel_rfl)) (of_decide_eq_true (by kernel_rfl)) (.inl ⟨rfl, rfl, rfl⟩) ?_ ?_
  · exact (image_caught_eq _ _ _ _ _).mpr (rest_nil rfl ⟨rfl, rfl⟩)
  · rintro w' rfl; exact k
/-- The closure cl clears; then the error is told. -/
theorem image_lv_pan {cl : Value} (hc : ∀ K : Value → World → Prop, (∀ v w', Ow B w' (A ++ (b, cel [u] T.t_api_Errno) :: C) → K v w') → callV PG cl [] K (fun _ _ => False) w) (k : ∀ w', Ow B w' (A ++ (b, cel [vI e] T.t_api_Errno) :: C) → X w') : LvW PG (dfr N.image_caught [ptr b, cl] :: []) (.panicking (pan e)) w (endV X R) := by
  refine ⟨by simp, .inr ⟨N.image_caught, rfl, by kernel_rfl, ?_⟩⟩
  refine caught_gen (A := ⟨[], []⟩) (fn := Tryz.f110) (a := 7) (b := 4) (fuel := 400) (id := 0) (o1 := opAt Tryz.f110 0) (o2 := opAt Tryz.f110 1) (rest := restOf Tryz.f110) (E := fun w' => Ow B w' (A ++ (b, cel [vI e] T.t_api_Errno) :: C)) mixed Tryz.func110 (by kernel_rfl) ⟨by kernel_rfl, by kernel_rfl, by kernel_rfl⟩ ⟨by kernel_rfl, by kernel_rfl, by kernel_rfl⟩ (by kernel_rfl) (of_decide_eq_true (by kernel_rfl)) (of_decide_eq_true (by kernel_rfl)) (.inr ⟨_, _, rfl, rfl, rfl⟩) ?_ ?_
  · refine (image_caught_eq _ _ _ _ _).mpr (rest_val (e := e) rfl ?_)
    refine pu_not (cnd_f rfl ?_)
    refine hc _ (fun v w1 h1 => ?_)
    refine nl_ptr ?_
    refine st1_here h1 rfl rfl (by simp) (fun w2 h2 => ⟨rfl, h2⟩)
  · intro w' h'; exact k _ h'
theorem instr_lv_ret {cl : Value} (k : X w) : LvW PG (dfr N.instr_caught [ptr b, cl] :: []) .returning w (endV X R) := by
  refine ⟨by simp, .inr ⟨N.instr_caught, rfl, by kernel_rfl, ?_⟩⟩
  refine caught_gen (A := ⟨[], []⟩) (fn := Tryz.f222) (a := 7) (b := 4) (fuel := 400) (id := 0) (o1 := opAt Tryz.f222 0) (o2 := opAt Tryz.f222 1) (rest := restOf Tryz.f222) (E := fun w' => w' = w) mixed Tryz.func222 (by kernel_rfl) ⟨by kernel_rfl, by kernel_rfl, by kernel_rfl⟩ ⟨by kernel_rfl, by kernel_rfl, by kernel_rfl⟩ (by kernel_rfl) (of_decide_eq_true (by kernel_rfl)) (of_decide_eq_true (by kernel_rfl)) (.inl ⟨rfl, rfl, rfl⟩) ?_ ?_
  · exact (instr_caught_eq _ _ _ _ _).mpr (rest_nil rfl ⟨rfl, rfl⟩)
  · rintro w' rfl; exact k
theorem instr_lv_pan {cl : Value} (hc : ∀ K : Value → World → Prop, (∀ v w', Ow B w' (A ++ (b, cel [u] T.t_api_Errno) :: C) → K v w') → callV PG cl [] K (fun _ _ => False) w) (k : ∀ w', Ow B w' (A ++ (b, cel [vI e] T.t_api_Errno) :: C) → X w') : LvW PG (dfr N.instr_caught [ptr b, cl] :: []) (.panicking (pan e)) w (endV X R) := by
  refine ⟨by simp, .inr ⟨N.instr_caught, rfl, by kernel_rfl, ?_⟩⟩
  refine caught_gen (A := ⟨[], []⟩) (fn := Tryz.f222) (a := 7) (b := 4) (fuel := 400) (id := 0) (o1 := opAt Tryz.f222 0) (o2 := opAt Tryz.f222 1) (rest := restOf Tryz.f222) (E := fun w' => Ow B w' (A ++ (b, cel [vI e] T.t_api_Errno) :: C)) mixed Tryz.func222 (by kernel_rfl) ⟨by kernel_rfl, by kernel_rfl, by kernel_rfl⟩ ⟨by kernel_rfl, by kernel_rfl, by kernel_rfl⟩ (by kernel_rfl) (of_decide_eq_true (by kernel_rfl)) (of_decide_eq_true (by kernel_rfl)) (.inr ⟨_, _, rfl, rfl, rfl⟩) ?_ ?_
  · refine (instr_caught_eq _ _ _ _ _).mpr (rest_val (e := e) rfl ?_)
    refine pu_not (cnd_f rfl ?_)
    refine hc _ (fun v w1 h1 => ?_)
    refine nl_ptr ?_
    refine st1_here h1 rfl rfl (by simp) (fun w2 h2 => ⟨rfl, h2⟩)
  · intro w' h'; exact k _ h'
end
end Go.Proofs.YtkkkcafkepnecaaGreat

/-! Contracts of package arith: what is reckoned. -/
set_option linter.unusedVariables false
set_option linter.unusedSimpArgs false
namespace Go.Proofs.YtkkkcafkepnecaaGreat.Ar
open Go Go.RowKit Vc
attribute [local irreducible] binV Op.unary convert

section
variable {B w : World} {H : Hp} {K : Value → World → Prop} {PK : List PanicEntry → World → Prop}
abbrev vU (n : Int) : Value := .int .u32 n
abbrev fnv (f : FuncId) : Value := .func (.func f) #[] #[]
abbrev IsU (n : Int) : Prop := 0 ≤ n ∧ n < 4294967296

/-- What is reckoned, by kinds. -/
def aOp (k a b : Int) : Int :=
  if k = 1 then (a + b) % 4294967296 else if k = 2 then (a - b) % 4294967296 else if k = 3 then a * b % 4294967296 else if k = 4 then a.tdiv b else if k = 5 then a.tmod b
  else if k = 6 then andI .u32 a b else if k = 7 then orI .u32 a b else if k = 8 then xorI .u32 a b else if k = 9 then a * 2 ^ (b % 32).toNat % 4294967296 else if k = 10 then a / 2 ^ (b % 32).toNat
  else if k = 11 then (if a < b then 1 else 0) else (if a = b then 1 else 0)
def aDo (k a b : Int) : Int × Int :=
  if k < 1 ∨ 12 < k then (0, 2) else if b = 0 ∧ (k = 4 ∨ k = 5) then (0, 150) else (aOp k a b, 0)

def doesL : List (Int × Value) := [(1, fnv N.arith_does_1), (2, fnv N.arith_does_2), (3, fnv N.arith_does_3), (4, fnv N.arith_does_4), (5, fnv N.arith_does_5), (6, fnv N.arith_does_6),
  (7, fnv N.arith_does_7), (8, fnv N.arith_does_8), (9, fnv N.arith_does_9), (10, fnv N.arith_does_10), (11, fnv N.arith_does_11), (12, fnv N.arith_does_12)]
theorem und_does : PG.underlying T.t_map_api_Arith_func_arith_pair_uint32 = some (.map T.t_api_Arith T.t_func_arith_pair_uint32) := by kernel_rfl
theorem und_arith : PG.underlying T.t_api_Arith = some (.int .i64) := by kernel_rfl
theorem zo_does : zo PG T.t_func_arith_pair_uint32 = some .nilFunc := by kernel_rfl
theorem und_u32 : PG.underlying T.t_uint32 = some (.int .u32) := by kernel_rfl
theorem und_u64 : PG.underlying T.t_uint64 = some (.int .u64) := by kernel_rfl
theorem und_i64 : PG.underlying T.t_int64 = some (.int .i64) := by kernel_rfl
theorem und_i32 : PG.underlying T.t_int32 = some (.int .i32) := by kernel_rfl
theorem und_int : PG.underlying T.t_int = some (.int .i64) := by kernel_rfl
theorem und_word : PG.underlying T.t_arith_word = some (.int .u32) := by kernel_rfl

theorem map_spec (h : Ow B w H) (k : ∀ b w', Ow B w' ((b, mpo .i64 doesL) :: H) → K (.map (some b)) w') : callW PG N.arith_does [] K PK w := by
  refine arith_does.ok ?_
  unfold arith_does.C
  refine mk_rule (kd := .i64) h (fun b w1 h1 => ?_)
  have go : ∀ {l : List (Int × Value)} {x : Int} {v : Value} {w : World} {KU : World → Prop}, Ow B w ((b, mpo .i64 l) :: H) → lk l x = none → (∀ w', Ow B w' ((b, mpo .i64 (l ++ [(x, v)])) :: H) → KU w') →
      opU PG (Instr.mapUpdate T.t_map_api_Arith_func_arith_pair_uint32 (.map (some b)) (.int .i64 x) v) KU w :=
    fun h hn k => mu_rule (A := []) h und_does und_arith hn k
  refine go h1 rfl (fun w2 h2 => go h2 rfl (fun w3 h3 => go h3 rfl (fun w4 h4 => go h4 rfl (fun w5 h5 => go h5 rfl (fun w6 h6 => go h6 rfl (fun w7 h7 => ?_))))))
  refine go h7 rfl (fun w8 h8 => go h8 rfl (fun w9 h9 => go h9 rfl (fun w10 h10 => go h10 rfl (fun w11 h11 => go h11 rfl (fun w12 h12 => go h12 rfl (fun w13 h13 => k b w13 h13))))))

theorem at_spec {a b : Int} (hb : IsU b) (h : Ow B w H) (k : ∀ w', Ow B w' H → K (vU (b % 32)) w') : callW PG N.arith_pair_at [.agg #[vU a, vU b]] K PK w := by
  refine arith_pair_at.ok ?_
  unfold arith_pair_at.C
  refine al_rule h (l := [vU a, vU b]) rfl (fun p w1 h1 => ?_)
  repeat (first | refine pu_not ?_ | refine pu_eql ?_ | refine pu_neq ?_ | refine pu_lss ?_ | refine pu_leq ?_ | refine pu_gtr ?_ | refine pu_geq ?_ | refine pu_add ?_ | refine pu_sub ?_ | refine pu_mul ?_ | refine pu_neg ?_ | refine fa_at ?_ | refine nl_ptr ?_ | refine ex20 ?_ | refine ex21 ?_ | refine ex30 ?_ | refine ex31 ?_ | refine ex32 ?_ | refine ln_rule ?_ | refine lnT_rule ?_ | refine pu_and ?_ | refine pu_or ?_ | refine pu_xor ?_ | refine pu_seq ?_ | refine pu_sne ?_)
  refine ld_here h1 (.head _) rfl ?_
  refine pu_rem (by decide) ?_
  rw [Int.tmod_eq_emod_of_nonneg hb.1]
  exact k _ h1.drop
theorem one_spec {b : Bool} (h : Ow B w H) (k : ∀ w', Ow B w' H → K (vU (if b then 1 else 0)) w') : callW PG N.arith_one [vB b] K PK w := by
  refine arith_one.ok ?_
  unfold arith_one.C
  exact cnd (fun hb => by subst hb; exact k _ h) (fun hb => by subst hb; exact k _ h)

/-- A function of the map, at its kind. -/
def OpF (B : World) (f : Value) (k : Int) : Prop := ∀ (H : Hp) (K : Value → World → Prop) (PK : List PanicEntry → World → Prop) (w : World) (a b : Int), IsU a → IsU b → (k = 4 ∨ k = 5 → b ≠ 0) → Ow B w H →
  (∀ w', Ow B w' H → K (vU (aOp k a b)) w') → callV PG f [.agg #[vU a, vU b]] K PK w
theorem f1 : OpF B (fnv N.arith_does_1) 1 := by
  intro H K PK w a b ha hb h0 h k
  refine callV_fn arith_does_1.okf (arith_does_1.ok ?_)
  unfold arith_does_1.C
  refine al_rule h (l := [vU a, vU b]) rfl (fun p w1 h1 => ?_)
  repeat (first | refine pu_not ?_ | refine pu_eql ?_ | refine pu_neq ?_ | refine pu_lss ?_ | refine pu_leq ?_ | refine pu_gtr ?_ | refine pu_geq ?_ | refine pu_add ?_ | refine pu_sub ?_ | refine pu_mul ?_ | refine pu_neg ?_ | refine fa_at ?_ | refine nl_ptr ?_ | refine ex20 ?_ | refine ex21 ?_ | refine ex30 ?_ | refine ex31 ?_ | refine ex32 ?_ | refine ln_rule ?_ | refine lnT_rule ?_ | refine pu_and ?_ | refine pu_or ?_ | refine pu_xor ?_ | refine pu_seq ?_ | refine pu_sne ?_)
  refine ld_here h1 (.head _) rfl ?_
  repeat (first | refine pu_not ?_ | refine pu_eql ?_ | refine pu_neq ?_ | refine pu_lss ?_ | refine pu_leq ?_ | refine pu_gtr ?_ | refine pu_geq ?_ | refine pu_add ?_ | refine pu_sub ?_ | refine pu_mul ?_ | refine pu_neg ?_ | refine fa_at ?_ | refine nl_ptr ?_ | refine ex20 ?_ | refine ex21 ?_ | refine ex30 ?_ | refine ex31 ?_ | refine ex32 ?_ | refine ln_rule ?_ | refine lnT_rule ?_ | refine pu_and ?_ | refine pu_or ?_ | refine pu_xor ?_ | refine pu_seq ?_ | refine pu_sne ?_)
  refine ld_here h1 (.head _) rfl ?_
  repeat (first | refine pu_not ?_ | refine pu_eql ?_ | refine pu_neq ?_ | refine pu_lss ?_ | refine pu_leq ?_ | refine pu_gtr ?_ | refine pu_geq ?_ | refine pu_add ?_ | refine pu_sub ?_ | refine pu_mul ?_ | refine pu_neg ?_ | refine fa_at ?_ | refine nl_ptr ?_ | refine ex20 ?_ | refine ex21 ?_ | refine ex30 ?_ | refine ex31 ?_ | refine ex32 ?_ | refine ln_rule ?_ | refine lnT_rule ?_ | refine pu_and ?_ | refine pu_or ?_ | refine pu_xor ?_ | refine pu_seq ?_ | refine pu_sne ?_)
  rw [wrapu32]
  exact k _ h1.drop
theorem f2 : OpF B (fnv N.arith_does_2) 2 := by
  intro H K PK w a b ha hb h0 h k
  refine callV_fn arith_does_2.okf (arith_does_2.ok ?_)
  unfold arith_does_2.C
  refine al_rule h (l := [vU a, vU b]) rfl (fun p w1 h1 => ?_)
  repeat (first | refine pu_not ?_ | refine pu_eql ?_ | refine pu_neq ?_ | refine pu_lss ?_ | refine pu_leq ?_ | refine pu_gtr ?_ | refine pu_geq ?_ | refine pu_add ?_ | refine pu_sub ?_ | refine pu_mul ?_ | refine pu_neg ?_ | refine fa_at ?_ | refine nl_ptr ?_ | refine ex20 ?_ | refine ex21 ?_ | refine ex30 ?_ | refine ex31 ?_ | refine ex32 ?_ | refine ln_rule ?_ | refine lnT_rule ?_ | refine pu_and ?_ | refine pu_or ?_ | refine pu_xor ?_ | refine pu_seq ?_ | refine pu_sne ?_)
  refine ld_here h1 (.head _) rfl ?_
  repeat (first | refine pu_not ?_ | refine pu_eql ?_ | refine pu_neq ?_ | refine pu_lss ?_ | refine pu_leq ?_ | refine pu_gtr ?_ | refine pu_geq ?_ | refine pu_add ?_ | refine pu_sub ?_ | refine pu_mul ?_ | refine pu_neg ?_ | refine fa_at ?_ | refine nl_ptr ?_ | refine ex20 ?_ | refine ex21 ?_ | refine ex30 ?_ | refine ex31 ?_ | refine ex32 ?_ | refine ln_rule ?_ | refine lnT_rule ?_ | refine pu_and ?_ | refine pu_or ?_ | refine pu_xor ?_ | refine pu_seq ?_ | refine pu_sne ?_)
  refine ld_here h1 (.head _) rfl ?_
  repeat (first | refine pu_not ?_ | refine pu_eql ?_ | refine pu_neq ?_ | refine pu_lss ?_ | refine pu_leq ?_ | refine pu_gtr ?_ | refine pu_geq ?_ | refine pu_add ?_ | refine pu_sub ?_ | refine pu_mul ?_ | refine pu_neg ?_ | refine fa_at ?_ | refine nl_ptr ?_ | refine ex20 ?_ | refine ex21 ?_ | refine ex30 ?_ | refine ex31 ?_ | refine ex32 ?_ | refine ln_rule ?_ | refine lnT_rule ?_ | refine pu_and ?_ | refine pu_or ?_ | refine pu_xor ?_ | refine pu_seq ?_ | refine pu_sne ?_)
  rw [wrapu32]
  exact k _ h1.drop
theorem f3 : OpF B (fnv N.arith_does_3) 3 := by
  intro H K PK w a b ha hb h0 h k
  refine callV_fn arith_does_3.okf (arith_does_3.ok ?_)
  unfold arith_does_3.C
  refine al_rule h (l := [vU a, vU b]) rfl (fun p w1 h1 => ?_)
  repeat (first | refine pu_not ?_ | refine pu_eql ?_ | refine pu_neq ?_ | refine pu_lss ?_ | refine pu_leq ?_ | refine pu_gtr ?_ | refine pu_geq ?_ | refine pu_add ?_ | refine pu_sub ?_ | refine pu_mul ?_ | refine pu_neg ?_ | refine fa_at ?_ | refine nl_ptr ?_ | refine ex20 ?_ | refine ex21 ?_ | refine ex30 ?_ | refine ex31 ?_ | refine ex32 ?_ | refine ln_rule ?_ | refine lnT_rule ?_ | refine pu_and ?_ | refine pu_or ?_ | refine pu_xor ?_ | refine pu_seq ?_ | refine pu_sne ?_)
  refine ld_here h1 (.head _) rfl ?_
  repeat (first | refine pu_not ?_ | refine pu_eql ?_ | refine pu_neq ?_ | refine pu_lss ?_ | refine pu_leq ?_ | refine pu_gtr ?_ | refine pu_geq ?_ | refine pu_add ?_ | refine pu_sub ?_ | refine pu_mul ?_ | refine pu_neg ?_ | refine fa_at ?_ | refine nl_ptr ?_ | refine ex20 ?_ | refine ex21 ?_ | refine ex30 ?_ | refine ex31 ?_ | refine ex32 ?_ | refine ln_rule ?_ | refine lnT_rule ?_ | refine pu_and ?_ | refine pu_or ?_ | refine pu_xor ?_ | refine pu_seq ?_ | refine pu_sne ?_)
  refine ld_here h1 (.head _) rfl ?_
  repeat (first | refine pu_not ?_ | refine pu_eql ?_ | refine pu_neq ?_ | refine pu_lss ?_ | refine pu_leq ?_ | refine pu_gtr ?_ | refine pu_geq ?_ | refine pu_add ?_ | refine pu_sub ?_ | refine pu_mul ?_ | refine pu_neg ?_ | refine fa_at ?_ | refine nl_ptr ?_ | refine ex20 ?_ | refine ex21 ?_ | refine ex30 ?_ | refine ex31 ?_ | refine ex32 ?_ | refine ln_rule ?_ | refine lnT_rule ?_ | refine pu_and ?_ | refine pu_or ?_ | refine pu_xor ?_ | refine pu_seq ?_ | refine pu_sne ?_)
  rw [wrapu32]
  exact k _ h1.drop
theorem f4 : OpF B (fnv N.arith_does_4) 4 := by
  intro H K PK w a b ha hb h0 h k
  refine callV_fn arith_does_4.okf (arith_does_4.ok ?_)
  unfold arith_does_4.C
  refine al_rule h (l := [vU a, vU b]) rfl (fun p w1 h1 => ?_)
  repeat (first | refine pu_not ?_ | refine pu_eql ?_ | refine pu_neq ?_ | refine pu_lss ?_ | refine pu_leq ?_ | refine pu_gtr ?_ | refine pu_geq ?_ | refine pu_add ?_ | refine pu_sub ?_ | refine pu_mul ?_ | refine pu_neg ?_ | refine fa_at ?_ | refine nl_ptr ?_ | refine ex20 ?_ | refine ex21 ?_ | refine ex30 ?_ | refine ex31 ?_ | refine ex32 ?_ | refine ln_rule ?_ | refine lnT_rule ?_ | refine pu_and ?_ | refine pu_or ?_ | refine pu_xor ?_ | refine pu_seq ?_ | refine pu_sne ?_)
  refine ld_here h1 (.head _) rfl ?_
  repeat (first | refine pu_not ?_ | refine pu_eql ?_ | refine pu_neq ?_ | refine pu_lss ?_ | refine pu_leq ?_ | refine pu_gtr ?_ | refine pu_geq ?_ | refine pu_add ?_ | refine pu_sub ?_ | refine pu_mul ?_ | refine pu_neg ?_ | refine fa_at ?_ | refine nl_ptr ?_ | refine ex20 ?_ | refine ex21 ?_ | refine ex30 ?_ | refine ex31 ?_ | refine ex32 ?_ | refine ln_rule ?_ | refine lnT_rule ?_ | refine pu_and ?_ | refine pu_or ?_ | refine pu_xor ?_ | refine pu_seq ?_ | refine pu_sne ?_)
  refine ld_here h1 (.head _) rfl ?_
  refine pu_quo (h0 (.inl rfl)) ?_
  have : IntKind.u32.wrap (a.tdiv b) = a.tdiv b := by
    rw [wrapu32, Int.tdiv_eq_ediv_of_nonneg ha.1]
    have h1 : 0 ≤ a / b := Int.ediv_nonneg ha.1 hb.1
    have h2 : a / b ≤ a := Int.ediv_le_self _ ha.1
    exact Int.emod_eq_of_lt h1 (by omega)
  rw [this]
  exact k _ h1.drop
theorem f5 : OpF B (fnv N.arith_does_5) 5 := by
  intro H K PK w a b ha hb h0 h k
  refine callV_fn arith_does_5.okf (arith_does_5.ok ?_)
  unfold arith_does_5.C
  refine al_rule h (l := [vU a, vU b]) rfl (fun p w1 h1 => ?_)
  repeat (first | refine pu_not ?_ | refine pu_eql ?_ | refine pu_neq ?_ | refine pu_lss ?_ | refine pu_leq ?_ | refine pu_gtr ?_ | refine pu_geq ?_ | refine pu_add ?_ | refine pu_sub ?_ | refine pu_mul ?_ | refine pu_neg ?_ | refine fa_at ?_ | refine nl_ptr ?_ | refine ex20 ?_ | refine ex21 ?_ | refine ex30 ?_ | refine ex31 ?_ | refine ex32 ?_ | refine ln_rule ?_ | refine lnT_rule ?_ | refine pu_and ?_ | refine pu_or ?_ | refine pu_xor ?_ | refine pu_seq ?_ | refine pu_sne ?_)
  refine ld_here h1 (.head _) rfl ?_
  repeat (first | refine pu_not ?_ | refine pu_eql ?_ | refine pu_neq ?_ | refine pu_lss ?_ | refine pu_leq ?_ | refine pu_gtr ?_ | refine pu_geq ?_ | refine pu_add ?_ | refine pu_sub ?_ | refine pu_mul ?_ | refine pu_neg ?_ | refine fa_at ?_ | refine nl_ptr ?_ | refine ex20 ?_ | refine ex21 ?_ | refine ex30 ?_ | refine ex31 ?_ | refine ex32 ?_ | refine ln_rule ?_ | refine lnT_rule ?_ | refine pu_and ?_ | refine pu_or ?_ | refine pu_xor ?_ | refine pu_seq ?_ | refine pu_sne ?_)
  refine ld_here h1 (.head _) rfl ?_
  refine pu_rem (h0 (.inr rfl)) ?_
  exact k _ h1.drop
theorem f6 : OpF B (fnv N.arith_does_6) 6 := by
  intro H K PK w a b ha hb h0 h k
  refine callV_fn arith_does_6.okf (arith_does_6.ok ?_)
  unfold arith_does_6.C
  refine al_rule h (l := [vU a, vU b]) rfl (fun p w1 h1 => ?_)
  repeat (first | refine pu_not ?_ | refine pu_eql ?_ | refine pu_neq ?_ | refine pu_lss ?_ | refine pu_leq ?_ | refine pu_gtr ?_ | refine pu_geq ?_ | refine pu_add ?_ | refine pu_sub ?_ | refine pu_mul ?_ | refine pu_neg ?_ | refine fa_at ?_ | refine nl_ptr ?_ | refine ex20 ?_ | refine ex21 ?_ | refine ex30 ?_ | refine ex31 ?_ | refine ex32 ?_ | refine ln_rule ?_ | refine lnT_rule ?_ | refine pu_and ?_ | refine pu_or ?_ | refine pu_xor ?_ | refine pu_seq ?_ | refine pu_sne ?_)
  refine ld_here h1 (.head _) rfl ?_
  repeat (first | refine pu_not ?_ | refine pu_eql ?_ | refine pu_neq ?_ | refine pu_lss ?_ | refine pu_leq ?_ | refine pu_gtr ?_ | refine pu_geq ?_ | refine pu_add ?_ | refine pu_sub ?_ | refine pu_mul ?_ | refine pu_neg ?_ | refine fa_at ?_ | refine nl_ptr ?_ | refine ex20 ?_ | refine ex21 ?_ | refine ex30 ?_ | refine ex31 ?_ | refine ex32 ?_ | refine ln_rule ?_ | refine lnT_rule ?_ | refine pu_and ?_ | refine pu_or ?_ | refine pu_xor ?_ | refine pu_seq ?_ | refine pu_sne ?_)
  refine ld_here h1 (.head _) rfl ?_
  repeat (first | refine pu_not ?_ | refine pu_eql ?_ | refine pu_neq ?_ | refine pu_lss ?_ | refine pu_leq ?_ | refine pu_gtr ?_ | refine pu_geq ?_ | refine pu_add ?_ | refine pu_sub ?_ | refine pu_mul ?_ | refine pu_neg ?_ | refine fa_at ?_ | refine nl_ptr ?_ | refine ex20 ?_ | refine ex21 ?_ | refine ex30 ?_ | refine ex31 ?_ | refine ex32 ?_ | refine ln_rule ?_ | refine lnT_rule ?_ | refine pu_and ?_ | refine pu_or ?_ | refine pu_xor ?_ | refine pu_seq ?_ | refine pu_sne ?_)
  exact k _ h1.drop
theorem f7 : OpF B (fnv N.arith_does_7) 7 := by
  intro H K PK w a b ha hb h0 h k
  refine callV_fn arith_does_7.okf (arith_does_7.ok ?_)
  unfold arith_does_7.C
  refine al_rule h (l := [vU a, vU b]) rfl (fun p w1 h1 => ?_)
  repeat (first | refine pu_not ?_ | refine pu_eql ?_ | refine pu_neq ?_ | refine pu_lss ?_ | refine pu_leq ?_ | refine pu_gtr ?_ | refine pu_geq ?_ | refine pu_add ?_ | refine pu_sub ?_ | refine pu_mul ?_ | refine pu_neg ?_ | refine fa_at ?_ | refine nl_ptr ?_ | refine ex20 ?_ | refine ex21 ?_ | refine ex30 ?_ | refine ex31 ?_ | refine ex32 ?_ | refine ln_rule ?_ | refine lnT_rule ?_ | refine pu_and ?_ | refine pu_or ?_ | refine pu_xor ?_ | refine pu_seq ?_ | refine pu_sne ?_)
  refine ld_here h1 (.head _) rfl ?_
  repeat (first | refine pu_not ?_ | refine pu_eql ?_ | refine pu_neq ?_ | refine pu_lss ?_ | refine pu_leq ?_ | refine pu_gtr ?_ | refine pu_geq ?_ | refine pu_add ?_ | refine pu_sub ?_ | refine pu_mul ?_ | refine pu_neg ?_ | refine fa_at ?_ | refine nl_ptr ?_ | refine ex20 ?_ | refine ex21 ?_ | refine ex30 ?_ | refine ex31 ?_ | refine ex32 ?_ | refine ln_rule ?_ | refine lnT_rule ?_ | refine pu_and ?_ | refine pu_or ?_ | refine pu_xor ?_ | refine pu_seq ?_ | refine pu_sne ?_)
  refine ld_here h1 (.head _) rfl ?_
  repeat (first | refine pu_not ?_ | refine pu_eql ?_ | refine pu_neq ?_ | refine pu_lss ?_ | refine pu_leq ?_ | refine pu_gtr ?_ | refine pu_geq ?_ | refine pu_add ?_ | refine pu_sub ?_ | refine pu_mul ?_ | refine pu_neg ?_ | refine fa_at ?_ | refine nl_ptr ?_ | refine ex20 ?_ | refine ex21 ?_ | refine ex30 ?_ | refine ex31 ?_ | refine ex32 ?_ | refine ln_rule ?_ | refine lnT_rule ?_ | refine pu_and ?_ | refine pu_or ?_ | refine pu_xor ?_ | refine pu_seq ?_ | refine pu_sne ?_)
  exact k _ h1.drop
theorem f8 : OpF B (fnv N.arith_does_8) 8 := by
  intro H K PK w a b ha hb h0 h k
  refine callV_fn arith_does_8.okf (arith_does_8.ok ?_)
  unfold arith_does_8.C
  refine al_rule h (l := [vU a, vU b]) rfl (fun p w1 h1 => ?_)
  repeat (first | refine pu_not ?_ | refine pu_eql ?_ | refine pu_neq ?_ | refine pu_lss ?_ | refine pu_leq ?_ | refine pu_gtr ?_ | refine pu_geq ?_ | refine pu_add ?_ | refine pu_sub ?_ | refine pu_mul ?_ | refine pu_neg ?_ | refine fa_at ?_ | refine nl_ptr ?_ | refine ex20 ?_ | refine ex21 ?_ | refine ex30 ?_ | refine ex31 ?_ | refine ex32 ?_ | refine ln_rule ?_ | refine lnT_rule ?_ | refine pu_and ?_ | refine pu_or ?_ | refine pu_xor ?_ | refine pu_seq ?_ | refine pu_sne ?_)
  refine ld_here h1 (.head _) rfl ?_
  repeat (first | refine pu_not ?_ | refine pu_eql ?_ | refine pu_neq ?_ | refine pu_lss ?_ | refine pu_leq ?_ | refine pu_gtr ?_ | refine pu_geq ?_ | refine pu_add ?_ | refine pu_sub ?_ | refine pu_mul ?_ | refine pu_neg ?_ | refine fa_at ?_ | refine nl_ptr ?_ | refine ex20 ?_ | refine ex21 ?_ | refine ex30 ?_ | refine ex31 ?_ | refine ex32 ?_ | refine ln_rule ?_ | refine lnT_rule ?_ | refine pu_and ?_ | refine pu_or ?_ | refine pu_xor ?_ | refine pu_seq ?_ | refine pu_sne ?_)
  refine ld_here h1 (.head _) rfl ?_
  repeat (first | refine pu_not ?_ | refine pu_eql ?_ | refine pu_neq ?_ | refine pu_lss ?_ | refine pu_leq ?_ | refine pu_gtr ?_ | refine pu_geq ?_ | refine pu_add ?_ | refine pu_sub ?_ | refine pu_mul ?_ | refine pu_neg ?_ | refine fa_at ?_ | refine nl_ptr ?_ | refine ex20 ?_ | refine ex21 ?_ | refine ex30 ?_ | refine ex31 ?_ | refine ex32 ?_ | refine ln_rule ?_ | refine lnT_rule ?_ | refine pu_and ?_ | refine pu_or ?_ | refine pu_xor ?_ | refine pu_seq ?_ | refine pu_sne ?_)
  have e : aOp 8 a b = xorI .u32 a b := by simp [aOp]
  rw [← e]
  exact k _ h1.drop
theorem min32 {b : Int} (h0 : 0 ≤ b) : min (b % 32).toNat IntKind.u32.bits = (b % 32).toNat := by
  have : IntKind.u32.bits = 32 := rfl
  rw [this]; omega
theorem f9 : OpF B (fnv N.arith_does_9) 9 := by
  intro H K PK w a b ha hb h0 h k
  refine callV_fn arith_does_9.okf (arith_does_9.ok ?_)
  unfold arith_does_9.C
  refine al_rule h (l := [vU a, vU b]) rfl (fun p w1 h1 => ?_)
  refine ⟨fun w => Ow B w ((p, cel [vU a, vU b] T.t_arith_pair) :: H), h1.drew, ?_⟩
  repeat (first | refine pu_not ?_ | refine pu_eql ?_ | refine pu_neq ?_ | refine pu_lss ?_ | refine pu_leq ?_ | refine pu_gtr ?_ | refine pu_geq ?_ | refine pu_add ?_ | refine pu_sub ?_ | refine pu_mul ?_ | refine pu_neg ?_ | refine fa_at ?_ | refine nl_ptr ?_ | refine ex20 ?_ | refine ex21 ?_ | refine ex30 ?_ | refine ex31 ?_ | refine ex32 ?_ | refine ln_rule ?_ | refine lnT_rule ?_ | refine pu_and ?_ | refine pu_or ?_ | refine pu_xor ?_ | refine pu_seq ?_ | refine pu_sne ?_)
  refine lds_here (fun w h => h) (.head _) rfl ?_
  refine ldsn_here (fun w h => h) (.head _) (vs := [vU a, vU b]) rfl rfl ?_
  refine at_spec hb h1.drew (fun w2 h2 => ⟨h2, ?_⟩)
  refine pu_shl (by omega) ?_
  rw [wrapu32, min32 hb.1]
  exact k _ h2.drop
theorem f10 : OpF B (fnv N.arith_does_10) 10 := by
  intro H K PK w a b ha hb h0 h k
  refine callV_fn arith_does_10.okf (arith_does_10.ok ?_)
  unfold arith_does_10.C
  refine al_rule h (l := [vU a, vU b]) rfl (fun p w1 h1 => ?_)
  refine ⟨fun w => Ow B w ((p, cel [vU a, vU b] T.t_arith_pair) :: H), h1.drew, ?_⟩
  repeat (first | refine pu_not ?_ | refine pu_eql ?_ | refine pu_neq ?_ | refine pu_lss ?_ | refine pu_leq ?_ | refine pu_gtr ?_ | refine pu_geq ?_ | refine pu_add ?_ | refine pu_sub ?_ | refine pu_mul ?_ | refine pu_neg ?_ | refine fa_at ?_ | refine nl_ptr ?_ | refine ex20 ?_ | refine ex21 ?_ | refine ex30 ?_ | refine ex31 ?_ | refine ex32 ?_ | refine ln_rule ?_ | refine lnT_rule ?_ | refine pu_and ?_ | refine pu_or ?_ | refine pu_xor ?_ | refine pu_seq ?_ | refine pu_sne ?_)
  refine lds_here (fun w h => h) (.head _) rfl ?_
  refine ldsn_here (fun w h => h) (.head _) (vs := [vU a, vU b]) rfl rfl ?_
  refine at_spec hb h1.drew (fun w2 h2 => ⟨h2, ?_⟩)
  refine pu_shr (by omega) ?_
  rw [min32 hb.1]
  have : a.fdiv (2 ^ (b % 32).toNat) = a / 2 ^ (b % 32).toNat := Int.fdiv_eq_ediv_of_nonneg _ (by exact_mod_cast Nat.zero_le _)
  rw [this]
  exact k _ h2.drop
theorem f11 : OpF B (fnv N.arith_does_11) 11 := by
  intro H K PK w a b ha hb h0 h k
  refine callV_fn arith_does_11.okf (arith_does_11.ok ?_)
  unfold arith_does_11.C
  refine al_rule h (l := [vU a, vU b]) rfl (fun p w1 h1 => ?_)
  repeat (first | refine pu_not ?_ | refine pu_eql ?_ | refine pu_neq ?_ | refine pu_lss ?_ | refine pu_leq ?_ | refine pu_gtr ?_ | refine pu_geq ?_ | refine pu_add ?_ | refine pu_sub ?_ | refine pu_mul ?_ | refine pu_neg ?_ | refine fa_at ?_ | refine nl_ptr ?_ | refine ex20 ?_ | refine ex21 ?_ | refine ex30 ?_ | refine ex31 ?_ | refine ex32 ?_ | refine ln_rule ?_ | refine lnT_rule ?_ | refine pu_and ?_ | refine pu_or ?_ | refine pu_xor ?_ | refine pu_seq ?_ | refine pu_sne ?_)
  refine ld_here h1 (.head _) rfl ?_
  repeat (first | refine pu_not ?_ | refine pu_eql ?_ | refine pu_neq ?_ | refine pu_lss ?_ | refine pu_leq ?_ | refine pu_gtr ?_ | refine pu_geq ?_ | refine pu_add ?_ | refine pu_sub ?_ | refine pu_mul ?_ | refine pu_neg ?_ | refine fa_at ?_ | refine nl_ptr ?_ | refine ex20 ?_ | refine ex21 ?_ | refine ex30 ?_ | refine ex31 ?_ | refine ex32 ?_ | refine ln_rule ?_ | refine lnT_rule ?_ | refine pu_and ?_ | refine pu_or ?_ | refine pu_xor ?_ | refine pu_seq ?_ | refine pu_sne ?_)
  refine ld_here h1 (.head _) rfl ?_
  repeat (first | refine pu_not ?_ | refine pu_eql ?_ | refine pu_neq ?_ | refine pu_lss ?_ | refine pu_leq ?_ | refine pu_gtr ?_ | refine pu_geq ?_ | refine pu_add ?_ | refine pu_sub ?_ | refine pu_mul ?_ | refine pu_neg ?_ | refine fa_at ?_ | refine nl_ptr ?_ | refine ex20 ?_ | refine ex21 ?_ | refine ex30 ?_ | refine ex31 ?_ | refine ex32 ?_ | refine ln_rule ?_ | refine lnT_rule ?_ | refine pu_and ?_ | refine pu_or ?_ | refine pu_xor ?_ | refine pu_seq ?_ | refine pu_sne ?_)
  refine one_spec h1 (fun w2 h2 => ?_)
  have := k _ h2.drop
  simpa [aOp] using this
theorem f12 : OpF B (fnv N.arith_does_12) 12 := by
  intro H K PK w a b ha hb h0 h k
  refine callV_fn arith_does_12.okf (arith_does_12.ok ?_)
  unfold arith_does_12.C
  refine al_rule h (l := [vU a, vU b]) rfl (fun p w1 h1 => ?_)
  repeat (first | refine pu_not ?_ | refine pu_eql ?_ | refine pu_neq ?_ | refine pu_lss ?_ | refine pu_leq ?_ | refine pu_gtr ?_ | refine pu_geq ?_ | refine pu_add ?_ | refine pu_sub ?_ | refine pu_mul ?_ | refine pu_neg ?_ | refine fa_at ?_ | refine nl_ptr ?_ | refine ex20 ?_ | refine ex21 ?_ | refine ex30 ?_ | refine ex31 ?_ | refine ex32 ?_ | refine ln_rule ?_ | refine lnT_rule ?_ | refine pu_and ?_ | refine pu_or ?_ | refine pu_xor ?_ | refine pu_seq ?_ | refine pu_sne ?_)
  refine ld_here h1 (.head _) rfl ?_
  repeat (first | refine pu_not ?_ | refine pu_eql ?_ | refine pu_neq ?_ | refine pu_lss ?_ | refine pu_leq ?_ | refine pu_gtr ?_ | refine pu_geq ?_ | refine pu_add ?_ | refine pu_sub ?_ | refine pu_mul ?_ | refine pu_neg ?_ | refine fa_at ?_ | refine nl_ptr ?_ | refine ex20 ?_ | refine ex21 ?_ | refine ex30 ?_ | refine ex31 ?_ | refine ex32 ?_ | refine ln_rule ?_ | refine lnT_rule ?_ | refine pu_and ?_ | refine pu_or ?_ | refine pu_xor ?_ | refine pu_seq ?_ | refine pu_sne ?_)
  refine ld_here h1 (.head _) rfl ?_
  repeat (first | refine pu_not ?_ | refine pu_eql ?_ | refine pu_neq ?_ | refine pu_lss ?_ | refine pu_leq ?_ | refine pu_gtr ?_ | refine pu_geq ?_ | refine pu_add ?_ | refine pu_sub ?_ | refine pu_mul ?_ | refine pu_neg ?_ | refine fa_at ?_ | refine nl_ptr ?_ | refine ex20 ?_ | refine ex21 ?_ | refine ex30 ?_ | refine ex31 ?_ | refine ex32 ?_ | refine ln_rule ?_ | refine lnT_rule ?_ | refine pu_and ?_ | refine pu_or ?_ | refine pu_xor ?_ | refine pu_seq ?_ | refine pu_sne ?_)
  refine one_spec h1 (fun w2 h2 => ?_)
  have := k _ h2.drop
  simpa [aOp] using this
theorem does_at {k : Int} (hk : 1 ≤ k ∧ k ≤ 12) : ∃ f, lk doesL k = some f ∧ OpF B f k := by
  have : k = 1 ∨ k = 2 ∨ k = 3 ∨ k = 4 ∨ k = 5 ∨ k = 6 ∨ k = 7 ∨ k = 8 ∨ k = 9 ∨ k = 10 ∨ k = 11 ∨ k = 12 := by omega
  rcases this with rfl | rfl | rfl | rfl | rfl | rfl | rfl | rfl | rfl | rfl | rfl | rfl
  · exact ⟨_, rfl, f1⟩
  · exact ⟨_, rfl, f2⟩
  · exact ⟨_, rfl, f3⟩
  · exact ⟨_, rfl, f4⟩
  · exact ⟨_, rfl, f5⟩
  · exact ⟨_, rfl, f6⟩
  · exact ⟨_, rfl, f7⟩
  · exact ⟨_, rfl, f8⟩
  · exact ⟨_, rfl, f9⟩
  · exact ⟨_, rfl, f10⟩
  · exact ⟨_, rfl, f11⟩
  · exact ⟨_, rfl, f12⟩
theorem does_not {k : Int} (hk : k < 1 ∨ 12 < k) : lk doesL k = none := by
  have h : ∀ i : Int, 1 ≤ i → i ≤ 12 → decide (k = i) = false := fun i h1 h2 => by simp; omega
  simp [lk, doesL, h 1, h 2, h 3, h 4, h 5, h 6, h 7, h 8, h 9, h 10, h 11, h 12]
theorem pair_build {a b : Int} {K : Value → Prop} (k : K (.agg #[vU a, vU b])) : pu PG (Instr.build T.t_arith_pair #[(0, vU a), (1, vU b)]) K :=
  pu_build [vU a, vU b] (by kernel_rfl) k
theorem do_spec {i a b : Int} (ha : IsU a) (hb : IsU b) (h : Ow B w H) (k : ∀ w', Ow B w' H → K (.tuple #[vU (aDo i a b).1, vI (aDo i a b).2]) w') : callW PG N.arith_Do [vI i, vU a, vU b] K PK w := by
  refine arith_Do.ok ?_
  unfold arith_Do.C
  refine map_spec h (fun m w1 h1 => ?_)
  refine lk_rule h1 (.head _) und_does und_arith zo_does ?_
  repeat (first | refine pu_not ?_ | refine pu_eql ?_ | refine pu_neq ?_ | refine pu_lss ?_ | refine pu_leq ?_ | refine pu_gtr ?_ | refine pu_geq ?_ | refine pu_add ?_ | refine pu_sub ?_ | refine pu_mul ?_ | refine pu_neg ?_ | refine fa_at ?_ | refine nl_ptr ?_ | refine ex20 ?_ | refine ex21 ?_ | refine ex30 ?_ | refine ex31 ?_ | refine ex32 ?_ | refine ln_rule ?_ | refine lnT_rule ?_ | refine pu_and ?_ | refine pu_or ?_ | refine pu_xor ?_ | refine pu_seq ?_ | refine pu_sne ?_)
  by_cases hi : 1 ≤ i ∧ i ≤ 12
  · obtain ⟨f, hf, hs⟩ := does_at (B := B) hi
    rw [hf]
    refine cnd_f rfl ?_
    have e1 : ¬ (i < 1 ∨ 12 < i) := by omega
    have ok : ¬ (b = 0 ∧ (i = 4 ∨ i = 5)) → callV PG f [.agg #[vU a, vU b]] (fun t28 w29 => K (.tuple #[t28, (.int .i64 0)]) w29) PK w1 := fun hn => by
      refine hs _ _ _ _ a b ha hb (fun h4 hb => hn ⟨hb, h4⟩) h1 (fun w2 h2 => ?_)
      have := k w2 h2.drop
      simpa only [aDo, e1, hn, if_false] using this
    have bad : b = 0 ∧ (i = 4 ∨ i = 5) → K (.tuple #[vU 0, vI 150]) w1 := fun hn => by
      have := k w1 h1.drop
      simpa only [aDo, e1, hn, if_false, if_true, and_self] using this
    repeat (first | refine pu_not ?_ | refine pu_eql ?_ | refine pu_neq ?_ | refine pu_lss ?_ | refine pu_leq ?_ | refine pu_gtr ?_ | refine pu_geq ?_ | refine pu_add ?_ | refine pu_sub ?_ | refine pu_mul ?_ | refine pu_neg ?_ | refine fa_at ?_ | refine nl_ptr ?_ | refine ex20 ?_ | refine ex21 ?_ | refine ex30 ?_ | refine ex31 ?_ | refine ex32 ?_ | refine ln_rule ?_ | refine lnT_rule ?_ | refine pu_and ?_ | refine pu_or ?_ | refine pu_xor ?_ | refine pu_seq ?_ | refine pu_sne ?_)
    refine cnd (fun hb => ?_) (fun hb => ?_)
    · have hb : b = 0 := by simpa using hb
      repeat (first | refine pu_not ?_ | refine pu_eql ?_ | refine pu_neq ?_ | refine pu_lss ?_ | refine pu_leq ?_ | refine pu_gtr ?_ | refine pu_geq ?_ | refine pu_add ?_ | refine pu_sub ?_ | refine pu_mul ?_ | refine pu_neg ?_ | refine fa_at ?_ | refine nl_ptr ?_ | refine ex20 ?_ | refine ex21 ?_ | refine ex30 ?_ | refine ex31 ?_ | refine ex32 ?_ | refine ln_rule ?_ | refine lnT_rule ?_ | refine pu_and ?_ | refine pu_or ?_ | refine pu_xor ?_ | refine pu_seq ?_ | refine pu_sne ?_)
      refine cnd (fun h4 => bad ⟨hb, .inl (by simpa using h4)⟩) (fun h4 => ?_)
      repeat (first | refine pu_not ?_ | refine pu_eql ?_ | refine pu_neq ?_ | refine pu_lss ?_ | refine pu_leq ?_ | refine pu_gtr ?_ | refine pu_geq ?_ | refine pu_add ?_ | refine pu_sub ?_ | refine pu_mul ?_ | refine pu_neg ?_ | refine fa_at ?_ | refine nl_ptr ?_ | refine ex20 ?_ | refine ex21 ?_ | refine ex30 ?_ | refine ex31 ?_ | refine ex32 ?_ | refine ln_rule ?_ | refine lnT_rule ?_ | refine pu_and ?_ | refine pu_or ?_ | refine pu_xor ?_ | refine pu_seq ?_ | refine pu_sne ?_)
      refine cnd (fun h5 => bad ⟨hb, .inr (by simpa using h5)⟩) (fun h5 => ?_)
      refine pair_build (ok fun hn => ?_)
      simp at h4 h5; omega
    · have hb : ¬ b = 0 := by simpa using hb
      exact pair_build (ok fun hn => hb hn.1)
  · have hi : i < 1 ∨ 12 < i := by omega
    rw [does_not hi]
    refine cnd_t rfl ?_
    have := k w1 h1.drop
    simpa only [aDo, hi, if_true] using this
theorem w64 {a : Int} (h0 : 0 ≤ a) (h1 : a < 18446744073709551616) : IntKind.u64.wrap a = a := by rw [wrapu64]; exact Int.emod_eq_of_lt h0 h1
theorem w32 {a : Int} (h0 : 0 ≤ a) (h1 : a < 4294967296) : IntKind.u32.wrap a = a := by rw [wrapu32]; exact Int.emod_eq_of_lt h0 h1
theorem tme {a b : Int} (h : 0 ≤ a) : a.tmod b = a % b := Int.tmod_eq_emod_of_nonneg h
theorem shr_le {a : Int} (h : 0 ≤ a) (j : Nat) : 0 ≤ a / 2 ^ j ∧ a / 2 ^ j ≤ a :=
  ⟨Int.ediv_nonneg h (by exact_mod_cast Nat.zero_le _), Int.ediv_le_self _ h⟩

/-- A word as one with a sign. -/
def aSg (n : Int) : Int := if n < 2147483648 then n else n - 4294967296
theorem signed_spec {n : Int} (hn : IsU n) (h : Ow B w H) (k : ∀ w', Ow B w' H → K (vI (aSg n)) w') : callW PG N.arith_Signed [vU n] K PK w := by
  refine arith_Signed.ok ?_
  unfold arith_Signed.C
  refine pu_build [vU n, vU 0] (by kernel_rfl) ?_
  refine pt_at (v := vU n) rfl ?_
  refine arith_word_signed.ok ?_
  unfold arith_word_signed.C
  refine pu_cvt ⟨_, und_word⟩ und_i32 ?_
  refine pu_cvt ⟨_, und_i32⟩ und_i64 ?_
  have e : IntKind.i64.wrap (IntKind.i32.wrap n) = aSg n := by
    rw [wrapi32]
    unfold aSg
    have : n % 4294967296 = n := by omega
    rw [this]
    split <;> split <;> first | omega | (rw [wrap64_in (by omega) (by omega)])
  rw [e]
  exact k w h
theorem aOp_u {k a b : Int} (ha : IsU a) (hb : IsU b) (h : k = 4 ∨ k = 5 → b ≠ 0) : IsU (aOp k a b) := by
  unfold aOp
  by_cases h1 : k = 1
  · simp only [h1, if_true]; constructor <;> omega
  by_cases h2 : k = 2
  · simp only [h2, if_true]; constructor <;> simp <;> omega
  by_cases h3 : k = 3
  · simp only [h3, if_true]; constructor <;> simp <;> omega
  by_cases h4 : k = 4
  · have h5 : 0 ≤ a / b := Int.ediv_nonneg ha.1 hb.1
    have h6 : a / b ≤ a := Int.ediv_le_self _ ha.1
    simp only [h4, if_true, Int.tdiv_eq_ediv_of_nonneg ha.1]; constructor <;> simp <;> omega
  by_cases h5 : k = 5
  · have hb0 : b ≠ 0 := h (.inr h5)
    have h7 : 0 ≤ a % b := Int.emod_nonneg _ hb0
    have h6 : a % b < b := Int.emod_lt_of_pos _ (by omega)
    simp only [h5, if_true, tme ha.1]; constructor <;> simp <;> omega
  by_cases h6 : k = 6
  · simp only [h6, if_true, andI, wrapu32]; constructor <;> simp <;> omega
  by_cases h7 : k = 7
  · simp only [h7, if_true, orI, wrapu32]; constructor <;> simp <;> omega
  by_cases h8 : k = 8
  · simp only [h8, if_true, xorI, wrapu32]; constructor <;> simp <;> omega
  by_cases h9 : k = 9
  · simp only [h9, if_true]; constructor <;> simp <;> omega
  by_cases h10 : k = 10
  · have := shr_le ha.1 (b % 32).toNat
    simp only [h10, if_true]; constructor <;> simp <;> omega
  simp only [h1, h2, h3, h4, h5, h6, h7, h8, h9, h10, if_false]
  split <;> split <;> constructor <;> omega
theorem aDo_u {k a b : Int} (ha : IsU a) (hb : IsU b) : IsU (aDo k a b).1 := by
  unfold aDo
  split
  · exact ⟨by decide, by decide⟩
  · split
    · exact ⟨by decide, by decide⟩
    · rename_i h1 h2
      exact aOp_u ha hb (fun h4 hb => h2 ⟨hb, h4⟩)
theorem aDo_e {k a b : Int} : (aDo k a b).2 = 0 ∨ (aDo k a b).2 = 2 ∨ (aDo k a b).2 = 150 := by
  unfold aDo
  split
  · simp
  · split <;> simp

end
end Go.Proofs.YtkkkcafkepnecaaGreat.Ar

/-! Stacks: copy, frames, the slice of frames. -/
set_option linter.unusedVariables false
set_option linter.unusedSimpArgs false
namespace Go.Proofs.YtkkkcafkepnecaaGreat.Vc
open Go Go.RowKit
section
variable {P : Program} {B w : World} {KW : Value → World → Prop} {t e ty : TypeId} {H : Hp}
theorem Sl.cap {s : Value} {xs : List Value} (hs : Sl H s xs) : ∃ a c, s = .slice a xs.length c ∧ xs.length ≤ c := by
  obtain ⟨a, c, he, hc, _⟩ := hs
  exact ⟨a, c, he, hc⟩
theorem app_zero {a : Addr} {b : Option Addr} {n c c' : Nat} {i : TypeInfo} (ht : P.underlying t = some (.slice e)) (hi : P.info? e = some i) (hn : n ≤ c) (w : World) :
    (Builtin.append_ #[t, t] ty #[.slice (some a) n c, .slice b 0 c']).run P w = .ok (.slice (some a) n c) w := by
  cases b <;> simp [Builtin.append_, run_underlying ht, sizeOf, typeInfo, hi, Builtin.lenOf, Builtin.firstCells, loadCells, loadCellsFrom, hn, storeCells]
/-- copy, of cells, into a row from its beginning. -/
theorem cp_rule {A C H' : Hp} {g n cap : Nat} {l ys : List Value} {x : Value} (h : Ow B w (A ++ (g, cel l e) :: C)) (hs : Sl H' x ys) (hH : ∀ y, y ∈ H' → y ∈ A ++ (g, cel l e) :: C) (hn : ys.length ≤ n) (hl : n ≤ l.length)
    (hp : ∀ v ∈ ys, v.oneCell' = true) (ht : P.underlying t = some (.slice e)) (hi : (P.info? e).map (·.size) = some 1)
    (k : ∀ r w', Ow B w' (A ++ (g, cel (ys ++ l.drop ys.length) e) :: C) → KW r w') : opW P (Builtin.copy_ #[t, t] ty #[.slice (some ⟨g, 0, none⟩) n cap, x]) KW w := by
  obtain ⟨a, c, rfl, hc, hx⟩ := hs
  have hg := h.mem g _ (List.mem_append_right _ (.head _))
  cases a with
  | none =>
    have : ys = [] := by
      cases ys with
      | nil => rfl
      | cons y ys => obtain ⟨p, hp, _⟩ := hx 0 y rfl; cases hp
    subst this
    exact ⟨_, _, run_copy_none (P := P) w t t ty e _ none n cap 0 c ht hi (by simp), k _ _ (by simpa using h)⟩
  | some a =>
    have hr := run_copy_row (P := P) w t t ty e g 0 n cap a ys.length c l.toArray e ys ht hi hg (Nat.min_eq_left hn).symm
      (fun j v hj => by obtain ⟨p, hp, hcell⟩ := hx j v hj; cases hp; exact h.cell (hcell.mono hH)) (by simp; omega) hp
    refine ⟨_, _, hr, k _ _ ?_⟩
    have := setRow_ow (l' := ys ++ l.drop ys.length) h
    simpa using this
/-- A slice of rows of size cells: a row of its own, or a full part of one. -/
def Fro (e : TypeId) (size : Nat) (S : Hp) (v : Value) (rows : List (List Value)) : Prop :=
  (∀ x ∈ rows, x.length = size) ∧ (Own S e size v rows.length rows.flatten ∨ ∃ g l, v = .slice (some ⟨g, 0, none⟩) rows.length rows.length ∧ S = [(g, cel l e)] ∧ rows.length ≤ maxLen ∧ rows.length * size ≤ l.length ∧ l.take (rows.length * size) = rows.flatten)
variable {S : Hp} {v : Value} {rows : List (List Value)} {size : Nat}
theorem Fro.len (h : Fro e size S v rows) : ∃ a c, v = .slice a rows.length c ∧ rows.length ≤ c ∧ c ≤ maxLen := by
  obtain ⟨h0, ⟨hl, ⟨rfl, rfl, hn⟩ | ⟨g, cap, l, rfl, rfl, hc, hm, hlen, hx⟩⟩ | ⟨g, l, rfl, _, hm, _⟩⟩ := h
  · exact ⟨none, 0, by rw [hn], by omega, Nat.zero_le _⟩
  · exact ⟨_, _, rfl, hc, hm⟩
  · exact ⟨_, _, rfl, Nat.le_refl _, hm⟩
theorem Fro.max (h : Fro e size S v rows) : rows.length ≤ maxLen := by
  obtain ⟨h0, ho | ⟨g, l, rfl, _, hm, _⟩⟩ := h
  · exact ho.max
  · exact hm
theorem flatten_lenS : ∀ {rows : List (List Value)}, (∀ x ∈ rows, x.length = size) → rows.flatten.length = rows.length * size
  | [], _ => by simp
  | x :: rows, h => by
    rw [List.flatten_cons, List.length_append, h x (.head _), flatten_lenS fun y hy => h y (.tail _ hy), List.length_cons, Nat.add_mul, Nat.one_mul]
    omega
/-- The cells of a slice that is not empty. -/
theorem Fro.cells (h : Fro e size S v rows) (hr : rows ≠ []) : ∃ g l cap, v = .slice (some ⟨g, 0, none⟩) rows.length cap ∧ S = [(g, cel (rows.flatten ++ l) e)] ∧ rows.length ≤ cap ∧ cap ≤ maxLen ∧ ∀ rows' : List (List Value), rows'.length = rows.length → (∀ x ∈ rows', x.length = size) → Fro e size [(g, cel (rows'.flatten ++ l) e)] v rows' := by
  obtain ⟨h0, ⟨hl, ⟨rfl, rfl, hn⟩ | ⟨g, cap, l, rfl, rfl, hc, hm, hlen, hx⟩⟩ | ⟨g, l, rfl, rfl, hm, hlen, hx⟩⟩ := h
  · exact absurd (List.eq_nil_of_length_eq_zero hn) hr
  · refine ⟨g, l.drop (rows.length * size), cap, rfl, by rw [← hx, List.take_append_drop], hc, hm, fun rows' e1 e2 => ?_⟩
    have hf := flatten_lenS e2
    rw [← e1]
    have hcs : rows.length * size ≤ cap * size := Nat.mul_le_mul_right _ hc
    refine ⟨e2, .inl (Own.mk (by omega) hm (by rw [List.length_append, List.length_drop, hf, e1, hlen]; omega) ?_)⟩
    exact List.take_left' hf
  · refine ⟨g, l.drop (rows.length * size), rows.length, rfl, by rw [← hx, List.take_append_drop], Nat.le_refl _, hm, fun rows' e1 e2 => ?_⟩
    have hf := flatten_lenS e2
    rw [← e1]
    refine ⟨e2, .inr ⟨g, _, rfl, rfl, by omega, by rw [List.length_append, hf]; omega, List.take_left' hf⟩⟩
theorem Fro.sls (h : Fro e size S v rows) : Sls S v size rows := by
  have hmax := h.max
  by_cases hr : rows = []
  · subst hr
    obtain ⟨a, c, rfl, _, hc⟩ := h.len
    exact ⟨a, c, rfl, Nat.zero_le _, hc, by simp, by simp⟩
  · have h0 := h.1
    obtain ⟨g, l, cap, rfl, rfl, hc, hcm, _⟩ := h.cells hr
    refine ⟨some ⟨g, 0, none⟩, cap, rfl, hc, hcm, h0, fun i x hi => ⟨_, rfl, fun j y hj => ?_⟩⟩
    rw [add_mk]
    refine cell_here (.head _) ?_
    rw [Nat.zero_add]
    have hlt := (List.getElem?_eq_some_iff.1 hi).1
    have := flatten_at hj rows i h0 hi
    rw [List.getElem?_append_left (List.getElem?_eq_some_iff.1 this).1]
    exact this
/-- The last row. -/
theorem Fro.top {r : List Value} (h : Fro e size S v (rows ++ [r])) : ∃ g pre post cap, v = .slice (some ⟨g, 0, none⟩) (rows.length + 1) cap ∧ S = [(g, cel (pre ++ (r ++ post)) e)] ∧ pre.length = rows.length * size ∧
    ∀ r', r'.length = size → Fro e size [(g, cel (pre ++ (r' ++ post)) e)] v (rows ++ [r']) := by
  have h0 := h.1
  obtain ⟨g, l, cap, e1, e2, hc, _, hw⟩ := h.cells (by simp)
  refine ⟨g, rows.flatten, l, cap, by simpa using e1, by simpa using e2, flatten_lenS fun x hx => h0 x (List.mem_append_left _ hx), fun r' hr' => ?_⟩
  have := hw (rows ++ [r']) (by simp) (fun x hx => (List.mem_append.1 hx).elim (fun hx => h0 x (List.mem_append_left _ hx)) fun hx => by rw [List.mem_singleton.1 hx]; exact hr')
  simpa using this
/-- All but the last row; the capacity is cut, too. -/
theorem Fro.pop {r : List Value} (h : Fro e size S v (rows ++ [r])) : ∃ a c, v = .slice a (rows.length + 1) c ∧ rows.length ≤ c ∧ Fro e size S (Vc.cut v 0 rows.length rows.length) rows := by
  have h0 := h.1
  obtain ⟨g, l, cap, rfl, rfl, hc, _, hw⟩ := h.cells (by simp)
  have hf := flatten_lenS (rows := rows) fun x hx => h0 x (List.mem_append_left _ hx)
  have hm := h.max
  simp only [List.length_append, List.length_singleton] at hc hm ⊢
  refine ⟨_, _, rfl, by omega, fun x hx => h0 x (List.mem_append_left _ hx), .inr ⟨g, _, ?_, rfl, by omega, ?_, ?_⟩⟩
  · simp only [Vc.cut, Nat.sub_zero]
    split
    · rfl
    · simp [Addr.add]
  · simp [hf]
  · rw [List.flatten_append, List.append_assoc]
    exact List.take_left' hf
/-- append of a row. -/
theorem Fro.app {A C H' : Hp} {x z : Value} {bytes : Nat} {r : List Value} (h : Ow B w (A ++ S ++ C)) (hr : Fro e size S v rows) (hs : Src H' x 1 size r) (hH : ∀ y, y ∈ H' → y ∈ A ++ S ++ C)
    (hp : r.all plainV = true) (ht : P.underlying t = some (.slice e)) (hi : (P.info? e).map (fun i => (i.zero, i.size, i.bytes)) = some (some z, size, bytes)) (hz : z.cells.size = size) (hsz : 0 < size) (h63 : rows.length + 1 ≤ 1000000) (hb : bytes ≤ 1000)
    (k : ∀ S' v' w', Ow B w' (A ++ S' ++ C) → Fro e size S' v' (rows ++ [r]) → KW v' w') : opW P (Builtin.append_ #[t, t] ty #[v, x]) KW w := by
  obtain ⟨i, i1, i2, i3, i4⟩ := info_of hi
  obtain ⟨hrl, a, c, hx, hcell⟩ := id hs
  have hr1 : r.length = size := by omega
  have two : ∀ x ∈ rows ++ [r], x.length = size := fun x hx => (List.mem_append.1 hx).elim (hr.1 x) fun hx => by rw [List.mem_singleton.1 hx]; exact hr1
  have hbb : (rows.length + 1) * bytes ≤ 140737488355328 := Nat.le_trans (Nat.mul_le_mul h63 hb) (by omega)
  have hml : rows.length + 1 ≤ maxLen := by simp only [maxLen]; omega
  obtain ⟨h0, ho | ⟨g, l, rfl, rfl, hm, hlen, hxl⟩⟩ := hr
  · refine app_rule h ho hs hH hp ht i1 i2 i3 i4 hz hsz hml hbb (fun S' v' w' h' ho' => k S' v' w' h' ⟨two, .inl ?_⟩)
    have e1 : (rows ++ [r]).length = rows.length + 1 := by simp
    have e2 : (rows ++ [r]).flatten = rows.flatten ++ r := by simp
    rw [e1, e2]; exact ho'
  · cases a with
    | none =>
      cases r with
      | nil => simp at hr1; omega
      | cons y r => obtain ⟨p, hp, _⟩ := hcell 0 y rfl; cases hp
    | some b =>
      subst hx
      have hf := flatten_lenS h0
      have hold : ∀ (j : Nat) u, rows.flatten[j]? = some u → w.cell? ((⟨g, 0, none⟩ : Addr).add j) = some u := fun j u hj => by
        rw [add_mk]
        refine h.cell (cell_here (l := l) (e := e) (List.mem_append_left _ (List.mem_append_right _ (.head _))) ?_)
        rw [Nat.zero_add]
        have hlt := (List.getElem?_eq_some_iff.1 hj).1
        rw [← hxl, List.getElem?_take] at hj
        split at hj
        · exact hj
        · cases hj
      have hr := run_append_grow (P := P) w t ty e i z ht i1 i2 ⟨g, 0, none⟩ rows.length rows.length rows.flatten (by rw [i3]; exact hf) hold b 1 c r (by rw [i3]; omega)
        (fun j u hj => by obtain ⟨p, hp, hcell⟩ := hcell j u hj; cases hp; exact h.cell (hcell.mono hH)) (by omega) (by simp only [maxLen] at hml; omega) (growslice_fits (by omega) (by rw [i4]; exact hbb))
      refine ⟨_, _, hr, ?_⟩
      have hge := grownCap_ge w (rows.length + 1) rows.length e
      have hcm : grownCap w (rows.length + 1) rows.length e ≤ maxLen := grownCap_le_maxLen w (rows.length + 1) rows.length e hml
      generalize grownCap w (rows.length + 1) rows.length e = cap' at *
      have he : rows.flatten.toArray ++ r.toArray ++ Builtin.zeroCells z.cells (cap' - (rows.length + 1)) = (rows.flatten ++ r ++ (Builtin.zeroCells z.cells (cap' - (rows.length + 1))).toList).toArray := by simp
      rw [he]
      refine k [(w.heap.size, cel (rows.flatten ++ r ++ (Builtin.zeroCells z.cells (cap' - (rows.length + 1))).toList) e)] _ _ ?_ ⟨two, .inl ?_⟩
      · have h5 := (h.drew.alloc (cel (rows.flatten ++ r ++ (Builtin.zeroCells z.cells (cap' - (rows.length + 1))).toList) e))
        have h6 : Ow B _ ((w.drew.heap.size, cel (rows.flatten ++ r ++ (Builtin.zeroCells z.cells (cap' - (rows.length + 1))).toList) e) :: (A ++ C)) := h5.sub (.cons_cons _ (by rw [List.append_assoc]; exact (List.Sublist.refl A).append (.cons _ (.refl _))))
        have h7 := h6.perm (List.perm_middle (l₁ := A) (l₂ := C)).symm
        simpa using h7
      · have e1 : (rows ++ [r]).length = rows.length + 1 := by simp
        have e2 : (rows ++ [r]).flatten = rows.flatten ++ r := by simp
        rw [e1, e2]
        refine Own.mk hge hcm ?_ ?_
        · have : (Builtin.zeroCells z.cells (cap' - (rows.length + 1))).toList.length = (cap' - (rows.length + 1)) * size := by simp [Builtin.zeroCells, hz]
          rw [List.length_append, List.length_append, this, hf, hr1, ← Nat.succ_mul, ← Nat.add_mul]
          congr 1
          omega
        · refine List.take_left' ?_
          rw [List.length_append, hf, hr1, ← Nat.succ_mul]
end
end Go.Proofs.YtkkkcafkepnecaaGreat.Vc

/-! Stacks: what is told of them; frames that are entered. -/
set_option linter.unusedVariables false
set_option linter.unusedSimpArgs false
namespace Go.Proofs.YtkkkcafkepnecaaGreat
open Go Go.RowKit Vc Ar
attribute [local irreducible] binV Op.unary convert nlW faW ldS ldW ixS ixA ixV ixT exW lnS lnT pu stW alW opW opU bsW mkW

section
variable {B w : World} {H X F : Hp} {K : Value → World → Prop} {PK : List PanicEntry → World → Prop} {KK : Value → Prop} {e : Int} {b n cap g : Nat} {l lf : List Value}
theorem must_t (k : K (.tuple #[]) w) : callW PG N.stack_must [vB true, vI e] K PK w := by
  refine stack_must.ok ?_
  unfold stack_must.C
  refine pu_not (cnd_f rfl k)
theorem must_f (k : PK (pan e) w) : callW PG N.stack_must [vB false, vI e] K PK w := by
  refine stack_must.ok ?_
  unfold stack_must.C
  refine pu_not (cnd_t rfl k)
theorem must_b {c : Bool} (kt : c = true → K (.tuple #[]) w) (kf : c = false → PK (pan e) w) : callW PG N.stack_must [vB c, vI e] K PK w := by
  cases c
  · exact must_f (kf rfl)
  · exact must_t (kt rfl)
theorem und_ptr : PG.underlying T.t_ptr_stack_Stack = some (.pointer T.t_stack_Stack) := by kernel_rfl
theorem none_nil (k : K (vB true) w) : callW PG N.stack_Stack_none [.pointer none] K PK w := by
  refine stack_Stack_none.ok ?_
  unfold stack_Stack_none.C
  exact pu_pnil und_ptr (cnd_t rfl k)
abbrev stO (l : List Value) : Obj := cel l T.t_stack_Stack
theorem none_at {m : Bool} (h : Ow B w H) (hm : (b, stO l) ∈ H) (h6 : l[6]? = some (vB m)) (k : K (vB !m) w) : callW PG N.stack_Stack_none [ptr b] K PK w := by
  refine stack_Stack_none.ok ?_
  unfold stack_Stack_none.C
  refine pu_pnil und_ptr (cnd_f rfl ?_)
  repeat (first | refine pu_not ?_ | refine pu_eql ?_ | refine pu_neq ?_ | refine pu_lss ?_ | refine pu_leq ?_ | refine pu_gtr ?_ | refine pu_geq ?_ | refine pu_add ?_ | refine pu_sub ?_ | refine pu_mul ?_ | refine pu_neg ?_ | refine fa_at ?_ | refine nl_ptr ?_ | refine ex20 ?_ | refine ex21 ?_ | refine ex30 ?_ | refine ex31 ?_ | refine ex32 ?_ | refine ln_rule ?_ | refine lnT_rule ?_ | refine pu_and ?_ | refine pu_or ?_ | refine pu_xor ?_ | refine pu_seq ?_ | refine pu_sne ?_)
  refine ld_here h hm h6 ?_
  repeat (first | refine pu_not ?_ | refine pu_eql ?_ | refine pu_neq ?_ | refine pu_lss ?_ | refine pu_leq ?_ | refine pu_gtr ?_ | refine pu_geq ?_ | refine pu_add ?_ | refine pu_sub ?_ | refine pu_mul ?_ | refine pu_neg ?_ | refine fa_at ?_ | refine nl_ptr ?_ | refine ex20 ?_ | refine ex21 ?_ | refine ex30 ?_ | refine ex31 ?_ | refine ex32 ?_ | refine ln_rule ?_ | refine lnT_rule ?_ | refine pu_and ?_ | refine pu_or ?_ | refine pu_xor ?_ | refine pu_seq ?_ | refine pu_sne ?_)
  exact k
/-- A stack that is none: nil, or one that New has not made. -/
def Nost (H : Hp) (s : Value) : Prop := s = .pointer none ∨ ∃ b l, s = ptr b ∧ (b, stO l) ∈ H ∧ l[6]? = some (vB false)
theorem nost_spec {s : Value} (h : Ow B w H) (hs : Nost H s) (k : K (vB true) w) : callW PG N.stack_Stack_none [s] K PK w := by
  rcases hs with rfl | ⟨b, l, rfl, hm, h6⟩
  · exact none_nil k
  · exact none_at h hm h6 k
theorem top_none {s : Value} (h : Ow B w H) (hs : Nost H s) (k : PK (pan 1) w) : callW PG N.stack_Stack_top [s] K PK w := by
  refine stack_Stack_top.ok ?_
  unfold stack_Stack_top.C
  refine nost_spec h hs ?_
  repeat (first | refine pu_not ?_ | refine pu_eql ?_ | refine pu_neq ?_ | refine pu_lss ?_ | refine pu_leq ?_ | refine pu_gtr ?_ | refine pu_geq ?_ | refine pu_add ?_ | refine pu_sub ?_ | refine pu_mul ?_ | refine pu_neg ?_ | refine fa_at ?_ | refine nl_ptr ?_ | refine ex20 ?_ | refine ex21 ?_ | refine ex30 ?_ | refine ex31 ?_ | refine ex32 ?_ | refine ln_rule ?_ | refine lnT_rule ?_ | refine pu_and ?_ | refine pu_or ?_ | refine pu_xor ?_ | refine pu_seq ?_ | refine pu_sne ?_)
  exact must_f k
theorem top_end {a : Option Addr} {c : Nat} (h : Ow B w H) (hm : (b, stO l) ∈ H) (h6 : l[6]? = some (vB true)) (h4 : l[4]? = some (.slice a 0 c)) (k : PK (pan 220) w) : callW PG N.stack_Stack_top [ptr b] K PK w := by
  refine stack_Stack_top.ok ?_
  unfold stack_Stack_top.C
  refine none_at h hm h6 ?_
  repeat (first | refine pu_not ?_ | refine pu_eql ?_ | refine pu_neq ?_ | refine pu_lss ?_ | refine pu_leq ?_ | refine pu_gtr ?_ | refine pu_geq ?_ | refine pu_add ?_ | refine pu_sub ?_ | refine pu_mul ?_ | refine pu_neg ?_ | refine fa_at ?_ | refine nl_ptr ?_ | refine ex20 ?_ | refine ex21 ?_ | refine ex30 ?_ | refine ex31 ?_ | refine ex32 ?_ | refine ln_rule ?_ | refine lnT_rule ?_ | refine pu_and ?_ | refine pu_or ?_ | refine pu_xor ?_ | refine pu_seq ?_ | refine pu_sne ?_)
  refine must_t ?_
  repeat (first | refine pu_not ?_ | refine pu_eql ?_ | refine pu_neq ?_ | refine pu_lss ?_ | refine pu_leq ?_ | refine pu_gtr ?_ | refine pu_geq ?_ | refine pu_add ?_ | refine pu_sub ?_ | refine pu_mul ?_ | refine pu_neg ?_ | refine fa_at ?_ | refine nl_ptr ?_ | refine ex20 ?_ | refine ex21 ?_ | refine ex30 ?_ | refine ex31 ?_ | refine ex32 ?_ | refine ln_rule ?_ | refine lnT_rule ?_ | refine pu_and ?_ | refine pu_or ?_ | refine pu_xor ?_ | refine pu_seq ?_ | refine pu_sne ?_)
  refine ld_here h hm h4 ?_
  repeat (first | refine pu_not ?_ | refine pu_eql ?_ | refine pu_neq ?_ | refine pu_lss ?_ | refine pu_leq ?_ | refine pu_gtr ?_ | refine pu_geq ?_ | refine pu_add ?_ | refine pu_sub ?_ | refine pu_mul ?_ | refine pu_neg ?_ | refine fa_at ?_ | refine nl_ptr ?_ | refine ex20 ?_ | refine ex21 ?_ | refine ex30 ?_ | refine ex31 ?_ | refine ex32 ?_ | refine ln_rule ?_ | refine lnT_rule ?_ | refine pu_and ?_ | refine pu_or ?_ | refine pu_xor ?_ | refine pu_seq ?_ | refine pu_sne ?_)
  exact must_f k
theorem top_at (h : Ow B w H) (hm : (b, stO l) ∈ H) (h6 : l[6]? = some (vB true)) (h4 : l[4]? = some (.slice (some ⟨g, 0, none⟩) (n + 1) cap)) (hn : n < 1000000) (k : ∀ w', Ow B w' H → K (ptr g (n * 4)) w') : callW PG N.stack_Stack_top [ptr b] K PK w := by
  refine stack_Stack_top.ok ?_
  unfold stack_Stack_top.C
  refine none_at h hm h6 ?_
  repeat (first | refine pu_not ?_ | refine pu_eql ?_ | refine pu_neq ?_ | refine pu_lss ?_ | refine pu_leq ?_ | refine pu_gtr ?_ | refine pu_geq ?_ | refine pu_add ?_ | refine pu_sub ?_ | refine pu_mul ?_ | refine pu_neg ?_ | refine fa_at ?_ | refine nl_ptr ?_ | refine ex20 ?_ | refine ex21 ?_ | refine ex30 ?_ | refine ex31 ?_ | refine ex32 ?_ | refine ln_rule ?_ | refine lnT_rule ?_ | refine pu_and ?_ | refine pu_or ?_ | refine pu_xor ?_ | refine pu_seq ?_ | refine pu_sne ?_)
  refine must_t ?_
  repeat (first | refine pu_not ?_ | refine pu_eql ?_ | refine pu_neq ?_ | refine pu_lss ?_ | refine pu_leq ?_ | refine pu_gtr ?_ | refine pu_geq ?_ | refine pu_add ?_ | refine pu_sub ?_ | refine pu_mul ?_ | refine pu_neg ?_ | refine fa_at ?_ | refine nl_ptr ?_ | refine ex20 ?_ | refine ex21 ?_ | refine ex30 ?_ | refine ex31 ?_ | refine ex32 ?_ | refine ln_rule ?_ | refine lnT_rule ?_ | refine pu_and ?_ | refine pu_or ?_ | refine pu_xor ?_ | refine pu_seq ?_ | refine pu_sne ?_)
  refine ld_here h hm h4 ?_
  repeat (first | refine pu_not ?_ | refine pu_eql ?_ | refine pu_neq ?_ | refine pu_lss ?_ | refine pu_leq ?_ | refine pu_gtr ?_ | refine pu_geq ?_ | refine pu_add ?_ | refine pu_sub ?_ | refine pu_mul ?_ | refine pu_neg ?_ | refine fa_at ?_ | refine nl_ptr ?_ | refine ex20 ?_ | refine ex21 ?_ | refine ex30 ?_ | refine ex31 ?_ | refine ex32 ?_ | refine ln_rule ?_ | refine lnT_rule ?_ | refine pu_and ?_ | refine pu_or ?_ | refine pu_xor ?_ | refine pu_seq ?_ | refine pu_sne ?_)
  have e1 : decide (((n + 1 : Nat) : Int) > 0) = true := by simp
  rw [e1]
  refine must_t ?_
  refine ⟨fun w => Ow B w H, h.drew, ?_⟩
  repeat (first | refine pu_not ?_ | refine pu_eql ?_ | refine pu_neq ?_ | refine pu_lss ?_ | refine pu_leq ?_ | refine pu_gtr ?_ | refine pu_geq ?_ | refine pu_add ?_ | refine pu_sub ?_ | refine pu_mul ?_ | refine pu_neg ?_ | refine fa_at ?_ | refine nl_ptr ?_ | refine ex20 ?_ | refine ex21 ?_ | refine ex30 ?_ | refine ex31 ?_ | refine ex32 ?_ | refine ln_rule ?_ | refine lnT_rule ?_ | refine pu_and ?_ | refine pu_or ?_ | refine pu_xor ?_ | refine pu_seq ?_ | refine pu_sne ?_)
  refine lds_here (fun w h => h) hm h4 ?_
  repeat (first | refine pu_not ?_ | refine pu_eql ?_ | refine pu_neq ?_ | refine pu_lss ?_ | refine pu_leq ?_ | refine pu_gtr ?_ | refine pu_geq ?_ | refine pu_add ?_ | refine pu_sub ?_ | refine pu_mul ?_ | refine pu_neg ?_ | refine fa_at ?_ | refine nl_ptr ?_ | refine ex20 ?_ | refine ex21 ?_ | refine ex30 ?_ | refine ex31 ?_ | refine ex32 ?_ | refine ln_rule ?_ | refine lnT_rule ?_ | refine pu_and ?_ | refine pu_or ?_ | refine pu_xor ?_ | refine pu_seq ?_ | refine pu_sne ?_)
  refine lds_here (fun w h => h) hm h4 ?_
  repeat (first | refine pu_not ?_ | refine pu_eql ?_ | refine pu_neq ?_ | refine pu_lss ?_ | refine pu_leq ?_ | refine pu_gtr ?_ | refine pu_geq ?_ | refine pu_add ?_ | refine pu_sub ?_ | refine pu_mul ?_ | refine pu_neg ?_ | refine fa_at ?_ | refine nl_ptr ?_ | refine ex20 ?_ | refine ex21 ?_ | refine ex30 ?_ | refine ex31 ?_ | refine ex32 ?_ | refine ln_rule ?_ | refine lnT_rule ?_ | refine pu_and ?_ | refine pu_or ?_ | refine pu_xor ?_ | refine pu_seq ?_ | refine pu_sne ?_)
  have e2 : IntKind.i64.wrap (((n + 1 : Nat) : Int) - 1) = (n : Int) := by rw [wrap64_in (by omega) (by omega)]; omega
  rw [e2]
  refine ixS_at (by omega) (by omega) ?_
  rw [Int.toNat_natCast, Nat.zero_add]
  exact k _ h.drew
/-! ### Frames -/
structure Frm where
  fn : Nat
  pc : Nat
  dest : Nat
  regs : List Int
deriving DecidableEq
abbrev rgs (l : List Int) : List Value := l.map vU
structure FE where
  S : Hp
  c : Value
  m : Frm
def FE.ok (e : FE) : Prop := Vc.Own e.S T.t_uint32 1 e.c e.m.regs.length (rgs e.m.regs)
def frow (m : Frm) (c : Value) : List Value := [vI m.fn, vI m.pc, vI m.dest, c]
def FE.row (e : FE) : List Value := frow e.m e.c
/-- The rows of frames, the top first; in memory the top is last. -/
def frw (es : List FE) : List (List Value) := (es.map FE.row).reverse
def ffoot (es : List FE) : Hp := es.flatMap FE.S
theorem frw_cons (t : FE) (lo : List FE) : frw (t :: lo) = frw lo ++ [t.row] := by simp [frw]
theorem frw_len (es : List FE) : (frw es).length = es.length := by simp [frw]
theorem und_slfrm : PG.underlying T.t_sl_api_Frame = some (.slice T.t_api_Frame) := by kernel_rfl
theorem und_slu : PG.underlying T.t_sl_uint32 = some (.slice T.t_uint32) := by kernel_rfl
theorem info_u : (PG.info? T.t_uint32).map (fun i => (i.zero, i.size, i.bytes)) = some (some (vU 0), 1, 4) := by kernel_rfl
theorem info_frm : (PG.info? T.t_api_Frame).map (fun i => (i.zero, i.size, i.bytes)) = some (some (.agg #[vI 0, vI 0, vI 0, .slice none 0 0]), 4, 48) := by kernel_rfl
theorem size_u : (PG.info? T.t_uint32).map (·.size) = some 1 := by kernel_rfl
abbrev zfrm : List Value := [vI 0, vI 0, vI 0, .slice none 0 0]
/-- Words, then zeros. -/
def padd (ws : List Int) (n : Nat) : List Int := ws ++ List.replicate (n - ws.length) 0
theorem padd_len {ws : List Int} {n : Nat} (h : ws.length ≤ n) : (padd ws n).length = n := by simp [padd]; omega
theorem rgs_plain (l : List Int) : (rgs l).all plainV = true := by simp [rgs, plainV]
theorem entered_spec {f regs dest : Nat} {a : Value} {ws : List Int} (h : Ow B w H) (hs : Sl X a (rgs ws)) (hX : ∀ x, x ∈ X → x ∈ H) (hl : ws.length ≤ regs) (hr : regs ≤ 1000) (k : ∀ S c w', Ow B w' (S ++ H) → Vc.Own S T.t_uint32 1 c regs (rgs (padd ws regs)) → K (.agg #[vI f, vI 0, vI dest, c]) w') :
    callW PG N.stack_entered [vI f, vI regs, vI dest, a] K PK w := by
  refine stack_entered.ok ?_
  unfold stack_entered.C
  refine al_rule h (l := zfrm) (by kernel_rfl) (fun bf w1 h1 => ?_)
  refine mkW_rule h1 (z := vU 0) (by kernel_rfl) (n := regs) (m := regs) rfl rfl (Nat.le_refl _) (by omega) (by omega) (fun g w2 h2 => ?_)
  have hz : (List.range (regs * 1)).map ((vU 0).cells[· % (vU 0).cells.size]!) = List.replicate regs (vU 0) := zeros_one rfl regs
  rw [hz] at h2
  refine cp_rule (A := []) h2 hs (fun x hx => .tail _ (.tail _ (hX x hx))) (by simpa using hl) (by simp) (fun v hv => ?_) und_slu size_u (fun r w3 h3 => ?_)
  · obtain ⟨x, _, rfl⟩ := List.mem_map.1 hv; rfl
  have e1 : rgs ws ++ (List.replicate regs (vU 0)).drop (rgs ws).length = rgs (padd ws regs) := by simp [rgs, padd]
  rw [e1] at h3
  refine pu_build [vI f, vI 0, vI dest, .slice (some ⟨g, 0, none⟩) regs regs] (by kernel_rfl) ?_
  refine st_here (A := [_]) h3 [vI f, vI 0, vI dest, .slice (some ⟨g, 0, none⟩) regs regs] rfl rfl rfl (by simp) (fun w4 h4 => ?_)
  simp only [List.take_zero, List.nil_append, Nat.zero_add, List.drop_succ_cons, List.drop_zero, List.drop_nil, List.append_nil] at h4
  refine ldn_here h4 (.tail _ (.head _)) (vs := [vI f, vI 0, vI dest, .slice (some ⟨g, 0, none⟩) regs regs]) rfl rfl ?_
  refine k [(g, cel (rgs (padd ws regs)) T.t_uint32)] _ _ (h4.sub (.cons_cons _ (.cons _ (.refl _)))) ?_
  refine Own.mk (Nat.le_refl _) (by simp only [maxLen]; omega) (by simp [rgs, padd_len hl]) ?_
  rw [Nat.mul_one]
  exact List.take_of_length_le (by simp [rgs, padd_len hl])
/-! ### What is told -/
theorem depth_none {s : Value} (h : Ow B w H) (hs : Nost H s) (k : K (vI 0) w) : callW PG N.stack_Stack_Depth [s] K PK w := by
  refine stack_Stack_Depth.ok ?_
  unfold stack_Stack_Depth.C
  exact nost_spec h hs (cnd_t rfl k)
theorem result_none {s : Value} (h : Ow B w H) (hs : Nost H s) (k : K (vU 0) w) : callW PG N.stack_Stack_Result [s] K PK w := by
  refine stack_Stack_Result.ok ?_
  unfold stack_Stack_Result.C
  exact nost_spec h hs (cnd_t rfl k)
theorem reg_none {s : Value} {i : Int} (h : Ow B w H) (hs : Nost H s) (k : K (vU 0) w) : callW PG N.stack_Stack_Reg [s, vI i] K PK w := by
  refine stack_Stack_Reg.ok ?_
  unfold stack_Stack_Reg.C
  refine depth_none h hs ?_
  repeat (first | refine pu_not ?_ | refine pu_eql ?_ | refine pu_neq ?_ | refine pu_lss ?_ | refine pu_leq ?_ | refine pu_gtr ?_ | refine pu_geq ?_ | refine pu_add ?_ | refine pu_sub ?_ | refine pu_mul ?_ | refine pu_neg ?_ | refine fa_at ?_ | refine nl_ptr ?_ | refine ex20 ?_ | refine ex21 ?_ | refine ex30 ?_ | refine ex31 ?_ | refine ex32 ?_ | refine ln_rule ?_ | refine lnT_rule ?_ | refine pu_and ?_ | refine pu_or ?_ | refine pu_xor ?_ | refine pu_seq ?_ | refine pu_sne ?_)
  exact cnd_t rfl k
theorem next_none {s : Value} (h : Ow B w H) (hs : Nost H s) (k : ∀ w', Ow B w' H → K (.tuple #[.agg (bare 0).cells.toArray, .agg #[vI 0, vI 0], vB false]) w') : callW PG N.stack_Stack_Next [s] K PK w := by
  refine stack_Stack_Next.ok ?_
  unfold stack_Stack_Next.C
  refine al_rule h (l := (bare 0).cells) zins (fun b1 w1 h1 => ?_)
  refine al_rule h1 (l := [vI 0, vI 0]) (by kernel_rfl) (fun b2 w2 h2 => ?_)
  have hs2 : Nost ((b2, cel [vI 0, vI 0] T.t_api_Site) :: (b1, cel (bare 0).cells T.t_api_Ins) :: H) s := by
    rcases hs with rfl | ⟨b, l, rfl, hm, h6⟩
    · exact .inl rfl
    · exact .inr ⟨b, l, rfl, .tail _ (.tail _ hm), h6⟩
  refine depth_none h2 hs2 ?_
  repeat (first | refine pu_not ?_ | refine pu_eql ?_ | refine pu_neq ?_ | refine pu_lss ?_ | refine pu_leq ?_ | refine pu_gtr ?_ | refine pu_geq ?_ | refine pu_add ?_ | refine pu_sub ?_ | refine pu_mul ?_ | refine pu_neg ?_ | refine fa_at ?_ | refine nl_ptr ?_ | refine ex20 ?_ | refine ex21 ?_ | refine ex30 ?_ | refine ex31 ?_ | refine ex32 ?_ | refine ln_rule ?_ | refine lnT_rule ?_ | refine pu_and ?_ | refine pu_or ?_ | refine pu_xor ?_ | refine pu_seq ?_ | refine pu_sne ?_)
  refine cnd_t rfl ?_
  refine pu_build (bare 0).cells (by kernel_rfl) ?_
  refine pu_build [vI 0, vI 0] (by kernel_rfl) ?_
  refine st_here (A := [_]) h2 (bare 0).cells rfl rfl (ins_plain _) (by simp [Ins.cells]) (fun w3 h3 => ?_)
  have e3 : (bare 0).cells.take 0 ++ (bare 0).cells ++ (bare 0).cells.drop (0 + 5) = (bare 0).cells := rfl
  rw [e3] at h3
  refine st_here (A := []) h3 [vI 0, vI 0] rfl rfl rfl (by simp) (fun w4 h4 => ?_)
  refine ldn_here h4 (.tail _ (.head _)) (vs := (bare 0).cells) rfl rfl ?_
  refine ldn_here h4 (.head _) (vs := [vI 0, vI 0]) rfl rfl ?_
  exact k _ (Ow.drop (Ow.drop h4))
theorem copy_none {s : Value} (h : Ow B w H) (hs : Nost H s) (k : K (.pointer none) w) : callW PG N.stack_Stack_Copy [s] K PK w := by
  refine stack_Stack_Copy.ok ?_
  unfold stack_Stack_Copy.C
  exact nost_spec h hs (cnd_t rfl k)
theorem same_none {s s' : Value} (h : Ow B w H) (hs : Nost H s) (hs' : Nost H s') (k : K (vB true) w) : callW PG N.stack_Same [s, s'] K PK w := by
  refine stack_Same.ok ?_
  unfold stack_Same.C
  refine nost_spec h hs (cnd_t rfl ?_)
  refine nost_spec h hs (cnd_t rfl ?_)
  exact nost_spec h hs' k
theorem same_one {s' : Value} (h : Ow B w H) (hm : (b, stO l) ∈ H) (h6 : l[6]? = some (vB true)) (hs' : Nost H s') (k : K (vB false) w) : callW PG N.stack_Same [ptr b, s'] K PK w := by
  refine stack_Same.ok ?_
  unfold stack_Same.C
  refine none_at h hm h6 (cnd_f rfl ?_)
  refine nost_spec h hs' (cnd_t rfl ?_)
  refine none_at h hm h6 (cnd_f rfl ?_)
  exact k
/-- Step, Pass: of none. -/
theorem step_none {s : Value} {most : Int} (h : Ow B w H) (hs : Nost H s) (k : ∀ w', Ow B w' H → K (vI 1) w') : callW PG N.stack_Stack_Step [s, vI most] K PK w := by
  refine stack_Stack_Step.ok ?_
  unfold stack_Stack_Step.C
  refine al_rule h (l := [vI 0]) (by kernel_rfl) (fun b1 w1 h1 => ?_)
  have hs2 : Nost ((b1, cel [vI 0] T.t_api_Errno) :: H) s := by
    rcases hs with rfl | ⟨b, l, rfl, hm, h6⟩
    · exact .inl rfl
    · exact .inr ⟨b, l, rfl, .tail _ hm, h6⟩
  refine nost_spec h1 hs2 ?_
  repeat (first | refine pu_not ?_ | refine pu_eql ?_ | refine pu_neq ?_ | refine pu_lss ?_ | refine pu_leq ?_ | refine pu_gtr ?_ | refine pu_geq ?_ | refine pu_add ?_ | refine pu_sub ?_ | refine pu_mul ?_ | refine pu_neg ?_ | refine fa_at ?_ | refine nl_ptr ?_ | refine ex20 ?_ | refine ex21 ?_ | refine ex30 ?_ | refine ex31 ?_ | refine ex32 ?_ | refine ln_rule ?_ | refine lnT_rule ?_ | refine pu_and ?_ | refine pu_or ?_ | refine pu_xor ?_ | refine pu_seq ?_ | refine pu_sne ?_)
  refine must_f ?_
  refine stack_lv_pan (A := []) h1 (fun w2 h2 => ?_)
  refine ld_here h2 (.head _) rfl ?_
  exact k _ (Ow.drop h2)
theorem pass_none {s : Value} {r wd : Int} (h : Ow B w H) (hs : Nost H s) (k : ∀ w', Ow B w' H → K (vI 1) w') : callW PG N.stack_Stack_Pass [s, vI r, vU wd] K PK w := by
  refine stack_Stack_Pass.ok ?_
  unfold stack_Stack_Pass.C
  refine al_rule h (l := [vI 0]) (by kernel_rfl) (fun b1 w1 h1 => ?_)
  have hs2 : Nost ((b1, cel [vI 0] T.t_api_Errno) :: H) s := by
    rcases hs with rfl | ⟨b, l, rfl, hm, h6⟩
    · exact .inl rfl
    · exact .inr ⟨b, l, rfl, .tail _ hm, h6⟩
  refine top_none h1 hs2 ?_
  refine stack_lv_pan (A := []) h1 (fun w2 h2 => ?_)
  refine ld_here h2 (.head _) rfl ?_
  exact k _ (Ow.drop h2)
end
end Go.Proofs.YtkkkcafkepnecaaGreat

/-! Stacks: the top frame; local instructions that stay in it. -/
set_option linter.unusedVariables false
set_option linter.unusedSimpArgs false
namespace Go.Proofs.YtkkkcafkepnecaaGreat
open Go Go.RowKit Vc Ar
attribute [local irreducible] binV Op.unary convert nlW faW ldS ldW ixS ixA ixV ixT exW lnS lnT pu stW alW opW opU bsW mkW

section
variable {B w : World} {H X F Q : Hp} {K : Value → World → Prop} {PK : List PanicEntry → World → Prop} {KK : Value → Prop} {e : Int} {b n cap g : Nat} {c pre post : List Value} {t : FE} {i : Ins}
abbrev frO (pre r post : List Value) : Obj := cel (pre ++ (r ++ post)) T.t_api_Frame
/-- A stack, its frames, the top's registers, and what lies behind. -/
abbrev VH (b g : Nat) (c pre post : List Value) (t : FE) (Q : Hp) : Hp := (b, stO c) :: (g, frO pre t.row post) :: (t.S ++ Q)
/-- How the stack's cells tell of its top. -/
structure Vw (c pre : List Value) (g n cap : Nat) : Prop where
  c4 : c[4]? = some (.slice (some ⟨g, 0, none⟩) (n + 1) cap)
  c6 : c[6]? = some (vB true)
  pl : pre.length = n * 4
  hn : n < 1000000
theorem row_at {pre r post : List Value} {n j : Nat} {v : Value} (hp : pre.length = n * 4) (hj : r[j]? = some v) : (pre ++ (r ++ post))[n * 4 + j]? = some v := by
  have hl := (List.getElem?_eq_some_iff.1 hj).1
  rw [List.getElem?_append_right (by omega), hp, Nat.add_sub_cancel_left, List.getElem?_append_left hl]
  exact hj
theorem row_set {pre r post : List Value} {n j : Nat} {v : Value} (hp : pre.length = n * 4) (hj : j < r.length) : (pre ++ (r ++ post)).set (n * 4 + j) v = pre ++ (r.set j v ++ post) := by
  rw [List.set_append_right _ _ (by omega), hp, Nat.add_sub_cancel_left, List.set_append_left _ _ hj]
theorem vtop {A : Hp} (hv : Vw c pre g n cap) (h : Ow B w (A ++ VH b g c pre post t Q)) (k : ∀ w', Ow B w' (A ++ VH b g c pre post t Q) → K (ptr g (n * 4)) w') : callW PG N.stack_Stack_top [ptr b] K PK w :=
  top_at h (List.mem_append_right _ (.head _)) hv.c6 hv.c4 hv.hn k
theorem vtop1 {o : Nat × Obj} (hv : Vw c pre g n cap) (h : Ow B w (o :: VH b g c pre post t Q)) (k : ∀ w', Ow B w' (o :: VH b g c pre post t Q) → K (ptr g (n * 4)) w') : callW PG N.stack_Stack_top [ptr b] K PK w :=
  vtop (A := [o]) hv h k
theorem mem_g {o : Nat × Obj} : (g, frO pre t.row post) ∈ o :: VH b g c pre post t Q := .tail _ (.tail _ (.head _))
theorem mem_S {o : Nat × Obj} : ∀ x, x ∈ t.S → x ∈ o :: VH b g c pre post t Q := fun x hx => .tail _ (.tail _ (.tail _ (List.mem_append_left _ hx)))
theorem rgs_at {l : List Int} {x : Int} (h0 : 0 ≤ x) (h1 : x < l.length) : (rgs l)[x.toNat]? = some (vU (l.getD x.toNat 0)) := by
  have : x.toNat < l.length := by omega
  simp [List.getD, this]
theorem t_len (ho : t.ok) : ∃ a cc, t.c = .slice a t.m.regs.length cc := Vc.Own.len ho
theorem row3 : t.row[3]? = some t.c := rfl
theorem regs_ln (ho : t.ok) (k : KK (vI t.m.regs.length)) : lnS t.c KK := by
  obtain ⟨a, cc, he⟩ := t_len ho
  rw [he]; exact ln_rule k
theorem regs_rd (ho : t.ok) {Qw : World → Prop} {HH : Hp} (hq : ∀ w, Qw w → Ow B w HH) (hS : ∀ x, x ∈ t.S → x ∈ HH) {x : Int} (h0 : 0 ≤ x) (h1 : x < t.m.regs.length) (k : KK (vU (t.m.regs.getD x.toNat 0))) : ixS 1 t.c (vI x) fun p => ldS none p Qw KK :=
  sl_lds hq (Sl.mono (Vc.Own.sl ho) hS) h0 (rgs_at h0 h1) k
theorem regs_rdw (ho : t.ok) {HH : Hp} (h : Ow B w HH) (hS : ∀ x, x ∈ t.S → x ∈ HH) {x : Int} (h0 : 0 ≤ x) (h1 : x < t.m.regs.length) (k : KK (vU (t.m.regs.getD x.toNat 0))) : ixS 1 t.c (vI x) fun p => ldW none p w KK :=
  sl_ld h (Sl.mono (Vc.Own.sl ho) hS) h0 (rgs_at h0 h1) k
/-- A register of the top is written. -/
theorem regs_st {KU : World → Prop} {A C : Hp} (ho : t.ok) (h : Ow B w (A ++ t.S ++ C)) {x y : Int} (h0 : 0 ≤ x) (h1 : x < t.m.regs.length)
    (k : ∀ S' w', ({ S := S', c := t.c, m := { t.m with regs := t.m.regs.set x.toNat y } } : FE).ok → Ow B w' (A ++ S' ++ C) → KU w') : ixS 1 t.c (vI x) fun p => stW 1 p (vU y) KU w := by
  refine own_set h ho h0 h1 rfl rfl (fun S' w' h' ho' => k S' w' ?_ h')
  unfold FE.ok
  have : (rgs t.m.regs).set x.toNat (vU y) = rgs (t.m.regs.set x.toNat y) := by rw [rgs, rgs, List.map_set]
  rw [this] at ho'
  simpa using ho'
abbrev regR (r : List Int) (x : Int) : Int := r.getD x.toNat 0
/-- The top with other registers. -/
abbrev FE.setR (t : FE) (S : Hp) (x y : Int) : FE := { S := S, c := t.c, m := { t.m with regs := t.m.regs.set x.toNat y } }
theorem consts_spec (hv : Vw c pre g n cap) (ho : t.ok) (h0 : 0 ≤ i.a) (h1 : i.a < t.m.regs.length) (h : Ow B w (VH b g c pre post t Q))
    (k : ∀ S' w', (t.setR S' i.a i.imm).ok → Ow B w' (VH b g c pre post (t.setR S' i.a i.imm) Q) → K (.tuple #[]) w') : callW PG N.stack_Stack_consts [ptr b, .agg i.cells.toArray] K PK w := by
  refine stack_Stack_consts.ok ?_
  unfold stack_Stack_consts.C
  refine al_rule h (l := i.cells) rfl (fun bi w1 h1' => ?_)
  refine ⟨fun w => Ow B w ((bi, iO i) :: VH b g c pre post t Q), h1'.drew, ?_⟩
  repeat (first | refine pu_not ?_ | refine pu_eql ?_ | refine pu_neq ?_ | refine pu_lss ?_ | refine pu_leq ?_ | refine pu_gtr ?_ | refine pu_geq ?_ | refine pu_add ?_ | refine pu_sub ?_ | refine pu_mul ?_ | refine pu_neg ?_ | refine fa_at ?_ | refine nl_ptr ?_ | refine ex20 ?_ | refine ex21 ?_ | refine ex30 ?_ | refine ex31 ?_ | refine ex32 ?_ | refine ln_rule ?_ | refine lnT_rule ?_ | refine pu_and ?_ | refine pu_or ?_ | refine pu_xor ?_ | refine pu_seq ?_ | refine pu_sne ?_)
  refine lds_here (fun w h => h) (.head _) (v := vI i.a) rfl ?_
  repeat (first | refine pu_not ?_ | refine pu_eql ?_ | refine pu_neq ?_ | refine pu_lss ?_ | refine pu_leq ?_ | refine pu_gtr ?_ | refine pu_geq ?_ | refine pu_add ?_ | refine pu_sub ?_ | refine pu_mul ?_ | refine pu_neg ?_ | refine fa_at ?_ | refine nl_ptr ?_ | refine ex20 ?_ | refine ex21 ?_ | refine ex30 ?_ | refine ex31 ?_ | refine ex32 ?_ | refine ln_rule ?_ | refine lnT_rule ?_ | refine pu_and ?_ | refine pu_or ?_ | refine pu_xor ?_ | refine pu_seq ?_ | refine pu_sne ?_)
  refine lds_here (fun w h => h) (.head _) (v := vU i.imm) rfl ?_
  refine vtop1 hv h1'.drew (fun w2 h2 => ⟨h2, ?_⟩)
  repeat (first | refine pu_not ?_ | refine pu_eql ?_ | refine pu_neq ?_ | refine pu_lss ?_ | refine pu_leq ?_ | refine pu_gtr ?_ | refine pu_geq ?_ | refine pu_add ?_ | refine pu_sub ?_ | refine pu_mul ?_ | refine pu_neg ?_ | refine fa_at ?_ | refine nl_ptr ?_ | refine ex20 ?_ | refine ex21 ?_ | refine ex30 ?_ | refine ex31 ?_ | refine ex32 ?_ | refine ln_rule ?_ | refine lnT_rule ?_ | refine pu_and ?_ | refine pu_or ?_ | refine pu_xor ?_ | refine pu_seq ?_ | refine pu_sne ?_)
  refine lds_here (fun w h => h) mem_g (row_at hv.pl row3) ?_
  refine regs_st (A := [_, _, _]) (C := Q) ho (by simpa using h2) h0 h1 (fun S' w3 ho3 h3 => ?_)
  exact k S' w3 ho3 (Ow.drop (p := (bi, iO i)) h3)
theorem moves_spec (hv : Vw c pre g n cap) (ho : t.ok) (h0 : 0 ≤ i.a) (h1 : i.a < t.m.regs.length) (hb0 : 0 ≤ i.b) (hb1 : i.b < t.m.regs.length) (h : Ow B w (VH b g c pre post t Q))
    (k : ∀ S' w', (t.setR S' i.a (regR t.m.regs i.b)).ok → Ow B w' (VH b g c pre post (t.setR S' i.a (regR t.m.regs i.b)) Q) → K (.tuple #[]) w') : callW PG N.stack_Stack_moves [ptr b, .agg i.cells.toArray] K PK w := by
  refine stack_Stack_moves.ok ?_
  unfold stack_Stack_moves.C
  refine al_rule h (l := i.cells) rfl (fun bi w1 h1' => ?_)
  refine ⟨fun w => Ow B w ((bi, iO i) :: VH b g c pre post t Q), h1'.drew, ?_⟩
  repeat (first | refine pu_not ?_ | refine pu_eql ?_ | refine pu_neq ?_ | refine pu_lss ?_ | refine pu_leq ?_ | refine pu_gtr ?_ | refine pu_geq ?_ | refine pu_add ?_ | refine pu_sub ?_ | refine pu_mul ?_ | refine pu_neg ?_ | refine fa_at ?_ | refine nl_ptr ?_ | refine ex20 ?_ | refine ex21 ?_ | refine ex30 ?_ | refine ex31 ?_ | refine ex32 ?_ | refine ln_rule ?_ | refine lnT_rule ?_ | refine pu_and ?_ | refine pu_or ?_ | refine pu_xor ?_ | refine pu_seq ?_ | refine pu_sne ?_)
  refine lds_here (fun w h => h) (.head _) (v := vI i.a) rfl ?_
  repeat (first | refine pu_not ?_ | refine pu_eql ?_ | refine pu_neq ?_ | refine pu_lss ?_ | refine pu_leq ?_ | refine pu_gtr ?_ | refine pu_geq ?_ | refine pu_add ?_ | refine pu_sub ?_ | refine pu_mul ?_ | refine pu_neg ?_ | refine fa_at ?_ | refine nl_ptr ?_ | refine ex20 ?_ | refine ex21 ?_ | refine ex30 ?_ | refine ex31 ?_ | refine ex32 ?_ | refine ln_rule ?_ | refine lnT_rule ?_ | refine pu_and ?_ | refine pu_or ?_ | refine pu_xor ?_ | refine pu_seq ?_ | refine pu_sne ?_)
  refine lds_here (fun w h => h) (.head _) (v := vI i.b) rfl ?_
  refine vtop1 hv h1'.drew (fun w2 h2 => ⟨h2, ?_⟩)
  repeat (first | refine pu_not ?_ | refine pu_eql ?_ | refine pu_neq ?_ | refine pu_lss ?_ | refine pu_leq ?_ | refine pu_gtr ?_ | refine pu_geq ?_ | refine pu_add ?_ | refine pu_sub ?_ | refine pu_mul ?_ | refine pu_neg ?_ | refine fa_at ?_ | refine nl_ptr ?_ | refine ex20 ?_ | refine ex21 ?_ | refine ex30 ?_ | refine ex31 ?_ | refine ex32 ?_ | refine ln_rule ?_ | refine lnT_rule ?_ | refine pu_and ?_ | refine pu_or ?_ | refine pu_xor ?_ | refine pu_seq ?_ | refine pu_sne ?_)
  refine lds_here (fun w h => h) mem_g (row_at hv.pl row3) ?_
  refine vtop1 hv h2 (fun w3 h3 => ⟨h3, ?_⟩)
  repeat (first | refine pu_not ?_ | refine pu_eql ?_ | refine pu_neq ?_ | refine pu_lss ?_ | refine pu_leq ?_ | refine pu_gtr ?_ | refine pu_geq ?_ | refine pu_add ?_ | refine pu_sub ?_ | refine pu_mul ?_ | refine pu_neg ?_ | refine fa_at ?_ | refine nl_ptr ?_ | refine ex20 ?_ | refine ex21 ?_ | refine ex30 ?_ | refine ex31 ?_ | refine ex32 ?_ | refine ln_rule ?_ | refine lnT_rule ?_ | refine pu_and ?_ | refine pu_or ?_ | refine pu_xor ?_ | refine pu_seq ?_ | refine pu_sne ?_)
  refine lds_here (fun w h => h) mem_g (row_at hv.pl row3) ?_
  refine regs_rd ho (fun w h => h) mem_S hb0 hb1 ?_
  refine regs_st (A := [_, _, _]) (C := Q) ho (by simpa using h3) h0 h1 (fun S' w4 ho4 h4 => ?_)
  exact k S' w4 ho4 (Ow.drop (p := (bi, iO i)) h4)
def AllU (l : List Int) : Prop := ∀ x ∈ l, IsU x
theorem AllU.reg {l : List Int} (h : AllU l) (x : Int) : IsU (regR l x) := by
  unfold regR
  rw [List.getD]
  cases hx : l[x.toNat]? with
  | none => exact ⟨by simp, by simp⟩
  | some y => exact h y (List.mem_of_getElem? hx)
theorem ariths_spec (hv : Vw c pre g n cap) (ho : t.ok) (hu : AllU t.m.regs) (him : 0 ≤ i.imm ∧ i.imm < 4294967296) (h0 : 0 ≤ i.a) (h1 : i.a < t.m.regs.length) (hb0 : 0 ≤ i.b) (hb1 : i.b < t.m.regs.length) (hc0 : 0 ≤ i.c) (hc1 : i.c < t.m.regs.length) (h : Ow B w (VH b g c pre post t Q))
    (k : ∀ S' w', (t.setR S' i.a (aDo i.imm (regR t.m.regs i.b) (regR t.m.regs i.c)).1).ok → Ow B w' (VH b g c pre post (t.setR S' i.a (aDo i.imm (regR t.m.regs i.b) (regR t.m.regs i.c)).1) Q) → K (.tuple #[]) w') : callW PG N.stack_Stack_ariths [ptr b, .agg i.cells.toArray] K PK w := by
  refine stack_Stack_ariths.ok ?_
  unfold stack_Stack_ariths.C
  refine al_rule h (l := i.cells) rfl (fun bi w1 h1' => ?_)
  refine vtop1 hv h1' (fun w2 h2 => ?_)
  repeat (first | refine pu_not ?_ | refine pu_eql ?_ | refine pu_neq ?_ | refine pu_lss ?_ | refine pu_leq ?_ | refine pu_gtr ?_ | refine pu_geq ?_ | refine pu_add ?_ | refine pu_sub ?_ | refine pu_mul ?_ | refine pu_neg ?_ | refine fa_at ?_ | refine nl_ptr ?_ | refine ex20 ?_ | refine ex21 ?_ | refine ex30 ?_ | refine ex31 ?_ | refine ex32 ?_ | refine ln_rule ?_ | refine lnT_rule ?_ | refine pu_and ?_ | refine pu_or ?_ | refine pu_xor ?_ | refine pu_seq ?_ | refine pu_sne ?_)
  refine ld_here h2 mem_g (row_at hv.pl row3) ?_
  refine ⟨fun w => Ow B w ((bi, iO i) :: VH b g c pre post t Q), h2.drew, ?_⟩
  repeat (first | refine pu_not ?_ | refine pu_eql ?_ | refine pu_neq ?_ | refine pu_lss ?_ | refine pu_leq ?_ | refine pu_gtr ?_ | refine pu_geq ?_ | refine pu_add ?_ | refine pu_sub ?_ | refine pu_mul ?_ | refine pu_neg ?_ | refine fa_at ?_ | refine nl_ptr ?_ | refine ex20 ?_ | refine ex21 ?_ | refine ex30 ?_ | refine ex31 ?_ | refine ex32 ?_ | refine ln_rule ?_ | refine lnT_rule ?_ | refine pu_and ?_ | refine pu_or ?_ | refine pu_xor ?_ | refine pu_seq ?_ | refine pu_sne ?_)
  refine lds_here (fun w h => h) (.head _) (v := vI i.a) rfl ?_
  repeat (first | refine pu_not ?_ | refine pu_eql ?_ | refine pu_neq ?_ | refine pu_lss ?_ | refine pu_leq ?_ | refine pu_gtr ?_ | refine pu_geq ?_ | refine pu_add ?_ | refine pu_sub ?_ | refine pu_mul ?_ | refine pu_neg ?_ | refine fa_at ?_ | refine nl_ptr ?_ | refine ex20 ?_ | refine ex21 ?_ | refine ex30 ?_ | refine ex31 ?_ | refine ex32 ?_ | refine ln_rule ?_ | refine lnT_rule ?_ | refine pu_and ?_ | refine pu_or ?_ | refine pu_xor ?_ | refine pu_seq ?_ | refine pu_sne ?_)
  refine lds_here (fun w h => h) (.head _) (v := vU i.imm) rfl ?_
  refine cvt (by kernel_rfl) (by kernel_rfl) (m := i.imm) (by rw [wrap64_in (by omega) (by omega)]) ?_
  repeat (first | refine pu_not ?_ | refine pu_eql ?_ | refine pu_neq ?_ | refine pu_lss ?_ | refine pu_leq ?_ | refine pu_gtr ?_ | refine pu_geq ?_ | refine pu_add ?_ | refine pu_sub ?_ | refine pu_mul ?_ | refine pu_neg ?_ | refine fa_at ?_ | refine nl_ptr ?_ | refine ex20 ?_ | refine ex21 ?_ | refine ex30 ?_ | refine ex31 ?_ | refine ex32 ?_ | refine ln_rule ?_ | refine lnT_rule ?_ | refine pu_and ?_ | refine pu_or ?_ | refine pu_xor ?_ | refine pu_seq ?_ | refine pu_sne ?_)
  refine lds_here (fun w h => h) (.head _) (v := vI i.b) rfl ?_
  refine regs_rd ho (fun w h => h) mem_S hb0 hb1 ?_
  repeat (first | refine pu_not ?_ | refine pu_eql ?_ | refine pu_neq ?_ | refine pu_lss ?_ | refine pu_leq ?_ | refine pu_gtr ?_ | refine pu_geq ?_ | refine pu_add ?_ | refine pu_sub ?_ | refine pu_mul ?_ | refine pu_neg ?_ | refine fa_at ?_ | refine nl_ptr ?_ | refine ex20 ?_ | refine ex21 ?_ | refine ex30 ?_ | refine ex31 ?_ | refine ex32 ?_ | refine ln_rule ?_ | refine lnT_rule ?_ | refine pu_and ?_ | refine pu_or ?_ | refine pu_xor ?_ | refine pu_seq ?_ | refine pu_sne ?_)
  refine lds_here (fun w h => h) (.head _) (v := vI i.c) rfl ?_
  refine regs_rd ho (fun w h => h) mem_S hc0 hc1 ?_
  refine do_spec (hu.reg _) (hu.reg _) h2.drew (fun w3 h3 => ⟨h3, ?_⟩)
  repeat (first | refine pu_not ?_ | refine pu_eql ?_ | refine pu_neq ?_ | refine pu_lss ?_ | refine pu_leq ?_ | refine pu_gtr ?_ | refine pu_geq ?_ | refine pu_add ?_ | refine pu_sub ?_ | refine pu_mul ?_ | refine pu_neg ?_ | refine fa_at ?_ | refine nl_ptr ?_ | refine ex20 ?_ | refine ex21 ?_ | refine ex30 ?_ | refine ex31 ?_ | refine ex32 ?_ | refine ln_rule ?_ | refine lnT_rule ?_ | refine pu_and ?_ | refine pu_or ?_ | refine pu_xor ?_ | refine pu_seq ?_ | refine pu_sne ?_)
  refine regs_st (A := [_, _, _]) (C := Q) ho (by simpa using h3) h0 h1 (fun S' w4 ho4 h4 => ?_)
  exact k S' w4 ho4 (Ow.drop (p := (bi, iO i)) h4)
/-- The top at another place. -/
abbrev FE.setPc (t : FE) (pc : Nat) : FE := { t with m := { t.m with pc := pc } }
theorem setPc_row {t : FE} {pc : Nat} : t.row.set 1 (vI pc) = (t.setPc pc).row := rfl
theorem jumps_spec (hv : Vw c pre g n cap) (him : 0 ≤ i.imm ∧ i.imm < 4294967296) (h : Ow B w (VH b g c pre post t Q))
    (k : ∀ w', Ow B w' (VH b g c pre post (t.setPc i.imm.toNat) Q) → K (.tuple #[]) w') : callW PG N.stack_Stack_jumps [ptr b, .agg i.cells.toArray] K PK w := by
  refine stack_Stack_jumps.ok ?_
  unfold stack_Stack_jumps.C
  refine al_rule h (l := i.cells) rfl (fun bi w1 h1' => ?_)
  refine ⟨fun w => Ow B w ((bi, iO i) :: VH b g c pre post t Q), h1'.drew, ?_⟩
  repeat (first | refine pu_not ?_ | refine pu_eql ?_ | refine pu_neq ?_ | refine pu_lss ?_ | refine pu_leq ?_ | refine pu_gtr ?_ | refine pu_geq ?_ | refine pu_add ?_ | refine pu_sub ?_ | refine pu_mul ?_ | refine pu_neg ?_ | refine fa_at ?_ | refine nl_ptr ?_ | refine ex20 ?_ | refine ex21 ?_ | refine ex30 ?_ | refine ex31 ?_ | refine ex32 ?_ | refine ln_rule ?_ | refine lnT_rule ?_ | refine pu_and ?_ | refine pu_or ?_ | refine pu_xor ?_ | refine pu_seq ?_ | refine pu_sne ?_)
  refine lds_here (fun w h => h) (.head _) (v := vU i.imm) rfl ?_
  refine cvt (by kernel_rfl) und_int (m := i.imm) (by rw [wrap64_in (by omega) (by omega)]) ?_
  refine vtop1 hv h1'.drew (fun w2 h2 => ⟨h2, ?_⟩)
  repeat (first | refine pu_not ?_ | refine pu_eql ?_ | refine pu_neq ?_ | refine pu_lss ?_ | refine pu_leq ?_ | refine pu_gtr ?_ | refine pu_geq ?_ | refine pu_add ?_ | refine pu_sub ?_ | refine pu_mul ?_ | refine pu_neg ?_ | refine fa_at ?_ | refine nl_ptr ?_ | refine ex20 ?_ | refine ex21 ?_ | refine ex30 ?_ | refine ex31 ?_ | refine ex32 ?_ | refine ln_rule ?_ | refine lnT_rule ?_ | refine pu_and ?_ | refine pu_or ?_ | refine pu_xor ?_ | refine pu_seq ?_ | refine pu_sne ?_)
  have hl : n * 4 + 1 < (pre ++ (t.row ++ post)).length := by rw [List.length_append, hv.pl, List.length_append]; simp [FE.row, frow]; omega
  refine st1_here (A := [_, _]) h2 rfl rfl hl (fun w3 h3 => ?_)
  have e1 : (Value.int .i64 i.imm) = Value.int .i64 ((i.imm.toNat : Nat) : Int) := by rw [Int.toNat_of_nonneg him.1]
  rw [row_set hv.pl (by simp [FE.row, frow])] at h3
  rw [e1] at h3
  exact k w3 (Ow.drop (p := (bi, iO i)) h3)
theorem ifs_spec (hv : Vw c pre g n cap) (ho : t.ok) (him : 0 ≤ i.imm ∧ i.imm < 4294967296) (h0 : 0 ≤ i.a) (h1 : i.a < t.m.regs.length) (h : Ow B w (VH b g c pre post t Q))
    (k : ∀ w', Ow B w' (VH b g c pre post (if regR t.m.regs i.a = 0 then t else t.setPc i.imm.toNat) Q) → K (.tuple #[]) w') : callW PG N.stack_Stack_ifs [ptr b, .agg i.cells.toArray] K PK w := by
  refine stack_Stack_ifs.ok ?_
  unfold stack_Stack_ifs.C
  refine al_rule h (l := i.cells) rfl (fun bi w1 h1' => ?_)
  refine ⟨fun w => Ow B w ((bi, iO i) :: VH b g c pre post t Q), h1'.drew, ?_⟩
  repeat (first | refine pu_not ?_ | refine pu_eql ?_ | refine pu_neq ?_ | refine pu_lss ?_ | refine pu_leq ?_ | refine pu_gtr ?_ | refine pu_geq ?_ | refine pu_add ?_ | refine pu_sub ?_ | refine pu_mul ?_ | refine pu_neg ?_ | refine fa_at ?_ | refine nl_ptr ?_ | refine ex20 ?_ | refine ex21 ?_ | refine ex30 ?_ | refine ex31 ?_ | refine ex32 ?_ | refine ln_rule ?_ | refine lnT_rule ?_ | refine pu_and ?_ | refine pu_or ?_ | refine pu_xor ?_ | refine pu_seq ?_ | refine pu_sne ?_)
  refine lds_here (fun w h => h) (.head _) (v := vI i.a) rfl ?_
  refine vtop1 hv h1'.drew (fun w2 h2 => ⟨h2, ?_⟩)
  repeat (first | refine pu_not ?_ | refine pu_eql ?_ | refine pu_neq ?_ | refine pu_lss ?_ | refine pu_leq ?_ | refine pu_gtr ?_ | refine pu_geq ?_ | refine pu_add ?_ | refine pu_sub ?_ | refine pu_mul ?_ | refine pu_neg ?_ | refine fa_at ?_ | refine nl_ptr ?_ | refine ex20 ?_ | refine ex21 ?_ | refine ex30 ?_ | refine ex31 ?_ | refine ex32 ?_ | refine ln_rule ?_ | refine lnT_rule ?_ | refine pu_and ?_ | refine pu_or ?_ | refine pu_xor ?_ | refine pu_seq ?_ | refine pu_sne ?_)
  refine lds_here (fun w h => h) mem_g (row_at hv.pl row3) ?_
  refine regs_rd ho (fun w h => h) mem_S h0 h1 ?_
  repeat (first | refine pu_not ?_ | refine pu_eql ?_ | refine pu_neq ?_ | refine pu_lss ?_ | refine pu_leq ?_ | refine pu_gtr ?_ | refine pu_geq ?_ | refine pu_add ?_ | refine pu_sub ?_ | refine pu_mul ?_ | refine pu_neg ?_ | refine fa_at ?_ | refine nl_ptr ?_ | refine ex20 ?_ | refine ex21 ?_ | refine ex30 ?_ | refine ex31 ?_ | refine ex32 ?_ | refine ln_rule ?_ | refine lnT_rule ?_ | refine pu_and ?_ | refine pu_or ?_ | refine pu_xor ?_ | refine pu_seq ?_ | refine pu_sne ?_)
  refine cnd (fun hq => ?_) (fun hq => ?_)
  · rw [if_neg (by simpa using hq)] at k
    refine ldn_here h2 (.head _) (vs := i.cells) rfl rfl ?_
    have h2 : Ow B w2 (VH b g c pre post t (Q ++ [(bi, iO i)])) := h2.perm (by
      have := (List.perm_append_comm (l₁ := [(bi, iO i)]) (l₂ := VH b g c pre post t Q))
      simpa using this)
    refine jumps_spec hv him h2 (fun w3 h3 => ?_)
    refine k w3 (h3.sub (.cons_cons _ (.cons_cons _ ((List.Sublist.refl _).append (List.sublist_append_left _ _)))))
  · rw [if_pos (by simpa using hq)] at k
    exact k _ h2.drop
theorem yields_spec (h : Ow B w H) (k : ∀ w', Ow B w' H → K (.tuple #[]) w') : callW PG N.stack_Stack_yields [ptr b, .agg i.cells.toArray] K PK w := by
  refine stack_Stack_yields.ok ?_
  unfold stack_Stack_yields.C
  refine al_rule h (l := i.cells) rfl (fun bi w1 h1' => ?_)
  exact k _ h1'.drop
end
end Go.Proofs.YtkkkcafkepnecaaGreat

