/- Programs that are handed in; the law ProgramAt. -/
import Derived.Test.YtkkkcafkepnecaaGreatZC
import Derived.Test.YtkkkcafkepnecaaGreatZB
import Derived.RecoverIn
import Derived.Test.YtkkkcafkepnecaaGreatFB

set_option linter.unusedVariables false
set_option linter.unusedSimpArgs false
namespace Go.Proofs.YtkkkcafkepnecaaGreat
open Go Go.RowKit Vc
attribute [local irreducible] binV Op.unary convert nlW faW ldS ldW ixS ixA ixV ixT exW lnS lnT pu stW alW opW opU bsW mkW

section
variable {B w : World} {H X : Hp} {K : Value → World → Prop} {PK : List PanicEntry → World → Prop} {KK : Value → Prop} {v : Value} {p : Pr}
theorem ins_of {cs : List Value} (h : Fit PG H T.t_api_Ins cs) : ∃ i : Ins, cs = i.cells ∧ 0 ≤ i.imm ∧ i.imm < 4294967296 := by
  have hl : cs.length = 5 := h.len (by kernel_rfl) (by kernel_rfl)
  match cs, hl with
  | [x, y, z, u, t], _ =>
    obtain ⟨a, ha, _⟩ := (h.field (i := 0) (T := T.t_api_Op) (off := 0) (n := 1) (by kernel_rfl)).of_int und_op
    obtain ⟨b, hb, _⟩ := (h.field (i := 1) (T := T.t_int) (off := 1) (n := 1) (by kernel_rfl)).of_int und_int
    obtain ⟨c, hc, _⟩ := (h.field (i := 2) (T := T.t_int) (off := 2) (n := 1) (by kernel_rfl)).of_int und_int
    obtain ⟨d, hd, _⟩ := (h.field (i := 3) (T := T.t_int) (off := 3) (n := 1) (by kernel_rfl)).of_int und_int
    obtain ⟨e, he, hw⟩ := (h.field (i := 4) (T := T.t_uint32) (off := 4) (n := 1) (by kernel_rfl)).of_int und_u32
    refine ⟨⟨a, b, c, d, e⟩, ?_, wf_u32 hw⟩
    have e1 : [x] = [vI a] := ha
    have e2 : [y] = [vI b] := hb
    have e3 : [z] = [vI c] := hc
    have e4 : [u] = [vI d] := hd
    have e5 : [t] = [.int .u32 e] := he
    cases e1; cases e2; cases e3; cases e4; cases e5
    rfl
theorem code_of : ∀ {ys : List (List Value)}, (∀ y ∈ ys, Fit PG H T.t_api_Ins y) → ∃ l : List Ins, ys = icode l ∧ immOk l
  | [], _ => ⟨[], rfl, fun i hi => by cases hi⟩
  | y :: ys, h => by
    obtain ⟨l, rfl, h2⟩ := code_of fun z hz => h z (.tail _ hz)
    obtain ⟨i, rfl, hi⟩ := ins_of (h y (.head _))
    refine ⟨i :: l, rfl, fun x hx => ?_⟩
    rcases List.mem_cons.1 hx with rfl | hx
    · exact hi
    · exact h2 x hx
theorem cells_ins : PG.cellsOf T.t_api_Ins = 5 := by kernel_rfl
theorem cells_func : PG.cellsOf T.t_api_Func = 2 := by kernel_rfl
theorem und_slins : PG.underlying T.t_sl_api_Ins = some (.slice T.t_api_Ins) := by kernel_rfl
theorem und_slfunc : PG.underlying T.t_sl_api_Func = some (.slice T.t_api_Func) := by kernel_rfl
theorem fun_of {cs : List Value} (h : Fit PG H T.t_api_Func cs) : ∃ (f : Fun) (c : Value), cs = [vI f.regs, c] ∧ Sls H c 5 (icode f.code) ∧ immOk f.code := by
  have hl : cs.length = 2 := h.len (by kernel_rfl) (by kernel_rfl)
  match cs, hl with
  | [x, y], _ =>
    obtain ⟨a, ha, _⟩ := (h.field (i := 0) (T := T.t_int) (off := 0) (n := 1) (by kernel_rfl)).of_int und_int
    obtain ⟨c, ys, hc, hs, hf⟩ := (h.field (i := 1) (T := T.t_sl_api_Ins) (off := 1) (n := 1) (by kernel_rfl)).of_slice und_slins
    obtain ⟨l, rfl, hm⟩ := code_of hf
    have e1 : [x] = [vI a] := ha
    have e2 : [y] = [c] := hc
    cases e1; cases e2
    rw [cells_ins] at hs
    exact ⟨⟨a, l⟩, y, rfl, hs, hm⟩
theorem funs_of : ∀ {ys : List (List Value)}, (∀ y ∈ ys, Fit PG H T.t_api_Func y) → ∃ ps : List (Value × Fun), ys = frows ps ∧ ∀ q ∈ ps, Sls H q.1 5 (icode q.2.code) ∧ immOk q.2.code
  | [], _ => ⟨[], rfl, fun q hq => by cases hq⟩
  | y :: ys, h => by
    obtain ⟨ps, rfl, h2⟩ := funs_of fun z hz => h z (.tail _ hz)
    obtain ⟨f, c, rfl, h3, h4⟩ := fun_of (h y (.head _))
    refine ⟨(c, f) :: ps, rfl, fun q hq => ?_⟩
    rcases List.mem_cons.1 hq with rfl | hq
    · exact ⟨h3, h4⟩
    · exact h2 q hq
theorem prog_of' {cs : List Value} (h : Fit PG H T.t_api_Program cs) : ∃ (p : Pr) (v : Value), cs = p.cells v ∧ fsIn H v p.fs := by
  have hl : cs.length = 4 := h.len (by kernel_rfl) (by kernel_rfl)
  match cs, hl with
  | [x, y, z, u], _ =>
    obtain ⟨c, ys, hc, hs, hf⟩ := (h.field (i := 0) (T := T.t_sl_api_Func) (off := 0) (n := 1) (by kernel_rfl)).of_slice und_slfunc
    obtain ⟨ps, rfl, hm⟩ := funs_of hf
    obtain ⟨a, ha, _⟩ := (h.field (i := 1) (T := T.t_int) (off := 1) (n := 1) (by kernel_rfl)).of_int und_int
    obtain ⟨b, hb, _⟩ := (h.field (i := 2) (T := T.t_int) (off := 2) (n := 1) (by kernel_rfl)).of_int und_int
    obtain ⟨d, hd, _⟩ := (h.field (i := 3) (T := T.t_int) (off := 3) (n := 1) (by kernel_rfl)).of_int und_int
    have e1 : [x] = [c] := hc
    have e2 : [y] = [vI a] := ha
    have e3 : [z] = [vI b] := hb
    have e4 : [u] = [vI d] := hd
    cases e1; cases e2; cases e3; cases e4
    rw [cells_func] at hs
    exact ⟨⟨ps.map Prod.snd, a, b, d⟩, x, rfl, ps, rfl, hs, hm⟩
theorem prog_of {v0 : Value} (g : FitV PG H T.t_api_Program v0) : ∃ (p : Pr) (v : Value), v0 = .agg (p.cells v).toArray ∧ fsIn H v p.fs := by
  obtain ⟨cs, rfl, hf⟩ := g.agg (by kernel_rfl)
  obtain ⟨p, v, rfl, h⟩ := prog_of' hf
  exact ⟨p, v, rfl, h⟩
theorem site_of {v0 : Value} (g : FitV PG H T.t_api_Site v0) : ∃ a b : Int, v0 = .agg #[vI a, vI b] := by
  obtain ⟨cs, rfl, h⟩ := g.agg (by kernel_rfl)
  have hl : cs.length = 2 := h.len (by kernel_rfl) (by kernel_rfl)
  match cs, hl with
  | [x, y], _ =>
    obtain ⟨a, ha, _⟩ := (h.field (i := 0) (T := T.t_int) (off := 0) (n := 1) (by kernel_rfl)).of_int und_int
    obtain ⟨b, hb, _⟩ := (h.field (i := 1) (T := T.t_int) (off := 1) (n := 1) (by kernel_rfl)).of_int und_int
    have e1 : [x] = [vI a] := ha
    have e2 : [y] = [vI b] := hb
    cases e1; cases e2
    exact ⟨a, b, rfl⟩
end
end Go.Proofs.YtkkkcafkepnecaaGreat

/-! Programs: which are the same; how much there is. -/
set_option linter.unusedVariables false
set_option linter.unusedSimpArgs false
namespace Go.Proofs.YtkkkcafkepnecaaGreat
open Go Go.RowKit Vc
attribute [local irreducible] binV Op.unary convert nlW faW ldS ldW ixS ixA ixV ixT exW lnS lnT pu stW alW opW opU bsW mkW
deriving instance DecidableEq for Fun
deriving instance DecidableEq for Pr

section
variable {B w : World} {H X : Hp} {K : Value → World → Prop} {PK : List PanicEntry → World → Prop} {KK : Value → Prop} {v v' : Value} {p q : Pr}
theorem icode_at {l : List Ins} {n : Nat} (h : n < l.length) : (icode l)[(n : Int).toNat]? = some l[n].cells := by
  rw [Int.toNat_natCast, List.getElem?_map, List.getElem?_eq_getElem h]; rfl
/-- The lists of instructions are gone over, side by side. -/
theorem equal_spec {s s' : Value} {xs ys : List Ins} (h : Ow B w H) (hs : Sls H s 5 (icode xs)) (hs' : Sls H s' 5 (icode ys))
    (k : ∀ w', Ow B w' H → K (vB (decide (xs = ys))) w') : callW PG N.slices_Equal_sl_api_Ins_api_Ins [s, s'] K PK w := by
  refine slices_Equal_sl_api_Ins_api_Ins.ok ?_
  unfold slices_Equal_sl_api_Ins_api_Ins.C
  have hmax := hs.max
  have hl : ∀ l : List Ins, (icode l).length = l.length := fun l => List.length_map _
  rw [hl] at hmax
  simp only [maxLen] at hmax
  refine sls_ln hs ?_
  refine sls_ln hs' ?_
  rw [hl, hl]
  repeat (first | refine pu_not ?_ | refine pu_eql ?_ | refine pu_neq ?_ | refine pu_lss ?_ | refine pu_leq ?_ | refine pu_gtr ?_ | refine pu_geq ?_ | refine pu_add ?_ | refine pu_sub ?_ | refine pu_mul ?_ | refine pu_neg ?_ | refine fa_at ?_ | refine nl_ptr ?_ | refine ex20 ?_ | refine ex21 ?_ | refine ex30 ?_ | refine ex31 ?_ | refine ex32 ?_ | refine ln_rule ?_ | refine lnT_rule ?_ | refine pu_and ?_ | refine pu_or ?_ | refine pu_xor ?_ | refine pu_seq ?_ | refine pu_sne ?_)
  refine cnd (fun hne => ?_) (fun heq => ?_)
  · have e : decide (xs = ys) = false := by
      simp only [decide_eq_false_iff_not]
      rintro rfl
      simp at hne
    rw [e] at k; exact k _ h
  · have heq : xs.length = ys.length := by simp at heq; omega
    refine sls_ln hs ?_
    rw [hl]
    refine ⟨fun l w => ∃ i : Nat, l = [vI i] ∧ i ≤ xs.length ∧ (∀ j, j < i → xs[j]? = ys[j]?) ∧ Ow B w H,
      fun l _ => match l with | [.int _ n] => xs.length - n.toNat | _ => 0, ⟨0, rfl, Nat.zero_le _, fun j hj => absurd hj (by omega), h⟩, ?_⟩
    rintro l w3 ⟨i, rfl, hi, hall, h3⟩ j
    repeat (first | refine pu_not ?_ | refine pu_eql ?_ | refine pu_neq ?_ | refine pu_lss ?_ | refine pu_leq ?_ | refine pu_gtr ?_ | refine pu_geq ?_ | refine pu_add ?_ | refine pu_sub ?_ | refine pu_mul ?_ | refine pu_neg ?_ | refine fa_at ?_ | refine nl_ptr ?_ | refine ex20 ?_ | refine ex21 ?_ | refine ex30 ?_ | refine ex31 ?_ | refine ex32 ?_ | refine ln_rule ?_ | refine lnT_rule ?_ | refine pu_and ?_ | refine pu_or ?_ | refine pu_xor ?_ | refine pu_seq ?_ | refine pu_sne ?_)
    refine cnd (fun hlt => ?_) (fun hlt => ?_)
    · have hlt : i < xs.length := by simpa using hlt
      refine ⟨fun w => Ow B w H, h3.drew, ?_⟩
      refine sls_lds (fun w h => h) hs (by omega) (icode_at hlt) ?_
      refine sls_lds (fun w h => h) hs' (by omega) (icode_at (heq ▸ hlt)) ?_
      refine pu_aneq (by kernel_rfl) (eq_ins _ _) ?_
      refine cnd (fun hne => ?_) (fun he => ?_)
      · have e : decide (xs = ys) = false := by
          simp only [decide_eq_false_iff_not]
          rintro rfl
          simp at hne
        rw [e] at k; exact k _ h3.drew
      · have he : xs[i] = ys[i] := by simpa using he
        repeat (first | refine pu_not ?_ | refine pu_eql ?_ | refine pu_neq ?_ | refine pu_lss ?_ | refine pu_leq ?_ | refine pu_gtr ?_ | refine pu_geq ?_ | refine pu_add ?_ | refine pu_sub ?_ | refine pu_mul ?_ | refine pu_neg ?_ | refine fa_at ?_ | refine nl_ptr ?_ | refine ex20 ?_ | refine ex21 ?_ | refine ex30 ?_ | refine ex31 ?_ | refine ex32 ?_ | refine ln_rule ?_ | refine lnT_rule ?_ | refine pu_and ?_ | refine pu_or ?_ | refine pu_xor ?_ | refine pu_seq ?_ | refine pu_sne ?_)
        rw [wrap64_in (by omega) (by omega)]
        refine ⟨⟨i + 1, rfl, hlt, fun j hj => ?_, h3.drew⟩, by simp; omega⟩
        rcases Nat.lt_succ_iff_lt_or_eq.1 hj with hj | rfl
        · exact hall j hj
        · rw [List.getElem?_eq_getElem hlt, List.getElem?_eq_getElem (heq ▸ hlt), he]
    · have e : decide (xs = ys) = true := by
        simp only [decide_eq_true_eq]
        refine List.ext_getElem? fun j => ?_
        by_cases hj : j < xs.length
        · exact hall j (by simp at hlt; omega)
        · rw [List.getElem?_eq_none (by omega), List.getElem?_eq_none (by omega)]
      rw [e] at k; exact k _ h3
theorem fun_ne {f g : Fun} : decide (f = g) = (decide (f.regs = g.regs) && decide (f.code = g.code)) := by
  cases f; cases g
  simp [Bool.decide_and]
theorem same1_pf {f g : Fun} {c d : Value} (hc : Sls H c 5 (icode f.code)) (hd : Sls H d 5 (icode g.code)) : PF PG B H (fnc N.program_Same_1 #[]) [.agg #[vI f.regs, c], .agg #[vI g.regs, d]] (vB (decide (f = g))) := fun Z K PK w hw k => by
  refine callV_fn program_Same_1.okf (program_Same_1.ok ?_)
  unfold program_Same_1.C
  rw [fun_ne] at k
  refine al_rule hw (l := [vI f.regs, c]) rfl (fun b2 w1 h1 => ?_)
  refine al_rule h1 (l := [vI g.regs, d]) rfl (fun b4 w2 h2 => ?_)
  repeat (first | refine pu_not ?_ | refine pu_eql ?_ | refine pu_neq ?_ | refine pu_lss ?_ | refine pu_leq ?_ | refine pu_gtr ?_ | refine pu_geq ?_ | refine pu_add ?_ | refine pu_sub ?_ | refine pu_mul ?_ | refine pu_neg ?_ | refine fa_at ?_ | refine nl_ptr ?_ | refine ex20 ?_ | refine ex21 ?_ | refine ex30 ?_ | refine ex31 ?_ | refine ex32 ?_ | refine ln_rule ?_ | refine lnT_rule ?_ | refine pu_and ?_ | refine pu_or ?_ | refine pu_xor ?_ | refine pu_seq ?_ | refine pu_sne ?_)
  refine ld_here h2 (.tail _ (.head _)) (v := vI f.regs) rfl ?_
  repeat (first | refine pu_not ?_ | refine pu_eql ?_ | refine pu_neq ?_ | refine pu_lss ?_ | refine pu_leq ?_ | refine pu_gtr ?_ | refine pu_geq ?_ | refine pu_add ?_ | refine pu_sub ?_ | refine pu_mul ?_ | refine pu_neg ?_ | refine fa_at ?_ | refine nl_ptr ?_ | refine ex20 ?_ | refine ex21 ?_ | refine ex30 ?_ | refine ex31 ?_ | refine ex32 ?_ | refine ln_rule ?_ | refine lnT_rule ?_ | refine pu_and ?_ | refine pu_or ?_ | refine pu_xor ?_ | refine pu_seq ?_ | refine pu_sne ?_)
  refine ld_here h2 (.head _) (v := vI g.regs) rfl ?_
  repeat (first | refine pu_not ?_ | refine pu_eql ?_ | refine pu_neq ?_ | refine pu_lss ?_ | refine pu_leq ?_ | refine pu_gtr ?_ | refine pu_geq ?_ | refine pu_add ?_ | refine pu_sub ?_ | refine pu_mul ?_ | refine pu_neg ?_ | refine fa_at ?_ | refine nl_ptr ?_ | refine ex20 ?_ | refine ex21 ?_ | refine ex30 ?_ | refine ex31 ?_ | refine ex32 ?_ | refine ln_rule ?_ | refine lnT_rule ?_ | refine pu_and ?_ | refine pu_or ?_ | refine pu_xor ?_ | refine pu_seq ?_ | refine pu_sne ?_)
  refine cnd (fun hq => ?_) (fun hq => ?_)
  · have hq : f.regs = g.regs := by simpa using hq
    rw [decide_eq_true hq, Bool.true_and] at k
    repeat (first | refine pu_not ?_ | refine pu_eql ?_ | refine pu_neq ?_ | refine pu_lss ?_ | refine pu_leq ?_ | refine pu_gtr ?_ | refine pu_geq ?_ | refine pu_add ?_ | refine pu_sub ?_ | refine pu_mul ?_ | refine pu_neg ?_ | refine fa_at ?_ | refine nl_ptr ?_ | refine ex20 ?_ | refine ex21 ?_ | refine ex30 ?_ | refine ex31 ?_ | refine ex32 ?_ | refine ln_rule ?_ | refine lnT_rule ?_ | refine pu_and ?_ | refine pu_or ?_ | refine pu_xor ?_ | refine pu_seq ?_ | refine pu_sne ?_)
    refine ld_here h2 (.tail _ (.head _)) (v := c) rfl ?_
    repeat (first | refine pu_not ?_ | refine pu_eql ?_ | refine pu_neq ?_ | refine pu_lss ?_ | refine pu_leq ?_ | refine pu_gtr ?_ | refine pu_geq ?_ | refine pu_add ?_ | refine pu_sub ?_ | refine pu_mul ?_ | refine pu_neg ?_ | refine fa_at ?_ | refine nl_ptr ?_ | refine ex20 ?_ | refine ex21 ?_ | refine ex30 ?_ | refine ex31 ?_ | refine ex32 ?_ | refine ln_rule ?_ | refine lnT_rule ?_ | refine pu_and ?_ | refine pu_or ?_ | refine pu_xor ?_ | refine pu_seq ?_ | refine pu_sne ?_)
    refine ld_here h2 (.head _) (v := d) rfl ?_
    refine equal_spec h2 (hc.mono fun x hx => .tail _ (.tail _ (List.mem_append_right _ hx))) (hd.mono fun x hx => .tail _ (.tail _ (List.mem_append_right _ hx))) (fun w3 h3 => ?_)
    exact k _ h3.drop.drop
  · have hq : ¬ f.regs = g.regs := by simpa using hq
    rw [decide_eq_false hq, Bool.false_and] at k
    exact k _ h2.drop.drop
theorem equalFunc_spec {fs gs : List Fun} (h : Ow B w H) (hv : fsIn H v fs) (hv' : fsIn H v' gs) (k : ∀ w', Ow B w' H → K (vB (decide (fs = gs))) w') :
    callW PG N.slices_EqualFunc_sl_api_Func_sl_api_Func_api_Func_api_Func [v, v', fnc N.program_Same_1 #[]] K PK w := by
  refine slices_EqualFunc_sl_api_Func_sl_api_Func_api_Func_api_Func.ok ?_
  unfold slices_EqualFunc_sl_api_Func_sl_api_Func_api_Func_api_Func.C
  have hmax : fs.length ≤ 9223372036854775807 := by
    obtain ⟨ps, e1, e2, e3⟩ := hv
    have := e2.max
    rw [← e1]
    simp only [frows, List.length_map, maxLen] at this ⊢
    omega
  refine hv.ln ?_
  refine hv'.ln ?_
  repeat (first | refine pu_not ?_ | refine pu_eql ?_ | refine pu_neq ?_ | refine pu_lss ?_ | refine pu_leq ?_ | refine pu_gtr ?_ | refine pu_geq ?_ | refine pu_add ?_ | refine pu_sub ?_ | refine pu_mul ?_ | refine pu_neg ?_ | refine fa_at ?_ | refine nl_ptr ?_ | refine ex20 ?_ | refine ex21 ?_ | refine ex30 ?_ | refine ex31 ?_ | refine ex32 ?_ | refine ln_rule ?_ | refine lnT_rule ?_ | refine pu_and ?_ | refine pu_or ?_ | refine pu_xor ?_ | refine pu_seq ?_ | refine pu_sne ?_)
  refine cnd (fun hne => ?_) (fun heq => ?_)
  · have e : decide (fs = gs) = false := by
      simp only [decide_eq_false_iff_not]
      rintro rfl
      simp at hne
    rw [e] at k; exact k _ h
  have heq : fs.length = gs.length := by simp at heq; omega
  refine hv.ln ?_
  refine ⟨fun l w => ∃ i : Nat, l = [vI i] ∧ i ≤ fs.length ∧ (∀ j, j < i → fs[j]? = gs[j]?) ∧ Ow B w H,
    fun l _ => match l with | [.int _ n] => fs.length - n.toNat | _ => 0, ⟨0, rfl, Nat.zero_le _, fun j hj => absurd hj (by omega), h⟩, ?_⟩
  rintro l w3 ⟨i, rfl, hi, hall, h3⟩ j
  repeat (first | refine pu_not ?_ | refine pu_eql ?_ | refine pu_neq ?_ | refine pu_lss ?_ | refine pu_leq ?_ | refine pu_gtr ?_ | refine pu_geq ?_ | refine pu_add ?_ | refine pu_sub ?_ | refine pu_mul ?_ | refine pu_neg ?_ | refine fa_at ?_ | refine nl_ptr ?_ | refine ex20 ?_ | refine ex21 ?_ | refine ex30 ?_ | refine ex31 ?_ | refine ex32 ?_ | refine ln_rule ?_ | refine lnT_rule ?_ | refine pu_and ?_ | refine pu_or ?_ | refine pu_xor ?_ | refine pu_seq ?_ | refine pu_sne ?_)
  refine cnd (fun hlt => ?_) (fun hlt => ?_)
  · have hlt : i < fs.length := by simpa using hlt
    obtain ⟨ps, c, f, f1, f2, f3, f4, f5⟩ := hv.at (n := (i : Int)) (by omega) (by omega)
    obtain ⟨ps', c', g, g1, g2, g3, g4, g5⟩ := hv'.at (n := (i : Int)) (by omega) (by omega)
    rw [Int.toNat_natCast] at f1 g1
    refine sls_ld h3 f2 (by omega) f3 ?_
    refine al_rule h3 (l := [vI 0, .slice none 0 0]) (by kernel_rfl) (fun bx w4 h4 => ?_)
    refine st_here (A := []) h4 [vI f.regs, c] rfl rfl (by simp only [List.all_cons, sls_plain f4]; rfl) (by simp) (fun w5 h5 => ?_)
    simp only [List.take_zero, List.nil_append, Nat.zero_add, List.drop_succ_cons, List.drop_zero, List.drop_nil, List.append_nil] at h5
    refine sls_ld h5 (g2.mono fun x hx => .tail _ hx) (by omega) g3 ?_
    refine al_rule h5 (l := [vI 0, .slice none 0 0]) (by kernel_rfl) (fun by' w6 h6 => ?_)
    refine st_here (A := []) h6 [vI g.regs, c'] rfl rfl (by simp only [List.all_cons, sls_plain g4]; rfl) (by simp) (fun w7 h7 => ?_)
    simp only [List.take_zero, List.nil_append, Nat.zero_add, List.drop_succ_cons, List.drop_zero, List.drop_nil, List.append_nil] at h7
    refine ldn_here h7 (.tail _ (.head _)) (vs := [vI f.regs, c]) rfl rfl ?_
    refine ldn_here h7 (.head _) (vs := [vI g.regs, c']) rfl rfl ?_
    refine same1_pf f4 g4 [_, _] _ _ _ h7 (fun w8 h8 => ?_)
    have h8 : Ow B w8 H := Ow.drop (Ow.drop h8)
    repeat (first | refine pu_not ?_ | refine pu_eql ?_ | refine pu_neq ?_ | refine pu_lss ?_ | refine pu_leq ?_ | refine pu_gtr ?_ | refine pu_geq ?_ | refine pu_add ?_ | refine pu_sub ?_ | refine pu_mul ?_ | refine pu_neg ?_ | refine fa_at ?_ | refine nl_ptr ?_ | refine ex20 ?_ | refine ex21 ?_ | refine ex30 ?_ | refine ex31 ?_ | refine ex32 ?_ | refine ln_rule ?_ | refine lnT_rule ?_ | refine pu_and ?_ | refine pu_or ?_ | refine pu_xor ?_ | refine pu_seq ?_ | refine pu_sne ?_)
    refine cnd (fun hn => ?_) (fun hn => ?_)
    · have hn : ¬ f = g := by simpa using hn
      have : decide (fs = gs) = false := decide_eq_false fun h => by
        rw [h, g1] at f1
        exact hn (Option.some.inj f1).symm
      rw [this] at k
      exact k _ h8
    · have hn : f = g := by simpa using hn
      repeat (first | refine pu_not ?_ | refine pu_eql ?_ | refine pu_neq ?_ | refine pu_lss ?_ | refine pu_leq ?_ | refine pu_gtr ?_ | refine pu_geq ?_ | refine pu_add ?_ | refine pu_sub ?_ | refine pu_mul ?_ | refine pu_neg ?_ | refine fa_at ?_ | refine nl_ptr ?_ | refine ex20 ?_ | refine ex21 ?_ | refine ex30 ?_ | refine ex31 ?_ | refine ex32 ?_ | refine ln_rule ?_ | refine lnT_rule ?_ | refine pu_and ?_ | refine pu_or ?_ | refine pu_xor ?_ | refine pu_seq ?_ | refine pu_sne ?_)
      rw [wrap64_in (by omega) (by omega)]
      refine ⟨⟨i + 1, rfl, hlt, fun j hj => ?_, h8⟩, by simp; omega⟩
      rcases Nat.lt_succ_iff_lt_or_eq.1 hj with hj | rfl
      · exact hall j hj
      · rw [f1, g1, hn]
  · have : decide (fs = gs) = true := by
      simp only [decide_eq_true_eq]
      refine List.ext_getElem? fun j => ?_
      by_cases hj : j < fs.length
      · exact hall j (by simp at hlt; omega)
      · rw [List.getElem?_eq_none (by omega), List.getElem?_eq_none (by omega)]
    rw [this] at k
    exact k _ h3
theorem pr_ne : decide (p = q) = (decide (p.mu = q.mu) && (decide (p.rw = q.rw) && (decide (p.gr = q.gr) && decide (p.fs = q.fs)))) := by
  cases p; cases q
  by_cases h1 : ‹Int› = ‹Int› <;> simp [Bool.decide_and]
  all_goals (rw [Bool.eq_iff_iff]; simp; constructor <;> (intro h; obtain ⟨a, b, c, d⟩ := h; exact ⟨by assumption, by assumption, by assumption, by assumption⟩))
theorem same_spec (hv : fsIn X v p.fs) (hv' : fsIn X v' q.fs) (hX : ∀ x, x ∈ X → x ∈ H) (h : Ow B w H) (k : ∀ w', Ow B w' H → K (vB (decide (p = q))) w') : callW PG N.program_Same [.agg (p.cells v).toArray, .agg (q.cells v').toArray] K PK w := by
  refine program_Same.ok ?_
  unfold program_Same.C
  rw [pr_ne] at k
  refine al_rule h (l := p.cells v) rfl (fun b2 w1 h1 => ?_)
  refine al_rule h1 (l := q.cells v') rfl (fun b4 w2 h2 => ?_)
  have hXX : ∀ x, x ∈ X → x ∈ (b4, cel (q.cells v') T.t_api_Program) :: (b2, cel (p.cells v) T.t_api_Program) :: H := fun x hx => .tail _ (.tail _ (hX x hx))
  repeat (first | refine pu_not ?_ | refine pu_eql ?_ | refine pu_neq ?_ | refine pu_lss ?_ | refine pu_leq ?_ | refine pu_gtr ?_ | refine pu_geq ?_ | refine pu_add ?_ | refine pu_sub ?_ | refine pu_mul ?_ | refine pu_neg ?_ | refine fa_at ?_ | refine nl_ptr ?_ | refine ex20 ?_ | refine ex21 ?_ | refine ex30 ?_ | refine ex31 ?_ | refine ex32 ?_ | refine ln_rule ?_ | refine lnT_rule ?_ | refine pu_and ?_ | refine pu_or ?_ | refine pu_xor ?_ | refine pu_seq ?_ | refine pu_sne ?_)
  refine ld_here h2 (.tail _ (.head _)) (v := vI p.mu) rfl ?_
  repeat (first | refine pu_not ?_ | refine pu_eql ?_ | refine pu_neq ?_ | refine pu_lss ?_ | refine pu_leq ?_ | refine pu_gtr ?_ | refine pu_geq ?_ | refine pu_add ?_ | refine pu_sub ?_ | refine pu_mul ?_ | refine pu_neg ?_ | refine fa_at ?_ | refine nl_ptr ?_ | refine ex20 ?_ | refine ex21 ?_ | refine ex30 ?_ | refine ex31 ?_ | refine ex32 ?_ | refine ln_rule ?_ | refine lnT_rule ?_ | refine pu_and ?_ | refine pu_or ?_ | refine pu_xor ?_ | refine pu_seq ?_ | refine pu_sne ?_)
  refine ld_here h2 (.head _) (v := vI q.mu) rfl ?_
  repeat (first | refine pu_not ?_ | refine pu_eql ?_ | refine pu_neq ?_ | refine pu_lss ?_ | refine pu_leq ?_ | refine pu_gtr ?_ | refine pu_geq ?_ | refine pu_add ?_ | refine pu_sub ?_ | refine pu_mul ?_ | refine pu_neg ?_ | refine fa_at ?_ | refine nl_ptr ?_ | refine ex20 ?_ | refine ex21 ?_ | refine ex30 ?_ | refine ex31 ?_ | refine ex32 ?_ | refine ln_rule ?_ | refine lnT_rule ?_ | refine pu_and ?_ | refine pu_or ?_ | refine pu_xor ?_ | refine pu_seq ?_ | refine pu_sne ?_)
  refine cnd (fun hq => ?_) (fun hq => ?_)
  · have hq : p.mu = q.mu := by simpa using hq
    rw [decide_eq_true hq, Bool.true_and] at k
    repeat (first | refine pu_not ?_ | refine pu_eql ?_ | refine pu_neq ?_ | refine pu_lss ?_ | refine pu_leq ?_ | refine pu_gtr ?_ | refine pu_geq ?_ | refine pu_add ?_ | refine pu_sub ?_ | refine pu_mul ?_ | refine pu_neg ?_ | refine fa_at ?_ | refine nl_ptr ?_ | refine ex20 ?_ | refine ex21 ?_ | refine ex30 ?_ | refine ex31 ?_ | refine ex32 ?_ | refine ln_rule ?_ | refine lnT_rule ?_ | refine pu_and ?_ | refine pu_or ?_ | refine pu_xor ?_ | refine pu_seq ?_ | refine pu_sne ?_)
    refine ld_here h2 (.tail _ (.head _)) (v := vI p.rw) rfl ?_
    repeat (first | refine pu_not ?_ | refine pu_eql ?_ | refine pu_neq ?_ | refine pu_lss ?_ | refine pu_leq ?_ | refine pu_gtr ?_ | refine pu_geq ?_ | refine pu_add ?_ | refine pu_sub ?_ | refine pu_mul ?_ | refine pu_neg ?_ | refine fa_at ?_ | refine nl_ptr ?_ | refine ex20 ?_ | refine ex21 ?_ | refine ex30 ?_ | refine ex31 ?_ | refine ex32 ?_ | refine ln_rule ?_ | refine lnT_rule ?_ | refine pu_and ?_ | refine pu_or ?_ | refine pu_xor ?_ | refine pu_seq ?_ | refine pu_sne ?_)
    refine ld_here h2 (.head _) (v := vI q.rw) rfl ?_
    repeat (first | refine pu_not ?_ | refine pu_eql ?_ | refine pu_neq ?_ | refine pu_lss ?_ | refine pu_leq ?_ | refine pu_gtr ?_ | refine pu_geq ?_ | refine pu_add ?_ | refine pu_sub ?_ | refine pu_mul ?_ | refine pu_neg ?_ | refine fa_at ?_ | refine nl_ptr ?_ | refine ex20 ?_ | refine ex21 ?_ | refine ex30 ?_ | refine ex31 ?_ | refine ex32 ?_ | refine ln_rule ?_ | refine lnT_rule ?_ | refine pu_and ?_ | refine pu_or ?_ | refine pu_xor ?_ | refine pu_seq ?_ | refine pu_sne ?_)
    refine cnd (fun hq => ?_) (fun hq => ?_)
    · have hq : p.rw = q.rw := by simpa using hq
      rw [decide_eq_true hq, Bool.true_and] at k
      repeat (first | refine pu_not ?_ | refine pu_eql ?_ | refine pu_neq ?_ | refine pu_lss ?_ | refine pu_leq ?_ | refine pu_gtr ?_ | refine pu_geq ?_ | refine pu_add ?_ | refine pu_sub ?_ | refine pu_mul ?_ | refine pu_neg ?_ | refine fa_at ?_ | refine nl_ptr ?_ | refine ex20 ?_ | refine ex21 ?_ | refine ex30 ?_ | refine ex31 ?_ | refine ex32 ?_ | refine ln_rule ?_ | refine lnT_rule ?_ | refine pu_and ?_ | refine pu_or ?_ | refine pu_xor ?_ | refine pu_seq ?_ | refine pu_sne ?_)
      refine ld_here h2 (.tail _ (.head _)) (v := vI p.gr) rfl ?_
      repeat (first | refine pu_not ?_ | refine pu_eql ?_ | refine pu_neq ?_ | refine pu_lss ?_ | refine pu_leq ?_ | refine pu_gtr ?_ | refine pu_geq ?_ | refine pu_add ?_ | refine pu_sub ?_ | refine pu_mul ?_ | refine pu_neg ?_ | refine fa_at ?_ | refine nl_ptr ?_ | refine ex20 ?_ | refine ex21 ?_ | refine ex30 ?_ | refine ex31 ?_ | refine ex32 ?_ | refine ln_rule ?_ | refine lnT_rule ?_ | refine pu_and ?_ | refine pu_or ?_ | refine pu_xor ?_ | refine pu_seq ?_ | refine pu_sne ?_)
      refine ld_here h2 (.head _) (v := vI q.gr) rfl ?_
      repeat (first | refine pu_not ?_ | refine pu_eql ?_ | refine pu_neq ?_ | refine pu_lss ?_ | refine pu_leq ?_ | refine pu_gtr ?_ | refine pu_geq ?_ | refine pu_add ?_ | refine pu_sub ?_ | refine pu_mul ?_ | refine pu_neg ?_ | refine fa_at ?_ | refine nl_ptr ?_ | refine ex20 ?_ | refine ex21 ?_ | refine ex30 ?_ | refine ex31 ?_ | refine ex32 ?_ | refine ln_rule ?_ | refine lnT_rule ?_ | refine pu_and ?_ | refine pu_or ?_ | refine pu_xor ?_ | refine pu_seq ?_ | refine pu_sne ?_)
      refine cnd (fun hq => ?_) (fun hq => ?_)
      · have hq : p.gr = q.gr := by simpa using hq
        rw [decide_eq_true hq, Bool.true_and] at k
        repeat (first | refine pu_not ?_ | refine pu_eql ?_ | refine pu_neq ?_ | refine pu_lss ?_ | refine pu_leq ?_ | refine pu_gtr ?_ | refine pu_geq ?_ | refine pu_add ?_ | refine pu_sub ?_ | refine pu_mul ?_ | refine pu_neg ?_ | refine fa_at ?_ | refine nl_ptr ?_ | refine ex20 ?_ | refine ex21 ?_ | refine ex30 ?_ | refine ex31 ?_ | refine ex32 ?_ | refine ln_rule ?_ | refine lnT_rule ?_ | refine pu_and ?_ | refine pu_or ?_ | refine pu_xor ?_ | refine pu_seq ?_ | refine pu_sne ?_)
        refine ld_here h2 (.tail _ (.head _)) (v := v) rfl ?_
        repeat (first | refine pu_not ?_ | refine pu_eql ?_ | refine pu_neq ?_ | refine pu_lss ?_ | refine pu_leq ?_ | refine pu_gtr ?_ | refine pu_geq ?_ | refine pu_add ?_ | refine pu_sub ?_ | refine pu_mul ?_ | refine pu_neg ?_ | refine fa_at ?_ | refine nl_ptr ?_ | refine ex20 ?_ | refine ex21 ?_ | refine ex30 ?_ | refine ex31 ?_ | refine ex32 ?_ | refine ln_rule ?_ | refine lnT_rule ?_ | refine pu_and ?_ | refine pu_or ?_ | refine pu_xor ?_ | refine pu_seq ?_ | refine pu_sne ?_)
        refine ld_here h2 (.head _) (v := v') rfl ?_
        refine equalFunc_spec h2 (hv.mono hXX) (hv'.mono hXX) (fun w3 h3 => ?_)
        exact k _ h3.drop.drop
      · have hq : ¬ p.gr = q.gr := by simpa using hq
        rw [decide_eq_false hq, Bool.false_and] at k
        exact k _ h2.drop.drop
    · have hq : ¬ p.rw = q.rw := by simpa using hq
      rw [decide_eq_false hq, Bool.false_and] at k
      exact k _ h2.drop.drop
  · have hq : ¬ p.mu = q.mu := by simpa using hq
    rw [decide_eq_false hq, Bool.false_and] at k
    exact k _ h2.drop.drop
end
end Go.Proofs.YtkkkcafkepnecaaGreat

/-! Programs: copies. -/
set_option linter.unusedVariables false
set_option linter.unusedSimpArgs false
namespace Go.Proofs.YtkkkcafkepnecaaGreat.Vc
open Go Go.RowKit
section
variable {P : Program} {B w : World} {H : Hp} {K : Value → Prop} {KU : World → Prop} {t e : TypeId}
theorem eq_slnil {t e : TypeId} (ht : P.underlying t = some (.slice e)) (a : Option Addr) (n c : Nat) (w : World) : (Op.equal t (.slice a n c) (.slice none 0 0)).run P w = .ok a.isNone w := by
  have : ∀ d, (Op.equalIn (d + 1) t (.slice a n c) (.slice none 0 0)).run P w = .ok a.isNone w := fun d => by cases a <;> simp only [Op.equalIn, Sem.run_bind, run_und ht, Result.andThen, Sem.run_pure, Option.isNone]
  exact this 9999
theorem pu_slnil {t e : TypeId} {c : Bool} {KK : Value → Prop} (ht : P.underlying t = some (.slice e)) {a : Option Addr} {n cc : Nat} (k : KK (vB a.isNone)) : pu P (binV .eql t c (.slice a n cc) (.slice none 0 0)) KK :=
  pu_of (binV_run rfl (fun w => run_eqB (eq_slnil ht a n cc w))) k
theorem flatten_len' {size : Nat} : ∀ {rows : List (List Value)}, (∀ x ∈ rows, x.length = size) → rows.flatten.length = rows.length * size
  | [], _ => by simp
  | x :: rows, h => by
    rw [List.flatten_cons, List.length_append, h x (.head _), flatten_len' fun y hy => h y (.tail _ hy), List.length_cons, Nat.add_mul, Nat.one_mul]
    omega
theorem flatten_setf {size j : Nat} {x : Value} {r : List Value} : ∀ {rows : List (List Value)} {i : Nat}, (∀ x ∈ rows, x.length = size) → rows[i]? = some r → j < size → rows.flatten.set (i * size + j) x = (rows.set i (r.set j x)).flatten
  | [], i, _, h, _ => by simp at h
  | z :: rows, 0, hz, h, hj => by
    simp only [List.getElem?_cons_zero, Option.some.injEq] at h
    subst h
    have hl := hz z (.head _)
    rw [List.flatten_cons, List.set_cons_zero, List.flatten_cons, Nat.zero_mul, Nat.zero_add, List.set_append_left _ _ (by omega)]
  | z :: rows, i + 1, hz, h, hj => by
    have hzl := hz z (.head _)
    have e : (i + 1) * size + j = size + (i * size + j) := by rw [Nat.add_mul, Nat.one_mul]; omega
    rw [List.flatten_cons, List.set_cons_succ, List.flatten_cons, List.set_append_right _ _ (by omega), hzl, e, Nat.add_sub_cancel_left, flatten_setf (fun x hx => hz x (.tail _ hx)) (by simpa using h) hj]
/-- A write at a field of an element of an own slice. -/
theorem own_setf {A C S : Hp} {v x : Value} {size j : Nat} {rows : List (List Value)} {r : List Value} {i : Int} {kd : IntKind} (h : Ow B w (A ++ S ++ C)) (ho : Own S e size v rows.length rows.flatten) (hl : ∀ x ∈ rows, x.length = size) (h0 : 0 ≤ i) (hr : rows[i.toNat]? = some r) (hj : j < size)
    (hc : x.cells = #[x]) (hp : plainV x = true) (k : ∀ S' w', Ow B w' (A ++ S' ++ C) → Own S' e size v rows.length (rows.set i.toNat (r.set j x)).flatten → KU w') : ixS size v (.int kd i) fun p => faW j p fun q => stW 1 q x KU w := by
  have hlt := (List.getElem?_eq_some_iff.1 hr).1
  have hfl := flatten_len' hl
  obtain ⟨hl0, ⟨rfl, rfl, h00⟩ | ⟨g, cap, l, rfl, rfl, hcap, hm, hlen, hx⟩⟩ := ho
  · omega
  · have hb : i.toNat * size + j < rows.length * size := by
      have : (i.toNat + 1) * size ≤ rows.length * size := Nat.mul_le_mul_right _ hlt
      rw [Nat.add_mul, Nat.one_mul] at this
      omega
    have hcs : rows.length * size ≤ cap * size := Nat.mul_le_mul_right _ hcap
    refine ixS_at h0 (by omega) ?_
    refine fa_at ?_
    have h' : Ow B w (A ++ (g, cel l e) :: C) := by simpa using h
    refine st1_here h' hc hp (by omega) (fun w' hw' => ?_)
    simp only [Nat.zero_add] at hw'
    refine k [(g, cel (l.set (i.toNat * size + j) x) e)] w' (by simpa using hw') ?_
    refine Own.mk hcap hm (by simpa using hlen) ?_
    rw [List.take_set, hx, flatten_setf hl hr hj]
end
end Go.Proofs.YtkkkcafkepnecaaGreat.Vc
namespace Go.Proofs.YtkkkcafkepnecaaGreat
open Go Go.RowKit Vc
attribute [local irreducible] binV Op.unary convert nlW faW ldS ldW ixS ixA ixV ixT exW lnS lnT pu stW alW opW opU bsW mkW

section
variable {B w : World} {H X : Hp} {K : Value → World → Prop} {PK : List PanicEntry → World → Prop} {KK : Value → Prop} {v v' : Value} {p q : Pr}
theorem info_func : (PG.info? T.t_api_Func).map (fun i => (i.zero, i.size, i.bytes)) = some (some (.agg #[vI 0, .slice none 0 0]), 2, 32) := by kernel_rfl
theorem info_ins : (PG.info? T.t_api_Ins).map (fun i => (i.zero, i.size, i.bytes)) = some (some (.agg #[vI 0, vI 0, vI 0, vI 0, .int .u32 0]), 5, 40) := by kernel_rfl
theorem cloneF_spec {s : Value} {rows : List (List Value)} (h : Ow B w H) (hs : Sls X s 2 rows) (hp : rows.flatten.all plainV = true) (hX : ∀ x, x ∈ X → x ∈ H) (hl : rows.length ≤ 1000) (k : ∀ S v w', Ow B w' (S ++ H) → Vc.Own S T.t_api_Func 2 v rows.length rows.flatten → K v w') : callW PG N.slices_Clone_sl_api_Func_api_Func [s] K PK w := by
  refine slices_Clone_sl_api_Func_api_Func.ok ?_
  unfold slices_Clone_sl_api_Func_api_Func.C
  obtain ⟨a, cap, hse, q1, q2, q3, q4⟩ := id hs
  have hgoal : ∀ (KK : Value → Prop), KK (vB a.isNone) → pu PG (binV .eql T.t_sl_api_Func true s (.slice none 0 0)) KK := fun KK k => by
    rw [hse]; exact pu_slnil und_slfunc k
  refine hgoal _ ?_
  refine cnd (fun hn => ?_) (fun hn => ?_)
  · have ha : a = none := by simpa using hn
    have : rows = [] := by
      cases rows with
      | nil => rfl
      | cons x l => obtain ⟨p, hp, _⟩ := q4 0 x rfl; rw [ha] at hp; cases hp
    subst this
    exact k [] _ _ h (own_none _ _)
  · refine bs_rule h [] (by kernel_rfl) (fun b1 w1 h1 => ?_)
    obtain ⟨inf, i1, i2, i3, i4⟩ := info_of info_func
    have hfl := flatten_len' q3
    refine app_rule (A := []) (S := [(b1, cel [] T.t_api_Func)]) (xs := []) (n := 0) (m := rows.length) (ys := rows.flatten) (H := X) h1 (Own.mk (n := 0) (cap := 0) (xs := []) (Nat.le_refl _) (Nat.zero_le _) rfl rfl) ⟨hfl, a, cap, hse, fun j y hj => ?_⟩ (fun y hy => .tail _ (hX y hy)) hp und_slfunc i1 i2 i3 i4 rfl (by omega) (by simp [maxLen]; omega) (by omega) (fun S p w2 h2 ho => ?_)
    · have hjl := (List.getElem?_eq_some_iff.1 hj).1
      have hd : j / 2 < rows.length := by omega
      obtain ⟨p, hpa, hc⟩ := q4 (j / 2) rows[j / 2] (List.getElem?_eq_getElem hd)
      refine ⟨p, hpa, ?_⟩
      have hxl := q3 _ (List.getElem_mem hd)
      have hr : rows[j / 2][j % 2]? = some (rows[j / 2][j % 2]'(by omega)) := List.getElem?_eq_getElem _
      have := flatten_at hr rows (j / 2) q3 (List.getElem?_eq_getElem hd)
      rw [show j / 2 * 2 + j % 2 = j by omega, hj] at this
      have h2 := hc (j % 2) _ hr
      rw [show j / 2 * 2 + j % 2 = j by omega, ← Option.some.inj this] at h2
      exact h2
    · refine k S p w2 h2 ?_
      simpa using ho
theorem cloneI_spec {s : Value} {rows : List (List Value)} (h : Ow B w H) (hs : Sls X s 5 rows) (hp : rows.flatten.all plainV = true) (hX : ∀ x, x ∈ X → x ∈ H) (hl : rows.length ≤ 2000) (k : ∀ S v w', Ow B w' (S ++ H) → Vc.Own S T.t_api_Ins 5 v rows.length rows.flatten → K v w') : callW PG N.slices_Clone_sl_api_Ins_api_Ins [s] K PK w := by
  refine slices_Clone_sl_api_Ins_api_Ins.ok ?_
  unfold slices_Clone_sl_api_Ins_api_Ins.C
  obtain ⟨a, cap, hse, q1, q2, q3, q4⟩ := id hs
  have hgoal : ∀ (KK : Value → Prop), KK (vB a.isNone) → pu PG (binV .eql T.t_sl_api_Ins true s (.slice none 0 0)) KK := fun KK k => by
    rw [hse]; exact pu_slnil und_slins k
  refine hgoal _ ?_
  refine cnd (fun hn => ?_) (fun hn => ?_)
  · have ha : a = none := by simpa using hn
    have : rows = [] := by
      cases rows with
      | nil => rfl
      | cons x l => obtain ⟨p, hp, _⟩ := q4 0 x rfl; rw [ha] at hp; cases hp
    subst this
    exact k [] _ _ h (own_none _ _)
  · refine bs_rule h [] (by kernel_rfl) (fun b1 w1 h1 => ?_)
    obtain ⟨inf, i1, i2, i3, i4⟩ := info_of info_ins
    have hfl := flatten_len' q3
    refine app_rule (A := []) (S := [(b1, cel [] T.t_api_Ins)]) (xs := []) (n := 0) (m := rows.length) (ys := rows.flatten) (H := X) h1 (Own.mk (n := 0) (cap := 0) (xs := []) (Nat.le_refl _) (Nat.zero_le _) rfl rfl) ⟨hfl, a, cap, hse, fun j y hj => ?_⟩ (fun y hy => .tail _ (hX y hy)) hp und_slins i1 i2 i3 i4 rfl (by omega) (by simp [maxLen]; omega) (by omega) (fun S p w2 h2 ho => ?_)
    · have hjl := (List.getElem?_eq_some_iff.1 hj).1
      have hd : j / 5 < rows.length := by omega
      obtain ⟨p, hpa, hc⟩ := q4 (j / 5) rows[j / 5] (List.getElem?_eq_getElem hd)
      refine ⟨p, hpa, ?_⟩
      have hxl := q3 _ (List.getElem_mem hd)
      have hr : rows[j / 5][j % 5]? = some (rows[j / 5][j % 5]'(by omega)) := List.getElem?_eq_getElem _
      have := flatten_at hr rows (j / 5) q3 (List.getElem?_eq_getElem hd)
      rw [show j / 5 * 5 + j % 5 = j by omega, hj] at this
      have h2 := hc (j % 5) _ hr
      rw [show j / 5 * 5 + j % 5 = j by omega, ← Option.some.inj this] at h2
      exact h2
    · refine k S p w2 h2 ?_
      simpa using ho
/-- A function that is owned. -/
structure CE where
  S : Hp
  c : Value
  f : Fun
def CE.ok (e : CE) : Prop := Vc.Own e.S T.t_api_Ins 5 e.c (icode e.f.code).length (icode e.f.code).flatten
def crow (e : CE) : List Value := [vI e.f.regs, e.c]
def crows (es : List CE) : List (List Value) := es.map crow
def cfoot (es : List CE) : Hp := es.flatMap CE.S
theorem crows_two (es : List CE) : ∀ x ∈ crows es, x.length = 2 := fun x hx => by
  obtain ⟨e, _, rfl⟩ := List.mem_map.1 hx
  rfl
theorem icode_five (l : List Ins) : ∀ x ∈ icode l, x.length = 5 := fun x hx => by
  obtain ⟨e, _, rfl⟩ := List.mem_map.1 hx
  rfl
theorem icode_plain (l : List Ins) : (icode l).flatten.all plainV = true := by
  refine List.all_eq_true.2 fun u hu => ?_
  obtain ⟨x, hx, hu⟩ := List.mem_flatten.1 hu
  obtain ⟨i, _, rfl⟩ := List.mem_map.1 hx
  exact List.all_eq_true.1 (ins_plain i) u hu
theorem frows_two (ps : List (Value × Fun)) : ∀ x ∈ frows ps, x.length = 2 := fun x hx => by
  obtain ⟨e, _, rfl⟩ := List.mem_map.1 hx
  rfl
theorem CE.sls {e : CE} (h : e.ok) : Sls e.S e.c 5 (icode e.f.code) := own_sls (icode_five _) h
/-- A program's functions, all of them owned. -/
def CpP (F : Hp) (v : Value) (fs : List Fun) : Prop := ∃ (Sf : Hp) (es : List CE), es.map CE.f = fs ∧ (∀ e ∈ es, e.ok) ∧ Vc.Own Sf T.t_api_Func 2 v (crows es).length (crows es).flatten ∧ F = Sf ++ cfoot es
theorem CpP.ins {F : Hp} {fs : List Fun} (h : CpP F v fs) (hm : ∀ f ∈ fs, immOk f.code) : fsIn F v fs := by
  obtain ⟨Sf, es, h1, h2, h3, rfl⟩ := h
  refine ⟨es.map fun e => (e.c, e.f), ?_, ?_, ?_⟩
  · rw [List.map_map, ← h1]; rfl
  · have : frows (es.map fun e => (e.c, e.f)) = crows es := by
      unfold frows crows
      rw [List.map_map]; rfl
    rw [this]
    exact (own_sls (crows_two es) h3).mono fun x hx => List.mem_append_left _ hx
  · intro q hq
    obtain ⟨e, he, rfl⟩ := List.mem_map.1 hq
    exact ⟨(CE.sls (h2 e he)).mono fun x hx => List.mem_append_right _ (List.mem_flatMap.2 ⟨e, he, hx⟩), hm _ (by rw [← h1]; exact List.mem_map_of_mem he)⟩
theorem copy_spec (hv : fsIn X v p.fs) (hX : ∀ x, x ∈ X → x ∈ H) (hlen : p.fs.length ≤ 1000) (hc : ∀ f ∈ p.fs, f.code.length ≤ 2000) (h : Ow B w H) (k : ∀ F v' w', CpP F v' p.fs → Ow B w' (F ++ H) → K (.agg (p.cells v').toArray) w') : callW PG N.program_Copy [.agg (p.cells v).toArray] K PK w := by
  refine program_Copy.ok ?_
  unfold program_Copy.C
  obtain ⟨ps, e1, e2, e3⟩ := hv
  have hpl : ps.length = p.fs.length := by rw [← e1]; simp
  have hfl : (frows ps).length = ps.length := by simp [frows]
  refine al_rule h (l := p.cells v) rfl (fun b2 w1 h1 => ?_)
  refine al_rule h1 (l := [.slice none 0 0, vI 0, vI 0, vI 0]) (by kernel_rfl) (fun b4 w2 h2 => ?_)
  repeat (first | refine pu_not ?_ | refine pu_eql ?_ | refine pu_neq ?_ | refine pu_lss ?_ | refine pu_leq ?_ | refine pu_gtr ?_ | refine pu_geq ?_ | refine pu_add ?_ | refine pu_sub ?_ | refine pu_mul ?_ | refine pu_neg ?_ | refine fa_at ?_ | refine nl_ptr ?_ | refine ex20 ?_ | refine ex21 ?_ | refine ex30 ?_ | refine ex31 ?_ | refine ex32 ?_ | refine ln_rule ?_ | refine lnT_rule ?_ | refine pu_and ?_ | refine pu_or ?_ | refine pu_xor ?_ | refine pu_seq ?_ | refine pu_sne ?_)
  refine ld_here h2 (.tail _ (.head _)) (v := v) rfl ?_
  have hfp : (frows ps).flatten.all plainV = true := by
    refine List.all_eq_true.2 fun u hu => ?_
    obtain ⟨x, hx, hu⟩ := List.mem_flatten.1 hu
    obtain ⟨q, hq, rfl⟩ := List.mem_map.1 hx
    rcases List.mem_cons.1 hu with rfl | hu
    · rfl
    · rw [List.mem_singleton.1 hu]; exact sls_plain (e3 q hq).1
  refine cloneF_spec h2 e2 hfp (fun x hx => .tail _ (.tail _ (hX x hx))) (by omega) (fun S v' w3 h3 ho => ?_)
  obtain ⟨a0, c0, hv'⟩ := ho.len
  have hvp : plainV v' = true := by rw [hv']; rfl
  have hvc : v'.cells = #[v'] := by rw [hv']; rfl
  repeat (first | refine pu_not ?_ | refine pu_eql ?_ | refine pu_neq ?_ | refine pu_lss ?_ | refine pu_leq ?_ | refine pu_gtr ?_ | refine pu_geq ?_ | refine pu_add ?_ | refine pu_sub ?_ | refine pu_mul ?_ | refine pu_neg ?_ | refine fa_at ?_ | refine nl_ptr ?_ | refine ex20 ?_ | refine ex21 ?_ | refine ex30 ?_ | refine ex31 ?_ | refine ex32 ?_ | refine ln_rule ?_ | refine lnT_rule ?_ | refine pu_and ?_ | refine pu_or ?_ | refine pu_xor ?_ | refine pu_seq ?_ | refine pu_sne ?_)
  have h3 : Ow B w3 ((S ++ [(b4, cel [.slice none 0 0, vI 0, vI 0, vI 0] T.t_api_Program)]) ++ (b2, cel (p.cells v) T.t_api_Program) :: H) := by simpa using h3
  refine st1_here h3 hvc hvp (by simp [Pr.cells]) (fun w4 h4 => ?_)
  have e4 : (p.cells v).set (0 + 0) v' = p.cells v' := rfl
  rw [e4] at h4
  have h4 : Ow B w4 (S ++ ([] ++ ((b4, cel [.slice none 0 0, vI 0, vI 0, vI 0] T.t_api_Program) :: (b2, cel (p.cells v') T.t_api_Program) :: H))) := by simpa using h4
  repeat (first | refine pu_not ?_ | refine pu_eql ?_ | refine pu_neq ?_ | refine pu_lss ?_ | refine pu_leq ?_ | refine pu_gtr ?_ | refine pu_geq ?_ | refine pu_add ?_ | refine pu_sub ?_ | refine pu_mul ?_ | refine pu_neg ?_ | refine fa_at ?_ | refine nl_ptr ?_ | refine ex20 ?_ | refine ex21 ?_ | refine ex30 ?_ | refine ex31 ?_ | refine ex32 ?_ | refine ln_rule ?_ | refine lnT_rule ?_ | refine pu_and ?_ | refine pu_or ?_ | refine pu_xor ?_ | refine pu_seq ?_ | refine pu_sne ?_)
  refine ld_here h4 (List.mem_append_right _ (.tail _ (.head _))) (v := v') rfl ?_
  have hln : ∀ KK : Value → Prop, KK (vI ps.length) → lnS v' KK := fun KK kk => by rw [hv', ← hfl] at *; exact ln_rule kk
  refine hln _ ?_
  generalize hR : (b4, cel [.slice none 0 0, vI 0, vI 0, vI 0] T.t_api_Program) :: (b2, cel (p.cells v') T.t_api_Program) :: H = R at *
  have m2 : (b2, cel (p.cells v') T.t_api_Program) ∈ R := by rw [← hR]; exact .tail _ (.head _)
  have mX : ∀ x, x ∈ X → x ∈ R := fun x hx => by rw [← hR]; exact .tail _ (.tail _ (hX x hx))
  refine ⟨fun l w => ∃ (n : Nat) (Sf : Hp) (don : List CE), l = [vI n] ∧ n ≤ ps.length ∧ don.length = n ∧ don.map CE.f = p.fs.take n ∧ (∀ e ∈ don, e.ok) ∧ Vc.Own Sf T.t_api_Func 2 v' (crows don ++ (frows ps).drop n).length (crows don ++ (frows ps).drop n).flatten ∧ Ow B w (Sf ++ (cfoot don ++ R)),
    fun l _ => match l with | [.int _ q] => ps.length - q.toNat | _ => 0, ⟨0, S, [], rfl, Nat.zero_le _, rfl, rfl, by simp, by simpa [crows] using ho, h4⟩, ?_⟩
  clear h4 h3 h2 h1 ho
  rintro l w5 ⟨n, Sf, don, rfl, hn, hdl, hdf, hdo, ho, h5⟩ j
  have two : ∀ x ∈ crows don ++ (frows ps).drop n, x.length = 2 := fun x hx => (List.mem_append.1 hx).elim (crows_two don x) fun h => frows_two ps x (List.mem_of_mem_drop h)
  have hcl : (crows don).length = n := by simp [crows, hdl]
  repeat (first | refine pu_not ?_ | refine pu_eql ?_ | refine pu_neq ?_ | refine pu_lss ?_ | refine pu_leq ?_ | refine pu_gtr ?_ | refine pu_geq ?_ | refine pu_add ?_ | refine pu_sub ?_ | refine pu_mul ?_ | refine pu_neg ?_ | refine fa_at ?_ | refine nl_ptr ?_ | refine ex20 ?_ | refine ex21 ?_ | refine ex30 ?_ | refine ex31 ?_ | refine ex32 ?_ | refine ln_rule ?_ | refine lnT_rule ?_ | refine pu_and ?_ | refine pu_or ?_ | refine pu_xor ?_ | refine pu_seq ?_ | refine pu_sne ?_)
  refine cnd (fun hlt => ?_) (fun hlt => ?_)
  · have hlt : n < ps.length := by simpa using hlt
    obtain ⟨⟨c, f⟩, hq⟩ : ∃ q, ps[n]? = some q := ⟨_, List.getElem?_eq_getElem hlt⟩
    have hf : p.fs[n]? = some f := by rw [← e1, List.getElem?_map, hq]; rfl
    obtain ⟨q1, q2⟩ := e3 _ (List.mem_of_getElem? hq)
    have hdrop : (frows ps).drop n = [vI f.regs, c] :: (frows ps).drop (n + 1) := by
      rw [List.drop_eq_getElem_cons (by omega)]
      congr 1
      have : (frows ps)[n]? = some [vI f.regs, c] := by rw [frows, List.getElem?_map, hq]; rfl
      rw [List.getElem?_eq_getElem (by omega)] at this
      exact Option.some.inj this
    have hat : (crows don ++ (frows ps).drop n)[(n : Int).toNat]? = some [vI f.regs, c] := by
      rw [Int.toNat_natCast, List.getElem?_append_right (by omega), hcl, Nat.sub_self, hdrop]; rfl
    refine sls_ld h5 ((own_sls two ho).mono fun x hx => List.mem_append_left _ hx) (by omega) hat ?_
    refine al_rule h5 (l := [vI 0, .slice none 0 0]) (by kernel_rfl) (fun b6 w6 h6 => ?_)
    refine st_here (A := []) h6 [vI f.regs, c] rfl rfl (by simp only [List.all_cons, sls_plain q1]; rfl) (by simp) (fun w7 h7 => ?_)
    simp only [List.take_zero, List.nil_append, Nat.zero_add, List.drop_succ_cons, List.drop_zero, List.drop_nil, List.append_nil] at h7
    have hsub : ∀ (S : Hp) (w : World), Ow B w (S ++ ((b6, cel [vI f.regs, c] T.t_api_Func) :: (Sf ++ (cfoot don ++ R)))) → Ow B w ((b6, cel [vI f.regs, c] T.t_api_Func) :: R) := fun S w h => h.sub ((List.Sublist.cons_cons _ ((List.sublist_append_right _ _).trans (List.sublist_append_right _ _))).trans (List.sublist_append_right _ _))
    refine ⟨fun w => Ow B w ((b6, cel [vI f.regs, c] T.t_api_Func) :: R), hsub [] _ h7.drew, ?_⟩
    repeat (first | refine pu_not ?_ | refine pu_eql ?_ | refine pu_neq ?_ | refine pu_lss ?_ | refine pu_leq ?_ | refine pu_gtr ?_ | refine pu_geq ?_ | refine pu_add ?_ | refine pu_sub ?_ | refine pu_mul ?_ | refine pu_neg ?_ | refine fa_at ?_ | refine nl_ptr ?_ | refine ex20 ?_ | refine ex21 ?_ | refine ex30 ?_ | refine ex31 ?_ | refine ex32 ?_ | refine ln_rule ?_ | refine lnT_rule ?_ | refine pu_and ?_ | refine pu_or ?_ | refine pu_xor ?_ | refine pu_seq ?_ | refine pu_sne ?_)
    refine lds_here (fun w h => h) (.tail _ m2) (v := v') rfl ?_
    repeat (first | refine pu_not ?_ | refine pu_eql ?_ | refine pu_neq ?_ | refine pu_lss ?_ | refine pu_leq ?_ | refine pu_gtr ?_ | refine pu_geq ?_ | refine pu_add ?_ | refine pu_sub ?_ | refine pu_mul ?_ | refine pu_neg ?_ | refine fa_at ?_ | refine nl_ptr ?_ | refine ex20 ?_ | refine ex21 ?_ | refine ex30 ?_ | refine ex31 ?_ | refine ex32 ?_ | refine ln_rule ?_ | refine lnT_rule ?_ | refine pu_and ?_ | refine pu_or ?_ | refine pu_xor ?_ | refine pu_seq ?_ | refine pu_sne ?_)
    refine lds_here (fun w h => h) (.head _) (v := c) rfl ?_
    refine cloneI_spec h7.drew q1 (icode_plain _) (fun x hx => .tail _ (List.mem_append_right _ (List.mem_append_right _ (mX x hx)))) (by rw [icode_len]; exact hc f (List.mem_of_getElem? hf)) (fun S' c' w8 h8 ho' => ?_)
    refine ⟨hsub S' _ h8, ?_⟩
    obtain ⟨a9, c9, hc9⟩ := ho'.len
    have h8 : Ow B w8 ((S' ++ [(b6, cel [vI f.regs, c] T.t_api_Func)]) ++ Sf ++ (cfoot don ++ R)) := by simpa using h8
    refine own_setf (j := 1) h8 ho two (by omega) hat (by omega) (by rw [hc9]; rfl) (by rw [hc9]; rfl) (fun Sf' w9 h9 ho9 => ?_)
    repeat (first | refine pu_not ?_ | refine pu_eql ?_ | refine pu_neq ?_ | refine pu_lss ?_ | refine pu_leq ?_ | refine pu_gtr ?_ | refine pu_geq ?_ | refine pu_add ?_ | refine pu_sub ?_ | refine pu_mul ?_ | refine pu_neg ?_ | refine fa_at ?_ | refine nl_ptr ?_ | refine ex20 ?_ | refine ex21 ?_ | refine ex30 ?_ | refine ex31 ?_ | refine ex32 ?_ | refine ln_rule ?_ | refine lnT_rule ?_ | refine pu_and ?_ | refine pu_or ?_ | refine pu_xor ?_ | refine pu_seq ?_ | refine pu_sne ?_)
    rw [wrap64_in (by omega) (by omega)]
    have hset : (crows don ++ (frows ps).drop n).set (n : Int).toNat ([vI f.regs, c].set 1 c') = crows (don ++ [⟨S', c', f⟩]) ++ (frows ps).drop (n + 1) := by
      rw [Int.toNat_natCast, List.set_append_right _ _ (by omega), hcl, Nat.sub_self, hdrop]
      unfold crows
      rw [List.map_append, List.append_assoc]
      rfl
    rw [hset] at ho9
    refine ⟨⟨n + 1, Sf', don ++ [⟨S', c', f⟩], rfl, hlt, by simp [hdl], ?_, ?_, ?_, ?_⟩, by simp; omega⟩
    · rw [List.map_append, hdf, List.take_add_one, hf]; rfl
    · intro e he
      rcases List.mem_append.1 he with he | he
      · exact hdo e he
      · rw [List.mem_singleton.1 he]; exact ho'
    · have hl2 : (crows don ++ (frows ps).drop n).length = (crows (don ++ [⟨S', c', f⟩]) ++ (frows ps).drop (n + 1)).length := by rw [← hset, List.length_set]
      rw [← hl2]; exact ho9
    · have h10 : Ow B w9 (S' ++ (Sf' ++ (cfoot don ++ R))) := h9.sub (by
        rw [List.append_assoc, List.append_assoc]
        exact (List.Sublist.refl S').append (.cons _ (.refl _)))
      have hcf : cfoot (don ++ [⟨S', c', f⟩]) = cfoot don ++ S' := by simp [cfoot]
      rw [hcf, List.append_assoc]
      refine h10.perm ((List.perm_append_comm_assoc S' Sf' _).trans (List.Perm.append_left Sf' (List.perm_append_comm_assoc S' (cfoot don) R)))
  · obtain rfl : n = ps.length := by simp at hlt; omega
    have hdn : (frows ps).drop ps.length = [] := List.drop_eq_nil_of_le (by omega)
    rw [hdn, List.append_nil] at ho
    rw [hpl, List.take_length] at hdf
    rw [← hR] at h5
    refine ldn_here h5 (List.mem_append_right _ (List.mem_append_right _ (.tail _ (.head _)))) (vs := p.cells v') rfl rfl ?_
    have h5 : Ow B w5 ((Sf ++ cfoot don) ++ (b4, cel [.slice none 0 0, vI 0, vI 0, vI 0] T.t_api_Program) :: (b2, cel (p.cells v') T.t_api_Program) :: H) := by simpa using h5
    refine st_here h5 (p.cells v') rfl rfl (by simp only [Pr.cells, List.all_cons, hvp]; rfl) (by simp) (fun w6 h6 => ?_)
    simp only [List.take_zero, List.nil_append, Nat.zero_add, List.drop_succ_cons, List.drop_zero, List.drop_nil, List.append_nil] at h6
    refine ldn_here h6 (List.mem_append_right _ (.head _)) (vs := p.cells v') rfl rfl ?_
    exact k (Sf ++ cfoot don) v' _ ⟨Sf, don, hdf, hdo, ho, rfl⟩ (h6.sub ((List.Sublist.refl _).append (.cons _ (.cons _ (.refl _)))))
end
end Go.Proofs.YtkkkcafkepnecaaGreat

/-! What is given up with is caught: deferred functions that recover. -/
set_option linter.unusedVariables false
set_option linter.unusedSimpArgs false
namespace Go.Proofs.YtkkkcafkepnecaaGreat.Vc
open Go Go.RowKit
section
variable {P : Program} {B w : World}
/-- What a deferred function that recovers meets: the frame's mode, what recover tells, the mode behind it. -/
def Meets (u : FrameMode) (x : Value) (u' : FrameMode) : Prop :=
  (u = .returning ∧ x = .nilIface ∧ u' = .returning) ∨ ∃ v older, u = .panicking ({ v, recovered := false } :: older) ∧ x = v ∧ u' = .panicking ({ v, recovered := true } :: older)
def restK (E : World → Prop) : K4 := fun e _ d w => match e with
  | .normal => d = [] ∧ E w
  | _ => False
theorem caught_gen (hm : P.follows .mixedOrders = true) {A : Note} {f : FuncId} {fn : Func} {o1 o2 : Oper} {id a b fuel : Nat} {rest : Code} {args : List Value} {x : Value} {u u' : FrameMode} {R : Ending → FrameMode → World → Prop} {E : World → Prop}
    (hf : P.funcs[f]? = some fn) (hb : fn.body = some (.seq (.region id #[o1, o2] false) rest))
    (h1 : o1.dst = some a ∧ o1.guard = none ∧ o1.op = .call { callee := .builtin .recover, args := #[], argTypes := #[] }) (h2 : o2.dst = some b ∧ o2.guard = none ∧ o2.op = .assign (.tmp a))
    (hr : fn.results = #[]) (hn : args.length ≤ fn.ntmps) (ha : a < fn.ntmps) (hu : Meets u x u')
    (h : vc P A none fn.ntmps fuel 0 rest (restK E) (wr (wr (ini args) a x) b x) [] w)
    (hE : ∀ w', E w' → R (.returned (.tuple #[])) u' w') : CallsDIn (FW none) 0 P f args.toArray u w R := by
  refine callsDIn_of_wpSIn hf hb trivial fun c₀ cs hmode => ?_
  refine wpSIn_seq (wpSIn_region ?_)
  obtain ⟨h1a, h1b, h1c⟩ := h1
  obtain ⟨h2a, h2b, h2c⟩ := h2
  have hrec : ∃ c₁ : Frame, c₁ = { c₀ with mode := u' } ∧ ((∃ r, recoverD (c₀ :: cs) = some (r, c₁ :: cs) ∧ x = r) ∨ (recoverD (c₀ :: cs) = none ∧ x = .nilIface ∧ c₁ = c₀)) := by
    refine ⟨_, rfl, ?_⟩
    rcases hu with ⟨rfl, rfl, rfl⟩ | ⟨v, older, rfl, rfl, rfl⟩
    · refine .inr ⟨by simp [recoverD, hmode], rfl, ?_⟩
      cases c₀; simp only at hmode; subst hmode; rfl
    · exact .inl ⟨_, by simp [recoverD, hmode], rfl⟩
  have ht : (args.toArray ++ Array.replicate (fn.ntmps - args.toArray.size) undef) = rep fn.ntmps (ini args) := rep_ini (args := args.toArray) (by simpa using hn)
  have hgo : ∀ cs' : List Frame, (∃ c₁ : Frame, c₁ = { c₀ with mode := u' } ∧ cs' = c₁ :: cs) → (rest.wpSIn (FW none) 0 P (bodyPostS P fn c₀ cs R)) (act fn.ntmps (wr (wr (ini args) a x) b x) []) cs' w := by
    rintro _ ⟨c₁, rfl, rfl⟩
    refine wpSIn_of_wpIn rfl (wpIn_mono (vc_sound hm A fuel 0 rest _ _ _ w h) ?_)
    intro e a' w' he
    cases e with
    | normal =>
      obtain ⟨s, d, rfl, _, _, rfl, hk⟩ := he
      refine ⟨rfl, u', rfl, .tuple #[], ?_, hE _ hk⟩
      simp [results, hr, Sem.run_bind, Sem.run_pure, Result.andThen]
    | ret => obtain ⟨s, d, rfl, _, _, hk⟩ := he; exact hk.elim
    | panic ch => obtain ⟨s, d, rfl, hk⟩ := he; exact hk.elim
    | exit i => obtain ⟨s, d, rfl, _, _, hk⟩ := he; exact hk.elim
    | goto i => obtain ⟨s, d, rfl, _, _, hk⟩ := he; exact hk.elim
    | outgrown => exact he.elim
  have hl : List.range (#[o1, o2] : Array Oper).size = [0, 1] := rfl
  have w1 : ∀ t, Region.wanted o1 t = true := fun t => by simp [Region.wanted, h1b]
  have w2 : ∀ t, Region.wanted o2 t = true := fun t => by simp [Region.wanted, h2b]
  have r1 : ∀ ev w, (execOp ev o1).run P w = .ok .recover w := fun ev w => by
    obtain ⟨d1, op1, t1, p1, af1, g1⟩ := o1
    simp only at h1c
    subst h1c
    simp [execOp, resolve, invoke, builtin, Sem.run_bind, Sem.run_pure, Result.andThen]
  have r2 : ∀ ev w, (execOp ev o2).run P w = .ok (.value (ev (.tmp a))) w := fun ev w => by
    obtain ⟨d1, op1, t1, p1, af1, g1⟩ := o2
    simp only at h2c
    subst h2c
    simp [execOp, go_sem]
  have fin : ∀ cs', (∃ c₁ : Frame, c₁ = { c₀ with mode := u' } ∧ cs' = c₁ :: cs) → wpOpsSIn (FW none) 0 P #[o1, o2] (Exit.thenS (rest.wpSIn (FW none) 0 P (bodyPostS P fn c₀ cs R)) (bodyPostS P fn c₀ cs R)) [1] (act fn.ntmps (wr (ini args) a x) []) cs' w := fun cs' hcs => by
    simp only [wpOpsSIn, show (#[o1, o2] : Array Oper)[1]? = some o2 from rfl, w2, if_true, r2]
    refine ⟨fun _ _ => trivial, ?_⟩
    rw [h2a, put_act, ev_act]
    have e1 : ev fn.ntmps (wr (ini args) a x) (.tmp a) = x := by simp [ev, rd, blt_of ha, wr_same]
    rw [e1]
    exact hgo cs' hcs
  rw [hl, ht]
  generalize hrs : [1] = rs at *
  simp only [wpOpsSIn, show (#[o1, o2] : Array Oper)[0]? = some o1 from rfl, w1, if_true, r1]
  refine ⟨fun _ _ => trivial, ?_⟩
  have eput : ∀ y, Act.put { tmps := rep fn.ntmps (ini args), defers := [] } o1.dst y = act fn.ntmps (wr (ini args) a y) [] := fun y => by
    rw [h1a]; exact put_act fn.ntmps (ini args) [] (some a) y
  obtain ⟨c₁, hc1, ⟨r, hr1, rfl⟩ | ⟨hr1, rfl, rfl⟩⟩ := hrec
  · rw [hr1]
    simp only [eput]
    exact fin _ ⟨_, hc1, rfl⟩
  · rw [hr1]
    simp only [eput]
    exact fin _ ⟨_, hc1, rfl⟩
theorem as_iface {t u : TypeId} {v : Value} {d : TypeDesc} {K : Value → Prop} (hd : P.underlying t = some d) (hn : ∀ m, d ≠ .interface m) (k : K (.tuple #[v, .bool true])) : pu P (Instr.typeAssert (.iface t v) u t true) K := by
  refine ⟨_, fun w => ?_, k⟩
  unfold Instr.typeAssert
  simp only [Sem.run_bind, run_und hd, Result.andThen]
  cases d <;> first | (exact absurd rfl (hn _)) | simp [Sem.run_pure]
theorem if_nil {t : TypeId} {K : Value → Prop} {ms} (ht : P.underlying t = some (.interface ms)) (k : K (.bool false)) : pu P (binV .neq t true .nilIface .nilIface) K := by
  refine ⟨_, fun w => ?_, k⟩
  have : ∀ d, (Op.equalIn (d + 1) t .nilIface .nilIface).run P w = .ok true w := fun d => by simp only [Op.equalIn, Sem.run_bind, run_und ht, Result.andThen, Sem.run_pure]
  have e : (Op.equal t .nilIface .nilIface).run P w = .ok true w := this 9999
  unfold binV
  simp [eqGuard, binOp, Sem.run_bind, Result.andThen, Sem.run_pure, e]
theorem if_val {t u : TypeId} {v : Value} {K : Value → Prop} {ms} (ht : P.underlying t = some (.interface ms)) (k : K (.bool true)) : pu P (binV .neq t true (.iface u v) .nilIface) K := by
  refine ⟨_, fun w => ?_, k⟩
  have : ∀ d, (Op.equalIn (d + 1) t (.iface u v) .nilIface).run P w = .ok false w := fun d => by simp only [Op.equalIn, Sem.run_bind, run_und ht, Result.andThen, Sem.run_pure]
  have e : (Op.equal t (.iface u v) .nilIface).run P w = .ok false w := this 9999
  unfold binV
  simp [eqGuard, binOp, Sem.run_bind, Result.andThen, Sem.run_pure, e]
end
end Go.Proofs.YtkkkcafkepnecaaGreat.Vc
namespace Go.Proofs.YtkkkcafkepnecaaGreat
open Go Go.RowKit Vc
def restOf (f : Func) : Code := sub [1] (bodyOf f)
theorem stack_caught_eq (E : World → Prop) (x0 x : Value) (w : World) : vc PG ⟨[], []⟩ none 19 400 0 (restOf Tryz.f79) (restK E) (wr (wr (ini [x0]) 5 x) 2 x) [] w =
    (pu PG (binV .neq T.t_interface true x .nilIface) fun t7 => condV t7 (pu PG (Instr.typeAssert x T.t_interface T.t_api_Errno true) fun t10 => exW 0 t10 fun t11 => exW 1 t10 fun t12 => pu PG (Op.unary .not t12) fun t14 => condV t14 (pnW x (fun _ _ => False) w) (nlW x0 fun t18 => stW 1 t18 t11 (fun w => ([] : D) = [] ∧ E w) w)) (([] : D) = [] ∧ E w)) := by kernel_rfl
theorem fiber_caught_eq (E : World → Prop) (x0 x : Value) (w : World) : vc PG ⟨[], []⟩ none 19 400 0 (restOf Tryz.f101) (restK E) (wr (wr (ini [x0]) 5 x) 2 x) [] w =
    (pu PG (binV .neq T.t_interface true x .nilIface) fun t7 => condV t7 (pu PG (Instr.typeAssert x T.t_interface T.t_api_Errno true) fun t10 => exW 0 t10 fun t11 => exW 1 t10 fun t12 => pu PG (Op.unary .not t12) fun t14 => condV t14 (pnW x (fun _ _ => False) w) (nlW x0 fun t18 => stW 1 t18 t11 (fun w => ([] : D) = [] ∧ E w) w)) (([] : D) = [] ∧ E w)) := by kernel_rfl
theorem image_caught_eq (E : World → Prop) (x0 x1 x : Value) (w : World) : vc PG ⟨[], []⟩ none 23 400 0 (restOf Tryz.f110) (restK E) (wr (wr (ini [x0, x1]) 7 x) 4 x) [] w =
    (pu PG (binV .neq T.t_interface true x .nilIface) fun t7 => condV t7 (pu PG (Instr.typeAssert x T.t_interface T.t_api_Errno true) fun t10 => exW 0 t10 fun t11 => exW 1 t10 fun t12 => pu PG (Op.unary .not t12) fun t14 => condV t14 (pnW x (fun _ _ => False) w) (callV PG x1 [] (fun _ w => nlW x0 fun t18 => stW 1 t18 t11 (fun w => ([] : D) = [] ∧ E w) w) (fun _ _ => False) w)) (([] : D) = [] ∧ E w)) := by kernel_rfl
theorem instr_caught_eq (E : World → Prop) (x0 x1 x : Value) (w : World) : vc PG ⟨[], []⟩ none 23 400 0 (restOf Tryz.f222) (restK E) (wr (wr (ini [x0, x1]) 7 x) 4 x) [] w =
    (pu PG (binV .neq T.t_interface true x .nilIface) fun t7 => condV t7 (pu PG (Instr.typeAssert x T.t_interface T.t_api_Errno true) fun t10 => exW 0 t10 fun t11 => exW 1 t10 fun t12 => pu PG (Op.unary .not t12) fun t14 => condV t14 (pnW x (fun _ _ => False) w) (callV PG x1 [] (fun _ w => nlW x0 fun t18 => stW 1 t18 t11 (fun w => ([] : D) = [] ∧ E w) w) (fun _ _ => False) w)) (([] : D) = [] ∧ E w)) := by kernel_rfl
abbrev errV (e : Int) : Value := .iface T.t_api_Errno (vI e)
abbrev pan (e : Int) : List PanicEntry := [{ v := errV e, recovered := false }]
abbrev dfr (f : FuncId) (args : List Value) : Deferred := { target := .fn (.func f) #[], args := args.toArray }
def isAny (P : Program) (t : TypeId) : Bool := match P.underlying t with
  | some (.interface _) => true
  | _ => false
theorem und_any : ∃ ms, PG.underlying T.t_interface = some (.interface ms) := by
  have h : isAny PG T.t_interface = true := by kernel_rfl
  unfold isAny at h
  split at h
  · rename_i ms hm; exact ⟨ms, hm⟩
  · cases h
def opAt (f : Func) (i : Nat) : Oper := match sub [0] (bodyOf f) with
  | .region _ ops _ => ops.getD i default
  | _ => default
theorem und_errno : PG.underlying T.t_api_Errno = some (.int .i64) := by kernel_rfl
section
attribute [local irreducible] binV Op.unary convert nlW faW ldS ldW ixS ixA ixV ixT exW lnS lnT pu stW alW opW opU bsW mkW
variable {B w : World} {H A C : Hp} {X : World → Prop} {R : Ending → World → Prop} {b : Nat} {u : Value} {e : Int}
theorem rest_nil {x : Value} {f : Value → Prop} {Y : Prop} (hx : x = .nilIface) (h : Y) : pu PG (binV .neq T.t_interface true x .nilIface) fun t7 => condV t7 (f t7) Y := by
  subst hx
  obtain ⟨ms, hm⟩ := und_any
  exact if_nil hm (cnd_f rfl h)
theorem rest_val {x : Value} {f : Value → Value → Prop} {Y : Prop} (hx : x = errV e) (h : f (vI e) (vB true)) : pu PG (binV .neq T.t_interface true x .nilIface) fun t7 => condV t7 (pu PG (Instr.typeAssert x T.t_interface T.t_api_Errno true) fun t10 => exW 0 t10 fun t11 => exW 1 t10 fun t12 => f t11 t12) Y := by
  subst hx
  obtain ⟨ms, hm⟩ := und_any
  refine if_val hm (cnd_t rfl ?_)
  exact as_iface und_errno (fun m => by simp) (ex20 (ex21 h))
theorem stack_lv_ret (k : X w) : LvW PG (dfr N.stack_caught [ptr b] :: []) .returning w (endV X R) := by
  refine ⟨by simp, .inr ⟨N.stack_caught, rfl, by kernel_rfl, ?_⟩⟩
  refine caught_gen (A := ⟨[], []⟩) (fn := Tryz.f79) (a := 5) (b := 2) (fuel := 400) (id := 0) (o1 := opAt Tryz.f79 0) (o2 := opAt Tryz.f79 1) (rest := restOf Tryz.f79) (E := fun w' => w' = w) mixed Tryz.func79 (by kernel_rfl) ⟨by kernel_rfl, by kernel_rfl, by kernel_rfl⟩ ⟨by kernel_rfl, by kernel_rfl, by kernel_rfl⟩ (by kernel_rfl) (of_decide_eq_true (by kernel_rfl)) (of_decide_eq_true (by kernel_rfl)) (.inl ⟨rfl, rfl, rfl⟩) ?_ ?_
  · exact (stack_caught_eq _ _ _ _).mpr (rest_nil rfl ⟨rfl, rfl⟩)
  · rintro w' rfl; exact k
theorem stack_lv_pan (h : Ow B w (A ++ (b, cel [u] T.t_api_Errno) :: C)) (k : ∀ w', Ow B w' (A ++ (b, cel [vI e] T.t_api_Errno) :: C) → X w') : LvW PG (dfr N.stack_caught [ptr b] :: []) (.panicking (pan e)) w (endV X R) := by
  refine ⟨by simp, .inr ⟨N.stack_caught, rfl, by kernel_rfl, ?_⟩⟩
  refine caught_gen (A := ⟨[], []⟩) (fn := Tryz.f79) (a := 5) (b := 2) (fuel := 400) (id := 0) (o1 := opAt Tryz.f79 0) (o2 := opAt Tryz.f79 1) (rest := restOf Tryz.f79) (E := fun w' => Ow B w' (A ++ (b, cel [vI e] T.t_api_Errno) :: C)) mixed Tryz.func79 (by kernel_rfl) ⟨by kernel_rfl, by kernel_rfl, by kernel_rfl⟩ ⟨by kernel_rfl, by kernel_rfl, by kernel_rfl⟩ (by kernel_rfl) (of_decide_eq_true (by kernel_rfl)) (of_decide_eq_true (by kernel_rfl)) (.inr ⟨_, _, rfl, rfl, rfl⟩) ?_ ?_
  · refine (stack_caught_eq _ _ _ _).mpr (rest_val (e := e) rfl ?_)
    refine pu_not (cnd_f rfl ?_)
    refine nl_ptr ?_
    refine st1_here h rfl rfl (by simp) (fun w1 h1 => ⟨rfl, h1⟩)
  · intro w' h'; exact k _ h'
theorem fiber_lv_ret (k : X w) : LvW PG (dfr N.fiber_caught [ptr b] :: []) .returning w (endV X R) := by
  refine ⟨by simp, .inr ⟨N.fiber_caught, rfl, by kernel_rfl, ?_⟩⟩
  refine caught_gen (A := ⟨[], []⟩) (fn := Tryz.f101) (a := 5) (b := 2) (fuel := 400) (id := 0) (o1 := opAt Tryz.f101 0) (o2 := opAt Tryz.f101 1) (rest := restOf Tryz.f101) (E := fun w' => w' = w) mixed Tryz.func101 (by kernel_rfl) ⟨by kernel_rfl, by kernel_rfl, by kernel_rfl⟩ ⟨by kernel_rfl, by kernel_rfl, by kernel_rfl⟩ (by kernel_rfl) (of_decide_eq_true (by kernel_rfl)) (of_decide_eq_true (by kernel_rfl)) (.inl ⟨rfl, rfl, rfl⟩) ?_ ?_
  · exact (fiber_caught_eq _ _ _ _).mpr (rest_nil rfl ⟨rfl, rfl⟩)
  · rintro w' rfl; exact k
theorem fiber_lv_pan (h : Ow B w (A ++ (b, cel [u] T.t_api_Errno) :: C)) (k : ∀ w', Ow B w' (A ++ (b, cel [vI e] T.t_api_Errno) :: C) → X w') : LvW PG (dfr N.fiber_caught [ptr b] :: []) (.panicking (pan e)) w (endV X R) := by
  refine ⟨by simp, .inr ⟨N.fiber_caught, rfl, by kernel_rfl, ?_⟩⟩
  refine caught_gen (A := ⟨[], []⟩) (fn := Tryz.f101) (a := 5) (b := 2) (fuel := 400) (id := 0) (o1 := opAt Tryz.f101 0) (o2 := opAt Tryz.f101 1) (rest := restOf Tryz.f101) (E := fun w' => Ow B w' (A ++ (b, cel [vI e] T.t_api_Errno) :: C)) mixed Tryz.func101 (by kernel_rfl) ⟨by kernel_rfl, by kernel_rfl, by kernel_rfl⟩ ⟨by kernel_rfl, by kernel_rfl, by kernel_rfl⟩ (by kernel_rfl) (of_decide_eq_true (by kernel_rfl)) (of_decide_eq_true (by kernel_rfl)) (.inr ⟨_, _, rfl, rfl, rfl⟩) ?_ ?_
  · refine (fiber_caught_eq _ _ _ _).mpr (rest_val (e := e) rfl ?_)
    refine pu_not (cnd_f rfl ?_)
    refine nl_ptr ?_
    refine st1_here h rfl rfl (by simp) (fun w1 h1 => ⟨rfl, h1⟩)
  · intro w' h'; exact k _ h'
theorem image_lv_ret {cl : Value} (k : X w) : LvW PG (dfr N.image_caught [ptr b, cl] :: []) .returning w (endV X R) := by
  refine ⟨by simp, .inr ⟨N.image_caught, rfl, by kernel_rfl, ?_⟩⟩
  refine caught_gen (A := ⟨[], []⟩) (fn := Tryz.f110) (a := 7) (b := 4) (fuel := 400) (id := 0) (o1 := opAt Tryz.f110 0) (o2 := opAt Tryz.f110 1) (rest := restOf Tryz.f110) (E := fun w' => w' = w) mixed Tryz.func110 (by kernel_rfl) ⟨by kernel_rfl, by kernel_rfl, by kernel_rfl⟩ ⟨by kernel_rfl, by kernel_rfl, by kernel_rfl⟩ (by kernel_rfl) (of_decide_eq_true (by kernel_rfl)) (of_decide_eq_true (by kernel_rfl)) (.inl ⟨rfl, rfl, rfl⟩) ?_ ?_
  · exact (image_caught_eq _ _ _ _ _).mpr (rest_nil rfl ⟨rfl, rfl⟩)
  · rintro w' rfl; exact k
/-- The closure cl clears; then the error is told. -/
theorem image_lv_pan {cl : Value} (hc : ∀ K : Value → World → Prop, (∀ v w', Ow B w' (A ++ (b, cel [u] T.t_api_Errno) :: C) → K v w') → callV PG cl [] K (fun _ _ => False) w) (k : ∀ w', Ow B w' (A ++ (b, cel [vI e] T.t_api_Errno) :: C) → X w') : LvW PG (dfr N.image_caught [ptr b, cl] :: []) (.panicking (pan e)) w (endV X R) := by
  refine ⟨by simp, .inr ⟨N.image_caught, rfl, by kernel_rfl, ?_⟩⟩
  refine caught_gen (A := ⟨[], []⟩) (fn := Tryz.f110) (a := 7) (b := 4) (fuel := 400) (id := 0) (o1 := opAt Tryz.f110 0) (o2 := opAt Tryz.f110 1) (rest := restOf Tryz.f110) (E := fun w' => Ow B w' (A ++ (b, cel [vI e] T.t_api_Errno) :: C)) mixed Tryz.func110 (by kernel_rfl) ⟨by kernel_rfl, by kernel_rfl, by kernel_rfl⟩ ⟨by kernel_rfl, by kernel_rfl, by kernel_rfl⟩ (by kernel_rfl) (of_decide_eq_true (by kernel_rfl)) (of_decide_eq_true (by kernel_rfl)) (.inr ⟨_, _, rfl, rfl, rfl⟩) ?_ ?_
  · refine (image_caught_eq _ _ _ _ _).mpr (rest_val (e := e) rfl ?_)
    refine pu_not (cnd_f rfl ?_)
    refine hc _ (fun v w1 h1 => ?_)
    refine nl_ptr ?_
    refine st1_here h1 rfl rfl (by simp) (fun w2 h2 => ⟨rfl, h2⟩)
  · intro w' h'; exact k _ h'
theorem instr_lv_ret {cl : Value} (k : X w) : LvW PG (dfr N.instr_caught [ptr b, cl] :: []) .returning w (endV X R) := by
  refine ⟨by simp, .inr ⟨N.instr_caught, rfl, by kernel_rfl, ?_⟩⟩
  refine caught_gen (A := ⟨[], []⟩) (fn := Tryz.f222) (a := 7) (b := 4) (fuel := 400) (id := 0) (o1 := opAt Tryz.f222 0) (o2 := opAt Tryz.f222 1) (rest := restOf Tryz.f222) (E := fun w' => w' = w) mixed Tryz.func222 (by kernel_rfl) ⟨by kernel_rfl, by kernel_rfl, by kernel_rfl⟩ ⟨by kernel_rfl, by kernel_rfl, by kernel_rfl⟩ (by kernel_rfl) (of_decide_eq_true (by kernel_rfl)) (of_decide_eq_true (by kernel_rfl)) (.inl ⟨rfl, rfl, rfl⟩) ?_ ?_
  · exact (instr_caught_eq _ _ _ _ _).mpr (rest_nil rfl ⟨rfl, rfl⟩)
  · rintro w' rfl; exact k
theorem instr_lv_pan {cl : Value} (hc : ∀ K : Value → World → Prop, (∀ v w', Ow B w' (A ++ (b, cel [u] T.t_api_Errno) :: C) → K v w') → callV PG cl [] K (fun _ _ => False) w) (k : ∀ w', Ow B w' (A ++ (b, cel [vI e] T.t_api_Errno) :: C) → X w') : LvW PG (dfr N.instr_caught [ptr b, cl] :: []) (.panicking (pan e)) w (endV X R) := by
  refine ⟨by simp, .inr ⟨N.instr_caught, rfl, by kernel_rfl, ?_⟩⟩
  refine caught_gen (A := ⟨[], []⟩) (fn := Tryz.f222) (a := 7) (b := 4) (fuel := 400) (id := 0) (o1 := opAt Tryz.f222 0) (o2 := opAt Tryz.f222 1) (rest := restOf Tryz.f222) (E := fun w' => Ow B w' (A ++ (b, cel [vI e] T.t_api_Errno) :: C)) mixed Tryz.func222 (by kernel_rfl) ⟨by kernel_rfl, by kernel_rfl, by kernel_rfl⟩ ⟨by kernel_rfl, by kernel_rfl, by kernel_rfl⟩ (by kernel_rfl) (of_decide_eq_true (by kernel_rfl)) (of_decide_eq_true (by kernel_rfl)) (.inr ⟨_, _, rfl, rfl, rfl⟩) ?_ ?_
  · refine (instr_caught_eq _ _ _ _ _).mpr (rest_val (e := e) rfl ?_)
    refine pu_not (cnd_f rfl ?_)
    refine hc _ (fun v w1 h1 => ?_)
    refine nl_ptr ?_
    refine st1_here h1 rfl rfl (by simp) (fun w2 h2 => ⟨rfl, h2⟩)
  · intro w' h'; exact k _ h'
end
end Go.Proofs.YtkkkcafkepnecaaGreat

