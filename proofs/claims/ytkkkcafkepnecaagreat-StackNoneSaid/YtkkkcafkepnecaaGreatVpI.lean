/- Programs that are handed in; the law ProgramAt. -/
import Derived.Test.YtkkkcafkepnecaaGreatVpG
set_option linter.unusedVariables false
set_option linter.unusedSimpArgs false
namespace Go.Proofs.YtkkkcafkepnecaaGreat
open Go Go.RowKit Vc
attribute [local irreducible] binV Op.unary convert nlW faW ldS ldW ixS ixA ixV ixT exW lnS lnT pu stW alW opW opU bsW mkW

section
variable {B w : World} {H X : Hp} {K : Value → World → Prop} {PK : List PanicEntry → World → Prop} {KK : Value → Prop} {v : Value} {p : Pr}
theorem ins_of {cs : List Value} (h : Fit PG H T.t_api_Ins cs) : ∃ i : Ins, cs = i.cells ∧ 0 ≤ i.imm ∧ i.imm < 4294967296 := by
  have hl : cs.length = 5 := h.len (by kernel_rfl) (by kernel_rfl)
  match cs, hl with
  | [x, y, z, u, t], _ =>
    obtain ⟨a, ha, _⟩ := (h.field (i := 0) (T := T.t_api_Op) (off := 0) (n := 1) (by kernel_rfl)).of_int und_op
    obtain ⟨b, hb, _⟩ := (h.field (i := 1) (T := T.t_int) (off := 1) (n := 1) (by kernel_rfl)).of_int und_int
    obtain ⟨c, hc, _⟩ := (h.field (i := 2) (T := T.t_int) (off := 2) (n := 1) (by kernel_rfl)).of_int und_int
    obtain ⟨d, hd, _⟩ := (h.field (i := 3) (T := T.t_int) (off := 3) (n := 1) (by kernel_rfl)).of_int und_int
    obtain ⟨e, he, hw⟩ := (h.field (i := 4) (T := T.t_uint32) (off := 4) (n := 1) (by kernel_rfl)).of_int und_u32
    refine ⟨⟨a, b, c, d, e⟩, ?_, wf_u32 hw⟩
    have e1 : [x] = [vI a] := ha
    have e2 : [y] = [vI b] := hb
    have e3 : [z] = [vI c] := hc
    have e4 : [u] = [vI d] := hd
    have e5 : [t] = [.int .u32 e] := he
    cases e1; cases e2; cases e3; cases e4; cases e5
    rfl
theorem code_of : ∀ {ys : List (List Value)}, (∀ y ∈ ys, Fit PG H T.t_api_Ins y) → ∃ l : List Ins, ys = icode l ∧ immOk l
  | [], _ => ⟨[], rfl, fun i hi => by cases hi⟩
  | y :: ys, h => by
    obtain ⟨l, rfl, h2⟩ := code_of fun z hz => h z (.tail _ hz)
    obtain ⟨i, rfl, hi⟩ := ins_of (h y (.head _))
    refine ⟨i :: l, rfl, fun x hx => ?_⟩
    rcases List.mem_cons.1 hx with rfl | hx
    · exact hi
    · exact h2 x hx
theorem cells_ins : PG.cellsOf T.t_api_Ins = 5 := by kernel_rfl
theorem cells_func : PG.cellsOf T.t_api_Func = 2 := by kernel_rfl
theorem und_slins : PG.underlying T.t_sl_api_Ins = some (.slice T.t_api_Ins) := by kernel_rfl
theorem und_slfunc : PG.underlying T.t_sl_api_Func = some (.slice T.t_api_Func) := by kernel_rfl
theorem fun_of {cs : List Value} (h : Fit PG H T.t_api_Func cs) : ∃ (f : Fun) (c : Value), cs = [vI f.regs, c] ∧ Sls H c 5 (icode f.code) ∧ immOk f.code := by
  have hl : cs.length = 2 := h.len (by kernel_rfl) (by kernel_rfl)
  match cs, hl with
  | [x, y], _ =>
    obtain ⟨a, ha, _⟩ := (h.field (i := 0) (T := T.t_int) (off := 0) (n := 1) (by kernel_rfl)).of_int und_int
    obtain ⟨c, ys, hc, hs, hf⟩ := (h.field (i := 1) (T := T.t_sl_api_Ins) (off := 1) (n := 1) (by kernel_rfl)).of_slice und_slins
    obtain ⟨l, rfl, hm⟩ := code_of hf
    have e1 : [x] = [vI a] := ha
    have e2 : [y] = [c] := hc
    cases e1; cases e2
    rw [cells_ins] at hs
    exact ⟨⟨a, l⟩, y, rfl, hs, hm⟩
theorem funs_of : ∀ {ys : List (List Value)}, (∀ y ∈ ys, Fit PG H T.t_api_Func y) → ∃ ps : List (Value × Fun), ys = frows ps ∧ ∀ q ∈ ps, Sls H q.1 5 (icode q.2.code) ∧ immOk q.2.code
  | [], _ => ⟨[], rfl, fun q hq => by cases hq⟩
  | y :: ys, h => by
    obtain ⟨ps, rfl, h2⟩ := funs_of fun z hz => h z (.tail _ hz)
    obtain ⟨f, c, rfl, h3, h4⟩ := fun_of (h y (.head _))
    refine ⟨(c, f) :: ps, rfl, fun q hq => ?_⟩
    rcases List.mem_cons.1 hq with rfl | hq
    · exact ⟨h3, h4⟩
    · exact h2 q hq
theorem prog_of' {cs : List Value} (h : Fit PG H T.t_api_Program cs) : ∃ (p : Pr) (v : Value), cs = p.cells v ∧ fsIn H v p.fs := by
  have hl : cs.length = 4 := h.len (by kernel_rfl) (by kernel_rfl)
  match cs, hl with
  | [x, y, z, u], _ =>
    obtain ⟨c, ys, hc, hs, hf⟩ := (h.field (i := 0) (T := T.t_sl_api_Func) (off := 0) (n := 1) (by kernel_rfl)).of_slice und_slfunc
    obtain ⟨ps, rfl, hm⟩ := funs_of hf
    obtain ⟨a, ha, _⟩ := (h.field (i := 1) (T := T.t_int) (off := 1) (n := 1) (by kernel_rfl)).of_int und_int
    obtain ⟨b, hb, _⟩ := (h.field (i := 2) (T := T.t_int) (off := 2) (n := 1) (by kernel_rfl)).of_int und_int
    obtain ⟨d, hd, _⟩ := (h.field (i := 3) (T := T.t_int) (off := 3) (n := 1) (by kernel_rfl)).of_int und_int
    have e1 : [x] = [c] := hc
    have e2 : [y] = [vI a] := ha
    have e3 : [z] = [vI b] := hb
    have e4 : [u] = [vI d] := hd
    cases e1; cases e2; cases e3; cases e4
    rw [cells_func] at hs
    exact ⟨⟨ps.map Prod.snd, a, b, d⟩, x, rfl, ps, rfl, hs, hm⟩
theorem prog_of {v0 : Value} (g : FitV PG H T.t_api_Program v0) : ∃ (p : Pr) (v : Value), v0 = .agg (p.cells v).toArray ∧ fsIn H v p.fs := by
  obtain ⟨cs, rfl, hf⟩ := g.agg (by kernel_rfl)
  obtain ⟨p, v, rfl, h⟩ := prog_of' hf
  exact ⟨p, v, rfl, h⟩
theorem site_of {v0 : Value} (g : FitV PG H T.t_api_Site v0) : ∃ a b : Int, v0 = .agg #[vI a, vI b] := by
  obtain ⟨cs, rfl, h⟩ := g.agg (by kernel_rfl)
  have hl : cs.length = 2 := h.len (by kernel_rfl) (by kernel_rfl)
  match cs, hl with
  | [x, y], _ =>
    obtain ⟨a, ha, _⟩ := (h.field (i := 0) (T := T.t_int) (off := 0) (n := 1) (by kernel_rfl)).of_int und_int
    obtain ⟨b, hb, _⟩ := (h.field (i := 1) (T := T.t_int) (off := 1) (n := 1) (by kernel_rfl)).of_int und_int
    have e1 : [x] = [vI a] := ha
    have e2 : [y] = [vI b] := hb
    cases e1; cases e2
    exact ⟨a, b, rfl⟩
end
end Go.Proofs.YtkkkcafkepnecaaGreat
