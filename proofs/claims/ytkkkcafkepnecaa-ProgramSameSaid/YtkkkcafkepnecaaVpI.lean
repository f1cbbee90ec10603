/- Programs that are handed in; the law ProgramAt. -/
import Derived.Test.YtkkkcafkepnecaaVpH
set_option linter.unusedVariables false
set_option linter.unusedSimpArgs false
namespace Go.Proofs.Ytkkkcafkepnecaa
open Go Go.RowKit Vc
attribute [local irreducible] binV Op.unary convert nlW faW ldS ldW ixS ixA ixV ixT exW lnS lnT pu stW alW opW opU bsW mkW

section
variable {B w : World} {H X : Hp} {K : Value → World → Prop} {PK : List PanicEntry → World → Prop} {KK : Value → Prop} {v : Value} {p : Pr}
theorem ins_of {cs : List Value} (h : Fit PG H T.t_api_Ins cs) : ∃ i : Ins, cs = i.cells ∧ 0 ≤ i.imm ∧ i.imm < 4294967296 := by
  have hl : cs.length = 5 := h.len (by kernel_rfl) (by kernel_rfl)
  match cs, hl with
  | [x, y, z, u, t], _ =>
    obtain ⟨a, ha, _⟩ := (h.field (i := 0) (T := T.t_api_Op) (off := 0) (n := 1) (by kernel_rfl)).of_int und_op
    obtain ⟨b, hb, _⟩ := (h.field (i := 1) (T := T.t_int) (off := 1) (n := 1) (by kernel_rfl)).of_int und_int
    obtain ⟨c, hc, _⟩ := (h.field (i := 2) (T := T.t_int) (off := 2) (n := 1) (by kernel_rfl)).of_int und_int
    obtain ⟨d, hd, _⟩ := (h.field (i := 3) (T := T.t_int) (off := 3) (n := 1) (by kernel_rfl)).of_int und_int
    obtain ⟨e, he, hw⟩ := (h.field (i := 4) (T := T.t_uint32) (off := 4) (n := 1) (by kernel_rfl)).of_int und_u32
    refine ⟨⟨a, b, c, d, e⟩, ?_, wf_u32 hw⟩
    have e1 : [x] = [vI a] := ha
    have e2 : [y] = [vI b] := hb
    have e3 : [z] = [vI c] := hc
    have e4 : [u] = [vI d] := hd
    have e5 : [t] = [.int .u32 e] := he
    cases e1; cases e2; cases e3; cases e4; cases e5
    rfl
theorem code_of : ∀ {ys : List (List Value)}, (∀ y ∈ ys, Fit PG H T.t_api_Ins y) → ∃ l : List Ins, ys = icode l ∧ immOk l
  | [], _ => ⟨[], rfl, fun i hi => by cases hi⟩
  | y :: ys, h => by
    obtain ⟨l, rfl, h2⟩ := code_of fun z hz => h z (.tail _ hz)
    obtain ⟨i, rfl, hi⟩ := ins_of (h y (.head _))
    refine ⟨i :: l, rfl, fun x hx => ?_⟩
    rcases List.mem_cons.1 hx with rfl | hx
    · exact hi
    · exact h2 x hx
theorem cells_ins : PG.cellsOf T.t_api_Ins = 5 := by kernel_rfl
theorem cells_func : PG.cellsOf T.t_api_Func = 2 := by kernel_rfl
theorem und_slins : PG.underlying T.t_sl_api_Ins = some (.slice T.t_api_Ins) := by kernel_rfl
theorem und_slfunc : PG.underlying T.t_sl_api_Func = some (.slice T.t_api_Func) := by kernel_rfl
theorem fun_of {cs : List Value} (h : Fit PG H T.t_api_Func cs) : ∃ (f : Fun) (c : Value), cs = [vI f.regs, c] ∧ Sls H c 5 (icode f.code) ∧ immOk f.code := by
  have hl : cs.length = 2 := h.len (by kernel_rfl) (by kernel_rfl)
  match cs, hl with
  | [x, y], _ =>
    obtain ⟨a, ha, _⟩ := (h.field (i := 0) (T := T.t_int) (off := 0) (n := 1) (by kernel_rfl)).of_int und_int
    obtain ⟨c, ys, hc, hs, hf⟩ := (h.field (i := 1) (T := T.t_sl_api_Ins) (off := 1) (n := 1) (by kernel_rfl)).of_slice und_slins
    obtain ⟨l, rfl, hm⟩ := code_of hf
    have e1 : [x] = [vI a] := ha
    have e2 : [y] = [c] := hc
    cases e1; cases e2
    rw [cells_ins] at hs
    exact ⟨⟨a, l⟩, y, rfl, hs, hm⟩
theorem funs_of : ∀ {ys : List (List Value)}, (∀ y ∈ ys, Fit PG H T.t_api_Func y) → ∃ ps : List (Value × Fun), ys = frows ps ∧ ∀ q ∈ ps, Sls H q.1 5 (icode q.2.code) ∧ immOk q.2.code
  | [], _ => ⟨[], rfl, fun q hq => by cases hq⟩
  | y :: ys, h => by
    obtain ⟨ps, rfl, h2⟩ := funs_of fun z hz => h z (.tail _ hz)
    obtain ⟨f, c, rfl, h3, h4⟩ := fun_of (h y (.head _))
    refine ⟨(c, f) :: ps, rfl, fun q hq => ?_⟩
    rcases List.mem_cons.1 hq with rfl | hq
    · exact ⟨h3, h4⟩
    · exact h2 q hq
theorem prog_of' {cs : List Value} (h : Fit PG H T.t_api_Program cs) : ∃ (p : Pr) (v : Value), cs = p.cells v ∧ fsIn H v p.fs := by
  have hl : cs.length = 4 := h.len (by kernel_rfl) (by kernel_rfl)
  match cs, hl with
  | [x, y, z, u], _ =>
    obtain ⟨c, ys, hc, hs, hf⟩ := (h.field (i := 0) (T := T.t_sl_api_Func) (off := 0) (n := 1) (by kernel_rfl)).of_slice und_slfunc
    obtain ⟨ps, rfl, hm⟩ := funs_of hf
    obtain ⟨a, ha, _⟩ := (h.field (i := 1) (T := T.t_int) (off := 1) (n := 1) (by kernel_rfl)).of_int und_int
    obtain ⟨b, hb, _⟩ := (h.field (i := 2) (T := T.t_int) (off := 2) (n := 1) (by kernel_rfl)).of_int und_int
    obtain ⟨d, hd, _⟩ := (h.field (i := 3) (T := T.t_int) (off := 3) (n := 1) (by kernel_rfl)).of_int und_int
    have e1 : [x] = [c] := hc
    have e2 : [y] = [vI a] := ha
    have e3 : [z] = [vI b] := hb
    have e4 : [u] = [vI d] := hd
    cases e1; cases e2; cases e3; cases e4
    rw [cells_func] at hs
    exact ⟨⟨ps.map Prod.snd, a, b, d⟩, x, rfl, ps, rfl, hs, hm⟩
theorem prog_of {v0 : Value} (g : FitV PG H T.t_api_Program v0) : ∃ (p : Pr) (v : Value), v0 = .agg (p.cells v).toArray ∧ fsIn H v p.fs := by
  obtain ⟨cs, rfl, hf⟩ := g.agg (by kernel_rfl)
  obtain ⟨p, v, rfl, h⟩ := prog_of' hf
  exact ⟨p, v, rfl, h⟩
theorem site_of {v0 : Value} (g : FitV PG H T.t_api_Site v0) : ∃ a b : Int, v0 = .agg #[vI a, vI b] := by
  obtain ⟨cs, rfl, h⟩ := g.agg (by kernel_rfl)
  have hl : cs.length = 2 := h.len (by kernel_rfl) (by kernel_rfl)
  match cs, hl with
  | [x, y], _ =>
    obtain ⟨a, ha, _⟩ := (h.field (i := 0) (T := T.t_int) (off := 0) (n := 1) (by kernel_rfl)).of_int und_int
    obtain ⟨b, hb, _⟩ := (h.field (i := 1) (T := T.t_int) (off := 1) (n := 1) (by kernel_rfl)).of_int und_int
    have e1 : [x] = [vI a] := ha
    have e2 : [y] = [vI b] := hb
    cases e1; cases e2
    exact ⟨a, b, rfl⟩
/-- few says yes or no. -/
theorem few_any (hv : fsIn X v p.fs) (hX : ∀ x, x ∈ X → x ∈ H) (h : Ow B w H) (k : ∀ (r : Bool) w', Ow B w' H → K (vB r) w') : callW PG N.linesmanlaw09_few [.agg (p.cells v).toArray] K PK w := by
  refine linesmanlaw09_few.ok ?_
  unfold linesmanlaw09_few.C
  refine al_rule h (l := p.cells v) rfl (fun b w1 h1 => ?_)
  refine ⟨fun l w => ∃ (s : Int) (n : Nat), l = [vI s, vI n] ∧ n ≤ 40 ∧ Ow B w ((b, cel (p.cells v) T.t_api_Program) :: H), fun l _ => match l with | [_, .int _ q] => 40 - q.toNat | _ => 0, ⟨0, 0, rfl, by omega, h1⟩, ?_⟩
  rintro l w2 ⟨s, n, rfl, hn, h2⟩ j
  repeat (first | refine pu_not ?_ | refine pu_eql ?_ | refine pu_neq ?_ | refine pu_lss ?_ | refine pu_leq ?_ | refine pu_gtr ?_ | refine pu_geq ?_ | refine pu_add ?_ | refine pu_sub ?_ | refine pu_mul ?_ | refine pu_neg ?_ | refine fa_at ?_ | refine nl_ptr ?_ | refine ex20 ?_ | refine ex21 ?_ | refine ex30 ?_ | refine ex31 ?_ | refine ex32 ?_ | refine ln_rule ?_ | refine lnT_rule ?_ | refine pu_and ?_ | refine pu_or ?_ | refine pu_xor ?_ | refine pu_seq ?_ | refine pu_sne ?_)
  refine ld_here h2 (.head _) (v := v) rfl ?_
  refine hv.ln ?_
  repeat (first | refine pu_not ?_ | refine pu_eql ?_ | refine pu_neq ?_ | refine pu_lss ?_ | refine pu_leq ?_ | refine pu_gtr ?_ | refine pu_geq ?_ | refine pu_add ?_ | refine pu_sub ?_ | refine pu_mul ?_ | refine pu_neg ?_ | refine fa_at ?_ | refine nl_ptr ?_ | refine ex20 ?_ | refine ex21 ?_ | refine ex30 ?_ | refine ex31 ?_ | refine ex32 ?_ | refine ln_rule ?_ | refine lnT_rule ?_ | refine pu_and ?_ | refine pu_or ?_ | refine pu_xor ?_ | refine pu_seq ?_ | refine pu_sne ?_)
  refine cnd (fun hlt => ?_) (fun hlt => ?_)
  · have hlt : n < p.fs.length := by simpa using hlt
    repeat (first | refine pu_not ?_ | refine pu_eql ?_ | refine pu_neq ?_ | refine pu_lss ?_ | refine pu_leq ?_ | refine pu_gtr ?_ | refine pu_geq ?_ | refine pu_add ?_ | refine pu_sub ?_ | refine pu_mul ?_ | refine pu_neg ?_ | refine fa_at ?_ | refine nl_ptr ?_ | refine ex20 ?_ | refine ex21 ?_ | refine ex30 ?_ | refine ex31 ?_ | refine ex32 ?_ | refine ln_rule ?_ | refine lnT_rule ?_ | refine pu_and ?_ | refine pu_or ?_ | refine pu_xor ?_ | refine pu_seq ?_ | refine pu_sne ?_)
    refine cnd (fun h40 => ?_) (fun h40 => ?_)
    · have h40 : n < 40 := by simp at h40; omega
      obtain ⟨ps, cc, g, g1, g2, g3, g4, g5⟩ := hv.at (n := (n : Int)) (by omega) (by omega)
      repeat (first | refine pu_not ?_ | refine pu_eql ?_ | refine pu_neq ?_ | refine pu_lss ?_ | refine pu_leq ?_ | refine pu_gtr ?_ | refine pu_geq ?_ | refine pu_add ?_ | refine pu_sub ?_ | refine pu_mul ?_ | refine pu_neg ?_ | refine fa_at ?_ | refine nl_ptr ?_ | refine ex20 ?_ | refine ex21 ?_ | refine ex30 ?_ | refine ex31 ?_ | refine ex32 ?_ | refine ln_rule ?_ | refine lnT_rule ?_ | refine pu_and ?_ | refine pu_or ?_ | refine pu_xor ?_ | refine pu_seq ?_ | refine pu_sne ?_)
      refine ld_here h2 (.head _) (v := v) rfl ?_
      refine sls_fld h2 (g2.mono fun x hx => .tail _ (hX x hx)) (by omega) g3 (v := cc) rfl ?_
      refine sls_ln g4 ?_
      repeat (first | refine pu_not ?_ | refine pu_eql ?_ | refine pu_neq ?_ | refine pu_lss ?_ | refine pu_leq ?_ | refine pu_gtr ?_ | refine pu_geq ?_ | refine pu_add ?_ | refine pu_sub ?_ | refine pu_mul ?_ | refine pu_neg ?_ | refine fa_at ?_ | refine nl_ptr ?_ | refine ex20 ?_ | refine ex21 ?_ | refine ex30 ?_ | refine ex31 ?_ | refine ex32 ?_ | refine ln_rule ?_ | refine lnT_rule ?_ | refine pu_and ?_ | refine pu_or ?_ | refine pu_xor ?_ | refine pu_seq ?_ | refine pu_sne ?_)
      refine ⟨⟨IntKind.i64.wrap (s + ((icode g.code).length : Nat)), n + 1, ?_, h40, h2⟩, ?_⟩
      · rw [wrap64_in (n := (n : Int) + 1) (by omega) (by omega)]; rfl
      · rw [wrap64_in (n := (n : Int) + 1) (by omega) (by omega)]; simp; omega
    · repeat (first | refine pu_not ?_ | refine pu_eql ?_ | refine pu_neq ?_ | refine pu_lss ?_ | refine pu_leq ?_ | refine pu_gtr ?_ | refine pu_geq ?_ | refine pu_add ?_ | refine pu_sub ?_ | refine pu_mul ?_ | refine pu_neg ?_ | refine fa_at ?_ | refine nl_ptr ?_ | refine ex20 ?_ | refine ex21 ?_ | refine ex30 ?_ | refine ex31 ?_ | refine ex32 ?_ | refine ln_rule ?_ | refine lnT_rule ?_ | refine pu_and ?_ | refine pu_or ?_ | refine pu_xor ?_ | refine pu_seq ?_ | refine pu_sne ?_)
      refine ld_here h2 (.head _) (v := v) rfl ?_
      refine hv.ln ?_
      repeat (first | refine pu_not ?_ | refine pu_eql ?_ | refine pu_neq ?_ | refine pu_lss ?_ | refine pu_leq ?_ | refine pu_gtr ?_ | refine pu_geq ?_ | refine pu_add ?_ | refine pu_sub ?_ | refine pu_mul ?_ | refine pu_neg ?_ | refine fa_at ?_ | refine nl_ptr ?_ | refine ex20 ?_ | refine ex21 ?_ | refine ex30 ?_ | refine ex31 ?_ | refine ex32 ?_ | refine ln_rule ?_ | refine lnT_rule ?_ | refine pu_and ?_ | refine pu_or ?_ | refine pu_xor ?_ | refine pu_seq ?_ | refine pu_sne ?_)
      refine cnd (fun hq => ?_) (fun hq => ?_)
      · repeat (first | refine pu_not ?_ | refine pu_eql ?_ | refine pu_neq ?_ | refine pu_lss ?_ | refine pu_leq ?_ | refine pu_gtr ?_ | refine pu_geq ?_ | refine pu_add ?_ | refine pu_sub ?_ | refine pu_mul ?_ | refine pu_neg ?_ | refine fa_at ?_ | refine nl_ptr ?_ | refine ex20 ?_ | refine ex21 ?_ | refine ex30 ?_ | refine ex31 ?_ | refine ex32 ?_ | refine ln_rule ?_ | refine lnT_rule ?_ | refine pu_and ?_ | refine pu_or ?_ | refine pu_xor ?_ | refine pu_seq ?_ | refine pu_sne ?_)
        exact k _ _ h2.drop
      · exact k _ _ h2.drop
  · repeat (first | refine pu_not ?_ | refine pu_eql ?_ | refine pu_neq ?_ | refine pu_lss ?_ | refine pu_leq ?_ | refine pu_gtr ?_ | refine pu_geq ?_ | refine pu_add ?_ | refine pu_sub ?_ | refine pu_mul ?_ | refine pu_neg ?_ | refine fa_at ?_ | refine nl_ptr ?_ | refine ex20 ?_ | refine ex21 ?_ | refine ex30 ?_ | refine ex31 ?_ | refine ex32 ?_ | refine ln_rule ?_ | refine lnT_rule ?_ | refine pu_and ?_ | refine pu_or ?_ | refine pu_xor ?_ | refine pu_seq ?_ | refine pu_sne ?_)
    refine ld_here h2 (.head _) (v := v) rfl ?_
    refine hv.ln ?_
    repeat (first | refine pu_not ?_ | refine pu_eql ?_ | refine pu_neq ?_ | refine pu_lss ?_ | refine pu_leq ?_ | refine pu_gtr ?_ | refine pu_geq ?_ | refine pu_add ?_ | refine pu_sub ?_ | refine pu_mul ?_ | refine pu_neg ?_ | refine fa_at ?_ | refine nl_ptr ?_ | refine ex20 ?_ | refine ex21 ?_ | refine ex30 ?_ | refine ex31 ?_ | refine ex32 ?_ | refine ln_rule ?_ | refine lnT_rule ?_ | refine pu_and ?_ | refine pu_or ?_ | refine pu_xor ?_ | refine pu_seq ?_ | refine pu_sne ?_)
    refine cnd (fun hq => ?_) (fun hq => ?_)
    · repeat (first | refine pu_not ?_ | refine pu_eql ?_ | refine pu_neq ?_ | refine pu_lss ?_ | refine pu_leq ?_ | refine pu_gtr ?_ | refine pu_geq ?_ | refine pu_add ?_ | refine pu_sub ?_ | refine pu_mul ?_ | refine pu_neg ?_ | refine fa_at ?_ | refine nl_ptr ?_ | refine ex20 ?_ | refine ex21 ?_ | refine ex30 ?_ | refine ex31 ?_ | refine ex32 ?_ | refine ln_rule ?_ | refine lnT_rule ?_ | refine pu_and ?_ | refine pu_or ?_ | refine pu_xor ?_ | refine pu_seq ?_ | refine pu_sne ?_)
      exact k _ _ h2.drop
    · exact k _ _ h2.drop
def atR (p : Pr) (a b : Int) : Ins × Int := if a < 0 then (bare 0, 4) else match p.fs[a.toNat]? with
  | none => (bare 0, 4)
  | some f => if b < 0 then (bare 0, 4) else match f.code[b.toNat]? with
    | none => (bare 0, 4)
    | some i => (i, 0)
theorem at_spec {a b : Int} (hv : fsIn X v p.fs) (hX : ∀ x, x ∈ X → x ∈ H) (h : Ow B w H) (k : ∀ w', Ow B w' H → K (.tuple #[.agg (atR p a b).1.cells.toArray, vI (atR p a b).2]) w') : callW PG N.program_At [.agg (p.cells v).toArray, .agg #[vI a, vI b]] K PK w := by
  refine program_At.ok ?_
  unfold program_At.C
  refine al_rule h (l := p.cells v) rfl (fun b2 w1 h1 => ?_)
  refine al_rule h1 (l := [vI a, vI b]) rfl (fun b4 w2 h2 => ?_)
  refine al_rule h2 (l := (bare 0).cells) zins (fun b6 w3 h3 => ?_)
  refine ⟨fun w => Ow B w ((b6, iO (bare 0)) :: (b4, cel [vI a, vI b] T.t_api_Site) :: (b2, cel (p.cells v) T.t_api_Program) :: H), h3.drew, ?_⟩
  have h4 : Ow B w3.drew ((b6, iO (bare 0)) :: (b4, cel [vI a, vI b] T.t_api_Site) :: (b2, cel (p.cells v) T.t_api_Program) :: H) := h3.drew
  repeat (first | refine pu_not ?_ | refine pu_eql ?_ | refine pu_neq ?_ | refine pu_lss ?_ | refine pu_leq ?_ | refine pu_gtr ?_ | refine pu_geq ?_ | refine pu_add ?_ | refine pu_sub ?_ | refine pu_mul ?_ | refine pu_neg ?_ | refine fa_at ?_ | refine nl_ptr ?_ | refine ex20 ?_ | refine ex21 ?_ | refine ex30 ?_ | refine ex31 ?_ | refine ex32 ?_ | refine ln_rule ?_ | refine lnT_rule ?_ | refine pu_and ?_ | refine pu_or ?_ | refine pu_xor ?_ | refine pu_seq ?_ | refine pu_sne ?_)
  refine lds_here (fun w h => h) (.tail _ (.head _)) (v := vI a) rfl ?_
  repeat (first | refine pu_not ?_ | refine pu_eql ?_ | refine pu_neq ?_ | refine pu_lss ?_ | refine pu_leq ?_ | refine pu_gtr ?_ | refine pu_geq ?_ | refine pu_add ?_ | refine pu_sub ?_ | refine pu_mul ?_ | refine pu_neg ?_ | refine fa_at ?_ | refine nl_ptr ?_ | refine ex20 ?_ | refine ex21 ?_ | refine ex30 ?_ | refine ex31 ?_ | refine ex32 ?_ | refine ln_rule ?_ | refine lnT_rule ?_ | refine pu_and ?_ | refine pu_or ?_ | refine pu_xor ?_ | refine pu_seq ?_ | refine pu_sne ?_)
  refine cnd (fun h0 => ?_) (fun h0 => ?_)
  · have e : atR p a b = (bare 0, 4) := by unfold atR; rw [if_pos (by simpa using h0)]
    rw [e] at k
    refine pu_build (bare 0).cells (by kernel_rfl) ?_
    refine st_here (A := []) h4 (bare 0).cells rfl rfl (ins_plain _) (by simp [Ins.cells]) (fun w8 h8 => ?_)
    have e3 : (bare 0).cells.take 0 ++ (bare 0).cells ++ (bare 0).cells.drop (0 + 5) = (bare 0).cells := rfl
    rw [e3] at h8
    refine ldn_here h8 (.head _) (vs := (bare 0).cells) rfl rfl ?_
    exact k _ (Ow.drop (Ow.drop (Ow.drop h8)))
  have h0 : 0 ≤ a := by simp at h0; omega
  repeat (first | refine pu_not ?_ | refine pu_eql ?_ | refine pu_neq ?_ | refine pu_lss ?_ | refine pu_leq ?_ | refine pu_gtr ?_ | refine pu_geq ?_ | refine pu_add ?_ | refine pu_sub ?_ | refine pu_mul ?_ | refine pu_neg ?_ | refine fa_at ?_ | refine nl_ptr ?_ | refine ex20 ?_ | refine ex21 ?_ | refine ex30 ?_ | refine ex31 ?_ | refine ex32 ?_ | refine ln_rule ?_ | refine lnT_rule ?_ | refine pu_and ?_ | refine pu_or ?_ | refine pu_xor ?_ | refine pu_seq ?_ | refine pu_sne ?_)
  refine lds_here (fun w h => h) (.tail _ (.head _)) (v := vI a) rfl ?_
  repeat (first | refine pu_not ?_ | refine pu_eql ?_ | refine pu_neq ?_ | refine pu_lss ?_ | refine pu_leq ?_ | refine pu_gtr ?_ | refine pu_geq ?_ | refine pu_add ?_ | refine pu_sub ?_ | refine pu_mul ?_ | refine pu_neg ?_ | refine fa_at ?_ | refine nl_ptr ?_ | refine ex20 ?_ | refine ex21 ?_ | refine ex30 ?_ | refine ex31 ?_ | refine ex32 ?_ | refine ln_rule ?_ | refine lnT_rule ?_ | refine pu_and ?_ | refine pu_or ?_ | refine pu_xor ?_ | refine pu_seq ?_ | refine pu_sne ?_)
  refine lds_here (fun w h => h) (.tail _ (.tail _ (.head _))) (v := v) rfl ?_
  refine hv.ln ?_
  repeat (first | refine pu_not ?_ | refine pu_eql ?_ | refine pu_neq ?_ | refine pu_lss ?_ | refine pu_leq ?_ | refine pu_gtr ?_ | refine pu_geq ?_ | refine pu_add ?_ | refine pu_sub ?_ | refine pu_mul ?_ | refine pu_neg ?_ | refine fa_at ?_ | refine nl_ptr ?_ | refine ex20 ?_ | refine ex21 ?_ | refine ex30 ?_ | refine ex31 ?_ | refine ex32 ?_ | refine ln_rule ?_ | refine lnT_rule ?_ | refine pu_and ?_ | refine pu_or ?_ | refine pu_xor ?_ | refine pu_seq ?_ | refine pu_sne ?_)
  refine cnd (fun h5 => ?_) (fun h5 => ?_)
  · have e : atR p a b = (bare 0, 4) := by unfold atR; rw [if_neg (by omega), List.getElem?_eq_none (by simp at h5; omega)]
    rw [e] at k
    refine pu_build (bare 0).cells (by kernel_rfl) ?_
    refine st_here (A := []) h4 (bare 0).cells rfl rfl (ins_plain _) (by simp [Ins.cells]) (fun w8 h8 => ?_)
    have e3 : (bare 0).cells.take 0 ++ (bare 0).cells ++ (bare 0).cells.drop (0 + 5) = (bare 0).cells := rfl
    rw [e3] at h8
    refine ldn_here h8 (.head _) (vs := (bare 0).cells) rfl rfl ?_
    exact k _ (Ow.drop (Ow.drop (Ow.drop h8)))
  have h5 : a < p.fs.length := by simp at h5; omega
  obtain ⟨ps, cc, g, g1, g2, g3, g4, g5⟩ := hv.at h0 h5
  have g2 : Sls ((b6, iO (bare 0)) :: (b4, cel [vI a, vI b] T.t_api_Site) :: (b2, cel (p.cells v) T.t_api_Program) :: H) v 2 (frows ps) := g2.mono fun x hx => .tail _ (.tail _ (.tail _ (hX x hx)))
  repeat (first | refine pu_not ?_ | refine pu_eql ?_ | refine pu_neq ?_ | refine pu_lss ?_ | refine pu_leq ?_ | refine pu_gtr ?_ | refine pu_geq ?_ | refine pu_add ?_ | refine pu_sub ?_ | refine pu_mul ?_ | refine pu_neg ?_ | refine fa_at ?_ | refine nl_ptr ?_ | refine ex20 ?_ | refine ex21 ?_ | refine ex30 ?_ | refine ex31 ?_ | refine ex32 ?_ | refine ln_rule ?_ | refine lnT_rule ?_ | refine pu_and ?_ | refine pu_or ?_ | refine pu_xor ?_ | refine pu_seq ?_ | refine pu_sne ?_)
  refine lds_here (fun w h => h) (.tail _ (.head _)) (v := vI b) rfl ?_
  repeat (first | refine pu_not ?_ | refine pu_eql ?_ | refine pu_neq ?_ | refine pu_lss ?_ | refine pu_leq ?_ | refine pu_gtr ?_ | refine pu_geq ?_ | refine pu_add ?_ | refine pu_sub ?_ | refine pu_mul ?_ | refine pu_neg ?_ | refine fa_at ?_ | refine nl_ptr ?_ | refine ex20 ?_ | refine ex21 ?_ | refine ex30 ?_ | refine ex31 ?_ | refine ex32 ?_ | refine ln_rule ?_ | refine lnT_rule ?_ | refine pu_and ?_ | refine pu_or ?_ | refine pu_xor ?_ | refine pu_seq ?_ | refine pu_sne ?_)
  refine cnd (fun h6 => ?_) (fun h6 => ?_)
  · have e : atR p a b = (bare 0, 4) := by unfold atR; rw [if_neg (by omega), g1]; simp only; rw [if_pos (by simpa using h6)]
    rw [e] at k
    refine pu_build (bare 0).cells (by kernel_rfl) ?_
    refine st_here (A := []) h4 (bare 0).cells rfl rfl (ins_plain _) (by simp [Ins.cells]) (fun w8 h8 => ?_)
    have e3 : (bare 0).cells.take 0 ++ (bare 0).cells ++ (bare 0).cells.drop (0 + 5) = (bare 0).cells := rfl
    rw [e3] at h8
    refine ldn_here h8 (.head _) (vs := (bare 0).cells) rfl rfl ?_
    exact k _ (Ow.drop (Ow.drop (Ow.drop h8)))
  have h6 : 0 ≤ b := by simp at h6; omega
  repeat (first | refine pu_not ?_ | refine pu_eql ?_ | refine pu_neq ?_ | refine pu_lss ?_ | refine pu_leq ?_ | refine pu_gtr ?_ | refine pu_geq ?_ | refine pu_add ?_ | refine pu_sub ?_ | refine pu_mul ?_ | refine pu_neg ?_ | refine fa_at ?_ | refine nl_ptr ?_ | refine ex20 ?_ | refine ex21 ?_ | refine ex30 ?_ | refine ex31 ?_ | refine ex32 ?_ | refine ln_rule ?_ | refine lnT_rule ?_ | refine pu_and ?_ | refine pu_or ?_ | refine pu_xor ?_ | refine pu_seq ?_ | refine pu_sne ?_)
  refine lds_here (fun w h => h) (.tail _ (.head _)) (v := vI b) rfl ?_
  repeat (first | refine pu_not ?_ | refine pu_eql ?_ | refine pu_neq ?_ | refine pu_lss ?_ | refine pu_leq ?_ | refine pu_gtr ?_ | refine pu_geq ?_ | refine pu_add ?_ | refine pu_sub ?_ | refine pu_mul ?_ | refine pu_neg ?_ | refine fa_at ?_ | refine nl_ptr ?_ | refine ex20 ?_ | refine ex21 ?_ | refine ex30 ?_ | refine ex31 ?_ | refine ex32 ?_ | refine ln_rule ?_ | refine lnT_rule ?_ | refine pu_and ?_ | refine pu_or ?_ | refine pu_xor ?_ | refine pu_seq ?_ | refine pu_sne ?_)
  refine lds_here (fun w h => h) (.tail _ (.tail _ (.head _))) (v := v) rfl ?_
  repeat (first | refine pu_not ?_ | refine pu_eql ?_ | refine pu_neq ?_ | refine pu_lss ?_ | refine pu_leq ?_ | refine pu_gtr ?_ | refine pu_geq ?_ | refine pu_add ?_ | refine pu_sub ?_ | refine pu_mul ?_ | refine pu_neg ?_ | refine fa_at ?_ | refine nl_ptr ?_ | refine ex20 ?_ | refine ex21 ?_ | refine ex30 ?_ | refine ex31 ?_ | refine ex32 ?_ | refine ln_rule ?_ | refine lnT_rule ?_ | refine pu_and ?_ | refine pu_or ?_ | refine pu_xor ?_ | refine pu_seq ?_ | refine pu_sne ?_)
  refine lds_here (fun w h => h) (.tail _ (.head _)) (v := vI a) rfl ?_
  refine sls_flds (fun w h => h) g2 h0 g3 (v := cc) rfl ?_
  refine sls_ln g4 ?_
  rw [icode_len]
  repeat (first | refine pu_not ?_ | refine pu_eql ?_ | refine pu_neq ?_ | refine pu_lss ?_ | refine pu_leq ?_ | refine pu_gtr ?_ | refine pu_geq ?_ | refine pu_add ?_ | refine pu_sub ?_ | refine pu_mul ?_ | refine pu_neg ?_ | refine fa_at ?_ | refine nl_ptr ?_ | refine ex20 ?_ | refine ex21 ?_ | refine ex30 ?_ | refine ex31 ?_ | refine ex32 ?_ | refine ln_rule ?_ | refine lnT_rule ?_ | refine pu_and ?_ | refine pu_or ?_ | refine pu_xor ?_ | refine pu_seq ?_ | refine pu_sne ?_)
  refine cnd (fun h7 => ?_) (fun h7 => ?_)
  · have e : atR p a b = (bare 0, 4) := by unfold atR; rw [if_neg (by omega), g1]; simp only; rw [if_neg (by omega), List.getElem?_eq_none (by simp at h7; omega)]
    rw [e] at k
    refine pu_build (bare 0).cells (by kernel_rfl) ?_
    refine st_here (A := []) h4 (bare 0).cells rfl rfl (ins_plain _) (by simp [Ins.cells]) (fun w8 h8 => ?_)
    have e3 : (bare 0).cells.take 0 ++ (bare 0).cells ++ (bare 0).cells.drop (0 + 5) = (bare 0).cells := rfl
    rw [e3] at h8
    refine ldn_here h8 (.head _) (vs := (bare 0).cells) rfl rfl ?_
    exact k _ (Ow.drop (Ow.drop (Ow.drop h8)))
  have h7 : b < g.code.length := by simp at h7; omega
  obtain ⟨i, hi⟩ : ∃ i, g.code[b.toNat]? = some i := ⟨_, List.getElem?_eq_getElem (by omega)⟩
  have e : atR p a b = (i, 0) := by unfold atR; rw [if_neg (by omega), g1]; simp only; rw [if_neg (by omega), hi]
  rw [e] at k
  refine ⟨fun w => Ow B w ((b6, iO (bare 0)) :: (b4, cel [vI a, vI b] T.t_api_Site) :: (b2, cel (p.cells v) T.t_api_Program) :: H), h4.drew, ?_⟩
  repeat (first | refine pu_not ?_ | refine pu_eql ?_ | refine pu_neq ?_ | refine pu_lss ?_ | refine pu_leq ?_ | refine pu_gtr ?_ | refine pu_geq ?_ | refine pu_add ?_ | refine pu_sub ?_ | refine pu_mul ?_ | refine pu_neg ?_ | refine fa_at ?_ | refine nl_ptr ?_ | refine ex20 ?_ | refine ex21 ?_ | refine ex30 ?_ | refine ex31 ?_ | refine ex32 ?_ | refine ln_rule ?_ | refine lnT_rule ?_ | refine pu_and ?_ | refine pu_or ?_ | refine pu_xor ?_ | refine pu_seq ?_ | refine pu_sne ?_)
  refine lds_here (fun w h => h) (.tail _ (.tail _ (.head _))) (v := v) rfl ?_
  repeat (first | refine pu_not ?_ | refine pu_eql ?_ | refine pu_neq ?_ | refine pu_lss ?_ | refine pu_leq ?_ | refine pu_gtr ?_ | refine pu_geq ?_ | refine pu_add ?_ | refine pu_sub ?_ | refine pu_mul ?_ | refine pu_neg ?_ | refine fa_at ?_ | refine nl_ptr ?_ | refine ex20 ?_ | refine ex21 ?_ | refine ex30 ?_ | refine ex31 ?_ | refine ex32 ?_ | refine ln_rule ?_ | refine lnT_rule ?_ | refine pu_and ?_ | refine pu_or ?_ | refine pu_xor ?_ | refine pu_seq ?_ | refine pu_sne ?_)
  refine lds_here (fun w h => h) (.tail _ (.head _)) (v := vI a) rfl ?_
  refine sls_flds (fun w h => h) g2 h0 g3 (v := cc) rfl ?_
  repeat (first | refine pu_not ?_ | refine pu_eql ?_ | refine pu_neq ?_ | refine pu_lss ?_ | refine pu_leq ?_ | refine pu_gtr ?_ | refine pu_geq ?_ | refine pu_add ?_ | refine pu_sub ?_ | refine pu_mul ?_ | refine pu_neg ?_ | refine fa_at ?_ | refine nl_ptr ?_ | refine ex20 ?_ | refine ex21 ?_ | refine ex30 ?_ | refine ex31 ?_ | refine ex32 ?_ | refine ln_rule ?_ | refine lnT_rule ?_ | refine pu_and ?_ | refine pu_or ?_ | refine pu_xor ?_ | refine pu_seq ?_ | refine pu_sne ?_)
  refine lds_here (fun w h => h) (.tail _ (.head _)) (v := vI b) rfl ?_
  refine sls_lds (fun w h => h) (g4.mono fun x hx => .tail _ (.tail _ (.tail _ (hX x hx)))) h6 (x := i.cells) (by rw [List.getElem?_map, hi]; rfl) ?_
  refine st_here (A := []) h4.drew i.cells rfl rfl (ins_plain _) (by simp [Ins.cells]) (fun w8 h8 => ?_)
  have e3 : (bare 0).cells.take 0 ++ i.cells ++ (bare 0).cells.drop (0 + 5) = i.cells := rfl
  rw [e3] at h8
  refine ldn_here h8 (.head _) (vs := i.cells) rfl rfl ?_
  exact k _ (Ow.drop (Ow.drop (Ow.drop h8)))
theorem refAt_spec {a b : Int} (hv : fsIn X v p.fs) (hX : ∀ x, x ∈ X → x ∈ H) (h : Ow B w H) (k : ∀ w', Ow B w' H → K (.tuple #[.agg (atR p a b).1.cells.toArray, vI (atR p a b).2]) w') : callW PG N.linesmanref09_At [.agg (p.cells v).toArray, .agg #[vI a, vI b]] K PK w := by
  refine linesmanref09_At.ok ?_
  unfold linesmanref09_At.C
  refine al_rule h (l := p.cells v) rfl (fun b2 w1 h1 => ?_)
  refine al_rule h1 (l := [vI a, vI b]) rfl (fun b4 w2 h2 => ?_)
  refine al_rule h2 (l := (bare 0).cells) zins (fun b6 w3 h3 => ?_)
  refine ⟨fun w => Ow B w ((b6, iO (bare 0)) :: (b4, cel [vI a, vI b] T.t_api_Site) :: (b2, cel (p.cells v) T.t_api_Program) :: H), h3.drew, ?_⟩
  have h4 : Ow B w3.drew ((b6, iO (bare 0)) :: (b4, cel [vI a, vI b] T.t_api_Site) :: (b2, cel (p.cells v) T.t_api_Program) :: H) := h3.drew
  repeat (first | refine pu_not ?_ | refine pu_eql ?_ | refine pu_neq ?_ | refine pu_lss ?_ | refine pu_leq ?_ | refine pu_gtr ?_ | refine pu_geq ?_ | refine pu_add ?_ | refine pu_sub ?_ | refine pu_mul ?_ | refine pu_neg ?_ | refine fa_at ?_ | refine nl_ptr ?_ | refine ex20 ?_ | refine ex21 ?_ | refine ex30 ?_ | refine ex31 ?_ | refine ex32 ?_ | refine ln_rule ?_ | refine lnT_rule ?_ | refine pu_and ?_ | refine pu_or ?_ | refine pu_xor ?_ | refine pu_seq ?_ | refine pu_sne ?_)
  refine lds_here (fun w h => h) (.tail _ (.head _)) (v := vI a) rfl ?_
  repeat (first | refine pu_not ?_ | refine pu_eql ?_ | refine pu_neq ?_ | refine pu_lss ?_ | refine pu_leq ?_ | refine pu_gtr ?_ | refine pu_geq ?_ | refine pu_add ?_ | refine pu_sub ?_ | refine pu_mul ?_ | refine pu_neg ?_ | refine fa_at ?_ | refine nl_ptr ?_ | refine ex20 ?_ | refine ex21 ?_ | refine ex30 ?_ | refine ex31 ?_ | refine ex32 ?_ | refine ln_rule ?_ | refine lnT_rule ?_ | refine pu_and ?_ | refine pu_or ?_ | refine pu_xor ?_ | refine pu_seq ?_ | refine pu_sne ?_)
  refine cnd (fun h0 => ?_) (fun h0 => ?_)
  · have e : atR p a b = (bare 0, 4) := by unfold atR; rw [if_pos (by simpa using h0)]
    rw [e] at k
    refine pu_build (bare 0).cells (by kernel_rfl) ?_
    refine st_here (A := []) h4 (bare 0).cells rfl rfl (ins_plain _) (by simp [Ins.cells]) (fun w8 h8 => ?_)
    have e3 : (bare 0).cells.take 0 ++ (bare 0).cells ++ (bare 0).cells.drop (0 + 5) = (bare 0).cells := rfl
    rw [e3] at h8
    refine ldn_here h8 (.head _) (vs := (bare 0).cells) rfl rfl ?_
    exact k _ (Ow.drop (Ow.drop (Ow.drop h8)))
  have h0 : 0 ≤ a := by simp at h0; omega
  repeat (first | refine pu_not ?_ | refine pu_eql ?_ | refine pu_neq ?_ | refine pu_lss ?_ | refine pu_leq ?_ | refine pu_gtr ?_ | refine pu_geq ?_ | refine pu_add ?_ | refine pu_sub ?_ | refine pu_mul ?_ | refine pu_neg ?_ | refine fa_at ?_ | refine nl_ptr ?_ | refine ex20 ?_ | refine ex21 ?_ | refine ex30 ?_ | refine ex31 ?_ | refine ex32 ?_ | refine ln_rule ?_ | refine lnT_rule ?_ | refine pu_and ?_ | refine pu_or ?_ | refine pu_xor ?_ | refine pu_seq ?_ | refine pu_sne ?_)
  refine lds_here (fun w h => h) (.tail _ (.head _)) (v := vI a) rfl ?_
  repeat (first | refine pu_not ?_ | refine pu_eql ?_ | refine pu_neq ?_ | refine pu_lss ?_ | refine pu_leq ?_ | refine pu_gtr ?_ | refine pu_geq ?_ | refine pu_add ?_ | refine pu_sub ?_ | refine pu_mul ?_ | refine pu_neg ?_ | refine fa_at ?_ | refine nl_ptr ?_ | refine ex20 ?_ | refine ex21 ?_ | refine ex30 ?_ | refine ex31 ?_ | refine ex32 ?_ | refine ln_rule ?_ | refine lnT_rule ?_ | refine pu_and ?_ | refine pu_or ?_ | refine pu_xor ?_ | refine pu_seq ?_ | refine pu_sne ?_)
  refine lds_here (fun w h => h) (.tail _ (.tail _ (.head _))) (v := v) rfl ?_
  refine hv.ln ?_
  repeat (first | refine pu_not ?_ | refine pu_eql ?_ | refine pu_neq ?_ | refine pu_lss ?_ | refine pu_leq ?_ | refine pu_gtr ?_ | refine pu_geq ?_ | refine pu_add ?_ | refine pu_sub ?_ | refine pu_mul ?_ | refine pu_neg ?_ | refine fa_at ?_ | refine nl_ptr ?_ | refine ex20 ?_ | refine ex21 ?_ | refine ex30 ?_ | refine ex31 ?_ | refine ex32 ?_ | refine ln_rule ?_ | refine lnT_rule ?_ | refine pu_and ?_ | refine pu_or ?_ | refine pu_xor ?_ | refine pu_seq ?_ | refine pu_sne ?_)
  refine cnd (fun h5 => ?_) (fun h5 => ?_)
  · have e : atR p a b = (bare 0, 4) := by unfold atR; rw [if_neg (by omega), List.getElem?_eq_none (by simp at h5; omega)]
    rw [e] at k
    refine pu_build (bare 0).cells (by kernel_rfl) ?_
    refine st_here (A := []) h4 (bare 0).cells rfl rfl (ins_plain _) (by simp [Ins.cells]) (fun w8 h8 => ?_)
    have e3 : (bare 0).cells.take 0 ++ (bare 0).cells ++ (bare 0).cells.drop (0 + 5) = (bare 0).cells := rfl
    rw [e3] at h8
    refine ldn_here h8 (.head _) (vs := (bare 0).cells) rfl rfl ?_
    exact k _ (Ow.drop (Ow.drop (Ow.drop h8)))
  have h5 : a < p.fs.length := by simp at h5; omega
  obtain ⟨ps, cc, g, g1, g2, g3, g4, g5⟩ := hv.at h0 h5
  have g2 : Sls ((b6, iO (bare 0)) :: (b4, cel [vI a, vI b] T.t_api_Site) :: (b2, cel (p.cells v) T.t_api_Program) :: H) v 2 (frows ps) := g2.mono fun x hx => .tail _ (.tail _ (.tail _ (hX x hx)))
  repeat (first | refine pu_not ?_ | refine pu_eql ?_ | refine pu_neq ?_ | refine pu_lss ?_ | refine pu_leq ?_ | refine pu_gtr ?_ | refine pu_geq ?_ | refine pu_add ?_ | refine pu_sub ?_ | refine pu_mul ?_ | refine pu_neg ?_ | refine fa_at ?_ | refine nl_ptr ?_ | refine ex20 ?_ | refine ex21 ?_ | refine ex30 ?_ | refine ex31 ?_ | refine ex32 ?_ | refine ln_rule ?_ | refine lnT_rule ?_ | refine pu_and ?_ | refine pu_or ?_ | refine pu_xor ?_ | refine pu_seq ?_ | refine pu_sne ?_)
  refine lds_here (fun w h => h) (.tail _ (.head _)) (v := vI b) rfl ?_
  repeat (first | refine pu_not ?_ | refine pu_eql ?_ | refine pu_neq ?_ | refine pu_lss ?_ | refine pu_leq ?_ | refine pu_gtr ?_ | refine pu_geq ?_ | refine pu_add ?_ | refine pu_sub ?_ | refine pu_mul ?_ | refine pu_neg ?_ | refine fa_at ?_ | refine nl_ptr ?_ | refine ex20 ?_ | refine ex21 ?_ | refine ex30 ?_ | refine ex31 ?_ | refine ex32 ?_ | refine ln_rule ?_ | refine lnT_rule ?_ | refine pu_and ?_ | refine pu_or ?_ | refine pu_xor ?_ | refine pu_seq ?_ | refine pu_sne ?_)
  refine cnd (fun h6 => ?_) (fun h6 => ?_)
  · have e : atR p a b = (bare 0, 4) := by unfold atR; rw [if_neg (by omega), g1]; simp only; rw [if_pos (by simpa using h6)]
    rw [e] at k
    refine pu_build (bare 0).cells (by kernel_rfl) ?_
    refine st_here (A := []) h4 (bare 0).cells rfl rfl (ins_plain _) (by simp [Ins.cells]) (fun w8 h8 => ?_)
    have e3 : (bare 0).cells.take 0 ++ (bare 0).cells ++ (bare 0).cells.drop (0 + 5) = (bare 0).cells := rfl
    rw [e3] at h8
    refine ldn_here h8 (.head _) (vs := (bare 0).cells) rfl rfl ?_
    exact k _ (Ow.drop (Ow.drop (Ow.drop h8)))
  have h6 : 0 ≤ b := by simp at h6; omega
  repeat (first | refine pu_not ?_ | refine pu_eql ?_ | refine pu_neq ?_ | refine pu_lss ?_ | refine pu_leq ?_ | refine pu_gtr ?_ | refine pu_geq ?_ | refine pu_add ?_ | refine pu_sub ?_ | refine pu_mul ?_ | refine pu_neg ?_ | refine fa_at ?_ | refine nl_ptr ?_ | refine ex20 ?_ | refine ex21 ?_ | refine ex30 ?_ | refine ex31 ?_ | refine ex32 ?_ | refine ln_rule ?_ | refine lnT_rule ?_ | refine pu_and ?_ | refine pu_or ?_ | refine pu_xor ?_ | refine pu_seq ?_ | refine pu_sne ?_)
  refine lds_here (fun w h => h) (.tail _ (.head _)) (v := vI b) rfl ?_
  repeat (first | refine pu_not ?_ | refine pu_eql ?_ | refine pu_neq ?_ | refine pu_lss ?_ | refine pu_leq ?_ | refine pu_gtr ?_ | refine pu_geq ?_ | refine pu_add ?_ | refine pu_sub ?_ | refine pu_mul ?_ | refine pu_neg ?_ | refine fa_at ?_ | refine nl_ptr ?_ | refine ex20 ?_ | refine ex21 ?_ | refine ex30 ?_ | refine ex31 ?_ | refine ex32 ?_ | refine ln_rule ?_ | refine lnT_rule ?_ | refine pu_and ?_ | refine pu_or ?_ | refine pu_xor ?_ | refine pu_seq ?_ | refine pu_sne ?_)
  refine lds_here (fun w h => h) (.tail _ (.tail _ (.head _))) (v := v) rfl ?_
  repeat (first | refine pu_not ?_ | refine pu_eql ?_ | refine pu_neq ?_ | refine pu_lss ?_ | refine pu_leq ?_ | refine pu_gtr ?_ | refine pu_geq ?_ | refine pu_add ?_ | refine pu_sub ?_ | refine pu_mul ?_ | refine pu_neg ?_ | refine fa_at ?_ | refine nl_ptr ?_ | refine ex20 ?_ | refine ex21 ?_ | refine ex30 ?_ | refine ex31 ?_ | refine ex32 ?_ | refine ln_rule ?_ | refine lnT_rule ?_ | refine pu_and ?_ | refine pu_or ?_ | refine pu_xor ?_ | refine pu_seq ?_ | refine pu_sne ?_)
  refine lds_here (fun w h => h) (.tail _ (.head _)) (v := vI a) rfl ?_
  refine sls_flds (fun w h => h) g2 h0 g3 (v := cc) rfl ?_
  refine sls_ln g4 ?_
  rw [icode_len]
  repeat (first | refine pu_not ?_ | refine pu_eql ?_ | refine pu_neq ?_ | refine pu_lss ?_ | refine pu_leq ?_ | refine pu_gtr ?_ | refine pu_geq ?_ | refine pu_add ?_ | refine pu_sub ?_ | refine pu_mul ?_ | refine pu_neg ?_ | refine fa_at ?_ | refine nl_ptr ?_ | refine ex20 ?_ | refine ex21 ?_ | refine ex30 ?_ | refine ex31 ?_ | refine ex32 ?_ | refine ln_rule ?_ | refine lnT_rule ?_ | refine pu_and ?_ | refine pu_or ?_ | refine pu_xor ?_ | refine pu_seq ?_ | refine pu_sne ?_)
  refine cnd (fun h7 => ?_) (fun h7 => ?_)
  · have e : atR p a b = (bare 0, 4) := by unfold atR; rw [if_neg (by omega), g1]; simp only; rw [if_neg (by omega), List.getElem?_eq_none (by simp at h7; omega)]
    rw [e] at k
    refine pu_build (bare 0).cells (by kernel_rfl) ?_
    refine st_here (A := []) h4 (bare 0).cells rfl rfl (ins_plain _) (by simp [Ins.cells]) (fun w8 h8 => ?_)
    have e3 : (bare 0).cells.take 0 ++ (bare 0).cells ++ (bare 0).cells.drop (0 + 5) = (bare 0).cells := rfl
    rw [e3] at h8
    refine ldn_here h8 (.head _) (vs := (bare 0).cells) rfl rfl ?_
    exact k _ (Ow.drop (Ow.drop (Ow.drop h8)))
  have h7 : b < g.code.length := by simp at h7; omega
  obtain ⟨i, hi⟩ : ∃ i, g.code[b.toNat]? = some i := ⟨_, List.getElem?_eq_getElem (by omega)⟩
  have e : atR p a b = (i, 0) := by unfold atR; rw [if_neg (by omega), g1]; simp only; rw [if_neg (by omega), hi]
  rw [e] at k
  refine ⟨fun w => Ow B w ((b6, iO (bare 0)) :: (b4, cel [vI a, vI b] T.t_api_Site) :: (b2, cel (p.cells v) T.t_api_Program) :: H), h4.drew, ?_⟩
  repeat (first | refine pu_not ?_ | refine pu_eql ?_ | refine pu_neq ?_ | refine pu_lss ?_ | refine pu_leq ?_ | refine pu_gtr ?_ | refine pu_geq ?_ | refine pu_add ?_ | refine pu_sub ?_ | refine pu_mul ?_ | refine pu_neg ?_ | refine fa_at ?_ | refine nl_ptr ?_ | refine ex20 ?_ | refine ex21 ?_ | refine ex30 ?_ | refine ex31 ?_ | refine ex32 ?_ | refine ln_rule ?_ | refine lnT_rule ?_ | refine pu_and ?_ | refine pu_or ?_ | refine pu_xor ?_ | refine pu_seq ?_ | refine pu_sne ?_)
  refine lds_here (fun w h => h) (.tail _ (.tail _ (.head _))) (v := v) rfl ?_
  repeat (first | refine pu_not ?_ | refine pu_eql ?_ | refine pu_neq ?_ | refine pu_lss ?_ | refine pu_leq ?_ | refine pu_gtr ?_ | refine pu_geq ?_ | refine pu_add ?_ | refine pu_sub ?_ | refine pu_mul ?_ | refine pu_neg ?_ | refine fa_at ?_ | refine nl_ptr ?_ | refine ex20 ?_ | refine ex21 ?_ | refine ex30 ?_ | refine ex31 ?_ | refine ex32 ?_ | refine ln_rule ?_ | refine lnT_rule ?_ | refine pu_and ?_ | refine pu_or ?_ | refine pu_xor ?_ | refine pu_seq ?_ | refine pu_sne ?_)
  refine lds_here (fun w h => h) (.tail _ (.head _)) (v := vI a) rfl ?_
  refine sls_flds (fun w h => h) g2 h0 g3 (v := cc) rfl ?_
  repeat (first | refine pu_not ?_ | refine pu_eql ?_ | refine pu_neq ?_ | refine pu_lss ?_ | refine pu_leq ?_ | refine pu_gtr ?_ | refine pu_geq ?_ | refine pu_add ?_ | refine pu_sub ?_ | refine pu_mul ?_ | refine pu_neg ?_ | refine fa_at ?_ | refine nl_ptr ?_ | refine ex20 ?_ | refine ex21 ?_ | refine ex30 ?_ | refine ex31 ?_ | refine ex32 ?_ | refine ln_rule ?_ | refine lnT_rule ?_ | refine pu_and ?_ | refine pu_or ?_ | refine pu_xor ?_ | refine pu_seq ?_ | refine pu_sne ?_)
  refine lds_here (fun w h => h) (.tail _ (.head _)) (v := vI b) rfl ?_
  refine sls_lds (fun w h => h) (g4.mono fun x hx => .tail _ (.tail _ (.tail _ (hX x hx)))) h6 (x := i.cells) (by rw [List.getElem?_map, hi]; rfl) ?_
  refine st_here (A := []) h4.drew i.cells rfl rfl (ins_plain _) (by simp [Ins.cells]) (fun w8 h8 => ?_)
  have e3 : (bare 0).cells.take 0 ++ i.cells ++ (bare 0).cells.drop (0 + 5) = i.cells := rfl
  rw [e3] at h8
  refine ldn_here h8 (.head _) (vs := i.cells) rfl rfl ?_
  exact k _ (Ow.drop (Ow.drop (Ow.drop h8)))
theorem ProgramAt.law {v0 v1 : Value} (g0 : FitV PG H T.t_api_Program v0) (g1 : FitV PG H T.t_api_Site v1) (h : Ow B w H) (k : ∀ w', Ow B w' H → K (vB true) w') : callW PG N.linesmanlaw09_ProgramAt [v0, v1] K PK w := by
  obtain ⟨p, v, rfl, hv⟩ := prog_of g0
  obtain ⟨a, b, rfl⟩ := site_of g1
  clear g0 g1
  refine linesmanlaw09_ProgramAt.ok ?_
  unfold linesmanlaw09_ProgramAt.C
  refine al_rule h (l := p.cells v) rfl (fun b2 w1 h1 => ?_)
  refine al_rule h1 (l := [vI a, vI b]) rfl (fun b4 w2 h2 => ?_)
  refine ldn_here h2 (.tail _ (.head _)) (vs := p.cells v) rfl rfl ?_
  refine few_any hv (fun x hx => .tail _ (.tail _ hx)) h2 (fun r w3 h3 => ?_)
  repeat (first | refine pu_not ?_ | refine pu_eql ?_ | refine pu_neq ?_ | refine pu_lss ?_ | refine pu_leq ?_ | refine pu_gtr ?_ | refine pu_geq ?_ | refine pu_add ?_ | refine pu_sub ?_ | refine pu_mul ?_ | refine pu_neg ?_ | refine fa_at ?_ | refine nl_ptr ?_ | refine ex20 ?_ | refine ex21 ?_ | refine ex30 ?_ | refine ex31 ?_ | refine ex32 ?_ | refine ln_rule ?_ | refine lnT_rule ?_ | refine pu_and ?_ | refine pu_or ?_ | refine pu_xor ?_ | refine pu_seq ?_ | refine pu_sne ?_)
  refine cnd (fun _ => ?_) (fun _ => ?_)
  · exact works_spec h3 fun w' h' => k w' h'.drop.drop
  refine ldn_here h3 (.tail _ (.head _)) (vs := p.cells v) rfl rfl ?_
  refine ldn_here h3 (.head _) (vs := [vI a, vI b]) rfl rfl ?_
  refine at_spec hv (fun x hx => .tail _ (.tail _ hx)) h3 (fun w4 h4 => ?_)
  repeat (first | refine pu_not ?_ | refine pu_eql ?_ | refine pu_neq ?_ | refine pu_lss ?_ | refine pu_leq ?_ | refine pu_gtr ?_ | refine pu_geq ?_ | refine pu_add ?_ | refine pu_sub ?_ | refine pu_mul ?_ | refine pu_neg ?_ | refine fa_at ?_ | refine nl_ptr ?_ | refine ex20 ?_ | refine ex21 ?_ | refine ex30 ?_ | refine ex31 ?_ | refine ex32 ?_ | refine ln_rule ?_ | refine lnT_rule ?_ | refine pu_and ?_ | refine pu_or ?_ | refine pu_xor ?_ | refine pu_seq ?_ | refine pu_sne ?_)
  have e3 : ∀ i : Ins, (bare 0).cells.take 0 ++ i.cells ++ (bare 0).cells.drop (0 + 5) = i.cells := fun i => rfl
  refine al_rule h4 (l := (bare 0).cells) zins (fun b6 w5 h5 => ?_)
  refine st_here (A := []) h5 (atR p a b).1.cells rfl rfl (ins_plain _) (by simp [Ins.cells]) (fun w6 h6 => ?_)
  rw [e3] at h6
  refine ldn_here h6 (.tail _ (.tail _ (.head _))) (vs := p.cells v) rfl rfl ?_
  refine ldn_here h6 (.tail _ (.head _)) (vs := [vI a, vI b]) rfl rfl ?_
  refine refAt_spec hv (fun x hx => .tail _ (.tail _ (.tail _ hx))) h6 (fun w7 h7 => ?_)
  repeat (first | refine pu_not ?_ | refine pu_eql ?_ | refine pu_neq ?_ | refine pu_lss ?_ | refine pu_leq ?_ | refine pu_gtr ?_ | refine pu_geq ?_ | refine pu_add ?_ | refine pu_sub ?_ | refine pu_mul ?_ | refine pu_neg ?_ | refine fa_at ?_ | refine nl_ptr ?_ | refine ex20 ?_ | refine ex21 ?_ | refine ex30 ?_ | refine ex31 ?_ | refine ex32 ?_ | refine ln_rule ?_ | refine lnT_rule ?_ | refine pu_and ?_ | refine pu_or ?_ | refine pu_xor ?_ | refine pu_seq ?_ | refine pu_sne ?_)
  refine al_rule h7 (l := (bare 0).cells) zins (fun b8 w8 h8 => ?_)
  refine st_here (A := []) h8 (atR p a b).1.cells rfl rfl (ins_plain _) (by simp [Ins.cells]) (fun w9 h9 => ?_)
  rw [e3] at h9
  refine ldn_here h9 (.tail _ (.head _)) (vs := (atR p a b).1.cells) rfl rfl ?_
  refine ldn_here h9 (.head _) (vs := (atR p a b).1.cells) rfl rfl ?_
  refine pu_aeql (by kernel_rfl) (eq_ins _ _) ?_
  refine cnd_t (by simp) ?_
  refine num_spec h9 (fun w10 h10 => ?_)
  repeat (first | refine pu_not ?_ | refine pu_eql ?_ | refine pu_neq ?_ | refine pu_lss ?_ | refine pu_leq ?_ | refine pu_gtr ?_ | refine pu_geq ?_ | refine pu_add ?_ | refine pu_sub ?_ | refine pu_mul ?_ | refine pu_neg ?_ | refine fa_at ?_ | refine nl_ptr ?_ | refine ex20 ?_ | refine ex21 ?_ | refine ex30 ?_ | refine ex31 ?_ | refine ex32 ?_ | refine ln_rule ?_ | refine lnT_rule ?_ | refine pu_and ?_ | refine pu_or ?_ | refine pu_xor ?_ | refine pu_seq ?_ | refine pu_sne ?_)
  refine cnd_t (by simp) ?_
  exact works_spec h10 fun w' h' => k w' (Ow.drop (Ow.drop (Ow.drop (Ow.drop h'))))
end
end Go.Proofs.Ytkkkcafkepnecaa
