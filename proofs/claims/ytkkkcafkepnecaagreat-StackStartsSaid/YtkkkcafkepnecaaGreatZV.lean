/- Stacks: what is handed in; an instruction at a site. -/
import Derived.Test.YtkkkcafkepnecaaGreatZS
import Derived.Test.YtkkkcafkepnecaaGreatZU
import Derived.Test.YtkkkcafkepnecaaGreatZF
import Derived.Test.YtkkkcafkepnecaaGreatZD
import Derived.Test.YtkkkcafkepnecaaGreatFV

set_option linter.unusedVariables false
set_option linter.unusedSimpArgs false
namespace Go.Proofs.YtkkkcafkepnecaaGreat
open Go Go.RowKit Vc Ar
attribute [local irreducible] binV Op.unary convert nlW faW ldS ldW ixS ixA ixV ixT exW lnS lnT pu stW alW opW opU bsW mkW

section
variable {B w : World} {H X F F' Q R : Hp} {K : Value → World → Prop} {PK : List PanicEntry → World → Prop} {KK : Value → Prop} {p : Pr} {s s' : SK} {v a : Value}
/-- Words that are handed in. -/
theorem words_of {cs : List Value} (h : Fit PG H T.t_sl_uint32 cs) : ∃ (a : Value) (ws : List Int), cs = [a] ∧ Sl H a (rgs ws) ∧ AllU ws := by
  obtain ⟨v, xs, rfl, hs, hx⟩ := h.of_slice und_slu
  have hc1 : PG.cellsOf T.t_uint32 = 1 := by kernel_rfl
  rw [hc1] at hs
  have : ∃ ws : List Int, xs = ws.map (fun n => [vU n]) ∧ AllU ws := by
    clear hs
    induction xs with
    | nil => exact ⟨[], rfl, fun x hx => by cases hx⟩
    | cons y ys ih =>
      obtain ⟨ws, rfl, hu⟩ := ih fun x h => hx x (.tail _ h)
      obtain ⟨n, hn, hw⟩ := Fit.of_int (k := .u32) (by kernel_rfl) (hx _ (.head _))
      refine ⟨n :: ws, by rw [hn]; rfl, fun x hx => ?_⟩
      rcases List.mem_cons.1 hx with rfl | hx
      · exact wf_u32 hw
      · exact hu x hx
  obtain ⟨ws, rfl, hu⟩ := this
  refine ⟨v, ws, rfl, ?_, hu⟩
  obtain ⟨b, cap, rfl, h1, h2, h3, h4⟩ := hs
  refine ⟨b, cap, by simp, by simpa using h1, fun j x hj => ?_⟩
  have hj' : (ws.map (fun n => [vU n]))[j]? = some [x] := by
    rw [List.getElem?_map] at hj ⊢
    cases hw : ws[j]? with
    | none => rw [hw] at hj; cases hj
    | some n =>
      rw [hw] at hj
      simp at hj
      simp [hj]
  obtain ⟨q, hq, hcell⟩ := h4 j [x] hj'
  refine ⟨q, hq, ?_⟩
  have := hcell 0 x rfl
  simpa using this
/-- A start: the program, the function, the words. -/
abbrev stC (p : Pr) (v : Value) (x : Int) (a : Value) : List Value := [v, vI p.mu, vI p.rw, vI p.gr, vI x, a]
theorem start_of {v0 : Value} (g : FitV PG H T.t_linesmanlaw12_Start v0) : ∃ (p : Pr) (v : Value) (x : Int) (a : Value) (ws : List Int), v0 = .agg (stC p v x a).toArray ∧ fsIn H v p.fs ∧ Sl H a (rgs ws) ∧ AllU ws := by
  obtain ⟨cs, rfl, h⟩ := g.agg (by kernel_rfl)
  have hl : cs.length = 6 := h.len (by kernel_rfl) (by kernel_rfl)
  match cs, hl with
  | [x0, x1, x2, x3, x4, x5], _ =>
    obtain ⟨p, v, hp, hv⟩ := prog_of' (h.field (i := 0) (T := T.t_api_Program) (off := 0) (n := 4) (by kernel_rfl))
    obtain ⟨x, hx, _⟩ := (h.field (i := 1) (T := T.t_int) (off := 4) (n := 1) (by kernel_rfl)).of_int und_int
    obtain ⟨a, ws, ha, hs, hu⟩ := words_of (h.field (i := 2) (T := T.t_sl_uint32) (off := 5) (n := 1) (by kernel_rfl))
    have e1 : [x0, x1, x2, x3] = p.cells v := hp
    have e2 : [x4] = [vI x] := hx
    have e3 : [x5] = [a] := ha
    simp only [Pr.cells, List.cons.injEq, and_true] at e1 e2 e3
    obtain ⟨rfl, rfl, rfl, rfl⟩ := e1
    subst e2 e3
    exact ⟨p, _, x, _, ws, rfl, hv, hs, hu⟩
theorem fs_good (hv : fsIn X v p.fs) (ho : okP' p = true) : Good p := ⟨ho, fun f hf => by
  obtain ⟨ps, e1, e2, e3⟩ := hv
  rw [← e1] at hf
  obtain ⟨q, hq, rfl⟩ := List.mem_map.1 hf
  exact (e3 q hq).2⟩
/-- few says yes or no. -/
theorem few12_spec (hv : fsIn X v p.fs) (hX : ∀ x, x ∈ X → x ∈ H) (h : Ow B w H) (k : ∀ (r : Bool) w', (r = true → p.fs.length ≤ 40) → Ow B w' H → K (vB r) w') : callW PG N.linesmanlaw12_few [.agg (p.cells v).toArray] K PK w := by
  refine linesmanlaw12_few.ok ?_
  unfold linesmanlaw12_few.C
  refine al_rule h (l := p.cells v) rfl (fun b w1 h1 => ?_)
  refine ⟨fun l w => ∃ (s : Int) (n : Nat), l = [vI s, vI n] ∧ n ≤ 40 ∧ Ow B w ((b, cel (p.cells v) T.t_api_Program) :: H), fun l _ => match l with | [_, .int _ q] => 40 - q.toNat | _ => 0, ⟨0, 0, rfl, by omega, h1⟩, ?_⟩
  rintro l w2 ⟨s, n, rfl, hn, h2⟩ j
  repeat (first | refine pu_not ?_ | refine pu_eql ?_ | refine pu_neq ?_ | refine pu_lss ?_ | refine pu_leq ?_ | refine pu_gtr ?_ | refine pu_geq ?_ | refine pu_add ?_ | refine pu_sub ?_ | refine pu_mul ?_ | refine pu_neg ?_ | refine fa_at ?_ | refine nl_ptr ?_ | refine ex20 ?_ | refine ex21 ?_ | refine ex30 ?_ | refine ex31 ?_ | refine ex32 ?_ | refine ln_rule ?_ | refine lnT_rule ?_ | refine pu_and ?_ | refine pu_or ?_ | refine pu_xor ?_ | refine pu_seq ?_ | refine pu_sne ?_)
  refine ld_here h2 (.head _) (v := v) rfl ?_
  refine hv.ln ?_
  repeat (first | refine pu_not ?_ | refine pu_eql ?_ | refine pu_neq ?_ | refine pu_lss ?_ | refine pu_leq ?_ | refine pu_gtr ?_ | refine pu_geq ?_ | refine pu_add ?_ | refine pu_sub ?_ | refine pu_mul ?_ | refine pu_neg ?_ | refine fa_at ?_ | refine nl_ptr ?_ | refine ex20 ?_ | refine ex21 ?_ | refine ex30 ?_ | refine ex31 ?_ | refine ex32 ?_ | refine ln_rule ?_ | refine lnT_rule ?_ | refine pu_and ?_ | refine pu_or ?_ | refine pu_xor ?_ | refine pu_seq ?_ | refine pu_sne ?_)
  refine cnd (fun hlt => ?_) (fun hlt => ?_)
  · have hlt : n < p.fs.length := by simpa using hlt
    repeat (first | refine pu_not ?_ | refine pu_eql ?_ | refine pu_neq ?_ | refine pu_lss ?_ | refine pu_leq ?_ | refine pu_gtr ?_ | refine pu_geq ?_ | refine pu_add ?_ | refine pu_sub ?_ | refine pu_mul ?_ | refine pu_neg ?_ | refine fa_at ?_ | refine nl_ptr ?_ | refine ex20 ?_ | refine ex21 ?_ | refine ex30 ?_ | refine ex31 ?_ | refine ex32 ?_ | refine ln_rule ?_ | refine lnT_rule ?_ | refine pu_and ?_ | refine pu_or ?_ | refine pu_xor ?_ | refine pu_seq ?_ | refine pu_sne ?_)
    refine cnd (fun h40 => ?_) (fun h40 => ?_)
    · have h40 : n < 40 := by simp at h40; omega
      obtain ⟨ps, cc, g, g1, g2, g3, g4, g5⟩ := hv.at (n := (n : Int)) (by omega) (by omega)
      repeat (first | refine pu_not ?_ | refine pu_eql ?_ | refine pu_neq ?_ | refine pu_lss ?_ | refine pu_leq ?_ | refine pu_gtr ?_ | refine pu_geq ?_ | refine pu_add ?_ | refine pu_sub ?_ | refine pu_mul ?_ | refine pu_neg ?_ | refine fa_at ?_ | refine nl_ptr ?_ | refine ex20 ?_ | refine ex21 ?_ | refine ex30 ?_ | refine ex31 ?_ | refine ex32 ?_ | refine ln_rule ?_ | refine lnT_rule ?_ | refine pu_and ?_ | refine pu_or ?_ | refine pu_xor ?_ | refine pu_seq ?_ | refine pu_sne ?_)
      refine ld_here h2 (.head _) (v := v) rfl ?_
      refine sls_fld h2 (g2.mono fun x hx => .tail _ (hX x hx)) (by omega) g3 (v := cc) rfl ?_
      refine sls_ln g4 ?_
      repeat (first | refine pu_not ?_ | refine pu_eql ?_ | refine pu_neq ?_ | refine pu_lss ?_ | refine pu_leq ?_ | refine pu_gtr ?_ | refine pu_geq ?_ | refine pu_add ?_ | refine pu_sub ?_ | refine pu_mul ?_ | refine pu_neg ?_ | refine fa_at ?_ | refine nl_ptr ?_ | refine ex20 ?_ | refine ex21 ?_ | refine ex30 ?_ | refine ex31 ?_ | refine ex32 ?_ | refine ln_rule ?_ | refine lnT_rule ?_ | refine pu_and ?_ | refine pu_or ?_ | refine pu_xor ?_ | refine pu_seq ?_ | refine pu_sne ?_)
      refine ⟨⟨IntKind.i64.wrap (s + ((icode g.code).length : Nat)), n + 1, ?_, h40, h2⟩, ?_⟩
      · rw [wrap64_in (n := (n : Int) + 1) (by omega) (by omega)]; rfl
      · rw [wrap64_in (n := (n : Int) + 1) (by omega) (by omega)]; simp; omega
    · repeat (first | refine pu_not ?_ | refine pu_eql ?_ | refine pu_neq ?_ | refine pu_lss ?_ | refine pu_leq ?_ | refine pu_gtr ?_ | refine pu_geq ?_ | refine pu_add ?_ | refine pu_sub ?_ | refine pu_mul ?_ | refine pu_neg ?_ | refine fa_at ?_ | refine nl_ptr ?_ | refine ex20 ?_ | refine ex21 ?_ | refine ex30 ?_ | refine ex31 ?_ | refine ex32 ?_ | refine ln_rule ?_ | refine lnT_rule ?_ | refine pu_and ?_ | refine pu_or ?_ | refine pu_xor ?_ | refine pu_seq ?_ | refine pu_sne ?_)
      refine ld_here h2 (.head _) (v := v) rfl ?_
      refine hv.ln ?_
      repeat (first | refine pu_not ?_ | refine pu_eql ?_ | refine pu_neq ?_ | refine pu_lss ?_ | refine pu_leq ?_ | refine pu_gtr ?_ | refine pu_geq ?_ | refine pu_add ?_ | refine pu_sub ?_ | refine pu_mul ?_ | refine pu_neg ?_ | refine fa_at ?_ | refine nl_ptr ?_ | refine ex20 ?_ | refine ex21 ?_ | refine ex30 ?_ | refine ex31 ?_ | refine ex32 ?_ | refine ln_rule ?_ | refine lnT_rule ?_ | refine pu_and ?_ | refine pu_or ?_ | refine pu_xor ?_ | refine pu_seq ?_ | refine pu_sne ?_)
      refine cnd (fun hq => ?_) (fun hq => ?_)
      · have hq : p.fs.length ≤ 40 := by simp at hq; omega
        repeat (first | refine pu_not ?_ | refine pu_eql ?_ | refine pu_neq ?_ | refine pu_lss ?_ | refine pu_leq ?_ | refine pu_gtr ?_ | refine pu_geq ?_ | refine pu_add ?_ | refine pu_sub ?_ | refine pu_mul ?_ | refine pu_neg ?_ | refine fa_at ?_ | refine nl_ptr ?_ | refine ex20 ?_ | refine ex21 ?_ | refine ex30 ?_ | refine ex31 ?_ | refine ex32 ?_ | refine ln_rule ?_ | refine lnT_rule ?_ | refine pu_and ?_ | refine pu_or ?_ | refine pu_xor ?_ | refine pu_seq ?_ | refine pu_sne ?_)
        exact k _ _ (fun _ => hq) h2.drop
      · exact k _ _ (fun h => by cases h) h2.drop
  · repeat (first | refine pu_not ?_ | refine pu_eql ?_ | refine pu_neq ?_ | refine pu_lss ?_ | refine pu_leq ?_ | refine pu_gtr ?_ | refine pu_geq ?_ | refine pu_add ?_ | refine pu_sub ?_ | refine pu_mul ?_ | refine pu_neg ?_ | refine fa_at ?_ | refine nl_ptr ?_ | refine ex20 ?_ | refine ex21 ?_ | refine ex30 ?_ | refine ex31 ?_ | refine ex32 ?_ | refine ln_rule ?_ | refine lnT_rule ?_ | refine pu_and ?_ | refine pu_or ?_ | refine pu_xor ?_ | refine pu_seq ?_ | refine pu_sne ?_)
    refine ld_here h2 (.head _) (v := v) rfl ?_
    refine hv.ln ?_
    repeat (first | refine pu_not ?_ | refine pu_eql ?_ | refine pu_neq ?_ | refine pu_lss ?_ | refine pu_leq ?_ | refine pu_gtr ?_ | refine pu_geq ?_ | refine pu_add ?_ | refine pu_sub ?_ | refine pu_mul ?_ | refine pu_neg ?_ | refine fa_at ?_ | refine nl_ptr ?_ | refine ex20 ?_ | refine ex21 ?_ | refine ex30 ?_ | refine ex31 ?_ | refine ex32 ?_ | refine ln_rule ?_ | refine lnT_rule ?_ | refine pu_and ?_ | refine pu_or ?_ | refine pu_xor ?_ | refine pu_seq ?_ | refine pu_sne ?_)
    refine cnd (fun hq => ?_) (fun hq => ?_)
    · have hq : p.fs.length ≤ 40 := by simp at hq; omega
      repeat (first | refine pu_not ?_ | refine pu_eql ?_ | refine pu_neq ?_ | refine pu_lss ?_ | refine pu_leq ?_ | refine pu_gtr ?_ | refine pu_geq ?_ | refine pu_add ?_ | refine pu_sub ?_ | refine pu_mul ?_ | refine pu_neg ?_ | refine fa_at ?_ | refine nl_ptr ?_ | refine ex20 ?_ | refine ex21 ?_ | refine ex30 ?_ | refine ex31 ?_ | refine ex32 ?_ | refine ln_rule ?_ | refine lnT_rule ?_ | refine pu_and ?_ | refine pu_or ?_ | refine pu_xor ?_ | refine pu_seq ?_ | refine pu_sne ?_)
      exact k _ _ (fun _ => hq) h2.drop
    · exact k _ _ (fun h => by cases h) h2.drop
theorem small12_spec {x : Int} {ws : List Int} (hv : fsIn X v p.fs) (ha : Sl X a (rgs ws)) (hX : ∀ x, x ∈ X → x ∈ H) (h : Ow B w H) (k : ∀ (r : Bool) w', (r = true → p.fs.length ≤ 40 ∧ ws.length ≤ 20) → Ow B w' H → K (vB r) w') : callW PG N.linesmanlaw12_small [.agg (stC p v x a).toArray] K PK w := by
  refine linesmanlaw12_small.ok ?_
  unfold linesmanlaw12_small.C
  refine al_rule h (l := stC p v x a) ?_ (fun b w1 h1 => ?_)
  · rfl
  repeat (first | refine pu_not ?_ | refine pu_eql ?_ | refine pu_neq ?_ | refine pu_lss ?_ | refine pu_leq ?_ | refine pu_gtr ?_ | refine pu_geq ?_ | refine pu_add ?_ | refine pu_sub ?_ | refine pu_mul ?_ | refine pu_neg ?_ | refine fa_at ?_ | refine nl_ptr ?_ | refine ex20 ?_ | refine ex21 ?_ | refine ex30 ?_ | refine ex31 ?_ | refine ex32 ?_ | refine ln_rule ?_ | refine lnT_rule ?_ | refine pu_and ?_ | refine pu_or ?_ | refine pu_xor ?_ | refine pu_seq ?_ | refine pu_sne ?_)
  refine ldn_here h1 (.head _) (vs := p.cells v) rfl rfl ?_
  refine few12_spec hv (fun x hx => .tail _ (hX x hx)) h1 (fun r w2 hr h2 => ?_)
  have hrl : (rgs ws).length = ws.length := by simp [rgs]
  refine cnd (fun hq => ?_) (fun hq => ?_)
  · repeat (first | refine pu_not ?_ | refine pu_eql ?_ | refine pu_neq ?_ | refine pu_lss ?_ | refine pu_leq ?_ | refine pu_gtr ?_ | refine pu_geq ?_ | refine pu_add ?_ | refine pu_sub ?_ | refine pu_mul ?_ | refine pu_neg ?_ | refine fa_at ?_ | refine nl_ptr ?_ | refine ex20 ?_ | refine ex21 ?_ | refine ex30 ?_ | refine ex31 ?_ | refine ex32 ?_ | refine ln_rule ?_ | refine lnT_rule ?_ | refine pu_and ?_ | refine pu_or ?_ | refine pu_xor ?_ | refine pu_seq ?_ | refine pu_sne ?_)
    refine ld_here h2 (.head _) (v := a) rfl ?_
    refine sl_ln ha ?_
    rw [hrl]
    repeat (first | refine pu_not ?_ | refine pu_eql ?_ | refine pu_neq ?_ | refine pu_lss ?_ | refine pu_leq ?_ | refine pu_gtr ?_ | refine pu_geq ?_ | refine pu_add ?_ | refine pu_sub ?_ | refine pu_mul ?_ | refine pu_neg ?_ | refine fa_at ?_ | refine nl_ptr ?_ | refine ex20 ?_ | refine ex21 ?_ | refine ex30 ?_ | refine ex31 ?_ | refine ex32 ?_ | refine ln_rule ?_ | refine lnT_rule ?_ | refine pu_and ?_ | refine pu_or ?_ | refine pu_xor ?_ | refine pu_seq ?_ | refine pu_sne ?_)
    refine k _ _ (fun hq2 => ⟨hr hq, ?_⟩) h2.drop
    simp at hq2; omega
  · exact k _ _ (fun h => by cases h) h2.drop
theorem refAt_spec {n m : Nat} (hv : fsIn X v p.fs) (hX : ∀ x, x ∈ X → x ∈ H) (h : Ow B w H) (k : ∀ (r : Ins) (e : Int) w', (∀ f i, p.fs[n]? = some f → f.code[m]? = some i → r = i ∧ e = 0) → Ow B w' H → K (.tuple #[.agg r.cells.toArray, vI e]) w') :
    callW PG N.linesmanref09_At [.agg (p.cells v).toArray, .agg #[vI n, vI m]] K PK w := by
  refine linesmanref09_At.ok ?_
  unfold linesmanref09_At.C
  refine al_rule h (l := p.cells v) rfl (fun b2 w1 h1 => ?_)
  refine al_rule h1 (l := [vI n, vI m]) rfl (fun b4 w2 h2 => ?_)
  refine al_rule h2 (l := (bare 0).cells) zins (fun b6 w3 h3 => ?_)
  have hX : ∀ x, x ∈ X → x ∈ (b6, iO (bare 0)) :: (b4, cel [vI n, vI m] T.t_api_Site) :: (b2, cel (p.cells v) T.t_api_Program) :: H := fun x hx => .tail _ (.tail _ (.tail _ (hX x hx)))
  have e5 : ∀ i : Ins, (bare 0).cells.take 0 ++ i.cells ++ (bare 0).cells.drop (0 + 5) = i.cells := fun i => rfl
  refine ⟨fun w => Ow B w ((b6, iO (bare 0)) :: (b4, cel [vI n, vI m] T.t_api_Site) :: (b2, cel (p.cells v) T.t_api_Program) :: H), h3.drew, ?_⟩
  repeat (first | refine pu_not ?_ | refine pu_eql ?_ | refine pu_neq ?_ | refine pu_lss ?_ | refine pu_leq ?_ | refine pu_gtr ?_ | refine pu_geq ?_ | refine pu_add ?_ | refine pu_sub ?_ | refine pu_mul ?_ | refine pu_neg ?_ | refine fa_at ?_ | refine nl_ptr ?_ | refine ex20 ?_ | refine ex21 ?_ | refine ex30 ?_ | refine ex31 ?_ | refine ex32 ?_ | refine ln_rule ?_ | refine lnT_rule ?_ | refine pu_and ?_ | refine pu_or ?_ | refine pu_xor ?_ | refine pu_seq ?_ | refine pu_sne ?_)
  refine lds_here (fun w h => h) (.tail _ (.head _)) (v := vI n) rfl ?_
  repeat (first | refine pu_not ?_ | refine pu_eql ?_ | refine pu_neq ?_ | refine pu_lss ?_ | refine pu_leq ?_ | refine pu_gtr ?_ | refine pu_geq ?_ | refine pu_add ?_ | refine pu_sub ?_ | refine pu_mul ?_ | refine pu_neg ?_ | refine fa_at ?_ | refine nl_ptr ?_ | refine ex20 ?_ | refine ex21 ?_ | refine ex30 ?_ | refine ex31 ?_ | refine ex32 ?_ | refine ln_rule ?_ | refine lnT_rule ?_ | refine pu_and ?_ | refine pu_or ?_ | refine pu_xor ?_ | refine pu_seq ?_ | refine pu_sne ?_)
  refine cnd_f (by simp) ?_
  repeat (first | refine pu_not ?_ | refine pu_eql ?_ | refine pu_neq ?_ | refine pu_lss ?_ | refine pu_leq ?_ | refine pu_gtr ?_ | refine pu_geq ?_ | refine pu_add ?_ | refine pu_sub ?_ | refine pu_mul ?_ | refine pu_neg ?_ | refine fa_at ?_ | refine nl_ptr ?_ | refine ex20 ?_ | refine ex21 ?_ | refine ex30 ?_ | refine ex31 ?_ | refine ex32 ?_ | refine ln_rule ?_ | refine lnT_rule ?_ | refine pu_and ?_ | refine pu_or ?_ | refine pu_xor ?_ | refine pu_seq ?_ | refine pu_sne ?_)
  refine lds_here (fun w h => h) (.tail _ (.head _)) (v := vI n) rfl ?_
  repeat (first | refine pu_not ?_ | refine pu_eql ?_ | refine pu_neq ?_ | refine pu_lss ?_ | refine pu_leq ?_ | refine pu_gtr ?_ | refine pu_geq ?_ | refine pu_add ?_ | refine pu_sub ?_ | refine pu_mul ?_ | refine pu_neg ?_ | refine fa_at ?_ | refine nl_ptr ?_ | refine ex20 ?_ | refine ex21 ?_ | refine ex30 ?_ | refine ex31 ?_ | refine ex32 ?_ | refine ln_rule ?_ | refine lnT_rule ?_ | refine pu_and ?_ | refine pu_or ?_ | refine pu_xor ?_ | refine pu_seq ?_ | refine pu_sne ?_)
  refine lds_here (fun w h => h) (.tail _ (.tail _ (.head _))) (v := v) rfl ?_
  refine hv.ln ?_
  repeat (first | refine pu_not ?_ | refine pu_eql ?_ | refine pu_neq ?_ | refine pu_lss ?_ | refine pu_leq ?_ | refine pu_gtr ?_ | refine pu_geq ?_ | refine pu_add ?_ | refine pu_sub ?_ | refine pu_mul ?_ | refine pu_neg ?_ | refine fa_at ?_ | refine nl_ptr ?_ | refine ex20 ?_ | refine ex21 ?_ | refine ex30 ?_ | refine ex31 ?_ | refine ex32 ?_ | refine ln_rule ?_ | refine lnT_rule ?_ | refine pu_and ?_ | refine pu_or ?_ | refine pu_xor ?_ | refine pu_seq ?_ | refine pu_sne ?_)
  refine cnd (fun hq => ?_) (fun hq => ?_)
  · have hq : p.fs.length ≤ n := by simp at hq; omega
    have no : ∀ f i, p.fs[n]? = some f → f.code[m]? = some i → bare 0 = i ∧ (4 : Int) = 0 := fun f i hf => by
      rw [List.getElem?_eq_none hq] at hf; cases hf
    refine pu_build (bare 0).cells (by kernel_rfl) ?_
    refine st_here (A := []) h3.drew (bare 0).cells rfl rfl (ins_plain _) (by simp [Ins.cells]) (fun w5 h5 => ?_)
    rw [e5] at h5
    refine ldn_here h5 (.head _) (vs := (bare 0).cells) rfl rfl ?_
    exact k _ _ _ no (Ow.drop (Ow.drop (Ow.drop h5)))
  have hq : n < p.fs.length := by simp at hq; omega
  obtain ⟨ps, c, f, f1, f2, f3, f4, f5⟩ := hv.at (n := (n : Int)) (by omega) (by omega)
  rw [Int.toNat_natCast] at f1
  repeat (first | refine pu_not ?_ | refine pu_eql ?_ | refine pu_neq ?_ | refine pu_lss ?_ | refine pu_leq ?_ | refine pu_gtr ?_ | refine pu_geq ?_ | refine pu_add ?_ | refine pu_sub ?_ | refine pu_mul ?_ | refine pu_neg ?_ | refine fa_at ?_ | refine nl_ptr ?_ | refine ex20 ?_ | refine ex21 ?_ | refine ex30 ?_ | refine ex31 ?_ | refine ex32 ?_ | refine ln_rule ?_ | refine lnT_rule ?_ | refine pu_and ?_ | refine pu_or ?_ | refine pu_xor ?_ | refine pu_seq ?_ | refine pu_sne ?_)
  refine lds_here (fun w h => h) (.tail _ (.head _)) (v := vI m) rfl ?_
  repeat (first | refine pu_not ?_ | refine pu_eql ?_ | refine pu_neq ?_ | refine pu_lss ?_ | refine pu_leq ?_ | refine pu_gtr ?_ | refine pu_geq ?_ | refine pu_add ?_ | refine pu_sub ?_ | refine pu_mul ?_ | refine pu_neg ?_ | refine fa_at ?_ | refine nl_ptr ?_ | refine ex20 ?_ | refine ex21 ?_ | refine ex30 ?_ | refine ex31 ?_ | refine ex32 ?_ | refine ln_rule ?_ | refine lnT_rule ?_ | refine pu_and ?_ | refine pu_or ?_ | refine pu_xor ?_ | refine pu_seq ?_ | refine pu_sne ?_)
  refine cnd_f (by simp) ?_
  repeat (first | refine pu_not ?_ | refine pu_eql ?_ | refine pu_neq ?_ | refine pu_lss ?_ | refine pu_leq ?_ | refine pu_gtr ?_ | refine pu_geq ?_ | refine pu_add ?_ | refine pu_sub ?_ | refine pu_mul ?_ | refine pu_neg ?_ | refine fa_at ?_ | refine nl_ptr ?_ | refine ex20 ?_ | refine ex21 ?_ | refine ex30 ?_ | refine ex31 ?_ | refine ex32 ?_ | refine ln_rule ?_ | refine lnT_rule ?_ | refine pu_and ?_ | refine pu_or ?_ | refine pu_xor ?_ | refine pu_seq ?_ | refine pu_sne ?_)
  refine lds_here (fun w h => h) (.tail _ (.head _)) (v := vI m) rfl ?_
  repeat (first | refine pu_not ?_ | refine pu_eql ?_ | refine pu_neq ?_ | refine pu_lss ?_ | refine pu_leq ?_ | refine pu_gtr ?_ | refine pu_geq ?_ | refine pu_add ?_ | refine pu_sub ?_ | refine pu_mul ?_ | refine pu_neg ?_ | refine fa_at ?_ | refine nl_ptr ?_ | refine ex20 ?_ | refine ex21 ?_ | refine ex30 ?_ | refine ex31 ?_ | refine ex32 ?_ | refine ln_rule ?_ | refine lnT_rule ?_ | refine pu_and ?_ | refine pu_or ?_ | refine pu_xor ?_ | refine pu_seq ?_ | refine pu_sne ?_)
  refine lds_here (fun w h => h) (.tail _ (.tail _ (.head _))) (v := v) rfl ?_
  repeat (first | refine pu_not ?_ | refine pu_eql ?_ | refine pu_neq ?_ | refine pu_lss ?_ | refine pu_leq ?_ | refine pu_gtr ?_ | refine pu_geq ?_ | refine pu_add ?_ | refine pu_sub ?_ | refine pu_mul ?_ | refine pu_neg ?_ | refine fa_at ?_ | refine nl_ptr ?_ | refine ex20 ?_ | refine ex21 ?_ | refine ex30 ?_ | refine ex31 ?_ | refine ex32 ?_ | refine ln_rule ?_ | refine lnT_rule ?_ | refine pu_and ?_ | refine pu_or ?_ | refine pu_xor ?_ | refine pu_seq ?_ | refine pu_sne ?_)
  refine lds_here (fun w h => h) (.tail _ (.head _)) (v := vI n) rfl ?_
  refine sls_flds (fun w h => h) (f2.mono hX) (by omega) f3 (j := 1) (v := c) rfl ?_
  refine sls_ln f4 ?_
  rw [icode_len]
  repeat (first | refine pu_not ?_ | refine pu_eql ?_ | refine pu_neq ?_ | refine pu_lss ?_ | refine pu_leq ?_ | refine pu_gtr ?_ | refine pu_geq ?_ | refine pu_add ?_ | refine pu_sub ?_ | refine pu_mul ?_ | refine pu_neg ?_ | refine fa_at ?_ | refine nl_ptr ?_ | refine ex20 ?_ | refine ex21 ?_ | refine ex30 ?_ | refine ex31 ?_ | refine ex32 ?_ | refine ln_rule ?_ | refine lnT_rule ?_ | refine pu_and ?_ | refine pu_or ?_ | refine pu_xor ?_ | refine pu_seq ?_ | refine pu_sne ?_)
  refine cnd (fun hr => ?_) (fun hr => ?_)
  · have hr : f.code.length ≤ m := by simp at hr; omega
    have no : ∀ f i, p.fs[n]? = some f → f.code[m]? = some i → bare 0 = i ∧ (4 : Int) = 0 := fun g i hg hi => by
      rw [f1] at hg
      cases hg
      rw [List.getElem?_eq_none hr] at hi; cases hi
    refine pu_build (bare 0).cells (by kernel_rfl) ?_
    refine st_here (A := []) h3.drew (bare 0).cells rfl rfl (ins_plain _) (by simp [Ins.cells]) (fun w5 h5 => ?_)
    rw [e5] at h5
    refine ldn_here h5 (.head _) (vs := (bare 0).cells) rfl rfl ?_
    exact k _ _ _ no (Ow.drop (Ow.drop (Ow.drop h5)))
  have hr : m < f.code.length := by simp at hr; omega
  have hi := List.getElem?_eq_getElem hr
  refine ⟨fun w => Ow B w ((b6, iO (bare 0)) :: (b4, cel [vI n, vI m] T.t_api_Site) :: (b2, cel (p.cells v) T.t_api_Program) :: H), h3.drew.drew, ?_⟩
  repeat (first | refine pu_not ?_ | refine pu_eql ?_ | refine pu_neq ?_ | refine pu_lss ?_ | refine pu_leq ?_ | refine pu_gtr ?_ | refine pu_geq ?_ | refine pu_add ?_ | refine pu_sub ?_ | refine pu_mul ?_ | refine pu_neg ?_ | refine fa_at ?_ | refine nl_ptr ?_ | refine ex20 ?_ | refine ex21 ?_ | refine ex30 ?_ | refine ex31 ?_ | refine ex32 ?_ | refine ln_rule ?_ | refine lnT_rule ?_ | refine pu_and ?_ | refine pu_or ?_ | refine pu_xor ?_ | refine pu_seq ?_ | refine pu_sne ?_)
  refine lds_here (fun w h => h) (.tail _ (.tail _ (.head _))) (v := v) rfl ?_
  repeat (first | refine pu_not ?_ | refine pu_eql ?_ | refine pu_neq ?_ | refine pu_lss ?_ | refine pu_leq ?_ | refine pu_gtr ?_ | refine pu_geq ?_ | refine pu_add ?_ | refine pu_sub ?_ | refine pu_mul ?_ | refine pu_neg ?_ | refine fa_at ?_ | refine nl_ptr ?_ | refine ex20 ?_ | refine ex21 ?_ | refine ex30 ?_ | refine ex31 ?_ | refine ex32 ?_ | refine ln_rule ?_ | refine lnT_rule ?_ | refine pu_and ?_ | refine pu_or ?_ | refine pu_xor ?_ | refine pu_seq ?_ | refine pu_sne ?_)
  refine lds_here (fun w h => h) (.tail _ (.head _)) (v := vI n) rfl ?_
  refine sls_flds (fun w h => h) (f2.mono hX) (by omega) f3 (j := 1) (v := c) rfl ?_
  repeat (first | refine pu_not ?_ | refine pu_eql ?_ | refine pu_neq ?_ | refine pu_lss ?_ | refine pu_leq ?_ | refine pu_gtr ?_ | refine pu_geq ?_ | refine pu_add ?_ | refine pu_sub ?_ | refine pu_mul ?_ | refine pu_neg ?_ | refine fa_at ?_ | refine nl_ptr ?_ | refine ex20 ?_ | refine ex21 ?_ | refine ex30 ?_ | refine ex31 ?_ | refine ex32 ?_ | refine ln_rule ?_ | refine lnT_rule ?_ | refine pu_and ?_ | refine pu_or ?_ | refine pu_xor ?_ | refine pu_seq ?_ | refine pu_sne ?_)
  refine lds_here (fun w h => h) (.tail _ (.head _)) (v := vI m) rfl ?_
  refine sls_lds (fun w h => h) (f4.mono hX) (by omega) (code_at hi) ?_
  refine st_here (A := []) h3.drew.drew f.code[m].cells rfl rfl (ins_plain _) (by simp [Ins.cells]) (fun w5 h5 => ?_)
  rw [e5] at h5
  refine ldn_here h5 (.head _) (vs := f.code[m].cells) rfl rfl ?_
  refine k _ _ _ (fun g i hg hi' => ?_) (Ow.drop (Ow.drop (Ow.drop h5)))
  rw [f1] at hg
  cases hg
  rw [hi] at hi'
  cases hi'
  exact ⟨rfl, rfl⟩
theorem acts_of {v1 : Value} (g : FitV PG H T.t_sl_linesmanlaw12_Act v1) : ∃ xs : List (List Value), Sls H v1 4 xs ∧ ∀ x ∈ xs, ∃ a b c d : Int, x = actC a b c d ∧ IsU d := by
  obtain ⟨xs, hs, hx⟩ := FitV.slice (e := T.t_linesmanlaw12_Act) (by kernel_rfl) g
  have hc : PG.cellsOf T.t_linesmanlaw12_Act = 4 := by kernel_rfl
  rw [hc] at hs
  exact ⟨xs, hs, fun x h => act_of' (hx x h)⟩
end
end Go.Proofs.YtkkkcafkepnecaaGreat

