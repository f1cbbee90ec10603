/- Programs: how much there is; the law ProgramSame. -/
import Derived.Test.YtkkkcafkepnecaaVpK
set_option linter.unusedVariables false
set_option linter.unusedSimpArgs false
namespace Go.Proofs.Ytkkkcafkepnecaa
open Go Go.RowKit Vc
attribute [local irreducible] binV Op.unary convert nlW faW ldS ldW ixS ixA ixV ixT exW lnS lnT pu stW alW opW opU bsW mkW

section
variable {B w : World} {H X : Hp} {K : Value → World → Prop} {PK : List PanicEntry → World → Prop} {KK : Value → Prop} {v v' : Value} {p q : Pr}
/-- None of it is larger than what may be reached. -/
def szC (l : List Ins) : Prop := l.length * 40 ≤ 140737488351232
theorem bytes_ins : PG.bytesOf T.t_api_Ins = 40 := by kernel_rfl
theorem reach_eq : reachBytes = 140737488351232 := rfl
theorem code_ofZ : ∀ {ys : List (List Value)}, (∀ y ∈ ys, FitZ PG H T.t_api_Ins y) → ∃ l : List Ins, ys = icode l ∧ immOk l := fun h => code_of fun y hy => (h y hy).fit
theorem fun_ofZ {cs : List Value} (h : FitZ PG H T.t_api_Func cs) : ∃ (f : Fun) (c : Value), cs = [vI f.regs, c] ∧ Sls H c 5 (icode f.code) ∧ immOk f.code ∧ szC f.code := by
  have hl : cs.length = 2 := h.fit.len (by kernel_rfl) (by kernel_rfl)
  match cs, hl with
  | [x, y], _ =>
    obtain ⟨a, ha, _⟩ := (h.fit.field (i := 0) (T := T.t_int) (off := 0) (n := 1) (by kernel_rfl)).of_int und_int
    obtain ⟨c, ys, hc, hs, hf, hz⟩ := (h.field (i := 1) (T := T.t_sl_api_Ins) (off := 1) (n := 1) (by kernel_rfl)).of_slice und_slins
    obtain ⟨l, rfl, hm⟩ := code_ofZ hf
    have e1 : [x] = [vI a] := ha
    have e2 : [y] = [c] := hc
    cases e1; cases e2
    rw [cells_ins] at hs
    rw [bytes_ins, List.length_map, reach_eq] at hz
    exact ⟨⟨a, l⟩, y, rfl, hs, hm, hz⟩
theorem funs_ofZ : ∀ {ys : List (List Value)}, (∀ y ∈ ys, FitZ PG H T.t_api_Func y) → ∃ ps : List (Value × Fun), ys = frows ps ∧ ∀ q ∈ ps, (Sls H q.1 5 (icode q.2.code) ∧ immOk q.2.code) ∧ szC q.2.code
  | [], _ => ⟨[], rfl, fun q hq => by cases hq⟩
  | y :: ys, h => by
    obtain ⟨ps, rfl, h2⟩ := funs_ofZ fun z hz => h z (.tail _ hz)
    obtain ⟨f, c, rfl, h3, h4, h5⟩ := fun_ofZ (h y (.head _))
    refine ⟨(c, f) :: ps, rfl, fun q hq => ?_⟩
    rcases List.mem_cons.1 hq with rfl | hq
    · exact ⟨⟨h3, h4⟩, h5⟩
    · exact h2 q hq
theorem prog_ofZ {v0 : Value} (g : FitZV PG H T.t_api_Program v0) : ∃ (p : Pr) (v : Value), v0 = .agg (p.cells v).toArray ∧ fsIn H v p.fs ∧ (∀ f ∈ p.fs, szC f.code) ∧ ∀ f ∈ p.fs, immOk f.code := by
  obtain ⟨gz, g⟩ := g
  obtain ⟨cs, rfl, hf⟩ := g.agg (by kernel_rfl)
  have h : FitZ PG H T.t_api_Program cs := by simpa [Value.cells] using gz
  have hl : cs.length = 4 := hf.len (by kernel_rfl) (by kernel_rfl)
  match cs, hl with
  | [x, y, z, u], _ =>
    obtain ⟨c, ys, hc, hs, hff, hz⟩ := (h.field (i := 0) (T := T.t_sl_api_Func) (off := 0) (n := 1) (by kernel_rfl)).of_slice und_slfunc
    obtain ⟨ps, rfl, hm⟩ := funs_ofZ hff
    obtain ⟨a, ha, _⟩ := (hf.field (i := 1) (T := T.t_int) (off := 1) (n := 1) (by kernel_rfl)).of_int und_int
    obtain ⟨b, hb, _⟩ := (hf.field (i := 2) (T := T.t_int) (off := 2) (n := 1) (by kernel_rfl)).of_int und_int
    obtain ⟨d, hd, _⟩ := (hf.field (i := 3) (T := T.t_int) (off := 3) (n := 1) (by kernel_rfl)).of_int und_int
    have e1 : [x] = [c] := hc
    have e2 : [y] = [vI a] := ha
    have e3 : [z] = [vI b] := hb
    have e4 : [u] = [vI d] := hd
    cases e1; cases e2; cases e3; cases e4
    rw [cells_func] at hs
    refine ⟨⟨ps.map Prod.snd, a, b, d⟩, x, rfl, ⟨ps, rfl, hs, fun q hq => (hm q hq).1⟩, fun f hf => ?_, fun f hf => ?_⟩
    · obtain ⟨q, hq, rfl⟩ := List.mem_map.1 hf
      exact (hm q hq).2
    · obtain ⟨q, hq, rfl⟩ := List.mem_map.1 hf
      exact (hm q hq).1.2
def sumC (fs : List Fun) : Nat := (fs.map fun f => f.code.length).sum
theorem sumC_snoc (fs : List Fun) (f : Fun) : sumC (fs ++ [f]) = sumC fs + f.code.length := by simp [sumC]
theorem sumC_le : ∀ {fs : List Fun} {f : Fun}, f ∈ fs → f.code.length ≤ sumC fs
  | g :: fs, f, h => by
    have e : sumC (g :: fs) = g.code.length + sumC fs := by simp [sumC]
    rcases List.mem_cons.1 h with rfl | h
    · omega
    · have := sumC_le h; omega
theorem sumC_big : ∀ {fs : List Fun} {n : Nat}, (∀ f ∈ fs, szC f.code) → fs.length ≤ n → sumC fs ≤ n * 3518437208780
  | [], n, _, _ => by simp [sumC]
  | g :: fs, n, h, hl => by
    have e : sumC (g :: fs) = g.code.length + sumC fs := by simp [sumC]
    have := sumC_big (n := n - 1) (fun f hf => h f (.tail _ hf)) (by simp at hl; omega)
    have h2 := h g (.head _)
    unfold szC at h2
    simp at hl
    have h3 : n * 3518437208780 = (n - 1) * 3518437208780 + 3518437208780 := by
      obtain ⟨m, rfl⟩ : ∃ m, n = m + 1 := ⟨n - 1, by omega⟩
      rw [Nat.add_sub_cancel, Nat.add_mul, Nat.one_mul]
    omega
def fewI (p : Pr) : Bool := decide (p.fs.length ≤ 40) && decide (sumC (p.fs.take 40) ≤ 1600)
theorem few_spec (hv : fsIn X v p.fs) (hz : ∀ f ∈ p.fs, szC f.code) (hX : ∀ x, x ∈ X → x ∈ H) (h : Ow B w H) (k : ∀ w', Ow B w' H → K (vB (fewI p)) w') : callW PG N.linesmanlaw09_few [.agg (p.cells v).toArray] K PK w := by
  refine linesmanlaw09_few.ok ?_
  unfold linesmanlaw09_few.C
  refine al_rule h (l := p.cells v) rfl (fun b w1 h1 => ?_)
  refine ⟨fun l w => ∃ n : Nat, l = [vI (sumC (p.fs.take n) : Nat), vI n] ∧ n ≤ 40 ∧ n ≤ p.fs.length ∧ Ow B w ((b, cel (p.cells v) T.t_api_Program) :: H), fun l _ => match l with | [_, .int _ q] => 40 - q.toNat | _ => 0, ⟨0, rfl, by omega, by omega, h1⟩, ?_⟩
  rintro l w2 ⟨n, rfl, hn, hnl, h2⟩ j
  have hbig : sumC (p.fs.take n) ≤ 40 * 3518437208780 := sumC_big (fun f hf => hz f (List.mem_of_mem_take hf)) (by simp; omega)
  repeat (first | refine pu_not ?_ | refine pu_eql ?_ | refine pu_neq ?_ | refine pu_lss ?_ | refine pu_leq ?_ | refine pu_gtr ?_ | refine pu_geq ?_ | refine pu_add ?_ | refine pu_sub ?_ | refine pu_mul ?_ | refine pu_neg ?_ | refine fa_at ?_ | refine nl_ptr ?_ | refine ex20 ?_ | refine ex21 ?_ | refine ex30 ?_ | refine ex31 ?_ | refine ex32 ?_ | refine ln_rule ?_ | refine lnT_rule ?_ | refine pu_and ?_ | refine pu_or ?_ | refine pu_xor ?_ | refine pu_seq ?_ | refine pu_sne ?_)
  refine ld_here h2 (.head _) (v := v) rfl ?_
  refine hv.ln ?_
  repeat (first | refine pu_not ?_ | refine pu_eql ?_ | refine pu_neq ?_ | refine pu_lss ?_ | refine pu_leq ?_ | refine pu_gtr ?_ | refine pu_geq ?_ | refine pu_add ?_ | refine pu_sub ?_ | refine pu_mul ?_ | refine pu_neg ?_ | refine fa_at ?_ | refine nl_ptr ?_ | refine ex20 ?_ | refine ex21 ?_ | refine ex30 ?_ | refine ex31 ?_ | refine ex32 ?_ | refine ln_rule ?_ | refine lnT_rule ?_ | refine pu_and ?_ | refine pu_or ?_ | refine pu_xor ?_ | refine pu_seq ?_ | refine pu_sne ?_)
  refine cnd (fun hlt => ?_) (fun hlt => ?_)
  · have hlt : n < p.fs.length := by simpa using hlt
    repeat (first | refine pu_not ?_ | refine pu_eql ?_ | refine pu_neq ?_ | refine pu_lss ?_ | refine pu_leq ?_ | refine pu_gtr ?_ | refine pu_geq ?_ | refine pu_add ?_ | refine pu_sub ?_ | refine pu_mul ?_ | refine pu_neg ?_ | refine fa_at ?_ | refine nl_ptr ?_ | refine ex20 ?_ | refine ex21 ?_ | refine ex30 ?_ | refine ex31 ?_ | refine ex32 ?_ | refine ln_rule ?_ | refine lnT_rule ?_ | refine pu_and ?_ | refine pu_or ?_ | refine pu_xor ?_ | refine pu_seq ?_ | refine pu_sne ?_)
    refine cnd (fun h40 => ?_) (fun h40 => ?_)
    · have h40 : n < 40 := by simp at h40; omega
      obtain ⟨ps, cc, g, g1, g2, g3, g4, g5⟩ := hv.at (n := (n : Int)) (by omega) (by omega)
      rw [Int.toNat_natCast] at g1
      have htk : p.fs.take (n + 1) = p.fs.take n ++ [g] := by rw [List.take_add_one, g1]; rfl
      have hgz := hz g (List.mem_of_getElem? g1)
      unfold szC at hgz
      repeat (first | refine pu_not ?_ | refine pu_eql ?_ | refine pu_neq ?_ | refine pu_lss ?_ | refine pu_leq ?_ | refine pu_gtr ?_ | refine pu_geq ?_ | refine pu_add ?_ | refine pu_sub ?_ | refine pu_mul ?_ | refine pu_neg ?_ | refine fa_at ?_ | refine nl_ptr ?_ | refine ex20 ?_ | refine ex21 ?_ | refine ex30 ?_ | refine ex31 ?_ | refine ex32 ?_ | refine ln_rule ?_ | refine lnT_rule ?_ | refine pu_and ?_ | refine pu_or ?_ | refine pu_xor ?_ | refine pu_seq ?_ | refine pu_sne ?_)
      refine ld_here h2 (.head _) (v := v) rfl ?_
      refine sls_fld h2 (g2.mono fun x hx => .tail _ (hX x hx)) (by omega) g3 (v := cc) rfl ?_
      refine sls_ln g4 ?_
      rw [icode_len]
      repeat (first | refine pu_not ?_ | refine pu_eql ?_ | refine pu_neq ?_ | refine pu_lss ?_ | refine pu_leq ?_ | refine pu_gtr ?_ | refine pu_geq ?_ | refine pu_add ?_ | refine pu_sub ?_ | refine pu_mul ?_ | refine pu_neg ?_ | refine fa_at ?_ | refine nl_ptr ?_ | refine ex20 ?_ | refine ex21 ?_ | refine ex30 ?_ | refine ex31 ?_ | refine ex32 ?_ | refine ln_rule ?_ | refine lnT_rule ?_ | refine pu_and ?_ | refine pu_or ?_ | refine pu_xor ?_ | refine pu_seq ?_ | refine pu_sne ?_)
      rw [wrap64_in (by omega) (by omega), wrap64_in (by omega) (by omega)]
      refine ⟨⟨n + 1, ?_, h40, hlt, h2⟩, by simp; omega⟩
      rw [htk, sumC_snoc]
      rfl
    · have hn40 : n = 40 := by simp at h40; omega
      have ETAKE : p.fs.take n = p.fs.take 40 := by rw [hn40]
      have e40 : p.fs.take n = p.fs.take 40 := ETAKE
      rw [e40] at hbig ⊢
      unfold fewI at k
      repeat (first | refine pu_not ?_ | refine pu_eql ?_ | refine pu_neq ?_ | refine pu_lss ?_ | refine pu_leq ?_ | refine pu_gtr ?_ | refine pu_geq ?_ | refine pu_add ?_ | refine pu_sub ?_ | refine pu_mul ?_ | refine pu_neg ?_ | refine fa_at ?_ | refine nl_ptr ?_ | refine ex20 ?_ | refine ex21 ?_ | refine ex30 ?_ | refine ex31 ?_ | refine ex32 ?_ | refine ln_rule ?_ | refine lnT_rule ?_ | refine pu_and ?_ | refine pu_or ?_ | refine pu_xor ?_ | refine pu_seq ?_ | refine pu_sne ?_)
      refine ld_here h2 (.head _) (v := v) rfl ?_
      refine hv.ln ?_
      repeat (first | refine pu_not ?_ | refine pu_eql ?_ | refine pu_neq ?_ | refine pu_lss ?_ | refine pu_leq ?_ | refine pu_gtr ?_ | refine pu_geq ?_ | refine pu_add ?_ | refine pu_sub ?_ | refine pu_mul ?_ | refine pu_neg ?_ | refine fa_at ?_ | refine nl_ptr ?_ | refine ex20 ?_ | refine ex21 ?_ | refine ex30 ?_ | refine ex31 ?_ | refine ex32 ?_ | refine ln_rule ?_ | refine lnT_rule ?_ | refine pu_and ?_ | refine pu_or ?_ | refine pu_xor ?_ | refine pu_seq ?_ | refine pu_sne ?_)
      refine cnd (fun hq => ?_) (fun hq => ?_)
      · have hq : p.fs.length ≤ 40 := by simp at hq; omega
        rw [decide_eq_true hq, Bool.true_and] at k
        repeat (first | refine pu_not ?_ | refine pu_eql ?_ | refine pu_neq ?_ | refine pu_lss ?_ | refine pu_leq ?_ | refine pu_gtr ?_ | refine pu_geq ?_ | refine pu_add ?_ | refine pu_sub ?_ | refine pu_mul ?_ | refine pu_neg ?_ | refine fa_at ?_ | refine nl_ptr ?_ | refine ex20 ?_ | refine ex21 ?_ | refine ex30 ?_ | refine ex31 ?_ | refine ex32 ?_ | refine ln_rule ?_ | refine lnT_rule ?_ | refine pu_and ?_ | refine pu_or ?_ | refine pu_xor ?_ | refine pu_seq ?_ | refine pu_sne ?_)
        have e2 : decide ((sumC (p.fs.take 40) : Int) ≤ 1600) = decide (sumC (p.fs.take 40) ≤ 1600) := by simp only [decide_eq_decide]; omega
        rw [e2]
        exact k _ h2.drop
      · have hq : ¬ p.fs.length ≤ 40 := by simp at hq; omega
        rw [decide_eq_false hq, Bool.false_and] at k
        exact k _ h2.drop
  · have hn2 : n = p.fs.length := by simp at hlt; omega
    have ETAKE : p.fs.take n = p.fs.take 40 := by rw [List.take_of_length_le (by omega), List.take_of_length_le (by omega)]
    have e40 : p.fs.take n = p.fs.take 40 := ETAKE
    rw [e40] at hbig ⊢
    unfold fewI at k
    repeat (first | refine pu_not ?_ | refine pu_eql ?_ | refine pu_neq ?_ | refine pu_lss ?_ | refine pu_leq ?_ | refine pu_gtr ?_ | refine pu_geq ?_ | refine pu_add ?_ | refine pu_sub ?_ | refine pu_mul ?_ | refine pu_neg ?_ | refine fa_at ?_ | refine nl_ptr ?_ | refine ex20 ?_ | refine ex21 ?_ | refine ex30 ?_ | refine ex31 ?_ | refine ex32 ?_ | refine ln_rule ?_ | refine lnT_rule ?_ | refine pu_and ?_ | refine pu_or ?_ | refine pu_xor ?_ | refine pu_seq ?_ | refine pu_sne ?_)
    refine ld_here h2 (.head _) (v := v) rfl ?_
    refine hv.ln ?_
    repeat (first | refine pu_not ?_ | refine pu_eql ?_ | refine pu_neq ?_ | refine pu_lss ?_ | refine pu_leq ?_ | refine pu_gtr ?_ | refine pu_geq ?_ | refine pu_add ?_ | refine pu_sub ?_ | refine pu_mul ?_ | refine pu_neg ?_ | refine fa_at ?_ | refine nl_ptr ?_ | refine ex20 ?_ | refine ex21 ?_ | refine ex30 ?_ | refine ex31 ?_ | refine ex32 ?_ | refine ln_rule ?_ | refine lnT_rule ?_ | refine pu_and ?_ | refine pu_or ?_ | refine pu_xor ?_ | refine pu_seq ?_ | refine pu_sne ?_)
    refine cnd (fun hq => ?_) (fun hq => ?_)
    · have hq : p.fs.length ≤ 40 := by simp at hq; omega
      rw [decide_eq_true hq, Bool.true_and] at k
      repeat (first | refine pu_not ?_ | refine pu_eql ?_ | refine pu_neq ?_ | refine pu_lss ?_ | refine pu_leq ?_ | refine pu_gtr ?_ | refine pu_geq ?_ | refine pu_add ?_ | refine pu_sub ?_ | refine pu_mul ?_ | refine pu_neg ?_ | refine fa_at ?_ | refine nl_ptr ?_ | refine ex20 ?_ | refine ex21 ?_ | refine ex30 ?_ | refine ex31 ?_ | refine ex32 ?_ | refine ln_rule ?_ | refine lnT_rule ?_ | refine pu_and ?_ | refine pu_or ?_ | refine pu_xor ?_ | refine pu_seq ?_ | refine pu_sne ?_)
      have e2 : decide ((sumC (p.fs.take 40) : Int) ≤ 1600) = decide (sumC (p.fs.take 40) ≤ 1600) := by simp only [decide_eq_decide]; omega
      rw [e2]
      exact k _ h2.drop
    · have hq : ¬ p.fs.length ≤ 40 := by simp at hq; omega
      rw [decide_eq_false hq, Bool.false_and] at k
      exact k _ h2.drop
theorem few_of (h : fewI p = true) : p.fs.length ≤ 40 ∧ ∀ f ∈ p.fs, f.code.length ≤ 1600 := by
  unfold fewI at h
  rw [Bool.and_eq_true] at h
  have h1 := of_decide_eq_true h.1
  have h2 := of_decide_eq_true h.2
  rw [List.take_of_length_le h1] at h2
  exact ⟨h1, fun f hf => Nat.le_trans (sumC_le hf) h2⟩
theorem CpP.at {F : Hp} {fs : List Fun} {i : Nat} (cp : CpP F v fs) (hi : i < fs.length) : ∃ (Sf : Hp) (pre : List CE) (e : CE) (post : List CE), F = Sf ++ (cfoot pre ++ (e.S ++ cfoot post)) ∧ pre.length = i ∧ e.ok ∧ fs[i]? = some e.f ∧ Vc.Own Sf T.t_api_Func 2 v (crows (pre ++ e :: post)).length (crows (pre ++ e :: post)).flatten ∧
    ∀ (Sf' : Hp) (e' : CE), e'.ok → Vc.Own Sf' T.t_api_Func 2 v (crows (pre ++ e' :: post)).length (crows (pre ++ e' :: post)).flatten → CpP (Sf' ++ (cfoot pre ++ (e'.S ++ cfoot post))) v (fs.set i e'.f) := by
  obtain ⟨Sf, es, h1, h2, h3, rfl⟩ := cp
  have hl : es.length = fs.length := by rw [← h1]; simp
  have hlt : i < es.length := by omega
  have he : es = es.take i ++ es[i] :: es.drop (i + 1) := by rw [List.getElem_cons_drop, List.take_append_drop]
  have hp : (es.take i).length = i := by simp; omega
  have hok := h2 _ (List.getElem_mem hlt)
  have hf : fs[i]? = some es[i].f := by rw [← h1, List.getElem?_map, List.getElem?_eq_getElem hlt]; rfl
  generalize es[i] = e at *
  generalize es.take i = pre at *
  generalize es.drop (i + 1) = post at *
  subst he
  have hcf : ∀ e : CE, cfoot (pre ++ e :: post) = cfoot pre ++ (e.S ++ cfoot post) := fun e => by unfold cfoot; rw [List.flatMap_append, List.flatMap_cons]
  refine ⟨Sf, pre, e, post, by rw [hcf], hp, hok, hf, h3, fun Sf' e' hok' ho' => ⟨Sf', pre ++ e' :: post, ?_, ?_, ho', by rw [hcf]⟩⟩
  · rw [← h1, List.map_append, List.map_append, ← hp]
    simp
  · intro x hx
    rcases List.mem_append.1 hx with hx | hx
    · exact h2 x (List.mem_append_left _ hx)
    · rcases List.mem_cons.1 hx with rfl | hx
      · exact hok'
      · exact h2 x (List.mem_append_right _ (.tail _ hx))
theorem crows_at {pre post : List CE} {e : CE} : (crows (pre ++ e :: post))[pre.length]? = some (crow e) := by
  unfold crows
  rw [List.map_append, List.getElem?_append_right (by simp)]
  simp
theorem crows_set {pre post : List CE} {e e' : CE} : (crows (pre ++ e :: post)).set pre.length (crow e') = crows (pre ++ e' :: post) := by
  unfold crows
  rw [List.map_append, List.set_append_right _ _ (by simp), List.map_append]
  simp
theorem ProgramSame.law {v0 v1 : Value} (g0 : FitZV PG H T.t_api_Program v0) (g1 : FitZV PG H T.t_api_Program v1) (h : Ow B w H) (k : ∀ w', Ow B w' H → K (vB true) w') : callW PG N.linesmanlaw09_ProgramSame [v0, v1] K PK w := by
  obtain ⟨p, v, rfl, hv, hz, hm⟩ := prog_ofZ g0
  obtain ⟨q, v', rfl, hv', hz', hm'⟩ := prog_ofZ g1
  clear g0 g1
  refine linesmanlaw09_ProgramSame.ok ?_
  unfold linesmanlaw09_ProgramSame.C
  refine al_rule h (l := p.cells v) rfl (fun b2 w1 h1 => ?_)
  refine al_rule h1 (l := q.cells v') rfl (fun b4 w2 h2 => ?_)
  have k : ∀ w', Ow B w' ((b4, cel (q.cells v') T.t_api_Program) :: (b2, cel (p.cells v) T.t_api_Program) :: H) → K (vB true) w' := fun w' h' => k w' h'.drop.drop
  have m2 : (b2, cel (p.cells v) T.t_api_Program) ∈ (b4, cel (q.cells v') T.t_api_Program) :: (b2, cel (p.cells v) T.t_api_Program) :: H := .tail _ (.head _)
  have m4 : (b4, cel (q.cells v') T.t_api_Program) ∈ (b4, cel (q.cells v') T.t_api_Program) :: (b2, cel (p.cells v) T.t_api_Program) :: H := .head _
  have mH : ∀ x, x ∈ H → x ∈ (b4, cel (q.cells v') T.t_api_Program) :: (b2, cel (p.cells v) T.t_api_Program) :: H := fun x hx => .tail _ (.tail _ hx)
  have hv := hv.mono mH
  have hv' := hv'.mono mH
  generalize (b4, cel (q.cells v') T.t_api_Program) :: (b2, cel (p.cells v) T.t_api_Program) :: H = G at *
  clear h h1
  have drp : ∀ {S G : Hp} {w : World}, Ow B w (S ++ G) → Ow B w G := fun h => h.sub (List.sublist_append_right _ _)
  refine ldn_here h2 m2 (vs := p.cells v) rfl rfl ?_
  refine few_spec hv hz (fun x hx => hx) h2 (fun w3 h3 => ?_)
  repeat (first | refine pu_not ?_ | refine pu_eql ?_ | refine pu_neq ?_ | refine pu_lss ?_ | refine pu_leq ?_ | refine pu_gtr ?_ | refine pu_geq ?_ | refine pu_add ?_ | refine pu_sub ?_ | refine pu_mul ?_ | refine pu_neg ?_ | refine fa_at ?_ | refine nl_ptr ?_ | refine ex20 ?_ | refine ex21 ?_ | refine ex30 ?_ | refine ex31 ?_ | refine ex32 ?_ | refine ln_rule ?_ | refine lnT_rule ?_ | refine pu_and ?_ | refine pu_or ?_ | refine pu_xor ?_ | refine pu_seq ?_ | refine pu_sne ?_)
  refine cnd (fun _ => works_spec h3 k) (fun hf => ?_)
  obtain ⟨hf1, hf2⟩ := few_of (p := p) (by simpa using hf)
  refine ldn_here h3 m4 (vs := q.cells v') rfl rfl ?_
  refine few_spec hv' hz' (fun x hx => hx) h3 (fun w4 h4 => ?_)
  repeat (first | refine pu_not ?_ | refine pu_eql ?_ | refine pu_neq ?_ | refine pu_lss ?_ | refine pu_leq ?_ | refine pu_gtr ?_ | refine pu_geq ?_ | refine pu_add ?_ | refine pu_sub ?_ | refine pu_mul ?_ | refine pu_neg ?_ | refine fa_at ?_ | refine nl_ptr ?_ | refine ex20 ?_ | refine ex21 ?_ | refine ex30 ?_ | refine ex31 ?_ | refine ex32 ?_ | refine ln_rule ?_ | refine lnT_rule ?_ | refine pu_and ?_ | refine pu_or ?_ | refine pu_xor ?_ | refine pu_seq ?_ | refine pu_sne ?_)
  refine cnd (fun _ => works_spec h4 k) (fun hg => ?_)
  refine ldn_here h4 m2 (vs := p.cells v) rfl rfl ?_
  refine ldn_here h4 m4 (vs := q.cells v') rfl rfl ?_
  refine refSame_spec hv hv' (fun x hx => hx) h4 (fun w5 h5 => ?_)
  refine ldn_here h5 m2 (vs := p.cells v) rfl rfl ?_
  refine copy_spec hv (fun x hx => hx) (by omega) (fun f hf => by have := hf2 f hf; omega) h5 (fun F c w6 cp h6 => ?_)
  have hcp : plainV c = true := (cp.ins hm).plain
  refine al_rule h6 (l := [.slice none 0 0, vI 0, vI 0, vI 0]) (by kernel_rfl) (fun b31 w7 h7 => ?_)
  refine st_here (A := []) h7 (p.cells c) rfl rfl (by simp only [Pr.cells, List.all_cons, hcp]; rfl) (by simp) (fun w8 h8 => ?_)
  simp only [List.take_zero, List.nil_append, Nat.zero_add, List.drop_succ_cons, List.drop_zero, List.drop_nil, List.append_nil] at h8
  have h8 : Ow B w8 (F ++ ((b31, cel (p.cells c) T.t_api_Program) :: G)) := h8.perm List.perm_middle.symm
  have mG : ∀ {F : Hp} x, x ∈ G → x ∈ F ++ ((b31, cel (p.cells c) T.t_api_Program) :: G) := fun x hx => List.mem_append_right _ (.tail _ hx)
  refine ldn_here h8 (mG _ m2) (vs := p.cells v) rfl rfl ?_
  refine ldn_here h8 (mG _ m4) (vs := q.cells v') rfl rfl ?_
  refine same_spec hv hv' mG h8 (fun w9 h9 => ?_)
  refine pu_bneq (by kernel_rfl) ?_
  refine cnd_f (by simp) ?_
  refine ldn_here h9 (mG _ m4) (vs := q.cells v') rfl rfl ?_
  refine ldn_here h9 (mG _ m2) (vs := p.cells v) rfl rfl ?_
  refine same_spec hv' hv mG h9 (fun w10 h10 => ?_)
  refine pu_bneq (by kernel_rfl) ?_
  refine cnd_f (by simp [eq_comm]) ?_
  refine ldn_here h10 (mG _ m2) (vs := p.cells v) rfl rfl ?_
  refine ldn_here h10 (mG _ m2) (vs := p.cells v) rfl rfl ?_
  refine same_spec hv hv mG h10 (fun w11 h11 => ?_)
  repeat (first | refine pu_not ?_ | refine pu_eql ?_ | refine pu_neq ?_ | refine pu_lss ?_ | refine pu_leq ?_ | refine pu_gtr ?_ | refine pu_geq ?_ | refine pu_add ?_ | refine pu_sub ?_ | refine pu_mul ?_ | refine pu_neg ?_ | refine fa_at ?_ | refine nl_ptr ?_ | refine ex20 ?_ | refine ex21 ?_ | refine ex30 ?_ | refine ex31 ?_ | refine ex32 ?_ | refine ln_rule ?_ | refine lnT_rule ?_ | refine pu_and ?_ | refine pu_or ?_ | refine pu_xor ?_ | refine pu_seq ?_ | refine pu_sne ?_)
  refine cnd_f (by simp) ?_
  refine ldn_here h11 (mG _ m2) (vs := p.cells v) rfl rfl ?_
  refine ldn_here h11 (List.mem_append_right _ (.head _)) (vs := p.cells c) rfl rfl ?_
  refine refSame_spec (p := p) (q := p) (hv.mono mG) ((cp.ins hm).mono fun x hx => List.mem_append_left _ hx) (fun x hx => hx) h11 (fun w12 h12 => ?_)
  repeat (first | refine pu_not ?_ | refine pu_eql ?_ | refine pu_neq ?_ | refine pu_lss ?_ | refine pu_leq ?_ | refine pu_gtr ?_ | refine pu_geq ?_ | refine pu_add ?_ | refine pu_sub ?_ | refine pu_mul ?_ | refine pu_neg ?_ | refine fa_at ?_ | refine nl_ptr ?_ | refine ex20 ?_ | refine ex21 ?_ | refine ex30 ?_ | refine ex31 ?_ | refine ex32 ?_ | refine ln_rule ?_ | refine lnT_rule ?_ | refine pu_and ?_ | refine pu_or ?_ | refine pu_xor ?_ | refine pu_seq ?_ | refine pu_sne ?_)
  refine cnd_f (by simp) ?_
  refine ⟨fun l w => ∃ (n : Nat) (F : Hp) (fs : List Fun), l = [vI n] ∧ n ≤ fs.length ∧ fs.length = p.fs.length ∧ (∀ f ∈ fs, f.code.length ≤ 1600) ∧ CpP F c fs ∧ Ow B w (F ++ ((b31, cel (p.cells c) T.t_api_Program) :: G)), fun l _ => match l with | [.int _ i] => p.fs.length - i.toNat | _ => 0, ⟨0, F, p.fs, rfl, Nat.zero_le _, rfl, hf2, cp, h12⟩, ?_⟩
  clear h12 h11 h10 h9 h8 h7 h6 cp
  rintro l w13 ⟨n, F, fs, rfl, hn, hfl, hcl, cp, h13⟩ j
  have hcl0 : c.cells = #[c] := plain_cells hcp
  repeat (first | refine pu_not ?_ | refine pu_eql ?_ | refine pu_neq ?_ | refine pu_lss ?_ | refine pu_leq ?_ | refine pu_gtr ?_ | refine pu_geq ?_ | refine pu_add ?_ | refine pu_sub ?_ | refine pu_mul ?_ | refine pu_neg ?_ | refine fa_at ?_ | refine nl_ptr ?_ | refine ex20 ?_ | refine ex21 ?_ | refine ex30 ?_ | refine ex31 ?_ | refine ex32 ?_ | refine ln_rule ?_ | refine lnT_rule ?_ | refine pu_and ?_ | refine pu_or ?_ | refine pu_xor ?_ | refine pu_seq ?_ | refine pu_sne ?_)
  refine ld_here h13 (List.mem_append_right _ (.head _)) (v := c) rfl ?_
  have hln : ∀ {F : Hp} {fs : List Fun}, CpP F c fs → ∀ KK : Value → Prop, KK (vI fs.length) → lnS c KK := fun cp KK kk => by
    obtain ⟨Sf, es, e1, e2, e3, e4⟩ := cp
    obtain ⟨a, cc, hc⟩ := e3.len
    rw [hc]
    refine ln_rule ?_
    have h1 : (crows es).length = es.length := by simp [crows]
    rw [h1]
    rw [← e1, List.length_map] at kk
    exact kk
  refine hln cp _ ?_
  repeat (first | refine pu_not ?_ | refine pu_eql ?_ | refine pu_neq ?_ | refine pu_lss ?_ | refine pu_leq ?_ | refine pu_gtr ?_ | refine pu_geq ?_ | refine pu_add ?_ | refine pu_sub ?_ | refine pu_mul ?_ | refine pu_neg ?_ | refine fa_at ?_ | refine nl_ptr ?_ | refine ex20 ?_ | refine ex21 ?_ | refine ex30 ?_ | refine ex31 ?_ | refine ex32 ?_ | refine ln_rule ?_ | refine lnT_rule ?_ | refine pu_and ?_ | refine pu_or ?_ | refine pu_xor ?_ | refine pu_seq ?_ | refine pu_sne ?_)
  refine cnd (fun hlt => ?_) (fun hlt => ?_)
  · have hlt : n < fs.length := by simpa using hlt
    obtain ⟨Sf, pre, e, post, rfl, hpl, hok, hfe, ho, hset⟩ := cp.at hlt
    repeat (first | refine pu_not ?_ | refine pu_eql ?_ | refine pu_neq ?_ | refine pu_lss ?_ | refine pu_leq ?_ | refine pu_gtr ?_ | refine pu_geq ?_ | refine pu_add ?_ | refine pu_sub ?_ | refine pu_mul ?_ | refine pu_neg ?_ | refine fa_at ?_ | refine nl_ptr ?_ | refine ex20 ?_ | refine ex21 ?_ | refine ex30 ?_ | refine ex31 ?_ | refine ex32 ?_ | refine ln_rule ?_ | refine lnT_rule ?_ | refine pu_and ?_ | refine pu_or ?_ | refine pu_xor ?_ | refine pu_seq ?_ | refine pu_sne ?_)
    refine ld_here h13 (List.mem_append_right _ (.head _)) (v := c) rfl ?_
    have h13 : Ow B w13 ([] ++ Sf ++ ((cfoot pre ++ (e.S ++ cfoot post)) ++ ((b31, cel (p.cells c) T.t_api_Program) :: G))) := by simpa using h13
    refine own_setf (A := []) (j := 0) (x := vI 77) h13 ho (crows_two _) (by omega) (by rw [Int.toNat_natCast, ← hpl]; exact crows_at) (by omega) rfl rfl (fun Sf' w14 h14 ho14 => ?_)
    have hrw : (crow e).set 0 (vI 77) = crow ⟨e.S, e.c, ⟨77, e.f.code⟩⟩ := rfl
    rw [Int.toNat_natCast, ← hpl, hrw, crows_set] at ho14
    have hlen2 : (crows (pre ++ e :: post)).length = (crows (pre ++ ⟨e.S, e.c, ⟨77, e.f.code⟩⟩ :: post)).length := by simp [crows]
    rw [hlen2] at ho14
    have cp14 := hset Sf' ⟨e.S, e.c, ⟨77, e.f.code⟩⟩ hok ho14
    have hcode : e.f.code.length ≤ 1600 := hcl _ (List.mem_of_getElem? hfe)
    have h14 : Ow B w14 ((Sf' ++ (cfoot pre ++ (e.S ++ cfoot post))) ++ ((b31, cel (p.cells c) T.t_api_Program) :: G)) := by simpa using h14
    generalize hfs2 : fs.set n (⟨77, e.f.code⟩ : Fun) = fs2 at cp14
    have hfl2 : fs2.length = p.fs.length := by rw [← hfs2, List.length_set]; exact hfl
    have hcl2 : ∀ f ∈ fs2, f.code.length ≤ 1600 := fun f hf => by
      rw [← hfs2] at hf
      rcases List.mem_or_eq_of_mem_set hf with hf | rfl
      · exact hcl f hf
      · exact hcode
    have hat2 : ∃ f, fs2[n]? = some f ∧ f.code.length = e.f.code.length := ⟨⟨77, e.f.code⟩, by rw [← hfs2, List.getElem?_set_self (by omega)], rfl⟩
    generalize hCL : e.f.code.length = CL at *
    generalize Sf' ++ (cfoot pre ++ (e.S ++ cfoot post)) = F2 at *
    refine ⟨fun l w => ∃ (m : Nat) (F : Hp) (fs : List Fun), l = [vI m] ∧ m ≤ CL ∧ fs.length = p.fs.length ∧ (∀ f ∈ fs, f.code.length ≤ 1600) ∧ (∃ f, fs[n]? = some f ∧ f.code.length = CL) ∧ CpP F c fs ∧ Ow B w (F ++ ((b31, cel (p.cells c) T.t_api_Program) :: G)), fun l _ => match l with | [.int _ i] => CL - i.toNat | _ => 0, ⟨0, F2, fs2, rfl, Nat.zero_le _, hfl2, hcl2, hat2, cp14, h14⟩, ?_⟩
    clear h14 cp14 hat2 hcl2 hfl2 hfs2 h13 ho14 hset ho hok hfe
    rintro l w15 ⟨m, F3, fs3, rfl, hm3, hfl3, hcl3, ⟨f3, hf3, hf3l⟩, cp3, h15⟩ j15
    obtain ⟨Sf, pre, e, post, rfl, hpl, hok, hfe, ho, hset⟩ := cp3.at (i := n) (by omega)
    have hfe3 : e.f = f3 := by rw [hf3] at hfe; exact (Option.some.inj hfe).symm
    have hS : Sls (Sf ++ (cfoot pre ++ (e.S ++ cfoot post)) ++ ((b31, cel (p.cells c) T.t_api_Program) :: G)) c 2 (crows (pre ++ e :: post)) := (own_sls (crows_two _) ho).mono fun x hx => List.mem_append_left _ (List.mem_append_left _ hx)
    have hrow : (crows (pre ++ e :: post))[(n : Int).toNat]? = some (crow e) := by rw [Int.toNat_natCast, ← hpl]; exact crows_at
    obtain ⟨ea, ec, hec⟩ := hok.len
    have hlc : ∀ KK : Value → Prop, KK (vI CL) → lnS e.c KK := fun KK kk => by
      rw [hec]
      refine ln_rule ?_
      rw [icode_len, hfe3, hf3l]; exact kk
    repeat (first | refine pu_not ?_ | refine pu_eql ?_ | refine pu_neq ?_ | refine pu_lss ?_ | refine pu_leq ?_ | refine pu_gtr ?_ | refine pu_geq ?_ | refine pu_add ?_ | refine pu_sub ?_ | refine pu_mul ?_ | refine pu_neg ?_ | refine fa_at ?_ | refine nl_ptr ?_ | refine ex20 ?_ | refine ex21 ?_ | refine ex30 ?_ | refine ex31 ?_ | refine ex32 ?_ | refine ln_rule ?_ | refine lnT_rule ?_ | refine pu_and ?_ | refine pu_or ?_ | refine pu_xor ?_ | refine pu_seq ?_ | refine pu_sne ?_)
    refine ld_here h15 (List.mem_append_right _ (.head _)) (v := c) rfl ?_
    refine sls_fld h15 hS (by omega) hrow (v := e.c) rfl ?_
    refine hlc _ ?_
    repeat (first | refine pu_not ?_ | refine pu_eql ?_ | refine pu_neq ?_ | refine pu_lss ?_ | refine pu_leq ?_ | refine pu_gtr ?_ | refine pu_geq ?_ | refine pu_add ?_ | refine pu_sub ?_ | refine pu_mul ?_ | refine pu_neg ?_ | refine fa_at ?_ | refine nl_ptr ?_ | refine ex20 ?_ | refine ex21 ?_ | refine ex30 ?_ | refine ex31 ?_ | refine ex32 ?_ | refine ln_rule ?_ | refine lnT_rule ?_ | refine pu_and ?_ | refine pu_or ?_ | refine pu_xor ?_ | refine pu_seq ?_ | refine pu_sne ?_)
    refine cnd (fun hl15 => ?_) (fun hl15 => ?_)
    · have hl15 : m < CL := by simpa using hl15
      repeat (first | refine pu_not ?_ | refine pu_eql ?_ | refine pu_neq ?_ | refine pu_lss ?_ | refine pu_leq ?_ | refine pu_gtr ?_ | refine pu_geq ?_ | refine pu_add ?_ | refine pu_sub ?_ | refine pu_mul ?_ | refine pu_neg ?_ | refine fa_at ?_ | refine nl_ptr ?_ | refine ex20 ?_ | refine ex21 ?_ | refine ex30 ?_ | refine ex31 ?_ | refine ex32 ?_ | refine ln_rule ?_ | refine lnT_rule ?_ | refine pu_and ?_ | refine pu_or ?_ | refine pu_xor ?_ | refine pu_seq ?_ | refine pu_sne ?_)
      refine ld_here h15 (List.mem_append_right _ (.head _)) (v := c) rfl ?_
      refine sls_fld h15 hS (by omega) hrow (v := e.c) rfl ?_
      have hml : m < e.f.code.length := by rw [hfe3, hf3l]; exact hl15
      have h15 : Ow B w15 ((Sf ++ cfoot pre) ++ e.S ++ (cfoot post ++ ((b31, cel (p.cells c) T.t_api_Program) :: G))) := by simpa using h15
      refine own_setf (j := 1) (x := vI 77) h15 hok (icode_five _) (by omega) (icode_at hml) (by omega) rfl rfl (fun S' w16 h16 ho16 => ?_)
      repeat (first | refine pu_not ?_ | refine pu_eql ?_ | refine pu_neq ?_ | refine pu_lss ?_ | refine pu_leq ?_ | refine pu_gtr ?_ | refine pu_geq ?_ | refine pu_add ?_ | refine pu_sub ?_ | refine pu_mul ?_ | refine pu_neg ?_ | refine fa_at ?_ | refine nl_ptr ?_ | refine ex20 ?_ | refine ex21 ?_ | refine ex30 ?_ | refine ex31 ?_ | refine ex32 ?_ | refine ln_rule ?_ | refine lnT_rule ?_ | refine pu_and ?_ | refine pu_or ?_ | refine pu_xor ?_ | refine pu_seq ?_ | refine pu_sne ?_)
      rw [wrap64_in (by omega) (by omega)]
      have hic : (icode e.f.code).set (m : Int).toNat (e.f.code[m].cells.set 1 (vI 77)) = icode (e.f.code.set m { e.f.code[m] with a := 77 }) := by
        unfold icode
        rw [Int.toNat_natCast, List.map_set]; rfl
      rw [hic] at ho16
      have hll : (icode e.f.code).length = (icode (e.f.code.set m { e.f.code[m] with a := 77 })).length := by simp
      rw [hll] at ho16
      have hcr : crow e = crow ⟨S', e.c, ⟨e.f.regs, e.f.code.set m { e.f.code[m] with a := 77 }⟩⟩ := rfl
      have ho17 : Vc.Own Sf T.t_api_Func 2 c (crows (pre ++ ⟨S', e.c, ⟨e.f.regs, e.f.code.set m { e.f.code[m] with a := 77 }⟩⟩ :: post)).length (crows (pre ++ ⟨S', e.c, ⟨e.f.regs, e.f.code.set m { e.f.code[m] with a := 77 }⟩⟩ :: post)).flatten := by
        have : crows (pre ++ ⟨S', e.c, ⟨e.f.regs, e.f.code.set m { e.f.code[m] with a := 77 }⟩⟩ :: post) = crows (pre ++ e :: post) := by unfold crows; rw [List.map_append, List.map_append]; rfl
        rw [this]; exact ho
      refine ⟨⟨m + 1, _, _, rfl, hl15, ?_, ?_, ?_, hset Sf ⟨S', e.c, ⟨e.f.regs, e.f.code.set m { e.f.code[m] with a := 77 }⟩⟩ ho16 ho17, by simpa using h16⟩, by simp; omega⟩
      · rw [List.length_set]; exact hfl3
      · intro f hf
        rcases List.mem_or_eq_of_mem_set hf with hf | rfl
        · exact hcl3 f hf
        · show (e.f.code.set m _).length ≤ 1600
          rw [List.length_set, hfe3]
          exact hcl3 _ (List.mem_of_getElem? hf3)
      · refine ⟨_, List.getElem?_set_self (by omega), ?_⟩
        show (e.f.code.set m _).length = CL
        rw [List.length_set, hfe3, hf3l]
    · repeat (first | refine pu_not ?_ | refine pu_eql ?_ | refine pu_neq ?_ | refine pu_lss ?_ | refine pu_leq ?_ | refine pu_gtr ?_ | refine pu_geq ?_ | refine pu_add ?_ | refine pu_sub ?_ | refine pu_mul ?_ | refine pu_neg ?_ | refine fa_at ?_ | refine nl_ptr ?_ | refine ex20 ?_ | refine ex21 ?_ | refine ex30 ?_ | refine ex31 ?_ | refine ex32 ?_ | refine ln_rule ?_ | refine lnT_rule ?_ | refine pu_and ?_ | refine pu_or ?_ | refine pu_xor ?_ | refine pu_seq ?_ | refine pu_sne ?_)
      rw [wrap64_in (by omega) (by omega)]
      exact ⟨⟨n + 1, _, fs3, rfl, by omega, hfl3, hcl3, cp3, h15⟩, by simp; omega⟩
  · have h14 : Ow B w13 ((b31, cel (p.cells c) T.t_api_Program) :: G) := drp h13
    refine ldn_here h14 (.tail _ m2) (vs := p.cells v) rfl rfl ?_
    refine copy_spec hv (fun x hx => .tail _ hx) (by omega) (fun f hf => by have := hf2 f hf; omega) h14 (fun F d w15 cp h15 => ?_)
    have hdp : plainV d = true := (cp.ins hm).plain
    refine al_rule h15 (l := [.slice none 0 0, vI 0, vI 0, vI 0]) (by kernel_rfl) (fun b9 w16 h16 => ?_)
    refine st_here (A := []) h16 (p.cells d) rfl rfl (by simp only [Pr.cells, List.all_cons, hdp]; rfl) (by simp) (fun w17 h17 => ?_)
    simp only [List.take_zero, List.nil_append, Nat.zero_add, List.drop_succ_cons, List.drop_zero, List.drop_nil, List.append_nil] at h17
    have mm : ∀ x, x ∈ G → x ∈ (b9, cel (p.cells d) T.t_api_Program) :: (F ++ ((b31, cel (p.cells c) T.t_api_Program) :: G)) := fun x hx => .tail _ (List.mem_append_right _ (.tail _ hx))
    have h17 : Ow B w17 ((b9, cel (p.cells d) T.t_api_Program) :: (F ++ ((b31, cel (p.cells c) T.t_api_Program) :: G))) := h17
    refine ldn_here h17 (mm _ m2) (vs := p.cells v) rfl rfl ?_
    refine ldn_here h17 (.head _) (vs := p.cells d) rfl rfl ?_
    refine refSame_spec (p := p) (q := p) (hv.mono mm) ((cp.ins hm).mono fun x hx => .tail _ (List.mem_append_left _ hx)) (fun x hx => hx) h17 (fun w18 h18 => ?_)
    refine cnd_t (by simp) ?_
    refine ldn_here h18 (mm _ m2) (vs := p.cells v) rfl rfl ?_
    refine ldn_here h18 (.head _) (vs := p.cells d) rfl rfl ?_
    refine same_spec (p := p) (q := p) (hv.mono mm) ((cp.ins hm).mono fun x hx => .tail _ (List.mem_append_left _ hx)) (fun x hx => hx) h18 (fun w19 h19 => ?_)
    refine cnd_t (by simp) ?_
    exact works_spec h19 fun w' h' => k w' (drp h'.drop).drop
end
end Go.Proofs.Ytkkkcafkepnecaa
