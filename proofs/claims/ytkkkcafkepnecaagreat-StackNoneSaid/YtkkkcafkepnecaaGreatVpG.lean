/- Programs: all places; may a program be? -/
import Derived.Test.YtkkkcafkepnecaaGreatVpF
import Derived.Test.YtkkkcafkepnecaaGreatVcS
set_option linter.unusedVariables false
set_option linter.unusedSimpArgs false
namespace Go.Proofs.YtkkkcafkepnecaaGreat
open Go Go.RowKit Vc
attribute [local irreducible] binV Op.unary convert nlW faW ldS ldW ixS ixA ixV ixT exW lnS lnT pu stW alW opW opU bsW mkW

section
variable {B w : World} {H X : Hp} {K : Value → World → Prop} {PK : List PanicEntry → World → Prop} {KK : Value → Prop} {v : Value} {p : Pr}
/-- How much code. -/
def clen (fs : List Fun) (n : Nat) : Nat := match fs[n]? with
  | some f => f.code.length
  | none => 0
def row1 (n m : Nat) : List (Nat × Nat) := (List.range m).map fun x => (n, x)
def upto (fs : List Fun) (n m : Nat) : List (Nat × Nat) := ((List.range n).flatMap fun x => row1 x (clen fs x)) ++ row1 n m
def siteL (fs : List Fun) : List (Nat × Nat) := upto fs fs.length 0
theorem row1_succ (n m : Nat) : row1 n (m + 1) = row1 n m ++ [(n, m)] := by unfold row1; rw [List.range_succ, List.map_append]; rfl
theorem upto_succ (fs : List Fun) (n m : Nat) : upto fs n (m + 1) = upto fs n m ++ [(n, m)] := by unfold upto; rw [row1_succ, List.append_assoc]
theorem upto_next (fs : List Fun) (n : Nat) : upto fs (n + 1) 0 = upto fs n (clen fs n) := by
  unfold upto
  rw [List.range_succ, List.flatMap_append]
  simp [row1]
theorem upto_pre0 (fs : List Fun) (n : Nat) : ∀ d m : Nat, upto fs n m <+: upto fs n (m + d)
  | 0, m => List.prefix_refl _
  | d + 1, m => (upto_pre0 fs n d m).trans (by rw [show m + (d + 1) = (m + d) + 1 by omega, upto_succ]; exact List.prefix_append _ _)
theorem upto_pre1 (fs : List Fun) : ∀ d n : Nat, upto fs n 0 <+: upto fs (n + d) 0
  | 0, n => List.prefix_refl _
  | d + 1, n => (upto_pre1 fs d n).trans (by rw [show n + (d + 1) = (n + d) + 1 by omega, upto_next]; have := upto_pre0 fs (n + d) (clen fs (n + d)) 0; rwa [Nat.zero_add] at this)
theorem upto_pre {fs : List Fun} {n m : Nat} (hn : n < fs.length) (hm : m ≤ clen fs n) : upto fs n m <+: siteL fs := by
  have h1 := upto_pre0 fs n (clen fs n - m) m
  rw [show m + (clen fs n - m) = clen fs n by omega, ← upto_next] at h1
  have h2 := upto_pre1 fs (fs.length - (n + 1)) (n + 1)
  rw [show n + 1 + (fs.length - (n + 1)) = fs.length by omega] at h2
  exact h1.trans h2
theorem site_at {fs : List Fun} {n m : Nat} (hn : n < fs.length) (hm : m < clen fs n) : (siteL fs)[(upto fs n m).length]? = some (n, m) := by
  obtain ⟨t, ht⟩ := upto_pre (m := m + 1) hn hm
  rw [← ht, upto_succ, List.append_assoc, List.getElem?_append_right (Nat.le_refl _), Nat.sub_self]
  rfl
theorem row1_mem {n m : Nat} {s : Nat × Nat} (h : s ∈ row1 n m) : s.1 = n ∧ s.2 < m := by
  obtain ⟨x, hx, rfl⟩ := List.mem_map.1 h
  exact ⟨rfl, List.mem_range.1 hx⟩
theorem site_mem {fs : List Fun} {s : Nat × Nat} (h : s ∈ siteL fs) : ∃ (f : Fun) (i : Ins), fs[s.1]? = some f ∧ f.code[s.2]? = some i := by
  unfold siteL upto at h
  rcases List.mem_append.1 h with h | h
  · obtain ⟨x, hx, h⟩ := List.mem_flatMap.1 h
    obtain ⟨h1, h2⟩ := row1_mem h
    have hlt := List.mem_range.1 hx
    have hf : fs[x]? = some fs[x] := List.getElem?_eq_getElem hlt
    unfold clen at h2
    rw [hf] at h2
    exact ⟨fs[x], fs[x].code[s.2], by rw [h1]; exact hf, List.getElem?_eq_getElem h2⟩
  · have := row1_mem h; omega
/-- What is handed out at a site. -/
def sargs (ps : List (Value × Fun)) (p : Pr) (v : Value) (s : Nat × Nat) : List Value := match ps[s.1]? with
  | some q => [.agg #[vI s.1, vI s.2], .agg (plc q.2 q.1 p v s.2).toArray]
  | none => [.agg #[], .agg #[]]
theorem sargs_two (ps : List (Value × Fun)) (p : Pr) (v : Value) (s : Nat × Nat) : (sargs ps p v s).length = 2 := by
  unfold sargs
  split <;> rfl
theorem places_seq {b : Nat} {ps : List (Value × Fun)} (hb : (b, cel (p.cells v) T.t_api_Program) ∈ H) (e1 : ps.map Prod.snd = p.fs) (e2 : Sls H v 2 (frows ps)) (e3 : ∀ q ∈ ps, Sls H q.1 5 (icode q.2.code) ∧ immOk q.2.code) (hlen : p.fs.length ≤ 1000) :
    Seq PG B H (fnc N.program_every_1 #[ptr b]) ((siteL p.fs).map (sargs ps p v)) := by
  have hpl : ps.length = p.fs.length := by rw [← e1]; simp
  refine Seq.fn program_every_1.okf ?_
  intro y J Z K PK w X hy hw j0 hr he
  refine program_every_1.ok ?_
  unfold program_every_1.C
  repeat (first | refine pu_not ?_ | refine pu_eql ?_ | refine pu_neq ?_ | refine pu_lss ?_ | refine pu_leq ?_ | refine pu_gtr ?_ | refine pu_geq ?_ | refine pu_add ?_ | refine pu_sub ?_ | refine pu_mul ?_ | refine pu_neg ?_ | refine fa_at ?_ | refine nl_ptr ?_ | refine ex20 ?_ | refine ex21 ?_ | refine ex30 ?_ | refine ex31 ?_ | refine ex32 ?_ | refine ln_rule ?_ | refine lnT_rule ?_ | refine pu_and ?_ | refine pu_or ?_ | refine pu_xor ?_ | refine pu_seq ?_ | refine pu_sne ?_)
  refine ld_here hw (List.mem_append_right _ hb) (v := v) rfl ?_
  refine sls_ln e2 ?_
  have hfl : (frows ps).length = p.fs.length := by simp [frows, hpl]
  rw [hfl]
  refine ⟨fun l w => ∃ (n : Nat) (X : Hp), l = [vI n] ∧ n ≤ p.fs.length ∧ J (upto p.fs n 0).length X ∧ Ow B w (X ++ H), fun l _ => match l with | [.int _ q] => p.fs.length - q.toNat | _ => 0, ⟨0, X, rfl, Nat.zero_le _, j0, hw⟩, ?_⟩
  rintro l w2 ⟨n, X, rfl, hn, hj, h2⟩ j1
  repeat (first | refine pu_not ?_ | refine pu_eql ?_ | refine pu_neq ?_ | refine pu_lss ?_ | refine pu_leq ?_ | refine pu_gtr ?_ | refine pu_geq ?_ | refine pu_add ?_ | refine pu_sub ?_ | refine pu_mul ?_ | refine pu_neg ?_ | refine fa_at ?_ | refine nl_ptr ?_ | refine ex20 ?_ | refine ex21 ?_ | refine ex30 ?_ | refine ex31 ?_ | refine ex32 ?_ | refine ln_rule ?_ | refine lnT_rule ?_ | refine pu_and ?_ | refine pu_or ?_ | refine pu_xor ?_ | refine pu_seq ?_ | refine pu_sne ?_)
  refine cnd (fun hlt => ?_) (fun hlt => ?_)
  · have hlt : n < p.fs.length := by simpa using hlt
    obtain ⟨⟨c, f⟩, hq⟩ : ∃ q, ps[n]? = some q := ⟨_, List.getElem?_eq_getElem (by omega)⟩
    have hf : p.fs[n]? = some f := by rw [← e1, List.getElem?_map, hq]; rfl
    have hcl : clen p.fs n = f.code.length := by unfold clen; rw [hf]
    obtain ⟨q1, q2⟩ := e3 _ (List.mem_of_getElem? hq)
    refine sls_ld h2 (e2.mono fun x hx => List.mem_append_right _ hx) (x := [vI f.regs, c]) (by omega) (by rw [Int.toNat_natCast, frows, List.getElem?_map, hq]; rfl) ?_
    refine al_rule h2 (l := [vI 0, .slice none 0 0]) (by kernel_rfl) (fun b6 w6 h6 => ?_)
    refine st_here (A := []) h6 [vI f.regs, c] rfl rfl (by simp only [List.all_cons, sls_plain q1]; rfl) (by simp) (fun w7 h7 => ?_)
    simp only [List.take_zero, List.nil_append, Nat.zero_add, List.drop_succ_cons, List.drop_zero, List.drop_nil, List.append_nil] at h7
    have h7 : Ow B w7 (X ++ ((b6, cel [vI f.regs, c] T.t_api_Func) :: H)) := h7.perm List.perm_middle.symm
    repeat (first | refine pu_not ?_ | refine pu_eql ?_ | refine pu_neq ?_ | refine pu_lss ?_ | refine pu_leq ?_ | refine pu_gtr ?_ | refine pu_geq ?_ | refine pu_add ?_ | refine pu_sub ?_ | refine pu_mul ?_ | refine pu_neg ?_ | refine fa_at ?_ | refine nl_ptr ?_ | refine ex20 ?_ | refine ex21 ?_ | refine ex30 ?_ | refine ex31 ?_ | refine ex32 ?_ | refine ln_rule ?_ | refine lnT_rule ?_ | refine pu_and ?_ | refine pu_or ?_ | refine pu_xor ?_ | refine pu_seq ?_ | refine pu_sne ?_)
    refine ld_here h7 (List.mem_append_right _ (.head _)) (v := c) rfl ?_
    refine sls_ln q1 ?_
    have hmax := q1.max
    rw [icode_len] at hmax
    rw [icode_len]
    have hml : f.code.length ≤ 9223372036854775807 := by simp only [maxLen] at hmax; omega
    refine ⟨fun l w => ∃ (m : Nat) (X : Hp), l = [vI m] ∧ m ≤ f.code.length ∧ J (upto p.fs n m).length X ∧ Ow B w (X ++ ((b6, cel [vI f.regs, c] T.t_api_Func) :: H)), fun l _ => match l with | [.int _ q] => f.code.length - q.toNat | _ => 0, ⟨0, X, rfl, Nat.zero_le _, hj, h7⟩, ?_⟩
    rintro l w8 ⟨m, X, rfl, hm, hj, h8⟩ j2
    repeat (first | refine pu_not ?_ | refine pu_eql ?_ | refine pu_neq ?_ | refine pu_lss ?_ | refine pu_leq ?_ | refine pu_gtr ?_ | refine pu_geq ?_ | refine pu_add ?_ | refine pu_sub ?_ | refine pu_mul ?_ | refine pu_neg ?_ | refine fa_at ?_ | refine nl_ptr ?_ | refine ex20 ?_ | refine ex21 ?_ | refine ex30 ?_ | refine ex31 ?_ | refine ex32 ?_ | refine ln_rule ?_ | refine lnT_rule ?_ | refine pu_and ?_ | refine pu_or ?_ | refine pu_xor ?_ | refine pu_seq ?_ | refine pu_sne ?_)
    refine cnd (fun hlt2 => ?_) (fun hlt2 => ?_)
    · have hlt2 : m < f.code.length := by simpa using hlt2
      refine pu_build [vI n, vI m] (by kernel_rfl) ?_
      refine ldn_here h8 (List.mem_append_right _ (.head _)) (vs := [vI f.regs, c]) rfl rfl ?_
      refine ldn_here h8 (List.mem_append_right _ (.tail _ hb)) (vs := p.cells v) rfl rfl ?_
      refine pu_build (plc f c p v m) (by kernel_rfl) ?_
      have hat : ((siteL p.fs).map (sargs ps p v))[(upto p.fs n m).length]? = some [.agg #[vI n, vI m], .agg (plc f c p v m).toArray] := by
        rw [List.getElem?_map, site_at hlt (by omega)]
        simp only [Option.map_some, sargs, hq]
      refine hr _ _ X ((b6, cel [vI f.regs, c] T.t_api_Func) :: H) _ _ w8 hat hj (fun x hx => .tail _ hx) h8 (fun X' w9 h9 hj9 => ?_) (fun X' w9 h9 hz9 => ?_)
      · repeat (first | refine pu_not ?_ | refine pu_eql ?_ | refine pu_neq ?_ | refine pu_lss ?_ | refine pu_leq ?_ | refine pu_gtr ?_ | refine pu_geq ?_ | refine pu_add ?_ | refine pu_sub ?_ | refine pu_mul ?_ | refine pu_neg ?_ | refine fa_at ?_ | refine nl_ptr ?_ | refine ex20 ?_ | refine ex21 ?_ | refine ex30 ?_ | refine ex31 ?_ | refine ex32 ?_ | refine ln_rule ?_ | refine lnT_rule ?_ | refine pu_and ?_ | refine pu_or ?_ | refine pu_xor ?_ | refine pu_seq ?_ | refine pu_sne ?_)
        refine cnd_f rfl ?_
        repeat (first | refine pu_not ?_ | refine pu_eql ?_ | refine pu_neq ?_ | refine pu_lss ?_ | refine pu_leq ?_ | refine pu_gtr ?_ | refine pu_geq ?_ | refine pu_add ?_ | refine pu_sub ?_ | refine pu_mul ?_ | refine pu_neg ?_ | refine fa_at ?_ | refine nl_ptr ?_ | refine ex20 ?_ | refine ex21 ?_ | refine ex30 ?_ | refine ex31 ?_ | refine ex32 ?_ | refine ln_rule ?_ | refine lnT_rule ?_ | refine pu_and ?_ | refine pu_or ?_ | refine pu_xor ?_ | refine pu_seq ?_ | refine pu_sne ?_)
        rw [wrap64_in (by omega) (by omega)]
        refine ⟨⟨m + 1, X', rfl, hlt2, ?_, h9⟩, by simp; omega⟩
        rw [upto_succ, List.length_append]
        exact hj9
      · repeat (first | refine pu_not ?_ | refine pu_eql ?_ | refine pu_neq ?_ | refine pu_lss ?_ | refine pu_leq ?_ | refine pu_gtr ?_ | refine pu_geq ?_ | refine pu_add ?_ | refine pu_sub ?_ | refine pu_mul ?_ | refine pu_neg ?_ | refine fa_at ?_ | refine nl_ptr ?_ | refine ex20 ?_ | refine ex21 ?_ | refine ex30 ?_ | refine ex31 ?_ | refine ex32 ?_ | refine ln_rule ?_ | refine lnT_rule ?_ | refine pu_and ?_ | refine pu_or ?_ | refine pu_xor ?_ | refine pu_seq ?_ | refine pu_sne ?_)
        refine cnd_t rfl ?_
        exact he _ X' w9 (h9.sub ((List.Sublist.refl _).append (.cons _ (.refl _)))) (.inr hz9)
    · obtain rfl : m = f.code.length := by simp at hlt2; omega
      repeat (first | refine pu_not ?_ | refine pu_eql ?_ | refine pu_neq ?_ | refine pu_lss ?_ | refine pu_leq ?_ | refine pu_gtr ?_ | refine pu_geq ?_ | refine pu_add ?_ | refine pu_sub ?_ | refine pu_mul ?_ | refine pu_neg ?_ | refine fa_at ?_ | refine nl_ptr ?_ | refine ex20 ?_ | refine ex21 ?_ | refine ex30 ?_ | refine ex31 ?_ | refine ex32 ?_ | refine ln_rule ?_ | refine lnT_rule ?_ | refine pu_and ?_ | refine pu_or ?_ | refine pu_xor ?_ | refine pu_seq ?_ | refine pu_sne ?_)
      rw [wrap64_in (by omega) (by omega)]
      refine ⟨⟨n + 1, X, rfl, hlt, ?_, h8.sub ((List.Sublist.refl _).append (.cons _ (.refl _)))⟩, by simp; omega⟩
      rw [upto_next, hcl]
      exact hj
  · obtain rfl : n = p.fs.length := by simp at hlt; omega
    refine he _ X w2 h2 (.inl ?_)
    rw [List.length_map]
    exact hj
def fineS (p : Pr) (s : Nat × Nat) : Bool := match p.fs[s.1]? with
  | some f => match f.code[s.2]? with
    | some i => fineI p f s.2 i
    | none => true
  | none => true
/-- The first site that may not be. -/
def badS (p : Pr) : Option (Nat × Nat) := (siteL p.fs).find? fun s => !fineS p s
def wrongR (p : Pr) : (Nat × Nat) × Bool := if numI p = true then (match badS p with | some s => (s, true) | none => ((0, 0), false)) else ((0, 0), false)
set_option maxRecDepth 20000 in
theorem wrong_spec (hv : fsIn X v p.fs) (hX : ∀ x, x ∈ X → x ∈ H) (hlen : p.fs.length ≤ 1000) (h : Ow B w H) (k : ∀ w', Ow B w' H → K (.tuple #[.agg #[vI (wrongR p).1.1, vI (wrongR p).1.2], vB (wrongR p).2]) w') : callW PG N.program_Wrong [.agg (p.cells v).toArray] K PK w := by
  refine program_Wrong.ok ?_
  unfold program_Wrong.C
  refine al_rule h (l := p.cells v) rfl (fun b2 w1 h1 => ?_)
  refine al_rule h1 (l := [vI 0, vI 0]) (by kernel_rfl) (fun b4 w2 h2 => ?_)
  refine al_rule h2 (l := [vB false]) (by kernel_rfl) (fun b6 w3 h3 => ?_)
  have hp4 : ∀ {C : Hp} {w : World}, Ow B w ((b6, cel [vB false] T.t_bool) :: (b4, cel [vI 0, vI 0] T.t_api_Site) :: C) → True := fun _ => trivial
  refine ldn_here h3 (.tail _ (.tail _ (.head _))) (vs := p.cells v) rfl rfl ?_
  refine numbers_spec hv (fun x hx => .tail _ (.tail _ (.tail _ (hX x hx)))) hlen h3 (fun w4 h4 => ?_)
  unfold wrongR at k
  repeat (first | refine pu_not ?_ | refine pu_eql ?_ | refine pu_neq ?_ | refine pu_lss ?_ | refine pu_leq ?_ | refine pu_gtr ?_ | refine pu_geq ?_ | refine pu_add ?_ | refine pu_sub ?_ | refine pu_mul ?_ | refine pu_neg ?_ | refine fa_at ?_ | refine nl_ptr ?_ | refine ex20 ?_ | refine ex21 ?_ | refine ex30 ?_ | refine ex31 ?_ | refine ex32 ?_ | refine ln_rule ?_ | refine lnT_rule ?_ | refine pu_and ?_ | refine pu_or ?_ | refine pu_xor ?_ | refine pu_seq ?_ | refine pu_sne ?_)
  refine cnd (fun hq => ?_) (fun hq => ?_)
  · rw [if_neg (by simpa using hq)] at k
    refine pu_build [vI 0, vI 0] (by kernel_rfl) ?_
    refine st_here (A := [_]) h4 [vI 0, vI 0] rfl rfl rfl (by simp) (fun w5 h5 => ?_)
    refine st1_here (A := []) h5 rfl rfl (by simp) (fun w6 h6 => ?_)
    refine ldn_here h6 (.tail _ (.head _)) (vs := [vI 0, vI 0]) rfl rfl ?_
    refine ld_here h6 (.head _) rfl ?_
    exact k _ h6.drop.drop.drop
  rw [if_pos (by simpa using hq)] at k
  refine ldn_here h4 (.tail _ (.tail _ (.head _))) (vs := p.cells v) rfl rfl ?_
  refine program_every.ok ?_
  unfold program_every.C
  refine al_rule h4 (l := p.cells v) rfl (fun b7 w5 h5 => ?_)
  obtain ⟨ps, e1, e2, e3⟩ := hv
  have h5 : Ow B w5 ([(b6, cel [vB false] T.t_bool), (b4, cel [vI 0, vI 0] T.t_api_Site)] ++ ((b7, cel (p.cells v) T.t_api_Program) :: (b2, cel (p.cells v) T.t_api_Program) :: H)) := h5.perm (List.perm_middle (l₁ := [_, _])).symm
  have hXX : ∀ x, x ∈ X → x ∈ (b7, cel (p.cells v) T.t_api_Program) :: (b2, cel (p.cells v) T.t_api_Program) :: H := fun x hx => .tail _ (.tail _ (hX x hx))
  refine range_fn (X := [(b6, cel [vB false] T.t_bool), (b4, cel [vI 0, vI 0] T.t_api_Site)]) (H := (b7, cel (p.cells v) T.t_api_Program) :: (b2, cel (p.cells v) T.t_api_Program) :: H) (A := program_Wrong.note) (fuel := 400) mixed
    (places_seq (.head _) e1 (e2.mono hXX) (fun q hq => ⟨(e3 q hq).1.mono hXX, (e3 q hq).2⟩) hlen) (by simp) (fun a ha => ?_) h5
    (fun n Y => Y = [(b6, cel [vB false] T.t_bool), (b4, cel [vI 0, vI 0] T.t_api_Site)] ∧ ∀ (m : Nat) s, m < n → (siteL p.fs)[m]? = some s → fineS p s = true)
    (fun j Y => j = .ret ∧ ∃ s, badS p = some s ∧ Y = [(b6, cel [vB true] T.t_bool), (b4, cel [vI s.1, vI s.2] T.t_api_Site)]) ⟨rfl, fun m s hm => absurd hm (by omega)⟩ ?_ ?_ ?_
  · obtain ⟨s, _, rfl⟩ := List.mem_map.1 ha
    exact sargs_two _ _ _ _
  · rintro lp r n args Y F R w6 hL ⟨rfl, hall⟩ hF h6 k1 k2 u
    rw [List.getElem?_map, Option.map_eq_some_iff] at hL
    obtain ⟨s, hs, hsa0⟩ := hL
    subst hsa0
    obtain ⟨f, i, hf, hi⟩ := site_mem (List.mem_of_getElem? hs)
    obtain ⟨⟨c, f'⟩, hq⟩ : ∃ q, ps[s.1]? = some q := ⟨_, List.getElem?_eq_getElem (by
      have h1 : ps.length = p.fs.length := by rw [← e1]; simp
      have h2 := (List.getElem?_eq_some_iff.1 hf).1
      omega)⟩
    have : f' = f := by rw [← e1, List.getElem?_map, hq] at hf; exact Option.some.inj hf
    subst this
    obtain ⟨q1, q2⟩ := e3 _ (List.mem_of_getElem? hq)
    have hsa : sargs ps p v s = [.agg #[vI s.1, vI s.2], .agg (plc f' c p v s.2).toArray] := by simp only [sargs, hq]
    have hfs : fineS p s = fineI p f' s.2 i := by simp only [fineS, hf, hi]
    rw [hsa]
    refine Eq.mpr (program_Wrong.Rd0_eq lp R _ _ _ _ w6 u) ?_
    unfold program_Wrong.Rd0
    refine al_rule h6 (l := [vI 0, vI 0]) (by kernel_rfl) (fun bs w7 h7 => ?_)
    refine st_here (A := []) h7 [vI s.1, vI s.2] rfl rfl rfl (by simp) (fun w8 h8 => ?_)
    simp only [List.take_zero, List.nil_append, Nat.zero_add, List.drop_succ_cons, List.drop_zero, List.drop_nil, List.append_nil] at h8
    refine al_rule h8 (l := plc ⟨0, []⟩ (.slice none 0 0) ⟨[], 0, 0, 0⟩ (.slice none 0 0) 0) (by kernel_rfl) (fun bp w9 h9 => ?_)
    refine st_here (A := []) h9 (plc f' c p v s.2) rfl rfl ?_ (by simp [plc]) (fun w10 h10 => ?_)
    · have hpl : plainV v = true := sls_plain e2
      simp only [plc, List.all_cons, sls_plain q1, hpl]; rfl
    have e10 : (plc ⟨0, []⟩ (.slice none 0 0) ⟨[], 0, 0, 0⟩ (.slice none 0 0) 0).take 0 ++ plc f' c p v s.2 ++ (plc ⟨0, []⟩ (.slice none 0 0) ⟨[], 0, 0, 0⟩ (.slice none 0 0) 0).drop (0 + 7) = plc f' c p v s.2 := rfl
    rw [e10] at h10
    have h10 : Ow B w10 ((lp, recR r) :: (bp, plO f' c p v s.2) :: (bs, cel [vI s.1, vI s.2] T.t_api_Site) :: ([(b6, cel [vB false] T.t_bool), (b4, cel [vI 0, vI 0] T.t_api_Site)] ++ F)) := h10.perm ((List.Perm.cons _ (.swap _ _ _)).trans (.swap _ _ _))
    refine rbeg h10 (fun w11 h11 => ?_)
    refine ldn_here h11 (.tail _ (.head _)) (vs := plc f' c p v s.2) rfl rfl ?_
    have hin : ∀ x, x ∈ X → x ∈ (lp, recB r) :: (bp, plO f' c p v s.2) :: (bs, cel [vI s.1, vI s.2] T.t_api_Site) :: ([(b6, cel [vB false] T.t_bool), (b4, cel [vI 0, vI 0] T.t_api_Site)] ++ F) := fun x hx => .tail _ (.tail _ (.tail _ (List.mem_append_right _ (hF _ (hXX x hx)))))
    refine fine_spec (X := X) q1 ⟨ps, e1, e2, e3⟩ hin hi q2 h11 (fun w12 h12 => ?_)
    repeat (first | refine pu_not ?_ | refine pu_eql ?_ | refine pu_neq ?_ | refine pu_lss ?_ | refine pu_leq ?_ | refine pu_gtr ?_ | refine pu_geq ?_ | refine pu_add ?_ | refine pu_sub ?_ | refine pu_mul ?_ | refine pu_neg ?_ | refine fa_at ?_ | refine nl_ptr ?_ | refine ex20 ?_ | refine ex21 ?_ | refine ex30 ?_ | refine ex31 ?_ | refine ex32 ?_ | refine ln_rule ?_ | refine lnT_rule ?_ | refine pu_and ?_ | refine pu_or ?_ | refine pu_xor ?_ | refine pu_seq ?_ | refine pu_sne ?_)
    refine cnd (fun hb => ?_) (fun hb => ?_)
    · have hb : fineS p s = false := by rw [hfs]; simpa using hb
      refine ldn_here h12 (.tail _ (.tail _ (.head _))) (vs := [vI s.1, vI s.2]) rfl rfl ?_
      refine st_here (A := [_, _, _, _]) h12 [vI s.1, vI s.2] rfl rfl rfl (by simp) (fun w13 h13 => ?_)
      simp only [List.take_zero, List.nil_append, Nat.zero_add, List.drop_succ_cons, List.drop_zero, List.drop_nil, List.append_nil] at h13
      refine st1_here (A := [_, _, _]) h13 rfl rfl (by simp) (fun w14 h14 => ?_)
      simp only [List.set_cons_zero] at h14
      refine rend_stop h14 (fun w15 h15 => ?_)
      have hbad : badS p = some s := by
        unfold badS
        have hlt := (List.getElem?_eq_some_iff.1 hs).1
        rw [List.find?_eq_some_iff_getElem]
        refine ⟨by rw [hb]; rfl, n, hlt, (List.getElem?_eq_some_iff.1 hs).2, fun m hm => ?_⟩
        have := hall m _ hm (List.getElem?_eq_getElem (by omega))
        rw [this]; rfl
      exact k2 _ _ w15 ⟨rfl, s, hbad, rfl⟩ (h15.sub (.cons_cons _ (.cons _ (.cons _ (.refl _)))))
    · have hb : fineS p s = true := by rw [hfs]; simpa using hb
      refine rend_go h12 (fun w13 h13 => k1 _ w13 ⟨rfl, fun m s' hm hs' => ?_⟩ (h13.sub (.cons_cons _ (.cons _ (.cons _ (.refl _))))))
      rcases Nat.lt_succ_iff_lt_or_eq.1 hm with hm | rfl
      · exact hall m s' hm hs'
      · rw [hs] at hs'
        cases hs'
        exact hb
  · rintro mk Y w6 ⟨rfl, hall⟩ h6
    have hbad : badS p = none := by
      unfold badS
      rw [List.find?_eq_none]
      intro s hs
      obtain ⟨m, hm, rfl⟩ := List.getElem_of_mem hs
      have := hall m _ (by rw [List.length_map]; exact hm) (List.getElem?_eq_getElem hm)
      rw [this]; simp
    rw [hbad] at k
    refine pu_build [vI 0, vI 0] (by kernel_rfl) ?_
    refine st_here (A := [_, _]) h6 [vI 0, vI 0] rfl rfl rfl (by simp) (fun w7 h7 => ?_)
    simp only [List.take_zero, List.nil_append, Nat.zero_add, List.drop_succ_cons, List.drop_zero, List.drop_nil, List.append_nil] at h7
    refine st1_here (A := [_]) h7 rfl rfl (by simp) (fun w8 h8 => ?_)
    refine lv_ret h8 (fun w9 h9 => ?_)
    refine ldn_here h9 (.tail _ (.head _)) (vs := [vI 0, vI 0]) rfl rfl ?_
    refine ld_here h9 (.head _) rfl ?_
    exact k _ h9.drop.drop.drop.drop
  · rintro mk j Y w6 ⟨rfl, s, hbad, rfl⟩ h6
    rw [hbad] at k
    refine lv_ret h6 (fun w9 h9 => ?_)
    refine ldn_here h9 (.tail _ (.head _)) (vs := [vI s.1, vI s.2]) rfl rfl ?_
    refine ld_here h9 (.head _) rfl ?_
    exact k _ h9.drop.drop.drop.drop
def okP' (p : Pr) : Bool := numI p && (badS p).isNone
theorem check_spec (hv : fsIn X v p.fs) (hX : ∀ x, x ∈ X → x ∈ H) (hlen : p.fs.length ≤ 1000) (h : Ow B w H) (k : ∀ w', Ow B w' H → K (vI (if okP' p = true then 0 else 2)) w') : callW PG N.program_Check [.agg (p.cells v).toArray] K PK w := by
  refine program_Check.ok ?_
  unfold program_Check.C
  refine al_rule h (l := p.cells v) rfl (fun b2 w1 h1 => ?_)
  refine ldn_here h1 (.head _) (vs := p.cells v) rfl rfl ?_
  refine numbers_spec hv (fun x hx => .tail _ (hX x hx)) hlen h1 (fun w2 h2 => ?_)
  unfold okP' at k
  repeat (first | refine pu_not ?_ | refine pu_eql ?_ | refine pu_neq ?_ | refine pu_lss ?_ | refine pu_leq ?_ | refine pu_gtr ?_ | refine pu_geq ?_ | refine pu_add ?_ | refine pu_sub ?_ | refine pu_mul ?_ | refine pu_neg ?_ | refine fa_at ?_ | refine nl_ptr ?_ | refine ex20 ?_ | refine ex21 ?_ | refine ex30 ?_ | refine ex31 ?_ | refine ex32 ?_ | refine ln_rule ?_ | refine lnT_rule ?_ | refine pu_and ?_ | refine pu_or ?_ | refine pu_xor ?_ | refine pu_seq ?_ | refine pu_sne ?_)
  refine cnd (fun hq => ?_) (fun hq => ?_)
  · have hq : numI p = false := by simpa using hq
    rw [hq, Bool.false_and, if_neg (by simp)] at k
    exact k _ h2.drop
  have hq : numI p = true := by simpa using hq
  rw [hq, Bool.true_and] at k
  refine ldn_here h2 (.head _) (vs := p.cells v) rfl rfl ?_
  refine wrong_spec hv (fun x hx => .tail _ (hX x hx)) hlen h2 (fun w3 h3 => ?_)
  repeat (first | refine pu_not ?_ | refine pu_eql ?_ | refine pu_neq ?_ | refine pu_lss ?_ | refine pu_leq ?_ | refine pu_gtr ?_ | refine pu_geq ?_ | refine pu_add ?_ | refine pu_sub ?_ | refine pu_mul ?_ | refine pu_neg ?_ | refine fa_at ?_ | refine nl_ptr ?_ | refine ex20 ?_ | refine ex21 ?_ | refine ex30 ?_ | refine ex31 ?_ | refine ex32 ?_ | refine ln_rule ?_ | refine lnT_rule ?_ | refine pu_and ?_ | refine pu_or ?_ | refine pu_xor ?_ | refine pu_seq ?_ | refine pu_sne ?_)
  refine al_rule h3 (l := [vI 0, vI 0]) (by kernel_rfl) (fun b4 w4 h4 => ?_)
  refine st_here (A := []) h4 [vI (wrongR p).1.1, vI (wrongR p).1.2] rfl rfl rfl (by simp) (fun w5 h5 => ?_)
  have hw2 : (wrongR p).2 = (badS p).isSome := by
    unfold wrongR
    rw [if_pos hq]
    cases badS p <;> rfl
  rw [hw2]
  refine cnd (fun hb => ?_) (fun hb => ?_)
  · rw [if_neg (by cases hbs : badS p <;> simp_all)] at k
    exact k _ (Ow.drop (Ow.drop h5))
  · rw [if_pos (by cases hbs : badS p <;> simp_all)] at k
    exact k _ (Ow.drop (Ow.drop h5))
end
end Go.Proofs.YtkkkcafkepnecaaGreat
