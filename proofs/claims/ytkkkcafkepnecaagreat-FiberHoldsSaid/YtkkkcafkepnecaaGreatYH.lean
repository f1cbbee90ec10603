/- The law FiberHolds. -/
import Derived.Test.YtkkkcafkepnecaaGreatYE
import Derived.Test.YtkkkcafkepnecaaGreatYF
import Derived.Test.YtkkkcafkepnecaaGreatYG
import Derived.Test.YtkkkcafkepnecaaGreatGH

set_option linter.unusedVariables false
set_option linter.unusedSimpArgs false
namespace Go.Proofs.YtkkkcafkepnecaaGreat
open Go Go.RowKit Vc Ar
attribute [local irreducible] binV Op.unary convert nlW faW ldS ldW ixS ixA ixV ixT exW lnS lnT pu stW alW opW opU bsW mkW

section
variable {B w : World} {H X F F' Q R : Hp} {K : Value → World → Prop} {PK : List PanicEntry → World → Prop} {KK : Value → Prop} {p : Pr} {s s' : SK} {v a b : Value} {bf bw : Nat} {fr e : Int} {x y : Wt} {xs ys : List Int} {m : Frm} {ms : List Frm}
/-- What is wanted, of any frames. -/
def wantA (p : Pr) (fr : Int) (l : List Frm) : Wt × List Int := match l with
  | [] => (wt0, [])
  | t :: lo => wantW fr t.fn t.pc (t :: lo) (insF p t)
theorem wantA_len (good : Good p) {l : List Frm} (hI : Inv p l) : (wantA p fr l).2.length ≤ 1000 := by
  unfold wantA
  split
  · simp
  · rename_i t lo
    obtain ⟨f, hf⟩ := hI.fi t (.head _)
    obtain ⟨i, hi, hok, _, _, _, _, him⟩ := good.facts hf
    have hsm := (ok_sm him hok).c
    rw [hf.ins hi]
    unfold wantW
    split
    · simp
    split
    · simp
    split
    · simp [gathL]; omega
    split
    · simp
    split
    · simp
    · simp
theorem want_any (good : Good p) (hI : Inv p s.frs) (hs : s.ok p F) (hF : ∀ x, x ∈ F → x ∈ R) (hfr : fr ≠ 0) (hf : (bf, fbO s.b fr) ∈ R) (h : Ow B w (s.hp p ++ R))
    (k : ∀ S v w', plainV v = true → Sl S v (rgs (wantA p fr s.frs).2) → Ow B w' (S ++ (s.hp p ++ R)) → K (.tuple #[.agg ((wantA p fr s.frs).1.cells v).toArray, vB (decide (s.frs ≠ []))]) w') : callW PG N.fiber_Fiber_Want [ptr bf] K PK w := by
  cases hl : s.frs with
  | nil =>
    have he : s.es = [] := by
      unfold SK.frs at hl
      exact List.map_eq_nil_iff.1 hl
    rw [hl] at k
    exact want_end hs he hfr (List.mem_append_right _ hf) (.head _) h (fun w' h' => k [] (.slice none 0 0) w' rfl (sl_nil _ _ rfl) h')
  | cons m ms =>
    rw [hl] at k
    exact want_known good hI hl hs hF hfr hf h k
abbrev stC17 (p : Pr) (v : Value) (fr x : Int) (a : Value) : List Value := [v, vI p.mu, vI p.rw, vI p.gr, vI fr, vI x, a]
theorem start17_of {v0 : Value} (g : FitV PG H T.t_linesmanlaw17_Start v0) : ∃ (p : Pr) (v : Value) (fr x : Int) (a : Value) (ws : List Int), v0 = .agg (stC17 p v fr x a).toArray ∧ fsIn H v p.fs ∧ Sl H a (rgs ws) ∧ AllU ws := by
  obtain ⟨cs, rfl, h⟩ := g.agg (by kernel_rfl)
  have hl : cs.length = 7 := h.len (by kernel_rfl) (by kernel_rfl)
  match cs, hl with
  | [x0, x1, x2, x3, x4, x5, x6], _ =>
    obtain ⟨p, v, hp, hv⟩ := prog_of' (h.field (i := 0) (T := T.t_api_Program) (off := 0) (n := 4) (by kernel_rfl))
    obtain ⟨fr, hfr, _⟩ := (h.field (i := 1) (T := T.t_int) (off := 4) (n := 1) (by kernel_rfl)).of_int und_int
    obtain ⟨x, hx, _⟩ := (h.field (i := 2) (T := T.t_int) (off := 5) (n := 1) (by kernel_rfl)).of_int und_int
    obtain ⟨a, ws, ha, hs, hu⟩ := words_of (h.field (i := 3) (T := T.t_sl_uint32) (off := 6) (n := 1) (by kernel_rfl))
    have e1 : [x0, x1, x2, x3] = p.cells v := hp
    have e2 : [x4] = [vI fr] := hfr
    have e3 : [x5] = [vI x] := hx
    have e4 : [x6] = [a] := ha
    simp only [Pr.cells, List.cons.injEq, and_true] at e1 e2 e3 e4
    obtain ⟨rfl, rfl, rfl, rfl⟩ := e1
    subst e2 e3 e4
    exact ⟨p, _, fr, x, _, ws, rfl, hv, hs, hu⟩
set_option maxRecDepth 20000 in
theorem words_of' {v1 : Value} (g : FitV PG H T.t_sl_uint32 v1) : ∃ ws : List Int, Sl H v1 (rgs ws) ∧ AllU ws := by
  obtain ⟨a, ws, hc, hs, hu⟩ := words_of g.1
  have hp : plainV v1 = true := by
    have := g.2
    rw [und_slu] at this
    exact this
  have := FitV.cells1 hp hc
  subst this
  exact ⟨ws, hs, hu⟩
set_option maxRecDepth 20000 in
theorem small17_spec {x : Int} {ws : List Int} (hv : fsIn X v p.fs) (ha : Sl X a (rgs ws)) (hX : ∀ x, x ∈ X → x ∈ H) (h : Ow B w H) (k : ∀ (r : Bool) w', (r = true → p.fs.length ≤ 40 ∧ ws.length ≤ 20) → Ow B w' H → K (vB r) w') : callW PG N.linesmanlaw17_small [.agg (stC17 p v fr x a).toArray] K PK w := by
  refine linesmanlaw17_small.ok ?_
  unfold linesmanlaw17_small.C
  have hrl : (rgs ws).length = ws.length := by simp [rgs]
  refine al_rule h (l := stC17 p v fr x a) rfl (fun b w1 h1 => ?_)
  refine ⟨fun l w => ∃ (s : Int) (n : Nat), l = [vI s, vI n] ∧ n ≤ 40 ∧ Ow B w ((b, cel (stC17 p v fr x a) T.t_linesmanlaw17_Start) :: H), fun l _ => match l with | [_, .int _ q] => 40 - q.toNat | _ => 0, ⟨0, 0, rfl, by omega, h1⟩, ?_⟩
  rintro l w2 ⟨s, n, rfl, hn, h2⟩ j
  repeat (first | refine pu_not ?_ | refine pu_eql ?_ | refine pu_neq ?_ | refine pu_lss ?_ | refine pu_leq ?_ | refine pu_gtr ?_ | refine pu_geq ?_ | refine pu_add ?_ | refine pu_sub ?_ | refine pu_mul ?_ | refine pu_neg ?_ | refine fa_at ?_ | refine nl_ptr ?_ | refine ex20 ?_ | refine ex21 ?_ | refine ex30 ?_ | refine ex31 ?_ | refine ex32 ?_ | refine ln_rule ?_ | refine lnT_rule ?_ | refine pu_and ?_ | refine pu_or ?_ | refine pu_xor ?_ | refine pu_seq ?_ | refine pu_sne ?_)
  refine ld_here h2 (.head _) (v := v) rfl ?_
  refine hv.ln ?_
  repeat (first | refine pu_not ?_ | refine pu_eql ?_ | refine pu_neq ?_ | refine pu_lss ?_ | refine pu_leq ?_ | refine pu_gtr ?_ | refine pu_geq ?_ | refine pu_add ?_ | refine pu_sub ?_ | refine pu_mul ?_ | refine pu_neg ?_ | refine fa_at ?_ | refine nl_ptr ?_ | refine ex20 ?_ | refine ex21 ?_ | refine ex30 ?_ | refine ex31 ?_ | refine ex32 ?_ | refine ln_rule ?_ | refine lnT_rule ?_ | refine pu_and ?_ | refine pu_or ?_ | refine pu_xor ?_ | refine pu_seq ?_ | refine pu_sne ?_)
  refine cnd (fun hlt => ?_) (fun hlt => ?_)
  · have hlt : n < p.fs.length := by simpa using hlt
    repeat (first | refine pu_not ?_ | refine pu_eql ?_ | refine pu_neq ?_ | refine pu_lss ?_ | refine pu_leq ?_ | refine pu_gtr ?_ | refine pu_geq ?_ | refine pu_add ?_ | refine pu_sub ?_ | refine pu_mul ?_ | refine pu_neg ?_ | refine fa_at ?_ | refine nl_ptr ?_ | refine ex20 ?_ | refine ex21 ?_ | refine ex30 ?_ | refine ex31 ?_ | refine ex32 ?_ | refine ln_rule ?_ | refine lnT_rule ?_ | refine pu_and ?_ | refine pu_or ?_ | refine pu_xor ?_ | refine pu_seq ?_ | refine pu_sne ?_)
    refine cnd (fun h40 => ?_) (fun h40 => ?_)
    · have h40 : n < 40 := by simp at h40; omega
      obtain ⟨ps, cc, g, g1, g2, g3, g4, g5⟩ := hv.at (n := (n : Int)) (by omega) (by omega)
      repeat (first | refine pu_not ?_ | refine pu_eql ?_ | refine pu_neq ?_ | refine pu_lss ?_ | refine pu_leq ?_ | refine pu_gtr ?_ | refine pu_geq ?_ | refine pu_add ?_ | refine pu_sub ?_ | refine pu_mul ?_ | refine pu_neg ?_ | refine fa_at ?_ | refine nl_ptr ?_ | refine ex20 ?_ | refine ex21 ?_ | refine ex30 ?_ | refine ex31 ?_ | refine ex32 ?_ | refine ln_rule ?_ | refine lnT_rule ?_ | refine pu_and ?_ | refine pu_or ?_ | refine pu_xor ?_ | refine pu_seq ?_ | refine pu_sne ?_)
      refine ld_here h2 (.head _) (v := v) rfl ?_
      refine sls_fld h2 (g2.mono fun x hx => .tail _ (hX x hx)) (by omega) g3 (v := cc) rfl ?_
      refine sls_ln g4 ?_
      repeat (first | refine pu_not ?_ | refine pu_eql ?_ | refine pu_neq ?_ | refine pu_lss ?_ | refine pu_leq ?_ | refine pu_gtr ?_ | refine pu_geq ?_ | refine pu_add ?_ | refine pu_sub ?_ | refine pu_mul ?_ | refine pu_neg ?_ | refine fa_at ?_ | refine nl_ptr ?_ | refine ex20 ?_ | refine ex21 ?_ | refine ex30 ?_ | refine ex31 ?_ | refine ex32 ?_ | refine ln_rule ?_ | refine lnT_rule ?_ | refine pu_and ?_ | refine pu_or ?_ | refine pu_xor ?_ | refine pu_seq ?_ | refine pu_sne ?_)
      refine ⟨⟨IntKind.i64.wrap (s + ((icode g.code).length : Nat)), n + 1, ?_, h40, h2⟩, ?_⟩
      · rw [wrap64_in (n := (n : Int) + 1) (by omega) (by omega)]; rfl
      · rw [wrap64_in (n := (n : Int) + 1) (by omega) (by omega)]; simp; omega
    · repeat (first | refine pu_not ?_ | refine pu_eql ?_ | refine pu_neq ?_ | refine pu_lss ?_ | refine pu_leq ?_ | refine pu_gtr ?_ | refine pu_geq ?_ | refine pu_add ?_ | refine pu_sub ?_ | refine pu_mul ?_ | refine pu_neg ?_ | refine fa_at ?_ | refine nl_ptr ?_ | refine ex20 ?_ | refine ex21 ?_ | refine ex30 ?_ | refine ex31 ?_ | refine ex32 ?_ | refine ln_rule ?_ | refine lnT_rule ?_ | refine pu_and ?_ | refine pu_or ?_ | refine pu_xor ?_ | refine pu_seq ?_ | refine pu_sne ?_)
      refine ld_here h2 (.head _) (v := v) rfl ?_
      refine hv.ln ?_
      repeat (first | refine pu_not ?_ | refine pu_eql ?_ | refine pu_neq ?_ | refine pu_lss ?_ | refine pu_leq ?_ | refine pu_gtr ?_ | refine pu_geq ?_ | refine pu_add ?_ | refine pu_sub ?_ | refine pu_mul ?_ | refine pu_neg ?_ | refine fa_at ?_ | refine nl_ptr ?_ | refine ex20 ?_ | refine ex21 ?_ | refine ex30 ?_ | refine ex31 ?_ | refine ex32 ?_ | refine ln_rule ?_ | refine lnT_rule ?_ | refine pu_and ?_ | refine pu_or ?_ | refine pu_xor ?_ | refine pu_seq ?_ | refine pu_sne ?_)
      refine cnd (fun hq => ?_) (fun hq => ?_)
      · have hq : p.fs.length ≤ 40 := by simp at hq; omega
        repeat (first | refine pu_not ?_ | refine pu_eql ?_ | refine pu_neq ?_ | refine pu_lss ?_ | refine pu_leq ?_ | refine pu_gtr ?_ | refine pu_geq ?_ | refine pu_add ?_ | refine pu_sub ?_ | refine pu_mul ?_ | refine pu_neg ?_ | refine fa_at ?_ | refine nl_ptr ?_ | refine ex20 ?_ | refine ex21 ?_ | refine ex30 ?_ | refine ex31 ?_ | refine ex32 ?_ | refine ln_rule ?_ | refine lnT_rule ?_ | refine pu_and ?_ | refine pu_or ?_ | refine pu_xor ?_ | refine pu_seq ?_ | refine pu_sne ?_)
        refine cnd (fun hq6 => ?_) (fun hq6 => ?_)
        · repeat (first | refine pu_not ?_ | refine pu_eql ?_ | refine pu_neq ?_ | refine pu_lss ?_ | refine pu_leq ?_ | refine pu_gtr ?_ | refine pu_geq ?_ | refine pu_add ?_ | refine pu_sub ?_ | refine pu_mul ?_ | refine pu_neg ?_ | refine fa_at ?_ | refine nl_ptr ?_ | refine ex20 ?_ | refine ex21 ?_ | refine ex30 ?_ | refine ex31 ?_ | refine ex32 ?_ | refine ln_rule ?_ | refine lnT_rule ?_ | refine pu_and ?_ | refine pu_or ?_ | refine pu_xor ?_ | refine pu_seq ?_ | refine pu_sne ?_)
          refine ld_here h2 (.head _) (v := a) rfl ?_
          refine sl_ln ha ?_
          rw [hrl]
          repeat (first | refine pu_not ?_ | refine pu_eql ?_ | refine pu_neq ?_ | refine pu_lss ?_ | refine pu_leq ?_ | refine pu_gtr ?_ | refine pu_geq ?_ | refine pu_add ?_ | refine pu_sub ?_ | refine pu_mul ?_ | refine pu_neg ?_ | refine fa_at ?_ | refine nl_ptr ?_ | refine ex20 ?_ | refine ex21 ?_ | refine ex30 ?_ | refine ex31 ?_ | refine ex32 ?_ | refine ln_rule ?_ | refine lnT_rule ?_ | refine pu_and ?_ | refine pu_or ?_ | refine pu_xor ?_ | refine pu_seq ?_ | refine pu_sne ?_)
          refine k _ _ (fun hq2 => ⟨hq, ?_⟩) h2.drop
          simp at hq2; omega
        · exact k _ _ (fun h => by cases h) h2.drop
      · exact k _ _ (fun h => by cases h) h2.drop
  · repeat (first | refine pu_not ?_ | refine pu_eql ?_ | refine pu_neq ?_ | refine pu_lss ?_ | refine pu_leq ?_ | refine pu_gtr ?_ | refine pu_geq ?_ | refine pu_add ?_ | refine pu_sub ?_ | refine pu_mul ?_ | refine pu_neg ?_ | refine fa_at ?_ | refine nl_ptr ?_ | refine ex20 ?_ | refine ex21 ?_ | refine ex30 ?_ | refine ex31 ?_ | refine ex32 ?_ | refine ln_rule ?_ | refine lnT_rule ?_ | refine pu_and ?_ | refine pu_or ?_ | refine pu_xor ?_ | refine pu_seq ?_ | refine pu_sne ?_)
    refine ld_here h2 (.head _) (v := v) rfl ?_
    refine hv.ln ?_
    repeat (first | refine pu_not ?_ | refine pu_eql ?_ | refine pu_neq ?_ | refine pu_lss ?_ | refine pu_leq ?_ | refine pu_gtr ?_ | refine pu_geq ?_ | refine pu_add ?_ | refine pu_sub ?_ | refine pu_mul ?_ | refine pu_neg ?_ | refine fa_at ?_ | refine nl_ptr ?_ | refine ex20 ?_ | refine ex21 ?_ | refine ex30 ?_ | refine ex31 ?_ | refine ex32 ?_ | refine ln_rule ?_ | refine lnT_rule ?_ | refine pu_and ?_ | refine pu_or ?_ | refine pu_xor ?_ | refine pu_seq ?_ | refine pu_sne ?_)
    refine cnd (fun hq => ?_) (fun hq => ?_)
    · have hq : p.fs.length ≤ 40 := by simp at hq; omega
      repeat (first | refine pu_not ?_ | refine pu_eql ?_ | refine pu_neq ?_ | refine pu_lss ?_ | refine pu_leq ?_ | refine pu_gtr ?_ | refine pu_geq ?_ | refine pu_add ?_ | refine pu_sub ?_ | refine pu_mul ?_ | refine pu_neg ?_ | refine fa_at ?_ | refine nl_ptr ?_ | refine ex20 ?_ | refine ex21 ?_ | refine ex30 ?_ | refine ex31 ?_ | refine ex32 ?_ | refine ln_rule ?_ | refine lnT_rule ?_ | refine pu_and ?_ | refine pu_or ?_ | refine pu_xor ?_ | refine pu_seq ?_ | refine pu_sne ?_)
      refine cnd (fun hq6 => ?_) (fun hq6 => ?_)
      · repeat (first | refine pu_not ?_ | refine pu_eql ?_ | refine pu_neq ?_ | refine pu_lss ?_ | refine pu_leq ?_ | refine pu_gtr ?_ | refine pu_geq ?_ | refine pu_add ?_ | refine pu_sub ?_ | refine pu_mul ?_ | refine pu_neg ?_ | refine fa_at ?_ | refine nl_ptr ?_ | refine ex20 ?_ | refine ex21 ?_ | refine ex30 ?_ | refine ex31 ?_ | refine ex32 ?_ | refine ln_rule ?_ | refine lnT_rule ?_ | refine pu_and ?_ | refine pu_or ?_ | refine pu_xor ?_ | refine pu_seq ?_ | refine pu_sne ?_)
        refine ld_here h2 (.head _) (v := a) rfl ?_
        refine sl_ln ha ?_
        rw [hrl]
        repeat (first | refine pu_not ?_ | refine pu_eql ?_ | refine pu_neq ?_ | refine pu_lss ?_ | refine pu_leq ?_ | refine pu_gtr ?_ | refine pu_geq ?_ | refine pu_add ?_ | refine pu_sub ?_ | refine pu_mul ?_ | refine pu_neg ?_ | refine fa_at ?_ | refine nl_ptr ?_ | refine ex20 ?_ | refine ex21 ?_ | refine ex30 ?_ | refine ex31 ?_ | refine ex32 ?_ | refine ln_rule ?_ | refine lnT_rule ?_ | refine pu_and ?_ | refine pu_or ?_ | refine pu_xor ?_ | refine pu_seq ?_ | refine pu_sne ?_)
        refine k _ _ (fun hq2 => ⟨hq, ?_⟩) h2.drop
        simp at hq2; omega
      · exact k _ _ (fun h => by cases h) h2.drop
    · exact k _ _ (fun h => by cases h) h2.drop
theorem perm3 {A C D : Hp} : (A ++ (C ++ D)).Perm (C ++ (A ++ D)) := List.perm_append_comm_assoc A C D
set_option maxRecDepth 40000 in
set_option maxHeartbeats 4000000 in
theorem FiberHolds.law {v0 v1 : Value} (g0 : FitV PG H T.t_linesmanlaw17_Start v0) (g1 : FitV PG H T.t_sl_uint32 v1) (h : Ow B w H) (k : ∀ w', Ow B w' H → K (vB true) w') : callW PG N.linesmanlaw17_FiberHolds [v0, v1] K PK w := by
  obtain ⟨p, v, fr, x, a, ws, rfl, hv, ha, hau⟩ := start17_of g0
  obtain ⟨zs, hzs, hzu⟩ := words_of' g1
  refine linesmanlaw17_FiberHolds.ok ?_
  unfold linesmanlaw17_FiberHolds.C
  refine al_rule h (l := stC17 p v fr x a) rfl (fun b2 w1 h1 => ?_)
  have hX : ∀ y, y ∈ H → y ∈ (b2, cel (stC17 p v fr x a) T.t_linesmanlaw17_Start) :: H := fun y hy => .tail _ hy
  have kk : ∀ w', Ow B w' ((b2, cel (stC17 p v fr x a) T.t_linesmanlaw17_Start) :: H) → K (vB true) w' := fun w' h' => k w' h'.drop
  have m2 : (b2, cel (stC17 p v fr x a) T.t_linesmanlaw17_Start) ∈ (b2, cel (stC17 p v fr x a) T.t_linesmanlaw17_Start) :: H := .head _
  generalize hG : (b2, cel (stC17 p v fr x a) T.t_linesmanlaw17_Start) :: H = G at *
  have hrl : (rgs zs).length = zs.length := by simp [rgs]
  refine ldn_here h1 m2 (vs := stC17 p v fr x a) rfl rfl ?_
  refine small17_spec hv ha hX h1 (fun r w2 hr h2 => ?_)
  repeat (first | refine pu_not ?_ | refine pu_eql ?_ | refine pu_neq ?_ | refine pu_lss ?_ | refine pu_leq ?_ | refine pu_gtr ?_ | refine pu_geq ?_ | refine pu_add ?_ | refine pu_sub ?_ | refine pu_mul ?_ | refine pu_neg ?_ | refine fa_at ?_ | refine nl_ptr ?_ | refine ex20 ?_ | refine ex21 ?_ | refine ex30 ?_ | refine ex31 ?_ | refine ex32 ?_ | refine ln_rule ?_ | refine lnT_rule ?_ | refine pu_and ?_ | refine pu_or ?_ | refine pu_xor ?_ | refine pu_seq ?_ | refine pu_sne ?_)
  refine cnd (fun hq => works17_spec h2 kk) (fun hq => ?_)
  have hr := hr (by simpa using hq)
  refine sl_ln hzs ?_
  rw [hrl]
  repeat (first | refine pu_not ?_ | refine pu_eql ?_ | refine pu_neq ?_ | refine pu_lss ?_ | refine pu_leq ?_ | refine pu_gtr ?_ | refine pu_geq ?_ | refine pu_add ?_ | refine pu_sub ?_ | refine pu_mul ?_ | refine pu_neg ?_ | refine fa_at ?_ | refine nl_ptr ?_ | refine ex20 ?_ | refine ex21 ?_ | refine ex30 ?_ | refine ex31 ?_ | refine ex32 ?_ | refine ln_rule ?_ | refine lnT_rule ?_ | refine pu_and ?_ | refine pu_or ?_ | refine pu_xor ?_ | refine pu_seq ?_ | refine pu_sne ?_)
  refine cnd (fun hq => works17_spec h2 kk) (fun hq80 => ?_)
  have hq80 : zs.length ≤ 80 := by simp at hq80; omega
  repeat (first | refine pu_not ?_ | refine pu_eql ?_ | refine pu_neq ?_ | refine pu_lss ?_ | refine pu_leq ?_ | refine pu_gtr ?_ | refine pu_geq ?_ | refine pu_add ?_ | refine pu_sub ?_ | refine pu_mul ?_ | refine pu_neg ?_ | refine fa_at ?_ | refine nl_ptr ?_ | refine ex20 ?_ | refine ex21 ?_ | refine ex30 ?_ | refine ex31 ?_ | refine ex32 ?_ | refine ln_rule ?_ | refine lnT_rule ?_ | refine pu_and ?_ | refine pu_or ?_ | refine pu_xor ?_ | refine pu_seq ?_ | refine pu_sne ?_)
  refine ldn_here h2 m2 (vs := p.cells v) rfl rfl ?_
  repeat (first | refine pu_not ?_ | refine pu_eql ?_ | refine pu_neq ?_ | refine pu_lss ?_ | refine pu_leq ?_ | refine pu_gtr ?_ | refine pu_geq ?_ | refine pu_add ?_ | refine pu_sub ?_ | refine pu_mul ?_ | refine pu_neg ?_ | refine fa_at ?_ | refine nl_ptr ?_ | refine ex20 ?_ | refine ex21 ?_ | refine ex30 ?_ | refine ex31 ?_ | refine ex32 ?_ | refine ln_rule ?_ | refine lnT_rule ?_ | refine pu_and ?_ | refine pu_or ?_ | refine pu_xor ?_ | refine pu_seq ?_ | refine pu_sne ?_)
  refine ld_here h2 m2 (v := vI fr) rfl ?_
  repeat (first | refine pu_not ?_ | refine pu_eql ?_ | refine pu_neq ?_ | refine pu_lss ?_ | refine pu_leq ?_ | refine pu_gtr ?_ | refine pu_geq ?_ | refine pu_add ?_ | refine pu_sub ?_ | refine pu_mul ?_ | refine pu_neg ?_ | refine fa_at ?_ | refine nl_ptr ?_ | refine ex20 ?_ | refine ex21 ?_ | refine ex30 ?_ | refine ex31 ?_ | refine ex32 ?_ | refine ln_rule ?_ | refine lnT_rule ?_ | refine pu_and ?_ | refine pu_or ?_ | refine pu_xor ?_ | refine pu_seq ?_ | refine pu_sne ?_)
  refine ld_here h2 m2 (v := vI x) rfl ?_
  repeat (first | refine pu_not ?_ | refine pu_eql ?_ | refine pu_neq ?_ | refine pu_lss ?_ | refine pu_leq ?_ | refine pu_gtr ?_ | refine pu_geq ?_ | refine pu_add ?_ | refine pu_sub ?_ | refine pu_mul ?_ | refine pu_neg ?_ | refine fa_at ?_ | refine nl_ptr ?_ | refine ex20 ?_ | refine ex21 ?_ | refine ex30 ?_ | refine ex31 ?_ | refine ex32 ?_ | refine ln_rule ?_ | refine lnT_rule ?_ | refine pu_and ?_ | refine pu_or ?_ | refine pu_xor ?_ | refine pu_seq ?_ | refine pu_sne ?_)
  refine ld_here h2 m2 (v := a) rfl ?_
  -- what follows fiber.New: the reference's New is asked
  -- there is no fiber, and the reference answers alike
  have zp : zref.all plainV = true := rfl
  refine fnew_spec hv ha hX (by omega) (by omega) h2 (fun hfr w3 h3 => ?_) (fun hfr hb w3 h3 => ?_) (fun hfr hok hb w3 h3 => ?_) (fun hfr hok f hx0 hf hl s0 F bf w3 hres hfrs hs0 h3 => ?_)
  · have h3 : Ow B w3 ([] ++ G) := h3
    repeat (first | refine pu_not ?_ | refine pu_eql ?_ | refine pu_neq ?_ | refine pu_lss ?_ | refine pu_leq ?_ | refine pu_gtr ?_ | refine pu_geq ?_ | refine pu_add ?_ | refine pu_sub ?_ | refine pu_mul ?_ | refine pu_neg ?_ | refine fa_at ?_ | refine nl_ptr ?_ | refine ex20 ?_ | refine ex21 ?_ | refine ex30 ?_ | refine ex31 ?_ | refine ex32 ?_ | refine ln_rule ?_ | refine lnT_rule ?_ | refine pu_and ?_ | refine pu_or ?_ | refine pu_xor ?_ | refine pu_seq ?_ | refine pu_sne ?_)
    refine ldn_here h3 (List.mem_append_right _ m2) (vs := p.cells v) rfl rfl ?_
    repeat (first | refine pu_not ?_ | refine pu_eql ?_ | refine pu_neq ?_ | refine pu_lss ?_ | refine pu_leq ?_ | refine pu_gtr ?_ | refine pu_geq ?_ | refine pu_add ?_ | refine pu_sub ?_ | refine pu_mul ?_ | refine pu_neg ?_ | refine fa_at ?_ | refine nl_ptr ?_ | refine ex20 ?_ | refine ex21 ?_ | refine ex30 ?_ | refine ex31 ?_ | refine ex32 ?_ | refine ln_rule ?_ | refine lnT_rule ?_ | refine pu_and ?_ | refine pu_or ?_ | refine pu_xor ?_ | refine pu_seq ?_ | refine pu_sne ?_)
    refine ld_here h3 (List.mem_append_right _ m2) (v := vI x) rfl ?_
    repeat (first | refine pu_not ?_ | refine pu_eql ?_ | refine pu_neq ?_ | refine pu_lss ?_ | refine pu_leq ?_ | refine pu_gtr ?_ | refine pu_geq ?_ | refine pu_add ?_ | refine pu_sub ?_ | refine pu_mul ?_ | refine pu_neg ?_ | refine fa_at ?_ | refine nl_ptr ?_ | refine ex20 ?_ | refine ex21 ?_ | refine ex30 ?_ | refine ex31 ?_ | refine ex32 ?_ | refine ln_rule ?_ | refine lnT_rule ?_ | refine pu_and ?_ | refine pu_or ?_ | refine pu_xor ?_ | refine pu_seq ?_ | refine pu_sne ?_)
    refine ld_here h3 (List.mem_append_right _ m2) (v := a) rfl ?_
    have bad2 : ∀ {w4 : World} {e4 : Int}, e4 ≠ 0 → True := fun _ => trivial
    refine new12_spec hv ha (fun y hy => List.mem_append_right _ (hX y hy)) (by omega) h3 (fun hb w4 h4 => ?_) (fun ho hb w4 h4 => ?_) (fun ho f hx0 hf hl S c bx w4 hc h4 => ?_)
    · obtain ⟨A4, hA4⟩ : ∃ A4 : Hp, A4 = [] := ⟨_, rfl⟩
      have h4 : Ow B w4 (A4 ++ G) := by rw [hA4]; exact h4
      obtain ⟨rl, hrl4, hrll, hrp⟩ : ∃ rl : List Value, rl = zref ∧ rl.length = 6 ∧ rl.all plainV = true := ⟨_, rfl, rfl, rfl⟩
      rw [← hrl4]
      clear hrl4
      repeat (first | refine pu_not ?_ | refine pu_eql ?_ | refine pu_neq ?_ | refine pu_lss ?_ | refine pu_leq ?_ | refine pu_gtr ?_ | refine pu_geq ?_ | refine pu_add ?_ | refine pu_sub ?_ | refine pu_mul ?_ | refine pu_neg ?_ | refine fa_at ?_ | refine nl_ptr ?_ | refine ex20 ?_ | refine ex21 ?_ | refine ex30 ?_ | refine ex31 ?_ | refine ex32 ?_ | refine ln_rule ?_ | refine lnT_rule ?_ | refine pu_and ?_ | refine pu_or ?_ | refine pu_xor ?_ | refine pu_seq ?_ | refine pu_sne ?_)
      refine al_rule h4 (l := zref) zref_eq (fun b42 w5 h5 => ?_)
      refine st_here (A := []) h5 rl rfl hrll hrp (by simp) (fun w6 h6 => ?_)
      have h6 : Ow B w6 (A4 ++ G) := Ow.drop h6
      refine num17_spec h6 (fun w7 h7 => ?_)
      repeat (first | refine pu_not ?_ | refine pu_eql ?_ | refine pu_neq ?_ | refine pu_lss ?_ | refine pu_leq ?_ | refine pu_gtr ?_ | refine pu_geq ?_ | refine pu_add ?_ | refine pu_sub ?_ | refine pu_mul ?_ | refine pu_neg ?_ | refine fa_at ?_ | refine nl_ptr ?_ | refine ex20 ?_ | refine ex21 ?_ | refine ex30 ?_ | refine ex31 ?_ | refine ex32 ?_ | refine ln_rule ?_ | refine lnT_rule ?_ | refine pu_and ?_ | refine pu_or ?_ | refine pu_xor ?_ | refine pu_seq ?_ | refine pu_sne ?_)
      refine cnd_f rfl ?_
      refine pu_bneq (by kernel_rfl) ?_
      refine cnd_f rfl ?_
      refine num17_spec h7 (fun w8 h8 => ?_)
      repeat (first | refine pu_not ?_ | refine pu_eql ?_ | refine pu_neq ?_ | refine pu_lss ?_ | refine pu_leq ?_ | refine pu_gtr ?_ | refine pu_geq ?_ | refine pu_add ?_ | refine pu_sub ?_ | refine pu_mul ?_ | refine pu_neg ?_ | refine fa_at ?_ | refine nl_ptr ?_ | refine ex20 ?_ | refine ex21 ?_ | refine ex30 ?_ | refine ex31 ?_ | refine ex32 ?_ | refine ln_rule ?_ | refine lnT_rule ?_ | refine pu_and ?_ | refine pu_or ?_ | refine pu_xor ?_ | refine pu_seq ?_ | refine pu_sne ?_)
      refine cnd_t rfl ?_
      refine pu_pnil (e := T.t_fiber_Fiber) (by kernel_rfl) ?_
      refine cnd_t rfl ?_
      exact works17_spec h8 (fun w' h' => kk _ (ow_drop h'))
    · obtain ⟨A4, hA4⟩ : ∃ A4 : Hp, A4 = [] := ⟨_, rfl⟩
      have h4 : Ow B w4 (A4 ++ G) := by rw [hA4]; exact h4
      repeat (first | refine pu_not ?_ | refine pu_eql ?_ | refine pu_neq ?_ | refine pu_lss ?_ | refine pu_leq ?_ | refine pu_gtr ?_ | refine pu_geq ?_ | refine pu_add ?_ | refine pu_sub ?_ | refine pu_mul ?_ | refine pu_neg ?_ | refine fa_at ?_ | refine nl_ptr ?_ | refine ex20 ?_ | refine ex21 ?_ | refine ex30 ?_ | refine ex31 ?_ | refine ex32 ?_ | refine ln_rule ?_ | refine lnT_rule ?_ | refine pu_and ?_ | refine pu_or ?_ | refine pu_xor ?_ | refine pu_seq ?_ | refine pu_sne ?_)
      refine al_rule h4 (l := zref) zref_eq (fun b42 w5 h5 => ?_)
      refine st_here (A := []) h5 zref rfl rfl rfl (by simp) (fun w6 h6 => ?_)
      have h6 : Ow B w6 (A4 ++ G) := Ow.drop h6
      refine num17_spec h6 (fun w7 h7 => ?_)
      repeat (first | refine pu_not ?_ | refine pu_eql ?_ | refine pu_neq ?_ | refine pu_lss ?_ | refine pu_leq ?_ | refine pu_gtr ?_ | refine pu_geq ?_ | refine pu_add ?_ | refine pu_sub ?_ | refine pu_mul ?_ | refine pu_neg ?_ | refine fa_at ?_ | refine nl_ptr ?_ | refine ex20 ?_ | refine ex21 ?_ | refine ex30 ?_ | refine ex31 ?_ | refine ex32 ?_ | refine ln_rule ?_ | refine lnT_rule ?_ | refine pu_and ?_ | refine pu_or ?_ | refine pu_xor ?_ | refine pu_seq ?_ | refine pu_sne ?_)
      refine cnd_f rfl ?_
      refine pu_bneq (by kernel_rfl) ?_
      refine cnd_f rfl ?_
      refine num17_spec h7 (fun w8 h8 => ?_)
      repeat (first | refine pu_not ?_ | refine pu_eql ?_ | refine pu_neq ?_ | refine pu_lss ?_ | refine pu_leq ?_ | refine pu_gtr ?_ | refine pu_geq ?_ | refine pu_add ?_ | refine pu_sub ?_ | refine pu_mul ?_ | refine pu_neg ?_ | refine fa_at ?_ | refine nl_ptr ?_ | refine ex20 ?_ | refine ex21 ?_ | refine ex30 ?_ | refine ex31 ?_ | refine ex32 ?_ | refine ln_rule ?_ | refine lnT_rule ?_ | refine pu_and ?_ | refine pu_or ?_ | refine pu_xor ?_ | refine pu_seq ?_ | refine pu_sne ?_)
      refine cnd_t rfl ?_
      refine pu_pnil (e := T.t_fiber_Fiber) (by kernel_rfl) ?_
      refine cnd_t rfl ?_
      exact works17_spec h8 (fun w' h' => kk _ (ow_drop h'))
    · obtain ⟨A4, hA4⟩ : ∃ A4 : Hp, A4 = (bx, cel (frow (begF x.toNat f ws) c) T.t_api_Frame) :: (S ++ []) := ⟨_, rfl⟩
      have h4 : Ow B w4 (A4 ++ G) := by rw [hA4]; simpa using h4
      repeat (first | refine pu_not ?_ | refine pu_eql ?_ | refine pu_neq ?_ | refine pu_lss ?_ | refine pu_leq ?_ | refine pu_gtr ?_ | refine pu_geq ?_ | refine pu_add ?_ | refine pu_sub ?_ | refine pu_mul ?_ | refine pu_neg ?_ | refine fa_at ?_ | refine nl_ptr ?_ | refine ex20 ?_ | refine ex21 ?_ | refine ex30 ?_ | refine ex31 ?_ | refine ex32 ?_ | refine ln_rule ?_ | refine lnT_rule ?_ | refine pu_and ?_ | refine pu_or ?_ | refine pu_xor ?_ | refine pu_seq ?_ | refine pu_sne ?_)
      refine al_rule h4 (l := zref) zref_eq (fun b42 w5 h5 => ?_)
      refine st_here (A := []) h5 (rsC p v (.slice (some ⟨bx, 0, none⟩) 1 1) 0) rfl rfl (by simp only [List.all_cons, fsIn.plain hv]; rfl) (by simp) (fun w6 h6 => ?_)
      have h6 : Ow B w6 (A4 ++ G) := Ow.drop h6
      refine num17_spec h6 (fun w7 h7 => ?_)
      repeat (first | refine pu_not ?_ | refine pu_eql ?_ | refine pu_neq ?_ | refine pu_lss ?_ | refine pu_leq ?_ | refine pu_gtr ?_ | refine pu_geq ?_ | refine pu_add ?_ | refine pu_sub ?_ | refine pu_mul ?_ | refine pu_neg ?_ | refine fa_at ?_ | refine nl_ptr ?_ | refine ex20 ?_ | refine ex21 ?_ | refine ex30 ?_ | refine ex31 ?_ | refine ex32 ?_ | refine ln_rule ?_ | refine lnT_rule ?_ | refine pu_and ?_ | refine pu_or ?_ | refine pu_xor ?_ | refine pu_seq ?_ | refine pu_sne ?_)
      refine cnd_t rfl ?_
      repeat (first | refine pu_not ?_ | refine pu_eql ?_ | refine pu_neq ?_ | refine pu_lss ?_ | refine pu_leq ?_ | refine pu_gtr ?_ | refine pu_geq ?_ | refine pu_add ?_ | refine pu_sub ?_ | refine pu_mul ?_ | refine pu_neg ?_ | refine fa_at ?_ | refine nl_ptr ?_ | refine ex20 ?_ | refine ex21 ?_ | refine ex30 ?_ | refine ex31 ?_ | refine ex32 ?_ | refine ln_rule ?_ | refine lnT_rule ?_ | refine pu_and ?_ | refine pu_or ?_ | refine pu_xor ?_ | refine pu_seq ?_ | refine pu_sne ?_)
      refine ld_here h7 (List.mem_append_right _ m2) (v := vI fr) rfl ?_
      repeat (first | refine pu_not ?_ | refine pu_eql ?_ | refine pu_neq ?_ | refine pu_lss ?_ | refine pu_leq ?_ | refine pu_gtr ?_ | refine pu_geq ?_ | refine pu_add ?_ | refine pu_sub ?_ | refine pu_mul ?_ | refine pu_neg ?_ | refine fa_at ?_ | refine nl_ptr ?_ | refine ex20 ?_ | refine ex21 ?_ | refine ex30 ?_ | refine ex31 ?_ | refine ex32 ?_ | refine ln_rule ?_ | refine lnT_rule ?_ | refine pu_and ?_ | refine pu_or ?_ | refine pu_xor ?_ | refine pu_seq ?_ | refine pu_sne ?_)
      refine cnd (fun hf1 => ?_) (fun hf1 => ?_)
      · repeat (first | refine pu_not ?_ | refine pu_eql ?_ | refine pu_neq ?_ | refine pu_lss ?_ | refine pu_leq ?_ | refine pu_gtr ?_ | refine pu_geq ?_ | refine pu_add ?_ | refine pu_sub ?_ | refine pu_mul ?_ | refine pu_neg ?_ | refine fa_at ?_ | refine nl_ptr ?_ | refine ex20 ?_ | refine ex21 ?_ | refine ex30 ?_ | refine ex31 ?_ | refine ex32 ?_ | refine ln_rule ?_ | refine lnT_rule ?_ | refine pu_and ?_ | refine pu_or ?_ | refine pu_xor ?_ | refine pu_seq ?_ | refine pu_sne ?_)
        refine ld_here h7 (List.mem_append_right _ m2) (v := vI fr) rfl ?_
        repeat (first | refine pu_not ?_ | refine pu_eql ?_ | refine pu_neq ?_ | refine pu_lss ?_ | refine pu_leq ?_ | refine pu_gtr ?_ | refine pu_geq ?_ | refine pu_add ?_ | refine pu_sub ?_ | refine pu_mul ?_ | refine pu_neg ?_ | refine fa_at ?_ | refine nl_ptr ?_ | refine ex20 ?_ | refine ex21 ?_ | refine ex30 ?_ | refine ex31 ?_ | refine ex32 ?_ | refine ln_rule ?_ | refine lnT_rule ?_ | refine pu_and ?_ | refine pu_or ?_ | refine pu_xor ?_ | refine pu_seq ?_ | refine pu_sne ?_)
        refine pu_bneq (by kernel_rfl) ?_
        refine cnd_f (by simp at hf1 ⊢; omega) ?_
        refine num17_spec h7 (fun w8 h8 => ?_)
        repeat (first | refine pu_not ?_ | refine pu_eql ?_ | refine pu_neq ?_ | refine pu_lss ?_ | refine pu_leq ?_ | refine pu_gtr ?_ | refine pu_geq ?_ | refine pu_add ?_ | refine pu_sub ?_ | refine pu_mul ?_ | refine pu_neg ?_ | refine fa_at ?_ | refine nl_ptr ?_ | refine ex20 ?_ | refine ex21 ?_ | refine ex30 ?_ | refine ex31 ?_ | refine ex32 ?_ | refine ln_rule ?_ | refine lnT_rule ?_ | refine pu_and ?_ | refine pu_or ?_ | refine pu_xor ?_ | refine pu_seq ?_ | refine pu_sne ?_)
        refine cnd_t rfl ?_
        refine pu_pnil (e := T.t_fiber_Fiber) (by kernel_rfl) ?_
        refine cnd_t rfl ?_
        exact works17_spec h8 (fun w' h' => kk _ (ow_drop h'))
      · refine pu_bneq (by kernel_rfl) ?_
        refine cnd_f rfl ?_
        refine num17_spec h7 (fun w8 h8 => ?_)
        repeat (first | refine pu_not ?_ | refine pu_eql ?_ | refine pu_neq ?_ | refine pu_lss ?_ | refine pu_leq ?_ | refine pu_gtr ?_ | refine pu_geq ?_ | refine pu_add ?_ | refine pu_sub ?_ | refine pu_mul ?_ | refine pu_neg ?_ | refine fa_at ?_ | refine nl_ptr ?_ | refine ex20 ?_ | refine ex21 ?_ | refine ex30 ?_ | refine ex31 ?_ | refine ex32 ?_ | refine ln_rule ?_ | refine lnT_rule ?_ | refine pu_and ?_ | refine pu_or ?_ | refine pu_xor ?_ | refine pu_seq ?_ | refine pu_sne ?_)
        refine cnd_t rfl ?_
        refine pu_pnil (e := T.t_fiber_Fiber) (by kernel_rfl) ?_
        refine cnd_t rfl ?_
        exact works17_spec h8 (fun w' h' => kk _ (ow_drop h'))
  · have h3 : Ow B w3 ([] ++ G) := h3
    repeat (first | refine pu_not ?_ | refine pu_eql ?_ | refine pu_neq ?_ | refine pu_lss ?_ | refine pu_leq ?_ | refine pu_gtr ?_ | refine pu_geq ?_ | refine pu_add ?_ | refine pu_sub ?_ | refine pu_mul ?_ | refine pu_neg ?_ | refine fa_at ?_ | refine nl_ptr ?_ | refine ex20 ?_ | refine ex21 ?_ | refine ex30 ?_ | refine ex31 ?_ | refine ex32 ?_ | refine ln_rule ?_ | refine lnT_rule ?_ | refine pu_and ?_ | refine pu_or ?_ | refine pu_xor ?_ | refine pu_seq ?_ | refine pu_sne ?_)
    refine ldn_here h3 (List.mem_append_right _ m2) (vs := p.cells v) rfl rfl ?_
    repeat (first | refine pu_not ?_ | refine pu_eql ?_ | refine pu_neq ?_ | refine pu_lss ?_ | refine pu_leq ?_ | refine pu_gtr ?_ | refine pu_geq ?_ | refine pu_add ?_ | refine pu_sub ?_ | refine pu_mul ?_ | refine pu_neg ?_ | refine fa_at ?_ | refine nl_ptr ?_ | refine ex20 ?_ | refine ex21 ?_ | refine ex30 ?_ | refine ex31 ?_ | refine ex32 ?_ | refine ln_rule ?_ | refine lnT_rule ?_ | refine pu_and ?_ | refine pu_or ?_ | refine pu_xor ?_ | refine pu_seq ?_ | refine pu_sne ?_)
    refine ld_here h3 (List.mem_append_right _ m2) (v := vI x) rfl ?_
    repeat (first | refine pu_not ?_ | refine pu_eql ?_ | refine pu_neq ?_ | refine pu_lss ?_ | refine pu_leq ?_ | refine pu_gtr ?_ | refine pu_geq ?_ | refine pu_add ?_ | refine pu_sub ?_ | refine pu_mul ?_ | refine pu_neg ?_ | refine fa_at ?_ | refine nl_ptr ?_ | refine ex20 ?_ | refine ex21 ?_ | refine ex30 ?_ | refine ex31 ?_ | refine ex32 ?_ | refine ln_rule ?_ | refine lnT_rule ?_ | refine pu_and ?_ | refine pu_or ?_ | refine pu_xor ?_ | refine pu_seq ?_ | refine pu_sne ?_)
    refine ld_here h3 (List.mem_append_right _ m2) (v := a) rfl ?_
    refine new12_spec hv ha (fun y hy => List.mem_append_right _ (hX y hy)) (by omega) h3 (fun hb w4 h4 => ?_) (fun ho _ w4 h4 => by rw [hb] at ho; cases ho) (fun ho f hx0 hf hl S c bx w4 hc h4 => by rw [hb] at ho; cases ho)
    repeat (first | refine pu_not ?_ | refine pu_eql ?_ | refine pu_neq ?_ | refine pu_lss ?_ | refine pu_leq ?_ | refine pu_gtr ?_ | refine pu_geq ?_ | refine pu_add ?_ | refine pu_sub ?_ | refine pu_mul ?_ | refine pu_neg ?_ | refine fa_at ?_ | refine nl_ptr ?_ | refine ex20 ?_ | refine ex21 ?_ | refine ex30 ?_ | refine ex31 ?_ | refine ex32 ?_ | refine ln_rule ?_ | refine lnT_rule ?_ | refine pu_and ?_ | refine pu_or ?_ | refine pu_xor ?_ | refine pu_seq ?_ | refine pu_sne ?_)
    refine al_rule h4 (l := zref) zref_eq (fun b42 w5 h5 => ?_)
    refine st_here (A := []) h5 zref rfl rfl rfl (by simp) (fun w6 h6 => ?_)
    have h6 : Ow B w6 ([] ++ G) := Ow.drop h6
    refine num17_spec h6 (fun w7 h7 => ?_)
    repeat (first | refine pu_not ?_ | refine pu_eql ?_ | refine pu_neq ?_ | refine pu_lss ?_ | refine pu_leq ?_ | refine pu_gtr ?_ | refine pu_geq ?_ | refine pu_add ?_ | refine pu_sub ?_ | refine pu_mul ?_ | refine pu_neg ?_ | refine fa_at ?_ | refine nl_ptr ?_ | refine ex20 ?_ | refine ex21 ?_ | refine ex30 ?_ | refine ex31 ?_ | refine ex32 ?_ | refine ln_rule ?_ | refine lnT_rule ?_ | refine pu_and ?_ | refine pu_or ?_ | refine pu_xor ?_ | refine pu_seq ?_ | refine pu_sne ?_)
    refine cnd_f rfl ?_
    refine pu_bneq (by kernel_rfl) ?_
    refine cnd_f rfl ?_
    refine num17_spec h7 (fun w8 h8 => ?_)
    repeat (first | refine pu_not ?_ | refine pu_eql ?_ | refine pu_neq ?_ | refine pu_lss ?_ | refine pu_leq ?_ | refine pu_gtr ?_ | refine pu_geq ?_ | refine pu_add ?_ | refine pu_sub ?_ | refine pu_mul ?_ | refine pu_neg ?_ | refine fa_at ?_ | refine nl_ptr ?_ | refine ex20 ?_ | refine ex21 ?_ | refine ex30 ?_ | refine ex31 ?_ | refine ex32 ?_ | refine ln_rule ?_ | refine lnT_rule ?_ | refine pu_and ?_ | refine pu_or ?_ | refine pu_xor ?_ | refine pu_seq ?_ | refine pu_sne ?_)
    refine cnd_t rfl ?_
    refine pu_pnil (e := T.t_fiber_Fiber) (by kernel_rfl) ?_
    refine cnd_t rfl ?_
    exact works17_spec h8 (fun w' h' => kk _ (ow_drop h'))
  · have h3 : Ow B w3 ([] ++ G) := h3
    repeat (first | refine pu_not ?_ | refine pu_eql ?_ | refine pu_neq ?_ | refine pu_lss ?_ | refine pu_leq ?_ | refine pu_gtr ?_ | refine pu_geq ?_ | refine pu_add ?_ | refine pu_sub ?_ | refine pu_mul ?_ | refine pu_neg ?_ | refine fa_at ?_ | refine nl_ptr ?_ | refine ex20 ?_ | refine ex21 ?_ | refine ex30 ?_ | refine ex31 ?_ | refine ex32 ?_ | refine ln_rule ?_ | refine lnT_rule ?_ | refine pu_and ?_ | refine pu_or ?_ | refine pu_xor ?_ | refine pu_seq ?_ | refine pu_sne ?_)
    refine ldn_here h3 (List.mem_append_right _ m2) (vs := p.cells v) rfl rfl ?_
    repeat (first | refine pu_not ?_ | refine pu_eql ?_ | refine pu_neq ?_ | refine pu_lss ?_ | refine pu_leq ?_ | refine pu_gtr ?_ | refine pu_geq ?_ | refine pu_add ?_ | refine pu_sub ?_ | refine pu_mul ?_ | refine pu_neg ?_ | refine fa_at ?_ | refine nl_ptr ?_ | refine ex20 ?_ | refine ex21 ?_ | refine ex30 ?_ | refine ex31 ?_ | refine ex32 ?_ | refine ln_rule ?_ | refine lnT_rule ?_ | refine pu_and ?_ | refine pu_or ?_ | refine pu_xor ?_ | refine pu_seq ?_ | refine pu_sne ?_)
    refine ld_here h3 (List.mem_append_right _ m2) (v := vI x) rfl ?_
    repeat (first | refine pu_not ?_ | refine pu_eql ?_ | refine pu_neq ?_ | refine pu_lss ?_ | refine pu_leq ?_ | refine pu_gtr ?_ | refine pu_geq ?_ | refine pu_add ?_ | refine pu_sub ?_ | refine pu_mul ?_ | refine pu_neg ?_ | refine fa_at ?_ | refine nl_ptr ?_ | refine ex20 ?_ | refine ex21 ?_ | refine ex30 ?_ | refine ex31 ?_ | refine ex32 ?_ | refine ln_rule ?_ | refine lnT_rule ?_ | refine pu_and ?_ | refine pu_or ?_ | refine pu_xor ?_ | refine pu_seq ?_ | refine pu_sne ?_)
    refine ld_here h3 (List.mem_append_right _ m2) (v := a) rfl ?_
    refine new12_spec hv ha (fun y hy => List.mem_append_right _ (hX y hy)) (by omega) h3 (fun hb' w4 h4 => by rw [hok] at hb'; cases hb') (fun _ _ w4 h4 => ?_) (fun ho f hx0 hf hl S c bx w4 hc h4 => absurd hl (hb f hx0 hf))
    repeat (first | refine pu_not ?_ | refine pu_eql ?_ | refine pu_neq ?_ | refine pu_lss ?_ | refine pu_leq ?_ | refine pu_gtr ?_ | refine pu_geq ?_ | refine pu_add ?_ | refine pu_sub ?_ | refine pu_mul ?_ | refine pu_neg ?_ | refine fa_at ?_ | refine nl_ptr ?_ | refine ex20 ?_ | refine ex21 ?_ | refine ex30 ?_ | refine ex31 ?_ | refine ex32 ?_ | refine ln_rule ?_ | refine lnT_rule ?_ | refine pu_and ?_ | refine pu_or ?_ | refine pu_xor ?_ | refine pu_seq ?_ | refine pu_sne ?_)
    refine al_rule h4 (l := zref) zref_eq (fun b42 w5 h5 => ?_)
    refine st_here (A := []) h5 zref rfl rfl rfl (by simp) (fun w6 h6 => ?_)
    have h6 : Ow B w6 ([] ++ G) := Ow.drop h6
    refine num17_spec h6 (fun w7 h7 => ?_)
    repeat (first | refine pu_not ?_ | refine pu_eql ?_ | refine pu_neq ?_ | refine pu_lss ?_ | refine pu_leq ?_ | refine pu_gtr ?_ | refine pu_geq ?_ | refine pu_add ?_ | refine pu_sub ?_ | refine pu_mul ?_ | refine pu_neg ?_ | refine fa_at ?_ | refine nl_ptr ?_ | refine ex20 ?_ | refine ex21 ?_ | refine ex30 ?_ | refine ex31 ?_ | refine ex32 ?_ | refine ln_rule ?_ | refine lnT_rule ?_ | refine pu_and ?_ | refine pu_or ?_ | refine pu_xor ?_ | refine pu_seq ?_ | refine pu_sne ?_)
    refine cnd_f rfl ?_
    refine pu_bneq (by kernel_rfl) ?_
    refine cnd_f rfl ?_
    refine num17_spec h7 (fun w8 h8 => ?_)
    repeat (first | refine pu_not ?_ | refine pu_eql ?_ | refine pu_neq ?_ | refine pu_lss ?_ | refine pu_leq ?_ | refine pu_gtr ?_ | refine pu_geq ?_ | refine pu_add ?_ | refine pu_sub ?_ | refine pu_mul ?_ | refine pu_neg ?_ | refine fa_at ?_ | refine nl_ptr ?_ | refine ex20 ?_ | refine ex21 ?_ | refine ex30 ?_ | refine ex31 ?_ | refine ex32 ?_ | refine ln_rule ?_ | refine lnT_rule ?_ | refine pu_and ?_ | refine pu_or ?_ | refine pu_xor ?_ | refine pu_seq ?_ | refine pu_sne ?_)
    refine cnd_t rfl ?_
    refine pu_pnil (e := T.t_fiber_Fiber) (by kernel_rfl) ?_
    refine cnd_t rfl ?_
    exact works17_spec h8 (fun w' h' => kk _ (ow_drop h'))
  · have h3 : Ow B w3 (((bf, fbO s0.b fr) :: (s0.hp p ++ F)) ++ G) := by simpa using h3
    repeat (first | refine pu_not ?_ | refine pu_eql ?_ | refine pu_neq ?_ | refine pu_lss ?_ | refine pu_leq ?_ | refine pu_gtr ?_ | refine pu_geq ?_ | refine pu_add ?_ | refine pu_sub ?_ | refine pu_mul ?_ | refine pu_neg ?_ | refine fa_at ?_ | refine nl_ptr ?_ | refine ex20 ?_ | refine ex21 ?_ | refine ex30 ?_ | refine ex31 ?_ | refine ex32 ?_ | refine ln_rule ?_ | refine lnT_rule ?_ | refine pu_and ?_ | refine pu_or ?_ | refine pu_xor ?_ | refine pu_seq ?_ | refine pu_sne ?_)
    refine ldn_here h3 (List.mem_append_right _ m2) (vs := p.cells v) rfl rfl ?_
    repeat (first | refine pu_not ?_ | refine pu_eql ?_ | refine pu_neq ?_ | refine pu_lss ?_ | refine pu_leq ?_ | refine pu_gtr ?_ | refine pu_geq ?_ | refine pu_add ?_ | refine pu_sub ?_ | refine pu_mul ?_ | refine pu_neg ?_ | refine fa_at ?_ | refine nl_ptr ?_ | refine ex20 ?_ | refine ex21 ?_ | refine ex30 ?_ | refine ex31 ?_ | refine ex32 ?_ | refine ln_rule ?_ | refine lnT_rule ?_ | refine pu_and ?_ | refine pu_or ?_ | refine pu_xor ?_ | refine pu_seq ?_ | refine pu_sne ?_)
    refine ld_here h3 (List.mem_append_right _ m2) (v := vI x) rfl ?_
    repeat (first | refine pu_not ?_ | refine pu_eql ?_ | refine pu_neq ?_ | refine pu_lss ?_ | refine pu_leq ?_ | refine pu_gtr ?_ | refine pu_geq ?_ | refine pu_add ?_ | refine pu_sub ?_ | refine pu_mul ?_ | refine pu_neg ?_ | refine fa_at ?_ | refine nl_ptr ?_ | refine ex20 ?_ | refine ex21 ?_ | refine ex30 ?_ | refine ex31 ?_ | refine ex32 ?_ | refine ln_rule ?_ | refine lnT_rule ?_ | refine pu_and ?_ | refine pu_or ?_ | refine pu_xor ?_ | refine pu_seq ?_ | refine pu_sne ?_)
    refine ld_here h3 (List.mem_append_right _ m2) (v := a) rfl ?_
    refine new12_spec hv ha (fun y hy => List.mem_append_right _ (hX y hy)) (by omega) h3 (fun hb' w4 h4 => by rw [hok] at hb'; cases hb') (fun _ hb w4 h4 => absurd hl (hb f hx0 hf)) (fun ho f' _ hf' _ S c bx w4 hc h4 => ?_)
    rw [hf] at hf'
    cases hf'
    have good := fs_good hv hok
    have hfr0 : fr ≠ 0 := by omega
    have hI0 : Inv p s0.frs := by rw [hfrs]; exact Inv.beg good hf hl hau
    -- all but the stack's own
    obtain ⟨A4, hA4⟩ : ∃ A4 : Hp, A4 = (bx, cel (frow (begF x.toNat f ws) c) T.t_api_Frame) :: S ++ ((bf, fbO s0.b fr) :: F) := ⟨_, rfl⟩
    have h4 : Ow B w4 (s0.hp p ++ (A4 ++ G)) := by
      have h5 : Ow B w4 (((bx, cel (frow (begF x.toNat f ws) c) T.t_api_Frame) :: S ++ [(bf, fbO s0.b fr)]) ++ (s0.hp p ++ (F ++ G))) := by simpa using h4
      have h6 := h5.perm perm3
      rw [hA4]
      simpa using h6
    have hfA : (bf, fbO s0.b fr) ∈ A4 ++ G := List.mem_append_left _ (by rw [hA4]; exact List.mem_append_right _ (.head _))
    have hFA : ∀ y, y ∈ F → y ∈ A4 ++ G := fun y hy => List.mem_append_left _ (by rw [hA4]; exact List.mem_append_right _ (.tail _ hy))
    have hGA : ∀ y, y ∈ G → y ∈ A4 ++ G := fun y hy => List.mem_append_right _ hy
    have kr : ∀ {A : Hp} {w' : World}, Ow B w' (A ++ (A4 ++ G)) → K (vB true) w' := fun h' => kk _ (ow_drop (ow_drop h'))
    generalize hR : A4 ++ G = R0 at *
    repeat (first | refine pu_not ?_ | refine pu_eql ?_ | refine pu_neq ?_ | refine pu_lss ?_ | refine pu_leq ?_ | refine pu_gtr ?_ | refine pu_geq ?_ | refine pu_add ?_ | refine pu_sub ?_ | refine pu_mul ?_ | refine pu_neg ?_ | refine fa_at ?_ | refine nl_ptr ?_ | refine ex20 ?_ | refine ex21 ?_ | refine ex30 ?_ | refine ex31 ?_ | refine ex32 ?_ | refine ln_rule ?_ | refine lnT_rule ?_ | refine pu_and ?_ | refine pu_or ?_ | refine pu_xor ?_ | refine pu_seq ?_ | refine pu_sne ?_)
    refine al_rule h4 (l := zref) zref_eq (fun b42 w5 h5 => ?_)
    refine st_here (A := []) h5 (rsC p v (.slice (some ⟨bx, 0, none⟩) 1 1) 0) rfl rfl (by simp only [List.all_cons, fsIn.plain hv]; rfl) (by simp) (fun w6 h6 => ?_)
    have h6 : Ow B w6 (s0.hp p ++ R0) := Ow.drop h6
    refine num17_spec h6 (fun w7 h7 => ?_)
    repeat (first | refine pu_not ?_ | refine pu_eql ?_ | refine pu_neq ?_ | refine pu_lss ?_ | refine pu_leq ?_ | refine pu_gtr ?_ | refine pu_geq ?_ | refine pu_add ?_ | refine pu_sub ?_ | refine pu_mul ?_ | refine pu_neg ?_ | refine fa_at ?_ | refine nl_ptr ?_ | refine ex20 ?_ | refine ex21 ?_ | refine ex30 ?_ | refine ex31 ?_ | refine ex32 ?_ | refine ln_rule ?_ | refine lnT_rule ?_ | refine pu_and ?_ | refine pu_or ?_ | refine pu_xor ?_ | refine pu_seq ?_ | refine pu_sne ?_)
    refine cnd_t rfl ?_
    repeat (first | refine pu_not ?_ | refine pu_eql ?_ | refine pu_neq ?_ | refine pu_lss ?_ | refine pu_leq ?_ | refine pu_gtr ?_ | refine pu_geq ?_ | refine pu_add ?_ | refine pu_sub ?_ | refine pu_mul ?_ | refine pu_neg ?_ | refine fa_at ?_ | refine nl_ptr ?_ | refine ex20 ?_ | refine ex21 ?_ | refine ex30 ?_ | refine ex31 ?_ | refine ex32 ?_ | refine ln_rule ?_ | refine lnT_rule ?_ | refine pu_and ?_ | refine pu_or ?_ | refine pu_xor ?_ | refine pu_seq ?_ | refine pu_sne ?_)
    refine ld_here h7 (List.mem_append_right _ (hGA _ m2)) (v := vI fr) rfl ?_
    repeat (first | refine pu_not ?_ | refine pu_eql ?_ | refine pu_neq ?_ | refine pu_lss ?_ | refine pu_leq ?_ | refine pu_gtr ?_ | refine pu_geq ?_ | refine pu_add ?_ | refine pu_sub ?_ | refine pu_mul ?_ | refine pu_neg ?_ | refine fa_at ?_ | refine nl_ptr ?_ | refine ex20 ?_ | refine ex21 ?_ | refine ex30 ?_ | refine ex31 ?_ | refine ex32 ?_ | refine ln_rule ?_ | refine lnT_rule ?_ | refine pu_and ?_ | refine pu_or ?_ | refine pu_xor ?_ | refine pu_seq ?_ | refine pu_sne ?_)
    refine cnd_t (by simp; omega) ?_
    repeat (first | refine pu_not ?_ | refine pu_eql ?_ | refine pu_neq ?_ | refine pu_lss ?_ | refine pu_leq ?_ | refine pu_gtr ?_ | refine pu_geq ?_ | refine pu_add ?_ | refine pu_sub ?_ | refine pu_mul ?_ | refine pu_neg ?_ | refine fa_at ?_ | refine nl_ptr ?_ | refine ex20 ?_ | refine ex21 ?_ | refine ex30 ?_ | refine ex31 ?_ | refine ex32 ?_ | refine ln_rule ?_ | refine lnT_rule ?_ | refine pu_and ?_ | refine pu_or ?_ | refine pu_xor ?_ | refine pu_seq ?_ | refine pu_sne ?_)
    refine ld_here h7 (List.mem_append_right _ (hGA _ m2)) (v := vI fr) rfl ?_
    repeat (first | refine pu_not ?_ | refine pu_eql ?_ | refine pu_neq ?_ | refine pu_lss ?_ | refine pu_leq ?_ | refine pu_gtr ?_ | refine pu_geq ?_ | refine pu_add ?_ | refine pu_sub ?_ | refine pu_mul ?_ | refine pu_neg ?_ | refine fa_at ?_ | refine nl_ptr ?_ | refine ex20 ?_ | refine ex21 ?_ | refine ex30 ?_ | refine ex31 ?_ | refine ex32 ?_ | refine ln_rule ?_ | refine lnT_rule ?_ | refine pu_and ?_ | refine pu_or ?_ | refine pu_xor ?_ | refine pu_seq ?_ | refine pu_sne ?_)
    refine pu_bneq (by kernel_rfl) ?_
    refine cnd_f (by simp; omega) ?_
    refine num17_spec h7 (fun w8 h8 => ?_)
    repeat (first | refine pu_not ?_ | refine pu_eql ?_ | refine pu_neq ?_ | refine pu_lss ?_ | refine pu_leq ?_ | refine pu_gtr ?_ | refine pu_geq ?_ | refine pu_add ?_ | refine pu_sub ?_ | refine pu_mul ?_ | refine pu_neg ?_ | refine fa_at ?_ | refine nl_ptr ?_ | refine ex20 ?_ | refine ex21 ?_ | refine ex30 ?_ | refine ex31 ?_ | refine ex32 ?_ | refine ln_rule ?_ | refine lnT_rule ?_ | refine pu_and ?_ | refine pu_or ?_ | refine pu_xor ?_ | refine pu_seq ?_ | refine pu_sne ?_)
    refine cnd_f rfl ?_
    refine fcopy_spec hs0 (hI0.regs good) hfr0 hfA h8 (fun s1 bg w9 _ hres1 hfrs1 hs1 h9 => ?_)
    -- both stacks, and the rest
    have h9 : Ow B w9 (s0.hp p ++ (s1.hp p ++ ((bg, fbO s1.b fr) :: R0))) := by
      have h10 : Ow B w9 (s1.hp p ++ ((bg, fbO s1.b fr) :: (s0.hp p ++ R0))) := h9.perm List.perm_middle.symm
      have h11 : Ow B w9 ((s1.hp p ++ [(bg, fbO s1.b fr)]) ++ (s0.hp p ++ R0)) := by simpa using h10
      have h12 := h11.perm perm3
      simpa using h12
    obtain ⟨c0, hc0⟩ : ∃ c0, s0.b = c0 := ⟨_, rfl⟩
    obtain ⟨c1, hc1⟩ : ∃ c1, s1.b = c1 := ⟨_, rfl⟩
    rw [hc0] at hfA
    rw [hc1] at h9
    have hfB : (bf, fbO c0 fr) ∈ (bg, fbO c1 fr) :: R0 := .tail _ hfA
    have hgB : (bg, fbO c1 fr) ∈ (bg, fbO c1 fr) :: R0 := .head _
    have hFB : ∀ y, y ∈ F → y ∈ (bg, fbO c1 fr) :: R0 := fun y hy => .tail _ (hFA y hy)
    have hHB : ∀ y, y ∈ H → y ∈ (bg, fbO c1 fr) :: R0 := fun y hy => .tail _ (hGA _ (hX y hy))
    have kr : ∀ {A : Hp} {w' : World}, Ow B w' (A ++ ((bg, fbO c1 fr) :: R0)) → K (vB true) w' := fun {A w'} h' => kr (A := A ++ [(bg, fbO c1 fr)]) (by simpa using h')
    generalize hR1 : (bg, fbO c1 fr) :: R0 = R1 at *
    refine ⟨fun t w => ∃ (n : Nat) (sf sg : SK), t = [vI n] ∧ n ≤ zs.length ∧ sf.b = c0 ∧ sg.b = c1 ∧ sf.ok p F ∧ sg.ok p F ∧ sg.frs = sf.frs ∧ sg.res = sf.res ∧ Inv p sf.frs ∧ sf.frs.length ≤ n + 1 ∧ Ow B w (sf.hp p ++ (sg.hp p ++ R1)), fun t _ => match t with | [.int _ n] => zs.length - n.toNat | _ => 0,
      ⟨0, s0, s1, rfl, Nat.zero_le _, hc0, hc1, hs0, hs1, hfrs1, hres1, hI0, by rw [hfrs]; simp, h9⟩, ?_⟩
    clear h1 h2 h3 h4 h5 h6 h7 h8 h9 hs0 hs1 hI0 hfrs hfrs1 hres hres1 hc0 hc1
    rintro t w10 ⟨n, sf, sg, rfl, hn, hsfb, hsgb, hsf, hsg, hfe, hre, hI, hlen, h10⟩ j
    refine sl_ln hzs ?_
    rw [hrl]
    repeat (first | refine pu_not ?_ | refine pu_eql ?_ | refine pu_neq ?_ | refine pu_lss ?_ | refine pu_leq ?_ | refine pu_gtr ?_ | refine pu_geq ?_ | refine pu_add ?_ | refine pu_sub ?_ | refine pu_mul ?_ | refine pu_neg ?_ | refine fa_at ?_ | refine nl_ptr ?_ | refine ex20 ?_ | refine ex21 ?_ | refine ex30 ?_ | refine ex31 ?_ | refine ex32 ?_ | refine ln_rule ?_ | refine lnT_rule ?_ | refine pu_and ?_ | refine pu_or ?_ | refine pu_xor ?_ | refine pu_seq ?_ | refine pu_sne ?_)
    refine cnd (fun hlt => ?_) (fun hlt => ?_)
    rotate_left
    · exact works17_spec h10 (fun w' h' => kr (A := sf.hp p ++ sg.hp p) (by simpa using h'))
    have hlt : n < zs.length := by simpa using hlt
    have hzl : IsU (zs[n]) := hzu _ (List.getElem_mem hlt)
    have hIg : Inv p sg.frs := by rw [hfe]; exact hI
    have hwl := wantA_len (fr := fr) good hI
    rw [← hsfb] at hfB
    rw [← hsgb] at hgB
    -- both want
    refine want_any good hI hsf (fun y hy => List.mem_append_right _ (hFB y hy)) hfr0 (List.mem_append_right _ hfB) h10 (fun Sa va w11 hva hsa h11 => ?_)
    generalize hW : wantA p fr sf.frs = W at *
    repeat (first | refine pu_not ?_ | refine pu_eql ?_ | refine pu_neq ?_ | refine pu_lss ?_ | refine pu_leq ?_ | refine pu_gtr ?_ | refine pu_geq ?_ | refine pu_add ?_ | refine pu_sub ?_ | refine pu_mul ?_ | refine pu_neg ?_ | refine fa_at ?_ | refine nl_ptr ?_ | refine ex20 ?_ | refine ex21 ?_ | refine ex30 ?_ | refine ex31 ?_ | refine ex32 ?_ | refine ln_rule ?_ | refine lnT_rule ?_ | refine pu_and ?_ | refine pu_or ?_ | refine pu_xor ?_ | refine pu_seq ?_ | refine pu_sne ?_)
    refine al_rule h11 (l := wt0.cells (.slice none 0 0)) zwant (fun b91 w12 h12 => ?_)
    refine st_here (A := []) h12 (W.1.cells va) rfl rfl (wt_plain _ hva) (by simp [wt_len]) (fun w13 h13 => ?_)
    rw [wt_set _ _ _ rfl] at h13
    have h13 : Ow B w13 (sg.hp p ++ (sf.hp p ++ (((b91, wnO (W.1.cells va)) :: Sa) ++ R1))) := by
      have h14 : Ow B w13 (((b91, wnO (W.1.cells va)) :: Sa) ++ (sf.hp p ++ (sg.hp p ++ R1))) := by simpa using h13
      have h15 := (h14.perm perm3).perm (List.Perm.append_left _ perm3)
      exact h15.perm perm3
    have hin : ∀ {Z : Hp} {y}, y ∈ R1 → y ∈ sf.hp p ++ (Z ++ R1) := fun h => List.mem_append_right _ (List.mem_append_right _ h)
    refine want_any good hIg hsg (fun y hy => hin (hFB y hy)) hfr0 (hin hgB) h13 (fun Sb vb w14 hvb hsb h14 => ?_)
    rw [hfe, hW] at hsb ⊢
    repeat (first | refine pu_not ?_ | refine pu_eql ?_ | refine pu_neq ?_ | refine pu_lss ?_ | refine pu_leq ?_ | refine pu_gtr ?_ | refine pu_geq ?_ | refine pu_add ?_ | refine pu_sub ?_ | refine pu_mul ?_ | refine pu_neg ?_ | refine fa_at ?_ | refine nl_ptr ?_ | refine ex20 ?_ | refine ex21 ?_ | refine ex30 ?_ | refine ex31 ?_ | refine ex32 ?_ | refine ln_rule ?_ | refine lnT_rule ?_ | refine pu_and ?_ | refine pu_or ?_ | refine pu_xor ?_ | refine pu_seq ?_ | refine pu_sne ?_)
    refine al_rule h14 (l := wt0.cells (.slice none 0 0)) zwant (fun b99 w15 h15 => ?_)
    refine st_here (A := []) h15 (W.1.cells vb) rfl rfl (wt_plain _ hvb) (by simp [wt_len]) (fun w16 h16 => ?_)
    rw [wt_set _ _ _ rfl] at h16
    have h16 : Ow B w16 (sf.hp p ++ (sg.hp p ++ (((b99, wnO (W.1.cells vb)) :: Sb ++ ((b91, wnO (W.1.cells va)) :: Sa)) ++ R1))) := by
      have h17 : Ow B w16 (((b99, wnO (W.1.cells vb)) :: Sb) ++ (sg.hp p ++ (sf.hp p ++ (((b91, wnO (W.1.cells va)) :: Sa) ++ R1)))) := by simpa using h16
      have h18 := (h17.perm perm3).perm (List.Perm.append_left _ perm3)
      have h19 := h18.perm perm3
      simpa using h19
    have n91 : (b91, wnO (W.1.cells va)) ∈ (b99, wnO (W.1.cells vb)) :: Sb ++ ((b91, wnO (W.1.cells va)) :: Sa) := List.mem_append_right _ (.head _)
    have n99 : (b99, wnO (W.1.cells vb)) ∈ (b99, wnO (W.1.cells vb)) :: Sb ++ ((b91, wnO (W.1.cells va)) :: Sa) := .head _
    have nSa : ∀ y, y ∈ Sa → y ∈ (b99, wnO (W.1.cells vb)) :: Sb ++ ((b91, wnO (W.1.cells va)) :: Sa) := fun y hy => List.mem_append_right _ (.tail _ hy)
    have nSb : ∀ y, y ∈ Sb → y ∈ (b99, wnO (W.1.cells vb)) :: Sb ++ ((b91, wnO (W.1.cells va)) :: Sa) := fun y hy => List.mem_append_left _ (.tail _ hy)
    generalize (b99, wnO (W.1.cells vb)) :: Sb ++ ((b91, wnO (W.1.cells va)) :: Sa) = X2 at *
    have inX : ∀ {A C : Hp} {y}, y ∈ X2 → y ∈ A ++ (C ++ (X2 ++ R1)) := fun h => List.mem_append_right _ (List.mem_append_right _ (List.mem_append_left _ h))
    have inR : ∀ {A C : Hp} {y}, y ∈ R1 → y ∈ A ++ (C ++ (X2 ++ R1)) := fun h => List.mem_append_right _ (List.mem_append_right _ (List.mem_append_right _ h))
    refine pu_bneq (by kernel_rfl) ?_
    refine cnd_f (by simp) ?_
    refine ldn_here h16 (inX n91) (vs := W.1.cells va) rfl rfl ?_
    refine ldn_here h16 (inX n99) (vs := W.1.cells vb) rfl rfl ?_
    refine fsame_spec (hsa.mono fun y hy => inX (nSa y hy)) (hsb.mono fun y hy => inX (nSb y hy)) (by omega) h16 (fun w17 h17 => ?_)
    repeat (first | refine pu_not ?_ | refine pu_eql ?_ | refine pu_neq ?_ | refine pu_lss ?_ | refine pu_leq ?_ | refine pu_gtr ?_ | refine pu_geq ?_ | refine pu_add ?_ | refine pu_sub ?_ | refine pu_mul ?_ | refine pu_neg ?_ | refine fa_at ?_ | refine nl_ptr ?_ | refine ex20 ?_ | refine ex21 ?_ | refine ex30 ?_ | refine ex31 ?_ | refine ex32 ?_ | refine ln_rule ?_ | refine lnT_rule ?_ | refine pu_and ?_ | refine pu_or ?_ | refine pu_xor ?_ | refine pu_seq ?_ | refine pu_sne ?_)
    refine cnd_f (by simp) ?_
    refine fended_spec hsf hfr0 (inR hfB) (List.mem_append_left _ (.head _)) h17 ?_
    refine pu_beql (by kernel_rfl) ?_
    refine cnd_f (by by_cases hq : sf.frs = [] <;> simp [hq]) ?_
    -- both do
    have hat : (rgs zs)[(n : Int).toNat]? = some (vU zs[n]) := rgs_get hlt
    have toR : ∀ {A C : Hp} {w : World}, Ow B w (A ++ (C ++ (X2 ++ R1))) → Ow B w (X2 ++ R1) := fun h => ow_drop (ow_drop h)
    have inH : ∀ y, y ∈ H → y ∈ X2 ++ R1 := fun y hy => List.mem_append_right _ (hHB y hy)
    refine ⟨fun w => Ow B w (X2 ++ R1), toR h17.drew, ?_⟩
    refine sl_lds (fun w h => h) (hzs.mono inH) (by omega) hat ?_
    refine sl_lds (fun w h => h) (hzs.mono inH) (by omega) hat ?_
    have hlen1 : sf.es.length + 1 < 1000 := by rw [SK.es_len2]; omega
    have hlen2 : sg.es.length + 1 < 1000 := by rw [SK.es_len2, hfe]; omega
    refine do17_spec good hI hsf (fun y hy => List.mem_append_right _ (List.mem_append_right _ (hFB y hy))) hlen1 hfr0 (List.mem_append_right _ (List.mem_append_right _ hfB)) h17.drew (fun tf w18 q1 _ htf q3 q4 h18 => ⟨toR h18, ?_⟩)
    refine num17_spec h18 (fun w19 h19 => ⟨toR h19, ?_⟩)
    have h19 := h19.perm perm3
    refine do17_spec good hIg hsg (fun y hy => List.mem_append_right _ (List.mem_append_right _ (hFB y hy))) hlen2 hfr0 (List.mem_append_right _ (List.mem_append_right _ hgB)) h19 (fun tg w20 r1 _ htg r3 r4 h20 => ?_)
    rw [hfe, hre] at r3 r4 ⊢
    refine num17_spec h20 (fun w21 h21 => ⟨toR h21, ?_⟩)
    have h21 := h21.perm perm3
    have hfe' : tg.frs = tf.frs := by rw [r3, q3]
    have hre' : tg.res = tf.res := by rw [r4, q4]
    have hI' : Inv p tf.frs := by rw [q3]; exact hI.doF good hzl
    have hlen' : tf.frs.length ≤ n + 1 + 1 := by
      rw [q3]
      have := do_len (p := p) (fr := fr) (word := zs[n]) (l := sf.frs) (res := sf.res)
      omega
    rw [← q1] at hfB
    rw [← r1] at hgB
    refine ⟨fun w => Ow B w (X2 ++ R1), toR h21.drew, ?_⟩
    have h22 := h21.drew
    generalize hD : doF p fr zs[n] sf.frs sf.res = D at *
    repeat (first | refine pu_not ?_ | refine pu_eql ?_ | refine pu_neq ?_ | refine pu_lss ?_ | refine pu_leq ?_ | refine pu_gtr ?_ | refine pu_geq ?_ | refine pu_add ?_ | refine pu_sub ?_ | refine pu_mul ?_ | refine pu_neg ?_ | refine fa_at ?_ | refine nl_ptr ?_ | refine ex20 ?_ | refine ex21 ?_ | refine ex30 ?_ | refine ex31 ?_ | refine ex32 ?_ | refine ln_rule ?_ | refine lnT_rule ?_ | refine pu_and ?_ | refine pu_or ?_ | refine pu_xor ?_ | refine pu_seq ?_ | refine pu_sne ?_)
    refine cnd_f (by simp) ?_
    repeat (first | refine pu_not ?_ | refine pu_eql ?_ | refine pu_neq ?_ | refine pu_lss ?_ | refine pu_leq ?_ | refine pu_gtr ?_ | refine pu_geq ?_ | refine pu_add ?_ | refine pu_sub ?_ | refine pu_mul ?_ | refine pu_neg ?_ | refine fa_at ?_ | refine nl_ptr ?_ | refine ex20 ?_ | refine ex21 ?_ | refine ex30 ?_ | refine ex31 ?_ | refine ex32 ?_ | refine ln_rule ?_ | refine lnT_rule ?_ | refine pu_and ?_ | refine pu_or ?_ | refine pu_xor ?_ | refine pu_seq ?_ | refine pu_sne ?_)
    by_cases hemp : sf.frs = []
    · have e1 : decide (sf.frs ≠ []) = false := by simp [hemp]
      have hD1 : D.1 = 220 := by rw [← hD, hemp]; rfl
      rw [e1]
      refine cnd_f rfl ?_
      refine pu_bneq (by kernel_rfl) ?_
      refine cnd_f (by rw [hD1]; rfl) ?_
      refine cnd_f rfl ?_
      have h23 := h22
      have hrg := hI'.regs good
      refine fstack_spec htf hrg hfr0 (List.mem_append_right _ (List.mem_append_right _ hfB)) h23 (fun uf w24 _ u2 u3 huf h24 => ⟨toR (ow_drop h24), ?_⟩)
      have h25 : Ow B w24 (tg.hp p ++ (uf.hp p ++ (tf.hp p ++ (X2 ++ R1)))) := (h24.perm (List.Perm.append_left _ perm3)).perm perm3
      refine fstack_spec htg (by rw [hfe']; exact hrg) hfr0 (List.mem_append_right _ (List.mem_append_right _ (List.mem_append_right _ hgB))) h25 (fun ug w26 _ x2 x3 hug h26 => ⟨toR (A := tg.hp p ++ uf.hp p) (by have := ow_drop h26; simpa using this), ?_⟩)
      refine ssame_spec huf hug (by rw [u3]; exact hrg) (by rw [x3, hfe']; exact hrg) h26 (fun y hy => List.mem_append_right _ (List.mem_append_right _ (List.mem_append_left _ hy))) (fun y hy => List.mem_append_left _ hy) (fun y hy => List.mem_append_right _ (List.mem_append_right _ (List.mem_append_right _ (List.mem_append_right _ (List.mem_append_right _ (hFB y hy)))))) (fun y hy => List.mem_append_right _ (List.mem_append_right _ (List.mem_append_right _ (List.mem_append_right _ (List.mem_append_right _ (hFB y hy)))))) (fun w27 h27 => ⟨toR (A := tg.hp p ++ uf.hp p) (by have := ow_drop h27; simpa using this), ?_⟩)
      repeat (first | refine pu_not ?_ | refine pu_eql ?_ | refine pu_neq ?_ | refine pu_lss ?_ | refine pu_leq ?_ | refine pu_gtr ?_ | refine pu_geq ?_ | refine pu_add ?_ | refine pu_sub ?_ | refine pu_mul ?_ | refine pu_neg ?_ | refine fa_at ?_ | refine nl_ptr ?_ | refine ex20 ?_ | refine ex21 ?_ | refine ex30 ?_ | refine ex31 ?_ | refine ex32 ?_ | refine ln_rule ?_ | refine lnT_rule ?_ | refine pu_and ?_ | refine pu_or ?_ | refine pu_xor ?_ | refine pu_seq ?_ | refine pu_sne ?_)
      refine cnd_f (by rw [u2, x2, u3, x3, hfe', hre']; simp) ?_
      repeat (first | refine pu_not ?_ | refine pu_eql ?_ | refine pu_neq ?_ | refine pu_lss ?_ | refine pu_leq ?_ | refine pu_gtr ?_ | refine pu_geq ?_ | refine pu_add ?_ | refine pu_sub ?_ | refine pu_mul ?_ | refine pu_neg ?_ | refine fa_at ?_ | refine nl_ptr ?_ | refine ex20 ?_ | refine ex21 ?_ | refine ex30 ?_ | refine ex31 ?_ | refine ex32 ?_ | refine ln_rule ?_ | refine lnT_rule ?_ | refine pu_and ?_ | refine pu_or ?_ | refine pu_xor ?_ | refine pu_seq ?_ | refine pu_sne ?_)
      rw [wrap64_in (by omega) (by omega)]
      refine ⟨⟨n + 1, tf, tg, rfl, hlt, by rw [q1, hsfb], by rw [r1, hsgb], htf, htg, hfe', hre', hI', hlen', ?_⟩, by simp; omega⟩
      have h28 : Ow B w27 (tg.hp p ++ (uf.hp p ++ (tf.hp p ++ (X2 ++ R1)))) := ow_drop h27
      have h29 := h28.sub ((List.Sublist.refl _).append (List.sublist_append_right _ _))
      have h30 := h29.perm perm3
      exact h30.sub ((List.Sublist.refl _).append ((List.Sublist.refl _).append (List.sublist_append_right _ _)))
    · have e1 : decide (sf.frs ≠ []) = true := by simp [hemp]
      rw [e1]
      obtain ⟨t0, lo0, hfl⟩ := List.exists_cons_of_ne_nil hemp
      have hdt := do_top (p := p) (fr := fr) (word := zs[n]) (res := sf.res) (t := t0) (lo := lo0) good (by rw [← hfl]; exact hI) hfr.1
      have hWW : wantW fr t0.fn t0.pc (t0 :: lo0) (insF p t0) = W := by rw [← hW, hfl]; rfl
      rw [hWW, ← hfl, hD] at hdt
      refine cnd_t rfl ?_
      repeat (first | refine pu_not ?_ | refine pu_eql ?_ | refine pu_neq ?_ | refine pu_lss ?_ | refine pu_leq ?_ | refine pu_gtr ?_ | refine pu_geq ?_ | refine pu_add ?_ | refine pu_sub ?_ | refine pu_mul ?_ | refine pu_neg ?_ | refine fa_at ?_ | refine nl_ptr ?_ | refine ex20 ?_ | refine ex21 ?_ | refine ex30 ?_ | refine ex31 ?_ | refine ex32 ?_ | refine ln_rule ?_ | refine lnT_rule ?_ | refine pu_and ?_ | refine pu_or ?_ | refine pu_xor ?_ | refine pu_seq ?_ | refine pu_sne ?_)
      refine lds_here (fun w h => h) (List.mem_append_left _ n91) (v := vI W.1.kind) rfl ?_
      repeat (first | refine pu_not ?_ | refine pu_eql ?_ | refine pu_neq ?_ | refine pu_lss ?_ | refine pu_leq ?_ | refine pu_gtr ?_ | refine pu_geq ?_ | refine pu_add ?_ | refine pu_sub ?_ | refine pu_mul ?_ | refine pu_neg ?_ | refine fa_at ?_ | refine nl_ptr ?_ | refine ex20 ?_ | refine ex21 ?_ | refine ex30 ?_ | refine ex31 ?_ | refine ex32 ?_ | refine ln_rule ?_ | refine lnT_rule ?_ | refine pu_and ?_ | refine pu_or ?_ | refine pu_xor ?_ | refine pu_seq ?_ | refine pu_sne ?_)
      refine pu_bneq (by kernel_rfl) ?_
      have e2 : (D.1 == 0) = (W.1.kind != 14) := by
        by_cases h14 : W.1.kind = 14
        · rw [hdt.1 h14, h14]; rfl
        · rw [hdt.2.1 h14]
          simp [h14]
      refine cnd_f (by rw [e2]; simp) ?_
      refine cnd_t rfl ?_
      repeat (first | refine pu_not ?_ | refine pu_eql ?_ | refine pu_neq ?_ | refine pu_lss ?_ | refine pu_leq ?_ | refine pu_gtr ?_ | refine pu_geq ?_ | refine pu_add ?_ | refine pu_sub ?_ | refine pu_mul ?_ | refine pu_neg ?_ | refine fa_at ?_ | refine nl_ptr ?_ | refine ex20 ?_ | refine ex21 ?_ | refine ex30 ?_ | refine ex31 ?_ | refine ex32 ?_ | refine ln_rule ?_ | refine lnT_rule ?_ | refine pu_and ?_ | refine pu_or ?_ | refine pu_xor ?_ | refine pu_seq ?_ | refine pu_sne ?_)
      refine lds_here (fun w h => h) (List.mem_append_left _ n91) (v := vI W.1.kind) rfl ?_
      repeat (first | refine pu_not ?_ | refine pu_eql ?_ | refine pu_neq ?_ | refine pu_lss ?_ | refine pu_leq ?_ | refine pu_gtr ?_ | refine pu_geq ?_ | refine pu_add ?_ | refine pu_sub ?_ | refine pu_mul ?_ | refine pu_neg ?_ | refine fa_at ?_ | refine nl_ptr ?_ | refine ex20 ?_ | refine ex21 ?_ | refine ex30 ?_ | refine ex31 ?_ | refine ex32 ?_ | refine ln_rule ?_ | refine lnT_rule ?_ | refine pu_and ?_ | refine pu_or ?_ | refine pu_xor ?_ | refine pu_seq ?_ | refine pu_sne ?_)
      refine fended_spec htf hfr0 (inR hfB) (List.mem_append_left _ (.head _)) h22 ⟨toR h22, ?_⟩
      refine pu_bneq (by kernel_rfl) ?_
      have e3 : (W.1.kind == 13) = decide (tf.frs = []) := by
        rw [ibeq, q3]
        exact decide_eq_decide.2 hdt.2.2
      refine cnd_f (by rw [e3]; simp) ?_
      have h23 := h22
      have hrg := hI'.regs good
      refine fstack_spec htf hrg hfr0 (List.mem_append_right _ (List.mem_append_right _ hfB)) h23 (fun uf w24 _ u2 u3 huf h24 => ⟨toR (ow_drop h24), ?_⟩)
      have h25 : Ow B w24 (tg.hp p ++ (uf.hp p ++ (tf.hp p ++ (X2 ++ R1)))) := (h24.perm (List.Perm.append_left _ perm3)).perm perm3
      refine fstack_spec htg (by rw [hfe']; exact hrg) hfr0 (List.mem_append_right _ (List.mem_append_right _ (List.mem_append_right _ hgB))) h25 (fun ug w26 _ x2 x3 hug h26 => ⟨toR (A := tg.hp p ++ uf.hp p) (by have := ow_drop h26; simpa using this), ?_⟩)
      refine ssame_spec huf hug (by rw [u3]; exact hrg) (by rw [x3, hfe']; exact hrg) h26 (fun y hy => List.mem_append_right _ (List.mem_append_right _ (List.mem_append_left _ hy))) (fun y hy => List.mem_append_left _ hy) (fun y hy => List.mem_append_right _ (List.mem_append_right _ (List.mem_append_right _ (List.mem_append_right _ (List.mem_append_right _ (hFB y hy)))))) (fun y hy => List.mem_append_right _ (List.mem_append_right _ (List.mem_append_right _ (List.mem_append_right _ (List.mem_append_right _ (hFB y hy)))))) (fun w27 h27 => ⟨toR (A := tg.hp p ++ uf.hp p) (by have := ow_drop h27; simpa using this), ?_⟩)
      repeat (first | refine pu_not ?_ | refine pu_eql ?_ | refine pu_neq ?_ | refine pu_lss ?_ | refine pu_leq ?_ | refine pu_gtr ?_ | refine pu_geq ?_ | refine pu_add ?_ | refine pu_sub ?_ | refine pu_mul ?_ | refine pu_neg ?_ | refine fa_at ?_ | refine nl_ptr ?_ | refine ex20 ?_ | refine ex21 ?_ | refine ex30 ?_ | refine ex31 ?_ | refine ex32 ?_ | refine ln_rule ?_ | refine lnT_rule ?_ | refine pu_and ?_ | refine pu_or ?_ | refine pu_xor ?_ | refine pu_seq ?_ | refine pu_sne ?_)
      refine cnd_f (by rw [u2, x2, u3, x3, hfe', hre']; simp) ?_
      repeat (first | refine pu_not ?_ | refine pu_eql ?_ | refine pu_neq ?_ | refine pu_lss ?_ | refine pu_leq ?_ | refine pu_gtr ?_ | refine pu_geq ?_ | refine pu_add ?_ | refine pu_sub ?_ | refine pu_mul ?_ | refine pu_neg ?_ | refine fa_at ?_ | refine nl_ptr ?_ | refine ex20 ?_ | refine ex21 ?_ | refine ex30 ?_ | refine ex31 ?_ | refine ex32 ?_ | refine ln_rule ?_ | refine lnT_rule ?_ | refine pu_and ?_ | refine pu_or ?_ | refine pu_xor ?_ | refine pu_seq ?_ | refine pu_sne ?_)
      rw [wrap64_in (by omega) (by omega)]
      refine ⟨⟨n + 1, tf, tg, rfl, hlt, by rw [q1, hsfb], by rw [r1, hsgb], htf, htg, hfe', hre', hI', hlen', ?_⟩, by simp; omega⟩
      have h28 : Ow B w27 (tg.hp p ++ (uf.hp p ++ (tf.hp p ++ (X2 ++ R1)))) := ow_drop h27
      have h29 := h28.sub ((List.Sublist.refl _).append (List.sublist_append_right _ _))
      have h30 := h29.perm perm3
      exact h30.sub ((List.Sublist.refl _).append ((List.Sublist.refl _).append (List.sublist_append_right _ _)))
end
end Go.Proofs.YtkkkcafkepnecaaGreat

