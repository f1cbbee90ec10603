/- Stacks: the top frame; local instructions that stay in it. -/
import Derived.Test.YtkkkcafkepnecaaGreatVsD
set_option linter.unusedVariables false
set_option linter.unusedSimpArgs false
namespace Go.Proofs.YtkkkcafkepnecaaGreat
open Go Go.RowKit Vc Ar
attribute [local irreducible] binV Op.unary convert nlW faW ldS ldW ixS ixA ixV ixT exW lnS lnT pu stW alW opW opU bsW mkW

section
variable {B w : World} {H X F Q : Hp} {K : Value → World → Prop} {PK : List PanicEntry → World → Prop} {KK : Value → Prop} {e : Int} {b n cap g : Nat} {c pre post : List Value} {t : FE} {i : Ins}
abbrev frO (pre r post : List Value) : Obj := cel (pre ++ (r ++ post)) T.t_api_Frame
/-- A stack, its frames, the top's registers, and what lies behind. -/
abbrev VH (b g : Nat) (c pre post : List Value) (t : FE) (Q : Hp) : Hp := (b, stO c) :: (g, frO pre t.row post) :: (t.S ++ Q)
/-- How the stack's cells tell of its top. -/
structure Vw (c pre : List Value) (g n cap : Nat) : Prop where
  c4 : c[4]? = some (.slice (some ⟨g, 0, none⟩) (n + 1) cap)
  c6 : c[6]? = some (vB true)
  pl : pre.length = n * 4
  hn : n < 1000000
theorem row_at {pre r post : List Value} {n j : Nat} {v : Value} (hp : pre.length = n * 4) (hj : r[j]? = some v) : (pre ++ (r ++ post))[n * 4 + j]? = some v := by
  have hl := (List.getElem?_eq_some_iff.1 hj).1
  rw [List.getElem?_append_right (by omega), hp, Nat.add_sub_cancel_left, List.getElem?_append_left hl]
  exact hj
theorem row_set {pre r post : List Value} {n j : Nat} {v : Value} (hp : pre.length = n * 4) (hj : j < r.length) : (pre ++ (r ++ post)).set (n * 4 + j) v = pre ++ (r.set j v ++ post) := by
  rw [List.set_append_right _ _ (by omega), hp, Nat.add_sub_cancel_left, List.set_append_left _ _ hj]
theorem vtop {A : Hp} (hv : Vw c pre g n cap) (h : Ow B w (A ++ VH b g c pre post t Q)) (k : ∀ w', Ow B w' (A ++ VH b g c pre post t Q) → K (ptr g (n * 4)) w') : callW PG N.stack_Stack_top [ptr b] K PK w :=
  top_at h (List.mem_append_right _ (.head _)) hv.c6 hv.c4 hv.hn k
theorem vtop1 {o : Nat × Obj} (hv : Vw c pre g n cap) (h : Ow B w (o :: VH b g c pre post t Q)) (k : ∀ w', Ow B w' (o :: VH b g c pre post t Q) → K (ptr g (n * 4)) w') : callW PG N.stack_Stack_top [ptr b] K PK w :=
  vtop (A := [o]) hv h k
theorem mem_g {o : Nat × Obj} : (g, frO pre t.row post) ∈ o :: VH b g c pre post t Q := .tail _ (.tail _ (.head _))
theorem mem_S {o : Nat × Obj} : ∀ x, x ∈ t.S → x ∈ o :: VH b g c pre post t Q := fun x hx => .tail _ (.tail _ (.tail _ (List.mem_append_left _ hx)))
theorem rgs_at {l : List Int} {x : Int} (h0 : 0 ≤ x) (h1 : x < l.length) : (rgs l)[x.toNat]? = some (vU (l.getD x.toNat 0)) := by
  have : x.toNat < l.length := by omega
  simp [List.getD, this]
theorem t_len (ho : t.ok) : ∃ a cc, t.c = .slice a t.m.regs.length cc := Vc.Own.len ho
theorem row3 : t.row[3]? = some t.c := rfl
theorem regs_ln (ho : t.ok) (k : KK (vI t.m.regs.length)) : lnS t.c KK := by
  obtain ⟨a, cc, he⟩ := t_len ho
  rw [he]; exact ln_rule k
theorem regs_rd (ho : t.ok) {Qw : World → Prop} {HH : Hp} (hq : ∀ w, Qw w → Ow B w HH) (hS : ∀ x, x ∈ t.S → x ∈ HH) {x : Int} (h0 : 0 ≤ x) (h1 : x < t.m.regs.length) (k : KK (vU (t.m.regs.getD x.toNat 0))) : ixS 1 t.c (vI x) fun p => ldS none p Qw KK :=
  sl_lds hq (Sl.mono (Vc.Own.sl ho) hS) h0 (rgs_at h0 h1) k
theorem regs_rdw (ho : t.ok) {HH : Hp} (h : Ow B w HH) (hS : ∀ x, x ∈ t.S → x ∈ HH) {x : Int} (h0 : 0 ≤ x) (h1 : x < t.m.regs.length) (k : KK (vU (t.m.regs.getD x.toNat 0))) : ixS 1 t.c (vI x) fun p => ldW none p w KK :=
  sl_ld h (Sl.mono (Vc.Own.sl ho) hS) h0 (rgs_at h0 h1) k
/-- A register of the top is written. -/
theorem regs_st {KU : World → Prop} {A C : Hp} (ho : t.ok) (h : Ow B w (A ++ t.S ++ C)) {x y : Int} (h0 : 0 ≤ x) (h1 : x < t.m.regs.length)
    (k : ∀ S' w', ({ S := S', c := t.c, m := { t.m with regs := t.m.regs.set x.toNat y } } : FE).ok → Ow B w' (A ++ S' ++ C) → KU w') : ixS 1 t.c (vI x) fun p => stW 1 p (vU y) KU w := by
  refine own_set h ho h0 h1 rfl rfl (fun S' w' h' ho' => k S' w' ?_ h')
  unfold FE.ok
  have : (rgs t.m.regs).set x.toNat (vU y) = rgs (t.m.regs.set x.toNat y) := by rw [rgs, rgs, List.map_set]
  rw [this] at ho'
  simpa using ho'
abbrev regR (r : List Int) (x : Int) : Int := r.getD x.toNat 0
/-- The top with other registers. -/
abbrev FE.setR (t : FE) (S : Hp) (x y : Int) : FE := { S := S, c := t.c, m := { t.m with regs := t.m.regs.set x.toNat y } }
theorem consts_spec (hv : Vw c pre g n cap) (ho : t.ok) (h0 : 0 ≤ i.a) (h1 : i.a < t.m.regs.length) (h : Ow B w (VH b g c pre post t Q))
    (k : ∀ S' w', (t.setR S' i.a i.imm).ok → Ow B w' (VH b g c pre post (t.setR S' i.a i.imm) Q) → K (.tuple #[]) w') : callW PG N.stack_Stack_consts [ptr b, .agg i.cells.toArray] K PK w := by
  refine stack_Stack_consts.ok ?_
  unfold stack_Stack_consts.C
  refine al_rule h (l := i.cells) rfl (fun bi w1 h1' => ?_)
  refine ⟨fun w => Ow B w ((bi, iO i) :: VH b g c pre post t Q), h1'.drew, ?_⟩
  repeat (first | refine pu_not ?_ | refine pu_eql ?_ | refine pu_neq ?_ | refine pu_lss ?_ | refine pu_leq ?_ | refine pu_gtr ?_ | refine pu_geq ?_ | refine pu_add ?_ | refine pu_sub ?_ | refine pu_mul ?_ | refine pu_neg ?_ | refine fa_at ?_ | refine nl_ptr ?_ | refine ex20 ?_ | refine ex21 ?_ | refine ex30 ?_ | refine ex31 ?_ | refine ex32 ?_ | refine ln_rule ?_ | refine lnT_rule ?_ | refine pu_and ?_ | refine pu_or ?_ | refine pu_xor ?_ | refine pu_seq ?_ | refine pu_sne ?_)
  refine lds_here (fun w h => h) (.head _) (v := vI i.a) rfl ?_
  repeat (first | refine pu_not ?_ | refine pu_eql ?_ | refine pu_neq ?_ | refine pu_lss ?_ | refine pu_leq ?_ | refine pu_gtr ?_ | refine pu_geq ?_ | refine pu_add ?_ | refine pu_sub ?_ | refine pu_mul ?_ | refine pu_neg ?_ | refine fa_at ?_ | refine nl_ptr ?_ | refine ex20 ?_ | refine ex21 ?_ | refine ex30 ?_ | refine ex31 ?_ | refine ex32 ?_ | refine ln_rule ?_ | refine lnT_rule ?_ | refine pu_and ?_ | refine pu_or ?_ | refine pu_xor ?_ | refine pu_seq ?_ | refine pu_sne ?_)
  refine lds_here (fun w h => h) (.head _) (v := vU i.imm) rfl ?_
  refine vtop1 hv h1'.drew (fun w2 h2 => ⟨h2, ?_⟩)
  repeat (first | refine pu_not ?_ | refine pu_eql ?_ | refine pu_neq ?_ | refine pu_lss ?_ | refine pu_leq ?_ | refine pu_gtr ?_ | refine pu_geq ?_ | refine pu_add ?_ | refine pu_sub ?_ | refine pu_mul ?_ | refine pu_neg ?_ | refine fa_at ?_ | refine nl_ptr ?_ | refine ex20 ?_ | refine ex21 ?_ | refine ex30 ?_ | refine ex31 ?_ | refine ex32 ?_ | refine ln_rule ?_ | refine lnT_rule ?_ | refine pu_and ?_ | refine pu_or ?_ | refine pu_xor ?_ | refine pu_seq ?_ | refine pu_sne ?_)
  refine lds_here (fun w h => h) mem_g (row_at hv.pl row3) ?_
  refine regs_st (A := [_, _, _]) (C := Q) ho (by simpa using h2) h0 h1 (fun S' w3 ho3 h3 => ?_)
  exact k S' w3 ho3 (Ow.drop (p := (bi, iO i)) h3)
theorem moves_spec (hv : Vw c pre g n cap) (ho : t.ok) (h0 : 0 ≤ i.a) (h1 : i.a < t.m.regs.length) (hb0 : 0 ≤ i.b) (hb1 : i.b < t.m.regs.length) (h : Ow B w (VH b g c pre post t Q))
    (k : ∀ S' w', (t.setR S' i.a (regR t.m.regs i.b)).ok → Ow B w' (VH b g c pre post (t.setR S' i.a (regR t.m.regs i.b)) Q) → K (.tuple #[]) w') : callW PG N.stack_Stack_moves [ptr b, .agg i.cells.toArray] K PK w := by
  refine stack_Stack_moves.ok ?_
  unfold stack_Stack_moves.C
  refine al_rule h (l := i.cells) rfl (fun bi w1 h1' => ?_)
  refine ⟨fun w => Ow B w ((bi, iO i) :: VH b g c pre post t Q), h1'.drew, ?_⟩
  repeat (first | refine pu_not ?_ | refine pu_eql ?_ | refine pu_neq ?_ | refine pu_lss ?_ | refine pu_leq ?_ | refine pu_gtr ?_ | refine pu_geq ?_ | refine pu_add ?_ | refine pu_sub ?_ | refine pu_mul ?_ | refine pu_neg ?_ | refine fa_at ?_ | refine nl_ptr ?_ | refine ex20 ?_ | refine ex21 ?_ | refine ex30 ?_ | refine ex31 ?_ | refine ex32 ?_ | refine ln_rule ?_ | refine lnT_rule ?_ | refine pu_and ?_ | refine pu_or ?_ | refine pu_xor ?_ | refine pu_seq ?_ | refine pu_sne ?_)
  refine lds_here (fun w h => h) (.head _) (v := vI i.a) rfl ?_
  repeat (first | refine pu_not ?_ | refine pu_eql ?_ | refine pu_neq ?_ | refine pu_lss ?_ | refine pu_leq ?_ | refine pu_gtr ?_ | refine pu_geq ?_ | refine pu_add ?_ | refine pu_sub ?_ | refine pu_mul ?_ | refine pu_neg ?_ | refine fa_at ?_ | refine nl_ptr ?_ | refine ex20 ?_ | refine ex21 ?_ | refine ex30 ?_ | refine ex31 ?_ | refine ex32 ?_ | refine ln_rule ?_ | refine lnT_rule ?_ | refine pu_and ?_ | refine pu_or ?_ | refine pu_xor ?_ | refine pu_seq ?_ | refine pu_sne ?_)
  refine lds_here (fun w h => h) (.head _) (v := vI i.b) rfl ?_
  refine vtop1 hv h1'.drew (fun w2 h2 => ⟨h2, ?_⟩)
  repeat (first | refine pu_not ?_ | refine pu_eql ?_ | refine pu_neq ?_ | refine pu_lss ?_ | refine pu_leq ?_ | refine pu_gtr ?_ | refine pu_geq ?_ | refine pu_add ?_ | refine pu_sub ?_ | refine pu_mul ?_ | refine pu_neg ?_ | refine fa_at ?_ | refine nl_ptr ?_ | refine ex20 ?_ | refine ex21 ?_ | refine ex30 ?_ | refine ex31 ?_ | refine ex32 ?_ | refine ln_rule ?_ | refine lnT_rule ?_ | refine pu_and ?_ | refine pu_or ?_ | refine pu_xor ?_ | refine pu_seq ?_ | refine pu_sne ?_)
  refine lds_here (fun w h => h) mem_g (row_at hv.pl row3) ?_
  refine vtop1 hv h2 (fun w3 h3 => ⟨h3, ?_⟩)
  repeat (first | refine pu_not ?_ | refine pu_eql ?_ | refine pu_neq ?_ | refine pu_lss ?_ | refine pu_leq ?_ | refine pu_gtr ?_ | refine pu_geq ?_ | refine pu_add ?_ | refine pu_sub ?_ | refine pu_mul ?_ | refine pu_neg ?_ | refine fa_at ?_ | refine nl_ptr ?_ | refine ex20 ?_ | refine ex21 ?_ | refine ex30 ?_ | refine ex31 ?_ | refine ex32 ?_ | refine ln_rule ?_ | refine lnT_rule ?_ | refine pu_and ?_ | refine pu_or ?_ | refine pu_xor ?_ | refine pu_seq ?_ | refine pu_sne ?_)
  refine lds_here (fun w h => h) mem_g (row_at hv.pl row3) ?_
  refine regs_rd ho (fun w h => h) mem_S hb0 hb1 ?_
  refine regs_st (A := [_, _, _]) (C := Q) ho (by simpa using h3) h0 h1 (fun S' w4 ho4 h4 => ?_)
  exact k S' w4 ho4 (Ow.drop (p := (bi, iO i)) h4)
def AllU (l : List Int) : Prop := ∀ x ∈ l, IsU x
theorem AllU.reg {l : List Int} (h : AllU l) (x : Int) : IsU (regR l x) := by
  unfold regR
  rw [List.getD]
  cases hx : l[x.toNat]? with
  | none => exact ⟨by simp, by simp⟩
  | some y => exact h y (List.mem_of_getElem? hx)
theorem ariths_spec (hv : Vw c pre g n cap) (ho : t.ok) (hu : AllU t.m.regs) (him : 0 ≤ i.imm ∧ i.imm < 4294967296) (h0 : 0 ≤ i.a) (h1 : i.a < t.m.regs.length) (hb0 : 0 ≤ i.b) (hb1 : i.b < t.m.regs.length) (hc0 : 0 ≤ i.c) (hc1 : i.c < t.m.regs.length) (h : Ow B w (VH b g c pre post t Q))
    (k : ∀ S' w', (t.setR S' i.a (aDo i.imm (regR t.m.regs i.b) (regR t.m.regs i.c)).1).ok → Ow B w' (VH b g c pre post (t.setR S' i.a (aDo i.imm (regR t.m.regs i.b) (regR t.m.regs i.c)).1) Q) → K (.tuple #[]) w') : callW PG N.stack_Stack_ariths [ptr b, .agg i.cells.toArray] K PK w := by
  refine stack_Stack_ariths.ok ?_
  unfold stack_Stack_ariths.C
  refine al_rule h (l := i.cells) rfl (fun bi w1 h1' => ?_)
  refine vtop1 hv h1' (fun w2 h2 => ?_)
  repeat (first | refine pu_not ?_ | refine pu_eql ?_ | refine pu_neq ?_ | refine pu_lss ?_ | refine pu_leq ?_ | refine pu_gtr ?_ | refine pu_geq ?_ | refine pu_add ?_ | refine pu_sub ?_ | refine pu_mul ?_ | refine pu_neg ?_ | refine fa_at ?_ | refine nl_ptr ?_ | refine ex20 ?_ | refine ex21 ?_ | refine ex30 ?_ | refine ex31 ?_ | refine ex32 ?_ | refine ln_rule ?_ | refine lnT_rule ?_ | refine pu_and ?_ | refine pu_or ?_ | refine pu_xor ?_ | refine pu_seq ?_ | refine pu_sne ?_)
  refine ld_here h2 mem_g (row_at hv.pl row3) ?_
  refine ⟨fun w => Ow B w ((bi, iO i) :: VH b g c pre post t Q), h2.drew, ?_⟩
  repeat (first | refine pu_not ?_ | refine pu_eql ?_ | refine pu_neq ?_ | refine pu_lss ?_ | refine pu_leq ?_ | refine pu_gtr ?_ | refine pu_geq ?_ | refine pu_add ?_ | refine pu_sub ?_ | refine pu_mul ?_ | refine pu_neg ?_ | refine fa_at ?_ | refine nl_ptr ?_ | refine ex20 ?_ | refine ex21 ?_ | refine ex30 ?_ | refine ex31 ?_ | refine ex32 ?_ | refine ln_rule ?_ | refine lnT_rule ?_ | refine pu_and ?_ | refine pu_or ?_ | refine pu_xor ?_ | refine pu_seq ?_ | refine pu_sne ?_)
  refine lds_here (fun w h => h) (.head _) (v := vI i.a) rfl ?_
  repeat (first | refine pu_not ?_ | refine pu_eql ?_ | refine pu_neq ?_ | refine pu_lss ?_ | refine pu_leq ?_ | refine pu_gtr ?_ | refine pu_geq ?_ | refine pu_add ?_ | refine pu_sub ?_ | refine pu_mul ?_ | refine pu_neg ?_ | refine fa_at ?_ | refine nl_ptr ?_ | refine ex20 ?_ | refine ex21 ?_ | refine ex30 ?_ | refine ex31 ?_ | refine ex32 ?_ | refine ln_rule ?_ | refine lnT_rule ?_ | refine pu_and ?_ | refine pu_or ?_ | refine pu_xor ?_ | refine pu_seq ?_ | refine pu_sne ?_)
  refine lds_here (fun w h => h) (.head _) (v := vU i.imm) rfl ?_
  refine cvt (by kernel_rfl) (by kernel_rfl) (m := i.imm) (by rw [wrap64_in (by omega) (by omega)]) ?_
  repeat (first | refine pu_not ?_ | refine pu_eql ?_ | refine pu_neq ?_ | refine pu_lss ?_ | refine pu_leq ?_ | refine pu_gtr ?_ | refine pu_geq ?_ | refine pu_add ?_ | refine pu_sub ?_ | refine pu_mul ?_ | refine pu_neg ?_ | refine fa_at ?_ | refine nl_ptr ?_ | refine ex20 ?_ | refine ex21 ?_ | refine ex30 ?_ | refine ex31 ?_ | refine ex32 ?_ | refine ln_rule ?_ | refine lnT_rule ?_ | refine pu_and ?_ | refine pu_or ?_ | refine pu_xor ?_ | refine pu_seq ?_ | refine pu_sne ?_)
  refine lds_here (fun w h => h) (.head _) (v := vI i.b) rfl ?_
  refine regs_rd ho (fun w h => h) mem_S hb0 hb1 ?_
  repeat (first | refine pu_not ?_ | refine pu_eql ?_ | refine pu_neq ?_ | refine pu_lss ?_ | refine pu_leq ?_ | refine pu_gtr ?_ | refine pu_geq ?_ | refine pu_add ?_ | refine pu_sub ?_ | refine pu_mul ?_ | refine pu_neg ?_ | refine fa_at ?_ | refine nl_ptr ?_ | refine ex20 ?_ | refine ex21 ?_ | refine ex30 ?_ | refine ex31 ?_ | refine ex32 ?_ | refine ln_rule ?_ | refine lnT_rule ?_ | refine pu_and ?_ | refine pu_or ?_ | refine pu_xor ?_ | refine pu_seq ?_ | refine pu_sne ?_)
  refine lds_here (fun w h => h) (.head _) (v := vI i.c) rfl ?_
  refine regs_rd ho (fun w h => h) mem_S hc0 hc1 ?_
  refine do_spec (hu.reg _) (hu.reg _) h2.drew (fun w3 h3 => ⟨h3, ?_⟩)
  repeat (first | refine pu_not ?_ | refine pu_eql ?_ | refine pu_neq ?_ | refine pu_lss ?_ | refine pu_leq ?_ | refine pu_gtr ?_ | refine pu_geq ?_ | refine pu_add ?_ | refine pu_sub ?_ | refine pu_mul ?_ | refine pu_neg ?_ | refine fa_at ?_ | refine nl_ptr ?_ | refine ex20 ?_ | refine ex21 ?_ | refine ex30 ?_ | refine ex31 ?_ | refine ex32 ?_ | refine ln_rule ?_ | refine lnT_rule ?_ | refine pu_and ?_ | refine pu_or ?_ | refine pu_xor ?_ | refine pu_seq ?_ | refine pu_sne ?_)
  refine regs_st (A := [_, _, _]) (C := Q) ho (by simpa using h3) h0 h1 (fun S' w4 ho4 h4 => ?_)
  exact k S' w4 ho4 (Ow.drop (p := (bi, iO i)) h4)
/-- The top at another place. -/
abbrev FE.setPc (t : FE) (pc : Nat) : FE := { t with m := { t.m with pc := pc } }
theorem setPc_row {t : FE} {pc : Nat} : t.row.set 1 (vI pc) = (t.setPc pc).row := rfl
theorem jumps_spec (hv : Vw c pre g n cap) (him : 0 ≤ i.imm ∧ i.imm < 4294967296) (h : Ow B w (VH b g c pre post t Q))
    (k : ∀ w', Ow B w' (VH b g c pre post (t.setPc i.imm.toNat) Q) → K (.tuple #[]) w') : callW PG N.stack_Stack_jumps [ptr b, .agg i.cells.toArray] K PK w := by
  refine stack_Stack_jumps.ok ?_
  unfold stack_Stack_jumps.C
  refine al_rule h (l := i.cells) rfl (fun bi w1 h1' => ?_)
  refine ⟨fun w => Ow B w ((bi, iO i) :: VH b g c pre post t Q), h1'.drew, ?_⟩
  repeat (first | refine pu_not ?_ | refine pu_eql ?_ | refine pu_neq ?_ | refine pu_lss ?_ | refine pu_leq ?_ | refine pu_gtr ?_ | refine pu_geq ?_ | refine pu_add ?_ | refine pu_sub ?_ | refine pu_mul ?_ | refine pu_neg ?_ | refine fa_at ?_ | refine nl_ptr ?_ | refine ex20 ?_ | refine ex21 ?_ | refine ex30 ?_ | refine ex31 ?_ | refine ex32 ?_ | refine ln_rule ?_ | refine lnT_rule ?_ | refine pu_and ?_ | refine pu_or ?_ | refine pu_xor ?_ | refine pu_seq ?_ | refine pu_sne ?_)
  refine lds_here (fun w h => h) (.head _) (v := vU i.imm) rfl ?_
  refine cvt (by kernel_rfl) und_int (m := i.imm) (by rw [wrap64_in (by omega) (by omega)]) ?_
  refine vtop1 hv h1'.drew (fun w2 h2 => ⟨h2, ?_⟩)
  repeat (first | refine pu_not ?_ | refine pu_eql ?_ | refine pu_neq ?_ | refine pu_lss ?_ | refine pu_leq ?_ | refine pu_gtr ?_ | refine pu_geq ?_ | refine pu_add ?_ | refine pu_sub ?_ | refine pu_mul ?_ | refine pu_neg ?_ | refine fa_at ?_ | refine nl_ptr ?_ | refine ex20 ?_ | refine ex21 ?_ | refine ex30 ?_ | refine ex31 ?_ | refine ex32 ?_ | refine ln_rule ?_ | refine lnT_rule ?_ | refine pu_and ?_ | refine pu_or ?_ | refine pu_xor ?_ | refine pu_seq ?_ | refine pu_sne ?_)
  have hl : n * 4 + 1 < (pre ++ (t.row ++ post)).length := by rw [List.length_append, hv.pl, List.length_append]; simp [FE.row, frow]; omega
  refine st1_here (A := [_, _]) h2 rfl rfl hl (fun w3 h3 => ?_)
  have e1 : (Value.int .i64 i.imm) = Value.int .i64 ((i.imm.toNat : Nat) : Int) := by rw [Int.toNat_of_nonneg him.1]
  rw [row_set hv.pl (by simp [FE.row, frow])] at h3
  rw [e1] at h3
  exact k w3 (Ow.drop (p := (bi, iO i)) h3)
theorem ifs_spec (hv : Vw c pre g n cap) (ho : t.ok) (him : 0 ≤ i.imm ∧ i.imm < 4294967296) (h0 : 0 ≤ i.a) (h1 : i.a < t.m.regs.length) (h : Ow B w (VH b g c pre post t Q))
    (k : ∀ w', Ow B w' (VH b g c pre post (if regR t.m.regs i.a = 0 then t else t.setPc i.imm.toNat) Q) → K (.tuple #[]) w') : callW PG N.stack_Stack_ifs [ptr b, .agg i.cells.toArray] K PK w := by
  refine stack_Stack_ifs.ok ?_
  unfold stack_Stack_ifs.C
  refine al_rule h (l := i.cells) rfl (fun bi w1 h1' => ?_)
  refine ⟨fun w => Ow B w ((bi, iO i) :: VH b g c pre post t Q), h1'.drew, ?_⟩
  repeat (first | refine pu_not ?_ | refine pu_eql ?_ | refine pu_neq ?_ | refine pu_lss ?_ | refine pu_leq ?_ | refine pu_gtr ?_ | refine pu_geq ?_ | refine pu_add ?_ | refine pu_sub ?_ | refine pu_mul ?_ | refine pu_neg ?_ | refine fa_at ?_ | refine nl_ptr ?_ | refine ex20 ?_ | refine ex21 ?_ | refine ex30 ?_ | refine ex31 ?_ | refine ex32 ?_ | refine ln_rule ?_ | refine lnT_rule ?_ | refine pu_and ?_ | refine pu_or ?_ | refine pu_xor ?_ | refine pu_seq ?_ | refine pu_sne ?_)
  refine lds_here (fun w h => h) (.head _) (v := vI i.a) rfl ?_
  refine vtop1 hv h1'.drew (fun w2 h2 => ⟨h2, ?_⟩)
  repeat (first | refine pu_not ?_ | refine pu_eql ?_ | refine pu_neq ?_ | refine pu_lss ?_ | refine pu_leq ?_ | refine pu_gtr ?_ | refine pu_geq ?_ | refine pu_add ?_ | refine pu_sub ?_ | refine pu_mul ?_ | refine pu_neg ?_ | refine fa_at ?_ | refine nl_ptr ?_ | refine ex20 ?_ | refine ex21 ?_ | refine ex30 ?_ | refine ex31 ?_ | refine ex32 ?_ | refine ln_rule ?_ | refine lnT_rule ?_ | refine pu_and ?_ | refine pu_or ?_ | refine pu_xor ?_ | refine pu_seq ?_ | refine pu_sne ?_)
  refine lds_here (fun w h => h) mem_g (row_at hv.pl row3) ?_
  refine regs_rd ho (fun w h => h) mem_S h0 h1 ?_
  repeat (first | refine pu_not ?_ | refine pu_eql ?_ | refine pu_neq ?_ | refine pu_lss ?_ | refine pu_leq ?_ | refine pu_gtr ?_ | refine pu_geq ?_ | refine pu_add ?_ | refine pu_sub ?_ | refine pu_mul ?_ | refine pu_neg ?_ | refine fa_at ?_ | refine nl_ptr ?_ | refine ex20 ?_ | refine ex21 ?_ | refine ex30 ?_ | refine ex31 ?_ | refine ex32 ?_ | refine ln_rule ?_ | refine lnT_rule ?_ | refine pu_and ?_ | refine pu_or ?_ | refine pu_xor ?_ | refine pu_seq ?_ | refine pu_sne ?_)
  refine cnd (fun hq => ?_) (fun hq => ?_)
  · rw [if_neg (by simpa using hq)] at k
    refine ldn_here h2 (.head _) (vs := i.cells) rfl rfl ?_
    have h2 : Ow B w2 (VH b g c pre post t (Q ++ [(bi, iO i)])) := h2.perm (by
      have := (List.perm_append_comm (l₁ := [(bi, iO i)]) (l₂ := VH b g c pre post t Q))
      simpa using this)
    refine jumps_spec hv him h2 (fun w3 h3 => ?_)
    refine k w3 (h3.sub (.cons_cons _ (.cons_cons _ ((List.Sublist.refl _).append (List.sublist_append_left _ _)))))
  · rw [if_pos (by simpa using hq)] at k
    exact k _ h2.drop
theorem yields_spec (h : Ow B w H) (k : ∀ w', Ow B w' H → K (.tuple #[]) w') : callW PG N.stack_Stack_yields [ptr b, .agg i.cells.toArray] K PK w := by
  refine stack_Stack_yields.ok ?_
  unfold stack_Stack_yields.C
  refine al_rule h (l := i.cells) rfl (fun bi w1 h1' => ?_)
  exact k _ h1'.drop
end
end Go.Proofs.YtkkkcafkepnecaaGreat
