/- What is handed out may lie in new memory: ranges over frames. -/
import Derived.Test.YtkkkcafkepnecaaGreatZE
import Derived.Test.YtkkkcafkepnecaaGreatZD
import Derived.Test.YtkkkcafkepnecaaGreatFD

set_option linter.unusedVariables false
set_option linter.unusedSimpArgs false
namespace Go.Proofs.YtkkkcafkepnecaaGreat.Vc
open Go Go.RowKit
section
variable {P : Program} {B w : World} {H : Hp}
/-- The function value g hands out m times something, the i-th such that T i. -/
def SeqX (P : Program) (B : World) (H : Hp) (g : Value) (m : Nat) (T : Nat → List Value → Hp → Prop) : Prop :=
  ∀ (y : Value) (J : Nat → Hp → Prop) (Z : Hp → Prop) (K : Value → World → Prop) (PK : List PanicEntry → World → Prop) (w : World) (X : Hp), isFnV y = true → Ow B w (X ++ H) → J 0 X →
    (∀ (i : Nat) (args : List Value) (X F : Hp) (K' : Value → World → Prop) (PK' : List PanicEntry → World → Prop) (w : World), i < m → T i args F → J i X → (∀ x, x ∈ H → x ∈ F) → Ow B w (X ++ F) →
      (∀ X' w', Ow B w' (X' ++ F) → J (i + 1) X' → K' (.bool true) w') → (∀ X' w', Ow B w' (X' ++ F) → Z X' → K' (.bool false) w') → callV P y args K' PK' w) →
    (∀ v X' w', Ow B w' (X' ++ H) → J m X' ∨ Z X' → K v w') → callF P g [y] K PK w
theorem SeqX.fn {f : FuncId} {first cap : Array Value} {m : Nat} {T : Nat → List Value → Hp → Prop} (hf : okFn P f = true)
    (h : ∀ (y : Value) (J : Nat → Hp → Prop) (Z : Hp → Prop) (K : Value → World → Prop) (PK : List PanicEntry → World → Prop) (w : World) (X : Hp), isFnV y = true → Ow B w (X ++ H) → J 0 X →
      (∀ (i : Nat) (args : List Value) (X F : Hp) (K' : Value → World → Prop) (PK' : List PanicEntry → World → Prop) (w : World), i < m → T i args F → J i X → (∀ x, x ∈ H → x ∈ F) → Ow B w (X ++ F) →
        (∀ X' w', Ow B w' (X' ++ F) → J (i + 1) X' → K' (.bool true) w') → (∀ X' w', Ow B w' (X' ++ F) → Z X' → K' (.bool false) w') → callV P y args K' PK' w) →
      (∀ v X' w', Ow B w' (X' ++ H) → J m X' ∨ Z X' → K v w') → callW P f (first.toList ++ [y] ++ cap.toList) K PK w) : SeqX P B H (.func (.func f) first cap) m T := by
  intro y J Z K PK w X hy hw j0 hr he
  exact ⟨f, first, cap, rfl, hf, h y J Z K PK w X hy hw j0 hr he⟩
variable {l : Nat} {r : Loop} {C : Hp} {XK : World → Prop} {R : Value → World → Prop}
variable {X : Hp} {n fuel : Nat} {lv : List (Nat × Value)} {ps : Array Tmp} {assign body : Code} {g : Value} {KN KR : D → World → Prop} {KE : List (Nat × (D → World → Prop))} {PK : List PanicEntry → D → World → Prop} {d : D}
  {A : Note} {m : Nat} {T : Nat → List Value → Hp → Prop}
theorem range_callX (hm : P.follows .mixedOrders = true) (hg : SeqX P B H g m T) (fn : FuncId) (tmps : Array Value) (r0 : Nat) (ht : tmps.size = n) (hlv : ∀ p ∈ lv, tmps[p.1]? = some p.2) (hps : ∀ i args F, T i args F → args.length = ps.size)
    (hw : Ow B w (X ++ H)) (J : Nat → Hp → Prop) (Z : Code → Hp → Prop) (j0 : J 0 X)
    (round : ∀ (l : Nat) (r : Loop) (i : Nat) (args : List Value) (X F : Hp) (R : Value → World → Prop) (w : World), r.defers = r0 → i < m → T i args F → J i X → (∀ x, x ∈ H → x ∈ F) → Ow B w ((l, recR r) :: (X ++ F)) →
      (∀ X' w', J (i + 1) X' → Ow B w' ((l, recR r) :: (X' ++ F)) → R (.bool true) w') → (∀ j X' w', Z j X' → Ow B w' ((l, recD r j) :: (X' ++ F)) → R (.bool false) w') →
      ∀ u : S, rndW P A n fuel l assign body (pset ps.toList args (ovrP lv u)) R w) {mk : D}
    (hend : ∀ X' w', J m X' → Ow B w' (X' ++ H) → KN mk w') (hZ : ∀ j X' w', Z j X' → Ow B w' (X' ++ H) → pend KN KR KE (some j) mk w') {PK0 : List PanicEntry → World → Prop} :
    callF P g [.func (.yield w.heap.size) #[] #[]]
      (fun _ w3 => ∃ r : Loop, w3.heap[w.heap.size]? = some (.loop r) ∧ r.state ≠ .busy ∧ pend KN KR KE r.pending mk (w3.putObj w.heap.size (.loop { r with state := .exhausted }))) PK0
      (w.alloc (.loop { state := .ready, pending := none, fn, tmps, params := ps, assign, body, defers := r0 })) := by
  refine hg _ (fun i Y => ∃ X, Y = (w.heap.size, recR { state := .ready, pending := none, fn, tmps, params := ps, assign, body, defers := r0 }) :: X ∧ J i X)
    (fun Y => ∃ j X, Y = (w.heap.size, recD { state := .ready, pending := none, fn, tmps, params := ps, assign, body, defers := r0 } j) :: X ∧ Z j X) _ _ _ _ rfl (hw.alloc _) ⟨X, rfl, j0⟩ ?_ ?_
  · rintro i args Y F K' PK' w1 hi hL ⟨X1, rfl, hj⟩ hF hw1 k1 k2
    refine yield_round (A := A) (fuel := fuel) hm (F := X1 ++ F) hw1 ht hlv (hps _ _ _ hL) fun u => ?_
    exact round _ _ i args X1 F K' w1 rfl hi hL hj hF hw1 (fun X' w' h1 h2 => k1 _ w' h2 ⟨X', rfl, h1⟩) (fun j X' w' h1 h2 => k2 _ w' h2 ⟨j, X', rfl, h1⟩) u
  · rintro v Y w1 hw1 hd
    rcases hd with ⟨X1, rfl, hj⟩ | ⟨j, X1, rfl, hz⟩
    · refine ⟨_, hw1.mem _ _ List.mem_cons_self, by simp, ?_⟩
      exact hend X1 _ hj ((hw1.put (A := []) (.loop { state := .exhausted, pending := none, fn, tmps, params := ps, assign, body, defers := r0 })).drop)
    · refine ⟨_, hw1.mem _ _ List.mem_cons_self, by simp, ?_⟩
      exact hZ j X1 _ hz ((hw1.put (A := []) (.loop { state := .exhausted, pending := some j, fn, tmps, params := ps, assign, body, defers := r0 })).drop)
/-- A range of a function's own. -/
theorem range_fnX (hm : P.follows .mixedOrders = true) (hg : SeqX P B H g m T) (hT : ∀ i args F F', (∀ x, x ∈ F → x ∈ F') → T i args F → T i args F') (hlv : ∀ p ∈ lv, p.1 < n) (hps : ∀ i args F, T i args F → args.length = ps.size)
    (hw : Ow B w (X ++ H)) (J : Nat → Hp → Prop) (Z : Code → Hp → Prop) (j0 : J 0 X)
    (round : ∀ (l : Nat) (r : Loop) (i : Nat) (args : List Value) (X F : Hp) (R : Value → World → Prop) (w : World), i < m → T i args F → J i X → (∀ x, x ∈ H → x ∈ F) → Ow B w ((l, recR r) :: (X ++ F)) →
      (∀ X' w', J (i + 1) X' → Ow B w' ((l, recR r) :: (X' ++ F)) → R (.bool true) w') → (∀ j X' w', Z j X' → Ow B w' ((l, recD r j) :: (X' ++ F)) → R (.bool false) w') →
      ∀ u : S, rndW P A n fuel l assign body (pset ps.toList args (ovrP lv u)) R w)
    (hend : ∀ b X' w', J m X' → Ow B w' ((b, .deferred (some [])) :: (X' ++ H)) → KN ({ target := .collected b, args := #[] } :: d) w')
    (hZ : ∀ b j X' w', Z j X' → Ow B w' ((b, .deferred (some [])) :: (X' ++ H)) → pend KN KR KE (some j) ({ target := .collected b, args := #[] } :: d) w') :
    RangeW P none n lv ps assign body g KN KR KE PK d w := by
  intro fn tmps ht hl
  refine ⟨_, _, _, ⟨rfl, rfl, rfl⟩, ?_⟩
  refine range_callX (X := (w.heap.size, .deferred (some [])) :: X) (A := A) (fuel := fuel) (lv := lv) hm hg fn tmps _ ht (fun p hp => hl p hp (hlv p hp)) hps (hw.alloc _)
    (fun i Y => ∃ X, Y = (w.heap.size, .deferred (some [])) :: X ∧ J i X) (fun j Y => ∃ X, Y = (w.heap.size, .deferred (some [])) :: X ∧ Z j X) ⟨X, rfl, j0⟩ ?_ ?_ ?_
  · rintro l r i args Y F R w1 _ hi hL ⟨X1, rfl, hj⟩ hF hw1 k1 k2 u
    have e : ∀ (Y : Hp) (o : Nat × Obj), (o :: ((w.heap.size, Obj.deferred (some [])) :: Y ++ F)).Perm (o :: (Y ++ (w.heap.size, Obj.deferred (some [])) :: F)) := fun Y o => (List.perm_middle.symm).cons o
    exact round l r i args X1 ((w.heap.size, .deferred (some [])) :: F) R w1 hi (hT _ _ _ _ (fun x hx => List.mem_cons_of_mem _ hx) hL) hj (fun x hx => List.mem_cons_of_mem _ (hF x hx)) (hw1.perm (e _ _))
      (fun X' w' h1 h2 => k1 _ w' ⟨X', rfl, h1⟩ (h2.perm (e _ _).symm)) (fun j X' w' h1 h2 => k2 j _ w' ⟨X', rfl, h1⟩ (h2.perm (e _ _).symm)) u
  · rintro Y w' ⟨X', rfl, hj⟩ hw'
    exact hend _ X' w' hj hw'
  · rintro j Y w' ⟨X', rfl, hz⟩ hw'
    exact hZ _ j X' w' hz hw'
end
end Go.Proofs.YtkkkcafkepnecaaGreat.Vc
namespace Go.Proofs.YtkkkcafkepnecaaGreat
open Go Go.RowKit Vc Ar
attribute [local irreducible] binV Op.unary convert nlW faW ldS ldW ixS ixA ixV ixT exW lnS lnT pu stW alW opW opU bsW mkW

section
variable {B w : World} {H X F Q R : Hp} {K : Value → World → Prop} {PK : List PanicEntry → World → Prop} {KK : Value → Prop} {p : Pr} {s : SK} {sv : Value} {L : List (Value × Frm)}
/-- The rows, the last first. -/
def bwd (rows : List (List Value)) : List (List Value) := (List.range rows.length).map fun k => [vI (rows.length - 1 - k : Nat), .agg (rows.getD (rows.length - 1 - k) []).toArray]
theorem backward_seq {b : Nat} {rows : List (List Value)} (hb : (b, cel [sv] T.t_sl_api_Frame) ∈ H) (hs : Sls H sv 4 rows) (hl : rows.length ≤ 1000000) : Seq PG B H (fnc N.slices_Backward_sl_api_Frame_api_Frame_1 #[ptr b]) (bwd rows) := by
  refine Seq.fn slices_Backward_sl_api_Frame_api_Frame_1.okf ?_
  intro y J Z K PK w X hy hw j0 hr he
  refine slices_Backward_sl_api_Frame_api_Frame_1.ok ?_
  unfold slices_Backward_sl_api_Frame_api_Frame_1.C
  refine ld_here hw (List.mem_append_right _ hb) (v := sv) rfl ?_
  refine sls_ln hs ?_
  repeat (first | refine pu_not ?_ | refine pu_eql ?_ | refine pu_neq ?_ | refine pu_lss ?_ | refine pu_leq ?_ | refine pu_gtr ?_ | refine pu_geq ?_ | refine pu_add ?_ | refine pu_sub ?_ | refine pu_mul ?_ | refine pu_neg ?_ | refine fa_at ?_ | refine nl_ptr ?_ | refine ex20 ?_ | refine ex21 ?_ | refine ex30 ?_ | refine ex31 ?_ | refine ex32 ?_ | refine ln_rule ?_ | refine lnT_rule ?_ | refine pu_and ?_ | refine pu_or ?_ | refine pu_xor ?_ | refine pu_seq ?_ | refine pu_sne ?_)
  have hbl : (bwd rows).length = rows.length := by simp [bwd]
  have e0 : IntKind.i64.wrap ((rows.length : Int) - 1) = (rows.length : Int) - 1 - (0 : Nat) := by rw [wrap64_in (by omega) (by omega)]; omega
  rw [e0]
  refine ⟨fun l w => ∃ (k : Nat) (X : Hp), l = [vI ((rows.length : Int) - 1 - k)] ∧ k ≤ rows.length ∧ J k X ∧ Ow B w (X ++ H), fun l _ => match l with | [.int _ q] => (q + 1).toNat | _ => 0, ⟨0, X, rfl, Nat.zero_le _, j0, hw⟩, ?_⟩
  rintro l w2 ⟨k, X, rfl, hk, hj, h2⟩ j1
  repeat (first | refine pu_not ?_ | refine pu_eql ?_ | refine pu_neq ?_ | refine pu_lss ?_ | refine pu_leq ?_ | refine pu_gtr ?_ | refine pu_geq ?_ | refine pu_add ?_ | refine pu_sub ?_ | refine pu_mul ?_ | refine pu_neg ?_ | refine fa_at ?_ | refine nl_ptr ?_ | refine ex20 ?_ | refine ex21 ?_ | refine ex30 ?_ | refine ex31 ?_ | refine ex32 ?_ | refine ln_rule ?_ | refine lnT_rule ?_ | refine pu_and ?_ | refine pu_or ?_ | refine pu_xor ?_ | refine pu_seq ?_ | refine pu_sne ?_)
  refine cnd (fun hlt => ?_) (fun hlt => ?_)
  · have hlt : 0 ≤ (rows.length : Int) - 1 - k := by simpa using hlt
    have hlt' : k < rows.length := by omega
    refine ld_here h2 (List.mem_append_right _ hb) (v := sv) rfl ?_
    have hi : (rows.length : Int) - 1 - k = ((rows.length - 1 - k : Nat) : Int) := by omega
    have hg : rows[((rows.length : Int) - 1 - k).toNat]? = some (rows.getD (rows.length - 1 - k) []) := by
      have : ((rows.length : Int) - 1 - k).toNat = rows.length - 1 - k := by omega
      rw [this, List.getD_eq_getElem?_getD, List.getElem?_eq_getElem (by omega)]; rfl
    refine sls_ld h2 (hs.mono fun x hx => List.mem_append_right _ hx) hlt hg ?_
    have hat : (bwd rows)[k]? = some [vI ((rows.length : Int) - 1 - k), .agg (rows.getD (rows.length - 1 - k) []).toArray] := by
      rw [bwd, List.getElem?_map, List.getElem?_range hlt', hi]; rfl
    refine hr k _ X H _ _ w2 hat hj (fun x hx => hx) h2 (fun X' w9 h9 hj9 => ?_) (fun X' w9 h9 hz9 => ?_)
    · repeat (first | refine pu_not ?_ | refine pu_eql ?_ | refine pu_neq ?_ | refine pu_lss ?_ | refine pu_leq ?_ | refine pu_gtr ?_ | refine pu_geq ?_ | refine pu_add ?_ | refine pu_sub ?_ | refine pu_mul ?_ | refine pu_neg ?_ | refine fa_at ?_ | refine nl_ptr ?_ | refine ex20 ?_ | refine ex21 ?_ | refine ex30 ?_ | refine ex31 ?_ | refine ex32 ?_ | refine ln_rule ?_ | refine lnT_rule ?_ | refine pu_and ?_ | refine pu_or ?_ | refine pu_xor ?_ | refine pu_seq ?_ | refine pu_sne ?_)
      refine cnd_f rfl ?_
      repeat (first | refine pu_not ?_ | refine pu_eql ?_ | refine pu_neq ?_ | refine pu_lss ?_ | refine pu_leq ?_ | refine pu_gtr ?_ | refine pu_geq ?_ | refine pu_add ?_ | refine pu_sub ?_ | refine pu_mul ?_ | refine pu_neg ?_ | refine fa_at ?_ | refine nl_ptr ?_ | refine ex20 ?_ | refine ex21 ?_ | refine ex30 ?_ | refine ex31 ?_ | refine ex32 ?_ | refine ln_rule ?_ | refine lnT_rule ?_ | refine pu_and ?_ | refine pu_or ?_ | refine pu_xor ?_ | refine pu_seq ?_ | refine pu_sne ?_)
      rw [wrap64_in (by omega) (by omega)]
      have e1 : (rows.length : Int) - 1 - k - 1 = (rows.length : Int) - 1 - (k + 1 : Nat) := by omega
      rw [e1]
      refine ⟨⟨k + 1, X', rfl, hlt', hj9, h9⟩, by simp only []; omega⟩
    · repeat (first | refine pu_not ?_ | refine pu_eql ?_ | refine pu_neq ?_ | refine pu_lss ?_ | refine pu_leq ?_ | refine pu_gtr ?_ | refine pu_geq ?_ | refine pu_add ?_ | refine pu_sub ?_ | refine pu_mul ?_ | refine pu_neg ?_ | refine fa_at ?_ | refine nl_ptr ?_ | refine ex20 ?_ | refine ex21 ?_ | refine ex30 ?_ | refine ex31 ?_ | refine ex32 ?_ | refine ln_rule ?_ | refine lnT_rule ?_ | refine pu_and ?_ | refine pu_or ?_ | refine pu_xor ?_ | refine pu_seq ?_ | refine pu_sne ?_)
      refine cnd_t rfl ?_
      exact he _ X' w9 h9 (.inr hz9)
  · have hlt : ¬ 0 ≤ (rows.length : Int) - 1 - k := by simpa using hlt
    obtain rfl : k = rows.length := by omega
    refine he _ X w2 h2 (.inl ?_)
    rw [hbl]; exact hj
/-- What frames are told. -/
def frT (frs : List Frm) (i : Nat) (args : List Value) (F : Hp) : Prop := ∃ c m, args = [vI i, .agg (frow m c).toArray] ∧ frs[i]? = some m ∧ Sl F c (rgs m.regs)
theorem frT_mono {frs : List Frm} : ∀ i args F F', (∀ x, x ∈ F → x ∈ F') → frT frs i args F → frT frs i args F' := fun i args F F' hs ⟨c, m, h1, h2, h3⟩ => ⟨c, m, h1, h2, h3.mono hs⟩
set_option maxRecDepth 20000 in
theorem frames2_seq {b : Nat} (hb : (b, cel [sv] T.t_sl_api_Frame) ∈ H) (hs : Sls H sv 4 (lrows L)) (hc : ∀ q ∈ L, Sl H q.1 (rgs q.2.regs) ∧ q.2.regs.length ≤ 1000) (hl : L.length ≤ 1000) : SeqX PG B H (fnc N.stack_Stack_Frames_2 #[ptr b]) L.length (frT (L.map Prod.snd).reverse) := by
  refine SeqX.fn stack_Stack_Frames_2.okf ?_
  intro y J Z K PK w X hy hw j0 hr he
  refine stack_Stack_Frames_2.ok ?_
  unfold stack_Stack_Frames_2.C
  have hfl : (lrows L).length = L.length := by simp [lrows]
  refine al_rule hw (l := [y]) (fn_cells hy) (fun b2 w1 h1 => ?_)
  refine ld_here h1 (.tail _ (List.mem_append_right _ hb)) (v := sv) rfl ?_
  refine slices_Backward_sl_api_Frame_api_Frame.ok ?_
  unfold slices_Backward_sl_api_Frame_api_Frame.C
  obtain ⟨a0, cap0, hsv⟩ : ∃ a c, sv = .slice a (lrows L).length c := by obtain ⟨a, c, h, _⟩ := id hs; exact ⟨a, c, h⟩
  refine al_rule h1 (l := [sv]) (by rw [hsv]; rfl) (fun b4 w2 h2 => ?_)
  have h2 : Ow B w2 (X ++ ((b4, cel [sv] T.t_sl_api_Frame) :: (b2, cel [y] T.t_func_int_api_Frame_bool) :: H)) := by
    refine h2.perm ?_
    exact (List.perm_middle (l₁ := X) (l₂ := (b2, cel [y] T.t_func_int_api_Frame_bool) :: H) (a := (b4, cel [sv] T.t_sl_api_Frame))).trans ((List.perm_middle (l₁ := X)).cons _) |>.symm
  have hin : ∀ x, x ∈ H → x ∈ (b4, cel [sv] T.t_sl_api_Frame) :: (b2, cel [y] T.t_func_int_api_Frame_bool) :: H := fun x hx => .tail _ (.tail _ hx)
  have two : ∀ args ∈ bwd (lrows L), args.length = 2 := fun args ha => by
    obtain ⟨k, _, rfl⟩ := List.mem_map.1 ha; rfl
  refine range_fn (X := X) (H := (b4, cel [sv] T.t_sl_api_Frame) :: (b2, cel [y] T.t_func_int_api_Frame_bool) :: H) (A := stack_Stack_Frames_2.note) (fuel := 400) mixed
    (backward_seq (.head _) (hs.mono hin) (by omega)) (by simp) two h2 (fun k Y => J k Y) (fun j Y => j = .exit 0 ∧ Z Y) j0 ?_ ?_ ?_
  · rintro lp r k args Y F R w6 hL hj hF h6 k1 k2 u
    have hk : k < L.length := by
      have := (List.getElem?_eq_some_iff.1 hL).1
      simp only [bwd, List.length_map, List.length_range] at this
      omega
    obtain ⟨⟨c, m⟩, hq⟩ : ∃ q, L[L.length - 1 - k]? = some q := ⟨_, List.getElem?_eq_getElem (by omega)⟩
    have hargs : args = [vI (L.length - 1 - k : Nat), .agg (frow m c).toArray] := by
      rw [bwd, List.getElem?_map, List.getElem?_range (by omega), Option.map_some, Option.some.injEq] at hL
      rw [← hL, hfl]
      have : (lrows L).getD (L.length - 1 - k) [] = frow m c := by rw [List.getD_eq_getElem?_getD, lrows, List.getElem?_map, hq]; rfl
      rw [this]
    subst hargs
    obtain ⟨q1, q2⟩ := hc _ (List.mem_of_getElem? hq)
    have hfk : (L.map Prod.snd).reverse[k]? = some m := by
      rw [List.getElem?_reverse (by simpa using hk), List.length_map, List.getElem?_map, hq]; rfl
    refine Eq.mpr (stack_Stack_Frames_2.Rd0_eq lp R _ _ _ _ w6 u) ?_
    unfold stack_Stack_Frames_2.Rd0
    refine al_rule h6 (l := zfrm) (by kernel_rfl) (fun bx w7 h7 => ?_)
    refine st_here (A := []) h7 (frow m c) rfl rfl (fr_plain' m q1) (by simp) (fun w8 h8 => ?_)
    simp only [List.take_zero, List.nil_append, Nat.zero_add, List.drop_succ_cons, List.drop_zero, List.drop_nil, List.append_nil] at h8
    have h8 : Ow B w8 ((lp, recR r) :: (bx, cel (frow m c) T.t_api_Frame) :: (Y ++ F)) := h8.perm (.swap _ _ _)
    refine rbeg h8 (fun w9 h9 => ?_)
    have h9 : Ow B w9 (Y ++ ((lp, recB r) :: (bx, cel (frow m c) T.t_api_Frame) :: F)) := by
      refine h9.perm ?_
      exact ((List.perm_middle (l₁ := Y) (l₂ := (bx, cel (frow m c) T.t_api_Frame) :: F) (a := (lp, recB r))).trans ((List.perm_middle (l₁ := Y)).cons _)).symm
    have sub : ∀ {A : Hp} {w : World}, Ow B w (A ++ ((lp, recB r) :: (bx, cel (frow m c) T.t_api_Frame) :: F)) → Ow B w ((lp, recB r) :: (bx, cel (frow m c) T.t_api_Frame) :: F) := fun h => h.sub (List.sublist_append_right _ _)
    refine ⟨fun w => Ow B w ((lp, recB r) :: (bx, cel (frow m c) T.t_api_Frame) :: F), sub h9.drew, ?_⟩
    refine lds_here (fun w h => h) (.tail _ (.tail _ (hF _ (.tail _ (.head _))))) (v := y) rfl ?_
    refine lds_here (fun w h => h) (.tail _ (.tail _ (hF _ (hin _ hb)))) (v := sv) rfl ?_
    refine sls_ln hs ?_
    rw [hfl]
    repeat (first | refine pu_not ?_ | refine pu_eql ?_ | refine pu_neq ?_ | refine pu_lss ?_ | refine pu_leq ?_ | refine pu_gtr ?_ | refine pu_geq ?_ | refine pu_add ?_ | refine pu_sub ?_ | refine pu_mul ?_ | refine pu_neg ?_ | refine fa_at ?_ | refine nl_ptr ?_ | refine ex20 ?_ | refine ex21 ?_ | refine ex30 ?_ | refine ex31 ?_ | refine ex32 ?_ | refine ln_rule ?_ | refine lnT_rule ?_ | refine pu_and ?_ | refine pu_or ?_ | refine pu_xor ?_ | refine pu_seq ?_ | refine pu_sne ?_)
    have e1 : IntKind.i64.wrap (IntKind.i64.wrap ((L.length : Int) - 1) - ((L.length - 1 - k : Nat) : Int)) = (k : Int) := by
      rw [wrap64_in (n := (L.length : Int) - 1) (by omega) (by omega), wrap64_in (by omega) (by omega)]; omega
    rw [e1]
    refine ldsn_here (fun w h => h) (.tail _ (.head _)) (vs := frow m c) rfl rfl ?_
    refine cloned_spec (X := H) h9.drew q1 (fun x hx => List.mem_append_right _ (.tail _ (.tail _ (hF _ (hin x hx))))) q2 (fun S c' w10 h10 ho => ?_)
    have h10 : Ow B w10 (Y ++ (S ++ ((lp, recB r) :: (bx, cel (frow m c) T.t_api_Frame) :: F))) := h10.perm (List.perm_append_comm_assoc S Y _)
    refine ⟨sub (A := Y ++ S) (by simpa using h10), ?_⟩
    refine hr k _ Y (S ++ ((lp, recB r) :: (bx, cel (frow m c) T.t_api_Frame) :: F)) _ _ w10 hk ⟨c', m, rfl, hfk, (Vc.Own.sl ho).mono fun x hx => List.mem_append_left _ hx⟩ hj (fun x hx => List.mem_append_right _ (.tail _ (.tail _ (hF _ (hin x hx))))) h10 (fun X' w11 h11 hj11 => ?_) (fun X' w11 h11 hz11 => ?_)
    · refine ⟨sub (A := X' ++ S) (by simpa using h11), ?_⟩
      repeat (first | refine pu_not ?_ | refine pu_eql ?_ | refine pu_neq ?_ | refine pu_lss ?_ | refine pu_leq ?_ | refine pu_gtr ?_ | refine pu_geq ?_ | refine pu_add ?_ | refine pu_sub ?_ | refine pu_mul ?_ | refine pu_neg ?_ | refine fa_at ?_ | refine nl_ptr ?_ | refine ex20 ?_ | refine ex21 ?_ | refine ex30 ?_ | refine ex31 ?_ | refine ex32 ?_ | refine ln_rule ?_ | refine lnT_rule ?_ | refine pu_and ?_ | refine pu_or ?_ | refine pu_xor ?_ | refine pu_seq ?_ | refine pu_sne ?_)
      refine cnd_f rfl ?_
      have h11 : Ow B w11 ((lp, recB r) :: (X' ++ F)) := by
        have := h11.perm (List.Perm.append_left X' (List.perm_append_comm_assoc S [(lp, recB r), (bx, cel (frow m c) T.t_api_Frame)] F))
        have := this.sub ((List.Sublist.refl X').append ((List.Sublist.cons_cons _ (.cons _ (List.sublist_append_right S F)))))
        exact this.perm (List.perm_middle (l₁ := X'))
      refine rend_go h11 (fun w12 h12 => k1 X' w12 hj11 h12)
    · refine ⟨sub (A := X' ++ S) (by simpa using h11), ?_⟩
      repeat (first | refine pu_not ?_ | refine pu_eql ?_ | refine pu_neq ?_ | refine pu_lss ?_ | refine pu_leq ?_ | refine pu_gtr ?_ | refine pu_geq ?_ | refine pu_add ?_ | refine pu_sub ?_ | refine pu_mul ?_ | refine pu_neg ?_ | refine fa_at ?_ | refine nl_ptr ?_ | refine ex20 ?_ | refine ex21 ?_ | refine ex30 ?_ | refine ex31 ?_ | refine ex32 ?_ | refine ln_rule ?_ | refine lnT_rule ?_ | refine pu_and ?_ | refine pu_or ?_ | refine pu_xor ?_ | refine pu_seq ?_ | refine pu_sne ?_)
      refine cnd_t rfl ?_
      have h11 : Ow B w11 ((lp, recB r) :: (X' ++ F)) := by
        have := h11.perm (List.Perm.append_left X' (List.perm_append_comm_assoc S [(lp, recB r), (bx, cel (frow m c) T.t_api_Frame)] F))
        have := this.sub ((List.Sublist.refl X').append ((List.Sublist.cons_cons _ (.cons _ (List.sublist_append_right S F)))))
        exact this.perm (List.perm_middle (l₁ := X'))
      refine rend_stop h11 (fun w12 h12 => k2 (.exit 0) X' w12 ⟨rfl, hz11⟩ h12)
  · rintro mk Y w6 hj h6
    have hbl : (bwd (lrows L)).length = L.length := by simp [bwd, hfl]
    rw [hbl] at hj
    refine lv_ret h6 (fun w7 h7 => ?_)
    exact he _ Y w7 (h7.sub ((List.Sublist.refl Y).append (.cons _ (.cons _ (.refl _))))) (.inl hj)
  · rintro mk j Y w6 ⟨rfl, hz⟩ h6
    refine lv_ret h6 (fun w7 h7 => ?_)
    exact he _ Y w7 (h7.sub ((List.Sublist.refl Y).append (.cons _ (.cons _ (.refl _))))) (.inr hz)
theorem frames_none {s : Value} (h : Ow B w H) (hs : Nost H s) (k : ∀ b w', Ow B w' ((b, cel [.slice none 0 0] T.t_sl_api_Frame) :: H) → SeqX PG B [(b, cel [.slice none 0 0] T.t_sl_api_Frame)] (fnc N.stack_Stack_Frames_2 #[ptr b]) 0 (frT []) → K (fnc N.stack_Stack_Frames_2 #[ptr b]) w') : callW PG N.stack_Stack_Frames [s] K PK w := by
  refine stack_Stack_Frames.ok ?_
  unfold stack_Stack_Frames.C
  refine al_rule h (l := [.slice none 0 0]) (by kernel_rfl) (fun b1 w1 h1 => ?_)
  have hs2 : Nost ((b1, cel [.slice none 0 0] T.t_sl_api_Frame) :: H) s := by
    rcases hs with rfl | ⟨b, l, rfl, hm, h6⟩
    · exact .inl rfl
    · exact .inr ⟨b, l, rfl, .tail _ hm, h6⟩
  refine nost_spec h1 hs2 ?_
  repeat (first | refine pu_not ?_ | refine pu_eql ?_ | refine pu_neq ?_ | refine pu_lss ?_ | refine pu_leq ?_ | refine pu_gtr ?_ | refine pu_geq ?_ | refine pu_add ?_ | refine pu_sub ?_ | refine pu_mul ?_ | refine pu_neg ?_ | refine fa_at ?_ | refine nl_ptr ?_ | refine ex20 ?_ | refine ex21 ?_ | refine ex30 ?_ | refine ex31 ?_ | refine ex32 ?_ | refine ln_rule ?_ | refine lnT_rule ?_ | refine pu_and ?_ | refine pu_or ?_ | refine pu_xor ?_ | refine pu_seq ?_ | refine pu_sne ?_)
  refine cnd_f rfl ?_
  exact k b1 _ h1 (frames2_seq (L := []) (sv := .slice none 0 0) (.head _) ⟨none, 0, rfl, Nat.le_refl _, Nat.zero_le _, by simp [lrows], by simp [lrows]⟩ (by simp) (by simp))
theorem frames_spec (hs : s.ok p F) (hr : ∀ m ∈ s.frs, m.regs.length ≤ 1000) (h : Ow B w H) (hin : ∀ x, x ∈ s.hp p → x ∈ H) (k : ∀ g G w', SeqX PG B G g s.frs.length (frT s.frs) → isFnV g = true → Ow B w' (G ++ H) → K g w') : callW PG N.stack_Stack_Frames [ptr s.b] K PK w := by
  refine stack_Stack_Frames.ok ?_
  unfold stack_Stack_Frames.C
  refine al_rule h (l := [.slice none 0 0]) (by kernel_rfl) (fun b1 w1 h1 => ?_)
  refine sk_none h1 (.tail _ (hin _ (.head _))) ?_
  repeat (first | refine pu_not ?_ | refine pu_eql ?_ | refine pu_neq ?_ | refine pu_lss ?_ | refine pu_leq ?_ | refine pu_gtr ?_ | refine pu_geq ?_ | refine pu_add ?_ | refine pu_sub ?_ | refine pu_mul ?_ | refine pu_neg ?_ | refine fa_at ?_ | refine nl_ptr ?_ | refine ex20 ?_ | refine ex21 ?_ | refine ex30 ?_ | refine ex31 ?_ | refine ex32 ?_ | refine ln_rule ?_ | refine lnT_rule ?_ | refine pu_and ?_ | refine pu_or ?_ | refine pu_xor ?_ | refine pu_seq ?_ | refine pu_sne ?_)
  refine cnd_t rfl ?_
  repeat (first | refine pu_not ?_ | refine pu_eql ?_ | refine pu_neq ?_ | refine pu_lss ?_ | refine pu_leq ?_ | refine pu_gtr ?_ | refine pu_geq ?_ | refine pu_add ?_ | refine pu_sub ?_ | refine pu_mul ?_ | refine pu_neg ?_ | refine fa_at ?_ | refine nl_ptr ?_ | refine ex20 ?_ | refine ex21 ?_ | refine ex30 ?_ | refine ex31 ?_ | refine ex32 ?_ | refine ln_rule ?_ | refine lnT_rule ?_ | refine pu_and ?_ | refine pu_or ?_ | refine pu_xor ?_ | refine pu_seq ?_ | refine pu_sne ?_)
  refine ld_here h1 (.tail _ (hin _ (.head _))) (v := s.vfr) rfl ?_
  have hln := hs.len
  have hll : s.L.length = s.es.length := by simp [SK.L]
  refine copied_spec h1 (SK.L_sls hs) (SK.L_in hs hr) (fun x hx => .tail _ (hin x hx)) (by omega) frames1_cl (fun Sf v' don w3 hdm hdo ho h3 => ?_)
  obtain ⟨a9, c9, hv9⟩ := ho.len
  have h3 : Ow B w3 ((Sf ++ ffoot don) ++ (b1, cel [.slice none 0 0] T.t_sl_api_Frame) :: H) := by simpa using h3
  refine st1_here h3 (by rw [hv9]; rfl) (by rw [hv9]; rfl) (by simp) (fun w4 h4 => ?_)
  simp only [List.set_cons_zero] at h4
  have hdl : don.length = s.es.length := by
    have := congrArg List.length hdm
    simpa [SK.L] using this
  let L2 : List (Value × Frm) := don.map fun e => (e.c, e.m)
  have hL2 : lrows L2 = drows don := by simp only [L2, lrows, drows, List.map_map]; rfl
  have hL3 : (L2.map Prod.snd).reverse = s.frs := by
    have : L2.map Prod.snd = don.map FE.m := by simp only [L2, List.map_map]; rfl
    rw [this, hdm, SK.L_frs, List.reverse_reverse]
  have hL4 : L2.length = s.frs.length := by simp [L2, hdl, SK.frs]
  have hfr : ∀ e ∈ don, e.m ∈ s.frs := fun e he => by
    have : e.m ∈ don.map FE.m := List.mem_map_of_mem he
    rw [hdm, SK.L_frs] at this
    exact List.mem_reverse.1 this
  have hsq := frames2_seq (B := B) (H := (b1, cel [v'] T.t_sl_api_Frame) :: (Sf ++ ffoot don)) (sv := v') (L := L2) (b := b1) (.head _) (by rw [hL2]; exact (own_sls (drows_four don) ho).mono fun x hx => .tail _ (List.mem_append_left _ hx)) (fun q hq => by
    obtain ⟨e, he, rfl⟩ := List.mem_map.1 hq
    exact ⟨(Vc.Own.sl (hdo e he)).mono fun x hx => .tail _ (List.mem_append_right _ (List.mem_flatMap.2 ⟨e, he, hx⟩)), hr _ (hfr e he)⟩) (by rw [hL4]; simp [SK.frs]; omega)
  rw [hL3, hL4] at hsq
  exact k _ _ w4 hsq rfl (h4.perm List.perm_middle)
end
end Go.Proofs.YtkkkcafkepnecaaGreat

/-! Stacks: the chapter's rows; the law StackNone. -/
set_option linter.unusedVariables false
set_option linter.unusedSimpArgs false
namespace Go.Proofs.YtkkkcafkepnecaaGreat
open Go Go.RowKit Vc Ar
attribute [local irreducible] binV Op.unary convert nlW faW ldS ldW ixS ixA ixV ixT exW lnS lnT pu stW alW opW opU bsW mkW

section
variable {B w : World} {H X F Q R : Hp} {K : Value → World → Prop} {PK : List PanicEntry → World → Prop} {KK : Value → Prop} {p : Pr} {s : SK} {v : Value}
theorem num12_spec {v : Value} (h : Ow B w H) (k : ∀ w', Ow B w' H → K v w') : callW PG N.linesmanlaw12_num [v] K PK w := by
  refine linesmanlaw12_num.ok ?_
  unfold linesmanlaw12_num.C
  exact k _ h
def gCall : Ins := ⟨8, 0, 1, 2, 1⟩
def gRet : Ins := ⟨9, 0, 0, 0, 0⟩
def gAdd : Ins := ⟨3, 0, 0, 1, 1⟩
def p12 : Pr := ⟨[⟨3, [gCall, gRet]⟩, ⟨2, [gAdd, gRet]⟩], 0, 0, 0⟩
theorem p12_good : Good p12 := ⟨by decide +kernel, fun f hf i hi => by
  simp only [p12, List.mem_cons, List.not_mem_nil, or_false] at hf
  rcases hf with rfl | rfl <;> (simp only [List.mem_cons, List.not_mem_nil, or_false] at hi; rcases hi with rfl | rfl <;> exact ⟨by decide, by decide⟩)⟩
theorem blkI {b : Nat} {i j : Ins} (hb : (b, cel (icode [i, j]).flatten T.t_api_Ins) ∈ H) : Sls H (.slice (some ⟨b, 0, none⟩) 2 2) 5 (icode [i, j]) :=
  sls_blk (rows := icode [i, j]) (by simp [icode, Ins.cells]) (by simp [icode, maxLen]) hb
theorem given12_spec (h : Ow B w H) (k : ∀ S v w', fsIn S v p12.fs → Ow B w' (S ++ H) → K (.agg (p12.cells v).toArray) w') : callW PG N.linesmanlaw12_given [] K PK w := by
  refine linesmanlaw12_given.ok ?_
  unfold linesmanlaw12_given.C
  refine al_rule h (l := [.slice none 0 0, vI 0, vI 0, vI 0]) (by kernel_rfl) (fun b w1 h1 => ?_)
  refine pu_build gCall.cells (by kernel_rfl) ?_
  refine pu_build gRet.cells (by kernel_rfl) ?_
  refine bs_rule h1 (icode [gCall, gRet]).flatten (by kernel_rfl) (fun b7 w2 h2 => ?_)
  refine pu_build [vI 3, .slice (some ⟨b7, 0, none⟩) 2 2] (by kernel_rfl) ?_
  refine pu_build gAdd.cells (by kernel_rfl) ?_
  refine pu_build gRet.cells (by kernel_rfl) ?_
  refine bs_rule h2 (icode [gAdd, gRet]).flatten (by kernel_rfl) (fun b12 w3 h3 => ?_)
  refine pu_build [vI 2, .slice (some ⟨b12, 0, none⟩) 2 2] (by kernel_rfl) ?_
  refine bs_rule h3 [vI 3, .slice (some ⟨b7, 0, none⟩) 2 2, vI 2, .slice (some ⟨b12, 0, none⟩) 2 2] (by kernel_rfl) (fun b15 w4 h4 => ?_)
  refine pu_build [.slice (some ⟨b15, 0, none⟩) 2 2, vI 0, vI 0, vI 0] (by kernel_rfl) ?_
  refine st_here (A := [_, _, _]) h4 [.slice (some ⟨b15, 0, none⟩) 2 2, vI 0, vI 0, vI 0] rfl rfl rfl (by simp) (fun w5 h5 => ?_)
  simp only [List.take_zero, List.nil_append, Nat.zero_add, List.drop_succ_cons, List.drop_zero, List.drop_nil, List.append_nil] at h5
  refine ldn_here h5 (.tail _ (.tail _ (.tail _ (.head _)))) (vs := p12.cells (.slice (some ⟨b15, 0, none⟩) 2 2)) rfl rfl ?_
  refine k [(b15, cel [vI 3, .slice (some ⟨b7, 0, none⟩) 2 2, vI 2, .slice (some ⟨b12, 0, none⟩) 2 2] T.t_api_Func), (b12, cel (icode [gAdd, gRet]).flatten T.t_api_Ins), (b7, cel (icode [gCall, gRet]).flatten T.t_api_Ins)] _ _ ?_ (h5.sub ((List.Sublist.refl [_, _, _]).append (.cons _ (.refl _))))
  refine ⟨[(.slice (some ⟨b7, 0, none⟩) 2 2, ⟨3, [gCall, gRet]⟩), (.slice (some ⟨b12, 0, none⟩) 2 2, ⟨2, [gAdd, gRet]⟩)], rfl, ?_, fun q hq => ?_⟩
  · exact sls_blk (rows := [[vI 3, .slice (some ⟨b7, 0, none⟩) 2 2], [vI 2, .slice (some ⟨b12, 0, none⟩) 2 2]]) (by simp) (by simp [maxLen]) (.head _)
  · have him := p12_good.im
    simp only [List.mem_cons, List.not_mem_nil, or_false] at hq
    rcases hq with rfl | rfl
    · exact ⟨blkI (.tail _ (.tail _ (.head _))), him _ (.head _)⟩
    · exact ⟨blkI (.tail _ (.head _)), him _ (.tail _ (.head _))⟩
abbrev l0 : List Frm := [⟨0, 0, 0, [0, 2, 3]⟩]
abbrev l1 : List Frm := [⟨1, 0, 0, [2, 3]⟩, ⟨0, 1, 0, [0, 2, 3]⟩]
abbrev l2 : List Frm := [⟨1, 1, 0, [5, 3]⟩, ⟨0, 1, 0, [0, 2, 3]⟩]
abbrev l3 : List Frm := [⟨0, 1, 0, [5, 2, 3]⟩]
theorem go0 : stepF p12 1 l0 0 = (222, l0, 0) := by decide +kernel
theorem go1 : stepF p12 2 l0 0 = (0, l1, 0) := by decide +kernel
theorem go2 : stepF p12 2 l1 0 = (0, l2, 0) := by decide +kernel
theorem go3 : stepF p12 2 l2 0 = (0, l3, 0) := by decide +kernel
theorem go4 : stepF p12 2 l3 0 = (0, [], 5) := by decide +kernel
theorem u023 : AllU [0, 2, 3] := fun x hx => by
  simp only [List.mem_cons, List.not_mem_nil, or_false] at hx
  rcases hx with rfl | rfl | rfl <;> exact ⟨by decide, by decide⟩
theorem in0 : Inv p12 l0 := Inv.beg (f := ⟨3, [gCall, gRet]⟩) (x := 0) (ws := [0, 2, 3]) p12_good rfl (by decide) u023
theorem in1 : Inv p12 l1 := by have := in0.step (most := 2) (res := 0) p12_good; rw [go1] at this; exact this
theorem in2 : Inv p12 l2 := by have := in1.step (most := 2) (res := 0) p12_good; rw [go2] at this; exact this
theorem in3 : Inv p12 l3 := by have := in2.step (most := 2) (res := 0) p12_good; rw [go3] at this; exact this
theorem SK.es_len (s : SK) : s.es.length = s.frs.length := by simp [SK.frs]
/-- A step whose outcome is known. -/
theorem step_known {most e res' : Int} {l l' : List Frm} {res : Int} (g : Good p) (hI : Inv p l) (hs : s.ok p F) (hF : ∀ x, x ∈ F → x ∈ R) (hl : s.frs = l) (hr : s.res = res) (hgo : stepF p most l res = (e, l', res')) (hlen : l.length + 1 < 1000) (h : Ow B w (s.hp p ++ R))
    (k : ∀ (s' : SK) w', s'.b = s.b → s'.frs = l' → s'.res = res' → s'.ok p F → Ow B w' (s'.hp p ++ R) → K (vI e) w') : callW PG N.stack_Stack_Step [ptr s.b, vI most] K PK w := by
  refine step_spec hs hF (by rw [hl]; exact g.safeL hI) (by rw [SK.es_len, hl]; exact hlen) h (fun s' w' q1 q2 q3 hs' h' => ?_)
  rw [hl, hr, hgo] at q3 ⊢
  exact k s' w' q1 (congrArg Prod.fst q3) (congrArg Prod.snd q3) hs' h'
set_option maxRecDepth 20000 in
theorem works12_spec (h : Ow B w H) (k : ∀ w', Ow B w' H → K (vB true) w') : callW PG N.linesmanlaw12_works [] K PK w := by
  refine linesmanlaw12_works.ok ?_
  unfold linesmanlaw12_works.C
  refine given12_spec h (fun S v w1 hv h1 => ?_)
  refine bs_rule h1 (rgs [0, 2, 3]) (by kernel_rfl) (fun b5 w2 h2 => ?_)
  refine new_spec (p := p12) (ws := [0, 2, 3]) (X := (b5, cel (rgs [0, 2, 3]) T.t_uint32) :: S) (hv.mono fun x hx => .tail _ hx) (sl_here (l := rgs [0, 2, 3]) (.head _)) (fun x hx => (List.mem_cons.1 hx).elim (fun h => by rw [h]; exact .head _) fun h => .tail _ (List.mem_append_left _ h)) (by simp [p12]) (by simp) h2
    (fun hb => by rw [p12_good.ok] at hb; cases hb) (fun _ hb => absurd (by decide) (hb ⟨3, [gCall, gRet]⟩ (by decide) rfl)) (fun _ f _ hf _ s F w3 hres hfrs hs h3 => ?_)
  have hf : f = ⟨3, [gCall, gRet]⟩ := (Option.some.inj hf).symm
  subst hf
  generalize hR : F ++ (b5, cel (rgs [0, 2, 3]) T.t_uint32) :: (S ++ H) = R at h3
  have hF : ∀ x, x ∈ F → x ∈ R := fun x hx => by rw [← hR]; exact List.mem_append_left _ hx
  have hend : ∀ {A : Hp} {w : World}, Ow B w (A ++ R) → Ow B w H := fun h => by
    rw [← hR] at h
    exact h.sub ((((List.sublist_append_right _ _).trans (List.sublist_cons_self _ _)).trans (List.sublist_append_right _ _)).trans (List.sublist_append_right _ _))
  repeat (first | refine pu_not ?_ | refine pu_eql ?_ | refine pu_neq ?_ | refine pu_lss ?_ | refine pu_leq ?_ | refine pu_gtr ?_ | refine pu_geq ?_ | refine pu_add ?_ | refine pu_sub ?_ | refine pu_mul ?_ | refine pu_neg ?_ | refine fa_at ?_ | refine nl_ptr ?_ | refine ex20 ?_ | refine ex21 ?_ | refine ex30 ?_ | refine ex31 ?_ | refine ex32 ?_ | refine ln_rule ?_ | refine lnT_rule ?_ | refine pu_and ?_ | refine pu_or ?_ | refine pu_xor ?_ | refine pu_seq ?_ | refine pu_sne ?_)
  refine step_known p12_good in0 hs hF hfrs hres go0 (by decide) h3 (fun s1 w4 hb1 hl1 hr1 hs1 h4 => ?_)
  rw [← hb1]
  refine step_known p12_good in0 hs1 hF hl1 hr1 go1 (by decide) h4 (fun s2 w5 hb2 hl2 hr2 hs2 h5 => ?_)
  rw [← hb2]
  refine num12_spec h5 (fun w6 h6 => ?_)
  refine num12_spec h6 (fun w7 h7 => ?_)
  repeat (first | refine pu_not ?_ | refine pu_eql ?_ | refine pu_neq ?_ | refine pu_lss ?_ | refine pu_leq ?_ | refine pu_gtr ?_ | refine pu_geq ?_ | refine pu_add ?_ | refine pu_sub ?_ | refine pu_mul ?_ | refine pu_neg ?_ | refine fa_at ?_ | refine nl_ptr ?_ | refine ex20 ?_ | refine ex21 ?_ | refine ex30 ?_ | refine ex31 ?_ | refine ex32 ?_ | refine ln_rule ?_ | refine lnT_rule ?_ | refine pu_and ?_ | refine pu_or ?_ | refine pu_xor ?_ | refine pu_seq ?_ | refine pu_sne ?_)
  refine cnd_f (by decide +kernel) ?_
  refine num12_spec h7 (fun w8 h8 => ?_)
  repeat (first | refine pu_not ?_ | refine pu_eql ?_ | refine pu_neq ?_ | refine pu_lss ?_ | refine pu_leq ?_ | refine pu_gtr ?_ | refine pu_geq ?_ | refine pu_add ?_ | refine pu_sub ?_ | refine pu_mul ?_ | refine pu_neg ?_ | refine fa_at ?_ | refine nl_ptr ?_ | refine ex20 ?_ | refine ex21 ?_ | refine ex30 ?_ | refine ex31 ?_ | refine ex32 ?_ | refine ln_rule ?_ | refine lnT_rule ?_ | refine pu_and ?_ | refine pu_or ?_ | refine pu_xor ?_ | refine pu_seq ?_ | refine pu_sne ?_)
  refine cnd_f (by decide +kernel) ?_
  refine depth_spec hs2 h8 (.head _) ?_
  rw [SK.es_len, hl2]
  repeat (first | refine pu_not ?_ | refine pu_eql ?_ | refine pu_neq ?_ | refine pu_lss ?_ | refine pu_leq ?_ | refine pu_gtr ?_ | refine pu_geq ?_ | refine pu_add ?_ | refine pu_sub ?_ | refine pu_mul ?_ | refine pu_neg ?_ | refine fa_at ?_ | refine nl_ptr ?_ | refine ex20 ?_ | refine ex21 ?_ | refine ex30 ?_ | refine ex31 ?_ | refine ex32 ?_ | refine ln_rule ?_ | refine lnT_rule ?_ | refine pu_and ?_ | refine pu_or ?_ | refine pu_xor ?_ | refine pu_seq ?_ | refine pu_sne ?_)
  refine cnd_f (by decide +kernel) ?_
  refine reg_spec hs2 h8 (fun w9 h9 => ?_)
  rw [hl2]
  repeat (first | refine pu_not ?_ | refine pu_eql ?_ | refine pu_neq ?_ | refine pu_lss ?_ | refine pu_leq ?_ | refine pu_gtr ?_ | refine pu_geq ?_ | refine pu_add ?_ | refine pu_sub ?_ | refine pu_mul ?_ | refine pu_neg ?_ | refine fa_at ?_ | refine nl_ptr ?_ | refine ex20 ?_ | refine ex21 ?_ | refine ex30 ?_ | refine ex31 ?_ | refine ex32 ?_ | refine ln_rule ?_ | refine lnT_rule ?_ | refine pu_and ?_ | refine pu_or ?_ | refine pu_xor ?_ | refine pu_seq ?_ | refine pu_sne ?_)
  refine cnd_f (by decide +kernel) ?_
  refine step_known p12_good in1 hs2 hF hl2 hr2 go2 (by decide) h9 (fun s3 w10 hb3 hl3 hr3 hs3 h10 => ?_)
  rw [← hb3]
  refine step_known p12_good in2 hs3 hF hl3 hr3 go3 (by decide) h10 (fun s4 w11 hb4 hl4 hr4 hs4 h11 => ?_)
  rw [← hb4]
  refine reg_spec hs4 h11 (fun w12 h12 => ?_)
  rw [hl4]
  refine step_known p12_good in3 hs4 hF hl4 hr4 go4 (by decide) h12 (fun s5 w13 hb5 hl5 hr5 hs5 h13 => ?_)
  rw [← hb5]
  refine num12_spec h13 (fun w14 h14 => ?_)
  refine num12_spec h14 (fun w15 h15 => ?_)
  repeat (first | refine pu_not ?_ | refine pu_eql ?_ | refine pu_neq ?_ | refine pu_lss ?_ | refine pu_leq ?_ | refine pu_gtr ?_ | refine pu_geq ?_ | refine pu_add ?_ | refine pu_sub ?_ | refine pu_mul ?_ | refine pu_neg ?_ | refine fa_at ?_ | refine nl_ptr ?_ | refine ex20 ?_ | refine ex21 ?_ | refine ex30 ?_ | refine ex31 ?_ | refine ex32 ?_ | refine ln_rule ?_ | refine lnT_rule ?_ | refine pu_and ?_ | refine pu_or ?_ | refine pu_xor ?_ | refine pu_seq ?_ | refine pu_sne ?_)
  refine num12_spec h15 (fun w16 h16 => ?_)
  repeat (first | refine pu_not ?_ | refine pu_eql ?_ | refine pu_neq ?_ | refine pu_lss ?_ | refine pu_leq ?_ | refine pu_gtr ?_ | refine pu_geq ?_ | refine pu_add ?_ | refine pu_sub ?_ | refine pu_mul ?_ | refine pu_neg ?_ | refine fa_at ?_ | refine nl_ptr ?_ | refine ex20 ?_ | refine ex21 ?_ | refine ex30 ?_ | refine ex31 ?_ | refine ex32 ?_ | refine ln_rule ?_ | refine lnT_rule ?_ | refine pu_and ?_ | refine pu_or ?_ | refine pu_xor ?_ | refine pu_seq ?_ | refine pu_sne ?_)
  refine cnd_t (by decide +kernel) ?_
  repeat (first | refine pu_not ?_ | refine pu_eql ?_ | refine pu_neq ?_ | refine pu_lss ?_ | refine pu_leq ?_ | refine pu_gtr ?_ | refine pu_geq ?_ | refine pu_add ?_ | refine pu_sub ?_ | refine pu_mul ?_ | refine pu_neg ?_ | refine fa_at ?_ | refine nl_ptr ?_ | refine ex20 ?_ | refine ex21 ?_ | refine ex30 ?_ | refine ex31 ?_ | refine ex32 ?_ | refine ln_rule ?_ | refine lnT_rule ?_ | refine pu_and ?_ | refine pu_or ?_ | refine pu_xor ?_ | refine pu_seq ?_ | refine pu_sne ?_)
  refine cnd_t (by decide +kernel) ?_
  refine depth_spec hs5 h16 (.head _) ?_
  rw [SK.es_len, hl5]
  repeat (first | refine pu_not ?_ | refine pu_eql ?_ | refine pu_neq ?_ | refine pu_lss ?_ | refine pu_leq ?_ | refine pu_gtr ?_ | refine pu_geq ?_ | refine pu_add ?_ | refine pu_sub ?_ | refine pu_mul ?_ | refine pu_neg ?_ | refine fa_at ?_ | refine nl_ptr ?_ | refine ex20 ?_ | refine ex21 ?_ | refine ex30 ?_ | refine ex31 ?_ | refine ex32 ?_ | refine ln_rule ?_ | refine lnT_rule ?_ | refine pu_and ?_ | refine pu_or ?_ | refine pu_xor ?_ | refine pu_seq ?_ | refine pu_sne ?_)
  refine cnd_t (by decide +kernel) ?_
  refine result_spec h16 (.head _) ?_
  rw [hr5]
  repeat (first | refine pu_not ?_ | refine pu_eql ?_ | refine pu_neq ?_ | refine pu_lss ?_ | refine pu_leq ?_ | refine pu_gtr ?_ | refine pu_geq ?_ | refine pu_add ?_ | refine pu_sub ?_ | refine pu_mul ?_ | refine pu_neg ?_ | refine fa_at ?_ | refine nl_ptr ?_ | refine ex20 ?_ | refine ex21 ?_ | refine ex30 ?_ | refine ex31 ?_ | refine ex32 ?_ | refine ln_rule ?_ | refine lnT_rule ?_ | refine pu_and ?_ | refine pu_or ?_ | refine pu_xor ?_ | refine pu_seq ?_ | refine pu_sne ?_)
  have := k _ (hend h16)
  exact this
end
end Go.Proofs.YtkkkcafkepnecaaGreat

/-! Calls that are handed in. -/
set_option linter.unusedVariables false
set_option linter.unusedSimpArgs false
namespace Go.Proofs.YtkkkcafkepnecaaGreat
open Go Go.RowKit Vc Ar
attribute [local irreducible] binV Op.unary convert nlW faW ldS ldW ixS ixA ixV ixT exW lnS lnT pu stW alW opW opU bsW mkW

section
variable {B w : World} {H X F Q R : Hp} {v : Value}
abbrev actC (a b c : Int) (d : Int) : List Value := [vI a, vI b, vI c, vU d]
theorem act_of' {cs : List Value} (h : Fit PG H T.t_linesmanlaw12_Act cs) : ∃ a b c d : Int, cs = actC a b c d ∧ IsU d := by
  have hl := h.len (n := 4) (by kernel_rfl) (by kernel_rfl)
  match cs, hl with
  | [x0, x1, x2, x3], _ =>
    obtain ⟨n0, h0, _⟩ := Fit.of_int (k := .i64) (by kernel_rfl) (h.field (i := 0) (T := T.t_int) (off := 0) (n := 1) (by kernel_rfl))
    obtain ⟨n1, h1, _⟩ := Fit.of_int (k := .i64) (by kernel_rfl) (h.field (i := 1) (T := T.t_int) (off := 1) (n := 1) (by kernel_rfl))
    obtain ⟨n2, h2, _⟩ := Fit.of_int (k := .i64) (by kernel_rfl) (h.field (i := 2) (T := T.t_int) (off := 2) (n := 1) (by kernel_rfl))
    obtain ⟨n3, h3, hw⟩ := Fit.of_int (k := .u32) (by kernel_rfl) (h.field (i := 3) (T := T.t_uint32) (off := 3) (n := 1) (by kernel_rfl))
    simp at h0 h1 h2 h3
    subst h0 h1 h2 h3
    exact ⟨n0, n1, n2, n3, rfl, wf_u32 hw⟩
theorem act_of {v0 : Value} (g : FitV PG H T.t_linesmanlaw12_Act v0) : ∃ a b c d : Int, v0 = .agg (actC a b c d).toArray ∧ IsU d := by
  obtain ⟨cs, rfl, hf⟩ := g.agg (by kernel_rfl)
  obtain ⟨a, b, c, d, rfl, hd⟩ := act_of' hf
  exact ⟨a, b, c, d, rfl, hd⟩
end
end Go.Proofs.YtkkkcafkepnecaaGreat

