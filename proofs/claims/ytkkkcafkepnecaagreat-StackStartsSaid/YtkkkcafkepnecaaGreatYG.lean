/- append of zeros; the reference of stacks: New. -/
import Derived.Test.YtkkkcafkepnecaaGreatZV
import Derived.Lib.AppendZerosOnto
import Derived.Test.YtkkkcafkepnecaaGreatGG

set_option linter.unusedVariables false
set_option linter.unusedSimpArgs false
namespace Go.Proofs.YtkkkcafkepnecaaGreat.Vc
open Go Go.RowKit
section
variable {P : Program} {B w : World} {KW : Value → World → Prop} {t tn e ty : TypeId}
theorem zeroCells_one {z : Value} (hz : z.cells = #[z]) (m : Nat) : (Builtin.zeroCells z.cells m) = (List.replicate m z).toArray := by
  unfold Builtin.zeroCells
  rw [hz]
  apply Array.ext'
  simp only [Array.toList_map, Array.toList_range]
  apply List.ext_getElem
  · simp
  · intro i h1 h2
    simp [Nat.mod_one]
theorem run_app_room {i : TypeInfo} {z : Value} {g n cap m : Nat} {l : List Value} (ht : P.underlying t = some (.slice e)) (htn : P.underlying tn = some (.int .i64)) (hi : P.info? e = some i) (hz : i.zero = some z) (hs : i.size = 1) (hzc : z.cells = #[z]) (hp : plainV z = true)
    (hb : w.heap[g]? = some (.cells l.toArray e (0, 0))) (hn : n + m ≤ cap) (hl : cap = l.length) (hm0 : 0 < m) (hm : m ≤ 1000000) (hby : i.bytes ≤ 1000) :
    (Builtin.append_ #[t, tn] ty #[.slice (some ⟨g, 0, none⟩) n cap, .int .i64 m]).run P w = .ok (.slice (some ⟨g, 0, none⟩) (n + m) cap) (w.putObj g (.cells (l.take n ++ List.replicate m z ++ l.drop (n + m)).toArray e (0, 0))) := by
  have hk : m ≠ 0 := by omega
  have hw : IntKind.i64.wrap (m : Int) = m := by rw [IntKind.wrap_i64]; omega
  have h48i : ¬ (281474976710656 < (m : Int) * (i.bytes : Int)) := by
    rw [← Int.natCast_mul]
    have : m * i.bytes ≤ 1000000 * 1000 := Nat.mul_le_mul hm hby
    omega
  have hneg : ¬ ((m : Int) < 0) := by omega
  have ha : (⟨g, 0, none⟩ : Addr).add n = ⟨g, n, none⟩ := by rw [add_mk, Nat.zero_add]
  have hst := run_storeCells (P := P) (a := ⟨g, n, none⟩) rfl (fz := (0, 0)) (e := e) (List.replicate m z) 0 w l.toArray hb (fun u hu => by rw [List.eq_of_mem_replicate hu]; exact hp) (by simp; omega) (by simp)
  rw [Nat.add_zero, wrL_list _ _ _ (by simp; omega), List.length_replicate] at hst
  simp [Builtin.append_, run_underlying ht, run_underlying htn, sizeOf, typeInfo, zeroValue, hi, hz, hs, asInt, asIntOf, hw, hn, hk, hneg, h48i, zeroCells_one hzc, ha, hst]
/-- append of zeros that are made. -/
theorem app_zeros {A C S : Hp} {v z : Value} {n m bytes : Nat} {xs : List Value} (h : Ow B w (A ++ S ++ C)) (ho : Own S e 1 v n xs) (ht : P.underlying t = some (.slice e)) (htn : P.underlying tn = some (.int .i64)) (hi : (P.info? e).map (fun i => (i.zero, i.size, i.bytes)) = some (some z, 1, bytes))
    (hzc : z.cells = #[z]) (hp : plainV z = true) (h63 : n + m ≤ 1000000) (hby : bytes ≤ 1000)
    (k : ∀ S' v' w', Ow B w' (A ++ S' ++ C) → Own S' e 1 v' (n + m) (xs ++ List.replicate m z) → KW v' w') : opW P (Builtin.append_ #[t, tn] ty #[v, .int .i64 m]) KW w := by
  obtain ⟨i, i1, i2, i3, i4⟩ := info_of hi
  subst i4
  have hmul : ∀ a, a ≤ 1000000 → a * i.bytes ≤ 140737488355328 := fun a ha => Nat.le_trans (Nat.mul_le_mul ha hby) (by omega)
  by_cases hm0 : m = 0
  · subst hm0
    have hw : IntKind.i64.wrap (0 : Int) = 0 := by rw [IntKind.wrap_i64]; omega
    have hv : ∃ a c, v = .slice a n c ∧ n ≤ c := by
      obtain ⟨hl, ⟨_, rfl, rfl⟩ | ⟨g, cap, l, _, rfl, hc, _⟩⟩ := ho
      · exact ⟨none, 0, rfl, Nat.le_refl _⟩
      · exact ⟨_, cap, rfl, hc⟩
    obtain ⟨a, c, hva, hnc⟩ := hv
    have hr : (Builtin.append_ #[t, tn] ty #[v, .int .i64 ((0 : Nat) : Int)]).run P w = .ok v w := by
      rw [hva]
      cases a <;> simp [Builtin.append_, run_underlying ht, run_underlying htn, sizeOf, typeInfo, zeroValue, i1, i2, i3, asInt, asIntOf, hnc, hw, storeCells]
    exact ⟨_, _, hr, k S v w h (by simpa using ho)⟩
  have hm1 : 0 < m := by omega
  -- a new row
  have grow : ∀ (base : Option Addr) (cap : Nat), cap < n + m → v = .slice base n cap → (∀ (j : Nat) u, xs[j]? = some u → ∃ a, base = some a ∧ w.cell? (a.add j) = some u) → (base = none → n = 0) → opW P (Builtin.append_ #[t, tn] ty #[v, .int .i64 m]) KW w := fun base cap hg hv hold hno => by
    have hxl : xs.length = n := by have := ho.1; omega
    have hold' : (Builtin.firstCells i.size n (.slice base n cap)).run P w.drew = .ok xs.toArray w.drew := by
      cases base with
      | none =>
        have h0 := hno rfl
        have : xs = [] := List.eq_nil_of_length_eq_zero (by omega)
        rw [this]
        exact run_firstCells_none _ _ _ _ _
      | some a => exact run_firstCells_some (w := w.drew) i.size n a n cap xs (by rw [i3]; omega) (fun j u hj => by
          obtain ⟨a', ha, hc⟩ := hold j u hj
          cases ha
          exact hc)
    have hr := Lib.run_append_grow_zeros (P := P) w t tn ty e i z .i64 .i64 ht htn i1 i2 base n cap xs hold' m hm1 (by omega) hg (by omega) (by have := hmul m (by omega); omega) (growslice_fits (by omega) (hmul _ (by omega)))
    rw [hv]
    refine ⟨_, _, hr, ?_⟩
    have hge := grownCap_ge w (n + m) cap e
    have hcm : grownCap w (n + m) cap e ≤ maxLen := grownCap_le_maxLen w (n + m) cap e (by simp [maxLen]; omega)
    generalize grownCap w (n + m) cap e = cap' at *
    rw [zeroCells_one hzc, zeroCells_one hzc]
    have he : xs.toArray ++ (List.replicate m z).toArray ++ (List.replicate (cap' - (n + m)) z).toArray = (xs ++ List.replicate m z ++ List.replicate (cap' - (n + m)) z).toArray := by simp
    rw [he]
    refine k [(w.heap.size, cel (xs ++ List.replicate m z ++ List.replicate (cap' - (n + m)) z) e)] _ _ ?_ ?_
    · have h5 := (h.drew.alloc (cel (xs ++ List.replicate m z ++ List.replicate (cap' - (n + m)) z) e))
      have h6 : Ow B _ ((w.drew.heap.size, cel (xs ++ List.replicate m z ++ List.replicate (cap' - (n + m)) z) e) :: (A ++ C)) := h5.sub (.cons_cons _ (by rw [List.append_assoc]; exact (List.Sublist.refl A).append (List.sublist_append_right _ _)))
      have h7 := h6.perm (List.perm_middle (l₁ := A) (l₂ := C)).symm
      simpa using h7
    · refine Own.mk hge hcm (by simp [hxl]; omega) ?_
      rw [Nat.mul_one]
      exact List.take_left' (by simp [hxl])
  obtain ⟨hl, ⟨rfl, rfl, rfl⟩ | ⟨g, cap, l, rfl, rfl, hc, hcm, hlen, hx⟩⟩ := id ho
  · exact grow none 0 (by omega) rfl (fun j u hj => by
      have : xs = [] := List.eq_nil_of_length_eq_zero (by omega)
      rw [this] at hj; cases hj) (fun _ => rfl)
  · rw [Nat.mul_one] at hlen hx
    by_cases hroom : n + m ≤ cap
    · have hb := h.mem g _ (List.mem_append_left _ (List.mem_append_right _ (.head _)))
      have hr := run_app_room (P := P) (ty := ty) ht htn i1 i2 i3 hzc hp hb hroom hlen.symm hm1 (by omega) hby
      refine ⟨_, _, hr, ?_⟩
      refine k [(g, cel (l.take n ++ List.replicate m z ++ l.drop (n + m)) e)] _ _ ?_ ?_
      · have h' : Ow B w (A ++ (g, cel l e) :: C) := by simpa using h
        have := h'.put (cel (l.take n ++ List.replicate m z ++ l.drop (n + m)) e)
        simpa using this
      · refine Own.mk hroom hcm (by simp; omega) ?_
        rw [Nat.mul_one, hx]
        refine List.take_left' ?_
        have := ho.1
        simp; omega
    · refine grow _ cap (by omega) rfl (fun j u hj => ⟨_, rfl, ?_⟩) (fun h => by cases h)
      refine h.cell ?_
      rw [add_mk]
      refine cell_here (List.mem_append_left _ (List.mem_append_right _ (.head _))) ?_
      rw [Nat.zero_add]
      rw [← hx, List.getElem?_take] at hj
      split at hj
      · exact hj
      · cases hj
end
end Go.Proofs.YtkkkcafkepnecaaGreat.Vc
namespace Go.Proofs.YtkkkcafkepnecaaGreat
open Go Go.RowKit Vc Ar
attribute [local irreducible] binV Op.unary convert nlW faW ldS ldW ixS ixA ixV ixT exW lnS lnT pu stW alW opW opU bsW mkW

section
variable {B w : World} {H X F F' Q R : Hp} {K : Value → World → Prop} {PK : List PanicEntry → World → Prop} {KK : Value → Prop} {p : Pr} {s s' : SK} {v a : Value}
theorem entered12_spec {regs : Nat} {ws : List Int} (h : Ow B w H) (hs : Sl X a (rgs ws)) (hX : ∀ x, x ∈ X → x ∈ H) (hl : ws.length ≤ regs) (hr : regs ≤ 1000) (k : ∀ S c w', Ow B w' (S ++ H) → Vc.Own S T.t_uint32 1 c regs (rgs (padd ws regs)) → K c w') : callW PG N.linesmanref12_entered [vI regs, a] K PK w := by
  refine linesmanref12_entered.ok ?_
  unfold linesmanref12_entered.C
  have hrl : (rgs ws).length = ws.length := by simp [rgs]
  refine bs_rule h [] (by kernel_rfl) (fun b1 w1 h1 => ?_)
  refine app1 (A := []) (S := [(b1, cel [] T.t_uint32)]) (xs := []) (n := 0) h1 (Own.mk (n := 0) (cap := 0) (xs := []) (Nat.le_refl _) (Nat.zero_le _) rfl rfl) hs (fun y hy => .tail _ (hX y hy)) (rgs_plain ws) und_slu info_u rfl (by rw [hrl]; simp [maxLen]; omega) (by rw [hrl]; omega) (fun S v w2 h2 ho => ?_)
  refine sl_ln hs ?_
  rw [hrl] at ho ⊢
  repeat (first | refine pu_not ?_ | refine pu_eql ?_ | refine pu_neq ?_ | refine pu_lss ?_ | refine pu_leq ?_ | refine pu_gtr ?_ | refine pu_geq ?_ | refine pu_add ?_ | refine pu_sub ?_ | refine pu_mul ?_ | refine pu_neg ?_ | refine fa_at ?_ | refine nl_ptr ?_ | refine ex20 ?_ | refine ex21 ?_ | refine ex30 ?_ | refine ex31 ?_ | refine ex32 ?_ | refine ln_rule ?_ | refine lnT_rule ?_ | refine pu_and ?_ | refine pu_or ?_ | refine pu_xor ?_ | refine pu_seq ?_ | refine pu_sne ?_)
  have e1 : IntKind.i64.wrap ((regs : Int) - (ws.length : Int)) = ((regs - ws.length : Nat) : Int) := by rw [wrap64_in (by omega) (by omega)]; omega
  rw [e1]
  refine app_zeros (A := []) h2 ho und_slu und_int info_u rfl rfl (by omega) (by omega) (fun S' v' w3 h3 ho3 => ?_)
  have e2 : [] ++ rgs ws ++ List.replicate (regs - ws.length) (vU 0) = rgs (padd ws regs) := by simp [rgs, padd]
  have e3 : 0 + ws.length + (regs - ws.length) = regs := by omega
  rw [e2, e3] at ho3
  exact k S' v' w3 h3 ho3
/-- A stack of the reference. -/
abbrev rsC (p : Pr) (v L : Value) (res : Int) : List Value := [v, vI p.mu, vI p.rw, vI p.gr, L, vU res]
abbrev zref : List Value := [.slice none 0 0, vI 0, vI 0, vI 0, .slice none 0 0, vU 0]
theorem zref_eq : zc PG T.t_linesmanref12_Stack = zref.toArray := by kernel_rfl
set_option maxRecDepth 20000 in
theorem new12_spec {x : Int} {ws : List Int} (hv : fsIn X v p.fs) (ha : Sl X a (rgs ws)) (hX : ∀ x, x ∈ X → x ∈ H) (hwl : ws.length ≤ 1000) (h : Ow B w H)
    (kbad : okP' p = false → ∀ w', Ow B w' H → K (.tuple #[.agg zref.toArray, vI 2]) w')
    (krange : okP' p = true → (∀ f, 0 ≤ x → p.fs[x.toNat]? = some f → ¬ (ws.length : Int) ≤ f.regs) → ∀ w', Ow B w' H → K (.tuple #[.agg zref.toArray, vI 4]) w')
    (kok : okP' p = true → ∀ f, 0 ≤ x → p.fs[x.toNat]? = some f → (ws.length : Int) ≤ f.regs → ∀ (S : Hp) (c : Value) (bx : Nat) w', Vc.Own S T.t_uint32 1 c (begF x.toNat f ws).regs.length (rgs (begF x.toNat f ws).regs) → Ow B w' ((bx, cel (frow (begF x.toNat f ws) c) T.t_api_Frame) :: (S ++ H)) →
      K (.tuple #[.agg (rsC p v (.slice (some ⟨bx, 0, none⟩) 1 1) 0).toArray, vI 0]) w') :
    callW PG N.linesmanref12_New [.agg (p.cells v).toArray, vI x, a] K PK w := by
  refine linesmanref12_New.ok ?_
  unfold linesmanref12_New.C
  have hvp : plainV v = true := fsIn.plain hv
  refine al_rule h (l := p.cells v) rfl (fun b2 w1 h1 => ?_)
  refine al_rule h1 (l := zref) zref_eq (fun b4 w2 h2 => ?_)
  have hX : ∀ x, x ∈ X → x ∈ (b4, cel zref T.t_linesmanref12_Stack) :: (b2, cel (p.cells v) T.t_api_Program) :: H := fun x hx => .tail _ (.tail _ (hX x hx))
  have m2 : (b2, cel (p.cells v) T.t_api_Program) ∈ (b4, cel zref T.t_linesmanref12_Stack) :: (b2, cel (p.cells v) T.t_api_Program) :: H := .tail _ (.head _)
  have set6 : ∀ (l : List Value), l.length = 6 → zref.take 0 ++ l ++ zref.drop (0 + 6) = l := fun l hl => by simp
  refine ldn_here h2 m2 (vs := p.cells v) rfl rfl ?_
  refine right09_spec hv hX h2 (fun w3 h3 => ?_)
  repeat (first | refine pu_not ?_ | refine pu_eql ?_ | refine pu_neq ?_ | refine pu_lss ?_ | refine pu_leq ?_ | refine pu_gtr ?_ | refine pu_geq ?_ | refine pu_add ?_ | refine pu_sub ?_ | refine pu_mul ?_ | refine pu_neg ?_ | refine fa_at ?_ | refine nl_ptr ?_ | refine ex20 ?_ | refine ex21 ?_ | refine ex30 ?_ | refine ex31 ?_ | refine ex32 ?_ | refine ln_rule ?_ | refine lnT_rule ?_ | refine pu_and ?_ | refine pu_or ?_ | refine pu_xor ?_ | refine pu_seq ?_ | refine pu_sne ?_)
  refine cnd (fun hq => ?_) (fun hq => ?_)
  · have hq : okP' p = false := by simpa using hq
    refine pu_build zref (by kernel_rfl) ?_
    refine st_here (A := []) h3 zref rfl rfl rfl (by simp) (fun w4 h4 => ?_)
    rw [set6 _ rfl] at h4
    refine ldn_here h4 (.head _) (vs := zref) rfl rfl ?_
    exact kbad hq _ (Ow.drop (Ow.drop h4))
  have hok : okP' p = true := by simpa using hq
  have hnf := num_facts (ok_num hok)
  repeat (first | refine pu_not ?_ | refine pu_eql ?_ | refine pu_neq ?_ | refine pu_lss ?_ | refine pu_leq ?_ | refine pu_gtr ?_ | refine pu_geq ?_ | refine pu_add ?_ | refine pu_sub ?_ | refine pu_mul ?_ | refine pu_neg ?_ | refine fa_at ?_ | refine nl_ptr ?_ | refine ex20 ?_ | refine ex21 ?_ | refine ex30 ?_ | refine ex31 ?_ | refine ex32 ?_ | refine ln_rule ?_ | refine lnT_rule ?_ | refine pu_and ?_ | refine pu_or ?_ | refine pu_xor ?_ | refine pu_seq ?_ | refine pu_sne ?_)
  refine cnd (fun h0 => ?_) (fun h0 => ?_)
  · have h0 : x < 0 := by simpa using h0
    refine pu_build zref (by kernel_rfl) ?_
    refine st_here (A := []) h3 zref rfl rfl rfl (by simp) (fun w4 h4 => ?_)
    rw [set6 _ rfl] at h4
    refine ldn_here h4 (.head _) (vs := zref) rfl rfl ?_
    exact krange hok (fun f hx => by omega) _ (Ow.drop (Ow.drop h4))
  have h0 : 0 ≤ x := by simpa using h0
  repeat (first | refine pu_not ?_ | refine pu_eql ?_ | refine pu_neq ?_ | refine pu_lss ?_ | refine pu_leq ?_ | refine pu_gtr ?_ | refine pu_geq ?_ | refine pu_add ?_ | refine pu_sub ?_ | refine pu_mul ?_ | refine pu_neg ?_ | refine fa_at ?_ | refine nl_ptr ?_ | refine ex20 ?_ | refine ex21 ?_ | refine ex30 ?_ | refine ex31 ?_ | refine ex32 ?_ | refine ln_rule ?_ | refine lnT_rule ?_ | refine pu_and ?_ | refine pu_or ?_ | refine pu_xor ?_ | refine pu_seq ?_ | refine pu_sne ?_)
  refine ld_here h3 m2 (v := v) rfl ?_
  refine hv.ln ?_
  repeat (first | refine pu_not ?_ | refine pu_eql ?_ | refine pu_neq ?_ | refine pu_lss ?_ | refine pu_leq ?_ | refine pu_gtr ?_ | refine pu_geq ?_ | refine pu_add ?_ | refine pu_sub ?_ | refine pu_mul ?_ | refine pu_neg ?_ | refine fa_at ?_ | refine nl_ptr ?_ | refine ex20 ?_ | refine ex21 ?_ | refine ex30 ?_ | refine ex31 ?_ | refine ex32 ?_ | refine ln_rule ?_ | refine lnT_rule ?_ | refine pu_and ?_ | refine pu_or ?_ | refine pu_xor ?_ | refine pu_seq ?_ | refine pu_sne ?_)
  refine cnd (fun hr => ?_) (fun hr => ?_)
  · have hr : (p.fs.length : Int) ≤ x := by simpa using hr
    refine pu_build zref (by kernel_rfl) ?_
    refine st_here (A := []) h3 zref rfl rfl rfl (by simp) (fun w4 h4 => ?_)
    rw [set6 _ rfl] at h4
    refine ldn_here h4 (.head _) (vs := zref) rfl rfl ?_
    refine krange hok (fun f hx hf => ?_) _ (Ow.drop (Ow.drop h4))
    have := (List.getElem?_eq_some_iff.1 hf).1
    omega
  have hr : x < p.fs.length := by simpa using hr
  obtain ⟨ps, cc, f, f1, f2, f3, f4, f5⟩ := hv.at (n := x) h0 hr
  have hfr := hnf.2.2 f (List.mem_of_getElem? f1)
  have hrl : (rgs ws).length = ws.length := by simp [rgs]
  refine sl_ln ha ?_
  rw [hrl]
  repeat (first | refine pu_not ?_ | refine pu_eql ?_ | refine pu_neq ?_ | refine pu_lss ?_ | refine pu_leq ?_ | refine pu_gtr ?_ | refine pu_geq ?_ | refine pu_add ?_ | refine pu_sub ?_ | refine pu_mul ?_ | refine pu_neg ?_ | refine fa_at ?_ | refine nl_ptr ?_ | refine ex20 ?_ | refine ex21 ?_ | refine ex30 ?_ | refine ex31 ?_ | refine ex32 ?_ | refine ln_rule ?_ | refine lnT_rule ?_ | refine pu_and ?_ | refine pu_or ?_ | refine pu_xor ?_ | refine pu_seq ?_ | refine pu_sne ?_)
  refine ld_here h3 m2 (v := v) rfl ?_
  refine sls_fld h3 (f2.mono hX) h0 f3 (j := 0) (v := vI f.regs) rfl ?_
  repeat (first | refine pu_not ?_ | refine pu_eql ?_ | refine pu_neq ?_ | refine pu_lss ?_ | refine pu_leq ?_ | refine pu_gtr ?_ | refine pu_geq ?_ | refine pu_add ?_ | refine pu_sub ?_ | refine pu_mul ?_ | refine pu_neg ?_ | refine fa_at ?_ | refine nl_ptr ?_ | refine ex20 ?_ | refine ex21 ?_ | refine ex30 ?_ | refine ex31 ?_ | refine ex32 ?_ | refine ln_rule ?_ | refine lnT_rule ?_ | refine pu_and ?_ | refine pu_or ?_ | refine pu_xor ?_ | refine pu_seq ?_ | refine pu_sne ?_)
  refine cnd (fun h5 => ?_) (fun h5 => ?_)
  · have h5 : f.regs < ws.length := by simpa using h5
    refine pu_build zref (by kernel_rfl) ?_
    refine st_here (A := []) h3 zref rfl rfl rfl (by simp) (fun w4 h4 => ?_)
    rw [set6 _ rfl] at h4
    refine ldn_here h4 (.head _) (vs := zref) rfl rfl ?_
    refine krange hok (fun f' hx hf => ?_) _ (Ow.drop (Ow.drop h4))
    rw [f1] at hf
    cases hf
    omega
  have h5 : (ws.length : Int) ≤ f.regs := by simpa using h5
  refine ⟨fun w => Ow B w ((b4, cel zref T.t_linesmanref12_Stack) :: (b2, cel (p.cells v) T.t_api_Program) :: H), h3.drew, ?_⟩
  refine ldsn_here (fun w h => h) m2 (vs := p.cells v) rfl rfl ?_
  repeat (first | refine pu_not ?_ | refine pu_eql ?_ | refine pu_neq ?_ | refine pu_lss ?_ | refine pu_leq ?_ | refine pu_gtr ?_ | refine pu_geq ?_ | refine pu_add ?_ | refine pu_sub ?_ | refine pu_mul ?_ | refine pu_neg ?_ | refine fa_at ?_ | refine nl_ptr ?_ | refine ex20 ?_ | refine ex21 ?_ | refine ex30 ?_ | refine ex31 ?_ | refine ex32 ?_ | refine ln_rule ?_ | refine lnT_rule ?_ | refine pu_and ?_ | refine pu_or ?_ | refine pu_xor ?_ | refine pu_seq ?_ | refine pu_sne ?_)
  refine lds_here (fun w h => h) m2 (v := v) rfl ?_
  refine sls_flds (fun w h => h) (f2.mono hX) h0 f3 (j := 0) (v := vI f.regs) rfl ?_
  have e2 : f.regs = ((f.regs.toNat : Nat) : Int) := by omega
  have harg : [vI f.regs, a] = [vI (f.regs.toNat : Nat), a] := by rw [← e2]
  rw [harg]
  refine entered12_spec h3.drew ha hX (by omega) (by omega) (fun S c w4 h4 ho => ?_)
  have sub : ∀ {A : Hp} {w : World}, Ow B w (A ++ ((b4, cel zref T.t_linesmanref12_Stack) :: (b2, cel (p.cells v) T.t_api_Program) :: H)) → Ow B w ((b4, cel zref T.t_linesmanref12_Stack) :: (b2, cel (p.cells v) T.t_api_Program) :: H) := fun h => h.sub (List.sublist_append_right _ _)
  refine ⟨sub h4, ?_⟩
  obtain ⟨a9, c9, hcv⟩ := ho.len
  have hcp : plainV c = true := by rw [hcv]; rfl
  have e1 : x = ((x.toNat : Nat) : Int) := by omega
  have bld : ∀ {KK : Value → Prop}, KK (.agg (frow (begF x.toNat f ws) c).toArray) → pu PG (Instr.build T.t_api_Frame #[(0, vI x), (3, c)]) KK := fun {KK} k => by
    refine pu_build [vI x, vI 0, vI 0, c] (by rw [hcv]; kernel_rfl) ?_
    have : [vI x, vI 0, vI 0, c] = frow (begF x.toNat f ws) c := by
      show [vI x, vI 0, vI 0, c] = [vI (x.toNat : Nat), vI (0 : Nat), vI (0 : Nat), c]
      rw [← e1]; rfl
    rw [this]; exact k
  refine bld ?_
  refine bs_rule h4 (frow (begF x.toNat f ws) c) (by rw [hcv]; kernel_rfl) (fun bx w5 h5' => ⟨sub (A := _ :: S) h5', ?_⟩)
  refine pu_build (rsC p v (.slice (some ⟨bx, 0, none⟩) 1 1) 0) (by kernel_rfl) ?_
  have h6 : Ow B w5 (((bx, cel (frow (begF x.toNat f ws) c) T.t_api_Frame) :: S) ++ (b4, cel zref T.t_linesmanref12_Stack) :: (b2, cel (p.cells v) T.t_api_Program) :: H) := h5'
  refine st_here h6 (rsC p v (.slice (some ⟨bx, 0, none⟩) 1 1) 0) rfl rfl (by simp only [List.all_cons, hvp]; rfl) (by simp) (fun w6 h7 => ?_)
  rw [set6 _ rfl] at h7
  refine ldn_here h7 (List.mem_append_right _ (.head _)) (vs := rsC p v (.slice (some ⟨bx, 0, none⟩) 1 1) 0) rfl rfl ?_
  refine kok hok f h0 f1 h5 S c bx w6 ?_ (h7.sub (.cons_cons _ ((List.Sublist.refl S).append (.cons _ (.cons _ (.refl _))))))
  have : (begF x.toNat f ws).regs.length = f.regs.toNat := padd_len (by omega)
  rw [this]; exact ho
end
end Go.Proofs.YtkkkcafkepnecaaGreat

