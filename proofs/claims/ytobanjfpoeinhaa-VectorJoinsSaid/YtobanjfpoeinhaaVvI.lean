/- The law VectorJoins: its walk. -/
import Derived.Test.YtobanjfpoeinhaaVvG
set_option linter.unusedVariables false
set_option linter.unusedSimpArgs false
namespace Go.Proofs.Ytobanjfpoeinhaa
open Go Go.RowKit Vc Vx
attribute [local irreducible] binV Op.unary convert nlW faW ldS ldW ixS ixA ixV ixT exW lnS lnT pu stW alW opW opU bsW mkW

section
variable {B w : World} {H : Hp} {K : Value → World → Prop} {PK : List PanicEntry → World → Prop}
theorem bs_own {n : Nat} {cs : Option (Array Value)} {l : List Nat} {KW : Value → World → Prop} (h : Ow B w H) (hc : cs = some (qv l).toArray ∧ n = l.length) (hl : l.length < 1000) (k : ∀ S v w', Ow B w' (S ++ H) → Vc.Own S T.t_uint64 1 v l.length (qv l) → KW v w') : bsW T.t_uint64 n cs KW w := by
  obtain ⟨hc, rfl⟩ := hc
  refine bs_rule h (qv l) hc (fun b w1 h1 => ?_)
  exact k [(b, cel (qv l) T.t_uint64)] _ _ h1 (Own.mk (Nat.le_refl _) (by simp [maxLen]; omega) (by simp) (by rw [Nat.mul_one]; exact List.take_of_length_le (by simp)))
section
variable {KW : Value → World → Prop} {S X : Hp} {v x : Value} {n : Nat} {l m : List Nat}
theorem app_own1 {C : Hp} (h : Ow B w (S ++ C)) (ho : Vc.Own S T.t_uint64 1 v n (qv l)) (hs : Cl X x m) (hX : ∀ y, y ∈ X → y ∈ S ++ C) (hl : n + m.length < 1000000)
    (k : ∀ S' v' w', Ow B w' (S' ++ C) → Vc.Own S' T.t_uint64 1 v' (n + m.length) (qv (l ++ m)) → KW v' w') : opW PG (Builtin.append_ #[T.t_api_Clock, T.t_api_Clock] T.t_api_Clock #[v, x]) KW w := by
  refine app1 (A := []) (z := v64 0) (bytes := 8) h ho hs hX (by simp [plainV]) und_clk info_u64 rfl (by simp [maxLen]; omega) (by simp; omega) (fun S' v' w' h' ho' => k S' v' w' h' ?_)
  simpa [qv] using ho'
theorem app_own2 {A C : Hp} (h : Ow B w (A ++ (S ++ C))) (ho : Vc.Own S T.t_uint64 1 v n (qv l)) (hs : Cl X x m) (hX : ∀ y, y ∈ X → y ∈ A ++ (S ++ C)) (hl : n + m.length < 1000000)
    (k : ∀ S' v' w', Ow B w' (A ++ (S' ++ C)) → Vc.Own S' T.t_uint64 1 v' (n + m.length) (qv (l ++ m)) → KW v' w') : opW PG (Builtin.append_ #[T.t_api_Clock, T.t_api_Clock] T.t_api_Clock #[v, x]) KW w := by
  refine app1 (A := A) (z := v64 0) (bytes := 8) (by rw [List.append_assoc]; exact h) ho hs (by rw [List.append_assoc]; exact hX) (by simp [plainV]) und_clk info_u64 rfl (by simp [maxLen]; omega) (by simp; omega) (fun S' v' w' h' ho' => k S' v' w' (by rw [List.append_assoc] at h'; exact h') ?_)
  simpa [qv] using ho'
theorem app_own3 {A A2 C : Hp} (h : Ow B w (A ++ (A2 ++ (S ++ C)))) (ho : Vc.Own S T.t_uint64 1 v n (qv l)) (hs : Cl X x m) (hX : ∀ y, y ∈ X → y ∈ A ++ (A2 ++ (S ++ C))) (hl : n + m.length < 1000000)
    (k : ∀ S' v' w', Ow B w' (A ++ (A2 ++ (S' ++ C))) → Vc.Own S' T.t_uint64 1 v' (n + m.length) (qv (l ++ m)) → KW v' w') : opW PG (Builtin.append_ #[T.t_api_Clock, T.t_api_Clock] T.t_api_Clock #[v, x]) KW w := by
  refine app_own2 (A := A ++ A2) (C := C) (by rw [List.append_assoc]; exact h) ho hs (by rw [List.append_assoc]; exact hX) hl (fun S' v' w' h' ho' => k S' v' w' (by rw [List.append_assoc] at h'; exact h') ho')
end
theorem k0_spec {R : Ending → World → Prop} {Y : Hp} {t c : Nat} {x y z q u : Value} {a b cc : List Nat} (h : Ow B w (Y ++ ((t, cel [x, y, z] T.t_3_api_Clock) :: H))) (hq : Sl Y q (qv (a ++ [77]))) (hc : a.length + 1 ≤ c) (hu : Cl Y u b)
    (ha : Cl H x a) (hb : Cl H y b) (hz : Cl H z cc) (la : a.length ≤ 40) (lb : b.length ≤ 40) (lc : cc.length ≤ 40) (qa : Qd a) (qb : Qd b) (qc : Qd cc) (k : ∀ w', Ow B w' H → R (.returned (vB true)) w') :
    linesmanlaw04_VectorJoins.k0 R (ptr t) (cut q 0 a.length c) u w := by
  unfold linesmanlaw04_VectorJoins.k0
  have mt : ∀ {S : Hp}, (t, cel [x, y, z] T.t_3_api_Clock) ∈ S ++ (Y ++ ((t, cel [x, y, z] T.t_3_api_Clock) :: H)) := List.mem_append_right _ (List.mem_append_right _ (.head _))
  have hx0 := sl_cut (l := 0) (h := a.length) (m := c) hq (by omega) (by simp) (by omega)
  have hp : Cl Y (cut q 0 a.length c) a := by
    rw [List.drop_zero, ← List.map_take, List.take_left' rfl] at hx0
    exact hx0
  have mY : ∀ v, v ∈ Y → v ∈ Y ++ ((t, cel [x, y, z] T.t_3_api_Clock) :: H) := fun v hv => List.mem_append_left _ hv
  have mH : ∀ v, v ∈ H → v ∈ Y ++ ((t, cel [x, y, z] T.t_3_api_Clock) :: H) := fun v hv => List.mem_append_right _ (.tail _ hv)
  have hp' := hp.mono mY
  have hu' := hu.mono mY
  have ha' := ha.mono mH
  have hb' := hb.mono mH
  have hz' := hz.mono mH
  have hq' := hq.mono mY
  refine ixA_at (by omega) (by omega) ?_
  refine ld_here h (mt (S := [])) rfl ?_
  refine bs_rule h [cut q 0 a.length c, u, z] (bsw3 hp' hu' hz') (fun b1 w1 h1 => ?_)
  refine join_spec (ls := [a, b, cc]) h1 ⟨_, sl_here (l := [cut q 0 a.length c, u, z]) (.head _), ⟨hp'.cons, qa⟩, ⟨hu'.cons, qb⟩, ⟨hz'.cons, qc⟩, trivial⟩ (fun y hy => hy) (by simp) (by simp; omega) (fun S2 j w2 h2 hj => ?_)
  have h2 : Ow B w2 (S2 ++ (Y ++ ((t, cel [x, y, z] T.t_3_api_Clock) :: H))) := h2.sub ((List.Sublist.refl S2).append (.cons _ (.refl _)))
  have hl2 := joins_len (ls := [a, b, cc]) (n := 40) (by simp; omega)
  refine ⟨fun w => Ow B w (Y ++ ((t, cel [x, y, z] T.t_3_api_Clock) :: H)), drp h2.drew, ?_⟩
  refine pu_slarr (n := 3) (e := T.t_api_Clock) (i := (PG.info? T.t_api_Clock).get!) (by kernel_rfl) (by kernel_rfl) ?_
  refine rjoin_spec (ls := [a, b, cc]) (X0 := (t, cel [x, y, z] T.t_3_api_Clock) :: H) h2.drew ⟨_, sl_part (xs := [x, y, z]) (.head _) rfl rfl, ⟨ha.cons, qa⟩, ⟨hb.cons, qb⟩, ⟨hz.cons, qc⟩, trivial⟩ (fun y hy => List.mem_append_right _ (List.mem_append_right _ hy)) (by simp) (by simp; omega) (fun S3 j3 w3 h3 hj3 => ?_)
  refine ⟨drp (drp h3), ?_⟩
  refine equal_spec h3 (hj.mono fun y hy => List.mem_append_right _ (List.mem_append_left _ hy)) (hj3.mono fun y hy => List.mem_append_left _ hy) (by omega) (fun w4 h4 => ?_)
  have h4 := drp (drp h4)
  refine ⟨h4, ?_⟩
  refine cnd_t (by simp) ?_
  refine ixA_at (by omega) (by omega) ?_
  refine lds_here (fun w h => h) (mt (S := [])) rfl ?_
  refine equal_spec h4 hp' ha' (by omega) (fun w5 h5 => ?_)
  refine ⟨h5, ?_⟩
  refine cnd_t (by simp) ?_
  refine sl_ln hp ?_
  rw [List.length_map]
  repeat (first | refine pu_not ?_ | refine pu_eql ?_ | refine pu_neq ?_ | refine pu_lss ?_ | refine pu_leq ?_ | refine pu_gtr ?_ | refine pu_geq ?_ | refine pu_add ?_ | refine pu_sub ?_ | refine pu_mul ?_ | refine pu_neg ?_ | refine fa_at ?_ | refine nl_ptr ?_ | refine ex20 ?_ | refine ex21 ?_ | refine ex30 ?_ | refine ex31 ?_ | refine ex32 ?_ | refine ln_rule ?_ | refine lnT_rule ?_ | refine pu_and ?_ | refine pu_or ?_ | refine pu_xor ?_ | refine pu_seq ?_ | refine pu_sne ?_)
  rw [wrap64_in (by omega) (by omega)]
  refine recut hq (by simp) (by simpa using hc) (fun u2 hu2 => ?_)
  refine sl_ln hp ?_
  rw [List.length_map]
  refine sl_lds (v := v64 77) (fun w h => h) (hu2.mono mY) (by omega) (by rw [Int.toNat_natCast, List.getElem?_take, if_pos (by omega)]; simp [qv]) ?_
  repeat (first | refine pu_not ?_ | refine pu_eql ?_ | refine pu_neq ?_ | refine pu_lss ?_ | refine pu_leq ?_ | refine pu_gtr ?_ | refine pu_geq ?_ | refine pu_add ?_ | refine pu_sub ?_ | refine pu_mul ?_ | refine pu_neg ?_ | refine fa_at ?_ | refine nl_ptr ?_ | refine ex20 ?_ | refine ex21 ?_ | refine ex30 ?_ | refine ex31 ?_ | refine ex32 ?_ | refine ln_rule ?_ | refine lnT_rule ?_ | refine pu_and ?_ | refine pu_or ?_ | refine pu_xor ?_ | refine pu_seq ?_ | refine pu_sne ?_)
  refine cnd_t rfl ?_
  refine ixA_at (by omega) (by omega) ?_
  refine lds_here (fun w h => h) (mt (S := [])) rfl ?_
  refine equal_spec h5 hu' hb' (by omega) (fun w6 h6 => ?_)
  refine ⟨h6, ?_⟩
  refine cnd_t (by simp) ?_
  refine ixA_at (by omega) (by omega) ?_
  refine lds_here (fun w h => h) (mt (S := [])) rfl ?_
  refine ixA_at (by omega) (by omega) ?_
  refine lds_here (fun w h => h) (mt (S := [])) rfl ?_
  refine stands_spec h6 hp' hu' (by omega) (by omega) (fun w7 h7 => ?_)
  refine ⟨h7, ?_⟩
  refine rstands_spec h7 ha' hb' (by omega) (by omega) (fun w8 h8 => ?_)
  refine ⟨h8, ?_⟩
  repeat (first | refine pu_not ?_ | refine pu_eql ?_ | refine pu_neq ?_ | refine pu_lss ?_ | refine pu_leq ?_ | refine pu_gtr ?_ | refine pu_geq ?_ | refine pu_add ?_ | refine pu_sub ?_ | refine pu_mul ?_ | refine pu_neg ?_ | refine fa_at ?_ | refine nl_ptr ?_ | refine ex20 ?_ | refine ex21 ?_ | refine ex30 ?_ | refine ex31 ?_ | refine ex32 ?_ | refine ln_rule ?_ | refine lnT_rule ?_ | refine pu_and ?_ | refine pu_or ?_ | refine pu_xor ?_ | refine pu_seq ?_ | refine pu_sne ?_)
  refine cnd_t (by simp) ?_
  refine join_spec (ls := []) (X0 := []) h8 ⟨[], ⟨none, 0, rfl, Nat.le_refl _, by simp⟩, trivial⟩ (by simp) (by simp) (by simp) (fun S9 j9 w9 h9 hj9 => ?_)
  refine ⟨drp h9, ?_⟩
  refine sl_ln hj9 ?_
  have e9 : (qv (joins [])).length = 0 := by decide
  rw [e9]
  repeat (first | refine pu_not ?_ | refine pu_eql ?_ | refine pu_neq ?_ | refine pu_lss ?_ | refine pu_leq ?_ | refine pu_gtr ?_ | refine pu_geq ?_ | refine pu_add ?_ | refine pu_sub ?_ | refine pu_mul ?_ | refine pu_neg ?_ | refine fa_at ?_ | refine nl_ptr ?_ | refine ex20 ?_ | refine ex21 ?_ | refine ex30 ?_ | refine ex31 ?_ | refine ex32 ?_ | refine ln_rule ?_ | refine lnT_rule ?_ | refine pu_and ?_ | refine pu_or ?_ | refine pu_xor ?_ | refine pu_seq ?_ | refine pu_sne ?_)
  refine cnd_t rfl ?_
  refine vworks_spec (drp h9) (fun w10 h10 => ?_)
  refine ⟨h10, ?_⟩
  exact k _ (drp h10).drop
theorem VectorJoins.law {v0 : Value} (g0 : FitV PG H T.t_3_api_Clock v0) (h : Ow B w H) (k : ∀ w', Ow B w' H → K (vB true) w') : callW PG N.linesmanlaw04_VectorJoins [v0] K PK w := by
  obtain ⟨x, y, z, a, b, c, rfl, ⟨ha, qa⟩, ⟨hb, qb⟩, ⟨hc, qc⟩⟩ := three_of g0
  clear g0
  refine linesmanlaw04_VectorJoins.ok ?_
  unfold linesmanlaw04_VectorJoins.C
  refine al_rule h (l := [x, y, z]) rfl (fun t w1 h1 => ?_)
  refine pu_slarr (n := 3) (e := T.t_api_Clock) (i := (PG.info? T.t_api_Clock).get!) (by kernel_rfl) (by kernel_rfl) ?_
  refine few_spec (ls := [a, b, c]) h1 ⟨_, sl_part (xs := [x, y, z]) (.head _) rfl rfl, ⟨ha.cons, qa⟩, ⟨hb.cons, qb⟩, ⟨hc.cons, qc⟩, trivial⟩ (by simp) (fun w2 h2 => ?_)
  repeat (first | refine pu_not ?_ | refine pu_eql ?_ | refine pu_neq ?_ | refine pu_lss ?_ | refine pu_leq ?_ | refine pu_gtr ?_ | refine pu_geq ?_ | refine pu_add ?_ | refine pu_sub ?_ | refine pu_mul ?_ | refine pu_neg ?_ | refine fa_at ?_ | refine nl_ptr ?_ | refine ex20 ?_ | refine ex21 ?_ | refine ex30 ?_ | refine ex31 ?_ | refine ex32 ?_ | refine ln_rule ?_ | refine lnT_rule ?_ | refine pu_and ?_ | refine pu_or ?_ | refine pu_xor ?_ | refine pu_seq ?_ | refine pu_sne ?_)
  refine cnd (fun _ => vworks_spec h2 (fun w' h' => k w' h'.drop)) (fun hf => ?_)
  have hf : a.length ≤ 40 ∧ b.length ≤ 40 ∧ c.length ≤ 40 := by simpa using hf
  obtain ⟨la, lb, lc⟩ := hf
  refine ⟨fun w => Ow B w ((t, cel [x, y, z] T.t_3_api_Clock) :: H), h2.drew, ?_⟩
  refine ixA_at (by omega) (by omega) ?_
  refine lds_here (fun w h => h) (.head _) rfl ?_
  refine ixA_at (by omega) (by omega) ?_
  refine lds_here (fun w h => h) (.head _) rfl ?_
  refine sl_ln ha ?_
  rw [List.length_map]
  refine ixA_at (by omega) (by omega) ?_
  refine lds_here (fun w h => h) (.head _) rfl ?_
  have hA := h2.drew
  refine ⟨?_, ?_⟩
  · skip
    refine bs_own (l := []) hA ⟨by kernel_rfl, rfl⟩ (by simp) (fun S1 v1 w1 h1 o1 => ?_)
    refine ⟨(drp h1), ?_⟩
    refine ⟨?_, ?_⟩
    · skip
      refine app_own1 h1 o1 ha (fun y hy => List.mem_append_right _ (.tail _ hy)) (by simp; omega) (fun S2 v2 w2 h2 o2 => ?_)
      refine ⟨(drp h2), ?_⟩
      refine ⟨?_, ?_⟩
      · skip
        refine bs_own (l := [77]) h2 ⟨by kernel_rfl, rfl⟩ (by simp) (fun S3 v3 w3 h3 o3 => ?_)
        refine ⟨(drp (drp h3)), ?_⟩
        refine ⟨?_, ?_⟩
        · skip
          refine app_own2 h3 o2 o3.sl (fun y hy => List.mem_append_left _ (hy)) (by simp; omega) (fun S4 v4 w4 h4 o4 => ?_)
          refine ⟨(drp (drp h4)), ?_⟩
          have q5 : Sl S4 v4 (qv (a ++ [77])) := by simpa [qv] using o4.sl
          refine cutH2 q5 (by omega) (by simp; omega) (fun c5 hc5 => ?_)
          rw [Int.toNat_natCast]
          refine bs_own (l := []) h4 ⟨by kernel_rfl, rfl⟩ (by simp) (fun S6 v6 w6 h6 o6 => ?_)
          refine ⟨(drp (drp (drp h6))), ?_⟩
          refine app_own1 h6 o6 hb (fun y hy => List.mem_append_right _ (List.mem_append_right _ (List.mem_append_right _ (.tail _ hy)))) (by simp; omega) (fun S7 v7 w7 h7 o7 => ?_)
          refine ⟨(drp (drp (drp h7))), ?_⟩
          refine k0_spec (Y := S7 ++ S3 ++ S4) (by simpa only [List.append_assoc] using h7) (q5.mono fun y hy => List.mem_append_right _ (hy)) (by simpa using hc5) (Sl.mono (xs := qv b) (by simpa [qv] using o7.sl) fun y hy => List.mem_append_left _ (List.mem_append_left _ (hy))) ha hb hc la lb lc qa qb qc k
        · skip
          refine bs_own (l := []) h3 ⟨by kernel_rfl, rfl⟩ (by simp) (fun S9 v9 w9 h9 o9 => ?_)
          refine ⟨(drp (drp (drp h9))), ?_⟩
          refine app_own3 h9 o2 o3.sl (fun y hy => List.mem_append_right _ (List.mem_append_left _ (hy))) (by simp; omega) (fun S10 v10 w10 h10 o10 => ?_)
          refine ⟨(drp (drp (drp h10))), ?_⟩
          have q11 : Sl S10 v10 (qv (a ++ [77])) := by simpa [qv] using o10.sl
          refine cutH2 q11 (by omega) (by simp; omega) (fun c11 hc11 => ?_)
          rw [Int.toNat_natCast]
          refine app_own1 h10 o9 hb (fun y hy => List.mem_append_right _ (List.mem_append_right _ (List.mem_append_right _ (.tail _ hy)))) (by simp; omega) (fun S12 v12 w12 h12 o12 => ?_)
          refine ⟨(drp (drp (drp h12))), ?_⟩
          refine k0_spec (Y := S12 ++ S3 ++ S10) (by simpa only [List.append_assoc] using h12) (q11.mono fun y hy => List.mem_append_right _ (hy)) (by simpa using hc11) (Sl.mono (xs := qv b) (by simpa [qv] using o12.sl) fun y hy => List.mem_append_left _ (List.mem_append_left _ (hy))) ha hb hc la lb lc qa qb qc k
      · skip
        refine bs_own (l := []) h2 ⟨by kernel_rfl, rfl⟩ (by simp) (fun S14 v14 w14 h14 o14 => ?_)
        refine ⟨(drp (drp h14)), ?_⟩
        refine bs_own (l := [77]) h14 ⟨by kernel_rfl, rfl⟩ (by simp) (fun S15 v15 w15 h15 o15 => ?_)
        refine ⟨(drp (drp (drp h15))), ?_⟩
        refine app_own3 h15 o2 o15.sl (fun y hy => List.mem_append_left _ (hy)) (by simp; omega) (fun S16 v16 w16 h16 o16 => ?_)
        refine ⟨(drp (drp (drp h16))), ?_⟩
        have q17 : Sl S16 v16 (qv (a ++ [77])) := by simpa [qv] using o16.sl
        refine cutH2 q17 (by omega) (by simp; omega) (fun c17 hc17 => ?_)
        rw [Int.toNat_natCast]
        refine app_own2 h16 o14 hb (fun y hy => List.mem_append_right _ (List.mem_append_right _ (List.mem_append_right _ (.tail _ hy)))) (by simp; omega) (fun S18 v18 w18 h18 o18 => ?_)
        refine ⟨(drp (drp (drp h18))), ?_⟩
        refine k0_spec (Y := S15 ++ S18 ++ S16) (by simpa only [List.append_assoc] using h18) (q17.mono fun y hy => List.mem_append_right _ (hy)) (by simpa using hc17) (Sl.mono (xs := qv b) (by simpa [qv] using o18.sl) fun y hy => List.mem_append_left _ (List.mem_append_right _ (hy))) ha hb hc la lb lc qa qb qc k
    · skip
      refine ⟨?_, ?_⟩
      · skip
        refine bs_own (l := [77]) h1 ⟨by kernel_rfl, rfl⟩ (by simp) (fun S20 v20 w20 h20 o20 => ?_)
        refine ⟨(drp (drp h20)), ?_⟩
        refine ⟨?_, ?_⟩
        · skip
          refine app_own2 h20 o1 ha (fun y hy => List.mem_append_right _ (List.mem_append_right _ (.tail _ hy))) (by simp; omega) (fun S21 v21 w21 h21 o21 => ?_)
          refine ⟨(drp (drp h21)), ?_⟩
          refine ⟨?_, ?_⟩
          · skip
            refine app_own2 h21 o21 o20.sl (fun y hy => List.mem_append_left _ (hy)) (by simp; omega) (fun S22 v22 w22 h22 o22 => ?_)
            refine ⟨(drp (drp h22)), ?_⟩
            have q23 : Sl S22 v22 (qv (a ++ [77])) := by simpa [qv] using o22.sl
            refine cutH2 q23 (by omega) (by simp; omega) (fun c23 hc23 => ?_)
            rw [Int.toNat_natCast]
            refine bs_own (l := []) h22 ⟨by kernel_rfl, rfl⟩ (by simp) (fun S24 v24 w24 h24 o24 => ?_)
            refine ⟨(drp (drp (drp h24))), ?_⟩
            refine app_own1 h24 o24 hb (fun y hy => List.mem_append_right _ (List.mem_append_right _ (List.mem_append_right _ (.tail _ hy)))) (by simp; omega) (fun S25 v25 w25 h25 o25 => ?_)
            refine ⟨(drp (drp (drp h25))), ?_⟩
            refine k0_spec (Y := S25 ++ S20 ++ S22) (by simpa only [List.append_assoc] using h25) (q23.mono fun y hy => List.mem_append_right _ (hy)) (by simpa using hc23) (Sl.mono (xs := qv b) (by simpa [qv] using o25.sl) fun y hy => List.mem_append_left _ (List.mem_append_left _ (hy))) ha hb hc la lb lc qa qb qc k
          · skip
            refine bs_own (l := []) h21 ⟨by kernel_rfl, rfl⟩ (by simp) (fun S27 v27 w27 h27 o27 => ?_)
            refine ⟨(drp (drp (drp h27))), ?_⟩
            refine app_own3 h27 o21 o20.sl (fun y hy => List.mem_append_right _ (List.mem_append_left _ (hy))) (by simp; omega) (fun S28 v28 w28 h28 o28 => ?_)
            refine ⟨(drp (drp (drp h28))), ?_⟩
            have q29 : Sl S28 v28 (qv (a ++ [77])) := by simpa [qv] using o28.sl
            refine cutH2 q29 (by omega) (by simp; omega) (fun c29 hc29 => ?_)
            rw [Int.toNat_natCast]
            refine app_own1 h28 o27 hb (fun y hy => List.mem_append_right _ (List.mem_append_right _ (List.mem_append_right _ (.tail _ hy)))) (by simp; omega) (fun S30 v30 w30 h30 o30 => ?_)
            refine ⟨(drp (drp (drp h30))), ?_⟩
            refine k0_spec (Y := S30 ++ S20 ++ S28) (by simpa only [List.append_assoc] using h30) (q29.mono fun y hy => List.mem_append_right _ (hy)) (by simpa using hc29) (Sl.mono (xs := qv b) (by simpa [qv] using o30.sl) fun y hy => List.mem_append_left _ (List.mem_append_left _ (hy))) ha hb hc la lb lc qa qb qc k
        · skip
          refine bs_own (l := []) h20 ⟨by kernel_rfl, rfl⟩ (by simp) (fun S32 v32 w32 h32 o32 => ?_)
          refine ⟨(drp (drp (drp h32))), ?_⟩
          refine app_own3 h32 o1 ha (fun y hy => List.mem_append_right _ (List.mem_append_right _ (List.mem_append_right _ (.tail _ hy)))) (by simp; omega) (fun S33 v33 w33 h33 o33 => ?_)
          refine ⟨(drp (drp (drp h33))), ?_⟩
          refine app_own3 h33 o33 o20.sl (fun y hy => List.mem_append_right _ (List.mem_append_left _ (hy))) (by simp; omega) (fun S34 v34 w34 h34 o34 => ?_)
          refine ⟨(drp (drp (drp h34))), ?_⟩
          have q35 : Sl S34 v34 (qv (a ++ [77])) := by simpa [qv] using o34.sl
          refine cutH2 q35 (by omega) (by simp; omega) (fun c35 hc35 => ?_)
          rw [Int.toNat_natCast]
          refine app_own1 h34 o32 hb (fun y hy => List.mem_append_right _ (List.mem_append_right _ (List.mem_append_right _ (.tail _ hy)))) (by simp; omega) (fun S36 v36 w36 h36 o36 => ?_)
          refine ⟨(drp (drp (drp h36))), ?_⟩
          refine k0_spec (Y := S36 ++ S20 ++ S34) (by simpa only [List.append_assoc] using h36) (q35.mono fun y hy => List.mem_append_right _ (hy)) (by simpa using hc35) (Sl.mono (xs := qv b) (by simpa [qv] using o36.sl) fun y hy => List.mem_append_left _ (List.mem_append_left _ (hy))) ha hb hc la lb lc qa qb qc k
      · skip
        refine bs_own (l := []) h1 ⟨by kernel_rfl, rfl⟩ (by simp) (fun S38 v38 w38 h38 o38 => ?_)
        refine ⟨(drp (drp h38)), ?_⟩
        refine ⟨?_, ?_⟩
        · skip
          refine app_own2 h38 o1 ha (fun y hy => List.mem_append_right _ (List.mem_append_right _ (.tail _ hy))) (by simp; omega) (fun S39 v39 w39 h39 o39 => ?_)
          refine ⟨(drp (drp h39)), ?_⟩
          refine bs_own (l := [77]) h39 ⟨by kernel_rfl, rfl⟩ (by simp) (fun S40 v40 w40 h40 o40 => ?_)
          refine ⟨(drp (drp (drp h40))), ?_⟩
          refine app_own3 h40 o39 o40.sl (fun y hy => List.mem_append_left _ (hy)) (by simp; omega) (fun S41 v41 w41 h41 o41 => ?_)
          refine ⟨(drp (drp (drp h41))), ?_⟩
          have q42 : Sl S41 v41 (qv (a ++ [77])) := by simpa [qv] using o41.sl
          refine cutH2 q42 (by omega) (by simp; omega) (fun c42 hc42 => ?_)
          rw [Int.toNat_natCast]
          refine app_own2 h41 o38 hb (fun y hy => List.mem_append_right _ (List.mem_append_right _ (List.mem_append_right _ (.tail _ hy)))) (by simp; omega) (fun S43 v43 w43 h43 o43 => ?_)
          refine ⟨(drp (drp (drp h43))), ?_⟩
          refine k0_spec (Y := S40 ++ S43 ++ S41) (by simpa only [List.append_assoc] using h43) (q42.mono fun y hy => List.mem_append_right _ (hy)) (by simpa using hc42) (Sl.mono (xs := qv b) (by simpa [qv] using o43.sl) fun y hy => List.mem_append_left _ (List.mem_append_right _ (hy))) ha hb hc la lb lc qa qb qc k
        · skip
          refine bs_own (l := [77]) h38 ⟨by kernel_rfl, rfl⟩ (by simp) (fun S45 v45 w45 h45 o45 => ?_)
          refine ⟨(drp (drp (drp h45))), ?_⟩
          refine app_own3 h45 o1 ha (fun y hy => List.mem_append_right _ (List.mem_append_right _ (List.mem_append_right _ (.tail _ hy)))) (by simp; omega) (fun S46 v46 w46 h46 o46 => ?_)
          refine ⟨(drp (drp (drp h46))), ?_⟩
          refine app_own3 h46 o46 o45.sl (fun y hy => List.mem_append_left _ (hy)) (by simp; omega) (fun S47 v47 w47 h47 o47 => ?_)
          refine ⟨(drp (drp (drp h47))), ?_⟩
          have q48 : Sl S47 v47 (qv (a ++ [77])) := by simpa [qv] using o47.sl
          refine cutH2 q48 (by omega) (by simp; omega) (fun c48 hc48 => ?_)
          rw [Int.toNat_natCast]
          refine app_own2 h47 o38 hb (fun y hy => List.mem_append_right _ (List.mem_append_right _ (List.mem_append_right _ (.tail _ hy)))) (by simp; omega) (fun S49 v49 w49 h49 o49 => ?_)
          refine ⟨(drp (drp (drp h49))), ?_⟩
          refine k0_spec (Y := S45 ++ S49 ++ S47) (by simpa only [List.append_assoc] using h49) (q48.mono fun y hy => List.mem_append_right _ (hy)) (by simpa using hc48) (Sl.mono (xs := qv b) (by simpa [qv] using o49.sl) fun y hy => List.mem_append_left _ (List.mem_append_right _ (hy))) ha hb hc la lb lc qa qb qc k
  · skip
    refine ⟨?_, ?_⟩
    · skip
      refine bs_own (l := [77]) hA ⟨by kernel_rfl, rfl⟩ (by simp) (fun S51 v51 w51 h51 o51 => ?_)
      refine ⟨(drp h51), ?_⟩
      refine ⟨?_, ?_⟩
      · skip
        refine bs_own (l := []) h51 ⟨by kernel_rfl, rfl⟩ (by simp) (fun S52 v52 w52 h52 o52 => ?_)
        refine ⟨(drp (drp h52)), ?_⟩
        refine ⟨?_, ?_⟩
        · skip
          refine app_own1 h52 o52 ha (fun y hy => List.mem_append_right _ (List.mem_append_right _ (.tail _ hy))) (by simp; omega) (fun S53 v53 w53 h53 o53 => ?_)
          refine ⟨(drp (drp h53)), ?_⟩
          refine ⟨?_, ?_⟩
          · skip
            refine app_own1 h53 o53 o51.sl (fun y hy => List.mem_append_right _ (List.mem_append_left _ (hy))) (by simp; omega) (fun S54 v54 w54 h54 o54 => ?_)
            refine ⟨(drp (drp h54)), ?_⟩
            have q55 : Sl S54 v54 (qv (a ++ [77])) := by simpa [qv] using o54.sl
            refine cutH2 q55 (by omega) (by simp; omega) (fun c55 hc55 => ?_)
            rw [Int.toNat_natCast]
            refine bs_own (l := []) h54 ⟨by kernel_rfl, rfl⟩ (by simp) (fun S56 v56 w56 h56 o56 => ?_)
            refine ⟨(drp (drp (drp h56))), ?_⟩
            refine app_own1 h56 o56 hb (fun y hy => List.mem_append_right _ (List.mem_append_right _ (List.mem_append_right _ (.tail _ hy)))) (by simp; omega) (fun S57 v57 w57 h57 o57 => ?_)
            refine ⟨(drp (drp (drp h57))), ?_⟩
            refine k0_spec (Y := S57 ++ S54 ++ S51) (by simpa only [List.append_assoc] using h57) (q55.mono fun y hy => List.mem_append_left _ (List.mem_append_right _ (hy))) (by simpa using hc55) (Sl.mono (xs := qv b) (by simpa [qv] using o57.sl) fun y hy => List.mem_append_left _ (List.mem_append_left _ (hy))) ha hb hc la lb lc qa qb qc k
          · skip
            refine bs_own (l := []) h53 ⟨by kernel_rfl, rfl⟩ (by simp) (fun S59 v59 w59 h59 o59 => ?_)
            refine ⟨(drp (drp (drp h59))), ?_⟩
            refine app_own2 h59 o53 o51.sl (fun y hy => List.mem_append_right _ (List.mem_append_right _ (List.mem_append_left _ (hy)))) (by simp; omega) (fun S60 v60 w60 h60 o60 => ?_)
            refine ⟨(drp (drp (drp h60))), ?_⟩
            have q61 : Sl S60 v60 (qv (a ++ [77])) := by simpa [qv] using o60.sl
            refine cutH2 q61 (by omega) (by simp; omega) (fun c61 hc61 => ?_)
            rw [Int.toNat_natCast]
            refine app_own1 h60 o59 hb (fun y hy => List.mem_append_right _ (List.mem_append_right _ (List.mem_append_right _ (.tail _ hy)))) (by simp; omega) (fun S62 v62 w62 h62 o62 => ?_)
            refine ⟨(drp (drp (drp h62))), ?_⟩
            refine k0_spec (Y := S62 ++ S60 ++ S51) (by simpa only [List.append_assoc] using h62) (q61.mono fun y hy => List.mem_append_left _ (List.mem_append_right _ (hy))) (by simpa using hc61) (Sl.mono (xs := qv b) (by simpa [qv] using o62.sl) fun y hy => List.mem_append_left _ (List.mem_append_left _ (hy))) ha hb hc la lb lc qa qb qc k
        · skip
          refine bs_own (l := []) h52 ⟨by kernel_rfl, rfl⟩ (by simp) (fun S64 v64 w64 h64 o64 => ?_)
          refine ⟨(drp (drp (drp h64))), ?_⟩
          refine app_own2 h64 o52 ha (fun y hy => List.mem_append_right _ (List.mem_append_right _ (List.mem_append_right _ (.tail _ hy)))) (by simp; omega) (fun S65 v65 w65 h65 o65 => ?_)
          refine ⟨(drp (drp (drp h65))), ?_⟩
          refine app_own2 h65 o65 o51.sl (fun y hy => List.mem_append_right _ (List.mem_append_right _ (List.mem_append_left _ (hy)))) (by simp; omega) (fun S66 v66 w66 h66 o66 => ?_)
          refine ⟨(drp (drp (drp h66))), ?_⟩
          have q67 : Sl S66 v66 (qv (a ++ [77])) := by simpa [qv] using o66.sl
          refine cutH2 q67 (by omega) (by simp; omega) (fun c67 hc67 => ?_)
          rw [Int.toNat_natCast]
          refine app_own1 h66 o64 hb (fun y hy => List.mem_append_right _ (List.mem_append_right _ (List.mem_append_right _ (.tail _ hy)))) (by simp; omega) (fun S68 v68 w68 h68 o68 => ?_)
          refine ⟨(drp (drp (drp h68))), ?_⟩
          refine k0_spec (Y := S68 ++ S66 ++ S51) (by simpa only [List.append_assoc] using h68) (q67.mono fun y hy => List.mem_append_left _ (List.mem_append_right _ (hy))) (by simpa using hc67) (Sl.mono (xs := qv b) (by simpa [qv] using o68.sl) fun y hy => List.mem_append_left _ (List.mem_append_left _ (hy))) ha hb hc la lb lc qa qb qc k
      · skip
        refine bs_own (l := []) h51 ⟨by kernel_rfl, rfl⟩ (by simp) (fun S70 v70 w70 h70 o70 => ?_)
        refine ⟨(drp (drp h70)), ?_⟩
        refine bs_own (l := []) h70 ⟨by kernel_rfl, rfl⟩ (by simp) (fun S71 v71 w71 h71 o71 => ?_)
        refine ⟨(drp (drp (drp h71))), ?_⟩
        refine app_own1 h71 o71 ha (fun y hy => List.mem_append_right _ (List.mem_append_right _ (List.mem_append_right _ (.tail _ hy)))) (by simp; omega) (fun S72 v72 w72 h72 o72 => ?_)
        refine ⟨(drp (drp (drp h72))), ?_⟩
        refine app_own1 h72 o72 o51.sl (fun y hy => List.mem_append_right _ (List.mem_append_right _ (List.mem_append_left _ (hy)))) (by simp; omega) (fun S73 v73 w73 h73 o73 => ?_)
        refine ⟨(drp (drp (drp h73))), ?_⟩
        have q74 : Sl S73 v73 (qv (a ++ [77])) := by simpa [qv] using o73.sl
        refine cutH2 q74 (by omega) (by simp; omega) (fun c74 hc74 => ?_)
        rw [Int.toNat_natCast]
        refine app_own2 h73 o70 hb (fun y hy => List.mem_append_right _ (List.mem_append_right _ (List.mem_append_right _ (.tail _ hy)))) (by simp; omega) (fun S75 v75 w75 h75 o75 => ?_)
        refine ⟨(drp (drp (drp h75))), ?_⟩
        refine k0_spec (Y := S73 ++ S75 ++ S51) (by simpa only [List.append_assoc] using h75) (q74.mono fun y hy => List.mem_append_left _ (List.mem_append_left _ (hy))) (by simpa using hc74) (Sl.mono (xs := qv b) (by simpa [qv] using o75.sl) fun y hy => List.mem_append_left _ (List.mem_append_right _ (hy))) ha hb hc la lb lc qa qb qc k
    · skip
      refine bs_own (l := []) hA ⟨by kernel_rfl, rfl⟩ (by simp) (fun S77 v77 w77 h77 o77 => ?_)
      refine ⟨(drp h77), ?_⟩
      refine ⟨?_, ?_⟩
      · skip
        refine bs_own (l := []) h77 ⟨by kernel_rfl, rfl⟩ (by simp) (fun S78 v78 w78 h78 o78 => ?_)
        refine ⟨(drp (drp h78)), ?_⟩
        refine ⟨?_, ?_⟩
        · skip
          refine app_own1 h78 o78 ha (fun y hy => List.mem_append_right _ (List.mem_append_right _ (.tail _ hy))) (by simp; omega) (fun S79 v79 w79 h79 o79 => ?_)
          refine ⟨(drp (drp h79)), ?_⟩
          refine bs_own (l := [77]) h79 ⟨by kernel_rfl, rfl⟩ (by simp) (fun S80 v80 w80 h80 o80 => ?_)
          refine ⟨(drp (drp (drp h80))), ?_⟩
          refine app_own2 h80 o79 o80.sl (fun y hy => List.mem_append_left _ (hy)) (by simp; omega) (fun S81 v81 w81 h81 o81 => ?_)
          refine ⟨(drp (drp (drp h81))), ?_⟩
          have q82 : Sl S81 v81 (qv (a ++ [77])) := by simpa [qv] using o81.sl
          refine cutH2 q82 (by omega) (by simp; omega) (fun c82 hc82 => ?_)
          rw [Int.toNat_natCast]
          refine app_own3 h81 o77 hb (fun y hy => List.mem_append_right _ (List.mem_append_right _ (List.mem_append_right _ (.tail _ hy)))) (by simp; omega) (fun S83 v83 w83 h83 o83 => ?_)
          refine ⟨(drp (drp (drp h83))), ?_⟩
          refine k0_spec (Y := S80 ++ S81 ++ S83) (by simpa only [List.append_assoc] using h83) (q82.mono fun y hy => List.mem_append_left _ (List.mem_append_right _ (hy))) (by simpa using hc82) (Sl.mono (xs := qv b) (by simpa [qv] using o83.sl) fun y hy => List.mem_append_right _ (hy)) ha hb hc la lb lc qa qb qc k
        · skip
          refine bs_own (l := [77]) h78 ⟨by kernel_rfl, rfl⟩ (by simp) (fun S85 v85 w85 h85 o85 => ?_)
          refine ⟨(drp (drp (drp h85))), ?_⟩
          refine app_own2 h85 o78 ha (fun y hy => List.mem_append_right _ (List.mem_append_right _ (List.mem_append_right _ (.tail _ hy)))) (by simp; omega) (fun S86 v86 w86 h86 o86 => ?_)
          refine ⟨(drp (drp (drp h86))), ?_⟩
          refine app_own2 h86 o86 o85.sl (fun y hy => List.mem_append_left _ (hy)) (by simp; omega) (fun S87 v87 w87 h87 o87 => ?_)
          refine ⟨(drp (drp (drp h87))), ?_⟩
          have q88 : Sl S87 v87 (qv (a ++ [77])) := by simpa [qv] using o87.sl
          refine cutH2 q88 (by omega) (by simp; omega) (fun c88 hc88 => ?_)
          rw [Int.toNat_natCast]
          refine app_own3 h87 o77 hb (fun y hy => List.mem_append_right _ (List.mem_append_right _ (List.mem_append_right _ (.tail _ hy)))) (by simp; omega) (fun S89 v89 w89 h89 o89 => ?_)
          refine ⟨(drp (drp (drp h89))), ?_⟩
          refine k0_spec (Y := S85 ++ S87 ++ S89) (by simpa only [List.append_assoc] using h89) (q88.mono fun y hy => List.mem_append_left _ (List.mem_append_right _ (hy))) (by simpa using hc88) (Sl.mono (xs := qv b) (by simpa [qv] using o89.sl) fun y hy => List.mem_append_right _ (hy)) ha hb hc la lb lc qa qb qc k
      · skip
        refine bs_own (l := [77]) h77 ⟨by kernel_rfl, rfl⟩ (by simp) (fun S91 v91 w91 h91 o91 => ?_)
        refine ⟨(drp (drp h91)), ?_⟩
        refine bs_own (l := []) h91 ⟨by kernel_rfl, rfl⟩ (by simp) (fun S92 v92 w92 h92 o92 => ?_)
        refine ⟨(drp (drp (drp h92))), ?_⟩
        refine app_own1 h92 o92 ha (fun y hy => List.mem_append_right _ (List.mem_append_right _ (List.mem_append_right _ (.tail _ hy)))) (by simp; omega) (fun S93 v93 w93 h93 o93 => ?_)
        refine ⟨(drp (drp (drp h93))), ?_⟩
        refine app_own1 h93 o93 o91.sl (fun y hy => List.mem_append_right _ (List.mem_append_left _ (hy))) (by simp; omega) (fun S94 v94 w94 h94 o94 => ?_)
        refine ⟨(drp (drp (drp h94))), ?_⟩
        have q95 : Sl S94 v94 (qv (a ++ [77])) := by simpa [qv] using o94.sl
        refine cutH2 q95 (by omega) (by simp; omega) (fun c95 hc95 => ?_)
        rw [Int.toNat_natCast]
        refine app_own3 h94 o77 hb (fun y hy => List.mem_append_right _ (List.mem_append_right _ (List.mem_append_right _ (.tail _ hy)))) (by simp; omega) (fun S96 v96 w96 h96 o96 => ?_)
        refine ⟨(drp (drp (drp h96))), ?_⟩
        refine k0_spec (Y := S94 ++ S91 ++ S96) (by simpa only [List.append_assoc] using h96) (q95.mono fun y hy => List.mem_append_left _ (List.mem_append_left _ (hy))) (by simpa using hc95) (Sl.mono (xs := qv b) (by simpa [qv] using o96.sl) fun y hy => List.mem_append_right _ (hy)) ha hb hc la lb lc qa qb qc k
end
end Go.Proofs.Ytobanjfpoeinhaa
