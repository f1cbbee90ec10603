/- The law RwlockCopies: its walk. -/
import Derived.Test.YtaifohjgamhhnaaVdR
set_option linter.unusedVariables false
set_option linter.unusedSimpArgs false
namespace Go.Proofs.Ytaifohjgamhhnaa
open Go Go.RowKit Vc Vd
attribute [local irreducible] binV Op.unary convert nlW faW ldS ldW ixS ixA ixV ixT exW lnS lnT pu stW alW opW opU bsW mkW

section
variable {B w : World} {H : Hp} {K : Value → World → Prop} {PK : List PanicEntry → World → Prop}
theorem two_of {v : Value} (h : FitV PG H T.t_2_linesmanlaw14_Act v) : ∃ a b : Int × Int × Int, v = .agg (aC a ++ aC b).toArray := by
  obtain ⟨cs, rfl, hf⟩ := h.array (n := 2) (e := T.t_linesmanlaw14_Act) (by kernel_rfl)
  obtain ⟨hl, hf⟩ := hf.of_array (n := 2) (e := T.t_linesmanlaw14_Act) (by kernel_rfl)
  have e3 : PG.cellsOf T.t_linesmanlaw14_Act = 3 := by kernel_rfl
  have hl : cs.length = 6 := by rw [hl]; kernel_rfl
  rw [e3] at hf
  obtain ⟨a, ha⟩ := act_of (hf 0 (by omega))
  obtain ⟨b, hb⟩ := act_of (hf 1 (by omega))
  refine ⟨a, b, ?_⟩
  have : cs = (cs.drop (0 * 3)).take 3 ++ (cs.drop (1 * 3)).take 3 := by
    rw [show (cs.drop (0 * 3)).take 3 = cs.take 3 from rfl, show (cs.drop (1 * 3)).take 3 = cs.drop 3 from List.take_of_length_le (by simp; omega), List.take_append_drop]
  rw [this, ha, hb]
theorem RwlockCopies.law {v0 v1 v2 : Value} (g0 : FitV PG H T.t_int v0) (g1 : FitV PG H T.t_sl_linesmanlaw14_Act v1) (g2 : FitV PG H T.t_2_linesmanlaw14_Act v2) (h : Ow B w H) (k : ∀ w', Ow B w' H → K (vB true) w') :
    callW PG N.linesmanlaw14_RwlockCopies [v0, v1, v2] K PK w := by
  obtain ⟨many, rfl, _⟩ := g0.int und_int
  obtain ⟨l, hl⟩ := acts_of g1
  obtain ⟨a1, a2, rfl⟩ := two_of g2
  clear g0 g1 g2
  refine linesmanlaw14_RwlockCopies.ok ?_
  unfold linesmanlaw14_RwlockCopies.C
  refine al_rule h (l := aC a1 ++ aC a2) rfl (fun z w0 h0 => ?_)
  repeat (first | refine pu_not ?_ | refine pu_eql ?_ | refine pu_neq ?_ | refine pu_lss ?_ | refine pu_leq ?_ | refine pu_gtr ?_ | refine pu_geq ?_ | refine pu_add ?_ | refine pu_sub ?_ | refine pu_mul ?_ | refine pu_neg ?_ | refine fa_at ?_ | refine nl_ptr ?_ | refine ex20 ?_ | refine ex21 ?_ | refine ex30 ?_ | refine ex31 ?_ | refine ex32 ?_ | refine ln_rule ?_ | refine lnT_rule ?_ | refine pu_and ?_ | refine pu_or ?_ | refine pu_xor ?_ | refine pu_seq ?_ | refine pu_sne ?_)
  refine cnd (fun _ => works_spec h0 (fun w' h' => k w' h'.drop)) (fun hge => ?_)
  repeat (first | refine pu_not ?_ | refine pu_eql ?_ | refine pu_neq ?_ | refine pu_lss ?_ | refine pu_leq ?_ | refine pu_gtr ?_ | refine pu_geq ?_ | refine pu_add ?_ | refine pu_sub ?_ | refine pu_mul ?_ | refine pu_neg ?_ | refine fa_at ?_ | refine nl_ptr ?_ | refine ex20 ?_ | refine ex21 ?_ | refine ex30 ?_ | refine ex31 ?_ | refine ex32 ?_ | refine ln_rule ?_ | refine lnT_rule ?_ | refine pu_and ?_ | refine pu_or ?_ | refine pu_xor ?_ | refine pu_seq ?_ | refine pu_sne ?_)
  refine cnd (fun _ => works_spec h0 (fun w' h' => k w' h'.drop)) (fun hle => ?_)
  refine sls_ln hl ?_
  rw [List.length_map]
  repeat (first | refine pu_not ?_ | refine pu_eql ?_ | refine pu_neq ?_ | refine pu_lss ?_ | refine pu_leq ?_ | refine pu_gtr ?_ | refine pu_geq ?_ | refine pu_add ?_ | refine pu_sub ?_ | refine pu_mul ?_ | refine pu_neg ?_ | refine fa_at ?_ | refine nl_ptr ?_ | refine ex20 ?_ | refine ex21 ?_ | refine ex30 ?_ | refine ex31 ?_ | refine ex32 ?_ | refine ln_rule ?_ | refine lnT_rule ?_ | refine pu_and ?_ | refine pu_or ?_ | refine pu_xor ?_ | refine pu_seq ?_ | refine pu_sne ?_)
  refine cnd (fun _ => works_spec h0 (fun w' h' => k w' h'.drop)) (fun hll => ?_)
  have hm : 0 ≤ many ∧ many ≤ 64 := by simp at hge hle; omega
  have hll : l.length ≤ 30 := by simp at hll; omega
  clear hge hle
  obtain ⟨mn, rfl⟩ : ∃ n : Nat, many = n := ⟨many.toNat, by omega⟩
  have k : ∀ w', Ow B w' ((z, cel (aC a1 ++ aC a2) T.t_2_linesmanlaw14_Act) :: H) → K (vB true) w' := fun w' h' => k w' h'.drop
  have hl : Sls ((z, cel (aC a1 ++ aC a2) T.t_2_linesmanlaw14_Act) :: H) v1 3 (l.map aC) := hl.mono fun x hx => .tail _ hx
  generalize hH0 : (z, cel (aC a1 ++ aC a2) T.t_2_linesmanlaw14_Act) :: H = H0 at *
  have mz : (z, cel (aC a1 ++ aC a2) T.t_2_linesmanlaw14_Act) ∈ H0 := by rw [← hH0]; exact .head _
  clear hH0 h
  refine new_spec h0 (fun hb => absurd hm hb) (fun _ _ b F w1 lp h1 => ?_)
  repeat (first | refine pu_not ?_ | refine pu_eql ?_ | refine pu_neq ?_ | refine pu_lss ?_ | refine pu_leq ?_ | refine pu_gtr ?_ | refine pu_geq ?_ | refine pu_add ?_ | refine pu_sub ?_ | refine pu_mul ?_ | refine pu_neg ?_ | refine fa_at ?_ | refine nl_ptr ?_ | refine ex20 ?_ | refine ex21 ?_ | refine ex30 ?_ | refine ex31 ?_ | refine ex32 ?_ | refine ln_rule ?_ | refine lnT_rule ?_ | refine pu_and ?_ | refine pu_or ?_ | refine pu_xor ?_ | refine pu_seq ?_ | refine pu_sne ?_)
  refine refNew_spec h1 (fun hb => absurd hm hb) (fun _ _ S s w2 hs h2 => ?_)
  repeat (first | refine pu_not ?_ | refine pu_eql ?_ | refine pu_neq ?_ | refine pu_lss ?_ | refine pu_leq ?_ | refine pu_gtr ?_ | refine pu_geq ?_ | refine pu_add ?_ | refine pu_sub ?_ | refine pu_mul ?_ | refine pu_neg ?_ | refine fa_at ?_ | refine nl_ptr ?_ | refine ex20 ?_ | refine ex21 ?_ | refine ex30 ?_ | refine ex31 ?_ | refine ex32 ?_ | refine ln_rule ?_ | refine lnT_rule ?_ | refine pu_and ?_ | refine pu_or ?_ | refine pu_xor ?_ | refine pu_seq ?_ | refine pu_sne ?_)
  refine al_rule h2 (l := [.slice none 0 0]) (by kernel_rfl) (fun t w3 h3 => ?_)
  refine st1s (A := []) h3 (rl.plain hs) (fun w4 h4 => ?_)
  have h4 : Ow B w4 (F ++ ((t, oL s) :: (S ++ H0))) := front (A := (t, oL s) :: S) h4
  refine ⟨fun l' w => ∃ (i b : Nat) (F S : Hp) (s : Value) (L : List Lk), l' = [ptr b, vI i] ∧ i ≤ l.length ∧ LP L i b F ∧ rl S s L ∧ L.length = mn ∧ Ow B w (F ++ ((t, oL s) :: (S ++ H0))), fun l' _ => match l' with | [_, .int _ n] => l.length - n.toNat | _ => 0, ⟨0, b, F, S, s, _, rfl, Nat.zero_le _, lp, hs, by simp, h4⟩, ?_⟩
  clear lp hs h1 h2 h3 h4
  rintro l' w5 ⟨i, b, F, S, s, L, rfl, hi, lp, hs, hLl, h5⟩ j
  refine sls_ln hl ?_
  rw [List.length_map]
  repeat (first | refine pu_not ?_ | refine pu_eql ?_ | refine pu_neq ?_ | refine pu_lss ?_ | refine pu_leq ?_ | refine pu_gtr ?_ | refine pu_geq ?_ | refine pu_add ?_ | refine pu_sub ?_ | refine pu_mul ?_ | refine pu_neg ?_ | refine fa_at ?_ | refine nl_ptr ?_ | refine ex20 ?_ | refine ex21 ?_ | refine ex30 ?_ | refine ex31 ?_ | refine ex32 ?_ | refine ln_rule ?_ | refine lnT_rule ?_ | refine pu_and ?_ | refine pu_or ?_ | refine pu_xor ?_ | refine pu_seq ?_ | refine pu_sne ?_)
  refine cnd (fun hlt => ?_) (fun hlt => ?_)
  · have hlt : i < l.length := by simpa using hlt
    refine ⟨fun w => Ow B w (F ++ ((t, oL s) :: (S ++ H0))), h5.drew, ?_⟩
    refine lds1 (fun w h => h) (List.mem_append_right _ (.head _)) ?_
    refine sls_lds (fun w h => h) (hl.mono fun x hx => List.mem_append_right _ (.tail _ (List.mem_append_right _ hx))) (by omega) (acts_at hlt) ?_
    refine act_spec2 lp (by omega) hs (fun x hx => .tail _ (List.mem_append_left _ hx)) h5.drew (fun b' F' S' s' L' w6 lp' r' hll' h6 => ?_)
    repeat (first | refine pu_not ?_ | refine pu_eql ?_ | refine pu_neq ?_ | refine pu_lss ?_ | refine pu_leq ?_ | refine pu_gtr ?_ | refine pu_geq ?_ | refine pu_add ?_ | refine pu_sub ?_ | refine pu_mul ?_ | refine pu_neg ?_ | refine fa_at ?_ | refine nl_ptr ?_ | refine ex20 ?_ | refine ex21 ?_ | refine ex30 ?_ | refine ex31 ?_ | refine ex32 ?_ | refine ln_rule ?_ | refine lnT_rule ?_ | refine pu_and ?_ | refine pu_or ?_ | refine pu_xor ?_ | refine pu_seq ?_ | refine pu_sne ?_)
    have h6 : Ow B w6 ((F' ++ S') ++ (t, oL s) :: (S ++ H0)) := by simpa using h6
    refine st1s h6 (rl.plain r') (fun w7 h7 => ?_)
    repeat (first | refine pu_not ?_ | refine pu_eql ?_ | refine pu_neq ?_ | refine pu_lss ?_ | refine pu_leq ?_ | refine pu_gtr ?_ | refine pu_geq ?_ | refine pu_add ?_ | refine pu_sub ?_ | refine pu_mul ?_ | refine pu_neg ?_ | refine fa_at ?_ | refine nl_ptr ?_ | refine ex20 ?_ | refine ex21 ?_ | refine ex30 ?_ | refine ex31 ?_ | refine ex32 ?_ | refine ln_rule ?_ | refine lnT_rule ?_ | refine pu_and ?_ | refine pu_or ?_ | refine pu_xor ?_ | refine pu_seq ?_ | refine pu_sne ?_)
    rw [wrap64_in (by omega) (by omega)]
    refine ⟨⟨i + 1, b', F', S' ++ S, s', L', rfl, hlt, lp', r', hll'.trans hLl, ?_⟩, by simp; omega⟩
    rw [List.append_assoc]
    exact (show Ow B w7 (F' ++ (S' ++ (t, oL s') :: (S ++ H0))) by simpa using h7).perm ((List.perm_middle (l₁ := S') (l₂ := S ++ H0)).append_left F')
  obtain rfl : i = l.length := by simp at hlt; omega
  clear hlt j
  refine ⟨fun l' w => ∃ i : Nat, l' = [vI i] ∧ i ≤ mn ∧ Ow B w (F ++ ((t, oL s) :: (S ++ H0))), fun l' _ => match l' with | [.int _ n] => mn - n.toNat | _ => 0, ⟨0, rfl, Nat.zero_le _, h5⟩, ?_⟩
  clear h5
  rintro l' w6 ⟨i, rfl, hi, h6⟩ j
  repeat (first | refine pu_not ?_ | refine pu_eql ?_ | refine pu_neq ?_ | refine pu_lss ?_ | refine pu_leq ?_ | refine pu_gtr ?_ | refine pu_geq ?_ | refine pu_add ?_ | refine pu_sub ?_ | refine pu_mul ?_ | refine pu_neg ?_ | refine fa_at ?_ | refine nl_ptr ?_ | refine ex20 ?_ | refine ex21 ?_ | refine ex30 ?_ | refine ex31 ?_ | refine ex32 ?_ | refine ln_rule ?_ | refine lnT_rule ?_ | refine pu_and ?_ | refine pu_or ?_ | refine pu_xor ?_ | refine pu_seq ?_ | refine pu_sne ?_)
  refine cnd (fun hlt => ?_) (fun hlt => ?_)
  · have hlt : i < mn := by simpa using hlt
    refine readers_spec lp (by omega) h6 (fun S1 v w7 h7 ho => ?_)
    obtain ⟨n, hn⟩ : ∃ n, (iv (if (0 : Int) ≤ i then (gk L i).rd else [])).length = n := ⟨_, rfl⟩
    rw [hn] at ho
    have hmax := ho.max
    have hn62 : n < 2 ^ 62 := by
      rw [← hn, if_pos (by omega), List.length_map]
      by_cases h1 : (i : Int) < L.length
      · have := lp.wf.ks _ (lk_mem (i := (i : Int)) (by omega) h1); omega
      · rw [gk_out (by omega) (by omega)]; simp [emp]
    refine ⟨fun l' w => ∃ (k : Nat) (S1 : Hp) (xs : List Value), l' = [vI k] ∧ k ≤ n ∧ Vc.Own S1 T.t_int 1 v n xs ∧ Ow B w (S1 ++ (F ++ ((t, oL s) :: (S ++ H0)))), fun l' _ => match l' with | [.int _ q] => n - q.toNat | _ => 0, ⟨0, S1, _, rfl, Nat.zero_le _, ho, h7⟩, ?_⟩
    clear h7 ho
    rintro l' w8 ⟨q, S1, xs, rfl, hq, ho, h8⟩ j2
    obtain ⟨a, c, hv⟩ := ho.len
    have hln : ∀ KK : Value → Prop, KK (vI n) → lnS v KK := fun KK k => by rw [hv]; exact ln_rule k
    refine hln _ ?_
    repeat (first | refine pu_not ?_ | refine pu_eql ?_ | refine pu_neq ?_ | refine pu_lss ?_ | refine pu_leq ?_ | refine pu_gtr ?_ | refine pu_geq ?_ | refine pu_add ?_ | refine pu_sub ?_ | refine pu_mul ?_ | refine pu_neg ?_ | refine fa_at ?_ | refine nl_ptr ?_ | refine ex20 ?_ | refine ex21 ?_ | refine ex30 ?_ | refine ex31 ?_ | refine ex32 ?_ | refine ln_rule ?_ | refine lnT_rule ?_ | refine pu_and ?_ | refine pu_or ?_ | refine pu_xor ?_ | refine pu_seq ?_ | refine pu_sne ?_)
    refine cnd (fun hlt2 => ?_) (fun hlt2 => ?_)
    · have hlt2 : q < n := by simpa using hlt2
      refine own_set (A := []) (x := vI 77) h8 ho (by omega) (by omega) rfl rfl (fun S' w9 h9 ho' => ?_)
      repeat (first | refine pu_not ?_ | refine pu_eql ?_ | refine pu_neq ?_ | refine pu_lss ?_ | refine pu_leq ?_ | refine pu_gtr ?_ | refine pu_geq ?_ | refine pu_add ?_ | refine pu_sub ?_ | refine pu_mul ?_ | refine pu_neg ?_ | refine fa_at ?_ | refine nl_ptr ?_ | refine ex20 ?_ | refine ex21 ?_ | refine ex30 ?_ | refine ex31 ?_ | refine ex32 ?_ | refine ln_rule ?_ | refine lnT_rule ?_ | refine pu_and ?_ | refine pu_or ?_ | refine pu_xor ?_ | refine pu_seq ?_ | refine pu_sne ?_)
      rw [wrap64_in (by omega) (by omega)]
      exact ⟨⟨q + 1, S', _, rfl, hlt2, ho', h9⟩, by simp; omega⟩
    · repeat (first | refine pu_not ?_ | refine pu_eql ?_ | refine pu_neq ?_ | refine pu_lss ?_ | refine pu_leq ?_ | refine pu_gtr ?_ | refine pu_geq ?_ | refine pu_add ?_ | refine pu_sub ?_ | refine pu_mul ?_ | refine pu_neg ?_ | refine fa_at ?_ | refine nl_ptr ?_ | refine ex20 ?_ | refine ex21 ?_ | refine ex30 ?_ | refine ex31 ?_ | refine ex32 ?_ | refine ln_rule ?_ | refine lnT_rule ?_ | refine pu_and ?_ | refine pu_or ?_ | refine pu_xor ?_ | refine pu_seq ?_ | refine pu_sne ?_)
      rw [wrap64_in (by omega) (by omega)]
      exact ⟨⟨i + 1, rfl, hlt, drp h8⟩, by simp; omega⟩
  clear hi hlt j
  refine copy_spec lp (by omega) h6 (fun c Fc w7 lc h7 => ?_)
  have h7 : Ow B w7 (F ++ (Fc ++ ((t, oL s) :: (S ++ H0)))) := front h7
  refine ld1 h7 (List.mem_append_right _ (List.mem_append_right _ (.head _))) ?_
  refine ixA_at (by omega) (by omega) ?_
  refine ldn_here h7 (List.mem_append_right _ (List.mem_append_right _ (.tail _ (List.mem_append_right _ mz)))) (vs := aC a1) rfl rfl ?_
  refine act_spec2 lp (by omega) hs (fun x hx => List.mem_append_right _ (.tail _ (List.mem_append_left _ hx))) h7 (fun b1 F1 S1 s1 L1 w8 lp1 r1 ll1 h8 => ?_)
  repeat (first | refine pu_not ?_ | refine pu_eql ?_ | refine pu_neq ?_ | refine pu_lss ?_ | refine pu_leq ?_ | refine pu_gtr ?_ | refine pu_geq ?_ | refine pu_add ?_ | refine pu_sub ?_ | refine pu_mul ?_ | refine pu_neg ?_ | refine fa_at ?_ | refine nl_ptr ?_ | refine ex20 ?_ | refine ex21 ?_ | refine ex30 ?_ | refine ex31 ?_ | refine ex32 ?_ | refine ln_rule ?_ | refine lnT_rule ?_ | refine pu_and ?_ | refine pu_or ?_ | refine pu_xor ?_ | refine pu_seq ?_ | refine pu_sne ?_)
  refine al_rule h8 (l := [.slice none 0 0]) (by kernel_rfl) (fun q w9 h9 => ?_)
  refine st1s (A := []) h9 (rl.plain r1) (fun w10 h10 => ?_)
  have h10 : Ow B w10 ((q, oL s1) :: (F1 ++ (S1 ++ (Fc ++ ((t, oL s) :: (S ++ H0)))))) := h10
  have h10 : Ow B w10 (Fc ++ (((q, oL s1) :: (F1 ++ S1)) ++ ((t, oL s) :: (S ++ H0)))) := front (by simpa using h10)
  refine ld1 h10 (List.mem_append_right _ (List.mem_append_right _ (.head _))) ?_
  refine ixA_at (by omega) (by omega) ?_
  refine ldn_here h10 (List.mem_append_right _ (List.mem_append_right _ (.tail _ (List.mem_append_right _ mz)))) (vs := aC a2) rfl rfl ?_
  refine act_spec2 lc (by omega) hs (fun x hx => List.mem_append_right _ (.tail _ (List.mem_append_left _ hx))) h10 (fun c1 F2 S2 s2 L2 w11 lp2 r2 ll2 h11 => ?_)
  repeat (first | refine pu_not ?_ | refine pu_eql ?_ | refine pu_neq ?_ | refine pu_lss ?_ | refine pu_leq ?_ | refine pu_gtr ?_ | refine pu_geq ?_ | refine pu_add ?_ | refine pu_sub ?_ | refine pu_mul ?_ | refine pu_neg ?_ | refine fa_at ?_ | refine nl_ptr ?_ | refine ex20 ?_ | refine ex21 ?_ | refine ex30 ?_ | refine ex31 ?_ | refine ex32 ?_ | refine ln_rule ?_ | refine lnT_rule ?_ | refine pu_and ?_ | refine pu_or ?_ | refine pu_xor ?_ | refine pu_seq ?_ | refine pu_sne ?_)
  refine al_rule h11 (l := [.slice none 0 0]) (by kernel_rfl) (fun q2 w12 h12 => ?_)
  refine st1s (A := []) h12 (rl.plain r2) (fun w13 h13 => ?_)
  have h13 : Ow B w13 ((q2, oL s2) :: (F2 ++ (S2 ++ (((q, oL s1) :: (F1 ++ S1)) ++ ((t, oL s) :: (S ++ H0)))))) := h13
  have h13 : Ow B w13 (F1 ++ (((q2, oL s2) :: (F2 ++ (S2 ++ [(q, oL s1)]))) ++ (S1 ++ ((t, oL s) :: (S ++ H0))))) := front (by simpa using h13)
  generalize hD : F1 ++ (((q2, oL s2) :: (F2 ++ (S2 ++ [(q, oL s1)]))) ++ (S1 ++ ((t, oL s) :: (S ++ H0)))) = D0 at h13
  have mF1 : ∀ x, x ∈ F1 → x ∈ D0 := fun x hx => by rw [← hD]; exact List.mem_append_left _ hx
  have mF2 : ∀ x, x ∈ F2 → x ∈ D0 := fun x hx => by rw [← hD]; exact List.mem_append_right _ (List.mem_append_left _ (.tail _ (List.mem_append_left _ hx)))
  have mq2 : (q2, oL s2) ∈ D0 := by rw [← hD]; exact List.mem_append_right _ (.head _)
  have mq : (q, oL s1) ∈ D0 := by rw [← hD]; exact List.mem_append_right _ (List.mem_append_left _ (.tail _ (List.mem_append_right _ (List.mem_append_right _ (.head _)))))
  have mr1 : ∀ x, x ∈ S1 ++ S → x ∈ D0 := fun x hx => by
    rw [← hD]
    rcases List.mem_append.1 hx with hx | hx
    · exact List.mem_append_right _ (List.mem_append_right _ (List.mem_append_left _ hx))
    · exact List.mem_append_right _ (List.mem_append_right _ (List.mem_append_right _ (.tail _ (List.mem_append_left _ hx))))
  have mr2 : ∀ x, x ∈ S2 ++ S → x ∈ D0 := fun x hx => by
    rw [← hD]
    rcases List.mem_append.1 hx with hx | hx
    · exact List.mem_append_right _ (List.mem_append_left _ (.tail _ (List.mem_append_right _ (List.mem_append_left _ hx))))
    · exact List.mem_append_right _ (List.mem_append_right _ (List.mem_append_right _ (.tail _ (List.mem_append_left _ hx))))
  have kD : ∀ w', Ow B w' D0 → Ow B w' H0 := fun w' h' => by
    rw [← hD] at h'
    exact h'.sub ((((List.sublist_append_right _ _).cons _).trans (List.sublist_append_right _ _)).trans ((List.sublist_append_right _ _).trans (List.sublist_append_right _ _)))
  have pD2 : D0.Perm (F2 ++ ([(q2, oL s2)] ++ (F1 ++ ((S2 ++ [(q, oL s1)]) ++ (S1 ++ ((t, oL s) :: (S ++ H0))))))) := by
    rw [← hD]
    refine (List.perm_append_comm_assoc F1 _ _).trans ?_
    simp only [List.cons_append, List.append_assoc, List.nil_append]
    refine (List.Perm.cons (q2, oL s2) (List.Perm.append_left F2 ?_)).trans (List.perm_middle.symm)
    have e : S2 ++ ((q, oL s1) :: (F1 ++ (S1 ++ (t, oL s) :: (S ++ H0)))) = (S2 ++ [(q, oL s1)]) ++ (F1 ++ (S1 ++ (t, oL s) :: (S ++ H0))) := by simp
    have e' : F1 ++ (S2 ++ (q, oL s1) :: (S1 ++ (t, oL s) :: (S ++ H0))) = F1 ++ ((S2 ++ [(q, oL s1)]) ++ (S1 ++ (t, oL s) :: (S ++ H0))) := by simp
    rw [e, e']
    exact List.perm_append_comm_assoc _ _ _
  refine ld1 h13 mq ?_
  refine ld1 h13 mq2 ?_
  refine refSame_spec h13 (r1.mono mr1) (r2.mono mr2) lp1.wf (by omega) (fun w14 h14 => ?_)
  repeat (first | refine pu_not ?_ | refine pu_eql ?_ | refine pu_neq ?_ | refine pu_lss ?_ | refine pu_leq ?_ | refine pu_gtr ?_ | refine pu_geq ?_ | refine pu_add ?_ | refine pu_sub ?_ | refine pu_mul ?_ | refine pu_neg ?_ | refine fa_at ?_ | refine nl_ptr ?_ | refine ex20 ?_ | refine ex21 ?_ | refine ex30 ?_ | refine ex31 ?_ | refine ex32 ?_ | refine ln_rule ?_ | refine lnT_rule ?_ | refine pu_and ?_ | refine pu_or ?_ | refine pu_xor ?_ | refine pu_seq ?_ | refine pu_sne ?_)
  rw [wrap64_in (by omega) (by omega)]
  refine pu_rem (by decide) ?_
  have hmod : 0 ≤ ((mn : Int) + 1).tmod 65 ∧ ((mn : Int) + 1).tmod 65 ≤ 64 ∧ ((mn : Int) + 1).tmod 65 ≠ mn := by
    rw [Int.tmod_eq_emod_of_nonneg (by omega)]
    omega
  generalize ((mn : Int) + 1).tmod 65 = om at hmod
  refine new_spec h14 (fun hb => absurd ⟨hmod.1, hmod.2.1⟩ hb) (fun _ _ o Fo w15 lpo h15 => ?_)
  repeat (first | refine pu_not ?_ | refine pu_eql ?_ | refine pu_neq ?_ | refine pu_lss ?_ | refine pu_leq ?_ | refine pu_gtr ?_ | refine pu_geq ?_ | refine pu_add ?_ | refine pu_sub ?_ | refine pu_mul ?_ | refine pu_neg ?_ | refine fa_at ?_ | refine nl_ptr ?_ | refine ex20 ?_ | refine ex21 ?_ | refine ex30 ?_ | refine ex31 ?_ | refine ex32 ?_ | refine ln_rule ?_ | refine lnT_rule ?_ | refine pu_and ?_ | refine pu_or ?_ | refine pu_xor ?_ | refine pu_seq ?_ | refine pu_sne ?_)
  refine num_spec h15 (fun w16 h16 => ?_)
  refine num_spec h16 (fun w17 h17 => ?_)
  repeat (first | refine pu_not ?_ | refine pu_eql ?_ | refine pu_neq ?_ | refine pu_lss ?_ | refine pu_leq ?_ | refine pu_gtr ?_ | refine pu_geq ?_ | refine pu_add ?_ | refine pu_sub ?_ | refine pu_mul ?_ | refine pu_neg ?_ | refine fa_at ?_ | refine nl_ptr ?_ | refine ex20 ?_ | refine ex21 ?_ | refine ex30 ?_ | refine ex31 ?_ | refine ex32 ?_ | refine ln_rule ?_ | refine lnT_rule ?_ | refine pu_and ?_ | refine pu_or ?_ | refine pu_xor ?_ | refine pu_seq ?_ | refine pu_sne ?_)
  rw [show (0 + 0 : Int) = 0 from rfl, wrap64_in (by omega) (by omega)]
  refine cnd_t rfl ?_
  refine cnd_t rfl ?_
  refine cnd_t rfl ?_
  refine ld1 h17 (List.mem_append_right _ mq) ?_
  have h17 : Ow B w17 (F1 ++ (Fo ++ (((q2, oL s2) :: (F2 ++ (S2 ++ [(q, oL s1)]))) ++ (S1 ++ ((t, oL s) :: (S ++ H0)))))) := by rw [← hD] at h17; exact front h17
  refine is_spec (X := S1 ++ S) lp1 (by omega) r1 (fun x hx => ?_) h17 (fun w18 h18 => ?_)
  · rcases List.mem_append.1 hx with hx | hx
    · exact List.mem_append_right _ (List.mem_append_right _ (List.mem_append_left _ hx))
    · exact List.mem_append_right _ (List.mem_append_right _ (List.mem_append_right _ (.tail _ (List.mem_append_left _ hx))))
  refine cnd_t rfl ?_
  have h18 : Ow B w18 (Fo ++ D0) := by rw [← hD]; exact front h18
  refine ld1 h18 (List.mem_append_right _ mq2) ?_
  have h18 : Ow B w18 (F2 ++ (Fo ++ ([(q2, oL s2)] ++ (F1 ++ ((S2 ++ [(q, oL s1)]) ++ (S1 ++ ((t, oL s) :: (S ++ H0)))))))) := front (h18.perm (pD2.append_left Fo))
  refine is_spec (X := S2 ++ S) lp2 (by omega) r2 (fun x hx => ?_) h18 (fun w19 h19 => ?_)
  · rcases List.mem_append.1 hx with hx | hx
    · exact List.mem_append_right _ (List.mem_append_right _ (List.mem_append_right _ (List.mem_append_left _ (List.mem_append_left _ hx))))
    · exact List.mem_append_right _ (List.mem_append_right _ (List.mem_append_right _ (List.mem_append_right _ (List.mem_append_right _ (.tail _ (List.mem_append_left _ hx))))))
  refine cnd_t rfl ?_
  have h19 : Ow B w19 (Fo ++ D0) := (front h19).perm (pD2.symm.append_left Fo)
  refine same_spec lp1 lp2 (by omega) (by omega) (fun x hx => List.mem_append_right _ (mF1 x hx)) (fun x hx => List.mem_append_right _ (mF2 x hx)) h19 (fun w20 h20 => ?_)
  refine pu_beql und_bool ?_
  refine cnd_t (by simp) ?_
  refine same_spec lp2 lp1 (by omega) (by omega) (fun x hx => List.mem_append_right _ (mF2 x hx)) (fun x hx => List.mem_append_right _ (mF1 x hx)) h20 (fun w21 h21 => ?_)
  refine pu_beql und_bool ?_
  refine cnd_t (by simp [eq_comm]) ?_
  refine same_spec lp1 lpo (by omega) (by omega) (fun x hx => List.mem_append_right _ (mF1 x hx)) (fun x hx => List.mem_append_left _ hx) h21 (fun w22 h22 => ?_)
  have hne : decide (L1 = List.replicate om.toNat emp) = false := decide_eq_false fun h => by
    have := congrArg List.length h
    rw [List.length_replicate] at this
    omega
  rw [hne]
  repeat (first | refine pu_not ?_ | refine pu_eql ?_ | refine pu_neq ?_ | refine pu_lss ?_ | refine pu_leq ?_ | refine pu_gtr ?_ | refine pu_geq ?_ | refine pu_add ?_ | refine pu_sub ?_ | refine pu_mul ?_ | refine pu_neg ?_ | refine fa_at ?_ | refine nl_ptr ?_ | refine ex20 ?_ | refine ex21 ?_ | refine ex30 ?_ | refine ex31 ?_ | refine ex32 ?_ | refine ln_rule ?_ | refine lnT_rule ?_ | refine pu_and ?_ | refine pu_or ?_ | refine pu_xor ?_ | refine pu_seq ?_ | refine pu_sne ?_)
  refine cnd_t rfl ?_
  exact works_spec h22 fun w' h' => k w' (kD w' (drp h'))
end
end Go.Proofs.Ytaifohjgamhhnaa
