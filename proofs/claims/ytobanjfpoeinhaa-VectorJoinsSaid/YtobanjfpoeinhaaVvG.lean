/- The law VectorHolds: its walk. -/
import Derived.Test.YtobanjfpoeinhaaVvF
set_option linter.unusedVariables false
set_option linter.unusedSimpArgs false
namespace Go.Proofs.Ytobanjfpoeinhaa
open Go Go.RowKit Vc Vx
attribute [local irreducible] binV Op.unary convert nlW faW ldS ldW ixS ixA ixV ixT exW lnS lnT pu stW alW opW opU bsW mkW

section
variable {B w : World} {H : Hp} {K : Value → World → Prop} {PK : List PanicEntry → World → Prop}
theorem lupTo_spec {s t : Value} {a b : List Nat} (h : Ow B w H) (hs : Cl H s a) (ht : Cl H t b) (ha : a.length < 2 ^ 62) (hb : b.length < 2 ^ 62) (k : ∀ w', Ow B w' H → K (vB (upTo a b)) w') : callW PG N.linesmanlaw04_upTo [s, t] K PK w := by
  refine linesmanlaw04_upTo.ok ?_
  unfold linesmanlaw04_upTo.C
  refine stands_spec h hs ht ha hb (fun w1 h1 => ?_)
  repeat (first | refine pu_not ?_ | refine pu_eql ?_ | refine pu_neq ?_ | refine pu_lss ?_ | refine pu_leq ?_ | refine pu_gtr ?_ | refine pu_geq ?_ | refine pu_add ?_ | refine pu_sub ?_ | refine pu_mul ?_ | refine pu_neg ?_ | refine fa_at ?_ | refine nl_ptr ?_ | refine ex20 ?_ | refine ex21 ?_ | refine ex30 ?_ | refine ex31 ?_ | refine ex32 ?_ | refine ln_rule ?_ | refine lnT_rule ?_ | refine pu_and ?_ | refine pu_or ?_ | refine pu_xor ?_ | refine pu_seq ?_ | refine pu_sne ?_)
  unfold stands
  by_cases h4 : upTo a b = true
  · rw [if_pos h4]
    rw [h4] at k
    by_cases h7 : upTo b a = true
    · rw [if_pos h7]
      refine cnd_t rfl ?_
      exact k _ h1
    · rw [if_neg h7]
      refine cnd_f rfl ?_
      repeat (first | refine pu_not ?_ | refine pu_eql ?_ | refine pu_neq ?_ | refine pu_lss ?_ | refine pu_leq ?_ | refine pu_gtr ?_ | refine pu_geq ?_ | refine pu_add ?_ | refine pu_sub ?_ | refine pu_mul ?_ | refine pu_neg ?_ | refine fa_at ?_ | refine nl_ptr ?_ | refine ex20 ?_ | refine ex21 ?_ | refine ex30 ?_ | refine ex31 ?_ | refine ex32 ?_ | refine ln_rule ?_ | refine lnT_rule ?_ | refine pu_and ?_ | refine pu_or ?_ | refine pu_xor ?_ | refine pu_seq ?_ | refine pu_sne ?_)
      exact k _ h1
  · rw [if_neg h4]
    have h4 : upTo a b = false := by simpa using h4
    rw [h4] at k
    by_cases h7 : upTo b a = true
    · rw [if_pos h7]
      refine cnd_f rfl ?_
      repeat (first | refine pu_not ?_ | refine pu_eql ?_ | refine pu_neq ?_ | refine pu_lss ?_ | refine pu_leq ?_ | refine pu_gtr ?_ | refine pu_geq ?_ | refine pu_add ?_ | refine pu_sub ?_ | refine pu_mul ?_ | refine pu_neg ?_ | refine fa_at ?_ | refine nl_ptr ?_ | refine ex20 ?_ | refine ex21 ?_ | refine ex30 ?_ | refine ex31 ?_ | refine ex32 ?_ | refine ln_rule ?_ | refine lnT_rule ?_ | refine pu_and ?_ | refine pu_or ?_ | refine pu_xor ?_ | refine pu_seq ?_ | refine pu_sne ?_)
      exact k _ h1
    · rw [if_neg h7]
      refine cnd_f rfl ?_
      repeat (first | refine pu_not ?_ | refine pu_eql ?_ | refine pu_neq ?_ | refine pu_lss ?_ | refine pu_leq ?_ | refine pu_gtr ?_ | refine pu_geq ?_ | refine pu_add ?_ | refine pu_sub ?_ | refine pu_mul ?_ | refine pu_neg ?_ | refine fa_at ?_ | refine nl_ptr ?_ | refine ex20 ?_ | refine ex21 ?_ | refine ex30 ?_ | refine ex31 ?_ | refine ex32 ?_ | refine ln_rule ?_ | refine lnT_rule ?_ | refine pu_and ?_ | refine pu_or ?_ | refine pu_xor ?_ | refine pu_seq ?_ | refine pu_sne ?_)
      exact k _ h1
theorem Fit.slV {t e : TypeId} {v : Value} (ht : PG.underlying t = some (.slice e)) (h : Fit PG H t [v]) : FitV PG H t v := by
  obtain ⟨u, xs, hc, hs, _⟩ := h.of_slice ht
  cases hc
  obtain ⟨a, cap, rfl, _⟩ := hs
  exact ⟨by simpa [Value.cells] using h, by rw [ht]; rfl⟩
theorem three_of {v : Value} (g : FitV PG H T.t_3_api_Clock v) : ∃ (x y z : Value) (a b c : List Nat), v = .agg #[x, y, z] ∧ (Cl H x a ∧ Qd a) ∧ (Cl H y b ∧ Qd b) ∧ (Cl H z c ∧ Qd c) := by
  obtain ⟨cs, rfl, hf⟩ := g.agg (by kernel_rfl)
  have hl : cs.length = 3 := hf.len (by kernel_rfl) (by kernel_rfl)
  obtain ⟨_, hf⟩ := hf.of_array (n := 3) (e := T.t_api_Clock) (by kernel_rfl)
  have e1 : PG.cellsOf T.t_api_Clock = 1 := by kernel_rfl
  rw [e1] at hf
  match cs, hl with
  | [x, y, z], _ =>
    obtain ⟨a, ha⟩ := clk_of (Fit.slV und_clk (hf 0 (by omega)))
    obtain ⟨b, hb⟩ := clk_of (Fit.slV und_clk (hf 1 (by omega)))
    obtain ⟨c, hc⟩ := clk_of (Fit.slV und_clk (hf 2 (by omega)))
    exact ⟨x, y, z, a, b, c, rfl, ha, hb, hc⟩
theorem joins_gt2 (a b : List Nat) (i : Nat) : gt (joins [a, b]) i = max (gt a i) (gt b i) := by
  unfold joins
  rw [trim_gt]
  show gt (jn (jn [] a) b) i = _
  rw [jn_gt, jn_gt]
  simp [gt]
theorem joins_gt3 (a b c : List Nat) (i : Nat) : gt (joins [a, b, c]) i = max (max (gt a i) (gt b i)) (gt c i) := by
  unfold joins
  rw [trim_gt]
  show gt (jn (jn (jn [] a) b) c) i = _
  rw [jn_gt, jn_gt, jn_gt]
  simp [gt]
theorem joins_len {ls : List (List Nat)} {n : Nat} (h : ∀ l ∈ ls, l.length ≤ n) : (joins ls).length ≤ n := by
  unfold joins
  have h1 := trim_len (ls.foldl jn [])
  have h2 := fold_len ls [] n (by simp) h
  omega
theorem fold_qd : ∀ {ls : List (List Nat)} {a : List Nat}, Qd a → (∀ l ∈ ls, Qd l) → Qd (ls.foldl jn a)
  | [], _, h, _ => h
  | l :: ls, a, h, hl => fold_qd (ls := ls) (a := jn a l) (jn_qd h (hl l List.mem_cons_self)) fun x hx => hl x (List.mem_cons_of_mem _ hx)
theorem joins_qd {ls : List (List Nat)} (h : ∀ l ∈ ls, Qd l) : Qd (joins ls) := trim_qd (fold_qd (by simp [Qd]) h)
theorem le_of_right {l : List Nat} (h : right l = true) (i : Nat) : gt l i ≤ 281474976710655 := by
  unfold right at h
  rw [Bool.and_eq_true, List.all_eq_true] at h
  by_cases hi : i < l.length
  · have := h.1 (gt l i) (List.mem_of_getElem? (gt_some hi))
    simpa using this
  · rw [gt_none (by omega)]; omega
theorem right_of {l : List Nat} (h : ∀ i, gt l i ≤ 281474976710655) (hl : l.length ≤ 65536) : right l = true := by
  unfold right
  rw [Bool.and_eq_true, List.all_eq_true]
  refine ⟨fun x hx => ?_, by simpa using hl⟩
  obtain ⟨i, hi, rfl⟩ := List.getElem_of_mem hx
  have h2 := gt_some hi
  rw [List.getElem?_eq_getElem hi] at h2
  rw [Option.some.inj h2]
  simpa using h i
theorem tick_cases {l : List Nat} {id : Nat} (hid : id ≤ 70) (hl : l.length ≤ 40) :
    ((tick l id 281474976710655).2 = 2 ∨ (tick l id 281474976710655).2 = 130) ∨ ((tick l id 281474976710655).2 = 0 ∧ right l = true ∧ gt l id + 1 ≤ 281474976710655 ∧ (tick l id 281474976710655).1.length ≤ 71 ∧
      ∀ i, gt (tick l id 281474976710655).1 i = if i = id then gt l id + 1 else gt l i) := by
  by_cases hr : right l = true
  · have hle := le_of_right hr id
    have e1 : epo l id = (id * 281474976710656 + gt l id, 0) := by
      unfold epo
      rw [if_pos hr, gi_nat]
      unfold pack
      rw [if_pos (by omega), Int.toNat_natCast]
    by_cases hm : gt l id = 281474976710655
    · have e2 : next (id * 281474976710656 + gt l id) 281474976710655 = (0, 130) := by
        unfold next
        rw [if_pos (by omega), if_pos (by omega)]
      refine .inl (.inr ?_)
      unfold tick
      rw [e1, if_neg (by simp), e2, if_pos (by simp)]
    · have e2 : next (id * 281474976710656 + gt l id) 281474976710655 = (id * 281474976710656 + gt l id + 1, 0) := by
        unfold next
        rw [if_pos (by omega), if_neg (by omega)]
      have e3 : tick l id 281474976710655 = (trim ((pad l id).set id (gt l id + 1)), 0) := by
        unfold tick
        rw [e1, if_neg (by simp), e2, if_neg (by simp), Int.toNat_natCast]
        have : (id * 281474976710656 + gt l id + 1) % 281474976710656 = gt l id + 1 := by omega
        rw [this]
      refine .inr ?_
      rw [e3]
      have hp := pad_len l id
      refine ⟨rfl, hr, by omega, ?_, fun i => ?_⟩
      · have := trim_len ((pad l id).set id (gt l id + 1))
        rw [List.length_set, hp] at this
        dsimp only
        omega
      · dsimp only
        rw [trim_gt, gt_set (by omega), pad_gt]
  · refine .inl (.inl ?_)
    have e1 : epo l id = (0, 2) := by unfold epo; rw [if_neg hr]
    unfold tick
    rw [e1, if_pos (by simp)]
theorem VectorHolds.law {v0 v1 : Value} (g0 : FitV PG H T.t_3_api_Clock v0) (g1 : FitV PG H T.t_int v1) (h : Ow B w H) (k : ∀ w', Ow B w' H → K (vB true) w') : callW PG N.linesmanlaw04_VectorHolds [v0, v1] K PK w := by
  obtain ⟨x, y, z, a, b, c, rfl, ⟨ha, qa⟩, ⟨hb, qb⟩, ⟨hc, qc⟩⟩ := three_of g0
  obtain ⟨id, rfl, hidw⟩ := g1.int und_int
  clear g0 g1 hidw
  refine linesmanlaw04_VectorHolds.ok ?_
  unfold linesmanlaw04_VectorHolds.C
  refine al_rule h (l := [x, y, z]) rfl (fun t w1 h1 => ?_)
  refine pu_slarr (n := 3) (e := T.t_api_Clock) (i := (PG.info? T.t_api_Clock).get!) (by kernel_rfl) (by kernel_rfl) ?_
  refine few_spec (ls := [a, b, c]) h1 ⟨_, sl_part (xs := [x, y, z]) (.head _) rfl rfl, ⟨ha.cons, qa⟩, ⟨hb.cons, qb⟩, ⟨hc.cons, qc⟩, trivial⟩ (by simp) (fun w2 h2 => ?_)
  repeat (first | refine pu_not ?_ | refine pu_eql ?_ | refine pu_neq ?_ | refine pu_lss ?_ | refine pu_leq ?_ | refine pu_gtr ?_ | refine pu_geq ?_ | refine pu_add ?_ | refine pu_sub ?_ | refine pu_mul ?_ | refine pu_neg ?_ | refine fa_at ?_ | refine nl_ptr ?_ | refine ex20 ?_ | refine ex21 ?_ | refine ex30 ?_ | refine ex31 ?_ | refine ex32 ?_ | refine ln_rule ?_ | refine lnT_rule ?_ | refine pu_and ?_ | refine pu_or ?_ | refine pu_xor ?_ | refine pu_seq ?_ | refine pu_sne ?_)
  refine cnd (fun _ => vworks_spec h2 (fun w' h' => k w' h'.drop)) (fun hf => ?_)
  have hf : a.length ≤ 40 ∧ b.length ≤ 40 ∧ c.length ≤ 40 := by simpa using hf
  obtain ⟨la, lb, lc⟩ := hf
  repeat (first | refine pu_not ?_ | refine pu_eql ?_ | refine pu_neq ?_ | refine pu_lss ?_ | refine pu_leq ?_ | refine pu_gtr ?_ | refine pu_geq ?_ | refine pu_add ?_ | refine pu_sub ?_ | refine pu_mul ?_ | refine pu_neg ?_ | refine fa_at ?_ | refine nl_ptr ?_ | refine ex20 ?_ | refine ex21 ?_ | refine ex30 ?_ | refine ex31 ?_ | refine ex32 ?_ | refine ln_rule ?_ | refine lnT_rule ?_ | refine pu_and ?_ | refine pu_or ?_ | refine pu_xor ?_ | refine pu_seq ?_ | refine pu_sne ?_)
  refine cnd (fun _ => vworks_spec h2 (fun w' h' => k w' h'.drop)) (fun hid0 => ?_)
  repeat (first | refine pu_not ?_ | refine pu_eql ?_ | refine pu_neq ?_ | refine pu_lss ?_ | refine pu_leq ?_ | refine pu_gtr ?_ | refine pu_geq ?_ | refine pu_add ?_ | refine pu_sub ?_ | refine pu_mul ?_ | refine pu_neg ?_ | refine fa_at ?_ | refine nl_ptr ?_ | refine ex20 ?_ | refine ex21 ?_ | refine ex30 ?_ | refine ex31 ?_ | refine ex32 ?_ | refine ln_rule ?_ | refine lnT_rule ?_ | refine pu_and ?_ | refine pu_or ?_ | refine pu_xor ?_ | refine pu_seq ?_ | refine pu_sne ?_)
  refine cnd (fun _ => vworks_spec h2 (fun w' h' => k w' h'.drop)) (fun hid1 => ?_)
  obtain ⟨i, rfl, hi⟩ : ∃ i : Nat, id = i ∧ i ≤ 70 := ⟨id.toNat, by simp at hid0; omega, by simp at hid0 hid1; omega⟩
  clear hid0 hid1
  refine ⟨fun w => Ow B w ((t, cel [x, y, z] T.t_3_api_Clock) :: H), h2.drew, ?_⟩
  refine ixA_at (by omega) (by omega) ?_
  refine lds_here (fun w h => h) (.head _) rfl ?_
  refine ixA_at (by omega) (by omega) ?_
  refine lds_here (fun w h => h) (.head _) rfl ?_
  refine ixA_at (by omega) (by omega) ?_
  refine lds_here (fun w h => h) (.head _) rfl ?_
  have h3 := h2.drew.drop
  refine bs_rule h3 [x, y] (bsw2 ha hb) (fun b4 w4 h4 => ?_)
  refine join_spec (ls := [a, b]) h4 ⟨_, sl_here (l := [x, y]) (.head _), ⟨ha.cons, qa⟩, ⟨hb.cons, qb⟩, trivial⟩ (fun y hy => hy) (by simp) (by simp; omega) (fun S j w5 h5 hj => ?_)
  have h5 : Ow B w5 (S ++ H) := h5.sub ((List.Sublist.refl S).append (.cons _ (.refl _)))
  have gJ := joins_gt2 a b
  have lJ := joins_len (ls := [a, b]) (n := 40) (by simp; omega)
  have qJ : Qd (joins [a, b]) := joins_qd (by intro l hl; simp at hl; rcases hl with rfl | rfl <;> assumption)
  generalize joins [a, b] = J at *
  have ha : Cl (S ++ H) x a := ha.mono fun y hy => List.mem_append_right _ hy
  have hb : Cl (S ++ H) y b := hb.mono fun y hy => List.mem_append_right _ hy
  have hc : Cl (S ++ H) z c := hc.mono fun y hy => List.mem_append_right _ hy
  have hj : Cl (S ++ H) j J := hj.mono fun y hy => List.mem_append_left _ hy
  have uaa : upTo a a = true := upTo_iff.2 fun _ => Nat.le_refl _
  have uaj : upTo a J = true := upTo_iff.2 fun i => by rw [gJ]; omega
  have ubj : upTo b J = true := upTo_iff.2 fun i => by rw [gJ]; omega
  refine lupTo_spec h5 ha ha (by omega) (by omega) (fun w6 h5 => ?_)
  repeat (first | refine pu_not ?_ | refine pu_eql ?_ | refine pu_neq ?_ | refine pu_lss ?_ | refine pu_leq ?_ | refine pu_gtr ?_ | refine pu_geq ?_ | refine pu_add ?_ | refine pu_sub ?_ | refine pu_mul ?_ | refine pu_neg ?_ | refine fa_at ?_ | refine nl_ptr ?_ | refine ex20 ?_ | refine ex21 ?_ | refine ex30 ?_ | refine ex31 ?_ | refine ex32 ?_ | refine ln_rule ?_ | refine lnT_rule ?_ | refine pu_and ?_ | refine pu_or ?_ | refine pu_xor ?_ | refine pu_seq ?_ | refine pu_sne ?_)
  refine cnd_f (by rw [uaa]; rfl) ?_
  refine lupTo_spec h5 ha hj (by omega) (by omega) (fun w7 h5 => ?_)
  repeat (first | refine pu_not ?_ | refine pu_eql ?_ | refine pu_neq ?_ | refine pu_lss ?_ | refine pu_leq ?_ | refine pu_gtr ?_ | refine pu_geq ?_ | refine pu_add ?_ | refine pu_sub ?_ | refine pu_mul ?_ | refine pu_neg ?_ | refine fa_at ?_ | refine nl_ptr ?_ | refine ex20 ?_ | refine ex21 ?_ | refine ex30 ?_ | refine ex31 ?_ | refine ex32 ?_ | refine ln_rule ?_ | refine lnT_rule ?_ | refine pu_and ?_ | refine pu_or ?_ | refine pu_xor ?_ | refine pu_seq ?_ | refine pu_sne ?_)
  refine cnd_f (by rw [uaj]; rfl) ?_
  refine lupTo_spec h5 hb hj (by omega) (by omega) (fun w8 h5 => ?_)
  repeat (first | refine pu_not ?_ | refine pu_eql ?_ | refine pu_neq ?_ | refine pu_lss ?_ | refine pu_leq ?_ | refine pu_gtr ?_ | refine pu_geq ?_ | refine pu_add ?_ | refine pu_sub ?_ | refine pu_mul ?_ | refine pu_neg ?_ | refine fa_at ?_ | refine nl_ptr ?_ | refine ex20 ?_ | refine ex21 ?_ | refine ex30 ?_ | refine ex31 ?_ | refine ex32 ?_ | refine ln_rule ?_ | refine lnT_rule ?_ | refine pu_and ?_ | refine pu_or ?_ | refine pu_xor ?_ | refine pu_seq ?_ | refine pu_sne ?_)
  refine cnd_f (by rw [ubj]; rfl) ?_
  refine lupTo_spec h5 ha hc (by omega) (by omega) (fun w9 h5 => ?_)
  refine cnd (fun uac0 => ?_) (fun _ => ?_)
  · refine lupTo_spec h5 hb hc (by omega) (by omega) (fun w10 h5 => ?_)
    refine cnd (fun ubc0 => ?_) (fun _ => ?_)
    · have ujc : upTo J c = true := upTo_iff.2 fun i => by
        have h1 := upTo_iff.1 uac0 i
        have h2 := upTo_iff.1 ubc0 i
        rw [gJ]; omega
      refine lupTo_spec h5 hj hc (by omega) (by omega) (fun w11 h5 => ?_)
      repeat (first | refine pu_not ?_ | refine pu_eql ?_ | refine pu_neq ?_ | refine pu_lss ?_ | refine pu_leq ?_ | refine pu_gtr ?_ | refine pu_geq ?_ | refine pu_add ?_ | refine pu_sub ?_ | refine pu_mul ?_ | refine pu_neg ?_ | refine fa_at ?_ | refine nl_ptr ?_ | refine ex20 ?_ | refine ex21 ?_ | refine ex30 ?_ | refine ex31 ?_ | refine ex32 ?_ | refine ln_rule ?_ | refine lnT_rule ?_ | refine pu_and ?_ | refine pu_or ?_ | refine pu_xor ?_ | refine pu_seq ?_ | refine pu_sne ?_)
      refine cnd_f (by rw [ujc]; rfl) ?_
      refine lupTo_spec h5 ha hb (by omega) (by omega) (fun w12 h5 => ?_)
      refine cnd (fun uab => ?_) (fun _ => ?_)
      · refine lupTo_spec h5 hb hc (by omega) (by omega) (fun w13 h5 => ?_)
        refine cnd (fun ubc => ?_) (fun _ => ?_)
        · have uac : upTo a c = true := upTo_iff.2 fun i => Nat.le_trans (upTo_iff.1 uab i) (upTo_iff.1 ubc i)
          refine lupTo_spec h5 ha hc (by omega) (by omega) (fun w14 h5 => ?_)
          repeat (first | refine pu_not ?_ | refine pu_eql ?_ | refine pu_neq ?_ | refine pu_lss ?_ | refine pu_leq ?_ | refine pu_gtr ?_ | refine pu_geq ?_ | refine pu_add ?_ | refine pu_sub ?_ | refine pu_mul ?_ | refine pu_neg ?_ | refine fa_at ?_ | refine nl_ptr ?_ | refine ex20 ?_ | refine ex21 ?_ | refine ex30 ?_ | refine ex31 ?_ | refine ex32 ?_ | refine ln_rule ?_ | refine lnT_rule ?_ | refine pu_and ?_ | refine pu_or ?_ | refine pu_xor ?_ | refine pu_seq ?_ | refine pu_sne ?_)
          refine cnd_f (by rw [uac]; rfl) ?_
          refine bs_rule h5 [y, x, j] (bsw3 hb ha hj) (fun b20 w20 h20 => ?_)
          refine join_spec (ls := [b, a, J]) h20 ⟨_, sl_here (l := [y, x, j]) (.head _), ⟨hb.cons, qb⟩, ⟨ha.cons, qa⟩, ⟨hj.cons, qJ⟩, trivial⟩ (fun y hy => hy) (by simp) (by simp; omega) (fun S2 jj w21 h21 hjj => ?_)
          have h21 : Ow B w21 (S2 ++ (S ++ H)) := h21.sub ((List.Sublist.refl S2).append (.cons _ (.refl _)))
          have gK := joins_gt3 b a J
          have lK := joins_len (ls := [b, a, J]) (n := 40) (by simp; omega)
          generalize joins [b, a, J] = KJ at *
          refine stands_spec h21 (hj.mono fun y hy => List.mem_append_right _ hy) (hjj.mono fun y hy => List.mem_append_left _ hy) (by omega) (by omega) (fun w22 h22 => ?_)
          have h22 := drp h22
          have eS : stands J KJ = 1 := by
            unfold stands
            rw [if_pos (upTo_iff.2 fun i => by rw [gK]; omega), if_pos (upTo_iff.2 fun i => by rw [gK, gJ]; omega)]
          rw [eS]
          repeat (first | refine pu_not ?_ | refine pu_eql ?_ | refine pu_neq ?_ | refine pu_lss ?_ | refine pu_leq ?_ | refine pu_gtr ?_ | refine pu_geq ?_ | refine pu_add ?_ | refine pu_sub ?_ | refine pu_mul ?_ | refine pu_neg ?_ | refine fa_at ?_ | refine nl_ptr ?_ | refine ex20 ?_ | refine ex21 ?_ | refine ex30 ?_ | refine ex31 ?_ | refine ex32 ?_ | refine ln_rule ?_ | refine lnT_rule ?_ | refine pu_and ?_ | refine pu_or ?_ | refine pu_xor ?_ | refine pu_seq ?_ | refine pu_sne ?_)
          refine cnd_f rfl ?_
          refine tick_spec (f := 281474976710655) h22 ha (fun y hy => hy) qa (by omega) (by omega) (by omega) (fun S3 tv w23 h23 htv => ?_)
          repeat (first | refine pu_not ?_ | refine pu_eql ?_ | refine pu_neq ?_ | refine pu_lss ?_ | refine pu_leq ?_ | refine pu_gtr ?_ | refine pu_geq ?_ | refine pu_add ?_ | refine pu_sub ?_ | refine pu_mul ?_ | refine pu_neg ?_ | refine fa_at ?_ | refine nl_ptr ?_ | refine ex20 ?_ | refine ex21 ?_ | refine ex30 ?_ | refine ex31 ?_ | refine ex32 ?_ | refine ln_rule ?_ | refine lnT_rule ?_ | refine pu_and ?_ | refine pu_or ?_ | refine pu_xor ?_ | refine pu_seq ?_ | refine pu_sne ?_)
          refine vnum_spec ?_
          repeat (first | refine pu_not ?_ | refine pu_eql ?_ | refine pu_neq ?_ | refine pu_lss ?_ | refine pu_leq ?_ | refine pu_gtr ?_ | refine pu_geq ?_ | refine pu_add ?_ | refine pu_sub ?_ | refine pu_mul ?_ | refine pu_neg ?_ | refine fa_at ?_ | refine nl_ptr ?_ | refine ex20 ?_ | refine ex21 ?_ | refine ex30 ?_ | refine ex31 ?_ | refine ex32 ?_ | refine ln_rule ?_ | refine lnT_rule ?_ | refine pu_and ?_ | refine pu_or ?_ | refine pu_xor ?_ | refine pu_seq ?_ | refine pu_sne ?_)
          rcases @tick_cases a i hi la with he | ⟨he, hr, hg1, hlt, hgt⟩
          · rcases he with he | he
            · rw [he]
              refine cnd_t rfl ?_
              refine vnum_spec ?_
              repeat (first | refine pu_not ?_ | refine pu_eql ?_ | refine pu_neq ?_ | refine pu_lss ?_ | refine pu_leq ?_ | refine pu_gtr ?_ | refine pu_geq ?_ | refine pu_add ?_ | refine pu_sub ?_ | refine pu_mul ?_ | refine pu_neg ?_ | refine fa_at ?_ | refine nl_ptr ?_ | refine ex20 ?_ | refine ex21 ?_ | refine ex30 ?_ | refine ex31 ?_ | refine ex32 ?_ | refine ln_rule ?_ | refine lnT_rule ?_ | refine pu_and ?_ | refine pu_or ?_ | refine pu_xor ?_ | refine pu_seq ?_ | refine pu_sne ?_)
              refine cnd_t rfl ?_
              exact vworks_spec (drp (drp h23)) k
            · rw [he]
              refine cnd_t rfl ?_
              refine vnum_spec ?_
              repeat (first | refine pu_not ?_ | refine pu_eql ?_ | refine pu_neq ?_ | refine pu_lss ?_ | refine pu_leq ?_ | refine pu_gtr ?_ | refine pu_geq ?_ | refine pu_add ?_ | refine pu_sub ?_ | refine pu_mul ?_ | refine pu_neg ?_ | refine fa_at ?_ | refine nl_ptr ?_ | refine ex20 ?_ | refine ex21 ?_ | refine ex30 ?_ | refine ex31 ?_ | refine ex32 ?_ | refine ln_rule ?_ | refine lnT_rule ?_ | refine pu_and ?_ | refine pu_or ?_ | refine pu_xor ?_ | refine pu_seq ?_ | refine pu_sne ?_)
              refine cnd_f rfl ?_
              refine vnum_spec ?_
              repeat (first | refine pu_not ?_ | refine pu_eql ?_ | refine pu_neq ?_ | refine pu_lss ?_ | refine pu_leq ?_ | refine pu_gtr ?_ | refine pu_geq ?_ | refine pu_add ?_ | refine pu_sub ?_ | refine pu_mul ?_ | refine pu_neg ?_ | refine fa_at ?_ | refine nl_ptr ?_ | refine ex20 ?_ | refine ex21 ?_ | refine ex30 ?_ | refine ex31 ?_ | refine ex32 ?_ | refine ln_rule ?_ | refine lnT_rule ?_ | refine pu_and ?_ | refine pu_or ?_ | refine pu_xor ?_ | refine pu_seq ?_ | refine pu_sne ?_)
              refine cnd_t rfl ?_
              exact vworks_spec (drp (drp h23)) k
          · rw [he]
            refine cnd_f rfl ?_
            generalize (tick a i 281474976710655).1 = TT at *
            have hqT : Qd TT := fun v hv => by
              obtain ⟨q, hq, rfl⟩ := List.getElem_of_mem hv
              have h2 := gt_some hq
              rw [List.getElem?_eq_getElem hq] at h2
              rw [Option.some.inj h2, hgt]
              have := gt_lt qa q
              split <;> omega
            have htv : Cl (S3 ++ (S ++ H)) tv TT := htv.mono fun y hy => List.mem_append_left _ hy
            have ha3 : Cl (S3 ++ (S ++ H)) x a := ha.mono fun y hy => List.mem_append_right _ hy
            have hrT : right TT = true := right_of (fun q => by rw [hgt]; have := le_of_right hr q; split <;> omega) (by omega)
            have eE : epo TT i = (i * 281474976710656 + (gt a i + 1), 0) := by
              unfold epo
              rw [if_pos hrT, gi_nat, hgt, if_pos rfl]
              unfold pack
              rw [if_pos (by omega), Int.toNat_natCast]
            refine epoch_spec h23 htv hqT (by omega) (by omega) (fun w24 h24 => ?_)
            rw [eE]
            repeat (first | refine pu_not ?_ | refine pu_eql ?_ | refine pu_neq ?_ | refine pu_lss ?_ | refine pu_leq ?_ | refine pu_gtr ?_ | refine pu_geq ?_ | refine pu_add ?_ | refine pu_sub ?_ | refine pu_mul ?_ | refine pu_neg ?_ | refine fa_at ?_ | refine nl_ptr ?_ | refine ex20 ?_ | refine ex21 ?_ | refine ex30 ?_ | refine ex31 ?_ | refine ex32 ?_ | refine ln_rule ?_ | refine lnT_rule ?_ | refine pu_and ?_ | refine pu_or ?_ | refine pu_xor ?_ | refine pu_seq ?_ | refine pu_sne ?_)
            refine vnum_spec ?_
            repeat (first | refine pu_not ?_ | refine pu_eql ?_ | refine pu_neq ?_ | refine pu_lss ?_ | refine pu_leq ?_ | refine pu_gtr ?_ | refine pu_geq ?_ | refine pu_add ?_ | refine pu_sub ?_ | refine pu_mul ?_ | refine pu_neg ?_ | refine fa_at ?_ | refine nl_ptr ?_ | refine ex20 ?_ | refine ex21 ?_ | refine ex30 ?_ | refine ex31 ?_ | refine ex32 ?_ | refine ln_rule ?_ | refine lnT_rule ?_ | refine pu_and ?_ | refine pu_or ?_ | refine pu_xor ?_ | refine pu_seq ?_ | refine pu_sne ?_)
            refine cnd_t rfl ?_
            refine stands_spec h24 ha3 htv (by omega) (by omega) (fun w25 h25 => ?_)
            have eB : stands a TT = 2 := by
              unfold stands
              rw [if_pos (upTo_iff.2 fun q => by rw [hgt]; split <;> rename_i hq <;> (try subst hq) <;> omega), if_neg]
              intro hx
              have := upTo_iff.1 hx i
              rw [hgt, if_pos rfl] at this
              omega
            rw [eB]
            repeat (first | refine pu_not ?_ | refine pu_eql ?_ | refine pu_neq ?_ | refine pu_lss ?_ | refine pu_leq ?_ | refine pu_gtr ?_ | refine pu_geq ?_ | refine pu_add ?_ | refine pu_sub ?_ | refine pu_mul ?_ | refine pu_neg ?_ | refine fa_at ?_ | refine nl_ptr ?_ | refine ex20 ?_ | refine ex21 ?_ | refine ex30 ?_ | refine ex31 ?_ | refine ex32 ?_ | refine ln_rule ?_ | refine lnT_rule ?_ | refine pu_and ?_ | refine pu_or ?_ | refine pu_xor ?_ | refine pu_seq ?_ | refine pu_sne ?_)
            refine cnd_t rfl ?_
            have em : (i * 281474976710656 + (gt a i + 1)) % 281474976710656 = gt a i + 1 := by omega
            have ed : (i * 281474976710656 + (gt a i + 1)) / 281474976710656 = i := by omega
            refine has_spec h25 htv (by omega) (fun w26 h26 => ?_)
            refine cnd_t ?_ ?_
            · unfold has
              rw [em, ed, hgt, if_pos rfl]
              simp
            refine has_spec h26 ha3 (by omega) (fun w27 h27 => ?_)
            repeat (first | refine pu_not ?_ | refine pu_eql ?_ | refine pu_neq ?_ | refine pu_lss ?_ | refine pu_leq ?_ | refine pu_gtr ?_ | refine pu_geq ?_ | refine pu_add ?_ | refine pu_sub ?_ | refine pu_mul ?_ | refine pu_neg ?_ | refine fa_at ?_ | refine nl_ptr ?_ | refine ex20 ?_ | refine ex21 ?_ | refine ex30 ?_ | refine ex31 ?_ | refine ex32 ?_ | refine ln_rule ?_ | refine lnT_rule ?_ | refine pu_and ?_ | refine pu_or ?_ | refine pu_xor ?_ | refine pu_seq ?_ | refine pu_sne ?_)
            refine cnd_t ?_ ?_
            · unfold has
              rw [em, ed]
              simp
            exact vworks_spec (drp (drp h27)) k
        · refine bs_rule h5 [y, x, j] (bsw3 hb ha hj) (fun b20 w20 h20 => ?_)
          refine join_spec (ls := [b, a, J]) h20 ⟨_, sl_here (l := [y, x, j]) (.head _), ⟨hb.cons, qb⟩, ⟨ha.cons, qa⟩, ⟨hj.cons, qJ⟩, trivial⟩ (fun y hy => hy) (by simp) (by simp; omega) (fun S2 jj w21 h21 hjj => ?_)
          have h21 : Ow B w21 (S2 ++ (S ++ H)) := h21.sub ((List.Sublist.refl S2).append (.cons _ (.refl _)))
          have gK := joins_gt3 b a J
          have lK := joins_len (ls := [b, a, J]) (n := 40) (by simp; omega)
          generalize joins [b, a, J] = KJ at *
          refine stands_spec h21 (hj.mono fun y hy => List.mem_append_right _ hy) (hjj.mono fun y hy => List.mem_append_left _ hy) (by omega) (by omega) (fun w22 h22 => ?_)
          have h22 := drp h22
          have eS : stands J KJ = 1 := by
            unfold stands
            rw [if_pos (upTo_iff.2 fun i => by rw [gK]; omega), if_pos (upTo_iff.2 fun i => by rw [gK, gJ]; omega)]
          rw [eS]
          repeat (first | refine pu_not ?_ | refine pu_eql ?_ | refine pu_neq ?_ | refine pu_lss ?_ | refine pu_leq ?_ | refine pu_gtr ?_ | refine pu_geq ?_ | refine pu_add ?_ | refine pu_sub ?_ | refine pu_mul ?_ | refine pu_neg ?_ | refine fa_at ?_ | refine nl_ptr ?_ | refine ex20 ?_ | refine ex21 ?_ | refine ex30 ?_ | refine ex31 ?_ | refine ex32 ?_ | refine ln_rule ?_ | refine lnT_rule ?_ | refine pu_and ?_ | refine pu_or ?_ | refine pu_xor ?_ | refine pu_seq ?_ | refine pu_sne ?_)
          refine cnd_f rfl ?_
          refine tick_spec (f := 281474976710655) h22 ha (fun y hy => hy) qa (by omega) (by omega) (by omega) (fun S3 tv w23 h23 htv => ?_)
          repeat (first | refine pu_not ?_ | refine pu_eql ?_ | refine pu_neq ?_ | refine pu_lss ?_ | refine pu_leq ?_ | refine pu_gtr ?_ | refine pu_geq ?_ | refine pu_add ?_ | refine pu_sub ?_ | refine pu_mul ?_ | refine pu_neg ?_ | refine fa_at ?_ | refine nl_ptr ?_ | refine ex20 ?_ | refine ex21 ?_ | refine ex30 ?_ | refine ex31 ?_ | refine ex32 ?_ | refine ln_rule ?_ | refine lnT_rule ?_ | refine pu_and ?_ | refine pu_or ?_ | refine pu_xor ?_ | refine pu_seq ?_ | refine pu_sne ?_)
          refine vnum_spec ?_
          repeat (first | refine pu_not ?_ | refine pu_eql ?_ | refine pu_neq ?_ | refine pu_lss ?_ | refine pu_leq ?_ | refine pu_gtr ?_ | refine pu_geq ?_ | refine pu_add ?_ | refine pu_sub ?_ | refine pu_mul ?_ | refine pu_neg ?_ | refine fa_at ?_ | refine nl_ptr ?_ | refine ex20 ?_ | refine ex21 ?_ | refine ex30 ?_ | refine ex31 ?_ | refine ex32 ?_ | refine ln_rule ?_ | refine lnT_rule ?_ | refine pu_and ?_ | refine pu_or ?_ | refine pu_xor ?_ | refine pu_seq ?_ | refine pu_sne ?_)
          rcases @tick_cases a i hi la with he | ⟨he, hr, hg1, hlt, hgt⟩
          · rcases he with he | he
            · rw [he]
              refine cnd_t rfl ?_
              refine vnum_spec ?_
              repeat (first | refine pu_not ?_ | refine pu_eql ?_ | refine pu_neq ?_ | refine pu_lss ?_ | refine pu_leq ?_ | refine pu_gtr ?_ | refine pu_geq ?_ | refine pu_add ?_ | refine pu_sub ?_ | refine pu_mul ?_ | refine pu_neg ?_ | refine fa_at ?_ | refine nl_ptr ?_ | refine ex20 ?_ | refine ex21 ?_ | refine ex30 ?_ | refine ex31 ?_ | refine ex32 ?_ | refine ln_rule ?_ | refine lnT_rule ?_ | refine pu_and ?_ | refine pu_or ?_ | refine pu_xor ?_ | refine pu_seq ?_ | refine pu_sne ?_)
              refine cnd_t rfl ?_
              exact vworks_spec (drp (drp h23)) k
            · rw [he]
              refine cnd_t rfl ?_
              refine vnum_spec ?_
              repeat (first | refine pu_not ?_ | refine pu_eql ?_ | refine pu_neq ?_ | refine pu_lss ?_ | refine pu_leq ?_ | refine pu_gtr ?_ | refine pu_geq ?_ | refine pu_add ?_ | refine pu_sub ?_ | refine pu_mul ?_ | refine pu_neg ?_ | refine fa_at ?_ | refine nl_ptr ?_ | refine ex20 ?_ | refine ex21 ?_ | refine ex30 ?_ | refine ex31 ?_ | refine ex32 ?_ | refine ln_rule ?_ | refine lnT_rule ?_ | refine pu_and ?_ | refine pu_or ?_ | refine pu_xor ?_ | refine pu_seq ?_ | refine pu_sne ?_)
              refine cnd_f rfl ?_
              refine vnum_spec ?_
              repeat (first | refine pu_not ?_ | refine pu_eql ?_ | refine pu_neq ?_ | refine pu_lss ?_ | refine pu_leq ?_ | refine pu_gtr ?_ | refine pu_geq ?_ | refine pu_add ?_ | refine pu_sub ?_ | refine pu_mul ?_ | refine pu_neg ?_ | refine fa_at ?_ | refine nl_ptr ?_ | refine ex20 ?_ | refine ex21 ?_ | refine ex30 ?_ | refine ex31 ?_ | refine ex32 ?_ | refine ln_rule ?_ | refine lnT_rule ?_ | refine pu_and ?_ | refine pu_or ?_ | refine pu_xor ?_ | refine pu_seq ?_ | refine pu_sne ?_)
              refine cnd_t rfl ?_
              exact vworks_spec (drp (drp h23)) k
          · rw [he]
            refine cnd_f rfl ?_
            generalize (tick a i 281474976710655).1 = TT at *
            have hqT : Qd TT := fun v hv => by
              obtain ⟨q, hq, rfl⟩ := List.getElem_of_mem hv
              have h2 := gt_some hq
              rw [List.getElem?_eq_getElem hq] at h2
              rw [Option.some.inj h2, hgt]
              have := gt_lt qa q
              split <;> omega
            have htv : Cl (S3 ++ (S ++ H)) tv TT := htv.mono fun y hy => List.mem_append_left _ hy
            have ha3 : Cl (S3 ++ (S ++ H)) x a := ha.mono fun y hy => List.mem_append_right _ hy
            have hrT : right TT = true := right_of (fun q => by rw [hgt]; have := le_of_right hr q; split <;> omega) (by omega)
            have eE : epo TT i = (i * 281474976710656 + (gt a i + 1), 0) := by
              unfold epo
              rw [if_pos hrT, gi_nat, hgt, if_pos rfl]
              unfold pack
              rw [if_pos (by omega), Int.toNat_natCast]
            refine epoch_spec h23 htv hqT (by omega) (by omega) (fun w24 h24 => ?_)
            rw [eE]
            repeat (first | refine pu_not ?_ | refine pu_eql ?_ | refine pu_neq ?_ | refine pu_lss ?_ | refine pu_leq ?_ | refine pu_gtr ?_ | refine pu_geq ?_ | refine pu_add ?_ | refine pu_sub ?_ | refine pu_mul ?_ | refine pu_neg ?_ | refine fa_at ?_ | refine nl_ptr ?_ | refine ex20 ?_ | refine ex21 ?_ | refine ex30 ?_ | refine ex31 ?_ | refine ex32 ?_ | refine ln_rule ?_ | refine lnT_rule ?_ | refine pu_and ?_ | refine pu_or ?_ | refine pu_xor ?_ | refine pu_seq ?_ | refine pu_sne ?_)
            refine vnum_spec ?_
            repeat (first | refine pu_not ?_ | refine pu_eql ?_ | refine pu_neq ?_ | refine pu_lss ?_ | refine pu_leq ?_ | refine pu_gtr ?_ | refine pu_geq ?_ | refine pu_add ?_ | refine pu_sub ?_ | refine pu_mul ?_ | refine pu_neg ?_ | refine fa_at ?_ | refine nl_ptr ?_ | refine ex20 ?_ | refine ex21 ?_ | refine ex30 ?_ | refine ex31 ?_ | refine ex32 ?_ | refine ln_rule ?_ | refine lnT_rule ?_ | refine pu_and ?_ | refine pu_or ?_ | refine pu_xor ?_ | refine pu_seq ?_ | refine pu_sne ?_)
            refine cnd_t rfl ?_
            refine stands_spec h24 ha3 htv (by omega) (by omega) (fun w25 h25 => ?_)
            have eB : stands a TT = 2 := by
              unfold stands
              rw [if_pos (upTo_iff.2 fun q => by rw [hgt]; split <;> rename_i hq <;> (try subst hq) <;> omega), if_neg]
              intro hx
              have := upTo_iff.1 hx i
              rw [hgt, if_pos rfl] at this
              omega
            rw [eB]
            repeat (first | refine pu_not ?_ | refine pu_eql ?_ | refine pu_neq ?_ | refine pu_lss ?_ | refine pu_leq ?_ | refine pu_gtr ?_ | refine pu_geq ?_ | refine pu_add ?_ | refine pu_sub ?_ | refine pu_mul ?_ | refine pu_neg ?_ | refine fa_at ?_ | refine nl_ptr ?_ | refine ex20 ?_ | refine ex21 ?_ | refine ex30 ?_ | refine ex31 ?_ | refine ex32 ?_ | refine ln_rule ?_ | refine lnT_rule ?_ | refine pu_and ?_ | refine pu_or ?_ | refine pu_xor ?_ | refine pu_seq ?_ | refine pu_sne ?_)
            refine cnd_t rfl ?_
            have em : (i * 281474976710656 + (gt a i + 1)) % 281474976710656 = gt a i + 1 := by omega
            have ed : (i * 281474976710656 + (gt a i + 1)) / 281474976710656 = i := by omega
            refine has_spec h25 htv (by omega) (fun w26 h26 => ?_)
            refine cnd_t ?_ ?_
            · unfold has
              rw [em, ed, hgt, if_pos rfl]
              simp
            refine has_spec h26 ha3 (by omega) (fun w27 h27 => ?_)
            repeat (first | refine pu_not ?_ | refine pu_eql ?_ | refine pu_neq ?_ | refine pu_lss ?_ | refine pu_leq ?_ | refine pu_gtr ?_ | refine pu_geq ?_ | refine pu_add ?_ | refine pu_sub ?_ | refine pu_mul ?_ | refine pu_neg ?_ | refine fa_at ?_ | refine nl_ptr ?_ | refine ex20 ?_ | refine ex21 ?_ | refine ex30 ?_ | refine ex31 ?_ | refine ex32 ?_ | refine ln_rule ?_ | refine lnT_rule ?_ | refine pu_and ?_ | refine pu_or ?_ | refine pu_xor ?_ | refine pu_seq ?_ | refine pu_sne ?_)
            refine cnd_t ?_ ?_
            · unfold has
              rw [em, ed]
              simp
            exact vworks_spec (drp (drp h27)) k
      · refine bs_rule h5 [y, x, j] (bsw3 hb ha hj) (fun b20 w20 h20 => ?_)
        refine join_spec (ls := [b, a, J]) h20 ⟨_, sl_here (l := [y, x, j]) (.head _), ⟨hb.cons, qb⟩, ⟨ha.cons, qa⟩, ⟨hj.cons, qJ⟩, trivial⟩ (fun y hy => hy) (by simp) (by simp; omega) (fun S2 jj w21 h21 hjj => ?_)
        have h21 : Ow B w21 (S2 ++ (S ++ H)) := h21.sub ((List.Sublist.refl S2).append (.cons _ (.refl _)))
        have gK := joins_gt3 b a J
        have lK := joins_len (ls := [b, a, J]) (n := 40) (by simp; omega)
        generalize joins [b, a, J] = KJ at *
        refine stands_spec h21 (hj.mono fun y hy => List.mem_append_right _ hy) (hjj.mono fun y hy => List.mem_append_left _ hy) (by omega) (by omega) (fun w22 h22 => ?_)
        have h22 := drp h22
        have eS : stands J KJ = 1 := by
          unfold stands
          rw [if_pos (upTo_iff.2 fun i => by rw [gK]; omega), if_pos (upTo_iff.2 fun i => by rw [gK, gJ]; omega)]
        rw [eS]
        repeat (first | refine pu_not ?_ | refine pu_eql ?_ | refine pu_neq ?_ | refine pu_lss ?_ | refine pu_leq ?_ | refine pu_gtr ?_ | refine pu_geq ?_ | refine pu_add ?_ | refine pu_sub ?_ | refine pu_mul ?_ | refine pu_neg ?_ | refine fa_at ?_ | refine nl_ptr ?_ | refine ex20 ?_ | refine ex21 ?_ | refine ex30 ?_ | refine ex31 ?_ | refine ex32 ?_ | refine ln_rule ?_ | refine lnT_rule ?_ | refine pu_and ?_ | refine pu_or ?_ | refine pu_xor ?_ | refine pu_seq ?_ | refine pu_sne ?_)
        refine cnd_f rfl ?_
        refine tick_spec (f := 281474976710655) h22 ha (fun y hy => hy) qa (by omega) (by omega) (by omega) (fun S3 tv w23 h23 htv => ?_)
        repeat (first | refine pu_not ?_ | refine pu_eql ?_ | refine pu_neq ?_ | refine pu_lss ?_ | refine pu_leq ?_ | refine pu_gtr ?_ | refine pu_geq ?_ | refine pu_add ?_ | refine pu_sub ?_ | refine pu_mul ?_ | refine pu_neg ?_ | refine fa_at ?_ | refine nl_ptr ?_ | refine ex20 ?_ | refine ex21 ?_ | refine ex30 ?_ | refine ex31 ?_ | refine ex32 ?_ | refine ln_rule ?_ | refine lnT_rule ?_ | refine pu_and ?_ | refine pu_or ?_ | refine pu_xor ?_ | refine pu_seq ?_ | refine pu_sne ?_)
        refine vnum_spec ?_
        repeat (first | refine pu_not ?_ | refine pu_eql ?_ | refine pu_neq ?_ | refine pu_lss ?_ | refine pu_leq ?_ | refine pu_gtr ?_ | refine pu_geq ?_ | refine pu_add ?_ | refine pu_sub ?_ | refine pu_mul ?_ | refine pu_neg ?_ | refine fa_at ?_ | refine nl_ptr ?_ | refine ex20 ?_ | refine ex21 ?_ | refine ex30 ?_ | refine ex31 ?_ | refine ex32 ?_ | refine ln_rule ?_ | refine lnT_rule ?_ | refine pu_and ?_ | refine pu_or ?_ | refine pu_xor ?_ | refine pu_seq ?_ | refine pu_sne ?_)
        rcases @tick_cases a i hi la with he | ⟨he, hr, hg1, hlt, hgt⟩
        · rcases he with he | he
          · rw [he]
            refine cnd_t rfl ?_
            refine vnum_spec ?_
            repeat (first | refine pu_not ?_ | refine pu_eql ?_ | refine pu_neq ?_ | refine pu_lss ?_ | refine pu_leq ?_ | refine pu_gtr ?_ | refine pu_geq ?_ | refine pu_add ?_ | refine pu_sub ?_ | refine pu_mul ?_ | refine pu_neg ?_ | refine fa_at ?_ | refine nl_ptr ?_ | refine ex20 ?_ | refine ex21 ?_ | refine ex30 ?_ | refine ex31 ?_ | refine ex32 ?_ | refine ln_rule ?_ | refine lnT_rule ?_ | refine pu_and ?_ | refine pu_or ?_ | refine pu_xor ?_ | refine pu_seq ?_ | refine pu_sne ?_)
            refine cnd_t rfl ?_
            exact vworks_spec (drp (drp h23)) k
          · rw [he]
            refine cnd_t rfl ?_
            refine vnum_spec ?_
            repeat (first | refine pu_not ?_ | refine pu_eql ?_ | refine pu_neq ?_ | refine pu_lss ?_ | refine pu_leq ?_ | refine pu_gtr ?_ | refine pu_geq ?_ | refine pu_add ?_ | refine pu_sub ?_ | refine pu_mul ?_ | refine pu_neg ?_ | refine fa_at ?_ | refine nl_ptr ?_ | refine ex20 ?_ | refine ex21 ?_ | refine ex30 ?_ | refine ex31 ?_ | refine ex32 ?_ | refine ln_rule ?_ | refine lnT_rule ?_ | refine pu_and ?_ | refine pu_or ?_ | refine pu_xor ?_ | refine pu_seq ?_ | refine pu_sne ?_)
            refine cnd_f rfl ?_
            refine vnum_spec ?_
            repeat (first | refine pu_not ?_ | refine pu_eql ?_ | refine pu_neq ?_ | refine pu_lss ?_ | refine pu_leq ?_ | refine pu_gtr ?_ | refine pu_geq ?_ | refine pu_add ?_ | refine pu_sub ?_ | refine pu_mul ?_ | refine pu_neg ?_ | refine fa_at ?_ | refine nl_ptr ?_ | refine ex20 ?_ | refine ex21 ?_ | refine ex30 ?_ | refine ex31 ?_ | refine ex32 ?_ | refine ln_rule ?_ | refine lnT_rule ?_ | refine pu_and ?_ | refine pu_or ?_ | refine pu_xor ?_ | refine pu_seq ?_ | refine pu_sne ?_)
            refine cnd_t rfl ?_
            exact vworks_spec (drp (drp h23)) k
        · rw [he]
          refine cnd_f rfl ?_
          generalize (tick a i 281474976710655).1 = TT at *
          have hqT : Qd TT := fun v hv => by
            obtain ⟨q, hq, rfl⟩ := List.getElem_of_mem hv
            have h2 := gt_some hq
            rw [List.getElem?_eq_getElem hq] at h2
            rw [Option.some.inj h2, hgt]
            have := gt_lt qa q
            split <;> omega
          have htv : Cl (S3 ++ (S ++ H)) tv TT := htv.mono fun y hy => List.mem_append_left _ hy
          have ha3 : Cl (S3 ++ (S ++ H)) x a := ha.mono fun y hy => List.mem_append_right _ hy
          have hrT : right TT = true := right_of (fun q => by rw [hgt]; have := le_of_right hr q; split <;> omega) (by omega)
          have eE : epo TT i = (i * 281474976710656 + (gt a i + 1), 0) := by
            unfold epo
            rw [if_pos hrT, gi_nat, hgt, if_pos rfl]
            unfold pack
            rw [if_pos (by omega), Int.toNat_natCast]
          refine epoch_spec h23 htv hqT (by omega) (by omega) (fun w24 h24 => ?_)
          rw [eE]
          repeat (first | refine pu_not ?_ | refine pu_eql ?_ | refine pu_neq ?_ | refine pu_lss ?_ | refine pu_leq ?_ | refine pu_gtr ?_ | refine pu_geq ?_ | refine pu_add ?_ | refine pu_sub ?_ | refine pu_mul ?_ | refine pu_neg ?_ | refine fa_at ?_ | refine nl_ptr ?_ | refine ex20 ?_ | refine ex21 ?_ | refine ex30 ?_ | refine ex31 ?_ | refine ex32 ?_ | refine ln_rule ?_ | refine lnT_rule ?_ | refine pu_and ?_ | refine pu_or ?_ | refine pu_xor ?_ | refine pu_seq ?_ | refine pu_sne ?_)
          refine vnum_spec ?_
          repeat (first | refine pu_not ?_ | refine pu_eql ?_ | refine pu_neq ?_ | refine pu_lss ?_ | refine pu_leq ?_ | refine pu_gtr ?_ | refine pu_geq ?_ | refine pu_add ?_ | refine pu_sub ?_ | refine pu_mul ?_ | refine pu_neg ?_ | refine fa_at ?_ | refine nl_ptr ?_ | refine ex20 ?_ | refine ex21 ?_ | refine ex30 ?_ | refine ex31 ?_ | refine ex32 ?_ | refine ln_rule ?_ | refine lnT_rule ?_ | refine pu_and ?_ | refine pu_or ?_ | refine pu_xor ?_ | refine pu_seq ?_ | refine pu_sne ?_)
          refine cnd_t rfl ?_
          refine stands_spec h24 ha3 htv (by omega) (by omega) (fun w25 h25 => ?_)
          have eB : stands a TT = 2 := by
            unfold stands
            rw [if_pos (upTo_iff.2 fun q => by rw [hgt]; split <;> rename_i hq <;> (try subst hq) <;> omega), if_neg]
            intro hx
            have := upTo_iff.1 hx i
            rw [hgt, if_pos rfl] at this
            omega
          rw [eB]
          repeat (first | refine pu_not ?_ | refine pu_eql ?_ | refine pu_neq ?_ | refine pu_lss ?_ | refine pu_leq ?_ | refine pu_gtr ?_ | refine pu_geq ?_ | refine pu_add ?_ | refine pu_sub ?_ | refine pu_mul ?_ | refine pu_neg ?_ | refine fa_at ?_ | refine nl_ptr ?_ | refine ex20 ?_ | refine ex21 ?_ | refine ex30 ?_ | refine ex31 ?_ | refine ex32 ?_ | refine ln_rule ?_ | refine lnT_rule ?_ | refine pu_and ?_ | refine pu_or ?_ | refine pu_xor ?_ | refine pu_seq ?_ | refine pu_sne ?_)
          refine cnd_t rfl ?_
          have em : (i * 281474976710656 + (gt a i + 1)) % 281474976710656 = gt a i + 1 := by omega
          have ed : (i * 281474976710656 + (gt a i + 1)) / 281474976710656 = i := by omega
          refine has_spec h25 htv (by omega) (fun w26 h26 => ?_)
          refine cnd_t ?_ ?_
          · unfold has
            rw [em, ed, hgt, if_pos rfl]
            simp
          refine has_spec h26 ha3 (by omega) (fun w27 h27 => ?_)
          repeat (first | refine pu_not ?_ | refine pu_eql ?_ | refine pu_neq ?_ | refine pu_lss ?_ | refine pu_leq ?_ | refine pu_gtr ?_ | refine pu_geq ?_ | refine pu_add ?_ | refine pu_sub ?_ | refine pu_mul ?_ | refine pu_neg ?_ | refine fa_at ?_ | refine nl_ptr ?_ | refine ex20 ?_ | refine ex21 ?_ | refine ex30 ?_ | refine ex31 ?_ | refine ex32 ?_ | refine ln_rule ?_ | refine lnT_rule ?_ | refine pu_and ?_ | refine pu_or ?_ | refine pu_xor ?_ | refine pu_seq ?_ | refine pu_sne ?_)
          refine cnd_t ?_ ?_
          · unfold has
            rw [em, ed]
            simp
          exact vworks_spec (drp (drp h27)) k
    · refine lupTo_spec h5 ha hb (by omega) (by omega) (fun w12 h5 => ?_)
      refine cnd (fun uab => ?_) (fun _ => ?_)
      · refine lupTo_spec h5 hb hc (by omega) (by omega) (fun w13 h5 => ?_)
        refine cnd (fun ubc => ?_) (fun _ => ?_)
        · have uac : upTo a c = true := upTo_iff.2 fun i => Nat.le_trans (upTo_iff.1 uab i) (upTo_iff.1 ubc i)
          refine lupTo_spec h5 ha hc (by omega) (by omega) (fun w14 h5 => ?_)
          repeat (first | refine pu_not ?_ | refine pu_eql ?_ | refine pu_neq ?_ | refine pu_lss ?_ | refine pu_leq ?_ | refine pu_gtr ?_ | refine pu_geq ?_ | refine pu_add ?_ | refine pu_sub ?_ | refine pu_mul ?_ | refine pu_neg ?_ | refine fa_at ?_ | refine nl_ptr ?_ | refine ex20 ?_ | refine ex21 ?_ | refine ex30 ?_ | refine ex31 ?_ | refine ex32 ?_ | refine ln_rule ?_ | refine lnT_rule ?_ | refine pu_and ?_ | refine pu_or ?_ | refine pu_xor ?_ | refine pu_seq ?_ | refine pu_sne ?_)
          refine cnd_f (by rw [uac]; rfl) ?_
          refine bs_rule h5 [y, x, j] (bsw3 hb ha hj) (fun b20 w20 h20 => ?_)
          refine join_spec (ls := [b, a, J]) h20 ⟨_, sl_here (l := [y, x, j]) (.head _), ⟨hb.cons, qb⟩, ⟨ha.cons, qa⟩, ⟨hj.cons, qJ⟩, trivial⟩ (fun y hy => hy) (by simp) (by simp; omega) (fun S2 jj w21 h21 hjj => ?_)
          have h21 : Ow B w21 (S2 ++ (S ++ H)) := h21.sub ((List.Sublist.refl S2).append (.cons _ (.refl _)))
          have gK := joins_gt3 b a J
          have lK := joins_len (ls := [b, a, J]) (n := 40) (by simp; omega)
          generalize joins [b, a, J] = KJ at *
          refine stands_spec h21 (hj.mono fun y hy => List.mem_append_right _ hy) (hjj.mono fun y hy => List.mem_append_left _ hy) (by omega) (by omega) (fun w22 h22 => ?_)
          have h22 := drp h22
          have eS : stands J KJ = 1 := by
            unfold stands
            rw [if_pos (upTo_iff.2 fun i => by rw [gK]; omega), if_pos (upTo_iff.2 fun i => by rw [gK, gJ]; omega)]
          rw [eS]
          repeat (first | refine pu_not ?_ | refine pu_eql ?_ | refine pu_neq ?_ | refine pu_lss ?_ | refine pu_leq ?_ | refine pu_gtr ?_ | refine pu_geq ?_ | refine pu_add ?_ | refine pu_sub ?_ | refine pu_mul ?_ | refine pu_neg ?_ | refine fa_at ?_ | refine nl_ptr ?_ | refine ex20 ?_ | refine ex21 ?_ | refine ex30 ?_ | refine ex31 ?_ | refine ex32 ?_ | refine ln_rule ?_ | refine lnT_rule ?_ | refine pu_and ?_ | refine pu_or ?_ | refine pu_xor ?_ | refine pu_seq ?_ | refine pu_sne ?_)
          refine cnd_f rfl ?_
          refine tick_spec (f := 281474976710655) h22 ha (fun y hy => hy) qa (by omega) (by omega) (by omega) (fun S3 tv w23 h23 htv => ?_)
          repeat (first | refine pu_not ?_ | refine pu_eql ?_ | refine pu_neq ?_ | refine pu_lss ?_ | refine pu_leq ?_ | refine pu_gtr ?_ | refine pu_geq ?_ | refine pu_add ?_ | refine pu_sub ?_ | refine pu_mul ?_ | refine pu_neg ?_ | refine fa_at ?_ | refine nl_ptr ?_ | refine ex20 ?_ | refine ex21 ?_ | refine ex30 ?_ | refine ex31 ?_ | refine ex32 ?_ | refine ln_rule ?_ | refine lnT_rule ?_ | refine pu_and ?_ | refine pu_or ?_ | refine pu_xor ?_ | refine pu_seq ?_ | refine pu_sne ?_)
          refine vnum_spec ?_
          repeat (first | refine pu_not ?_ | refine pu_eql ?_ | refine pu_neq ?_ | refine pu_lss ?_ | refine pu_leq ?_ | refine pu_gtr ?_ | refine pu_geq ?_ | refine pu_add ?_ | refine pu_sub ?_ | refine pu_mul ?_ | refine pu_neg ?_ | refine fa_at ?_ | refine nl_ptr ?_ | refine ex20 ?_ | refine ex21 ?_ | refine ex30 ?_ | refine ex31 ?_ | refine ex32 ?_ | refine ln_rule ?_ | refine lnT_rule ?_ | refine pu_and ?_ | refine pu_or ?_ | refine pu_xor ?_ | refine pu_seq ?_ | refine pu_sne ?_)
          rcases @tick_cases a i hi la with he | ⟨he, hr, hg1, hlt, hgt⟩
          · rcases he with he | he
            · rw [he]
              refine cnd_t rfl ?_
              refine vnum_spec ?_
              repeat (first | refine pu_not ?_ | refine pu_eql ?_ | refine pu_neq ?_ | refine pu_lss ?_ | refine pu_leq ?_ | refine pu_gtr ?_ | refine pu_geq ?_ | refine pu_add ?_ | refine pu_sub ?_ | refine pu_mul ?_ | refine pu_neg ?_ | refine fa_at ?_ | refine nl_ptr ?_ | refine ex20 ?_ | refine ex21 ?_ | refine ex30 ?_ | refine ex31 ?_ | refine ex32 ?_ | refine ln_rule ?_ | refine lnT_rule ?_ | refine pu_and ?_ | refine pu_or ?_ | refine pu_xor ?_ | refine pu_seq ?_ | refine pu_sne ?_)
              refine cnd_t rfl ?_
              exact vworks_spec (drp (drp h23)) k
            · rw [he]
              refine cnd_t rfl ?_
              refine vnum_spec ?_
              repeat (first | refine pu_not ?_ | refine pu_eql ?_ | refine pu_neq ?_ | refine pu_lss ?_ | refine pu_leq ?_ | refine pu_gtr ?_ | refine pu_geq ?_ | refine pu_add ?_ | refine pu_sub ?_ | refine pu_mul ?_ | refine pu_neg ?_ | refine fa_at ?_ | refine nl_ptr ?_ | refine ex20 ?_ | refine ex21 ?_ | refine ex30 ?_ | refine ex31 ?_ | refine ex32 ?_ | refine ln_rule ?_ | refine lnT_rule ?_ | refine pu_and ?_ | refine pu_or ?_ | refine pu_xor ?_ | refine pu_seq ?_ | refine pu_sne ?_)
              refine cnd_f rfl ?_
              refine vnum_spec ?_
              repeat (first | refine pu_not ?_ | refine pu_eql ?_ | refine pu_neq ?_ | refine pu_lss ?_ | refine pu_leq ?_ | refine pu_gtr ?_ | refine pu_geq ?_ | refine pu_add ?_ | refine pu_sub ?_ | refine pu_mul ?_ | refine pu_neg ?_ | refine fa_at ?_ | refine nl_ptr ?_ | refine ex20 ?_ | refine ex21 ?_ | refine ex30 ?_ | refine ex31 ?_ | refine ex32 ?_ | refine ln_rule ?_ | refine lnT_rule ?_ | refine pu_and ?_ | refine pu_or ?_ | refine pu_xor ?_ | refine pu_seq ?_ | refine pu_sne ?_)
              refine cnd_t rfl ?_
              exact vworks_spec (drp (drp h23)) k
          · rw [he]
            refine cnd_f rfl ?_
            generalize (tick a i 281474976710655).1 = TT at *
            have hqT : Qd TT := fun v hv => by
              obtain ⟨q, hq, rfl⟩ := List.getElem_of_mem hv
              have h2 := gt_some hq
              rw [List.getElem?_eq_getElem hq] at h2
              rw [Option.some.inj h2, hgt]
              have := gt_lt qa q
              split <;> omega
            have htv : Cl (S3 ++ (S ++ H)) tv TT := htv.mono fun y hy => List.mem_append_left _ hy
            have ha3 : Cl (S3 ++ (S ++ H)) x a := ha.mono fun y hy => List.mem_append_right _ hy
            have hrT : right TT = true := right_of (fun q => by rw [hgt]; have := le_of_right hr q; split <;> omega) (by omega)
            have eE : epo TT i = (i * 281474976710656 + (gt a i + 1), 0) := by
              unfold epo
              rw [if_pos hrT, gi_nat, hgt, if_pos rfl]
              unfold pack
              rw [if_pos (by omega), Int.toNat_natCast]
            refine epoch_spec h23 htv hqT (by omega) (by omega) (fun w24 h24 => ?_)
            rw [eE]
            repeat (first | refine pu_not ?_ | refine pu_eql ?_ | refine pu_neq ?_ | refine pu_lss ?_ | refine pu_leq ?_ | refine pu_gtr ?_ | refine pu_geq ?_ | refine pu_add ?_ | refine pu_sub ?_ | refine pu_mul ?_ | refine pu_neg ?_ | refine fa_at ?_ | refine nl_ptr ?_ | refine ex20 ?_ | refine ex21 ?_ | refine ex30 ?_ | refine ex31 ?_ | refine ex32 ?_ | refine ln_rule ?_ | refine lnT_rule ?_ | refine pu_and ?_ | refine pu_or ?_ | refine pu_xor ?_ | refine pu_seq ?_ | refine pu_sne ?_)
            refine vnum_spec ?_
            repeat (first | refine pu_not ?_ | refine pu_eql ?_ | refine pu_neq ?_ | refine pu_lss ?_ | refine pu_leq ?_ | refine pu_gtr ?_ | refine pu_geq ?_ | refine pu_add ?_ | refine pu_sub ?_ | refine pu_mul ?_ | refine pu_neg ?_ | refine fa_at ?_ | refine nl_ptr ?_ | refine ex20 ?_ | refine ex21 ?_ | refine ex30 ?_ | refine ex31 ?_ | refine ex32 ?_ | refine ln_rule ?_ | refine lnT_rule ?_ | refine pu_and ?_ | refine pu_or ?_ | refine pu_xor ?_ | refine pu_seq ?_ | refine pu_sne ?_)
            refine cnd_t rfl ?_
            refine stands_spec h24 ha3 htv (by omega) (by omega) (fun w25 h25 => ?_)
            have eB : stands a TT = 2 := by
              unfold stands
              rw [if_pos (upTo_iff.2 fun q => by rw [hgt]; split <;> rename_i hq <;> (try subst hq) <;> omega), if_neg]
              intro hx
              have := upTo_iff.1 hx i
              rw [hgt, if_pos rfl] at this
              omega
            rw [eB]
            repeat (first | refine pu_not ?_ | refine pu_eql ?_ | refine pu_neq ?_ | refine pu_lss ?_ | refine pu_leq ?_ | refine pu_gtr ?_ | refine pu_geq ?_ | refine pu_add ?_ | refine pu_sub ?_ | refine pu_mul ?_ | refine pu_neg ?_ | refine fa_at ?_ | refine nl_ptr ?_ | refine ex20 ?_ | refine ex21 ?_ | refine ex30 ?_ | refine ex31 ?_ | refine ex32 ?_ | refine ln_rule ?_ | refine lnT_rule ?_ | refine pu_and ?_ | refine pu_or ?_ | refine pu_xor ?_ | refine pu_seq ?_ | refine pu_sne ?_)
            refine cnd_t rfl ?_
            have em : (i * 281474976710656 + (gt a i + 1)) % 281474976710656 = gt a i + 1 := by omega
            have ed : (i * 281474976710656 + (gt a i + 1)) / 281474976710656 = i := by omega
            refine has_spec h25 htv (by omega) (fun w26 h26 => ?_)
            refine cnd_t ?_ ?_
            · unfold has
              rw [em, ed, hgt, if_pos rfl]
              simp
            refine has_spec h26 ha3 (by omega) (fun w27 h27 => ?_)
            repeat (first | refine pu_not ?_ | refine pu_eql ?_ | refine pu_neq ?_ | refine pu_lss ?_ | refine pu_leq ?_ | refine pu_gtr ?_ | refine pu_geq ?_ | refine pu_add ?_ | refine pu_sub ?_ | refine pu_mul ?_ | refine pu_neg ?_ | refine fa_at ?_ | refine nl_ptr ?_ | refine ex20 ?_ | refine ex21 ?_ | refine ex30 ?_ | refine ex31 ?_ | refine ex32 ?_ | refine ln_rule ?_ | refine lnT_rule ?_ | refine pu_and ?_ | refine pu_or ?_ | refine pu_xor ?_ | refine pu_seq ?_ | refine pu_sne ?_)
            refine cnd_t ?_ ?_
            · unfold has
              rw [em, ed]
              simp
            exact vworks_spec (drp (drp h27)) k
        · refine bs_rule h5 [y, x, j] (bsw3 hb ha hj) (fun b20 w20 h20 => ?_)
          refine join_spec (ls := [b, a, J]) h20 ⟨_, sl_here (l := [y, x, j]) (.head _), ⟨hb.cons, qb⟩, ⟨ha.cons, qa⟩, ⟨hj.cons, qJ⟩, trivial⟩ (fun y hy => hy) (by simp) (by simp; omega) (fun S2 jj w21 h21 hjj => ?_)
          have h21 : Ow B w21 (S2 ++ (S ++ H)) := h21.sub ((List.Sublist.refl S2).append (.cons _ (.refl _)))
          have gK := joins_gt3 b a J
          have lK := joins_len (ls := [b, a, J]) (n := 40) (by simp; omega)
          generalize joins [b, a, J] = KJ at *
          refine stands_spec h21 (hj.mono fun y hy => List.mem_append_right _ hy) (hjj.mono fun y hy => List.mem_append_left _ hy) (by omega) (by omega) (fun w22 h22 => ?_)
          have h22 := drp h22
          have eS : stands J KJ = 1 := by
            unfold stands
            rw [if_pos (upTo_iff.2 fun i => by rw [gK]; omega), if_pos (upTo_iff.2 fun i => by rw [gK, gJ]; omega)]
          rw [eS]
          repeat (first | refine pu_not ?_ | refine pu_eql ?_ | refine pu_neq ?_ | refine pu_lss ?_ | refine pu_leq ?_ | refine pu_gtr ?_ | refine pu_geq ?_ | refine pu_add ?_ | refine pu_sub ?_ | refine pu_mul ?_ | refine pu_neg ?_ | refine fa_at ?_ | refine nl_ptr ?_ | refine ex20 ?_ | refine ex21 ?_ | refine ex30 ?_ | refine ex31 ?_ | refine ex32 ?_ | refine ln_rule ?_ | refine lnT_rule ?_ | refine pu_and ?_ | refine pu_or ?_ | refine pu_xor ?_ | refine pu_seq ?_ | refine pu_sne ?_)
          refine cnd_f rfl ?_
          refine tick_spec (f := 281474976710655) h22 ha (fun y hy => hy) qa (by omega) (by omega) (by omega) (fun S3 tv w23 h23 htv => ?_)
          repeat (first | refine pu_not ?_ | refine pu_eql ?_ | refine pu_neq ?_ | refine pu_lss ?_ | refine pu_leq ?_ | refine pu_gtr ?_ | refine pu_geq ?_ | refine pu_add ?_ | refine pu_sub ?_ | refine pu_mul ?_ | refine pu_neg ?_ | refine fa_at ?_ | refine nl_ptr ?_ | refine ex20 ?_ | refine ex21 ?_ | refine ex30 ?_ | refine ex31 ?_ | refine ex32 ?_ | refine ln_rule ?_ | refine lnT_rule ?_ | refine pu_and ?_ | refine pu_or ?_ | refine pu_xor ?_ | refine pu_seq ?_ | refine pu_sne ?_)
          refine vnum_spec ?_
          repeat (first | refine pu_not ?_ | refine pu_eql ?_ | refine pu_neq ?_ | refine pu_lss ?_ | refine pu_leq ?_ | refine pu_gtr ?_ | refine pu_geq ?_ | refine pu_add ?_ | refine pu_sub ?_ | refine pu_mul ?_ | refine pu_neg ?_ | refine fa_at ?_ | refine nl_ptr ?_ | refine ex20 ?_ | refine ex21 ?_ | refine ex30 ?_ | refine ex31 ?_ | refine ex32 ?_ | refine ln_rule ?_ | refine lnT_rule ?_ | refine pu_and ?_ | refine pu_or ?_ | refine pu_xor ?_ | refine pu_seq ?_ | refine pu_sne ?_)
          rcases @tick_cases a i hi la with he | ⟨he, hr, hg1, hlt, hgt⟩
          · rcases he with he | he
            · rw [he]
              refine cnd_t rfl ?_
              refine vnum_spec ?_
              repeat (first | refine pu_not ?_ | refine pu_eql ?_ | refine pu_neq ?_ | refine pu_lss ?_ | refine pu_leq ?_ | refine pu_gtr ?_ | refine pu_geq ?_ | refine pu_add ?_ | refine pu_sub ?_ | refine pu_mul ?_ | refine pu_neg ?_ | refine fa_at ?_ | refine nl_ptr ?_ | refine ex20 ?_ | refine ex21 ?_ | refine ex30 ?_ | refine ex31 ?_ | refine ex32 ?_ | refine ln_rule ?_ | refine lnT_rule ?_ | refine pu_and ?_ | refine pu_or ?_ | refine pu_xor ?_ | refine pu_seq ?_ | refine pu_sne ?_)
              refine cnd_t rfl ?_
              exact vworks_spec (drp (drp h23)) k
            · rw [he]
              refine cnd_t rfl ?_
              refine vnum_spec ?_
              repeat (first | refine pu_not ?_ | refine pu_eql ?_ | refine pu_neq ?_ | refine pu_lss ?_ | refine pu_leq ?_ | refine pu_gtr ?_ | refine pu_geq ?_ | refine pu_add ?_ | refine pu_sub ?_ | refine pu_mul ?_ | refine pu_neg ?_ | refine fa_at ?_ | refine nl_ptr ?_ | refine ex20 ?_ | refine ex21 ?_ | refine ex30 ?_ | refine ex31 ?_ | refine ex32 ?_ | refine ln_rule ?_ | refine lnT_rule ?_ | refine pu_and ?_ | refine pu_or ?_ | refine pu_xor ?_ | refine pu_seq ?_ | refine pu_sne ?_)
              refine cnd_f rfl ?_
              refine vnum_spec ?_
              repeat (first | refine pu_not ?_ | refine pu_eql ?_ | refine pu_neq ?_ | refine pu_lss ?_ | refine pu_leq ?_ | refine pu_gtr ?_ | refine pu_geq ?_ | refine pu_add ?_ | refine pu_sub ?_ | refine pu_mul ?_ | refine pu_neg ?_ | refine fa_at ?_ | refine nl_ptr ?_ | refine ex20 ?_ | refine ex21 ?_ | refine ex30 ?_ | refine ex31 ?_ | refine ex32 ?_ | refine ln_rule ?_ | refine lnT_rule ?_ | refine pu_and ?_ | refine pu_or ?_ | refine pu_xor ?_ | refine pu_seq ?_ | refine pu_sne ?_)
              refine cnd_t rfl ?_
              exact vworks_spec (drp (drp h23)) k
          · rw [he]
            refine cnd_f rfl ?_
            generalize (tick a i 281474976710655).1 = TT at *
            have hqT : Qd TT := fun v hv => by
              obtain ⟨q, hq, rfl⟩ := List.getElem_of_mem hv
              have h2 := gt_some hq
              rw [List.getElem?_eq_getElem hq] at h2
              rw [Option.some.inj h2, hgt]
              have := gt_lt qa q
              split <;> omega
            have htv : Cl (S3 ++ (S ++ H)) tv TT := htv.mono fun y hy => List.mem_append_left _ hy
            have ha3 : Cl (S3 ++ (S ++ H)) x a := ha.mono fun y hy => List.mem_append_right _ hy
            have hrT : right TT = true := right_of (fun q => by rw [hgt]; have := le_of_right hr q; split <;> omega) (by omega)
            have eE : epo TT i = (i * 281474976710656 + (gt a i + 1), 0) := by
              unfold epo
              rw [if_pos hrT, gi_nat, hgt, if_pos rfl]
              unfold pack
              rw [if_pos (by omega), Int.toNat_natCast]
            refine epoch_spec h23 htv hqT (by omega) (by omega) (fun w24 h24 => ?_)
            rw [eE]
            repeat (first | refine pu_not ?_ | refine pu_eql ?_ | refine pu_neq ?_ | refine pu_lss ?_ | refine pu_leq ?_ | refine pu_gtr ?_ | refine pu_geq ?_ | refine pu_add ?_ | refine pu_sub ?_ | refine pu_mul ?_ | refine pu_neg ?_ | refine fa_at ?_ | refine nl_ptr ?_ | refine ex20 ?_ | refine ex21 ?_ | refine ex30 ?_ | refine ex31 ?_ | refine ex32 ?_ | refine ln_rule ?_ | refine lnT_rule ?_ | refine pu_and ?_ | refine pu_or ?_ | refine pu_xor ?_ | refine pu_seq ?_ | refine pu_sne ?_)
            refine vnum_spec ?_
            repeat (first | refine pu_not ?_ | refine pu_eql ?_ | refine pu_neq ?_ | refine pu_lss ?_ | refine pu_leq ?_ | refine pu_gtr ?_ | refine pu_geq ?_ | refine pu_add ?_ | refine pu_sub ?_ | refine pu_mul ?_ | refine pu_neg ?_ | refine fa_at ?_ | refine nl_ptr ?_ | refine ex20 ?_ | refine ex21 ?_ | refine ex30 ?_ | refine ex31 ?_ | refine ex32 ?_ | refine ln_rule ?_ | refine lnT_rule ?_ | refine pu_and ?_ | refine pu_or ?_ | refine pu_xor ?_ | refine pu_seq ?_ | refine pu_sne ?_)
            refine cnd_t rfl ?_
            refine stands_spec h24 ha3 htv (by omega) (by omega) (fun w25 h25 => ?_)
            have eB : stands a TT = 2 := by
              unfold stands
              rw [if_pos (upTo_iff.2 fun q => by rw [hgt]; split <;> rename_i hq <;> (try subst hq) <;> omega), if_neg]
              intro hx
              have := upTo_iff.1 hx i
              rw [hgt, if_pos rfl] at this
              omega
            rw [eB]
            repeat (first | refine pu_not ?_ | refine pu_eql ?_ | refine pu_neq ?_ | refine pu_lss ?_ | refine pu_leq ?_ | refine pu_gtr ?_ | refine pu_geq ?_ | refine pu_add ?_ | refine pu_sub ?_ | refine pu_mul ?_ | refine pu_neg ?_ | refine fa_at ?_ | refine nl_ptr ?_ | refine ex20 ?_ | refine ex21 ?_ | refine ex30 ?_ | refine ex31 ?_ | refine ex32 ?_ | refine ln_rule ?_ | refine lnT_rule ?_ | refine pu_and ?_ | refine pu_or ?_ | refine pu_xor ?_ | refine pu_seq ?_ | refine pu_sne ?_)
            refine cnd_t rfl ?_
            have em : (i * 281474976710656 + (gt a i + 1)) % 281474976710656 = gt a i + 1 := by omega
            have ed : (i * 281474976710656 + (gt a i + 1)) / 281474976710656 = i := by omega
            refine has_spec h25 htv (by omega) (fun w26 h26 => ?_)
            refine cnd_t ?_ ?_
            · unfold has
              rw [em, ed, hgt, if_pos rfl]
              simp
            refine has_spec h26 ha3 (by omega) (fun w27 h27 => ?_)
            repeat (first | refine pu_not ?_ | refine pu_eql ?_ | refine pu_neq ?_ | refine pu_lss ?_ | refine pu_leq ?_ | refine pu_gtr ?_ | refine pu_geq ?_ | refine pu_add ?_ | refine pu_sub ?_ | refine pu_mul ?_ | refine pu_neg ?_ | refine fa_at ?_ | refine nl_ptr ?_ | refine ex20 ?_ | refine ex21 ?_ | refine ex30 ?_ | refine ex31 ?_ | refine ex32 ?_ | refine ln_rule ?_ | refine lnT_rule ?_ | refine pu_and ?_ | refine pu_or ?_ | refine pu_xor ?_ | refine pu_seq ?_ | refine pu_sne ?_)
            refine cnd_t ?_ ?_
            · unfold has
              rw [em, ed]
              simp
            exact vworks_spec (drp (drp h27)) k
      · refine bs_rule h5 [y, x, j] (bsw3 hb ha hj) (fun b20 w20 h20 => ?_)
        refine join_spec (ls := [b, a, J]) h20 ⟨_, sl_here (l := [y, x, j]) (.head _), ⟨hb.cons, qb⟩, ⟨ha.cons, qa⟩, ⟨hj.cons, qJ⟩, trivial⟩ (fun y hy => hy) (by simp) (by simp; omega) (fun S2 jj w21 h21 hjj => ?_)
        have h21 : Ow B w21 (S2 ++ (S ++ H)) := h21.sub ((List.Sublist.refl S2).append (.cons _ (.refl _)))
        have gK := joins_gt3 b a J
        have lK := joins_len (ls := [b, a, J]) (n := 40) (by simp; omega)
        generalize joins [b, a, J] = KJ at *
        refine stands_spec h21 (hj.mono fun y hy => List.mem_append_right _ hy) (hjj.mono fun y hy => List.mem_append_left _ hy) (by omega) (by omega) (fun w22 h22 => ?_)
        have h22 := drp h22
        have eS : stands J KJ = 1 := by
          unfold stands
          rw [if_pos (upTo_iff.2 fun i => by rw [gK]; omega), if_pos (upTo_iff.2 fun i => by rw [gK, gJ]; omega)]
        rw [eS]
        repeat (first | refine pu_not ?_ | refine pu_eql ?_ | refine pu_neq ?_ | refine pu_lss ?_ | refine pu_leq ?_ | refine pu_gtr ?_ | refine pu_geq ?_ | refine pu_add ?_ | refine pu_sub ?_ | refine pu_mul ?_ | refine pu_neg ?_ | refine fa_at ?_ | refine nl_ptr ?_ | refine ex20 ?_ | refine ex21 ?_ | refine ex30 ?_ | refine ex31 ?_ | refine ex32 ?_ | refine ln_rule ?_ | refine lnT_rule ?_ | refine pu_and ?_ | refine pu_or ?_ | refine pu_xor ?_ | refine pu_seq ?_ | refine pu_sne ?_)
        refine cnd_f rfl ?_
        refine tick_spec (f := 281474976710655) h22 ha (fun y hy => hy) qa (by omega) (by omega) (by omega) (fun S3 tv w23 h23 htv => ?_)
        repeat (first | refine pu_not ?_ | refine pu_eql ?_ | refine pu_neq ?_ | refine pu_lss ?_ | refine pu_leq ?_ | refine pu_gtr ?_ | refine pu_geq ?_ | refine pu_add ?_ | refine pu_sub ?_ | refine pu_mul ?_ | refine pu_neg ?_ | refine fa_at ?_ | refine nl_ptr ?_ | refine ex20 ?_ | refine ex21 ?_ | refine ex30 ?_ | refine ex31 ?_ | refine ex32 ?_ | refine ln_rule ?_ | refine lnT_rule ?_ | refine pu_and ?_ | refine pu_or ?_ | refine pu_xor ?_ | refine pu_seq ?_ | refine pu_sne ?_)
        refine vnum_spec ?_
        repeat (first | refine pu_not ?_ | refine pu_eql ?_ | refine pu_neq ?_ | refine pu_lss ?_ | refine pu_leq ?_ | refine pu_gtr ?_ | refine pu_geq ?_ | refine pu_add ?_ | refine pu_sub ?_ | refine pu_mul ?_ | refine pu_neg ?_ | refine fa_at ?_ | refine nl_ptr ?_ | refine ex20 ?_ | refine ex21 ?_ | refine ex30 ?_ | refine ex31 ?_ | refine ex32 ?_ | refine ln_rule ?_ | refine lnT_rule ?_ | refine pu_and ?_ | refine pu_or ?_ | refine pu_xor ?_ | refine pu_seq ?_ | refine pu_sne ?_)
        rcases @tick_cases a i hi la with he | ⟨he, hr, hg1, hlt, hgt⟩
        · rcases he with he | he
          · rw [he]
            refine cnd_t rfl ?_
            refine vnum_spec ?_
            repeat (first | refine pu_not ?_ | refine pu_eql ?_ | refine pu_neq ?_ | refine pu_lss ?_ | refine pu_leq ?_ | refine pu_gtr ?_ | refine pu_geq ?_ | refine pu_add ?_ | refine pu_sub ?_ | refine pu_mul ?_ | refine pu_neg ?_ | refine fa_at ?_ | refine nl_ptr ?_ | refine ex20 ?_ | refine ex21 ?_ | refine ex30 ?_ | refine ex31 ?_ | refine ex32 ?_ | refine ln_rule ?_ | refine lnT_rule ?_ | refine pu_and ?_ | refine pu_or ?_ | refine pu_xor ?_ | refine pu_seq ?_ | refine pu_sne ?_)
            refine cnd_t rfl ?_
            exact vworks_spec (drp (drp h23)) k
          · rw [he]
            refine cnd_t rfl ?_
            refine vnum_spec ?_
            repeat (first | refine pu_not ?_ | refine pu_eql ?_ | refine pu_neq ?_ | refine pu_lss ?_ | refine pu_leq ?_ | refine pu_gtr ?_ | refine pu_geq ?_ | refine pu_add ?_ | refine pu_sub ?_ | refine pu_mul ?_ | refine pu_neg ?_ | refine fa_at ?_ | refine nl_ptr ?_ | refine ex20 ?_ | refine ex21 ?_ | refine ex30 ?_ | refine ex31 ?_ | refine ex32 ?_ | refine ln_rule ?_ | refine lnT_rule ?_ | refine pu_and ?_ | refine pu_or ?_ | refine pu_xor ?_ | refine pu_seq ?_ | refine pu_sne ?_)
            refine cnd_f rfl ?_
            refine vnum_spec ?_
            repeat (first | refine pu_not ?_ | refine pu_eql ?_ | refine pu_neq ?_ | refine pu_lss ?_ | refine pu_leq ?_ | refine pu_gtr ?_ | refine pu_geq ?_ | refine pu_add ?_ | refine pu_sub ?_ | refine pu_mul ?_ | refine pu_neg ?_ | refine fa_at ?_ | refine nl_ptr ?_ | refine ex20 ?_ | refine ex21 ?_ | refine ex30 ?_ | refine ex31 ?_ | refine ex32 ?_ | refine ln_rule ?_ | refine lnT_rule ?_ | refine pu_and ?_ | refine pu_or ?_ | refine pu_xor ?_ | refine pu_seq ?_ | refine pu_sne ?_)
            refine cnd_t rfl ?_
            exact vworks_spec (drp (drp h23)) k
        · rw [he]
          refine cnd_f rfl ?_
          generalize (tick a i 281474976710655).1 = TT at *
          have hqT : Qd TT := fun v hv => by
            obtain ⟨q, hq, rfl⟩ := List.getElem_of_mem hv
            have h2 := gt_some hq
            rw [List.getElem?_eq_getElem hq] at h2
            rw [Option.some.inj h2, hgt]
            have := gt_lt qa q
            split <;> omega
          have htv : Cl (S3 ++ (S ++ H)) tv TT := htv.mono fun y hy => List.mem_append_left _ hy
          have ha3 : Cl (S3 ++ (S ++ H)) x a := ha.mono fun y hy => List.mem_append_right _ hy
          have hrT : right TT = true := right_of (fun q => by rw [hgt]; have := le_of_right hr q; split <;> omega) (by omega)
          have eE : epo TT i = (i * 281474976710656 + (gt a i + 1), 0) := by
            unfold epo
            rw [if_pos hrT, gi_nat, hgt, if_pos rfl]
            unfold pack
            rw [if_pos (by omega), Int.toNat_natCast]
          refine epoch_spec h23 htv hqT (by omega) (by omega) (fun w24 h24 => ?_)
          rw [eE]
          repeat (first | refine pu_not ?_ | refine pu_eql ?_ | refine pu_neq ?_ | refine pu_lss ?_ | refine pu_leq ?_ | refine pu_gtr ?_ | refine pu_geq ?_ | refine pu_add ?_ | refine pu_sub ?_ | refine pu_mul ?_ | refine pu_neg ?_ | refine fa_at ?_ | refine nl_ptr ?_ | refine ex20 ?_ | refine ex21 ?_ | refine ex30 ?_ | refine ex31 ?_ | refine ex32 ?_ | refine ln_rule ?_ | refine lnT_rule ?_ | refine pu_and ?_ | refine pu_or ?_ | refine pu_xor ?_ | refine pu_seq ?_ | refine pu_sne ?_)
          refine vnum_spec ?_
          repeat (first | refine pu_not ?_ | refine pu_eql ?_ | refine pu_neq ?_ | refine pu_lss ?_ | refine pu_leq ?_ | refine pu_gtr ?_ | refine pu_geq ?_ | refine pu_add ?_ | refine pu_sub ?_ | refine pu_mul ?_ | refine pu_neg ?_ | refine fa_at ?_ | refine nl_ptr ?_ | refine ex20 ?_ | refine ex21 ?_ | refine ex30 ?_ | refine ex31 ?_ | refine ex32 ?_ | refine ln_rule ?_ | refine lnT_rule ?_ | refine pu_and ?_ | refine pu_or ?_ | refine pu_xor ?_ | refine pu_seq ?_ | refine pu_sne ?_)
          refine cnd_t rfl ?_
          refine stands_spec h24 ha3 htv (by omega) (by omega) (fun w25 h25 => ?_)
          have eB : stands a TT = 2 := by
            unfold stands
            rw [if_pos (upTo_iff.2 fun q => by rw [hgt]; split <;> rename_i hq <;> (try subst hq) <;> omega), if_neg]
            intro hx
            have := upTo_iff.1 hx i
            rw [hgt, if_pos rfl] at this
            omega
          rw [eB]
          repeat (first | refine pu_not ?_ | refine pu_eql ?_ | refine pu_neq ?_ | refine pu_lss ?_ | refine pu_leq ?_ | refine pu_gtr ?_ | refine pu_geq ?_ | refine pu_add ?_ | refine pu_sub ?_ | refine pu_mul ?_ | refine pu_neg ?_ | refine fa_at ?_ | refine nl_ptr ?_ | refine ex20 ?_ | refine ex21 ?_ | refine ex30 ?_ | refine ex31 ?_ | refine ex32 ?_ | refine ln_rule ?_ | refine lnT_rule ?_ | refine pu_and ?_ | refine pu_or ?_ | refine pu_xor ?_ | refine pu_seq ?_ | refine pu_sne ?_)
          refine cnd_t rfl ?_
          have em : (i * 281474976710656 + (gt a i + 1)) % 281474976710656 = gt a i + 1 := by omega
          have ed : (i * 281474976710656 + (gt a i + 1)) / 281474976710656 = i := by omega
          refine has_spec h25 htv (by omega) (fun w26 h26 => ?_)
          refine cnd_t ?_ ?_
          · unfold has
            rw [em, ed, hgt, if_pos rfl]
            simp
          refine has_spec h26 ha3 (by omega) (fun w27 h27 => ?_)
          repeat (first | refine pu_not ?_ | refine pu_eql ?_ | refine pu_neq ?_ | refine pu_lss ?_ | refine pu_leq ?_ | refine pu_gtr ?_ | refine pu_geq ?_ | refine pu_add ?_ | refine pu_sub ?_ | refine pu_mul ?_ | refine pu_neg ?_ | refine fa_at ?_ | refine nl_ptr ?_ | refine ex20 ?_ | refine ex21 ?_ | refine ex30 ?_ | refine ex31 ?_ | refine ex32 ?_ | refine ln_rule ?_ | refine lnT_rule ?_ | refine pu_and ?_ | refine pu_or ?_ | refine pu_xor ?_ | refine pu_seq ?_ | refine pu_sne ?_)
          refine cnd_t ?_ ?_
          · unfold has
            rw [em, ed]
            simp
          exact vworks_spec (drp (drp h27)) k
  · refine lupTo_spec h5 ha hb (by omega) (by omega) (fun w12 h5 => ?_)
    refine cnd (fun uab => ?_) (fun _ => ?_)
    · refine lupTo_spec h5 hb hc (by omega) (by omega) (fun w13 h5 => ?_)
      refine cnd (fun ubc => ?_) (fun _ => ?_)
      · have uac : upTo a c = true := upTo_iff.2 fun i => Nat.le_trans (upTo_iff.1 uab i) (upTo_iff.1 ubc i)
        refine lupTo_spec h5 ha hc (by omega) (by omega) (fun w14 h5 => ?_)
        repeat (first | refine pu_not ?_ | refine pu_eql ?_ | refine pu_neq ?_ | refine pu_lss ?_ | refine pu_leq ?_ | refine pu_gtr ?_ | refine pu_geq ?_ | refine pu_add ?_ | refine pu_sub ?_ | refine pu_mul ?_ | refine pu_neg ?_ | refine fa_at ?_ | refine nl_ptr ?_ | refine ex20 ?_ | refine ex21 ?_ | refine ex30 ?_ | refine ex31 ?_ | refine ex32 ?_ | refine ln_rule ?_ | refine lnT_rule ?_ | refine pu_and ?_ | refine pu_or ?_ | refine pu_xor ?_ | refine pu_seq ?_ | refine pu_sne ?_)
        refine cnd_f (by rw [uac]; rfl) ?_
        refine bs_rule h5 [y, x, j] (bsw3 hb ha hj) (fun b20 w20 h20 => ?_)
        refine join_spec (ls := [b, a, J]) h20 ⟨_, sl_here (l := [y, x, j]) (.head _), ⟨hb.cons, qb⟩, ⟨ha.cons, qa⟩, ⟨hj.cons, qJ⟩, trivial⟩ (fun y hy => hy) (by simp) (by simp; omega) (fun S2 jj w21 h21 hjj => ?_)
        have h21 : Ow B w21 (S2 ++ (S ++ H)) := h21.sub ((List.Sublist.refl S2).append (.cons _ (.refl _)))
        have gK := joins_gt3 b a J
        have lK := joins_len (ls := [b, a, J]) (n := 40) (by simp; omega)
        generalize joins [b, a, J] = KJ at *
        refine stands_spec h21 (hj.mono fun y hy => List.mem_append_right _ hy) (hjj.mono fun y hy => List.mem_append_left _ hy) (by omega) (by omega) (fun w22 h22 => ?_)
        have h22 := drp h22
        have eS : stands J KJ = 1 := by
          unfold stands
          rw [if_pos (upTo_iff.2 fun i => by rw [gK]; omega), if_pos (upTo_iff.2 fun i => by rw [gK, gJ]; omega)]
        rw [eS]
        repeat (first | refine pu_not ?_ | refine pu_eql ?_ | refine pu_neq ?_ | refine pu_lss ?_ | refine pu_leq ?_ | refine pu_gtr ?_ | refine pu_geq ?_ | refine pu_add ?_ | refine pu_sub ?_ | refine pu_mul ?_ | refine pu_neg ?_ | refine fa_at ?_ | refine nl_ptr ?_ | refine ex20 ?_ | refine ex21 ?_ | refine ex30 ?_ | refine ex31 ?_ | refine ex32 ?_ | refine ln_rule ?_ | refine lnT_rule ?_ | refine pu_and ?_ | refine pu_or ?_ | refine pu_xor ?_ | refine pu_seq ?_ | refine pu_sne ?_)
        refine cnd_f rfl ?_
        refine tick_spec (f := 281474976710655) h22 ha (fun y hy => hy) qa (by omega) (by omega) (by omega) (fun S3 tv w23 h23 htv => ?_)
        repeat (first | refine pu_not ?_ | refine pu_eql ?_ | refine pu_neq ?_ | refine pu_lss ?_ | refine pu_leq ?_ | refine pu_gtr ?_ | refine pu_geq ?_ | refine pu_add ?_ | refine pu_sub ?_ | refine pu_mul ?_ | refine pu_neg ?_ | refine fa_at ?_ | refine nl_ptr ?_ | refine ex20 ?_ | refine ex21 ?_ | refine ex30 ?_ | refine ex31 ?_ | refine ex32 ?_ | refine ln_rule ?_ | refine lnT_rule ?_ | refine pu_and ?_ | refine pu_or ?_ | refine pu_xor ?_ | refine pu_seq ?_ | refine pu_sne ?_)
        refine vnum_spec ?_
        repeat (first | refine pu_not ?_ | refine pu_eql ?_ | refine pu_neq ?_ | refine pu_lss ?_ | refine pu_leq ?_ | refine pu_gtr ?_ | refine pu_geq ?_ | refine pu_add ?_ | refine pu_sub ?_ | refine pu_mul ?_ | refine pu_neg ?_ | refine fa_at ?_ | refine nl_ptr ?_ | refine ex20 ?_ | refine ex21 ?_ | refine ex30 ?_ | refine ex31 ?_ | refine ex32 ?_ | refine ln_rule ?_ | refine lnT_rule ?_ | refine pu_and ?_ | refine pu_or ?_ | refine pu_xor ?_ | refine pu_seq ?_ | refine pu_sne ?_)
        rcases @tick_cases a i hi la with he | ⟨he, hr, hg1, hlt, hgt⟩
        · rcases he with he | he
          · rw [he]
            refine cnd_t rfl ?_
            refine vnum_spec ?_
            repeat (first | refine pu_not ?_ | refine pu_eql ?_ | refine pu_neq ?_ | refine pu_lss ?_ | refine pu_leq ?_ | refine pu_gtr ?_ | refine pu_geq ?_ | refine pu_add ?_ | refine pu_sub ?_ | refine pu_mul ?_ | refine pu_neg ?_ | refine fa_at ?_ | refine nl_ptr ?_ | refine ex20 ?_ | refine ex21 ?_ | refine ex30 ?_ | refine ex31 ?_ | refine ex32 ?_ | refine ln_rule ?_ | refine lnT_rule ?_ | refine pu_and ?_ | refine pu_or ?_ | refine pu_xor ?_ | refine pu_seq ?_ | refine pu_sne ?_)
            refine cnd_t rfl ?_
            exact vworks_spec (drp (drp h23)) k
          · rw [he]
            refine cnd_t rfl ?_
            refine vnum_spec ?_
            repeat (first | refine pu_not ?_ | refine pu_eql ?_ | refine pu_neq ?_ | refine pu_lss ?_ | refine pu_leq ?_ | refine pu_gtr ?_ | refine pu_geq ?_ | refine pu_add ?_ | refine pu_sub ?_ | refine pu_mul ?_ | refine pu_neg ?_ | refine fa_at ?_ | refine nl_ptr ?_ | refine ex20 ?_ | refine ex21 ?_ | refine ex30 ?_ | refine ex31 ?_ | refine ex32 ?_ | refine ln_rule ?_ | refine lnT_rule ?_ | refine pu_and ?_ | refine pu_or ?_ | refine pu_xor ?_ | refine pu_seq ?_ | refine pu_sne ?_)
            refine cnd_f rfl ?_
            refine vnum_spec ?_
            repeat (first | refine pu_not ?_ | refine pu_eql ?_ | refine pu_neq ?_ | refine pu_lss ?_ | refine pu_leq ?_ | refine pu_gtr ?_ | refine pu_geq ?_ | refine pu_add ?_ | refine pu_sub ?_ | refine pu_mul ?_ | refine pu_neg ?_ | refine fa_at ?_ | refine nl_ptr ?_ | refine ex20 ?_ | refine ex21 ?_ | refine ex30 ?_ | refine ex31 ?_ | refine ex32 ?_ | refine ln_rule ?_ | refine lnT_rule ?_ | refine pu_and ?_ | refine pu_or ?_ | refine pu_xor ?_ | refine pu_seq ?_ | refine pu_sne ?_)
            refine cnd_t rfl ?_
            exact vworks_spec (drp (drp h23)) k
        · rw [he]
          refine cnd_f rfl ?_
          generalize (tick a i 281474976710655).1 = TT at *
          have hqT : Qd TT := fun v hv => by
            obtain ⟨q, hq, rfl⟩ := List.getElem_of_mem hv
            have h2 := gt_some hq
            rw [List.getElem?_eq_getElem hq] at h2
            rw [Option.some.inj h2, hgt]
            have := gt_lt qa q
            split <;> omega
          have htv : Cl (S3 ++ (S ++ H)) tv TT := htv.mono fun y hy => List.mem_append_left _ hy
          have ha3 : Cl (S3 ++ (S ++ H)) x a := ha.mono fun y hy => List.mem_append_right _ hy
          have hrT : right TT = true := right_of (fun q => by rw [hgt]; have := le_of_right hr q; split <;> omega) (by omega)
          have eE : epo TT i = (i * 281474976710656 + (gt a i + 1), 0) := by
            unfold epo
            rw [if_pos hrT, gi_nat, hgt, if_pos rfl]
            unfold pack
            rw [if_pos (by omega), Int.toNat_natCast]
          refine epoch_spec h23 htv hqT (by omega) (by omega) (fun w24 h24 => ?_)
          rw [eE]
          repeat (first | refine pu_not ?_ | refine pu_eql ?_ | refine pu_neq ?_ | refine pu_lss ?_ | refine pu_leq ?_ | refine pu_gtr ?_ | refine pu_geq ?_ | refine pu_add ?_ | refine pu_sub ?_ | refine pu_mul ?_ | refine pu_neg ?_ | refine fa_at ?_ | refine nl_ptr ?_ | refine ex20 ?_ | refine ex21 ?_ | refine ex30 ?_ | refine ex31 ?_ | refine ex32 ?_ | refine ln_rule ?_ | refine lnT_rule ?_ | refine pu_and ?_ | refine pu_or ?_ | refine pu_xor ?_ | refine pu_seq ?_ | refine pu_sne ?_)
          refine vnum_spec ?_
          repeat (first | refine pu_not ?_ | refine pu_eql ?_ | refine pu_neq ?_ | refine pu_lss ?_ | refine pu_leq ?_ | refine pu_gtr ?_ | refine pu_geq ?_ | refine pu_add ?_ | refine pu_sub ?_ | refine pu_mul ?_ | refine pu_neg ?_ | refine fa_at ?_ | refine nl_ptr ?_ | refine ex20 ?_ | refine ex21 ?_ | refine ex30 ?_ | refine ex31 ?_ | refine ex32 ?_ | refine ln_rule ?_ | refine lnT_rule ?_ | refine pu_and ?_ | refine pu_or ?_ | refine pu_xor ?_ | refine pu_seq ?_ | refine pu_sne ?_)
          refine cnd_t rfl ?_
          refine stands_spec h24 ha3 htv (by omega) (by omega) (fun w25 h25 => ?_)
          have eB : stands a TT = 2 := by
            unfold stands
            rw [if_pos (upTo_iff.2 fun q => by rw [hgt]; split <;> rename_i hq <;> (try subst hq) <;> omega), if_neg]
            intro hx
            have := upTo_iff.1 hx i
            rw [hgt, if_pos rfl] at this
            omega
          rw [eB]
          repeat (first | refine pu_not ?_ | refine pu_eql ?_ | refine pu_neq ?_ | refine pu_lss ?_ | refine pu_leq ?_ | refine pu_gtr ?_ | refine pu_geq ?_ | refine pu_add ?_ | refine pu_sub ?_ | refine pu_mul ?_ | refine pu_neg ?_ | refine fa_at ?_ | refine nl_ptr ?_ | refine ex20 ?_ | refine ex21 ?_ | refine ex30 ?_ | refine ex31 ?_ | refine ex32 ?_ | refine ln_rule ?_ | refine lnT_rule ?_ | refine pu_and ?_ | refine pu_or ?_ | refine pu_xor ?_ | refine pu_seq ?_ | refine pu_sne ?_)
          refine cnd_t rfl ?_
          have em : (i * 281474976710656 + (gt a i + 1)) % 281474976710656 = gt a i + 1 := by omega
          have ed : (i * 281474976710656 + (gt a i + 1)) / 281474976710656 = i := by omega
          refine has_spec h25 htv (by omega) (fun w26 h26 => ?_)
          refine cnd_t ?_ ?_
          · unfold has
            rw [em, ed, hgt, if_pos rfl]
            simp
          refine has_spec h26 ha3 (by omega) (fun w27 h27 => ?_)
          repeat (first | refine pu_not ?_ | refine pu_eql ?_ | refine pu_neq ?_ | refine pu_lss ?_ | refine pu_leq ?_ | refine pu_gtr ?_ | refine pu_geq ?_ | refine pu_add ?_ | refine pu_sub ?_ | refine pu_mul ?_ | refine pu_neg ?_ | refine fa_at ?_ | refine nl_ptr ?_ | refine ex20 ?_ | refine ex21 ?_ | refine ex30 ?_ | refine ex31 ?_ | refine ex32 ?_ | refine ln_rule ?_ | refine lnT_rule ?_ | refine pu_and ?_ | refine pu_or ?_ | refine pu_xor ?_ | refine pu_seq ?_ | refine pu_sne ?_)
          refine cnd_t ?_ ?_
          · unfold has
            rw [em, ed]
            simp
          exact vworks_spec (drp (drp h27)) k
      · refine bs_rule h5 [y, x, j] (bsw3 hb ha hj) (fun b20 w20 h20 => ?_)
        refine join_spec (ls := [b, a, J]) h20 ⟨_, sl_here (l := [y, x, j]) (.head _), ⟨hb.cons, qb⟩, ⟨ha.cons, qa⟩, ⟨hj.cons, qJ⟩, trivial⟩ (fun y hy => hy) (by simp) (by simp; omega) (fun S2 jj w21 h21 hjj => ?_)
        have h21 : Ow B w21 (S2 ++ (S ++ H)) := h21.sub ((List.Sublist.refl S2).append (.cons _ (.refl _)))
        have gK := joins_gt3 b a J
        have lK := joins_len (ls := [b, a, J]) (n := 40) (by simp; omega)
        generalize joins [b, a, J] = KJ at *
        refine stands_spec h21 (hj.mono fun y hy => List.mem_append_right _ hy) (hjj.mono fun y hy => List.mem_append_left _ hy) (by omega) (by omega) (fun w22 h22 => ?_)
        have h22 := drp h22
        have eS : stands J KJ = 1 := by
          unfold stands
          rw [if_pos (upTo_iff.2 fun i => by rw [gK]; omega), if_pos (upTo_iff.2 fun i => by rw [gK, gJ]; omega)]
        rw [eS]
        repeat (first | refine pu_not ?_ | refine pu_eql ?_ | refine pu_neq ?_ | refine pu_lss ?_ | refine pu_leq ?_ | refine pu_gtr ?_ | refine pu_geq ?_ | refine pu_add ?_ | refine pu_sub ?_ | refine pu_mul ?_ | refine pu_neg ?_ | refine fa_at ?_ | refine nl_ptr ?_ | refine ex20 ?_ | refine ex21 ?_ | refine ex30 ?_ | refine ex31 ?_ | refine ex32 ?_ | refine ln_rule ?_ | refine lnT_rule ?_ | refine pu_and ?_ | refine pu_or ?_ | refine pu_xor ?_ | refine pu_seq ?_ | refine pu_sne ?_)
        refine cnd_f rfl ?_
        refine tick_spec (f := 281474976710655) h22 ha (fun y hy => hy) qa (by omega) (by omega) (by omega) (fun S3 tv w23 h23 htv => ?_)
        repeat (first | refine pu_not ?_ | refine pu_eql ?_ | refine pu_neq ?_ | refine pu_lss ?_ | refine pu_leq ?_ | refine pu_gtr ?_ | refine pu_geq ?_ | refine pu_add ?_ | refine pu_sub ?_ | refine pu_mul ?_ | refine pu_neg ?_ | refine fa_at ?_ | refine nl_ptr ?_ | refine ex20 ?_ | refine ex21 ?_ | refine ex30 ?_ | refine ex31 ?_ | refine ex32 ?_ | refine ln_rule ?_ | refine lnT_rule ?_ | refine pu_and ?_ | refine pu_or ?_ | refine pu_xor ?_ | refine pu_seq ?_ | refine pu_sne ?_)
        refine vnum_spec ?_
        repeat (first | refine pu_not ?_ | refine pu_eql ?_ | refine pu_neq ?_ | refine pu_lss ?_ | refine pu_leq ?_ | refine pu_gtr ?_ | refine pu_geq ?_ | refine pu_add ?_ | refine pu_sub ?_ | refine pu_mul ?_ | refine pu_neg ?_ | refine fa_at ?_ | refine nl_ptr ?_ | refine ex20 ?_ | refine ex21 ?_ | refine ex30 ?_ | refine ex31 ?_ | refine ex32 ?_ | refine ln_rule ?_ | refine lnT_rule ?_ | refine pu_and ?_ | refine pu_or ?_ | refine pu_xor ?_ | refine pu_seq ?_ | refine pu_sne ?_)
        rcases @tick_cases a i hi la with he | ⟨he, hr, hg1, hlt, hgt⟩
        · rcases he with he | he
          · rw [he]
            refine cnd_t rfl ?_
            refine vnum_spec ?_
            repeat (first | refine pu_not ?_ | refine pu_eql ?_ | refine pu_neq ?_ | refine pu_lss ?_ | refine pu_leq ?_ | refine pu_gtr ?_ | refine pu_geq ?_ | refine pu_add ?_ | refine pu_sub ?_ | refine pu_mul ?_ | refine pu_neg ?_ | refine fa_at ?_ | refine nl_ptr ?_ | refine ex20 ?_ | refine ex21 ?_ | refine ex30 ?_ | refine ex31 ?_ | refine ex32 ?_ | refine ln_rule ?_ | refine lnT_rule ?_ | refine pu_and ?_ | refine pu_or ?_ | refine pu_xor ?_ | refine pu_seq ?_ | refine pu_sne ?_)
            refine cnd_t rfl ?_
            exact vworks_spec (drp (drp h23)) k
          · rw [he]
            refine cnd_t rfl ?_
            refine vnum_spec ?_
            repeat (first | refine pu_not ?_ | refine pu_eql ?_ | refine pu_neq ?_ | refine pu_lss ?_ | refine pu_leq ?_ | refine pu_gtr ?_ | refine pu_geq ?_ | refine pu_add ?_ | refine pu_sub ?_ | refine pu_mul ?_ | refine pu_neg ?_ | refine fa_at ?_ | refine nl_ptr ?_ | refine ex20 ?_ | refine ex21 ?_ | refine ex30 ?_ | refine ex31 ?_ | refine ex32 ?_ | refine ln_rule ?_ | refine lnT_rule ?_ | refine pu_and ?_ | refine pu_or ?_ | refine pu_xor ?_ | refine pu_seq ?_ | refine pu_sne ?_)
            refine cnd_f rfl ?_
            refine vnum_spec ?_
            repeat (first | refine pu_not ?_ | refine pu_eql ?_ | refine pu_neq ?_ | refine pu_lss ?_ | refine pu_leq ?_ | refine pu_gtr ?_ | refine pu_geq ?_ | refine pu_add ?_ | refine pu_sub ?_ | refine pu_mul ?_ | refine pu_neg ?_ | refine fa_at ?_ | refine nl_ptr ?_ | refine ex20 ?_ | refine ex21 ?_ | refine ex30 ?_ | refine ex31 ?_ | refine ex32 ?_ | refine ln_rule ?_ | refine lnT_rule ?_ | refine pu_and ?_ | refine pu_or ?_ | refine pu_xor ?_ | refine pu_seq ?_ | refine pu_sne ?_)
            refine cnd_t rfl ?_
            exact vworks_spec (drp (drp h23)) k
        · rw [he]
          refine cnd_f rfl ?_
          generalize (tick a i 281474976710655).1 = TT at *
          have hqT : Qd TT := fun v hv => by
            obtain ⟨q, hq, rfl⟩ := List.getElem_of_mem hv
            have h2 := gt_some hq
            rw [List.getElem?_eq_getElem hq] at h2
            rw [Option.some.inj h2, hgt]
            have := gt_lt qa q
            split <;> omega
          have htv : Cl (S3 ++ (S ++ H)) tv TT := htv.mono fun y hy => List.mem_append_left _ hy
          have ha3 : Cl (S3 ++ (S ++ H)) x a := ha.mono fun y hy => List.mem_append_right _ hy
          have hrT : right TT = true := right_of (fun q => by rw [hgt]; have := le_of_right hr q; split <;> omega) (by omega)
          have eE : epo TT i = (i * 281474976710656 + (gt a i + 1), 0) := by
            unfold epo
            rw [if_pos hrT, gi_nat, hgt, if_pos rfl]
            unfold pack
            rw [if_pos (by omega), Int.toNat_natCast]
          refine epoch_spec h23 htv hqT (by omega) (by omega) (fun w24 h24 => ?_)
          rw [eE]
          repeat (first | refine pu_not ?_ | refine pu_eql ?_ | refine pu_neq ?_ | refine pu_lss ?_ | refine pu_leq ?_ | refine pu_gtr ?_ | refine pu_geq ?_ | refine pu_add ?_ | refine pu_sub ?_ | refine pu_mul ?_ | refine pu_neg ?_ | refine fa_at ?_ | refine nl_ptr ?_ | refine ex20 ?_ | refine ex21 ?_ | refine ex30 ?_ | refine ex31 ?_ | refine ex32 ?_ | refine ln_rule ?_ | refine lnT_rule ?_ | refine pu_and ?_ | refine pu_or ?_ | refine pu_xor ?_ | refine pu_seq ?_ | refine pu_sne ?_)
          refine vnum_spec ?_
          repeat (first | refine pu_not ?_ | refine pu_eql ?_ | refine pu_neq ?_ | refine pu_lss ?_ | refine pu_leq ?_ | refine pu_gtr ?_ | refine pu_geq ?_ | refine pu_add ?_ | refine pu_sub ?_ | refine pu_mul ?_ | refine pu_neg ?_ | refine fa_at ?_ | refine nl_ptr ?_ | refine ex20 ?_ | refine ex21 ?_ | refine ex30 ?_ | refine ex31 ?_ | refine ex32 ?_ | refine ln_rule ?_ | refine lnT_rule ?_ | refine pu_and ?_ | refine pu_or ?_ | refine pu_xor ?_ | refine pu_seq ?_ | refine pu_sne ?_)
          refine cnd_t rfl ?_
          refine stands_spec h24 ha3 htv (by omega) (by omega) (fun w25 h25 => ?_)
          have eB : stands a TT = 2 := by
            unfold stands
            rw [if_pos (upTo_iff.2 fun q => by rw [hgt]; split <;> rename_i hq <;> (try subst hq) <;> omega), if_neg]
            intro hx
            have := upTo_iff.1 hx i
            rw [hgt, if_pos rfl] at this
            omega
          rw [eB]
          repeat (first | refine pu_not ?_ | refine pu_eql ?_ | refine pu_neq ?_ | refine pu_lss ?_ | refine pu_leq ?_ | refine pu_gtr ?_ | refine pu_geq ?_ | refine pu_add ?_ | refine pu_sub ?_ | refine pu_mul ?_ | refine pu_neg ?_ | refine fa_at ?_ | refine nl_ptr ?_ | refine ex20 ?_ | refine ex21 ?_ | refine ex30 ?_ | refine ex31 ?_ | refine ex32 ?_ | refine ln_rule ?_ | refine lnT_rule ?_ | refine pu_and ?_ | refine pu_or ?_ | refine pu_xor ?_ | refine pu_seq ?_ | refine pu_sne ?_)
          refine cnd_t rfl ?_
          have em : (i * 281474976710656 + (gt a i + 1)) % 281474976710656 = gt a i + 1 := by omega
          have ed : (i * 281474976710656 + (gt a i + 1)) / 281474976710656 = i := by omega
          refine has_spec h25 htv (by omega) (fun w26 h26 => ?_)
          refine cnd_t ?_ ?_
          · unfold has
            rw [em, ed, hgt, if_pos rfl]
            simp
          refine has_spec h26 ha3 (by omega) (fun w27 h27 => ?_)
          repeat (first | refine pu_not ?_ | refine pu_eql ?_ | refine pu_neq ?_ | refine pu_lss ?_ | refine pu_leq ?_ | refine pu_gtr ?_ | refine pu_geq ?_ | refine pu_add ?_ | refine pu_sub ?_ | refine pu_mul ?_ | refine pu_neg ?_ | refine fa_at ?_ | refine nl_ptr ?_ | refine ex20 ?_ | refine ex21 ?_ | refine ex30 ?_ | refine ex31 ?_ | refine ex32 ?_ | refine ln_rule ?_ | refine lnT_rule ?_ | refine pu_and ?_ | refine pu_or ?_ | refine pu_xor ?_ | refine pu_seq ?_ | refine pu_sne ?_)
          refine cnd_t ?_ ?_
          · unfold has
            rw [em, ed]
            simp
          exact vworks_spec (drp (drp h27)) k
    · refine bs_rule h5 [y, x, j] (bsw3 hb ha hj) (fun b20 w20 h20 => ?_)
      refine join_spec (ls := [b, a, J]) h20 ⟨_, sl_here (l := [y, x, j]) (.head _), ⟨hb.cons, qb⟩, ⟨ha.cons, qa⟩, ⟨hj.cons, qJ⟩, trivial⟩ (fun y hy => hy) (by simp) (by simp; omega) (fun S2 jj w21 h21 hjj => ?_)
      have h21 : Ow B w21 (S2 ++ (S ++ H)) := h21.sub ((List.Sublist.refl S2).append (.cons _ (.refl _)))
      have gK := joins_gt3 b a J
      have lK := joins_len (ls := [b, a, J]) (n := 40) (by simp; omega)
      generalize joins [b, a, J] = KJ at *
      refine stands_spec h21 (hj.mono fun y hy => List.mem_append_right _ hy) (hjj.mono fun y hy => List.mem_append_left _ hy) (by omega) (by omega) (fun w22 h22 => ?_)
      have h22 := drp h22
      have eS : stands J KJ = 1 := by
        unfold stands
        rw [if_pos (upTo_iff.2 fun i => by rw [gK]; omega), if_pos (upTo_iff.2 fun i => by rw [gK, gJ]; omega)]
      rw [eS]
      repeat (first | refine pu_not ?_ | refine pu_eql ?_ | refine pu_neq ?_ | refine pu_lss ?_ | refine pu_leq ?_ | refine pu_gtr ?_ | refine pu_geq ?_ | refine pu_add ?_ | refine pu_sub ?_ | refine pu_mul ?_ | refine pu_neg ?_ | refine fa_at ?_ | refine nl_ptr ?_ | refine ex20 ?_ | refine ex21 ?_ | refine ex30 ?_ | refine ex31 ?_ | refine ex32 ?_ | refine ln_rule ?_ | refine lnT_rule ?_ | refine pu_and ?_ | refine pu_or ?_ | refine pu_xor ?_ | refine pu_seq ?_ | refine pu_sne ?_)
      refine cnd_f rfl ?_
      refine tick_spec (f := 281474976710655) h22 ha (fun y hy => hy) qa (by omega) (by omega) (by omega) (fun S3 tv w23 h23 htv => ?_)
      repeat (first | refine pu_not ?_ | refine pu_eql ?_ | refine pu_neq ?_ | refine pu_lss ?_ | refine pu_leq ?_ | refine pu_gtr ?_ | refine pu_geq ?_ | refine pu_add ?_ | refine pu_sub ?_ | refine pu_mul ?_ | refine pu_neg ?_ | refine fa_at ?_ | refine nl_ptr ?_ | refine ex20 ?_ | refine ex21 ?_ | refine ex30 ?_ | refine ex31 ?_ | refine ex32 ?_ | refine ln_rule ?_ | refine lnT_rule ?_ | refine pu_and ?_ | refine pu_or ?_ | refine pu_xor ?_ | refine pu_seq ?_ | refine pu_sne ?_)
      refine vnum_spec ?_
      repeat (first | refine pu_not ?_ | refine pu_eql ?_ | refine pu_neq ?_ | refine pu_lss ?_ | refine pu_leq ?_ | refine pu_gtr ?_ | refine pu_geq ?_ | refine pu_add ?_ | refine pu_sub ?_ | refine pu_mul ?_ | refine pu_neg ?_ | refine fa_at ?_ | refine nl_ptr ?_ | refine ex20 ?_ | refine ex21 ?_ | refine ex30 ?_ | refine ex31 ?_ | refine ex32 ?_ | refine ln_rule ?_ | refine lnT_rule ?_ | refine pu_and ?_ | refine pu_or ?_ | refine pu_xor ?_ | refine pu_seq ?_ | refine pu_sne ?_)
      rcases @tick_cases a i hi la with he | ⟨he, hr, hg1, hlt, hgt⟩
      · rcases he with he | he
        · rw [he]
          refine cnd_t rfl ?_
          refine vnum_spec ?_
          repeat (first | refine pu_not ?_ | refine pu_eql ?_ | refine pu_neq ?_ | refine pu_lss ?_ | refine pu_leq ?_ | refine pu_gtr ?_ | refine pu_geq ?_ | refine pu_add ?_ | refine pu_sub ?_ | refine pu_mul ?_ | refine pu_neg ?_ | refine fa_at ?_ | refine nl_ptr ?_ | refine ex20 ?_ | refine ex21 ?_ | refine ex30 ?_ | refine ex31 ?_ | refine ex32 ?_ | refine ln_rule ?_ | refine lnT_rule ?_ | refine pu_and ?_ | refine pu_or ?_ | refine pu_xor ?_ | refine pu_seq ?_ | refine pu_sne ?_)
          refine cnd_t rfl ?_
          exact vworks_spec (drp (drp h23)) k
        · rw [he]
          refine cnd_t rfl ?_
          refine vnum_spec ?_
          repeat (first | refine pu_not ?_ | refine pu_eql ?_ | refine pu_neq ?_ | refine pu_lss ?_ | refine pu_leq ?_ | refine pu_gtr ?_ | refine pu_geq ?_ | refine pu_add ?_ | refine pu_sub ?_ | refine pu_mul ?_ | refine pu_neg ?_ | refine fa_at ?_ | refine nl_ptr ?_ | refine ex20 ?_ | refine ex21 ?_ | refine ex30 ?_ | refine ex31 ?_ | refine ex32 ?_ | refine ln_rule ?_ | refine lnT_rule ?_ | refine pu_and ?_ | refine pu_or ?_ | refine pu_xor ?_ | refine pu_seq ?_ | refine pu_sne ?_)
          refine cnd_f rfl ?_
          refine vnum_spec ?_
          repeat (first | refine pu_not ?_ | refine pu_eql ?_ | refine pu_neq ?_ | refine pu_lss ?_ | refine pu_leq ?_ | refine pu_gtr ?_ | refine pu_geq ?_ | refine pu_add ?_ | refine pu_sub ?_ | refine pu_mul ?_ | refine pu_neg ?_ | refine fa_at ?_ | refine nl_ptr ?_ | refine ex20 ?_ | refine ex21 ?_ | refine ex30 ?_ | refine ex31 ?_ | refine ex32 ?_ | refine ln_rule ?_ | refine lnT_rule ?_ | refine pu_and ?_ | refine pu_or ?_ | refine pu_xor ?_ | refine pu_seq ?_ | refine pu_sne ?_)
          refine cnd_t rfl ?_
          exact vworks_spec (drp (drp h23)) k
      · rw [he]
        refine cnd_f rfl ?_
        generalize (tick a i 281474976710655).1 = TT at *
        have hqT : Qd TT := fun v hv => by
          obtain ⟨q, hq, rfl⟩ := List.getElem_of_mem hv
          have h2 := gt_some hq
          rw [List.getElem?_eq_getElem hq] at h2
          rw [Option.some.inj h2, hgt]
          have := gt_lt qa q
          split <;> omega
        have htv : Cl (S3 ++ (S ++ H)) tv TT := htv.mono fun y hy => List.mem_append_left _ hy
        have ha3 : Cl (S3 ++ (S ++ H)) x a := ha.mono fun y hy => List.mem_append_right _ hy
        have hrT : right TT = true := right_of (fun q => by rw [hgt]; have := le_of_right hr q; split <;> omega) (by omega)
        have eE : epo TT i = (i * 281474976710656 + (gt a i + 1), 0) := by
          unfold epo
          rw [if_pos hrT, gi_nat, hgt, if_pos rfl]
          unfold pack
          rw [if_pos (by omega), Int.toNat_natCast]
        refine epoch_spec h23 htv hqT (by omega) (by omega) (fun w24 h24 => ?_)
        rw [eE]
        repeat (first | refine pu_not ?_ | refine pu_eql ?_ | refine pu_neq ?_ | refine pu_lss ?_ | refine pu_leq ?_ | refine pu_gtr ?_ | refine pu_geq ?_ | refine pu_add ?_ | refine pu_sub ?_ | refine pu_mul ?_ | refine pu_neg ?_ | refine fa_at ?_ | refine nl_ptr ?_ | refine ex20 ?_ | refine ex21 ?_ | refine ex30 ?_ | refine ex31 ?_ | refine ex32 ?_ | refine ln_rule ?_ | refine lnT_rule ?_ | refine pu_and ?_ | refine pu_or ?_ | refine pu_xor ?_ | refine pu_seq ?_ | refine pu_sne ?_)
        refine vnum_spec ?_
        repeat (first | refine pu_not ?_ | refine pu_eql ?_ | refine pu_neq ?_ | refine pu_lss ?_ | refine pu_leq ?_ | refine pu_gtr ?_ | refine pu_geq ?_ | refine pu_add ?_ | refine pu_sub ?_ | refine pu_mul ?_ | refine pu_neg ?_ | refine fa_at ?_ | refine nl_ptr ?_ | refine ex20 ?_ | refine ex21 ?_ | refine ex30 ?_ | refine ex31 ?_ | refine ex32 ?_ | refine ln_rule ?_ | refine lnT_rule ?_ | refine pu_and ?_ | refine pu_or ?_ | refine pu_xor ?_ | refine pu_seq ?_ | refine pu_sne ?_)
        refine cnd_t rfl ?_
        refine stands_spec h24 ha3 htv (by omega) (by omega) (fun w25 h25 => ?_)
        have eB : stands a TT = 2 := by
          unfold stands
          rw [if_pos (upTo_iff.2 fun q => by rw [hgt]; split <;> rename_i hq <;> (try subst hq) <;> omega), if_neg]
          intro hx
          have := upTo_iff.1 hx i
          rw [hgt, if_pos rfl] at this
          omega
        rw [eB]
        repeat (first | refine pu_not ?_ | refine pu_eql ?_ | refine pu_neq ?_ | refine pu_lss ?_ | refine pu_leq ?_ | refine pu_gtr ?_ | refine pu_geq ?_ | refine pu_add ?_ | refine pu_sub ?_ | refine pu_mul ?_ | refine pu_neg ?_ | refine fa_at ?_ | refine nl_ptr ?_ | refine ex20 ?_ | refine ex21 ?_ | refine ex30 ?_ | refine ex31 ?_ | refine ex32 ?_ | refine ln_rule ?_ | refine lnT_rule ?_ | refine pu_and ?_ | refine pu_or ?_ | refine pu_xor ?_ | refine pu_seq ?_ | refine pu_sne ?_)
        refine cnd_t rfl ?_
        have em : (i * 281474976710656 + (gt a i + 1)) % 281474976710656 = gt a i + 1 := by omega
        have ed : (i * 281474976710656 + (gt a i + 1)) / 281474976710656 = i := by omega
        refine has_spec h25 htv (by omega) (fun w26 h26 => ?_)
        refine cnd_t ?_ ?_
        · unfold has
          rw [em, ed, hgt, if_pos rfl]
          simp
        refine has_spec h26 ha3 (by omega) (fun w27 h27 => ?_)
        repeat (first | refine pu_not ?_ | refine pu_eql ?_ | refine pu_neq ?_ | refine pu_lss ?_ | refine pu_leq ?_ | refine pu_gtr ?_ | refine pu_geq ?_ | refine pu_add ?_ | refine pu_sub ?_ | refine pu_mul ?_ | refine pu_neg ?_ | refine fa_at ?_ | refine nl_ptr ?_ | refine ex20 ?_ | refine ex21 ?_ | refine ex30 ?_ | refine ex31 ?_ | refine ex32 ?_ | refine ln_rule ?_ | refine lnT_rule ?_ | refine pu_and ?_ | refine pu_or ?_ | refine pu_xor ?_ | refine pu_seq ?_ | refine pu_sne ?_)
        refine cnd_t ?_ ?_
        · unfold has
          rw [em, ed]
          simp
        exact vworks_spec (drp (drp h27)) k
end
end Go.Proofs.Ytobanjfpoeinhaa
