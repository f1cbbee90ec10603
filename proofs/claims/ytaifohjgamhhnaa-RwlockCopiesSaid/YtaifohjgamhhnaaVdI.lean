/- Locks: the document's calls. -/
import Derived.Test.YtaifohjgamhhnaaVdH
set_option linter.unusedVariables false
set_option linter.unusedSimpArgs false
namespace Go.Proofs.Ytaifohjgamhhnaa
open Go Go.RowKit Vc Vd
attribute [local irreducible] binV Op.unary convert nlW faW ldS ldW ixS ixA ixV ixT exW lnS lnT pu stW alW opW opU bsW mkW

section
variable {B w : World} {H X : Hp} {K : Value → World → Prop} {PK : List PanicEntry → World → Prop} {KK : Value → Prop} {L : List Lk} {m : Nat} {i y : Int} {s : Value}
theorem neqi {t : TypeId} {a : Int} {KK : Value → Prop} (k : KK (vB (decide (a ≠ 0)))) : pu PG (binV .neq t true (vI a) (.int .i64 0)) KK := by
  refine pu_neq ?_
  have : (a != 0) = decide (a ≠ 0) := by simp [bne, ibeq]
  rw [this]; exact k
/-- The answer that nothing is done. -/
theorem back {b1 b2 : Nat} (h : Ow B w ((b2, cel [.slice none 0 0] T.t_linesmanref14_Locks) :: (b1, cel [s] T.t_linesmanref14_Locks) :: H)) {KW : Value → World → Prop} (hr : rl X s L) (k : ∀ w', Ow B w' H → KW (.agg #[s]) w') :
    ldW (some 1) (ptr b1) w fun t14 => stW 1 (ptr b2) t14 (fun w15 => ldW (some 1) (ptr b2) w15 fun t16 => KW t16 w15) w := by
  refine ld1 h (.tail _ (.head _)) ?_
  refine st1s (A := []) h (rl.plain hr) (fun w2 h2 => ?_)
  refine ld1 h2 (.head _) ?_
  exact k _ h2.drop.drop
theorem refRead_spec (h : Ow B w H) (hr : rl X s L) (hX : ∀ x, x ∈ X → x ∈ H) (hw : Wf m L) (hm : m < 1000000)
    (k : ∀ S s' w', rl (S ++ X) s' (rRead L i y).1 → Ow B w' (S ++ H) → K (.tuple #[.agg #[s'], vI (rRead L i y).2]) w') : callW PG N.linesmanref14_Locks_Read [.agg #[s], vI i, vI y] K PK w := by
  refine linesmanref14_Locks_Read.ok ?_
  unfold linesmanref14_Locks_Read.C
  refine al_rule h (l := [s]) rfl (fun b1 w1 h1 => ?_)
  refine al_rule h1 (l := [.slice none 0 0]) (by kernel_rfl) (fun b2 w2 h2 => ?_)
  refine ld1 h2 (.tail _ (.head _)) ?_
  refine right_spec h2 (hr.mono fun x hx => .tail _ (.tail _ (hX x hx))) (fun w3 h3 => ?_)
  refine neqi ?_
  by_cases hrt : right L i y = 0
  · obtain ⟨e0, e1, e2, e3⟩ := right_ok hrt
    have hks := hw.ks _ (lk_mem e2 e3)
    refine cnd_f (by simpa using hrt) ?_
    obtain ⟨ps, v, p1, p2, p3, p4, p5⟩ := rl.at hr e2 e3
    repeat (first | refine pu_not ?_ | refine pu_eql ?_ | refine pu_neq ?_ | refine pu_lss ?_ | refine pu_leq ?_ | refine pu_gtr ?_ | refine pu_geq ?_ | refine pu_add ?_ | refine pu_sub ?_ | refine pu_mul ?_ | refine pu_neg ?_ | refine fa_at ?_ | refine nl_ptr ?_ | refine ex20 ?_ | refine ex21 ?_ | refine ex30 ?_ | refine ex31 ?_ | refine ex32 ?_ | refine ln_rule ?_ | refine lnT_rule ?_ | refine pu_and ?_ | refine pu_or ?_ | refine pu_xor ?_ | refine pu_seq ?_ | refine pu_sne ?_)
    refine ld_here h3 (.tail _ (.head _)) rfl ?_
    refine sls_ld h3 (Sls.mono p2 fun x hx => .tail _ (.tail _ (hX x hx))) e2 p4 ?_
    refine al_rule h3 (l := [.slice none 0 0, vI 0]) (by kernel_rfl) (fun b3 w4 h4 => ?_)
    refine st_here (A := []) h4 [v, vI (gk L i).wr] rfl rfl (by simp only [List.all_cons, sl_plain p5]; rfl) (by simp) (fun w5 h5 => ?_)
    simp only [List.take_zero, List.nil_append, Nat.zero_add, List.drop_succ_cons, List.drop_zero, List.drop_nil, List.append_nil] at h5
    repeat (first | refine pu_not ?_ | refine pu_eql ?_ | refine pu_neq ?_ | refine pu_lss ?_ | refine pu_leq ?_ | refine pu_gtr ?_ | refine pu_geq ?_ | refine pu_add ?_ | refine pu_sub ?_ | refine pu_mul ?_ | refine pu_neg ?_ | refine fa_at ?_ | refine nl_ptr ?_ | refine ex20 ?_ | refine ex21 ?_ | refine ex30 ?_ | refine ex31 ?_ | refine ex32 ?_ | refine ln_rule ?_ | refine lnT_rule ?_ | refine pu_and ?_ | refine pu_or ?_ | refine pu_xor ?_ | refine pu_seq ?_ | refine pu_sne ?_)
    refine ld_here h5 (.head _) rfl ?_
    repeat (first | refine pu_not ?_ | refine pu_eql ?_ | refine pu_neq ?_ | refine pu_lss ?_ | refine pu_leq ?_ | refine pu_gtr ?_ | refine pu_geq ?_ | refine pu_add ?_ | refine pu_sub ?_ | refine pu_mul ?_ | refine pu_neg ?_ | refine fa_at ?_ | refine nl_ptr ?_ | refine ex20 ?_ | refine ex21 ?_ | refine ex30 ?_ | refine ex31 ?_ | refine ex32 ?_ | refine ln_rule ?_ | refine lnT_rule ?_ | refine pu_and ?_ | refine pu_or ?_ | refine pu_xor ?_ | refine pu_seq ?_ | refine pu_sne ?_)
    refine cnd (fun hw => ?_) (fun hw => ?_)
    · have hw : 0 < (gk L i).wr := by simpa using hw
      have e : rRead L i y = (L, 240) := by unfold rRead; rw [if_neg (by omega), if_pos hw]
      rw [e] at k
      refine back (KW := fun t w => K (.tuple #[t, vI 240]) w) h5.drop hr (fun w6 h6 => ?_)
      exact k [] s w6 hr h6
    · have hw : ¬ 0 < (gk L i).wr := by simpa using hw
      have e : rRead L i y = (L.set i.toNat ⟨(gk L i).rd ++ [y], (gk L i).wr⟩, 0) := by unfold rRead; rw [if_neg (by omega), if_neg hw]
      rw [e] at k
      refine bs_rule h5 [] (by kernel_rfl) (fun b4 w6 h6 => ?_)
      repeat (first | refine pu_not ?_ | refine pu_eql ?_ | refine pu_neq ?_ | refine pu_lss ?_ | refine pu_leq ?_ | refine pu_gtr ?_ | refine pu_geq ?_ | refine pu_add ?_ | refine pu_sub ?_ | refine pu_mul ?_ | refine pu_neg ?_ | refine fa_at ?_ | refine nl_ptr ?_ | refine ex20 ?_ | refine ex21 ?_ | refine ex30 ?_ | refine ex31 ?_ | refine ex32 ?_ | refine ln_rule ?_ | refine lnT_rule ?_ | refine pu_and ?_ | refine pu_or ?_ | refine pu_xor ?_ | refine pu_seq ?_ | refine pu_sne ?_)
      refine ld_here h6 (.tail _ (.head _)) rfl ?_
      refine app1 (A := []) (S := [(b4, cel [] T.t_int)]) (z := vI 0) (bytes := 8) h6 (Own.mk (n := 0) (cap := 0) (xs := []) (Nat.le_refl _) (Nat.zero_le _) rfl rfl) p5 (fun y hy => .tail _ (.tail _ (.tail _ (.tail _ (hX y hy))))) (iv_plain _) und_sli info_int rfl (by simp [maxLen]; omega) (by simp; omega) (fun S1 v1 w7 h7 o1 => ?_)
      refine bs_rule h7 [vI y] (by kernel_rfl) (fun b5 w8 h8 => ?_)
      refine app1 (A := [_]) (z := vI 0) (bytes := 8) h8 o1 (sl_here (b := b5) (l := [vI y]) (e := T.t_int) (.head _)) (fun y hy => hy) rfl und_sli info_int rfl (by simp [maxLen]; omega) (by simp; omega) (fun S2 v2 w9 h9 o2 => ?_)
      have h9 : Ow B w9 (S2 ++ (b3, cel [v, vI (gk L i).wr] T.t_linesmanref14_Lock) :: (b2, cel [.slice none 0 0] T.t_linesmanref14_Locks) :: (b1, cel [s] T.t_linesmanref14_Locks) :: H) := h9.drop
      have q2 : Sl S2 v2 (iv ((gk L i).rd ++ [y])) := by simpa using o2.sl
      repeat (first | refine pu_not ?_ | refine pu_eql ?_ | refine pu_neq ?_ | refine pu_lss ?_ | refine pu_leq ?_ | refine pu_gtr ?_ | refine pu_geq ?_ | refine pu_add ?_ | refine pu_sub ?_ | refine pu_mul ?_ | refine pu_neg ?_ | refine fa_at ?_ | refine nl_ptr ?_ | refine ex20 ?_ | refine ex21 ?_ | refine ex30 ?_ | refine ex31 ?_ | refine ex32 ?_ | refine ln_rule ?_ | refine lnT_rule ?_ | refine pu_and ?_ | refine pu_or ?_ | refine pu_xor ?_ | refine pu_seq ?_ | refine pu_sne ?_)
      refine st1_here (A := S2) h9 (sl_cells q2) (sl_plain q2) (by simp) (fun w10 h10 => ?_)
      simp only [Nat.add_zero, List.set_cons_zero] at h10
      refine ld1 h10 (List.mem_append_right _ (.tail _ (.tail _ (.head _)))) ?_
      refine ldn_here h10 (List.mem_append_right _ (.head _)) (vs := [v2, vI (gk L i).wr]) rfl rfl ?_
      refine with_spec (X := S2 ++ X) h10 (hr.mono fun x hx => List.mem_append_right _ hx) (fun x hx => ?_) (q2.mono fun x hx => List.mem_append_left _ hx) e2 e3 (by have := ‹Wf m L›.len; omega) (fun S3 s3 w11 r3 h11 => ?_)
      · rcases List.mem_append.1 hx with hx | hx
        · exact List.mem_append_left _ hx
        · exact List.mem_append_right _ (.tail _ (.tail _ (.tail _ (hX x hx))))
      have h11 : Ow B w11 ((S3 ++ (S2 ++ [(b3, cel [v2, vI (gk L i).wr] T.t_linesmanref14_Lock)])) ++ (b2, cel [.slice none 0 0] T.t_linesmanref14_Locks) :: (b1, cel [s] T.t_linesmanref14_Locks) :: H) := by simpa using h11
      refine st1s h11 (rl.plain r3) (fun w12 h12 => ?_)
      refine ld1 h12 (List.mem_append_right _ (.head _)) ?_
      refine k (S3 ++ S2) s3 _ (by rw [List.append_assoc]; exact r3) (h12.sub ?_)
      rw [List.append_assoc, List.append_assoc, List.append_assoc]
      exact (List.Sublist.refl _).append ((List.Sublist.refl _).append (.cons _ (.cons _ (.cons _ (.refl _)))))
  · have e : rRead L i y = (L, right L i y) := by unfold rRead; rw [if_pos hrt]
    rw [e] at k
    refine cnd_t (by simpa using hrt) ?_
    refine back (KW := fun t w => K (.tuple #[t, vI (right L i y)]) w) h3 hr (fun w6 h6 => ?_)
    exact k [] s w6 hr h6
theorem refWrite_spec (h : Ow B w H) (hr : rl X s L) (hX : ∀ x, x ∈ X → x ∈ H) (hw : Wf m L) (hm : m < 1000000)
    (k : ∀ S s' w', rl (S ++ X) s' (rWrite L i y).1 → Ow B w' (S ++ H) → K (.tuple #[.agg #[s'], vI (rWrite L i y).2]) w') : callW PG N.linesmanref14_Locks_Write [.agg #[s], vI i, vI y] K PK w := by
  refine linesmanref14_Locks_Write.ok ?_
  unfold linesmanref14_Locks_Write.C
  refine al_rule h (l := [s]) rfl (fun b1 w1 h1 => ?_)
  refine al_rule h1 (l := [.slice none 0 0]) (by kernel_rfl) (fun b2 w2 h2 => ?_)
  refine ld1 h2 (.tail _ (.head _)) ?_
  refine right_spec h2 (hr.mono fun x hx => .tail _ (.tail _ (hX x hx))) (fun w3 h3 => ?_)
  refine neqi ?_
  by_cases hrt : right L i y = 0
  · obtain ⟨e0, e1, e2, e3⟩ := right_ok hrt
    have hks := hw.ks _ (lk_mem e2 e3)
    refine cnd_f (by simpa using hrt) ?_
    obtain ⟨ps, v, p1, p2, p3, p4, p5⟩ := rl.at hr e2 e3
    repeat (first | refine pu_not ?_ | refine pu_eql ?_ | refine pu_neq ?_ | refine pu_lss ?_ | refine pu_leq ?_ | refine pu_gtr ?_ | refine pu_geq ?_ | refine pu_add ?_ | refine pu_sub ?_ | refine pu_mul ?_ | refine pu_neg ?_ | refine fa_at ?_ | refine nl_ptr ?_ | refine ex20 ?_ | refine ex21 ?_ | refine ex30 ?_ | refine ex31 ?_ | refine ex32 ?_ | refine ln_rule ?_ | refine lnT_rule ?_ | refine pu_and ?_ | refine pu_or ?_ | refine pu_xor ?_ | refine pu_seq ?_ | refine pu_sne ?_)
    refine ld_here h3 (.tail _ (.head _)) rfl ?_
    refine sls_ld h3 (Sls.mono p2 fun x hx => .tail _ (.tail _ (hX x hx))) e2 p4 ?_
    refine al_rule h3 (l := [.slice none 0 0, vI 0]) (by kernel_rfl) (fun b3 w4 h4 => ?_)
    refine st_here (A := []) h4 [v, vI (gk L i).wr] rfl rfl (by simp only [List.all_cons, sl_plain p5]; rfl) (by simp) (fun w5 h5 => ?_)
    simp only [List.take_zero, List.nil_append, Nat.zero_add, List.drop_succ_cons, List.drop_zero, List.drop_nil, List.append_nil] at h5
    repeat (first | refine pu_not ?_ | refine pu_eql ?_ | refine pu_neq ?_ | refine pu_lss ?_ | refine pu_leq ?_ | refine pu_gtr ?_ | refine pu_geq ?_ | refine pu_add ?_ | refine pu_sub ?_ | refine pu_mul ?_ | refine pu_neg ?_ | refine fa_at ?_ | refine nl_ptr ?_ | refine ex20 ?_ | refine ex21 ?_ | refine ex30 ?_ | refine ex31 ?_ | refine ex32 ?_ | refine ln_rule ?_ | refine lnT_rule ?_ | refine pu_and ?_ | refine pu_or ?_ | refine pu_xor ?_ | refine pu_seq ?_ | refine pu_sne ?_)
    refine ld_here h5 (.head _) rfl ?_
    repeat (first | refine pu_not ?_ | refine pu_eql ?_ | refine pu_neq ?_ | refine pu_lss ?_ | refine pu_leq ?_ | refine pu_gtr ?_ | refine pu_geq ?_ | refine pu_add ?_ | refine pu_sub ?_ | refine pu_mul ?_ | refine pu_neg ?_ | refine fa_at ?_ | refine nl_ptr ?_ | refine ex20 ?_ | refine ex21 ?_ | refine ex30 ?_ | refine ex31 ?_ | refine ex32 ?_ | refine ln_rule ?_ | refine lnT_rule ?_ | refine pu_and ?_ | refine pu_or ?_ | refine pu_xor ?_ | refine pu_seq ?_ | refine pu_sne ?_)
    refine cnd (fun hw => ?_) (fun hw => ?_)
    · have hw : 0 < (gk L i).wr := by simpa using hw
      have e : rWrite L i y = (L, 240) := by unfold rWrite; rw [if_neg (by omega), if_pos hw]
      rw [e] at k
      refine back (KW := fun t w => K (.tuple #[t, vI 240]) w) h5.drop hr (fun w6 h6 => ?_)
      exact k [] s w6 hr h6
    · have hw : ¬ 0 < (gk L i).wr := by simpa using hw
      repeat (first | refine pu_not ?_ | refine pu_eql ?_ | refine pu_neq ?_ | refine pu_lss ?_ | refine pu_leq ?_ | refine pu_gtr ?_ | refine pu_geq ?_ | refine pu_add ?_ | refine pu_sub ?_ | refine pu_mul ?_ | refine pu_neg ?_ | refine fa_at ?_ | refine nl_ptr ?_ | refine ex20 ?_ | refine ex21 ?_ | refine ex30 ?_ | refine ex31 ?_ | refine ex32 ?_ | refine ln_rule ?_ | refine lnT_rule ?_ | refine pu_and ?_ | refine pu_or ?_ | refine pu_xor ?_ | refine pu_seq ?_ | refine pu_sne ?_)
      refine ld_here h5 (.head _) rfl ?_
      refine sl_ln p5 ?_
      rw [List.length_map]
      refine len_pos _ ?_
      refine cnd (fun hd => ?_) (fun hd => ?_)
      · have hd : (gk L i).rd ≠ [] := by simpa [List.length_pos_iff] using hd
        have e : rWrite L i y = (L, 241) := by unfold rWrite; rw [if_neg (by omega), if_neg hw, if_pos hd]
        rw [e] at k
        refine back (KW := fun t w => K (.tuple #[t, vI 241]) w) h5.drop hr (fun w6 h6 => ?_)
        exact k [] s w6 hr h6
      have hd : (gk L i).rd = [] := by simpa using hd
      have e : rWrite L i y = (L.set i.toNat ⟨(gk L i).rd, y + 1⟩, 0) := by unfold rWrite; rw [if_neg (by omega), if_neg hw, if_neg (by simpa using hd)]
      rw [e] at k
      repeat (first | refine pu_not ?_ | refine pu_eql ?_ | refine pu_neq ?_ | refine pu_lss ?_ | refine pu_leq ?_ | refine pu_gtr ?_ | refine pu_geq ?_ | refine pu_add ?_ | refine pu_sub ?_ | refine pu_mul ?_ | refine pu_neg ?_ | refine fa_at ?_ | refine nl_ptr ?_ | refine ex20 ?_ | refine ex21 ?_ | refine ex30 ?_ | refine ex31 ?_ | refine ex32 ?_ | refine ln_rule ?_ | refine lnT_rule ?_ | refine pu_and ?_ | refine pu_or ?_ | refine pu_xor ?_ | refine pu_seq ?_ | refine pu_sne ?_)
      rw [wrap64_in (by omega) (by omega)]
      refine st1_here (A := []) h5 rfl rfl (by simp) (fun w10 h10 => ?_)
      simp only [List.nil_append, Nat.zero_add, List.set_cons_succ, List.set_cons_zero] at h10
      refine ld1 h10 (.tail _ (.tail _ (.head _))) ?_
      refine ldn_here h10 (.head _) (vs := [v, vI (y + 1)]) rfl rfl ?_
      refine with_spec h10 hr (fun x hx => .tail _ (.tail _ (.tail _ (hX x hx)))) p5 e2 e3 (by have := ‹Wf m L›.len; omega) (fun S3 s3 w11 r3 h11 => ?_)
      have h11 : Ow B w11 ((S3 ++ [(b3, cel [v, vI (y + 1)] T.t_linesmanref14_Lock)]) ++ (b2, cel [.slice none 0 0] T.t_linesmanref14_Locks) :: (b1, cel [s] T.t_linesmanref14_Locks) :: H) := by simpa using h11
      refine st1s h11 (rl.plain r3) (fun w12 h12 => ?_)
      refine ld1 h12 (List.mem_append_right _ (.head _)) ?_
      refine k S3 s3 _ r3 (h12.sub ?_)
      rw [List.append_assoc]
      exact (List.Sublist.refl _).append (.cons _ (.cons _ (.cons _ (.refl _))))
  · have e : rWrite L i y = (L, right L i y) := by unfold rWrite; rw [if_pos hrt]
    rw [e] at k
    refine cnd_t (by simpa using hrt) ?_
    refine back (KW := fun t w => K (.tuple #[t, vI (right L i y)]) w) h3 hr (fun w6 h6 => ?_)
    exact k [] s w6 hr h6
theorem refUnwrite_spec (h : Ow B w H) (hr : rl X s L) (hX : ∀ x, x ∈ X → x ∈ H) (hw : Wf m L) (hm : m < 1000000)
    (k : ∀ S s' w', rl (S ++ X) s' (rUnwrite L i).1 → Ow B w' (S ++ H) → K (.tuple #[.agg #[s'], vI (rUnwrite L i).2.1, vI (rUnwrite L i).2.2]) w') : callW PG N.linesmanref14_Locks_Unwrite [.agg #[s], vI i] K PK w := by
  refine linesmanref14_Locks_Unwrite.ok ?_
  unfold linesmanref14_Locks_Unwrite.C
  refine al_rule h (l := [s]) rfl (fun b1 w1 h1 => ?_)
  refine al_rule h1 (l := [.slice none 0 0]) (by kernel_rfl) (fun b2 w2 h2 => ?_)
  refine ld1 h2 (.tail _ (.head _)) ?_
  refine right_spec h2 (hr.mono fun x hx => .tail _ (.tail _ (hX x hx))) (fun w3 h3 => ?_)
  refine neqi ?_
  by_cases hrt : right L i 0 = 0
  · obtain ⟨e0, e1, e2, e3⟩ := right_ok hrt
    have hks := hw.ks _ (lk_mem e2 e3)
    refine cnd_f (by simpa using hrt) ?_
    obtain ⟨ps, v, p1, p2, p3, p4, p5⟩ := rl.at hr e2 e3
    repeat (first | refine pu_not ?_ | refine pu_eql ?_ | refine pu_neq ?_ | refine pu_lss ?_ | refine pu_leq ?_ | refine pu_gtr ?_ | refine pu_geq ?_ | refine pu_add ?_ | refine pu_sub ?_ | refine pu_mul ?_ | refine pu_neg ?_ | refine fa_at ?_ | refine nl_ptr ?_ | refine ex20 ?_ | refine ex21 ?_ | refine ex30 ?_ | refine ex31 ?_ | refine ex32 ?_ | refine ln_rule ?_ | refine lnT_rule ?_ | refine pu_and ?_ | refine pu_or ?_ | refine pu_xor ?_ | refine pu_seq ?_ | refine pu_sne ?_)
    refine ld_here h3 (.tail _ (.head _)) rfl ?_
    refine sls_ld h3 (Sls.mono p2 fun x hx => .tail _ (.tail _ (hX x hx))) e2 p4 ?_
    refine al_rule h3 (l := [.slice none 0 0, vI 0]) (by kernel_rfl) (fun b3 w4 h4 => ?_)
    refine st_here (A := []) h4 [v, vI (gk L i).wr] rfl rfl (by simp only [List.all_cons, sl_plain p5]; rfl) (by simp) (fun w5 h5 => ?_)
    simp only [List.take_zero, List.nil_append, Nat.zero_add, List.drop_succ_cons, List.drop_zero, List.drop_nil, List.append_nil] at h5
    repeat (first | refine pu_not ?_ | refine pu_eql ?_ | refine pu_neq ?_ | refine pu_lss ?_ | refine pu_leq ?_ | refine pu_gtr ?_ | refine pu_geq ?_ | refine pu_add ?_ | refine pu_sub ?_ | refine pu_mul ?_ | refine pu_neg ?_ | refine fa_at ?_ | refine nl_ptr ?_ | refine ex20 ?_ | refine ex21 ?_ | refine ex30 ?_ | refine ex31 ?_ | refine ex32 ?_ | refine ln_rule ?_ | refine lnT_rule ?_ | refine pu_and ?_ | refine pu_or ?_ | refine pu_xor ?_ | refine pu_seq ?_ | refine pu_sne ?_)
    refine ld_here h5 (.head _) rfl ?_
    repeat (first | refine pu_not ?_ | refine pu_eql ?_ | refine pu_neq ?_ | refine pu_lss ?_ | refine pu_leq ?_ | refine pu_gtr ?_ | refine pu_geq ?_ | refine pu_add ?_ | refine pu_sub ?_ | refine pu_mul ?_ | refine pu_neg ?_ | refine fa_at ?_ | refine nl_ptr ?_ | refine ex20 ?_ | refine ex21 ?_ | refine ex30 ?_ | refine ex31 ?_ | refine ex32 ?_ | refine ln_rule ?_ | refine lnT_rule ?_ | refine pu_and ?_ | refine pu_or ?_ | refine pu_xor ?_ | refine pu_seq ?_ | refine pu_sne ?_)
    refine cnd (fun hw => ?_) (fun hw => ?_)
    · have hw : (gk L i).wr = 0 := by simpa using hw
      have e : rUnwrite L i = (L, 0, 242) := by unfold rUnwrite; rw [if_neg (by omega), if_pos hw]
      rw [e] at k
      refine back (KW := fun t w => K (.tuple #[t, vI 0, vI 242]) w) h5.drop hr (fun w6 h6 => ?_)
      exact k [] s w6 hr h6
    · have hw : ¬ (gk L i).wr = 0 := by simpa using hw
      have e : rUnwrite L i = (L.set i.toNat ⟨(gk L i).rd, 0⟩, (gk L i).wr - 1, 0) := by unfold rUnwrite; rw [if_neg (by omega), if_neg hw]
      rw [e] at k
      repeat (first | refine pu_not ?_ | refine pu_eql ?_ | refine pu_neq ?_ | refine pu_lss ?_ | refine pu_leq ?_ | refine pu_gtr ?_ | refine pu_geq ?_ | refine pu_add ?_ | refine pu_sub ?_ | refine pu_mul ?_ | refine pu_neg ?_ | refine fa_at ?_ | refine nl_ptr ?_ | refine ex20 ?_ | refine ex21 ?_ | refine ex30 ?_ | refine ex31 ?_ | refine ex32 ?_ | refine ln_rule ?_ | refine lnT_rule ?_ | refine pu_and ?_ | refine pu_or ?_ | refine pu_xor ?_ | refine pu_seq ?_ | refine pu_sne ?_)
      refine ld_here h5 (.head _) rfl ?_
      repeat (first | refine pu_not ?_ | refine pu_eql ?_ | refine pu_neq ?_ | refine pu_lss ?_ | refine pu_leq ?_ | refine pu_gtr ?_ | refine pu_geq ?_ | refine pu_add ?_ | refine pu_sub ?_ | refine pu_mul ?_ | refine pu_neg ?_ | refine fa_at ?_ | refine nl_ptr ?_ | refine ex20 ?_ | refine ex21 ?_ | refine ex30 ?_ | refine ex31 ?_ | refine ex32 ?_ | refine ln_rule ?_ | refine lnT_rule ?_ | refine pu_and ?_ | refine pu_or ?_ | refine pu_xor ?_ | refine pu_seq ?_ | refine pu_sne ?_)
      rw [wrap64_in (by omega) (by omega)]
      refine st1_here (A := []) h5 rfl rfl (by simp) (fun w10 h10 => ?_)
      simp only [List.nil_append, Nat.zero_add, List.set_cons_succ, List.set_cons_zero] at h10
      refine ld1 h10 (.tail _ (.tail _ (.head _))) ?_
      refine ldn_here h10 (.head _) (vs := [v, vI 0]) rfl rfl ?_
      refine with_spec h10 hr (fun x hx => .tail _ (.tail _ (.tail _ (hX x hx)))) p5 e2 e3 (by have := ‹Wf m L›.len; omega) (fun S3 s3 w11 r3 h11 => ?_)
      have h11 : Ow B w11 ((S3 ++ [(b3, cel [v, vI 0] T.t_linesmanref14_Lock)]) ++ (b2, cel [.slice none 0 0] T.t_linesmanref14_Locks) :: (b1, cel [s] T.t_linesmanref14_Locks) :: H) := by simpa using h11
      refine st1s h11 (rl.plain r3) (fun w12 h12 => ?_)
      refine ld1 h12 (List.mem_append_right _ (.head _)) ?_
      refine k S3 s3 _ r3 (h12.sub ?_)
      rw [List.append_assoc]
      exact (List.Sublist.refl _).append (.cons _ (.cons _ (.cons _ (.refl _))))
  · have e : rUnwrite L i = (L, 0, right L i 0) := by unfold rUnwrite; rw [if_pos hrt]
    rw [e] at k
    refine cnd_t (by simpa using hrt) ?_
    refine back (KW := fun t w => K (.tuple #[t, vI 0, vI (right L i 0)]) w) h3 hr (fun w6 h6 => ?_)
    exact k [] s w6 hr h6
/-- Where the first one is, from n on; 0: none. -/
def atFrom (rd : List Int) (y : Int) (n : Nat) : Nat := match (rd.drop n).findIdx? (· == y) with
  | some j => j + n
  | none => 0
theorem atFrom_zero (rd : List Int) (y : Int) : atFrom rd y 0 = fnd rd y := by
  unfold atFrom fnd
  rw [List.drop_zero]
  cases rd.findIdx? (· == y) <;> rfl
theorem atFrom_end (rd : List Int) (y : Int) : atFrom rd y rd.length = 0 := by
  unfold atFrom
  rw [List.drop_length]; rfl
theorem atFrom_step {rd : List Int} {y : Int} {n : Nat} (hn : n < rd.length) : atFrom rd y n = if rd[n] = y then n else atFrom rd y (n + 1) := by
  unfold atFrom
  rw [List.drop_eq_getElem_cons hn, List.findIdx?_cons]
  by_cases h : rd[n] = y
  · rw [if_pos h, if_pos (by simpa using h)]; simp
  · rw [if_neg h, if_neg (by simpa using h)]
    cases (rd.drop (n + 1)).findIdx? (· == y) <;> simp; omega
theorem refUnread_spec (h : Ow B w H) (hr : rl X s L) (hX : ∀ x, x ∈ X → x ∈ H) (hw : Wf m L) (hm : m < 1000000)
    (k : ∀ S s' w', rl (S ++ X) s' (rUnread L i y).1 → Ow B w' (S ++ H) → K (.tuple #[.agg #[s'], vI (rUnread L i y).2.1, vI (rUnread L i y).2.2]) w') : callW PG N.linesmanref14_Locks_Unread [.agg #[s], vI i, vI y] K PK w := by
  refine linesmanref14_Locks_Unread.ok ?_
  unfold linesmanref14_Locks_Unread.C
  refine al_rule h (l := [s]) rfl (fun b1 w1 h1 => ?_)
  refine al_rule h1 (l := [.slice none 0 0]) (by kernel_rfl) (fun b2 w2 h2 => ?_)
  refine ld1 h2 (.tail _ (.head _)) ?_
  refine right_spec h2 (hr.mono fun x hx => .tail _ (.tail _ (hX x hx))) (fun w3 h3 => ?_)
  refine neqi ?_
  by_cases hrt : right L i y = 0
  · obtain ⟨e0, e1, e2, e3⟩ := right_ok hrt
    have hks := hw.ks _ (lk_mem e2 e3)
    refine cnd_f (by simpa using hrt) ?_
    obtain ⟨ps, v, p1, p2, p3, p4, p5⟩ := rl.at hr e2 e3
    repeat (first | refine pu_not ?_ | refine pu_eql ?_ | refine pu_neq ?_ | refine pu_lss ?_ | refine pu_leq ?_ | refine pu_gtr ?_ | refine pu_geq ?_ | refine pu_add ?_ | refine pu_sub ?_ | refine pu_mul ?_ | refine pu_neg ?_ | refine fa_at ?_ | refine nl_ptr ?_ | refine ex20 ?_ | refine ex21 ?_ | refine ex30 ?_ | refine ex31 ?_ | refine ex32 ?_ | refine ln_rule ?_ | refine lnT_rule ?_ | refine pu_and ?_ | refine pu_or ?_ | refine pu_xor ?_ | refine pu_seq ?_ | refine pu_sne ?_)
    refine ld_here h3 (.tail _ (.head _)) rfl ?_
    refine sls_ld h3 (Sls.mono p2 fun x hx => .tail _ (.tail _ (hX x hx))) e2 p4 ?_
    refine al_rule h3 (l := [.slice none 0 0, vI 0]) (by kernel_rfl) (fun b3 w4 h4 => ?_)
    refine st_here (A := []) h4 [v, vI (gk L i).wr] rfl rfl (by simp only [List.all_cons, sl_plain p5]; rfl) (by simp) (fun w5 h5 => ?_)
    simp only [List.take_zero, List.nil_append, Nat.zero_add, List.drop_succ_cons, List.drop_zero, List.drop_nil, List.append_nil] at h5
    repeat (first | refine pu_not ?_ | refine pu_eql ?_ | refine pu_neq ?_ | refine pu_lss ?_ | refine pu_leq ?_ | refine pu_gtr ?_ | refine pu_geq ?_ | refine pu_add ?_ | refine pu_sub ?_ | refine pu_mul ?_ | refine pu_neg ?_ | refine fa_at ?_ | refine nl_ptr ?_ | refine ex20 ?_ | refine ex21 ?_ | refine ex30 ?_ | refine ex31 ?_ | refine ex32 ?_ | refine ln_rule ?_ | refine lnT_rule ?_ | refine pu_and ?_ | refine pu_or ?_ | refine pu_xor ?_ | refine pu_seq ?_ | refine pu_sne ?_)
    refine ld_here h5 (.head _) rfl ?_
    refine sl_ln p5 ?_
    rw [List.length_map]
    refine len_zero _ ?_
    refine cnd (fun hd => ?_) (fun hd => ?_)
    · have hd : (gk L i).rd = [] := by simpa using hd
      have e : rUnread L i y = (L, 0, 242) := by unfold rUnread; rw [if_neg (by omega), if_pos hd]
      rw [e] at k
      refine back (KW := fun t w => K (.tuple #[t, vI 0, vI 242]) w) h5.drop hr (fun w6 h6 => ?_)
      exact k [] s w6 hr h6
    have hd : (gk L i).rd ≠ [] := by simpa using hd
    have e : rUnread L i y = (L.set i.toNat ⟨(gk L i).rd.eraseIdx (fnd (gk L i).rd y), (gk L i).wr⟩, (gk L i).rd.getD (fnd (gk L i).rd y) 0, 0) := by unfold rUnread; rw [if_neg (by omega), if_neg hd]
    rw [e] at k
    have hfl := fnd_lt hd y
    have hpos : 0 < (gk L i).rd.length := List.length_pos_iff.2 hd
    generalize hG : gk L i = G at *
    repeat (first | refine pu_not ?_ | refine pu_eql ?_ | refine pu_neq ?_ | refine pu_lss ?_ | refine pu_leq ?_ | refine pu_gtr ?_ | refine pu_geq ?_ | refine pu_add ?_ | refine pu_sub ?_ | refine pu_mul ?_ | refine pu_neg ?_ | refine fa_at ?_ | refine nl_ptr ?_ | refine ex20 ?_ | refine ex21 ?_ | refine ex30 ?_ | refine ex31 ?_ | refine ex32 ?_ | refine ln_rule ?_ | refine lnT_rule ?_ | refine pu_and ?_ | refine pu_or ?_ | refine pu_xor ?_ | refine pu_seq ?_ | refine pu_sne ?_)
    refine ld_here h5 (.head _) rfl ?_
    refine sl_ln p5 ?_
    rw [List.length_map]
    repeat (first | refine pu_not ?_ | refine pu_eql ?_ | refine pu_neq ?_ | refine pu_lss ?_ | refine pu_leq ?_ | refine pu_gtr ?_ | refine pu_geq ?_ | refine pu_add ?_ | refine pu_sub ?_ | refine pu_mul ?_ | refine pu_neg ?_ | refine fa_at ?_ | refine nl_ptr ?_ | refine ex20 ?_ | refine ex21 ?_ | refine ex30 ?_ | refine ex31 ?_ | refine ex32 ?_ | refine ln_rule ?_ | refine lnT_rule ?_ | refine pu_and ?_ | refine pu_or ?_ | refine pu_xor ?_ | refine pu_seq ?_ | refine pu_sne ?_)
    rw [wrap64_in (by omega) (by omega)]
    refine ⟨fun l w => ∃ n : Nat, n ≤ G.rd.length ∧ l = [vI (atFrom G.rd y n : Nat), vI ((n : Int) - 1)] ∧ Ow B w ((b3, cel [v, vI G.wr] T.t_linesmanref14_Lock) :: (b2, cel [.slice none 0 0] T.t_linesmanref14_Locks) :: (b1, cel [s] T.t_linesmanref14_Locks) :: H),
      fun l _ => match l with | [_, .int _ n] => (n + 1).toNat | _ => 0, ⟨G.rd.length, Nat.le_refl _, by rw [atFrom_end]; rfl, h5⟩, ?_⟩
    rintro l w6 ⟨n, hn, rfl, h6⟩ j
    have hsl : Sl ((b3, cel [v, vI G.wr] T.t_linesmanref14_Lock) :: (b2, cel [.slice none 0 0] T.t_linesmanref14_Locks) :: (b1, cel [s] T.t_linesmanref14_Locks) :: H) v (iv G.rd) := p5.mono fun x hx => .tail _ (.tail _ (.tail _ (hX x hx)))
    repeat (first | refine pu_not ?_ | refine pu_eql ?_ | refine pu_neq ?_ | refine pu_lss ?_ | refine pu_leq ?_ | refine pu_gtr ?_ | refine pu_geq ?_ | refine pu_add ?_ | refine pu_sub ?_ | refine pu_mul ?_ | refine pu_neg ?_ | refine fa_at ?_ | refine nl_ptr ?_ | refine ex20 ?_ | refine ex21 ?_ | refine ex30 ?_ | refine ex31 ?_ | refine ex32 ?_ | refine ln_rule ?_ | refine lnT_rule ?_ | refine pu_and ?_ | refine pu_or ?_ | refine pu_xor ?_ | refine pu_seq ?_ | refine pu_sne ?_)
    refine cnd (fun hge => ?_) (fun hge => ?_)
    · have hn0 : 0 < n := by simp at hge; omega
      obtain ⟨n, rfl⟩ : ∃ n', n = n' + 1 := ⟨n - 1, by omega⟩
      have hlt : n < G.rd.length := by omega
      repeat (first | refine pu_not ?_ | refine pu_eql ?_ | refine pu_neq ?_ | refine pu_lss ?_ | refine pu_leq ?_ | refine pu_gtr ?_ | refine pu_geq ?_ | refine pu_add ?_ | refine pu_sub ?_ | refine pu_mul ?_ | refine pu_neg ?_ | refine fa_at ?_ | refine nl_ptr ?_ | refine ex20 ?_ | refine ex21 ?_ | refine ex30 ?_ | refine ex31 ?_ | refine ex32 ?_ | refine ln_rule ?_ | refine lnT_rule ?_ | refine pu_and ?_ | refine pu_or ?_ | refine pu_xor ?_ | refine pu_seq ?_ | refine pu_sne ?_)
      refine ld_here h6 (.head _) rfl ?_
      refine sl_ld h6 hsl (v := vI G.rd[n]) (by omega) (by rw [show (((n + 1 : Nat) : Int) - 1).toNat = n by omega]; exact iv_at hlt) ?_
      repeat (first | refine pu_not ?_ | refine pu_eql ?_ | refine pu_neq ?_ | refine pu_lss ?_ | refine pu_leq ?_ | refine pu_gtr ?_ | refine pu_geq ?_ | refine pu_add ?_ | refine pu_sub ?_ | refine pu_mul ?_ | refine pu_neg ?_ | refine fa_at ?_ | refine nl_ptr ?_ | refine ex20 ?_ | refine ex21 ?_ | refine ex30 ?_ | refine ex31 ?_ | refine ex32 ?_ | refine ln_rule ?_ | refine lnT_rule ?_ | refine pu_and ?_ | refine pu_or ?_ | refine pu_xor ?_ | refine pu_seq ?_ | refine pu_sne ?_)
      have hst := atFrom_step (y := y) hlt
      refine cnd (fun he => ?_) (fun he => ?_)
      · have he : G.rd[n] = y := by simpa using he
        rw [if_pos he] at hst
        repeat (first | refine pu_not ?_ | refine pu_eql ?_ | refine pu_neq ?_ | refine pu_lss ?_ | refine pu_leq ?_ | refine pu_gtr ?_ | refine pu_geq ?_ | refine pu_add ?_ | refine pu_sub ?_ | refine pu_mul ?_ | refine pu_neg ?_ | refine fa_at ?_ | refine nl_ptr ?_ | refine ex20 ?_ | refine ex21 ?_ | refine ex30 ?_ | refine ex31 ?_ | refine ex32 ?_ | refine ln_rule ?_ | refine lnT_rule ?_ | refine pu_and ?_ | refine pu_or ?_ | refine pu_xor ?_ | refine pu_seq ?_ | refine pu_sne ?_)
        rw [wrap64_in (by omega) (by omega)]
        refine ⟨⟨n, by omega, by rw [hst, show (((n + 1 : Nat) : Int) - 1) = n by omega]; rfl, h6⟩, by simp⟩
      · have he : ¬ G.rd[n] = y := by simpa using he
        rw [if_neg he] at hst
        repeat (first | refine pu_not ?_ | refine pu_eql ?_ | refine pu_neq ?_ | refine pu_lss ?_ | refine pu_leq ?_ | refine pu_gtr ?_ | refine pu_geq ?_ | refine pu_add ?_ | refine pu_sub ?_ | refine pu_mul ?_ | refine pu_neg ?_ | refine fa_at ?_ | refine nl_ptr ?_ | refine ex20 ?_ | refine ex21 ?_ | refine ex30 ?_ | refine ex31 ?_ | refine ex32 ?_ | refine ln_rule ?_ | refine lnT_rule ?_ | refine pu_and ?_ | refine pu_or ?_ | refine pu_xor ?_ | refine pu_seq ?_ | refine pu_sne ?_)
        rw [wrap64_in (by omega) (by omega)]
        refine ⟨⟨n, by omega, by rw [hst, show (((n + 1 : Nat) : Int) - 1) = n by omega]; rfl, h6⟩, by simp⟩
    · obtain rfl : n = 0 := by simp at hge; omega
      rw [atFrom_zero]
      repeat (first | refine pu_not ?_ | refine pu_eql ?_ | refine pu_neq ?_ | refine pu_lss ?_ | refine pu_leq ?_ | refine pu_gtr ?_ | refine pu_geq ?_ | refine pu_add ?_ | refine pu_sub ?_ | refine pu_mul ?_ | refine pu_neg ?_ | refine fa_at ?_ | refine nl_ptr ?_ | refine ex20 ?_ | refine ex21 ?_ | refine ex30 ?_ | refine ex31 ?_ | refine ex32 ?_ | refine ln_rule ?_ | refine lnT_rule ?_ | refine pu_and ?_ | refine pu_or ?_ | refine pu_xor ?_ | refine pu_seq ?_ | refine pu_sne ?_)
      refine ld_here h6 (.head _) rfl ?_
      refine sl_ld h6 hsl (v := vI (G.rd.getD (fnd G.rd y) 0)) (by omega) (by rw [Int.toNat_natCast, List.getElem?_map, List.getD_eq_getElem?_getD, List.getElem?_eq_getElem hfl]; rfl) ?_
      have h7 := h6.drew
      refine ⟨fun w => Ow B w ((b3, cel [v, vI G.wr] T.t_linesmanref14_Lock) :: (b2, cel [.slice none 0 0] T.t_linesmanref14_Locks) :: (b1, cel [s] T.t_linesmanref14_Locks) :: H), h7, ?_⟩
      repeat (first | refine pu_not ?_ | refine pu_eql ?_ | refine pu_neq ?_ | refine pu_lss ?_ | refine pu_leq ?_ | refine pu_gtr ?_ | refine pu_geq ?_ | refine pu_add ?_ | refine pu_sub ?_ | refine pu_mul ?_ | refine pu_neg ?_ | refine fa_at ?_ | refine nl_ptr ?_ | refine ex20 ?_ | refine ex21 ?_ | refine ex30 ?_ | refine ex31 ?_ | refine ex32 ?_ | refine ln_rule ?_ | refine lnT_rule ?_ | refine pu_and ?_ | refine pu_or ?_ | refine pu_xor ?_ | refine pu_seq ?_ | refine pu_sne ?_)
      refine lds_here (fun w h => h) (.head _) rfl ?_
      refine cutH p5 (by omega) (by simp; omega) (fun u hu => ?_)
      rw [Int.toNat_natCast] at hu
      repeat (first | refine pu_not ?_ | refine pu_eql ?_ | refine pu_neq ?_ | refine pu_lss ?_ | refine pu_leq ?_ | refine pu_gtr ?_ | refine pu_geq ?_ | refine pu_add ?_ | refine pu_sub ?_ | refine pu_mul ?_ | refine pu_neg ?_ | refine fa_at ?_ | refine nl_ptr ?_ | refine ex20 ?_ | refine ex21 ?_ | refine ex30 ?_ | refine ex31 ?_ | refine ex32 ?_ | refine ln_rule ?_ | refine lnT_rule ?_ | refine pu_and ?_ | refine pu_or ?_ | refine pu_xor ?_ | refine pu_seq ?_ | refine pu_sne ?_)
      refine lds_here (fun w h => h) (.head _) rfl ?_
      repeat (first | refine pu_not ?_ | refine pu_eql ?_ | refine pu_neq ?_ | refine pu_lss ?_ | refine pu_leq ?_ | refine pu_gtr ?_ | refine pu_geq ?_ | refine pu_add ?_ | refine pu_sub ?_ | refine pu_mul ?_ | refine pu_neg ?_ | refine fa_at ?_ | refine nl_ptr ?_ | refine ex20 ?_ | refine ex21 ?_ | refine ex30 ?_ | refine ex31 ?_ | refine ex32 ?_ | refine ln_rule ?_ | refine lnT_rule ?_ | refine pu_and ?_ | refine pu_or ?_ | refine pu_xor ?_ | refine pu_seq ?_ | refine pu_sne ?_)
      rw [wrap64_in (by omega) (by omega)]
      refine cutL p5 (by omega) (by simp; omega) (fun u' hu' => ?_)
      rw [show ((fnd G.rd y : Int) + 1).toNat = fnd G.rd y + 1 by omega] at hu'
      refine bs_rule h7 [] (by kernel_rfl) (fun b4 w8 h8 => ?_)
      refine ⟨h8.drop, ?_⟩
      refine app1 (A := []) (S := [(b4, cel [] T.t_int)]) (z := vI 0) (bytes := 8) h8 (Own.mk (n := 0) (cap := 0) (xs := []) (Nat.le_refl _) (Nat.zero_le _) rfl rfl) hu (fun y hy => .tail _ (.tail _ (.tail _ (.tail _ (hX y hy))))) (by rw [← List.map_take]; exact iv_plain _) und_sli info_int rfl (by simp [maxLen]; omega) (by simp; omega) (fun S1 v1 w9 h9 o1 => ?_)
      refine ⟨drp h9, ?_⟩
      refine app1 (A := []) (z := vI 0) (bytes := 8) h9 o1 hu' (fun y hy => List.mem_append_right _ (.tail _ (.tail _ (.tail _ (hX y hy))))) (by rw [← List.map_drop]; exact iv_plain _) und_sli info_int rfl (by simp [maxLen]; omega) (by simp; omega) (fun S2 v2 w10 h10 o2 => ?_)
      have q2 : Sl S2 v2 (iv (G.rd.eraseIdx (fnd G.rd y))) := by
        have := o2.sl
        rw [List.nil_append, ← List.map_take, ← List.map_drop, ← List.map_append, erase_eq] at this
        exact this
      have h10 : Ow B w10 (S2 ++ (b3, cel [v, vI G.wr] T.t_linesmanref14_Lock) :: (b2, cel [.slice none 0 0] T.t_linesmanref14_Locks) :: (b1, cel [s] T.t_linesmanref14_Locks) :: H) := h10
      repeat (first | refine pu_not ?_ | refine pu_eql ?_ | refine pu_neq ?_ | refine pu_lss ?_ | refine pu_leq ?_ | refine pu_gtr ?_ | refine pu_geq ?_ | refine pu_add ?_ | refine pu_sub ?_ | refine pu_mul ?_ | refine pu_neg ?_ | refine fa_at ?_ | refine nl_ptr ?_ | refine ex20 ?_ | refine ex21 ?_ | refine ex30 ?_ | refine ex31 ?_ | refine ex32 ?_ | refine ln_rule ?_ | refine lnT_rule ?_ | refine pu_and ?_ | refine pu_or ?_ | refine pu_xor ?_ | refine pu_seq ?_ | refine pu_sne ?_)
      refine st1_here (A := S2) h10 (sl_cells q2) (sl_plain q2) (by simp) (fun w10 h10 => ?_)
      simp only [Nat.add_zero, List.set_cons_zero] at h10
      refine ld1 h10 (List.mem_append_right _ (.tail _ (.tail _ (.head _)))) ?_
      refine ldn_here h10 (List.mem_append_right _ (.head _)) (vs := [v2, vI G.wr]) rfl rfl ?_
      refine with_spec (X := S2 ++ X) h10 (hr.mono fun x hx => List.mem_append_right _ hx) (fun x hx => ?_) (q2.mono fun x hx => List.mem_append_left _ hx) e2 e3 (by have := ‹Wf m L›.len; omega) (fun S3 s3 w11 r3 h11 => ?_)
      · rcases List.mem_append.1 hx with hx | hx
        · exact List.mem_append_left _ hx
        · exact List.mem_append_right _ (.tail _ (.tail _ (.tail _ (hX x hx))))
      have h11 : Ow B w11 ((S3 ++ (S2 ++ [(b3, cel [v2, vI G.wr] T.t_linesmanref14_Lock)])) ++ (b2, cel [.slice none 0 0] T.t_linesmanref14_Locks) :: (b1, cel [s] T.t_linesmanref14_Locks) :: H) := by simpa using h11
      refine st1s h11 (rl.plain r3) (fun w12 h12 => ?_)
      refine ld1 h12 (List.mem_append_right _ (.head _)) ?_
      refine k (S3 ++ S2) s3 _ (by rw [List.append_assoc]; exact r3) (h12.sub ?_)
      rw [List.append_assoc, List.append_assoc, List.append_assoc]
      exact (List.Sublist.refl _).append ((List.Sublist.refl _).append (.cons _ (.cons _ (.cons _ (.refl _)))))
  · have e : rUnread L i y = (L, 0, right L i y) := by unfold rUnread; rw [if_pos hrt]
    rw [e] at k
    refine cnd_t (by simpa using hrt) ?_
    refine back (KW := fun t w => K (.tuple #[t, vI 0, vI (right L i y)]) w) h3 hr (fun w6 h6 => ?_)
    exact k [] s w6 hr h6
end
end Go.Proofs.Ytaifohjgamhhnaa
