/- Locks: do they stand as the document's? -/
import Derived.Test.YtaifohjgamhhnaaVdM
set_option linter.unusedVariables false
set_option linter.unusedSimpArgs false
namespace Go.Proofs.Ytaifohjgamhhnaa
open Go Go.RowKit Vc Vd
attribute [local irreducible] binV Op.unary convert nlW faW ldS ldW ixS ixA ixV ixT exW lnS lnT pu stW alW opW opU bsW mkW

section
variable {B w : World} {H X F : Hp} {K : Value → World → Prop} {PK : List PanicEntry → World → Prop} {KK : Value → Prop} {L : List Lk} {m b : Nat} {i y : Int} {s : Value}
theorem neqs {KK : Value → Prop} {a : Int} (k : KK (vB false)) : pu PG (binV .neq T.t_int false (vI a) (vI a)) KK := by
  refine pu_neq ?_
  rw [bne_self_eq_false]; exact k
theorem und_bool : PG.underlying T.t_bool = some .bool := by kernel_rfl
theorem neqb {KK : Value → Prop} {a : Bool} (k : KK (vB false)) : pu PG (binV .neq T.t_bool false (vB a) (vB a)) KK := by
  refine pu_bneq und_bool ?_
  rw [bne_self_eq_false]; exact k
theorem mn_mx {n many : Int} {KK : Value → Prop} {len : Nat} (hn : n = (if (if many > 1 then many else 1) < (len : Int) then (if many > 1 then many else 1) else len)) (k : KK (vB true)) :
    pu PG (Builtin.max_ #[T.t_int, T.t_int] 0 #[(.int .i64 1), vI many]) fun t98 => pu PG (Builtin.min_ #[T.t_int, T.t_int] 0 #[vI len, t98]) fun t99 => pu PG (binV .eql T.t_int false (vI n) t99) KK := by
  refine pu_max2 ?_
  refine pu_min2 ?_
  rw [← hn]
  exact eqi k
theorem is_spec {many : Int} (lp : LP L m b F) (hm : m < 1000000) (hr : rl X s L) (hX : ∀ x, x ∈ X → x ∈ H) (h : Ow B w (F ++ H)) (k : ∀ w', Ow B w' (F ++ H) → K (vB true) w') :
    callW PG N.linesmanlaw14_is [ptr b, .agg #[s], vI many] K PK w := by
  have hw := lp.wf
  have hlen := hw.len
  refine linesmanlaw14_is.ok ?_
  unfold linesmanlaw14_is.C
  refine al_rule h (l := [s]) rfl (fun b2 w1 h1 => ?_)
  refine al_rule h1 (l := [vI many]) rfl (fun b4 w2 h2 => ?_)
  refine al_rule h2 (l := [vB false]) (by kernel_rfl) (fun b6 w3 h3 => ?_)
  have h3 : Ow B w3 (F ++ ((b6, cel [vB false] T.t_bool) :: (b4, cel [vI many] T.t_int) :: (b2, cel [s] T.t_linesmanref14_Locks) :: H)) := front (A := [_, _, _]) h3
  have k : ∀ w', Ow B w' (F ++ ((b6, cel [vB true] T.t_bool) :: (b4, cel [vI many] T.t_int) :: (b2, cel [s] T.t_linesmanref14_Locks) :: H)) → K (vB true) w' := fun w' h' => k w' (h'.sub ((List.Sublist.refl F).append (.cons _ (.cons _ (.cons _ (.refl _))))))
  generalize hR : (b4, cel [vI many] T.t_int) :: (b2, cel [s] T.t_linesmanref14_Locks) :: H = R at *
  have m4 : (b4, cel [vI many] T.t_int) ∈ R := by rw [← hR]; exact .head _
  have m2 : (b2, cel [s] T.t_linesmanref14_Locks) ∈ R := by rw [← hR]; exact .tail _ (.head _)
  have hXR : ∀ x, x ∈ X → x ∈ R := fun x hx => by rw [← hR]; exact .tail _ (.tail _ (hX x hx))
  clear h h1 h2 hR
  refine ⟨fun l w => ∃ i : Int, l = [vI i] ∧ -1 ≤ i ∧ i ≤ 65 ∧ Ow B w (F ++ ((b6, cel [vB false] T.t_bool) :: R)), fun l _ => match l with | [.int _ n] => (65 - n).toNat | _ => 0, ⟨-1, rfl, by omega, by omega, h3⟩, ?_⟩
  rintro l w4 ⟨i, rfl, hi0, hi1, h4⟩ j
  repeat (first | refine pu_not ?_ | refine pu_eql ?_ | refine pu_neq ?_ | refine pu_lss ?_ | refine pu_leq ?_ | refine pu_gtr ?_ | refine pu_geq ?_ | refine pu_add ?_ | refine pu_sub ?_ | refine pu_mul ?_ | refine pu_neg ?_ | refine fa_at ?_ | refine nl_ptr ?_ | refine ex20 ?_ | refine ex21 ?_ | refine ex30 ?_ | refine ex31 ?_ | refine ex32 ?_ | refine ln_rule ?_ | refine lnT_rule ?_ | refine pu_and ?_ | refine pu_or ?_ | refine pu_xor ?_ | refine pu_seq ?_ | refine pu_sne ?_)
  refine cnd (fun hle => ?_) (fun hle => ?_)
  · have hle : i ≤ 64 := by simp at hle; omega
    refine writer_spec lp h4 (fun w5 h5 => ?_)
    repeat (first | refine pu_not ?_ | refine pu_eql ?_ | refine pu_neq ?_ | refine pu_lss ?_ | refine pu_leq ?_ | refine pu_gtr ?_ | refine pu_geq ?_ | refine pu_add ?_ | refine pu_sub ?_ | refine pu_mul ?_ | refine pu_neg ?_ | refine fa_at ?_ | refine nl_ptr ?_ | refine ex20 ?_ | refine ex21 ?_ | refine ex30 ?_ | refine ex31 ?_ | refine ex32 ?_ | refine ln_rule ?_ | refine lnT_rule ?_ | refine pu_and ?_ | refine pu_or ?_ | refine pu_xor ?_ | refine pu_seq ?_ | refine pu_sne ?_)
    refine ld1 h5 (List.mem_append_right _ (.tail _ m2)) ?_
    refine refWriter_spec h5 hr (fun x hx => List.mem_append_right _ (.tail _ (hXR x hx))) hw (fun w6 h6 => ?_)
    repeat (first | refine pu_not ?_ | refine pu_eql ?_ | refine pu_neq ?_ | refine pu_lss ?_ | refine pu_leq ?_ | refine pu_gtr ?_ | refine pu_geq ?_ | refine pu_add ?_ | refine pu_sub ?_ | refine pu_mul ?_ | refine pu_neg ?_ | refine fa_at ?_ | refine nl_ptr ?_ | refine ex20 ?_ | refine ex21 ?_ | refine ex30 ?_ | refine ex31 ?_ | refine ex32 ?_ | refine ln_rule ?_ | refine lnT_rule ?_ | refine pu_and ?_ | refine pu_or ?_ | refine pu_xor ?_ | refine pu_seq ?_ | refine pu_sne ?_)
    refine ⟨fun w => Ow B w [(b2, cel [s] T.t_linesmanref14_Locks)], h6.drew.sub (List.singleton_sublist.2 (List.mem_append_right _ (.tail _ m2))), ?_⟩
    refine neqs ?_
    refine cnd_f rfl ?_
    refine neqb ?_
    refine cnd_f rfl ?_
    refine lds1 (fun w h => h) (.head _) ?_
    refine readers_spec lp hm h6.drew (fun S v w7 h7 ho => ?_)
    refine ⟨h7.sub (List.singleton_sublist.2 (List.mem_append_right _ (List.mem_append_right _ (.tail _ m2)))), ?_⟩
    refine refReaders_spec h7 hr (fun x hx => List.mem_append_right _ (List.mem_append_right _ (.tail _ (hXR x hx)))) (fun v' w8 hv' h8 => ?_)
    refine ints_spec h8 (ho.sl.mono fun x hx => List.mem_append_left _ hx) (hv'.mono fun x hx => List.mem_append_right _ (List.mem_append_right _ (.tail _ (hXR x hx)))) ?_ (fun w9 h9 => ?_)
    · split
      · rename_i h0
        by_cases h1 : i < L.length
        · have := hw.ks _ (lk_mem h0 h1); omega
        · rw [gk_out (by omega) h0]; simp [emp]
      · simp
    repeat (first | refine pu_not ?_ | refine pu_eql ?_ | refine pu_neq ?_ | refine pu_lss ?_ | refine pu_leq ?_ | refine pu_gtr ?_ | refine pu_geq ?_ | refine pu_add ?_ | refine pu_sub ?_ | refine pu_mul ?_ | refine pu_neg ?_ | refine fa_at ?_ | refine nl_ptr ?_ | refine ex20 ?_ | refine ex21 ?_ | refine ex30 ?_ | refine ex31 ?_ | refine ex32 ?_ | refine ln_rule ?_ | refine lnT_rule ?_ | refine pu_and ?_ | refine pu_or ?_ | refine pu_xor ?_ | refine pu_seq ?_ | refine pu_sne ?_)
    refine cnd_f (by simp) ?_
    repeat (first | refine pu_not ?_ | refine pu_eql ?_ | refine pu_neq ?_ | refine pu_lss ?_ | refine pu_leq ?_ | refine pu_gtr ?_ | refine pu_geq ?_ | refine pu_add ?_ | refine pu_sub ?_ | refine pu_mul ?_ | refine pu_neg ?_ | refine fa_at ?_ | refine nl_ptr ?_ | refine ex20 ?_ | refine ex21 ?_ | refine ex30 ?_ | refine ex31 ?_ | refine ex32 ?_ | refine ln_rule ?_ | refine lnT_rule ?_ | refine pu_and ?_ | refine pu_or ?_ | refine pu_xor ?_ | refine pu_seq ?_ | refine pu_sne ?_)
    rw [wrap64_in (by omega) (by omega)]
    exact ⟨⟨i + 1, rfl, by omega, by omega, h9.sub (List.sublist_append_right _ _)⟩, by simp; omega⟩
  · refine ld1 h4 (List.mem_append_right _ (.tail _ m2)) ?_
    refine refTaken_spec h4 hr (fun x hx => List.mem_append_right _ (.tail _ (hXR x hx))) hw (fun S v w5 h5 hv => ?_)
    refine al_rule h5 (l := [.slice none 0 0]) (by kernel_rfl) (fun bt w6 h6 => ?_)
    refine st1_here (A := []) h6 (sl_cells hv) (sl_plain hv) (by simp) (fun w7 h7 => ?_)
    simp only [List.nil_append, List.set_cons_zero] at h7
    have h7 : Ow B w7 (F ++ (((bt, cel [v] T.t_sl_int) :: S) ++ ((b6, cel [vB false] T.t_bool) :: R))) := front (by simpa using h7)
    refine taken_spec lp hm h7 (fun f S2 w8 hseq h8 => ?_)
    refine ⟨fun w => Ow B w [(b2, cel [s] T.t_linesmanref14_Locks)], h8.drew.sub (List.singleton_sublist.2 (List.mem_append_right _ (List.mem_append_right _ (List.mem_append_right _ (.tail _ m2))))), ?_⟩
    refine pu_fnl (by kernel_rfl) ?_
    refine cnd_f rfl ?_
    repeat (first | refine pu_not ?_ | refine pu_eql ?_ | refine pu_neq ?_ | refine pu_lss ?_ | refine pu_leq ?_ | refine pu_gtr ?_ | refine pu_geq ?_ | refine pu_add ?_ | refine pu_sub ?_ | refine pu_mul ?_ | refine pu_neg ?_ | refine fa_at ?_ | refine nl_ptr ?_ | refine ex20 ?_ | refine ex21 ?_ | refine ex30 ?_ | refine ex31 ?_ | refine ex32 ?_ | refine ln_rule ?_ | refine lnT_rule ?_ | refine pu_and ?_ | refine pu_or ?_ | refine pu_xor ?_ | refine pu_seq ?_ | refine pu_sne ?_)
    refine lds_here (fun w h => h) (.head _) (v := s) rfl ?_
    refine rl.ln hr ?_
    have h8 := front (A := S2) h8.drew
    refine len_spec lp h8 (fun w9 h9 => ?_)
    refine ⟨h9.sub (List.singleton_sublist.2 (List.mem_append_right _ (List.mem_append_right _ (List.mem_append_right _ (.tail _ m2))))), ?_⟩
    refine neqs ?_
    refine cnd_f rfl ?_
    refine al_rule h9 (l := [vI 0]) (by kernel_rfl) (fun bn w10 h10 => ?_)
    refine st1_here (A := []) h10 rfl rfl (by simp) (fun w11 h11 => ?_)
    simp only [List.nil_append, List.set_cons_zero] at h11
    have hperm : ((bn, cel [vI 0] T.t_int) :: (F ++ (S2 ++ (((bt, cel [v] T.t_sl_int) :: S) ++ ((b6, cel [vB false] T.t_bool) :: R))))).Perm ([(bn, cel [vI 0] T.t_int), (b6, cel [vB false] T.t_bool)] ++ (F ++ (S2 ++ (((bt, cel [v] T.t_sl_int) :: S) ++ R)))) := by
      refine List.Perm.cons _ ?_
      refine List.Perm.trans ?_ (List.perm_middle (l₁ := F ++ (S2 ++ ((bt, cel [v] T.t_sl_int) :: S))) (l₂ := R) (a := (b6, cel [vB false] T.t_bool))) |>.trans ?_
      · simp
      · simp
    have h11 := h11.perm hperm
    generalize hD : F ++ (S2 ++ (((bt, cel [v] T.t_sl_int) :: S) ++ R)) = D0 at h11
    have mS2 : ∀ x, x ∈ S2 → x ∈ D0 := fun x hx => by rw [← hD]; exact List.mem_append_right _ (List.mem_append_left _ hx)
    have mt : (bt, cel [v] T.t_sl_int) ∈ D0 := by rw [← hD]; exact List.mem_append_right _ (List.mem_append_right _ (.head _))
    have mS : ∀ x, x ∈ S → x ∈ D0 := fun x hx => by rw [← hD]; exact List.mem_append_right _ (List.mem_append_right _ (.tail _ (List.mem_append_left _ hx)))
    have mR : ∀ x, x ∈ R → x ∈ D0 := fun x hx => by rw [← hD]; exact List.mem_append_right _ (List.mem_append_right _ (.tail _ (List.mem_append_right _ hx)))
    have kD : ∀ w' (o : Obj), Ow B w' ((bn, o) :: (b6, cel [vB true] T.t_bool) :: D0) → K (vB true) w' := fun w' o h' => by
      rw [← hD] at h'
      have h' := h'.drop
      have h'' : Ow B w' ((b6, cel [vB true] T.t_bool) :: (F ++ R)) := h'.sub (.cons_cons _ ((List.Sublist.refl F).append ((List.sublist_append_right _ _).trans (List.sublist_append_right _ _))))
      exact k w' (h''.perm List.perm_middle.symm)
    have hto : takes L 64 = takes L L.length := by
      have := takes_out L (64 - L.length)
      rwa [show L.length + (64 - L.length) = 64 by omega] at this
    have hvl := takes_len L L.length
    have htl : (tL L 64).length = (takes L L.length).length := by rw [tL_len, hto]
    refine range_fn (X := [(bn, cel [vI 0] T.t_int), (b6, cel [vB false] T.t_bool)]) (H := D0) (A := linesmanlaw14_is.note) (fuel := 400) mixed (hseq D0 mS2) (by simp) tL_two h11
      (fun n Y => n ≤ (takes L L.length).length ∧ Y = [(bn, cel [vI n] T.t_int), (b6, cel [vB false] T.t_bool)] ∧ (n = 0 ∨ (n : Int) < many))
      (fun j Y => j = .exit 2 ∧ ∃ n : Nat, n ≤ (takes L L.length).length ∧ Y = [(bn, cel [vI n] T.t_int), (b6, cel [vB false] T.t_bool)] ∧ 1 ≤ n ∧ many ≤ n ∧ (n = 1 ∨ (n : Int) - 1 < many)) ⟨Nat.zero_le _, rfl, .inl rfl⟩ ?_ ?_ ?_
    · rintro lp' r n args Y F' R' w12 hL ⟨hn, rfl, hmn⟩ hF h12 k1 k2 u
      obtain ⟨j, hj, rfl, hj0, hj1, htk⟩ := tL_of hL
      rw [hto] at hj
      have hnl := (List.getElem?_eq_some_iff.1 hj).1
      refine Eq.mpr (linesmanlaw14_is.Rd0_eq lp' R' _ _ _ _ _ _ _ w12 u) ?_
      unfold linesmanlaw14_is.Rd0
      refine rbeg h12 (fun w13 h13 => ?_)
      refine ld_here h13 (.tail _ (.head _)) rfl ?_
      refine ld_here h13 (.tail _ (.tail _ (.tail _ (hF _ mt)))) rfl ?_
      have hvF : Sl ((lp', recB r) :: ([(bn, cel [vI n] T.t_int), (b6, cel [vB false] T.t_bool)] ++ F')) v (iv (takes L L.length)) := hv.mono fun x hx => .tail _ (.tail _ (.tail _ (hF _ (mS x hx))))
      refine sl_ln hvF ?_
      rw [List.length_map]
      repeat (first | refine pu_not ?_ | refine pu_eql ?_ | refine pu_neq ?_ | refine pu_lss ?_ | refine pu_leq ?_ | refine pu_gtr ?_ | refine pu_geq ?_ | refine pu_add ?_ | refine pu_sub ?_ | refine pu_mul ?_ | refine pu_neg ?_ | refine fa_at ?_ | refine nl_ptr ?_ | refine ex20 ?_ | refine ex21 ?_ | refine ex30 ?_ | refine ex31 ?_ | refine ex32 ?_ | refine ln_rule ?_ | refine lnT_rule ?_ | refine pu_and ?_ | refine pu_or ?_ | refine pu_xor ?_ | refine pu_seq ?_ | refine pu_sne ?_)
      refine cnd_f (by simp; omega) ?_
      refine ld_here h13 (.tail _ (.tail _ (.tail _ (hF _ mt)))) rfl ?_
      refine ld_here h13 (.tail _ (.head _)) rfl ?_
      refine sl_ld h13 hvF (v := vI j) (by omega) (by rw [Int.toNat_natCast, List.getElem?_map, hj]; rfl) ?_
      refine neqs ?_
      refine cnd_f rfl ?_
      repeat (first | refine pu_not ?_ | refine pu_eql ?_ | refine pu_neq ?_ | refine pu_lss ?_ | refine pu_leq ?_ | refine pu_gtr ?_ | refine pu_geq ?_ | refine pu_add ?_ | refine pu_sub ?_ | refine pu_mul ?_ | refine pu_neg ?_ | refine fa_at ?_ | refine nl_ptr ?_ | refine ex20 ?_ | refine ex21 ?_ | refine ex30 ?_ | refine ex31 ?_ | refine ex32 ?_ | refine ln_rule ?_ | refine lnT_rule ?_ | refine pu_and ?_ | refine pu_or ?_ | refine pu_xor ?_ | refine pu_seq ?_ | refine pu_sne ?_)
      refine ld_here h13 (.tail _ (.tail _ (.tail _ (hF _ (mR _ m2))))) (v := s) rfl ?_
      have hjl : j < L.length := by
        false_or_by_contra
        have : gk L j = emp := gk_out (by omega) hj0
        rw [this] at htk
        simp [tkn, emp] at htk
      obtain ⟨ps, v1, p1, p2, p3, p4, p5⟩ := rl.at hr hj0 hjl
      refine sls_fld h13 (Sls.mono p2 fun x hx => .tail _ (.tail _ (.tail _ (hF _ (mR _ (hXR x hx)))))) hj0 p4 (v := vI (gk L j).wr) rfl ?_
      refine pu_gtr ?_
      refine neqb ?_
      refine cnd_f rfl ?_
      refine ld_here h13 (.tail _ (.head _)) rfl ?_
      repeat (first | refine pu_not ?_ | refine pu_eql ?_ | refine pu_neq ?_ | refine pu_lss ?_ | refine pu_leq ?_ | refine pu_gtr ?_ | refine pu_geq ?_ | refine pu_add ?_ | refine pu_sub ?_ | refine pu_mul ?_ | refine pu_neg ?_ | refine fa_at ?_ | refine nl_ptr ?_ | refine ex20 ?_ | refine ex21 ?_ | refine ex30 ?_ | refine ex31 ?_ | refine ex32 ?_ | refine ln_rule ?_ | refine lnT_rule ?_ | refine pu_and ?_ | refine pu_or ?_ | refine pu_xor ?_ | refine pu_seq ?_ | refine pu_sne ?_)
      rw [wrap64_in (by omega) (by omega)]
      refine st1_here (A := [_]) h13 rfl rfl (by simp) (fun w14 h14 => ?_)
      simp only [List.set_cons_zero] at h14
      refine ld_here h14 (.tail _ (.head _)) rfl ?_
      refine ld_here h14 (.tail _ (.tail _ (.tail _ (hF _ (mR _ m4))))) rfl ?_
      repeat (first | refine pu_not ?_ | refine pu_eql ?_ | refine pu_neq ?_ | refine pu_lss ?_ | refine pu_leq ?_ | refine pu_gtr ?_ | refine pu_geq ?_ | refine pu_add ?_ | refine pu_sub ?_ | refine pu_mul ?_ | refine pu_neg ?_ | refine fa_at ?_ | refine nl_ptr ?_ | refine ex20 ?_ | refine ex21 ?_ | refine ex30 ?_ | refine ex31 ?_ | refine ex32 ?_ | refine ln_rule ?_ | refine lnT_rule ?_ | refine pu_and ?_ | refine pu_or ?_ | refine pu_xor ?_ | refine pu_seq ?_ | refine pu_sne ?_)
      refine cnd (fun hge => ?_) (fun hge => ?_)
      · have hge : many ≤ (n : Int) + 1 := by simpa using hge
        refine rend_stop h14 (fun w15 h15 => k2 _ [(bn, cel [vI ((n : Int) + 1)] T.t_int), (b6, cel [vB false] T.t_bool)] w15 ⟨rfl, n + 1, by omega, by simp, by omega, by simp; omega, by simp; omega⟩ h15)
      · have hge : ¬ many ≤ (n : Int) + 1 := by simpa using hge
        refine rend_go h14 (fun w15 h15 => k1 [(bn, cel [vI ((n : Int) + 1)] T.t_int), (b6, cel [vB false] T.t_bool)] w15 ⟨by omega, by simp, by simp; omega⟩ h15)
    · rintro mk Y w12 ⟨hn, rfl, hmn⟩ h12
      rw [htl] at *
      generalize hnn : (takes L L.length).length = n at *
      have h12 : Ow B w12 ((mk, .deferred (some [])) :: (bn, cel [vI n] T.t_int) :: (b6, cel [vB false] T.t_bool) :: D0) := h12
      refine ld_here h12 (.tail _ (.head _)) rfl ?_
      refine ld_here h12 (.tail _ (.tail _ (.tail _ mt))) rfl ?_
      refine sl_ln (hv.mono fun x hx => List.Mem.tail (mk, Obj.deferred (some [])) (.tail (bn, cel [vI n] T.t_int) (.tail (b6, cel [vB false] T.t_bool) (mS x hx)))) ?_
      rw [List.length_map]
      refine ld_here h12 (.tail _ (.tail _ (.tail _ (mR _ m4)))) rfl ?_
      refine mn_mx ?_ ?_
      · split <;> split <;> omega
      refine st1_here (A := [_, _]) h12 rfl rfl (by simp) (fun w13 h13 => ?_)
      simp only [List.set_cons_zero] at h13
      refine lv_ret h13 (fun w14 h14 => ?_)
      refine ld_here h14 (.tail _ (.head _)) rfl ?_
      exact kD _ _ h14
    · rintro mk j Y w12 ⟨rfl, n, hn, rfl, hn1, hn2, hn3⟩ h12
      have h12 : Ow B w12 ((mk, .deferred (some [])) :: (bn, cel [vI n] T.t_int) :: (b6, cel [vB false] T.t_bool) :: D0) := h12
      refine ld_here h12 (.tail _ (.head _)) rfl ?_
      refine ld_here h12 (.tail _ (.tail _ (.tail _ mt))) rfl ?_
      refine sl_ln (hv.mono fun x hx => List.Mem.tail (mk, Obj.deferred (some [])) (.tail (bn, cel [vI n] T.t_int) (.tail (b6, cel [vB false] T.t_bool) (mS x hx)))) ?_
      rw [List.length_map]
      refine ld_here h12 (.tail _ (.tail _ (.tail _ (mR _ m4)))) rfl ?_
      refine mn_mx ?_ ?_
      · split <;> split <;> omega
      refine st1_here (A := [_, _]) h12 rfl rfl (by simp) (fun w13 h13 => ?_)
      simp only [List.set_cons_zero] at h13
      refine lv_ret h13 (fun w14 h14 => ?_)
      refine ld_here h14 (.tail _ (.head _)) rfl ?_
      exact kD _ _ h14
end
end Go.Proofs.Ytaifohjgamhhnaa
