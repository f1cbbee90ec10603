/- Locks: the calls. -/
import Derived.Test.YtaifohjgamhhnaaVdC
set_option linter.unusedVariables false
set_option linter.unusedSimpArgs false
namespace Go.Proofs.Ytaifohjgamhhnaa
open Go Go.RowKit Vc Vd
attribute [local irreducible] binV Op.unary convert nlW faW ldS ldW ixS ixA ixV ixT exW lnS lnT pu stW alW opW opU bsW mkW

section
variable {B w : World} {H : Hp} {K : Value → World → Prop} {PK : List PanicEntry → World → Prop} {L : List Lk} {m b : Nat} {F : Hp} {b2 b4 : Nat} {i y : Int}
theorem readers_pf {f : FuncId} {op : BinOp} {r : Bool} (hok : okFn PG f = true) (hC : ∀ {R : Ending → World → Prop} {x0 x1 : Value} {w : World}, (∃ H3 : World → Prop, H3 (World.drew w) ∧ (ldS none x0 H3 fun t4 => ldS none x1 H3 fun t5 => nlW t4 fun t6 => faW 0 t6 fun t7 => faW 0 t7 fun t8 => ixA 64 3 t8 t5 fun t9 => faW 0 t9 fun t10 => ldS none t10 H3 fun t11 => lnS t11 fun t12 => pu PG (binV op T.t_int true t12 (.int .i64 0)) fun t13 => R (.returned t13) (World.drew w))) → Calls PG f #[x0, x1] w R)
    (hr : ∀ KK : Value → Prop, KK (vB r) → pu PG (binV op T.t_int true (vI ((gk L i).rd.length)) (.int .i64 0)) KK)
    (lp : LP L m b F) (hF : ∀ x, x ∈ F → x ∈ H) (h2 : (b2, cel [ptr b] T.t_ptr_rwlock_Locks) ∈ H) (h4 : (b4, cel [vI i] T.t_int) ∈ H) (h0 : 0 ≤ i) (h1 : i < L.length) :
    PF PG B H (fnc f #[ptr b2, ptr b4]) [] (vB r) := fun X K PK w hw k => by
  have hlen := lp.wf.len
  obtain ⟨pre, e, post, rfl, hl, hp, hok', hk, _⟩ := lp.split h0 (by omega)
  refine callV_fn hok (hC ?_)
  refine ⟨fun w => Ow B w (X ++ H), hw.drew, ?_⟩
  refine lds_here (fun w h => h) (List.mem_append_right _ h2) rfl ?_
  refine lds_here (fun w h => h) (List.mem_append_right _ h4) rfl ?_
  repeat (first | refine pu_not ?_ | refine pu_eql ?_ | refine pu_neq ?_ | refine pu_lss ?_ | refine pu_leq ?_ | refine pu_gtr ?_ | refine pu_geq ?_ | refine pu_add ?_ | refine pu_sub ?_ | refine pu_mul ?_ | refine pu_neg ?_ | refine fa_at ?_ | refine nl_ptr ?_ | refine ex20 ?_ | refine ex21 ?_ | refine ex30 ?_ | refine ex31 ?_ | refine ex32 ?_ | refine ln_rule ?_ | refine lnT_rule ?_ | refine pu_and ?_ | refine pu_or ?_ | refine pu_xor ?_ | refine pu_seq ?_ | refine pu_sne ?_)
  refine ixA_at h0 (by omega) ?_
  repeat (first | refine pu_not ?_ | refine pu_eql ?_ | refine pu_neq ?_ | refine pu_lss ?_ | refine pu_leq ?_ | refine pu_gtr ?_ | refine pu_geq ?_ | refine pu_add ?_ | refine pu_sub ?_ | refine pu_mul ?_ | refine pu_neg ?_ | refine fa_at ?_ | refine nl_ptr ?_ | refine ex20 ?_ | refine ex21 ?_ | refine ex30 ?_ | refine ex31 ?_ | refine ex32 ?_ | refine ln_rule ?_ | refine lnT_rule ?_ | refine pu_and ?_ | refine pu_or ?_ | refine pu_xor ?_ | refine pu_seq ?_ | refine pu_sne ?_)
  refine lds_here (fun w h => h) (List.mem_append_right _ (hF _ (.head _))) (v := e.v) ?_ ?_
  · rw [← hp]
    simpa using at_rd (pre := pre) (post := post) (e := e) (t := tail L.length)
  · refine sl_ln (RdS.sl hok') ?_
    rw [List.length_map, hk]
    refine hr _ ?_
    exact k _ hw.drew
theorem new_spec {many : Int} (h : Ow B w H) (kbad : ¬ (0 ≤ many ∧ many ≤ 64) → ∀ w', Ow B w' H → K (.tuple #[.pointer none, vI 2]) w')
    (k : 0 ≤ many → many ≤ 64 → ∀ b F w', LP (List.replicate many.toNat emp) 0 b F → Ow B w' (F ++ H) → K (.tuple #[ptr b, vI 0]) w') : callW PG N.rwlock_New [vI many] K PK w := by
  refine rwlock_New.ok ?_
  unfold rwlock_New.C
  repeat (first | refine pu_not ?_ | refine pu_eql ?_ | refine pu_neq ?_ | refine pu_lss ?_ | refine pu_leq ?_ | refine pu_gtr ?_ | refine pu_geq ?_ | refine pu_add ?_ | refine pu_sub ?_ | refine pu_mul ?_ | refine pu_neg ?_ | refine fa_at ?_ | refine nl_ptr ?_ | refine ex20 ?_ | refine ex21 ?_ | refine ex30 ?_ | refine ex31 ?_ | refine ex32 ?_ | refine ln_rule ?_ | refine lnT_rule ?_ | refine pu_and ?_ | refine pu_or ?_ | refine pu_xor ?_ | refine pu_seq ?_ | refine pu_sne ?_)
  refine cnd (fun hlt => kbad (by simp at hlt; omega) w h) (fun hge => ?_)
  repeat (first | refine pu_not ?_ | refine pu_eql ?_ | refine pu_neq ?_ | refine pu_lss ?_ | refine pu_leq ?_ | refine pu_gtr ?_ | refine pu_geq ?_ | refine pu_add ?_ | refine pu_sub ?_ | refine pu_mul ?_ | refine pu_neg ?_ | refine fa_at ?_ | refine nl_ptr ?_ | refine ex20 ?_ | refine ex21 ?_ | refine ex30 ?_ | refine ex31 ?_ | refine ex32 ?_ | refine ln_rule ?_ | refine lnT_rule ?_ | refine pu_and ?_ | refine pu_or ?_ | refine pu_xor ?_ | refine pu_seq ?_ | refine pu_sne ?_)
  refine cnd (fun hgt => kbad (by simp at hgt; omega) w h) (fun hle => ?_)
  have h0 : 0 ≤ many := by simp at hge; omega
  have h1 : many ≤ 64 := by simp at hle; omega
  refine pu_of (v := .agg (((lcells (List.replicate 64 ⟨[], .slice none 0 0, emp⟩)) ++ [vI many]).toArray)) (fun w => by kernel_rfl) ?_
  refine pu_of (v := .agg ((lcells (List.replicate 64 ⟨[], .slice none 0 0, emp⟩)) ++ tail many).toArray) (fun w => by kernel_rfl) ?_
  refine al_rule h (l := (lcells (List.replicate 64 ⟨[], .slice none 0 0, emp⟩)) ++ tail many) rfl (fun b w1 h1' => ?_)
  refine k h0 h1 b [(b, obj (List.replicate 64 ⟨[], .slice none 0 0, emp⟩) many)] w1 ⟨List.replicate 64 ⟨[], .slice none 0 0, emp⟩, ?_, ?_, ⟨?_, ?_⟩, ?_⟩ h1'
  · unfold full
    rw [List.length_replicate, List.replicate_append_replicate, List.map_replicate]
    congr 1
    omega
  · intro e he
    obtain ⟨_, rfl⟩ := List.mem_replicate.1 he
    exact .inl (own_none _ _)
  · simp; omega
  · intro k hk
    obtain ⟨_, rfl⟩ := List.mem_replicate.1 hk
    simp [emp]
  · rw [List.length_replicate, Int.toNat_of_nonneg h0]
    congr 1
theorem neq0 {a : Int} {KK : Value → Prop} (k : KK (vB (decide (a ≠ 0)))) : pu PG (binV .neq T.t_api_Errno true (vI a) (.int .i64 0)) KK := by
  refine pu_neq ?_
  have : (a != 0) = decide (a ≠ 0) := by simp [bne, ibeq]
  rw [this]; exact k
theorem read_spec (lp : LP L m b F) (hm : m < 1000000) (h : Ow B w (F ++ H)) (k : ∀ F' w', LP (rRead L i y).1 (m + 1) b F' → Ow B w' (F' ++ H) → K (vI (rRead L i y).2) w') : callW PG N.rwlock_Locks_Read [ptr b, vI i, vI y] K PK w := by
  refine rwlock_Locks_Read.ok ?_
  unfold rwlock_Locks_Read.C
  refine al_rule h (l := [ptr b]) rfl (fun b2 w1 h1 => ?_)
  refine al_rule h1 (l := [vI i]) rfl (fun b4 w2 h2 => ?_)
  refine ld_here h2 (.tail _ (.head _)) rfl ?_
  refine ld_here h2 (.head _) rfl ?_
  refine pu_build [fnc N.rwlock_Locks_Read_1 #[ptr b2, ptr b4], vI 240] (by kernel_rfl) ?_
  refine bs_rule h2 (flat [(fnc N.rwlock_Locks_Read_1 #[ptr b2, ptr b4], 240)]) (by kernel_rfl) (fun bt w3 h3 => ?_)
  refine asked_spec (r0 := if 0 < (gk L i).wr then 240 else 0) lp h3 (fun x hx => .tail _ (.tail _ (.tail _ (List.mem_append_left _ hx)))) (.head _) rfl (fun p hp => by rw [List.mem_singleton.1 hp]; rfl) (by omega) (fun hr => ?_) (fun w4 h4 => ?_)
  · obtain ⟨e0, e1, e2, e3⟩ := right_ok hr
    refine ⟨_, written_pf rwlock_Locks_Read_1.okf (fun h => rwlock_Locks_Read_1.ok h) lp (fun x hx => .tail _ (.tail _ (.tail _ (List.mem_append_left _ hx)))) (.tail _ (.tail _ (.head _))) (.tail _ (.head _)) e2 e3, ?_⟩
    by_cases hw : 0 < (gk L i).wr
    · rw [if_pos (by simpa using hw), if_pos hw]
    · rw [if_neg (by simpa using hw), if_neg hw]; rfl
  · have h4 := h4.drop
    by_cases hr : right L i y = 0
    · obtain ⟨e0, e1, e2, e3⟩ := right_ok hr
      rw [hr, if_neg (by omega)]
      by_cases hw : 0 < (gk L i).wr
      · rw [if_pos hw]
        have e : rRead L i y = (L, 240) := by unfold rRead; rw [if_neg (by omega), if_pos hw]
        rw [e] at k
        refine neq0 ?_
        refine cnd_t rfl ?_
        exact k F _ (lp.mono (by omega)) h4.drop.drop
      · rw [if_neg hw]
        have e : rRead L i y = (L.set i.toNat ⟨(gk L i).rd ++ [y], (gk L i).wr⟩, 0) := by unfold rRead; rw [if_neg (by omega), if_neg hw]
        have hwf := rRead_wf lp.wf i y
        rw [e] at k hwf
        have hlen := lp.wf.len
        have hks := lp.wf.ks _ (lk_mem e2 e3)
        refine neq0 ?_
        refine cnd_f rfl ?_
        obtain ⟨pre, e, post, rfl, hl, hp, hok', hk, hset⟩ := lp.split e2 (by omega)
        have h5 := h4.drew
        rw [← hk] at k hwf hks
        have hA : ∀ S : Hp, ((b4, cel [vI i] T.t_int) :: (b2, cel [ptr b] T.t_ptr_rwlock_Locks) :: ((b, obj (pre ++ e :: post) L.length) :: (foot pre ++ (S ++ foot post)) ++ H) : Hp) = ((b4, cel [vI i] T.t_int) :: (b2, cel [ptr b] T.t_ptr_rwlock_Locks) :: (b, obj (pre ++ e :: post) L.length) :: foot pre) ++ S ++ (foot post ++ H) := by intro S; simp
        rw [hA] at h5
        refine ⟨fun w => Ow B w (((b4, cel [vI i] T.t_int) :: (b2, cel [ptr b] T.t_ptr_rwlock_Locks) :: (b, obj (pre ++ e :: post) L.length) :: foot pre) ++ (foot post ++ H)), h5.sub (by rw [List.append_assoc]; exact (List.Sublist.refl _).append (List.sublist_append_right _ _)), ?_⟩
        refine lds_here (fun w h => h) (.tail _ (.head _)) rfl ?_
        refine lds_here (fun w h => h) (.head _) rfl ?_
        refine lds_here (fun w h => h) (.tail _ (.head _)) rfl ?_
        refine lds_here (fun w h => h) (.head _) rfl ?_
        repeat (first | refine pu_not ?_ | refine pu_eql ?_ | refine pu_neq ?_ | refine pu_lss ?_ | refine pu_leq ?_ | refine pu_gtr ?_ | refine pu_geq ?_ | refine pu_add ?_ | refine pu_sub ?_ | refine pu_mul ?_ | refine pu_neg ?_ | refine fa_at ?_ | refine nl_ptr ?_ | refine ex20 ?_ | refine ex21 ?_ | refine ex30 ?_ | refine ex31 ?_ | refine ex32 ?_ | refine ln_rule ?_ | refine lnT_rule ?_ | refine pu_and ?_ | refine pu_or ?_ | refine pu_xor ?_ | refine pu_seq ?_ | refine pu_sne ?_)
        refine ixA_at e2 (by omega) ?_
        repeat (first | refine pu_not ?_ | refine pu_eql ?_ | refine pu_neq ?_ | refine pu_lss ?_ | refine pu_leq ?_ | refine pu_gtr ?_ | refine pu_geq ?_ | refine pu_add ?_ | refine pu_sub ?_ | refine pu_mul ?_ | refine pu_neg ?_ | refine fa_at ?_ | refine nl_ptr ?_ | refine ex20 ?_ | refine ex21 ?_ | refine ex30 ?_ | refine ex31 ?_ | refine ex32 ?_ | refine ln_rule ?_ | refine lnT_rule ?_ | refine pu_and ?_ | refine pu_or ?_ | refine pu_xor ?_ | refine pu_seq ?_ | refine pu_sne ?_)
        refine lds_here (fun w h => h) (.tail _ (.tail _ (.head _))) (v := e.v) ?_ ?_
        · rw [← hp]
          simpa using at_rd (pre := pre) (post := post) (e := e) (t := tail L.length)
        repeat (first | refine pu_not ?_ | refine pu_eql ?_ | refine pu_neq ?_ | refine pu_lss ?_ | refine pu_leq ?_ | refine pu_gtr ?_ | refine pu_geq ?_ | refine pu_add ?_ | refine pu_sub ?_ | refine pu_mul ?_ | refine pu_neg ?_ | refine fa_at ?_ | refine nl_ptr ?_ | refine ex20 ?_ | refine ex21 ?_ | refine ex30 ?_ | refine ex31 ?_ | refine ex32 ?_ | refine ln_rule ?_ | refine lnT_rule ?_ | refine pu_and ?_ | refine pu_or ?_ | refine pu_xor ?_ | refine pu_seq ?_ | refine pu_sne ?_)
        refine bs_rule h5 [vI y] (by kernel_rfl) (fun bn w6 h6 => ?_)
        refine ⟨h6.drop.sub (by rw [List.append_assoc]; exact (List.Sublist.refl _).append (List.sublist_append_right _ _)), ?_⟩
        refine RdS.app (A := (bn, cel [vI y] T.t_int) :: ((b4, cel [vI i] T.t_int) :: (b2, cel [ptr b] T.t_ptr_rwlock_Locks) :: (b, obj (pre ++ e :: post) L.length) :: foot pre)) (z := vI 0) (bytes := 8) h6 hok' (sl_here (b := bn) (l := [vI y]) (e := T.t_int) (.head _)) (fun y hy => hy) (by simp) rfl und_sli info_int rfl (by simp [maxLen]; omega) (by simp; omega) (fun S' v' w7 h7 ho => ?_)
        have h7 := Ow.drop (p := (bn, cel [vI y] T.t_int)) (by simpa only [List.cons_append, List.append_assoc] using h7)
        refine ⟨h7.sub (by simp only [List.cons_append]; exact .cons_cons _ (.cons_cons _ (.cons_cons _ ((List.Sublist.refl _).append (List.sublist_append_right _ _))))), ?_⟩
        refine ixA_at e2 (by omega) ?_
        repeat (first | refine pu_not ?_ | refine pu_eql ?_ | refine pu_neq ?_ | refine pu_lss ?_ | refine pu_leq ?_ | refine pu_gtr ?_ | refine pu_geq ?_ | refine pu_add ?_ | refine pu_sub ?_ | refine pu_mul ?_ | refine pu_neg ?_ | refine fa_at ?_ | refine nl_ptr ?_ | refine ex20 ?_ | refine ex21 ?_ | refine ex30 ?_ | refine ex31 ?_ | refine ex32 ?_ | refine ln_rule ?_ | refine lnT_rule ?_ | refine pu_and ?_ | refine pu_or ?_ | refine pu_xor ?_ | refine pu_seq ?_ | refine pu_sne ?_)
        refine st1_here (A := [_, _]) (b := b) (off := 0 + 0 + 0 + i.toNat * 3 + 0) (l := lcells (pre ++ e :: post) ++ tail L.length) (e := T.t_rwlock_Locks) h7 (sl_cells ho.sl) (sl_plain ho.sl) (by rw [obj_len hl]; omega) (fun w8 h8 => ?_)
        have es : (lcells (pre ++ e :: post) ++ tail L.length).set (0 + 0 + 0 + i.toNat * 3 + 0) v' = lcells (pre ++ ⟨S', v', ⟨e.k.rd ++ [y], e.k.wr⟩⟩ :: post) ++ tail L.length := by
          rw [← hp]
          simpa using lcells_set (pre := pre) (post := post) (e := e) (e' := ⟨S', v', ⟨e.k.rd ++ [y], e.k.wr⟩⟩) (t := tail L.length) (j := 0) (x := v') (by omega) rfl
        rw [es] at h8
        refine k _ w8 (hset ⟨S', v', ⟨e.k.rd ++ [y], e.k.wr⟩⟩ (m + 1) (.inl ?_) e3 hwf) ?_
        · show Vc.Own S' T.t_int 1 v' (iv (e.k.rd ++ [y])).length (iv (e.k.rd ++ [y]))
          simpa using ho
        · have h9 := Ow.drop (Ow.drop h8)
          simp only [List.cons_append, List.append_assoc] at h9 ⊢
          exact h9
    · rw [if_pos hr]
      have e : rRead L i y = (L, right L i y) := by unfold rRead; rw [if_pos hr]
      rw [e] at k
      refine neq0 ?_
      refine cnd_t (by simpa using hr) ?_
      exact k F _ (lp.mono (by omega)) h4.drop.drop
end
end Go.Proofs.Ytaifohjgamhhnaa
