/- Locks: the calls that go on. -/
import Derived.Test.YtaifohjgamhhnaaVdD
set_option linter.unusedVariables false
set_option linter.unusedSimpArgs false
namespace Go.Proofs.Ytaifohjgamhhnaa
open Go Go.RowKit Vc Vd
attribute [local irreducible] binV Op.unary convert nlW faW ldS ldW ixS ixA ixV ixT exW lnS lnT pu stW alW opW opU bsW mkW

section
variable {B w : World} {H : Hp} {K : Value → World → Prop} {PK : List PanicEntry → World → Prop} {L : List Lk} {m b : Nat} {F : Hp} {b2 b4 : Nat} {i y : Int}
theorem len_pos (n : Nat) {KK : Value → Prop} (k : KK (vB (decide (0 < n)))) : pu PG (binV .gtr T.t_int true (vI n) (.int .i64 0)) KK := by
  refine pu_gtr ?_
  have : decide ((n : Int) > 0) = decide (0 < n) := by simp
  rw [this]; exact k
theorem len_zero (n : Nat) {KK : Value → Prop} (k : KK (vB (decide (n = 0)))) : pu PG (binV .eql T.t_int true (vI n) (.int .i64 0)) KK := by
  refine pu_eql ?_
  have : ((n : Int) == 0) = decide (n = 0) := by simp [ibeq]
  rw [this]; exact k
theorem write_spec (lp : LP L m b F) (hm : m < 1000000) (h : Ow B w (F ++ H)) (k : ∀ F' w', LP (rWrite L i y).1 m b F' → Ow B w' (F' ++ H) → K (vI (rWrite L i y).2) w') : callW PG N.rwlock_Locks_Write [ptr b, vI i, vI y] K PK w := by
  refine rwlock_Locks_Write.ok ?_
  unfold rwlock_Locks_Write.C
  refine al_rule h (l := [ptr b]) rfl (fun b2 w1 h1 => ?_)
  refine al_rule h1 (l := [vI i]) rfl (fun b4 w2 h2 => ?_)
  refine ld_here h2 (.tail _ (.head _)) rfl ?_
  refine ld_here h2 (.head _) rfl ?_
  refine pu_build [fnc N.rwlock_Locks_Write_1 #[ptr b2, ptr b4], vI 240] (by kernel_rfl) ?_
  refine pu_build [fnc N.rwlock_Locks_Write_2 #[ptr b2, ptr b4], vI 241] (by kernel_rfl) ?_
  refine bs_rule h2 (flat [(fnc N.rwlock_Locks_Write_1 #[ptr b2, ptr b4], 240), (fnc N.rwlock_Locks_Write_2 #[ptr b2, ptr b4], 241)]) (by kernel_rfl) (fun bt w3 h3 => ?_)
  have hF : ∀ x, x ∈ F → x ∈ (bt, cel (flat [(fnc N.rwlock_Locks_Write_1 #[ptr b2, ptr b4], 240), (fnc N.rwlock_Locks_Write_2 #[ptr b2, ptr b4], 241)]) T.t_rwlock_ask) :: (b4, cel [vI i] T.t_int) :: (b2, cel [ptr b] T.t_ptr_rwlock_Locks) :: (F ++ H) := fun x hx => .tail _ (.tail _ (.tail _ (List.mem_append_left _ hx)))
  refine asked_spec (r0 := if 0 < (gk L i).wr then 240 else if (gk L i).rd ≠ [] then 241 else 0) lp h3 hF (.head _) rfl (fun p hp => ?_) (by omega) (fun hr => ?_) (fun w4 h4 => ?_)
  · simp only [List.mem_cons, List.not_mem_nil, or_false] at hp
    rcases hp with rfl | rfl <;> rfl
  · obtain ⟨e0, e1, e2, e3⟩ := right_ok hr
    refine ⟨_, written_pf rwlock_Locks_Write_1.okf (fun h => rwlock_Locks_Write_1.ok h) lp hF (.tail _ (.tail _ (.head _))) (.tail _ (.head _)) e2 e3, ?_⟩
    by_cases hw : 0 < (gk L i).wr
    · rw [if_pos (by simpa using hw), if_pos hw]
    · rw [if_neg (by simpa using hw), if_neg hw]
      refine ⟨_, readers_pf (r := decide (0 < (gk L i).rd.length)) rwlock_Locks_Write_2.okf (fun h => rwlock_Locks_Write_2.ok h) (fun KK k => len_pos _ k) lp hF (.tail _ (.tail _ (.head _))) (.tail _ (.head _)) e2 e3, ?_⟩
      by_cases hd : (gk L i).rd = []
      · rw [hd, if_neg (by simp), if_neg (by simp)]; rfl
      · rw [if_pos (by simpa [List.length_pos_iff] using hd), if_pos hd]
  · have h4 := h4.drop
    by_cases hr : right L i y = 0
    · obtain ⟨e0, e1, e2, e3⟩ := right_ok hr
      rw [hr, if_neg (by omega)]
      by_cases hw : 0 < (gk L i).wr
      · rw [if_pos hw]
        have e : rWrite L i y = (L, 240) := by unfold rWrite; rw [if_neg (by omega), if_pos hw]
        rw [e] at k
        refine neq0 ?_
        refine cnd_t rfl ?_
        exact k F _ lp h4.drop.drop
      · rw [if_neg hw]
        by_cases hd : (gk L i).rd = []
        · have e : rWrite L i y = (L.set i.toNat ⟨(gk L i).rd, y + 1⟩, 0) := by unfold rWrite; rw [if_neg (by omega), if_neg hw, if_neg (by simpa using hd)]
          rw [if_neg (by simpa using hd)]
          have hwf := rWrite_wf lp.wf i y
          rw [e] at k hwf
          have hlen := lp.wf.len
          have hks := lp.wf.ks _ (lk_mem e2 e3)
          refine neq0 ?_
          refine cnd_f rfl ?_
          obtain ⟨pre, e, post, rfl, hl, hp, hok', hk, hset⟩ := lp.split e2 (by omega)
          have h5 := h4.drew
          rw [← hk] at k hwf hks
          refine ⟨fun w => Ow B w ((b4, cel [vI i] T.t_int) :: (b2, cel [ptr b] T.t_ptr_rwlock_Locks) :: (foot pre ++ (e.S ++ foot post) ++ H)), h5.sub (.cons_cons _ (.cons_cons _ (.cons _ (.refl _)))), ?_⟩
          refine lds_here (fun w h => h) (.tail _ (.head _)) rfl ?_
          refine lds_here (fun w h => h) (.head _) rfl ?_
          refine lds_here (fun w h => h) (.tail _ (.head _)) rfl ?_
          refine lds_here (fun w h => h) (.head _) rfl ?_
          repeat (first | refine pu_not ?_ | refine pu_eql ?_ | refine pu_neq ?_ | refine pu_lss ?_ | refine pu_leq ?_ | refine pu_gtr ?_ | refine pu_geq ?_ | refine pu_add ?_ | refine pu_sub ?_ | refine pu_mul ?_ | refine pu_neg ?_ | refine fa_at ?_ | refine nl_ptr ?_ | refine ex20 ?_ | refine ex21 ?_ | refine ex30 ?_ | refine ex31 ?_ | refine ex32 ?_ | refine ln_rule ?_ | refine lnT_rule ?_ | refine pu_and ?_ | refine pu_or ?_ | refine pu_xor ?_ | refine pu_seq ?_ | refine pu_sne ?_)
          refine ixA_at e2 (by omega) ?_
          repeat (first | refine pu_not ?_ | refine pu_eql ?_ | refine pu_neq ?_ | refine pu_lss ?_ | refine pu_leq ?_ | refine pu_gtr ?_ | refine pu_geq ?_ | refine pu_add ?_ | refine pu_sub ?_ | refine pu_mul ?_ | refine pu_neg ?_ | refine fa_at ?_ | refine nl_ptr ?_ | refine ex20 ?_ | refine ex21 ?_ | refine ex30 ?_ | refine ex31 ?_ | refine ex32 ?_ | refine ln_rule ?_ | refine lnT_rule ?_ | refine pu_and ?_ | refine pu_or ?_ | refine pu_xor ?_ | refine pu_seq ?_ | refine pu_sne ?_)
          refine st1_here (A := [_, _]) (b := b) (off := 0 + 0 + 0 + i.toNat * 3 + 1) (l := lcells (pre ++ e :: post) ++ tail L.length) (e := T.t_rwlock_Locks) h5 rfl rfl (by rw [obj_len hl]; omega) (fun w6 h6 => ?_)
          refine ⟨h6.sub (.cons_cons _ (.cons_cons _ (.cons _ (.refl _)))), ?_⟩
          refine ixA_at e2 (by omega) ?_
          repeat (first | refine pu_not ?_ | refine pu_eql ?_ | refine pu_neq ?_ | refine pu_lss ?_ | refine pu_leq ?_ | refine pu_gtr ?_ | refine pu_geq ?_ | refine pu_add ?_ | refine pu_sub ?_ | refine pu_mul ?_ | refine pu_neg ?_ | refine fa_at ?_ | refine nl_ptr ?_ | refine ex20 ?_ | refine ex21 ?_ | refine ex30 ?_ | refine ex31 ?_ | refine ex32 ?_ | refine ln_rule ?_ | refine lnT_rule ?_ | refine pu_and ?_ | refine pu_or ?_ | refine pu_xor ?_ | refine pu_seq ?_ | refine pu_sne ?_)
          refine st1_here (A := [_, _]) (b := b) (off := 0 + 0 + 0 + i.toNat * 3 + 2) (l := (lcells (pre ++ e :: post) ++ tail L.length).set (0 + 0 + 0 + i.toNat * 3 + 1) (vI y)) (e := T.t_rwlock_Locks) h6 rfl rfl (by rw [List.length_set, obj_len hl]; omega) (fun w7 h7 => ?_)
          have es : ((lcells (pre ++ e :: post) ++ tail L.length).set (0 + 0 + 0 + i.toNat * 3 + 1) (vI y)).set (0 + 0 + 0 + i.toNat * 3 + 2) (vB true) = lcells (pre ++ ⟨e.S, e.v, ⟨e.k.rd, y + 1⟩⟩ :: post) ++ tail L.length := by
            rw [← hp]
            have q1 := lcells_at (pre := pre) (post := post) (e := e) (t := tail L.length) (j := 0) (by omega)
            simp only [Nat.zero_add, Nat.add_zero]
            rw [lcells_app, lcells_cons, List.append_assoc, List.append_assoc, List.set_append_right _ _ (by rw [lcells_len]; omega), List.set_append_right _ _ (by rw [lcells_len]; omega), lcells_len, Nat.add_sub_cancel_left, Nat.add_sub_cancel_left, lcells_app, lcells_cons, List.append_assoc, List.append_assoc]
            simp only [Ent.cells, List.cons_append, List.nil_append, List.set_cons_succ, List.set_cons_zero]
            rw [if_pos (show 0 < y + 1 by omega), show decide (0 < y + 1) = true by simp; omega]
            simp
          rw [es] at h7
          refine k _ w7 (hset ⟨e.S, e.v, ⟨e.k.rd, y + 1⟩⟩ m hok' e3 hwf) ?_
          exact Ow.drop (Ow.drop h7)
        · rw [if_pos hd]
          have e : rWrite L i y = (L, 241) := by unfold rWrite; rw [if_neg (by omega), if_neg hw, if_pos hd]
          rw [e] at k
          refine neq0 ?_
          refine cnd_t rfl ?_
          exact k F _ lp h4.drop.drop
    · rw [if_pos hr]
      have e : rWrite L i y = (L, right L i y) := by unfold rWrite; rw [if_pos hr]
      rw [e] at k
      refine neq0 ?_
      refine cnd_t (by simpa using hr) ?_
      exact k F _ lp h4.drop.drop
theorem not_written_pf {f : FuncId} (hok : okFn PG f = true) (hC : ∀ {R : Ending → World → Prop} {x0 x1 : Value} {w : World}, (∃ H3 : World → Prop, H3 (World.drew w) ∧ (ldS none x0 H3 fun t4 => ldS none x1 H3 fun t5 => nlW t4 fun t6 => faW 0 t6 fun t7 => faW 0 t7 fun t8 => ixA 64 3 t8 t5 fun t9 => faW 2 t9 fun t10 => ldS none t10 H3 fun t11 => pu PG (Op.unary .not t11) fun t12 => R (.returned t12) (World.drew w))) → Calls PG f #[x0, x1] w R)
    (lp : LP L m b F) (hF : ∀ x, x ∈ F → x ∈ H) (h2 : (b2, cel [ptr b] T.t_ptr_rwlock_Locks) ∈ H) (h4 : (b4, cel [vI i] T.t_int) ∈ H) (h0 : 0 ≤ i) (h1 : i < L.length) :
    PF PG B H (fnc f #[ptr b2, ptr b4]) [] (vB (!decide (0 < (gk L i).wr))) := fun X K PK w hw k => by
  have hlen := lp.wf.len
  obtain ⟨pre, e, post, rfl, hl, hp, hok', hk, _⟩ := lp.split h0 (by omega)
  refine callV_fn hok (hC ?_)
  refine ⟨fun w => Ow B w (X ++ H), hw.drew, ?_⟩
  refine lds_here (fun w h => h) (List.mem_append_right _ h2) rfl ?_
  refine lds_here (fun w h => h) (List.mem_append_right _ h4) rfl ?_
  repeat (first | refine pu_not ?_ | refine pu_eql ?_ | refine pu_neq ?_ | refine pu_lss ?_ | refine pu_leq ?_ | refine pu_gtr ?_ | refine pu_geq ?_ | refine pu_add ?_ | refine pu_sub ?_ | refine pu_mul ?_ | refine pu_neg ?_ | refine fa_at ?_ | refine nl_ptr ?_ | refine ex20 ?_ | refine ex21 ?_ | refine ex30 ?_ | refine ex31 ?_ | refine ex32 ?_ | refine ln_rule ?_ | refine lnT_rule ?_ | refine pu_and ?_ | refine pu_or ?_ | refine pu_xor ?_ | refine pu_seq ?_ | refine pu_sne ?_)
  refine ixA_at h0 (by omega) ?_
  repeat (first | refine pu_not ?_ | refine pu_eql ?_ | refine pu_neq ?_ | refine pu_lss ?_ | refine pu_leq ?_ | refine pu_gtr ?_ | refine pu_geq ?_ | refine pu_add ?_ | refine pu_sub ?_ | refine pu_mul ?_ | refine pu_neg ?_ | refine fa_at ?_ | refine nl_ptr ?_ | refine ex20 ?_ | refine ex21 ?_ | refine ex30 ?_ | refine ex31 ?_ | refine ex32 ?_ | refine ln_rule ?_ | refine lnT_rule ?_ | refine pu_and ?_ | refine pu_or ?_ | refine pu_xor ?_ | refine pu_seq ?_ | refine pu_sne ?_)
  refine lds_here (fun w h => h) (List.mem_append_right _ (hF _ (.head _))) (v := vB (decide (0 < (gk L i).wr))) ?_ ?_
  · rw [← hp, ← hk]
    simpa using at_wt (pre := pre) (post := post) (e := e) (t := tail L.length)
  · repeat (first | refine pu_not ?_ | refine pu_eql ?_ | refine pu_neq ?_ | refine pu_lss ?_ | refine pu_leq ?_ | refine pu_gtr ?_ | refine pu_geq ?_ | refine pu_add ?_ | refine pu_sub ?_ | refine pu_mul ?_ | refine pu_neg ?_ | refine fa_at ?_ | refine nl_ptr ?_ | refine ex20 ?_ | refine ex21 ?_ | refine ex30 ?_ | refine ex31 ?_ | refine ex32 ?_ | refine ln_rule ?_ | refine lnT_rule ?_ | refine pu_and ?_ | refine pu_or ?_ | refine pu_xor ?_ | refine pu_seq ?_ | refine pu_sne ?_)
    exact k _ hw.drew
theorem unwrite_spec (lp : LP L m b F) (hm : m < 1000000) (h : Ow B w (F ++ H)) (k : ∀ F' w', LP (rUnwrite L i).1 m b F' → Ow B w' (F' ++ H) → K (.tuple #[vI (rUnwrite L i).2.1, vI (rUnwrite L i).2.2]) w') : callW PG N.rwlock_Locks_Unwrite [ptr b, vI i] K PK w := by
  refine rwlock_Locks_Unwrite.ok ?_
  unfold rwlock_Locks_Unwrite.C
  refine al_rule h (l := [ptr b]) rfl (fun b2 w1 h1 => ?_)
  refine al_rule h1 (l := [vI i]) rfl (fun b4 w2 h2 => ?_)
  refine ld_here h2 (.tail _ (.head _)) rfl ?_
  refine ld_here h2 (.head _) rfl ?_
  refine pu_build [fnc N.rwlock_Locks_Unwrite_1 #[ptr b2, ptr b4], vI 242] (by kernel_rfl) ?_
  refine bs_rule h2 (flat [(fnc N.rwlock_Locks_Unwrite_1 #[ptr b2, ptr b4], 242)]) (by kernel_rfl) (fun bt w3 h3 => ?_)
  have hF : ∀ x, x ∈ F → x ∈ (bt, cel (flat [(fnc N.rwlock_Locks_Unwrite_1 #[ptr b2, ptr b4], 242)]) T.t_rwlock_ask) :: (b4, cel [vI i] T.t_int) :: (b2, cel [ptr b] T.t_ptr_rwlock_Locks) :: (F ++ H) := fun x hx => .tail _ (.tail _ (.tail _ (List.mem_append_left _ hx)))
  refine asked_spec (r0 := if 0 < (gk L i).wr then 0 else 242) lp h3 hF (.head _) rfl (fun p hp => by rw [List.mem_singleton.1 hp]; rfl) (by omega) (fun hr => ?_) (fun w4 h4 => ?_)
  · obtain ⟨e0, e1, e2, e3⟩ := right_ok hr
    refine ⟨_, not_written_pf rwlock_Locks_Unwrite_1.okf (fun h => rwlock_Locks_Unwrite_1.ok h) lp hF (.tail _ (.tail _ (.head _))) (.tail _ (.head _)) e2 e3, ?_⟩
    by_cases hw : 0 < (gk L i).wr
    · rw [if_neg (by simpa using hw), if_pos hw]; rfl
    · rw [if_pos (by simpa using hw), if_neg hw]
  · have h4 := h4.drop
    by_cases hr : right L i 0 = 0
    · obtain ⟨e0, e1, e2, e3⟩ := right_ok hr
      rw [hr, if_neg (by omega)]
      have hks := lp.wf.ks _ (lk_mem e2 e3)
      by_cases hw : 0 < (gk L i).wr
      · rw [if_pos hw]
        have e : rUnwrite L i = (L.set i.toNat ⟨(gk L i).rd, 0⟩, (gk L i).wr - 1, 0) := by unfold rUnwrite; rw [if_neg (by omega), if_neg (by omega)]
        have hwf := rUnwrite_wf lp.wf i
        rw [e] at k hwf
        have hlen := lp.wf.len
        refine neq0 ?_
        refine cnd_f rfl ?_
        obtain ⟨pre, e, post, rfl, hl, hp, hok', hk, hset⟩ := lp.split e2 (by omega)
        have h5 := h4.drew
        rw [← hk] at k hwf hks hw
        refine ⟨fun w => Ow B w ((b4, cel [vI i] T.t_int) :: (b2, cel [ptr b] T.t_ptr_rwlock_Locks) :: ((b, obj (pre ++ e :: post) L.length) :: (foot pre ++ (e.S ++ foot post)) ++ H)), h5, ?_⟩
        refine lds_here (fun w h => h) (.tail _ (.head _)) rfl ?_
        refine lds_here (fun w h => h) (.head _) rfl ?_
        repeat (first | refine pu_not ?_ | refine pu_eql ?_ | refine pu_neq ?_ | refine pu_lss ?_ | refine pu_leq ?_ | refine pu_gtr ?_ | refine pu_geq ?_ | refine pu_add ?_ | refine pu_sub ?_ | refine pu_mul ?_ | refine pu_neg ?_ | refine fa_at ?_ | refine nl_ptr ?_ | refine ex20 ?_ | refine ex21 ?_ | refine ex30 ?_ | refine ex31 ?_ | refine ex32 ?_ | refine ln_rule ?_ | refine lnT_rule ?_ | refine pu_and ?_ | refine pu_or ?_ | refine pu_xor ?_ | refine pu_seq ?_ | refine pu_sne ?_)
        refine ixA_at e2 (by omega) ?_
        repeat (first | refine pu_not ?_ | refine pu_eql ?_ | refine pu_neq ?_ | refine pu_lss ?_ | refine pu_leq ?_ | refine pu_gtr ?_ | refine pu_geq ?_ | refine pu_add ?_ | refine pu_sub ?_ | refine pu_mul ?_ | refine pu_neg ?_ | refine fa_at ?_ | refine nl_ptr ?_ | refine ex20 ?_ | refine ex21 ?_ | refine ex30 ?_ | refine ex31 ?_ | refine ex32 ?_ | refine ln_rule ?_ | refine lnT_rule ?_ | refine pu_and ?_ | refine pu_or ?_ | refine pu_xor ?_ | refine pu_seq ?_ | refine pu_sne ?_)
        refine lds_here (fun w h => h) (.tail _ (.tail _ (.head _))) (v := vI (e.k.wr - 1)) ?_ ?_
        · rw [← hp]
          have := at_wr (pre := pre) (post := post) (e := e) (t := tail L.length)
          rw [if_pos hw] at this
          simpa using this
        have h6 := h5.drew
        refine ⟨fun w => Ow B w ((b4, cel [vI i] T.t_int) :: (b2, cel [ptr b] T.t_ptr_rwlock_Locks) :: (foot pre ++ (e.S ++ foot post) ++ H)), h6.sub (.cons_cons _ (.cons_cons _ (.cons _ (.refl _)))), ?_⟩
        refine lds_here (fun w h => h) (.tail _ (.head _)) rfl ?_
        refine lds_here (fun w h => h) (.head _) rfl ?_
        refine lds_here (fun w h => h) (.tail _ (.head _)) rfl ?_
        refine lds_here (fun w h => h) (.head _) rfl ?_
        repeat (first | refine pu_not ?_ | refine pu_eql ?_ | refine pu_neq ?_ | refine pu_lss ?_ | refine pu_leq ?_ | refine pu_gtr ?_ | refine pu_geq ?_ | refine pu_add ?_ | refine pu_sub ?_ | refine pu_mul ?_ | refine pu_neg ?_ | refine fa_at ?_ | refine nl_ptr ?_ | refine ex20 ?_ | refine ex21 ?_ | refine ex30 ?_ | refine ex31 ?_ | refine ex32 ?_ | refine ln_rule ?_ | refine lnT_rule ?_ | refine pu_and ?_ | refine pu_or ?_ | refine pu_xor ?_ | refine pu_seq ?_ | refine pu_sne ?_)
        refine ixA_at e2 (by omega) ?_
        repeat (first | refine pu_not ?_ | refine pu_eql ?_ | refine pu_neq ?_ | refine pu_lss ?_ | refine pu_leq ?_ | refine pu_gtr ?_ | refine pu_geq ?_ | refine pu_add ?_ | refine pu_sub ?_ | refine pu_mul ?_ | refine pu_neg ?_ | refine fa_at ?_ | refine nl_ptr ?_ | refine ex20 ?_ | refine ex21 ?_ | refine ex30 ?_ | refine ex31 ?_ | refine ex32 ?_ | refine ln_rule ?_ | refine lnT_rule ?_ | refine pu_and ?_ | refine pu_or ?_ | refine pu_xor ?_ | refine pu_seq ?_ | refine pu_sne ?_)
        refine st1_here (A := [_, _]) (b := b) (off := 0 + 0 + 0 + i.toNat * 3 + 1) (l := lcells (pre ++ e :: post) ++ tail L.length) (e := T.t_rwlock_Locks) h6 rfl rfl (by rw [obj_len hl]; omega) (fun w6 h6 => ?_)
        refine ⟨h6.sub (.cons_cons _ (.cons_cons _ (.cons _ (.refl _)))), ?_⟩
        refine ixA_at e2 (by omega) ?_
        repeat (first | refine pu_not ?_ | refine pu_eql ?_ | refine pu_neq ?_ | refine pu_lss ?_ | refine pu_leq ?_ | refine pu_gtr ?_ | refine pu_geq ?_ | refine pu_add ?_ | refine pu_sub ?_ | refine pu_mul ?_ | refine pu_neg ?_ | refine fa_at ?_ | refine nl_ptr ?_ | refine ex20 ?_ | refine ex21 ?_ | refine ex30 ?_ | refine ex31 ?_ | refine ex32 ?_ | refine ln_rule ?_ | refine lnT_rule ?_ | refine pu_and ?_ | refine pu_or ?_ | refine pu_xor ?_ | refine pu_seq ?_ | refine pu_sne ?_)
        refine st1_here (A := [_, _]) (b := b) (off := 0 + 0 + 0 + i.toNat * 3 + 2) (l := (lcells (pre ++ e :: post) ++ tail L.length).set (0 + 0 + 0 + i.toNat * 3 + 1) (vI 0)) (e := T.t_rwlock_Locks) h6 rfl rfl (by rw [List.length_set, obj_len hl]; omega) (fun w7 h7 => ?_)
        have es : ((lcells (pre ++ e :: post) ++ tail L.length).set (0 + 0 + 0 + i.toNat * 3 + 1) (vI 0)).set (0 + 0 + 0 + i.toNat * 3 + 2) (vB false) = lcells (pre ++ ⟨e.S, e.v, ⟨e.k.rd, 0⟩⟩ :: post) ++ tail L.length := by
          rw [← hp]
          simp only [Nat.zero_add, Nat.add_zero]
          rw [lcells_app, lcells_cons, List.append_assoc, List.append_assoc, List.set_append_right _ _ (by rw [lcells_len]; omega), List.set_append_right _ _ (by rw [lcells_len]; omega), lcells_len, Nat.add_sub_cancel_left, Nat.add_sub_cancel_left, lcells_app, lcells_cons, List.append_assoc, List.append_assoc]
          rfl
        rw [es] at h7
        refine k _ w7 (hset ⟨e.S, e.v, ⟨e.k.rd, 0⟩⟩ m hok' e3 hwf) ?_
        exact Ow.drop (Ow.drop h7)
      · rw [if_neg hw]
        have e : rUnwrite L i = (L, 0, 242) := by unfold rUnwrite; rw [if_neg (by omega), if_pos (by omega)]
        rw [e] at k
        refine neq0 ?_
        refine cnd_t rfl ?_
        exact k F _ lp h4.drop.drop
    · rw [if_pos hr]
      have e : rUnwrite L i = (L, 0, right L i 0) := by unfold rUnwrite; rw [if_pos hr]
      rw [e] at k
      refine neq0 ?_
      refine cnd_t (by simpa using hr) ?_
      exact k F _ lp h4.drop.drop
theorem writer_spec (lp : LP L m b F) (h : Ow B w (F ++ H)) (k : ∀ w', Ow B w' (F ++ H) → K (.tuple #[vI (if 0 ≤ i ∧ 0 < (gk L i).wr then (gk L i).wr - 1 else 0), vB (decide (0 ≤ i ∧ 0 < (gk L i).wr))]) w') : callW PG N.rwlock_Locks_Writer [ptr b, vI i] K PK w := by
  refine rwlock_Locks_Writer.ok ?_
  unfold rwlock_Locks_Writer.C
  refine none_spec lp h (fun x hx => List.mem_append_left _ hx) (fun w1 h1 => ?_)
  refine cnd_f rfl ?_
  repeat (first | refine pu_not ?_ | refine pu_eql ?_ | refine pu_neq ?_ | refine pu_lss ?_ | refine pu_leq ?_ | refine pu_gtr ?_ | refine pu_geq ?_ | refine pu_add ?_ | refine pu_sub ?_ | refine pu_mul ?_ | refine pu_neg ?_ | refine fa_at ?_ | refine nl_ptr ?_ | refine ex20 ?_ | refine ex21 ?_ | refine ex30 ?_ | refine ex31 ?_ | refine ex32 ?_ | refine ln_rule ?_ | refine lnT_rule ?_ | refine pu_and ?_ | refine pu_or ?_ | refine pu_xor ?_ | refine pu_seq ?_ | refine pu_sne ?_)
  refine there_spec lp h1 (fun x hx => List.mem_append_left _ hx) (fun w2 h2 => ?_)
  repeat (first | refine pu_not ?_ | refine pu_eql ?_ | refine pu_neq ?_ | refine pu_lss ?_ | refine pu_leq ?_ | refine pu_gtr ?_ | refine pu_geq ?_ | refine pu_add ?_ | refine pu_sub ?_ | refine pu_mul ?_ | refine pu_neg ?_ | refine fa_at ?_ | refine nl_ptr ?_ | refine ex20 ?_ | refine ex21 ?_ | refine ex30 ?_ | refine ex31 ?_ | refine ex32 ?_ | refine ln_rule ?_ | refine lnT_rule ?_ | refine pu_and ?_ | refine pu_or ?_ | refine pu_xor ?_ | refine pu_seq ?_ | refine pu_sne ?_)
  refine cnd (fun hr => ?_) (fun hr => ?_)
  · have hr : ¬ (0 ≤ i ∧ i < (L.length : Int)) := by
      intro hn
      rw [decide_eq_true hn] at hr
      cases hr
    have e : ¬ (0 ≤ i ∧ 0 < (gk L i).wr) := by
      rintro ⟨e0, e1⟩
      have : gk L i = emp := by unfold gk; rw [List.getD_eq_getElem?_getD, List.getElem?_eq_none (by omega)]; rfl
      rw [this] at e1
      simp [emp] at e1
    rw [if_neg e, decide_eq_false e] at k
    exact k _ h2
  · have hr : 0 ≤ i ∧ i < (L.length : Int) := by simpa using hr
    have hlen := lp.wf.len
    obtain ⟨pre, e, post, rfl, hl, hp, hok', hk, hset⟩ := lp.split hr.1 (by omega)
    refine ⟨fun w => Ow B w ((b, obj (pre ++ e :: post) L.length) :: (foot pre ++ (e.S ++ foot post)) ++ H), h2.drew, ?_⟩
    repeat (first | refine pu_not ?_ | refine pu_eql ?_ | refine pu_neq ?_ | refine pu_lss ?_ | refine pu_leq ?_ | refine pu_gtr ?_ | refine pu_geq ?_ | refine pu_add ?_ | refine pu_sub ?_ | refine pu_mul ?_ | refine pu_neg ?_ | refine fa_at ?_ | refine nl_ptr ?_ | refine ex20 ?_ | refine ex21 ?_ | refine ex30 ?_ | refine ex31 ?_ | refine ex32 ?_ | refine ln_rule ?_ | refine lnT_rule ?_ | refine pu_and ?_ | refine pu_or ?_ | refine pu_xor ?_ | refine pu_seq ?_ | refine pu_sne ?_)
    refine ixA_at hr.1 (by omega) ?_
    repeat (first | refine pu_not ?_ | refine pu_eql ?_ | refine pu_neq ?_ | refine pu_lss ?_ | refine pu_leq ?_ | refine pu_gtr ?_ | refine pu_geq ?_ | refine pu_add ?_ | refine pu_sub ?_ | refine pu_mul ?_ | refine pu_neg ?_ | refine fa_at ?_ | refine nl_ptr ?_ | refine ex20 ?_ | refine ex21 ?_ | refine ex30 ?_ | refine ex31 ?_ | refine ex32 ?_ | refine ln_rule ?_ | refine lnT_rule ?_ | refine pu_and ?_ | refine pu_or ?_ | refine pu_xor ?_ | refine pu_seq ?_ | refine pu_sne ?_)
    refine lds_here (fun w h => h) (.head _) (v := vI (if 0 < e.k.wr then e.k.wr - 1 else 0)) ?_ ?_
    · rw [← hp]
      simpa using at_wr (pre := pre) (post := post) (e := e) (t := tail L.length)
    repeat (first | refine pu_not ?_ | refine pu_eql ?_ | refine pu_neq ?_ | refine pu_lss ?_ | refine pu_leq ?_ | refine pu_gtr ?_ | refine pu_geq ?_ | refine pu_add ?_ | refine pu_sub ?_ | refine pu_mul ?_ | refine pu_neg ?_ | refine fa_at ?_ | refine nl_ptr ?_ | refine ex20 ?_ | refine ex21 ?_ | refine ex30 ?_ | refine ex31 ?_ | refine ex32 ?_ | refine ln_rule ?_ | refine lnT_rule ?_ | refine pu_and ?_ | refine pu_or ?_ | refine pu_xor ?_ | refine pu_seq ?_ | refine pu_sne ?_)
    refine ixA_at hr.1 (by omega) ?_
    repeat (first | refine pu_not ?_ | refine pu_eql ?_ | refine pu_neq ?_ | refine pu_lss ?_ | refine pu_leq ?_ | refine pu_gtr ?_ | refine pu_geq ?_ | refine pu_add ?_ | refine pu_sub ?_ | refine pu_mul ?_ | refine pu_neg ?_ | refine fa_at ?_ | refine nl_ptr ?_ | refine ex20 ?_ | refine ex21 ?_ | refine ex30 ?_ | refine ex31 ?_ | refine ex32 ?_ | refine ln_rule ?_ | refine lnT_rule ?_ | refine pu_and ?_ | refine pu_or ?_ | refine pu_xor ?_ | refine pu_seq ?_ | refine pu_sne ?_)
    refine lds_here (fun w h => h) (.head _) (v := vB (decide (0 < e.k.wr))) ?_ ?_
    · rw [← hp]
      simpa using at_wt (pre := pre) (post := post) (e := e) (t := tail L.length)
    have e1 : (0 ≤ i ∧ 0 < (gk L i).wr) = (0 < e.k.wr) := by rw [hk]; simp [hr.1]
    simp only [e1] at k
    rw [← hk] at k
    exact k _ h2.drew
theorem readers_spec (lp : LP L m b F) (hm : m < 1000000) (h : Ow B w (F ++ H)) (k : ∀ S v w', Ow B w' (S ++ (F ++ H)) → Vc.Own S T.t_int 1 v (iv (if 0 ≤ i then (gk L i).rd else [])).length (iv (if 0 ≤ i then (gk L i).rd else [])) → K v w') : callW PG N.rwlock_Locks_Readers [ptr b, vI i] K PK w := by
  refine rwlock_Locks_Readers.ok ?_
  unfold rwlock_Locks_Readers.C
  refine none_spec lp h (fun x hx => List.mem_append_left _ hx) (fun w1 h1 => ?_)
  refine cnd_f rfl ?_
  repeat (first | refine pu_not ?_ | refine pu_eql ?_ | refine pu_neq ?_ | refine pu_lss ?_ | refine pu_leq ?_ | refine pu_gtr ?_ | refine pu_geq ?_ | refine pu_add ?_ | refine pu_sub ?_ | refine pu_mul ?_ | refine pu_neg ?_ | refine fa_at ?_ | refine nl_ptr ?_ | refine ex20 ?_ | refine ex21 ?_ | refine ex30 ?_ | refine ex31 ?_ | refine ex32 ?_ | refine ln_rule ?_ | refine lnT_rule ?_ | refine pu_and ?_ | refine pu_or ?_ | refine pu_xor ?_ | refine pu_seq ?_ | refine pu_sne ?_)
  refine there_spec lp h1 (fun x hx => List.mem_append_left _ hx) (fun w2 h2 => ?_)
  repeat (first | refine pu_not ?_ | refine pu_eql ?_ | refine pu_neq ?_ | refine pu_lss ?_ | refine pu_leq ?_ | refine pu_gtr ?_ | refine pu_geq ?_ | refine pu_add ?_ | refine pu_sub ?_ | refine pu_mul ?_ | refine pu_neg ?_ | refine fa_at ?_ | refine nl_ptr ?_ | refine ex20 ?_ | refine ex21 ?_ | refine ex30 ?_ | refine ex31 ?_ | refine ex32 ?_ | refine ln_rule ?_ | refine lnT_rule ?_ | refine pu_and ?_ | refine pu_or ?_ | refine pu_xor ?_ | refine pu_seq ?_ | refine pu_sne ?_)
  refine cnd (fun hr => ?_) (fun hr => ?_)
  · have hr : ¬ (0 ≤ i ∧ i < (L.length : Int)) := by
      intro hn
      rw [decide_eq_true hn] at hr
      cases hr
    have e : (if 0 ≤ i then (gk L i).rd else []) = [] := by
      split
      · have : gk L i = emp := by unfold gk; rw [List.getD_eq_getElem?_getD, List.getElem?_eq_none (by omega)]; rfl
        rw [this]; rfl
      · rfl
    rw [e] at k
    exact k [] _ _ h2 (own_none _ _)
  · have hr : 0 ≤ i ∧ i < (L.length : Int) := by simpa using hr
    have hlen := lp.wf.len
    have hks := lp.wf.ks _ (lk_mem hr.1 hr.2)
    obtain ⟨pre, e, post, rfl, hl, hp, hok', hk, hset⟩ := lp.split hr.1 (by omega)
    repeat (first | refine pu_not ?_ | refine pu_eql ?_ | refine pu_neq ?_ | refine pu_lss ?_ | refine pu_leq ?_ | refine pu_gtr ?_ | refine pu_geq ?_ | refine pu_add ?_ | refine pu_sub ?_ | refine pu_mul ?_ | refine pu_neg ?_ | refine fa_at ?_ | refine nl_ptr ?_ | refine ex20 ?_ | refine ex21 ?_ | refine ex30 ?_ | refine ex31 ?_ | refine ex32 ?_ | refine ln_rule ?_ | refine lnT_rule ?_ | refine pu_and ?_ | refine pu_or ?_ | refine pu_xor ?_ | refine pu_seq ?_ | refine pu_sne ?_)
    refine ixA_at hr.1 (by omega) ?_
    repeat (first | refine pu_not ?_ | refine pu_eql ?_ | refine pu_neq ?_ | refine pu_lss ?_ | refine pu_leq ?_ | refine pu_gtr ?_ | refine pu_geq ?_ | refine pu_add ?_ | refine pu_sub ?_ | refine pu_mul ?_ | refine pu_neg ?_ | refine fa_at ?_ | refine nl_ptr ?_ | refine ex20 ?_ | refine ex21 ?_ | refine ex30 ?_ | refine ex31 ?_ | refine ex32 ?_ | refine ln_rule ?_ | refine lnT_rule ?_ | refine pu_and ?_ | refine pu_or ?_ | refine pu_xor ?_ | refine pu_seq ?_ | refine pu_sne ?_)
    refine ld_here h2 (.head _) (v := e.v) ?_ ?_
    · rw [← hp]
      simpa using at_rd (pre := pre) (post := post) (e := e) (t := tail L.length)
    rw [if_pos hr.1, ← hk] at k
    rw [← hk] at hks
    refine clone_spec h2 (RdS.sl hok') (iv_plain _) (fun x hx => .tail _ (List.mem_append_left _ (List.mem_append_right _ (List.mem_append_left _ hx)))) (by rw [List.length_map]; omega) (fun S v w3 h3 ho => ?_)
    exact k S v _ h3 ho
theorem len_spec (lp : LP L m b F) (h : Ow B w (F ++ H)) (k : ∀ w', Ow B w' (F ++ H) → K (vI L.length) w') : callW PG N.rwlock_Locks_Len [ptr b] K PK w := by
  refine rwlock_Locks_Len.ok ?_
  unfold rwlock_Locks_Len.C
  refine none_spec lp h (fun x hx => List.mem_append_left _ hx) (fun w1 h1 => ?_)
  refine cnd_f rfl ?_
  obtain ⟨es, hl, hm⟩ := lp.head
  repeat (first | refine pu_not ?_ | refine pu_eql ?_ | refine pu_neq ?_ | refine pu_lss ?_ | refine pu_leq ?_ | refine pu_gtr ?_ | refine pu_geq ?_ | refine pu_add ?_ | refine pu_sub ?_ | refine pu_mul ?_ | refine pu_neg ?_ | refine fa_at ?_ | refine nl_ptr ?_ | refine ex20 ?_ | refine ex21 ?_ | refine ex30 ?_ | refine ex31 ?_ | refine ex32 ?_ | refine ln_rule ?_ | refine lnT_rule ?_ | refine pu_and ?_ | refine pu_or ?_ | refine pu_xor ?_ | refine pu_seq ?_ | refine pu_sne ?_)
  refine ld_here h1 (List.mem_append_left _ hm) (by simpa using at_many hl) ?_
  exact k _ h1
end
end Go.Proofs.Ytaifohjgamhhnaa
