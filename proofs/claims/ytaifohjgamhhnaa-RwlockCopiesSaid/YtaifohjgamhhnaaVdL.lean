/- Locks: Taken, which are gone over. -/
import Derived.Test.YtaifohjgamhhnaaVdK
set_option linter.unusedVariables false
set_option linter.unusedSimpArgs false
namespace Go.Proofs.Ytaifohjgamhhnaa
open Go Go.RowKit Vc Vd
attribute [local irreducible] binV Op.unary convert nlW faW ldS ldW ixS ixA ixV ixT exW lnS lnT pu stW alW opW opU bsW mkW

section
variable {B w : World} {H X F : Hp} {K : Value → World → Prop} {PK : List PanicEntry → World → Prop} {KK : Value → Prop} {L : List Lk} {m b : Nat} {i y : Int} {s : Value}
theorem und_64 : PG.underlying T.t_64_rwlock_lock = some (.array 64 T.t_rwlock_lock) := by kernel_rfl
theorem info_lock : ∃ i, PG.info? T.t_rwlock_lock = some i := ⟨(PG.info? T.t_rwlock_lock).get!, by kernel_rfl⟩
theorem sl64 {bo o : Nat} (k : KK (.slice (some ⟨bo, o, none⟩) 64 64)) : pu PG (Instr.sliceAt T.t_64_rwlock_lock (ptr bo o) none none none) KK := by
  obtain ⟨i, hi⟩ := info_lock
  exact pu_slarr und_64 hi k
theorem cells_at {don : List Ent} {e : Ent} {t : List Value} {n : Nat} (he : don[n]? = some e) : ((lcells don ++ t).drop (n * 3)).take 3 = e.cells := by
  have hlt := (List.getElem?_eq_some_iff.1 he).1
  have hd : don = don.take n ++ e :: don.drop (n + 1) := by
    have : don[n] = e := by rw [List.getElem?_eq_getElem hlt] at he; exact Option.some.inj he
    rw [← this, List.getElem_cons_drop, List.take_append_drop]
  have hl : (don.take n).length = n := by simp; omega
  generalize don.take n = pre at *
  generalize don.drop (n + 1) = post at *
  subst hd
  rw [lcells_app, lcells_cons, List.append_assoc, List.drop_append, List.drop_eq_nil_of_le (by rw [lcells_len]; omega), lcells_len, hl, Nat.sub_self, List.drop_zero, List.nil_append, List.append_assoc]
  exact List.take_left' rfl
def aL (don : List Ent) : List (List Value) := don.mapIdx fun i e => [vI i, .agg e.cells.toArray]
theorem aL_at {don : List Ent} {e : Ent} {n : Nat} (he : don[n]? = some e) : (aL don)[n]? = some [vI n, .agg e.cells.toArray] := by simp [aL, he]
theorem aL_len (don : List Ent) : (aL don).length = don.length := by simp [aL]
theorem aL_of {don : List Ent} {n : Nat} {args : List Value} (h : (aL don)[n]? = some args) : ∃ e, don[n]? = some e ∧ args = [vI n, .agg e.cells.toArray] := by
  unfold aL at h
  rw [List.getElem?_mapIdx, Option.map_eq_some_iff] at h
  obtain ⟨e, he, rfl⟩ := h
  exact ⟨e, he, rfl⟩
theorem zlock : zc PG T.t_rwlock_lock = #[.slice none 0 0, vI 0, vB false] := by kernel_rfl
theorem all_seq {bs bo : Nat} {don : List Ent} {t : List Value} {U : TypeId} (hm : (bs, cel [.slice (some ⟨bo, 0, none⟩) 64 64] T.t_sl_rwlock_lock) ∈ H) (ho : (bo, cel (lcells don ++ t) U) ∈ H) (hl : don.length = 64) (hok : ∀ e ∈ don, e.ok) :
    Seq PG B H (fnc N.slices_All_sl_rwlock_lock_rwlock_lock_1 #[ptr bs]) (aL don) := by
  refine Seq.fn slices_All_sl_rwlock_lock_rwlock_lock_1.okf ?_
  intro y J Z K PK w X hy hw j0 hr he
  refine slices_All_sl_rwlock_lock_rwlock_lock_1.ok ?_
  unfold slices_All_sl_rwlock_lock_rwlock_lock_1.C
  refine ld_here hw (List.mem_append_right _ hm) rfl ?_
  refine ln_rule ?_
  refine ⟨fun l w => ∃ (i : Nat) (X : Hp), l = [vI i] ∧ i ≤ 64 ∧ J i X ∧ Ow B w (X ++ H), fun l _ => match l with | [.int _ n] => 64 - n.toNat | _ => 0, ⟨0, X, rfl, Nat.zero_le _, j0, hw⟩, ?_⟩
  rintro l w2 ⟨i, X, rfl, hi, hj, h2⟩ j1
  repeat (first | refine pu_not ?_ | refine pu_eql ?_ | refine pu_neq ?_ | refine pu_lss ?_ | refine pu_leq ?_ | refine pu_gtr ?_ | refine pu_geq ?_ | refine pu_add ?_ | refine pu_sub ?_ | refine pu_mul ?_ | refine pu_neg ?_ | refine fa_at ?_ | refine nl_ptr ?_ | refine ex20 ?_ | refine ex21 ?_ | refine ex30 ?_ | refine ex31 ?_ | refine ex32 ?_ | refine ln_rule ?_ | refine lnT_rule ?_ | refine pu_and ?_ | refine pu_or ?_ | refine pu_xor ?_ | refine pu_seq ?_ | refine pu_sne ?_)
  refine cnd (fun hlt => ?_) (fun hlt => ?_)
  · have hlt : i < 64 := by simp at hlt; omega
    obtain ⟨e, hee⟩ : ∃ e, don[i]? = some e := ⟨_, List.getElem?_eq_getElem (by omega)⟩
    refine ixS_at (by omega) (by omega) ?_
    refine ldn_here h2 (List.mem_append_right _ ho) (vs := e.cells) (by rw [Nat.zero_add, Int.toNat_natCast]; exact cells_at hee) rfl ?_
    refine al_rule h2 (l := [.slice none 0 0, vI 0, vB false]) (by kernel_rfl) (fun bx w3 h3 => ?_)
    refine st_here (A := []) h3 e.cells rfl rfl (cells_plain (hok e (List.mem_of_getElem? hee))) (by simp) (fun w4 h4 => ?_)
    simp only [List.take_zero, List.nil_append, Nat.zero_add, List.drop_succ_cons, List.drop_zero, List.drop_nil, List.append_nil] at h4
    refine ldn_here h4 (.head _) (vs := e.cells) (by rw [List.drop_zero]; rfl) rfl ?_
    refine hr i _ X ((bx, cel e.cells T.t_rwlock_lock) :: H) _ _ w4 (aL_at hee) hj (fun x hx => .tail _ hx) (h4.perm List.perm_middle.symm) (fun X' w5 h5 hj5 => ?_) (fun X' w5 h5 hz5 => ?_)
    · repeat (first | refine pu_not ?_ | refine pu_eql ?_ | refine pu_neq ?_ | refine pu_lss ?_ | refine pu_leq ?_ | refine pu_gtr ?_ | refine pu_geq ?_ | refine pu_add ?_ | refine pu_sub ?_ | refine pu_mul ?_ | refine pu_neg ?_ | refine fa_at ?_ | refine nl_ptr ?_ | refine ex20 ?_ | refine ex21 ?_ | refine ex30 ?_ | refine ex31 ?_ | refine ex32 ?_ | refine ln_rule ?_ | refine lnT_rule ?_ | refine pu_and ?_ | refine pu_or ?_ | refine pu_xor ?_ | refine pu_seq ?_ | refine pu_sne ?_)
      refine cnd_f rfl ?_
      repeat (first | refine pu_not ?_ | refine pu_eql ?_ | refine pu_neq ?_ | refine pu_lss ?_ | refine pu_leq ?_ | refine pu_gtr ?_ | refine pu_geq ?_ | refine pu_add ?_ | refine pu_sub ?_ | refine pu_mul ?_ | refine pu_neg ?_ | refine fa_at ?_ | refine nl_ptr ?_ | refine ex20 ?_ | refine ex21 ?_ | refine ex30 ?_ | refine ex31 ?_ | refine ex32 ?_ | refine ln_rule ?_ | refine lnT_rule ?_ | refine pu_and ?_ | refine pu_or ?_ | refine pu_xor ?_ | refine pu_seq ?_ | refine pu_sne ?_)
      rw [wrap64_in (by omega) (by omega)]
      exact ⟨⟨i + 1, X', rfl, hlt, hj5, h5.sub ((List.Sublist.refl _).append (.cons _ (.refl _)))⟩, by simp; omega⟩
    · repeat (first | refine pu_not ?_ | refine pu_eql ?_ | refine pu_neq ?_ | refine pu_lss ?_ | refine pu_leq ?_ | refine pu_gtr ?_ | refine pu_geq ?_ | refine pu_add ?_ | refine pu_sub ?_ | refine pu_mul ?_ | refine pu_neg ?_ | refine fa_at ?_ | refine nl_ptr ?_ | refine ex20 ?_ | refine ex21 ?_ | refine ex30 ?_ | refine ex31 ?_ | refine ex32 ?_ | refine ln_rule ?_ | refine lnT_rule ?_ | refine pu_and ?_ | refine pu_or ?_ | refine pu_xor ?_ | refine pu_seq ?_ | refine pu_sne ?_)
      refine cnd_t rfl ?_
      exact he _ X' w5 (h5.sub ((List.Sublist.refl _).append (.cons _ (.refl _)))) (.inr hz5)
  · obtain rfl : i = 64 := by simp at hlt; omega
    refine he _ X w2 h2 (.inl (by rw [aL_len, hl]; exact hj))
def tL (L : List Lk) (n : Nat) : List (List Value) := (takes L n).map fun i => [vI i, vB (decide (0 < (gk L i).wr))]
theorem tL_succ (L : List Lk) (n : Nat) : tL L (n + 1) = tL L n ++ (if tkn (gk L n) = true then [[vI n, vB (decide (0 < (gk L n).wr))]] else []) := by
  unfold tL
  rw [takes_succ, List.map_append]
  by_cases h : tkn (gk L n) = true <;> simp [h]
theorem tL_len (L : List Lk) (n : Nat) : (tL L n).length = (takes L n).length := by simp [tL]
theorem tL_at {L : List Lk} {i n : Nat} (hp : tkn (gk L i) = true) (h : i < n) : (tL L n)[(tL L i).length]? = some [vI i, vB (decide (0 < (gk L i).wr))] := by
  unfold tL
  rw [List.getElem?_map, List.length_map, takes_at hp h]; rfl
theorem tL_two {L : List Lk} {n : Nat} : ∀ args ∈ tL L n, args.length = 2 := fun a ha => by
  obtain ⟨i, _, rfl⟩ := List.mem_map.1 ha
  rfl
theorem tL_of {L : List Lk} {n i : Nat} {args : List Value} (h : (tL L n)[i]? = some args) : ∃ j : Int, (takes L n)[i]? = some j ∧ args = [vI j, vB (decide (0 < (gk L j).wr))] ∧ 0 ≤ j ∧ j < n ∧ tkn (gk L j) = true := by
  unfold tL at h
  rw [List.getElem?_map, Option.map_eq_some_iff] at h
  obtain ⟨j, hj, rfl⟩ := h
  refine ⟨j, hj, rfl, ?_⟩
  obtain ⟨k, hk, rfl⟩ := List.mem_map.1 (List.mem_of_getElem? hj)
  have := List.mem_filter.1 hk
  exact ⟨by omega, by have := List.mem_range.1 this.1; omega, this.2⟩
theorem don_k {don : List Ent} {e : Ent} {n : Nat} (hk : don.map Ent.k = full L) (he : don[n]? = some e) : e.k = gk L n := by
  have : (full L)[n]? = some e.k := by rw [← hk, List.getElem?_map, he]; rfl
  rw [← full_lk (n : Int), List.getD_eq_getElem?_getD, Int.toNat_natCast, this]; rfl
/-- The cells of a lock of its own. -/
theorem taken_seq {bo : Nat} {don : List Ent} {U : TypeId} (ho : (bo, cel (lcells don ++ []) U) ∈ H) (hl : don.length = 64) (hok : ∀ e ∈ don, e.ok) (hk : don.map Ent.k = full L) (hw : Wf m L) :
    Seq PG B H (fnc N.rwlock_Locks_Taken_1 #[ptr bo]) (tL L 64) := by
  refine Seq.fn rwlock_Locks_Taken_1.okf ?_
  intro y J Z K PK w X hy hw j0 hr he
  refine rwlock_Locks_Taken_1.ok ?_
  unfold rwlock_Locks_Taken_1.C
  refine al_rule hw (l := [y]) (fn_cells hy) (fun b2 w1 h1 => ?_)
  refine sl64 ?_
  refine slices_All_sl_rwlock_lock_rwlock_lock.ok ?_
  unfold slices_All_sl_rwlock_lock_rwlock_lock.C
  refine al_rule h1 (l := [.slice (some ⟨bo, 0, none⟩) 64 64]) rfl (fun b3 w2 h2 => ?_)
  have h2 : Ow B w2 (X ++ ((b3, cel [.slice (some ⟨bo, 0, none⟩) 64 64] T.t_sl_rwlock_lock) :: (b2, cel [y] T.t_func_int_bool_bool) :: H)) := h2.perm (List.perm_append_comm_assoc [_, _] X H)
  refine range_fn (X := X) (H := (b3, cel [.slice (some ⟨bo, 0, none⟩) 64 64] T.t_sl_rwlock_lock) :: (b2, cel [y] T.t_func_int_bool_bool) :: H) (A := rwlock_Locks_Taken_1.note) (fuel := 400) mixed (all_seq (.head _) (.tail _ (.tail _ ho)) hl hok) (by simp) (fun a ha => ?_) h2
    (fun i Y => i ≤ 64 ∧ J (tL L i).length Y) (fun j Y => j = .exit 0 ∧ Z Y) ⟨Nat.zero_le _, j0⟩ ?_ ?_ ?_
  · obtain ⟨i, hi⟩ := List.getElem?_of_mem ha
    obtain ⟨_, _, rfl⟩ := aL_of hi
    rfl
  · rintro lp r n args Y F R w4 hL ⟨hn, hj⟩ hF h4 k1 k2 u
    obtain ⟨e, hee, rfl⟩ := aL_of hL
    have hlt := (List.getElem?_eq_some_iff.1 hee).1
    have hke := don_k hk hee
    have hsl : RdS T.t_int e.S e.v (iv e.k.rd) := hok e (List.mem_of_getElem? hee)
    refine Eq.mpr (rwlock_Locks_Taken_1.Rd0_eq lp R _ _ _ w4 u) ?_
    unfold rwlock_Locks_Taken_1.Rd0
    refine al_rule h4 (l := [.slice none 0 0, vI 0, vB false]) (by kernel_rfl) (fun bx w5 h5 => ?_)
    refine st_here (A := []) h5 e.cells rfl rfl (cells_plain (hok e (List.mem_of_getElem? hee))) (by simp) (fun w6 h6 => ?_)
    simp only [List.take_zero, List.nil_append, Nat.zero_add, List.drop_succ_cons, List.drop_zero, List.drop_nil, List.append_nil] at h6
    refine rbeg (h6.perm (.swap _ _ _)) (fun w7 h7 => ?_)
    have mY : ∀ o, (b2, cel [y] T.t_func_int_bool_bool) ∈ (lp, o) :: (bx, cel e.cells T.t_rwlock_lock) :: (Y ++ F) := fun o => .tail _ (.tail _ (List.mem_append_right _ (hF _ (.tail _ (.head _)))))
    repeat (first | refine pu_not ?_ | refine pu_eql ?_ | refine pu_neq ?_ | refine pu_lss ?_ | refine pu_leq ?_ | refine pu_gtr ?_ | refine pu_geq ?_ | refine pu_add ?_ | refine pu_sub ?_ | refine pu_mul ?_ | refine pu_neg ?_ | refine fa_at ?_ | refine nl_ptr ?_ | refine ex20 ?_ | refine ex21 ?_ | refine ex30 ?_ | refine ex31 ?_ | refine ex32 ?_ | refine ln_rule ?_ | refine lnT_rule ?_ | refine pu_and ?_ | refine pu_or ?_ | refine pu_xor ?_ | refine pu_seq ?_ | refine pu_sne ?_)
    refine ld_here h7 (.tail _ (.head _)) (v := vB (decide (0 < e.k.wr))) rfl ?_
    refine cnd (fun hq => ?_) (fun hq => ?_)
    · have hp : tkn (gk L n) = true := by rw [← hke]; simp at hq; simp [tkn, hq]
      refine ld_here h7 (mY _) rfl ?_
      repeat (first | refine pu_not ?_ | refine pu_eql ?_ | refine pu_neq ?_ | refine pu_lss ?_ | refine pu_leq ?_ | refine pu_gtr ?_ | refine pu_geq ?_ | refine pu_add ?_ | refine pu_sub ?_ | refine pu_mul ?_ | refine pu_neg ?_ | refine fa_at ?_ | refine nl_ptr ?_ | refine ex20 ?_ | refine ex21 ?_ | refine ex30 ?_ | refine ex31 ?_ | refine ex32 ?_ | refine ln_rule ?_ | refine lnT_rule ?_ | refine pu_and ?_ | refine pu_or ?_ | refine pu_xor ?_ | refine pu_seq ?_ | refine pu_sne ?_)
      refine ld_here h7 (.tail _ (.head _)) (v := vB (decide (0 < e.k.wr))) rfl ?_
      rw [hke]
      refine hr _ _ Y ((lp, recB r) :: (bx, cel e.cells T.t_rwlock_lock) :: F) _ _ w7 (tL_at hp (by omega)) hj (fun x hx => .tail _ (.tail _ (hF x (.tail _ (.tail _ hx))))) (h7.perm (List.perm_append_comm_assoc [_, _] Y F)) (fun X' w8 h8 hj8 => ?_) (fun X' w8 h8 hz8 => ?_)
      · repeat (first | refine pu_not ?_ | refine pu_eql ?_ | refine pu_neq ?_ | refine pu_lss ?_ | refine pu_leq ?_ | refine pu_gtr ?_ | refine pu_geq ?_ | refine pu_add ?_ | refine pu_sub ?_ | refine pu_mul ?_ | refine pu_neg ?_ | refine fa_at ?_ | refine nl_ptr ?_ | refine ex20 ?_ | refine ex21 ?_ | refine ex30 ?_ | refine ex31 ?_ | refine ex32 ?_ | refine ln_rule ?_ | refine lnT_rule ?_ | refine pu_and ?_ | refine pu_or ?_ | refine pu_xor ?_ | refine pu_seq ?_ | refine pu_sne ?_)
        refine cnd_f rfl ?_
        refine rend_go (h8.perm List.perm_middle) (fun w9 h9 => k1 X' w9 ⟨by omega, ?_⟩ (h9.sub (.cons_cons _ ((List.Sublist.refl _).append (.cons _ (.refl _))))))
        rw [tL_succ, if_pos hp]
        simpa using hj8
      · repeat (first | refine pu_not ?_ | refine pu_eql ?_ | refine pu_neq ?_ | refine pu_lss ?_ | refine pu_leq ?_ | refine pu_gtr ?_ | refine pu_geq ?_ | refine pu_add ?_ | refine pu_sub ?_ | refine pu_mul ?_ | refine pu_neg ?_ | refine fa_at ?_ | refine nl_ptr ?_ | refine ex20 ?_ | refine ex21 ?_ | refine ex30 ?_ | refine ex31 ?_ | refine ex32 ?_ | refine ln_rule ?_ | refine lnT_rule ?_ | refine pu_and ?_ | refine pu_or ?_ | refine pu_xor ?_ | refine pu_seq ?_ | refine pu_sne ?_)
        refine cnd_t rfl ?_
        exact rend_stop (h8.perm List.perm_middle) (fun w9 h9 => k2 _ X' w9 ⟨rfl, hz8⟩ (h9.sub (.cons_cons _ ((List.Sublist.refl _).append (.cons _ (.refl _))))))
    · repeat (first | refine pu_not ?_ | refine pu_eql ?_ | refine pu_neq ?_ | refine pu_lss ?_ | refine pu_leq ?_ | refine pu_gtr ?_ | refine pu_geq ?_ | refine pu_add ?_ | refine pu_sub ?_ | refine pu_mul ?_ | refine pu_neg ?_ | refine fa_at ?_ | refine nl_ptr ?_ | refine ex20 ?_ | refine ex21 ?_ | refine ex30 ?_ | refine ex31 ?_ | refine ex32 ?_ | refine ln_rule ?_ | refine lnT_rule ?_ | refine pu_and ?_ | refine pu_or ?_ | refine pu_xor ?_ | refine pu_seq ?_ | refine pu_sne ?_)
      refine ld_here h7 (.tail _ (.head _)) (v := e.v) rfl ?_
      refine sl_ln hsl.sl ?_
      rw [List.length_map]
      refine len_pos _ ?_
      refine cnd (fun hd => ?_) (fun hd => ?_)
      · have hp : tkn (gk L n) = true := by rw [← hke]; simp [List.length_pos_iff] at hd; simp [tkn, hd]
        refine ld_here h7 (mY _) rfl ?_
        repeat (first | refine pu_not ?_ | refine pu_eql ?_ | refine pu_neq ?_ | refine pu_lss ?_ | refine pu_leq ?_ | refine pu_gtr ?_ | refine pu_geq ?_ | refine pu_add ?_ | refine pu_sub ?_ | refine pu_mul ?_ | refine pu_neg ?_ | refine fa_at ?_ | refine nl_ptr ?_ | refine ex20 ?_ | refine ex21 ?_ | refine ex30 ?_ | refine ex31 ?_ | refine ex32 ?_ | refine ln_rule ?_ | refine lnT_rule ?_ | refine pu_and ?_ | refine pu_or ?_ | refine pu_xor ?_ | refine pu_seq ?_ | refine pu_sne ?_)
        refine ld_here h7 (.tail _ (.head _)) (v := vB (decide (0 < e.k.wr))) rfl ?_
        rw [hke]
        refine hr _ _ Y ((lp, recB r) :: (bx, cel e.cells T.t_rwlock_lock) :: F) _ _ w7 (tL_at hp (by omega)) hj (fun x hx => .tail _ (.tail _ (hF x (.tail _ (.tail _ hx))))) (h7.perm (List.perm_append_comm_assoc [_, _] Y F)) (fun X' w8 h8 hj8 => ?_) (fun X' w8 h8 hz8 => ?_)
        · repeat (first | refine pu_not ?_ | refine pu_eql ?_ | refine pu_neq ?_ | refine pu_lss ?_ | refine pu_leq ?_ | refine pu_gtr ?_ | refine pu_geq ?_ | refine pu_add ?_ | refine pu_sub ?_ | refine pu_mul ?_ | refine pu_neg ?_ | refine fa_at ?_ | refine nl_ptr ?_ | refine ex20 ?_ | refine ex21 ?_ | refine ex30 ?_ | refine ex31 ?_ | refine ex32 ?_ | refine ln_rule ?_ | refine lnT_rule ?_ | refine pu_and ?_ | refine pu_or ?_ | refine pu_xor ?_ | refine pu_seq ?_ | refine pu_sne ?_)
          refine cnd_f rfl ?_
          refine rend_go (h8.perm List.perm_middle) (fun w9 h9 => k1 X' w9 ⟨by omega, ?_⟩ (h9.sub (.cons_cons _ ((List.Sublist.refl _).append (.cons _ (.refl _))))))
          rw [tL_succ, if_pos hp]
          simpa using hj8
        · repeat (first | refine pu_not ?_ | refine pu_eql ?_ | refine pu_neq ?_ | refine pu_lss ?_ | refine pu_leq ?_ | refine pu_gtr ?_ | refine pu_geq ?_ | refine pu_add ?_ | refine pu_sub ?_ | refine pu_mul ?_ | refine pu_neg ?_ | refine fa_at ?_ | refine nl_ptr ?_ | refine ex20 ?_ | refine ex21 ?_ | refine ex30 ?_ | refine ex31 ?_ | refine ex32 ?_ | refine ln_rule ?_ | refine lnT_rule ?_ | refine pu_and ?_ | refine pu_or ?_ | refine pu_xor ?_ | refine pu_seq ?_ | refine pu_sne ?_)
          refine cnd_t rfl ?_
          exact rend_stop (h8.perm List.perm_middle) (fun w9 h9 => k2 _ X' w9 ⟨rfl, hz8⟩ (h9.sub (.cons_cons _ ((List.Sublist.refl _).append (.cons _ (.refl _))))))
      · have hp : ¬ tkn (gk L n) = true := by rw [← hke]; simp at hq hd; simp [tkn, hd]; omega
        refine rend_go h7 (fun w9 h9 => k1 Y w9 ⟨by omega, ?_⟩ (h9.sub (.cons_cons _ (.cons _ (.refl _)))))
        rw [tL_succ, if_neg hp, List.append_nil]
        exact hj
  · rintro mk Y w4 ⟨hn, hj⟩ h4
    rw [aL_len, hl] at hj
    refine lv_ret h4 (fun w8 h8 => ?_)
    exact he _ Y w8 (h8.sub ((List.Sublist.refl Y).append (.cons _ (.cons _ (.refl _))))) (.inl hj)
  · rintro mk j Y w4 ⟨rfl, hz⟩ h4
    refine lv_ret h4 (fun w8 h8 => ?_)
    exact he _ Y w8 (h8.sub ((List.Sublist.refl Y).append (.cons _ (.cons _ (.refl _))))) (.inr hz)
theorem taken_spec (lp : LP L m b F) (hm : m < 1000000) (h : Ow B w (F ++ H)) (k : ∀ f S w', (∀ H, (∀ x, x ∈ S → x ∈ H) → Seq PG B H (fnc N.rwlock_Locks_Taken_1 #[f]) (tL L 64)) → Ow B w' (S ++ (F ++ H)) → K (fnc N.rwlock_Locks_Taken_1 #[f]) w') : callW PG N.rwlock_Locks_Taken [ptr b] K PK w := by
  refine rwlock_Locks_Taken.ok ?_
  unfold rwlock_Locks_Taken.C
  refine al_rule h (l := lcells (List.replicate 64 e0) ++ []) (by kernel_rfl) (fun bo w1 h1 => ?_)
  refine none_spec lp h1 (fun x hx => .tail _ (List.mem_append_left _ hx)) (fun w2 h2 => ?_)
  repeat (first | refine pu_not ?_ | refine pu_eql ?_ | refine pu_neq ?_ | refine pu_lss ?_ | refine pu_leq ?_ | refine pu_gtr ?_ | refine pu_geq ?_ | refine pu_add ?_ | refine pu_sub ?_ | refine pu_mul ?_ | refine pu_neg ?_ | refine fa_at ?_ | refine nl_ptr ?_ | refine ex20 ?_ | refine ex21 ?_ | refine ex30 ?_ | refine ex31 ?_ | refine ex32 ?_ | refine ln_rule ?_ | refine lnT_rule ?_ | refine pu_and ?_ | refine pu_or ?_ | refine pu_xor ?_ | refine pu_seq ?_ | refine pu_sne ?_)
  refine cnd_t rfl ?_
  obtain ⟨es, q2, q3, q4, rfl⟩ := lp
  have hl := es_len q2 q4
  have hrd : ∀ e ∈ es, e.k.rd.length < 1000000 := fun e he => by
    have : e.k ∈ full L := by rw [← q2]; exact List.mem_map_of_mem he
    rcases List.mem_append.1 this with h | h
    · have := q4.ks _ h; omega
    · obtain ⟨_, h⟩ := List.mem_replicate.1 h; rw [h]; simp [emp]
  repeat (first | refine pu_not ?_ | refine pu_eql ?_ | refine pu_neq ?_ | refine pu_lss ?_ | refine pu_leq ?_ | refine pu_gtr ?_ | refine pu_geq ?_ | refine pu_add ?_ | refine pu_sub ?_ | refine pu_mul ?_ | refine pu_neg ?_ | refine fa_at ?_ | refine nl_ptr ?_ | refine ex20 ?_ | refine ex21 ?_ | refine ex30 ?_ | refine ex31 ?_ | refine ex32 ?_ | refine ln_rule ?_ | refine lnT_rule ?_ | refine pu_and ?_ | refine pu_or ?_ | refine pu_xor ?_ | refine pu_seq ?_ | refine pu_sne ?_)
  refine ldn_here h2 (.tail _ (.head _)) (vs := lcells es ++ []) (by rw [List.drop_zero, List.append_nil]; exact List.take_left' (by rw [lcells_len, hl])) (by rw [List.append_nil, lcells_len, hl]) ?_
  refine st_here (A := []) h2 (lcells es ++ []) rfl (by rw [List.append_nil, lcells_len, hl]) (by rw [List.append_nil]; exact lcells_plain q3) (by rw [List.append_nil, lcells_len]; simp) (fun w3 h3 => ?_)
  have e3 : (lcells (List.replicate 64 e0) ++ []).drop (0 + 192) = [] := List.drop_eq_nil_of_le (by rw [List.append_nil, lcells_len]; simp)
  rw [e3, List.take_zero, List.nil_append] at h3
  have h3 : Ow B w3 ((bo, cel (lcells es ++ []) T.t_64_rwlock_lock) :: ((b, obj es L.length) :: (foot es ++ H))) := by simpa only [List.append_nil, List.nil_append, List.cons_append] using h3
  refine ⟨fun l w => ∃ i : Nat, l = [vI i] ∧ i ≤ 64 ∧ cpI B H es L.length b bo [] T.t_64_rwlock_lock i w, fun l _ => match l with | [.int _ n] => 64 - n.toNat | _ => 0, ⟨0, rfl, by omega, [], rfl, by simp, by simp, h3⟩, ?_⟩
  rintro l w4 ⟨i, rfl, hi, h4⟩ j
  repeat (first | refine pu_not ?_ | refine pu_eql ?_ | refine pu_neq ?_ | refine pu_lss ?_ | refine pu_leq ?_ | refine pu_gtr ?_ | refine pu_geq ?_ | refine pu_add ?_ | refine pu_sub ?_ | refine pu_mul ?_ | refine pu_neg ?_ | refine fa_at ?_ | refine nl_ptr ?_ | refine ex20 ?_ | refine ex21 ?_ | refine ex30 ?_ | refine ex31 ?_ | refine ex32 ?_ | refine ln_rule ?_ | refine lnT_rule ?_ | refine pu_and ?_ | refine pu_or ?_ | refine pu_xor ?_ | refine pu_seq ?_ | refine pu_sne ?_)
  refine cnd (fun hlt => ?_) (fun hlt => ?_)
  · have hlt : i < 64 := by simp at hlt; omega
    refine ixA_at (by omega) (by omega) ?_
    repeat (first | refine pu_not ?_ | refine pu_eql ?_ | refine pu_neq ?_ | refine pu_lss ?_ | refine pu_leq ?_ | refine pu_gtr ?_ | refine pu_geq ?_ | refine pu_add ?_ | refine pu_sub ?_ | refine pu_mul ?_ | refine pu_neg ?_ | refine fa_at ?_ | refine nl_ptr ?_ | refine ex20 ?_ | refine ex21 ?_ | refine ex30 ?_ | refine ex31 ?_ | refine ex32 ?_ | refine ln_rule ?_ | refine lnT_rule ?_ | refine pu_and ?_ | refine pu_or ?_ | refine pu_xor ?_ | refine pu_seq ?_ | refine pu_sne ?_)
    refine cp_step q3 hrd (by omega) h4 _ (by simp) (fun v w5 hst => ?_)
    refine ixA_at (by omega) (by omega) ?_
    repeat (first | refine pu_not ?_ | refine pu_eql ?_ | refine pu_neq ?_ | refine pu_lss ?_ | refine pu_leq ?_ | refine pu_gtr ?_ | refine pu_geq ?_ | refine pu_add ?_ | refine pu_sub ?_ | refine pu_mul ?_ | refine pu_neg ?_ | refine fa_at ?_ | refine nl_ptr ?_ | refine ex20 ?_ | refine ex21 ?_ | refine ex30 ?_ | refine ex31 ?_ | refine ex32 ?_ | refine ln_rule ?_ | refine lnT_rule ?_ | refine pu_and ?_ | refine pu_or ?_ | refine pu_xor ?_ | refine pu_seq ?_ | refine pu_sne ?_)
    refine hst _ _ (by simp) (fun w6 h6 => ?_)
    repeat (first | refine pu_not ?_ | refine pu_eql ?_ | refine pu_neq ?_ | refine pu_lss ?_ | refine pu_leq ?_ | refine pu_gtr ?_ | refine pu_geq ?_ | refine pu_add ?_ | refine pu_sub ?_ | refine pu_mul ?_ | refine pu_neg ?_ | refine fa_at ?_ | refine nl_ptr ?_ | refine ex20 ?_ | refine ex21 ?_ | refine ex30 ?_ | refine ex31 ?_ | refine ex32 ?_ | refine ln_rule ?_ | refine lnT_rule ?_ | refine pu_and ?_ | refine pu_or ?_ | refine pu_xor ?_ | refine pu_seq ?_ | refine pu_sne ?_)
    rw [wrap64_in (by omega) (by omega)]
    exact ⟨⟨i + 1, rfl, hlt, h6⟩, by simp; omega⟩
  · obtain rfl : i = 64 := by simp at hlt; omega
    obtain ⟨don, d1, d2, d3, hd⟩ := h4
    have hdr : es.drop 64 = [] := List.drop_eq_nil_of_le (by omega)
    rw [hdr, List.append_nil don] at hd
    refine k (ptr bo) ((bo, cel (lcells don ++ []) T.t_64_rwlock_lock) :: foot don) _ (fun H hS => taken_seq (hS _ (.head _)) d1 d3 ?_ q4) ?_
    · rw [d2, List.take_of_length_le (by rw [List.length_map]; omega), q2]
    · simpa using hd
end
end Go.Proofs.Ytaifohjgamhhnaa
