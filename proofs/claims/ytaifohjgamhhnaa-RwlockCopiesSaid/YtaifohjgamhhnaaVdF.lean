/- Locks: Unread. -/
import Derived.Test.YtaifohjgamhhnaaVdE
set_option linter.unusedVariables false
set_option linter.unusedSimpArgs false
namespace Go.Proofs.Ytaifohjgamhhnaa.Vc
open Go Go.RowKit
theorem pu_cutHM {P : Program} {t e : TypeId} {K : Value → Prop} {a : Option Addr} {n c : Nat} {h m : Int} (ht : P.underlying t = some (.slice e)) (hi : ∃ i, P.info? e = some i ∧ i.size = 1) (h0 : 0 ≤ h) (h2 : h ≤ m) (h3 : m ≤ c) (k : K (cut (.slice a n c) 0 h.toNat m.toNat)) :
    pu P (Instr.sliceAt t (.slice a n c) none (some (.int .i64 h)) (some (.int .i64 m))) K := by
  obtain ⟨i, hi, hs⟩ := hi
  refine ⟨_, fun w => ?_, k⟩
  simp only [Instr.sliceAt, Instr.slice, Sem.run_bind, run_und ht, Result.andThen, Instr.sliceBounds, Sem.run_pure, slb (P := P) (n := m) (y := c) (by omega) h3, slb (P := P) (n := h) (y := m.toNat) (by omega) (by omega), run_size hi, hs, Nat.mul_one, Option.isSome, cut, if_true]
end Go.Proofs.Ytaifohjgamhhnaa.Vc
namespace Go.Proofs.Ytaifohjgamhhnaa
open Go Go.RowKit Vc Vd
attribute [local irreducible] binV Op.unary convert nlW faW ldS ldW ixS ixA ixV ixT exW lnS lnT pu stW alW opW opU bsW mkW

section
variable {B w : World} {H : Hp} {K : Value → World → Prop} {PK : List PanicEntry → World → Prop} {L : List Lk} {m b : Nat} {F : Hp} {b2 b4 : Nat} {i y : Int}
theorem int1 : ∃ i, PG.info? T.t_int = some i ∧ i.size = 1 := by
  obtain ⟨i, h1, _, h3, _⟩ := info_of info_int
  exact ⟨i, h1, h3⟩
theorem indexFunc_spec {s f : Value} {xs : List Value} {p : Value → Bool} (h : Ow B w H) (hs : Sl H s xs) (hlen : xs.length < 2 ^ 62) (hf : ∀ x ∈ xs, PF PG B H f [x] (vB (p x)))
    (k : ∀ w', Ow B w' H → K (vI (match xs.findIdx? p with | some i => i | none => -1)) w') : callW PG N.slices_IndexFunc_sl_int_int [s, f] K PK w := by
  refine slices_IndexFunc_sl_int_int.ok ?_
  unfold slices_IndexFunc_sl_int_int.C
  refine sl_ln hs ?_
  refine ⟨fun l w => ∃ i : Nat, l = [vI i] ∧ i ≤ xs.length ∧ (∀ j x, j < i → xs[j]? = some x → p x = false) ∧ Ow B w H, fun l _ => match l with | [.int _ n] => xs.length - n.toNat | _ => 0, ⟨0, rfl, Nat.zero_le _, fun j x hj => absurd hj (by omega), h⟩, ?_⟩
  rintro l w1 ⟨i, rfl, hi, hno, h1⟩ j
  repeat (first | refine pu_not ?_ | refine pu_eql ?_ | refine pu_neq ?_ | refine pu_lss ?_ | refine pu_leq ?_ | refine pu_gtr ?_ | refine pu_geq ?_ | refine pu_add ?_ | refine pu_sub ?_ | refine pu_mul ?_ | refine pu_neg ?_ | refine fa_at ?_ | refine nl_ptr ?_ | refine ex20 ?_ | refine ex21 ?_ | refine ex30 ?_ | refine ex31 ?_ | refine ex32 ?_ | refine ln_rule ?_ | refine lnT_rule ?_ | refine pu_and ?_ | refine pu_or ?_ | refine pu_xor ?_ | refine pu_seq ?_ | refine pu_sne ?_)
  refine cnd (fun hlt => ?_) (fun hlt => ?_)
  · have hlt' : i < xs.length := by simpa using hlt
    refine sl_ld (v := xs[i]) h1 hs (by omega) (by rw [Int.toNat_natCast]; exact List.getElem?_eq_getElem hlt') ?_
    refine hf xs[i] (List.getElem_mem hlt') [] _ _ _ h1 (fun w2 h2 => ?_)
    refine cnd (fun hp => ?_) (fun hp => ?_)
    · have : xs.findIdx? p = some i := by
        rw [List.findIdx?_eq_some_iff_getElem]
        exact ⟨hlt', hp, fun j hj => by simpa using hno j _ hj (List.getElem?_eq_getElem (by omega))⟩
      have hk := k w2 h2
      rw [this] at hk
      exact hk
    · repeat (first | refine pu_not ?_ | refine pu_eql ?_ | refine pu_neq ?_ | refine pu_lss ?_ | refine pu_leq ?_ | refine pu_gtr ?_ | refine pu_geq ?_ | refine pu_add ?_ | refine pu_sub ?_ | refine pu_mul ?_ | refine pu_neg ?_ | refine fa_at ?_ | refine nl_ptr ?_ | refine ex20 ?_ | refine ex21 ?_ | refine ex30 ?_ | refine ex31 ?_ | refine ex32 ?_ | refine ln_rule ?_ | refine lnT_rule ?_ | refine pu_and ?_ | refine pu_or ?_ | refine pu_xor ?_ | refine pu_seq ?_ | refine pu_sne ?_)
      refine ⟨⟨i + 1, ?_, hlt', fun j x hj hx => ?_, h2⟩, ?_⟩
      · rw [wrap64_in (by omega) (by omega)]; rfl
      · rcases Nat.lt_succ_iff_lt_or_eq.1 hj with hj | rfl
        · exact hno j x hj hx
        · rw [List.getElem?_eq_getElem hlt'] at hx; cases hx; exact hp
      · rw [wrap64_in (by omega) (by omega)]; simp; omega
  · have hlt' : ¬ i < xs.length := by simp at hlt; omega
    have : xs.findIdx? p = none := by
      rw [List.findIdx?_eq_none_iff]
      intro x hx
      obtain ⟨j, hj, rfl⟩ := List.getElem_of_mem hx
      exact hno j _ (by omega) (List.getElem?_eq_getElem hj)
    have hk := k w1 h1
    rw [this] at hk
    exact hk
theorem found_spec {s : Value} {rd : List Int} {b6 : Nat} (h : Ow B w H) (hs : Sl H s (iv rd)) (hlen : rd.length < 2 ^ 62) (hm : (b6, cel [vI y] T.t_int) ∈ H) (k : ∀ w', Ow B w' H → K (vI (fnd rd y)) w') : callW PG N.rwlock_found_int [s, fnc N.rwlock_Locks_Unread_2 #[ptr b6]] K PK w := by
  refine rwlock_found_int.ok ?_
  unfold rwlock_found_int.C
  refine indexFunc_spec (p := fun v => match v with | .int _ n => n == y | _ => false) h hs (by simpa using hlen) (fun x hx => ?_) (fun w1 h1 => ?_)
  · obtain ⟨n, _, rfl⟩ := List.mem_map.1 hx
    intro X K PK w hw k
    refine callV_fn rwlock_Locks_Unread_2.okf (rwlock_Locks_Unread_2.ok ?_)
    unfold rwlock_Locks_Unread_2.C
    refine ld_here hw (List.mem_append_right _ hm) rfl ?_
    repeat (first | refine pu_not ?_ | refine pu_eql ?_ | refine pu_neq ?_ | refine pu_lss ?_ | refine pu_leq ?_ | refine pu_gtr ?_ | refine pu_geq ?_ | refine pu_add ?_ | refine pu_sub ?_ | refine pu_mul ?_ | refine pu_neg ?_ | refine fa_at ?_ | refine nl_ptr ?_ | refine ex20 ?_ | refine ex21 ?_ | refine ex30 ?_ | refine ex31 ?_ | refine ex32 ?_ | refine ln_rule ?_ | refine lnT_rule ?_ | refine pu_and ?_ | refine pu_or ?_ | refine pu_xor ?_ | refine pu_seq ?_ | refine pu_sne ?_)
    exact k w hw
  · refine pu_max2 ?_
    have e : (iv rd).findIdx? (fun v => match v with | .int _ n => n == y | _ => false) = rd.findIdx? (· == y) := by
      unfold iv
      rw [List.findIdx?_map]
      rfl
    rw [e]
    have e2 : (if (match rd.findIdx? (· == y) with | some i => (i : Int) | none => -1) > 0 then (match rd.findIdx? (· == y) with | some i => (i : Int) | none => -1) else 0) = (fnd rd y : Int) := by
      unfold fnd
      cases rd.findIdx? (· == y) with
      | none => simp
      | some i =>
        simp only [Option.getD_some]
        split <;> omega
    rw [e2]
    exact k _ h1
theorem unread_spec (lp : LP L m b F) (hm : m < 1000000) (h : Ow B w (F ++ H)) (k : ∀ F' w', LP (rUnread L i y).1 m b F' → Ow B w' (F' ++ H) → K (.tuple #[vI (rUnread L i y).2.1, vI (rUnread L i y).2.2]) w') : callW PG N.rwlock_Locks_Unread [ptr b, vI i, vI y] K PK w := by
  refine rwlock_Locks_Unread.ok ?_
  unfold rwlock_Locks_Unread.C
  refine al_rule h (l := [ptr b]) rfl (fun b2 w1 h1 => ?_)
  refine al_rule h1 (l := [vI i]) rfl (fun b4 w2 h2 => ?_)
  refine al_rule h2 (l := [vI y]) rfl (fun b6 w3 h3 => ?_)
  refine ld_here h3 (.tail _ (.tail _ (.head _))) rfl ?_
  refine ld_here h3 (.tail _ (.head _)) rfl ?_
  refine ld_here h3 (.head _) rfl ?_
  refine pu_build [fnc N.rwlock_Locks_Unread_1 #[ptr b2, ptr b4], vI 242] (by kernel_rfl) ?_
  refine bs_rule h3 (flat [(fnc N.rwlock_Locks_Unread_1 #[ptr b2, ptr b4], 242)]) (by kernel_rfl) (fun bt w4 h4 => ?_)
  have hF : ∀ x, x ∈ F → x ∈ (bt, cel (flat [(fnc N.rwlock_Locks_Unread_1 #[ptr b2, ptr b4], 242)]) T.t_rwlock_ask) :: (b6, cel [vI y] T.t_int) :: (b4, cel [vI i] T.t_int) :: (b2, cel [ptr b] T.t_ptr_rwlock_Locks) :: (F ++ H) := fun x hx => .tail _ (.tail _ (.tail _ (.tail _ (List.mem_append_left _ hx))))
  refine asked_spec (r0 := if (gk L i).rd = [] then 242 else 0) lp h4 hF (.head _) rfl (fun p hp => by rw [List.mem_singleton.1 hp]; rfl) (by omega) (fun hr => ?_) (fun w5 h5 => ?_)
  · obtain ⟨e0, e1, e2, e3⟩ := right_ok hr
    refine ⟨_, readers_pf (r := decide ((gk L i).rd.length = 0)) rwlock_Locks_Unread_1.okf (fun h => rwlock_Locks_Unread_1.ok h) (fun KK k => len_zero _ k) lp hF (.tail _ (.tail _ (.tail _ (.head _)))) (.tail _ (.tail _ (.head _))) e2 e3, ?_⟩
    by_cases hd : (gk L i).rd = []
    · rw [hd, if_pos (by simp), if_pos rfl]
    · rw [if_neg (by simpa using hd), if_neg hd]; rfl
  · have h5 := h5.drop
    by_cases hr : right L i y = 0
    · obtain ⟨e0, e1, e2, e3⟩ := right_ok hr
      rw [hr, if_neg (by omega)]
      by_cases hd : (gk L i).rd = []
      · rw [if_pos hd]
        have e : rUnread L i y = (L, 0, 242) := by unfold rUnread; rw [if_neg (by omega), if_pos hd]
        rw [e] at k
        refine neq0 ?_
        refine cnd_t rfl ?_
        exact k F _ lp h5.drop.drop.drop
      · rw [if_neg hd]
        have e : rUnread L i y = (L.set i.toNat ⟨(gk L i).rd.eraseIdx (fnd (gk L i).rd y), (gk L i).wr⟩, (gk L i).rd.getD (fnd (gk L i).rd y) 0, 0) := by unfold rUnread; rw [if_neg (by omega), if_neg hd]
        have hwf := rUnread_wf lp.wf i y
        rw [e] at k hwf
        have hlen := lp.wf.len
        have hks := lp.wf.ks _ (lk_mem e2 e3)
        have hfl := fnd_lt hd y
        refine neq0 ?_
        refine cnd_f rfl ?_
        obtain ⟨pre, e, post, rfl, hl, hp, hok', hk, hset⟩ := lp.split e2 (by omega)
        have h6 := h5.drew
        rw [← hk] at k hwf hks hfl hd
        have hA : ∀ S : Hp, ((b6, cel [vI y] T.t_int) :: (b4, cel [vI i] T.t_int) :: (b2, cel [ptr b] T.t_ptr_rwlock_Locks) :: ((b, obj (pre ++ e :: post) L.length) :: (foot pre ++ (S ++ foot post)) ++ H) : Hp) = ((b6, cel [vI y] T.t_int) :: (b4, cel [vI i] T.t_int) :: (b2, cel [ptr b] T.t_ptr_rwlock_Locks) :: (b, obj (pre ++ e :: post) L.length) :: foot pre) ++ S ++ (foot post ++ H) := by intro S; simp
        rw [hA] at h6
        refine ⟨fun w => Ow B w (((b6, cel [vI y] T.t_int) :: (b4, cel [vI i] T.t_int) :: (b2, cel [ptr b] T.t_ptr_rwlock_Locks) :: (b, obj (pre ++ e :: post) L.length) :: foot pre) ++ e.S ++ (foot post ++ H)), h6, ?_⟩
        refine lds_here (fun w h => h) (.tail _ (.tail _ (.head _))) rfl ?_
        refine lds_here (fun w h => h) (.tail _ (.head _)) rfl ?_
        repeat (first | refine pu_not ?_ | refine pu_eql ?_ | refine pu_neq ?_ | refine pu_lss ?_ | refine pu_leq ?_ | refine pu_gtr ?_ | refine pu_geq ?_ | refine pu_add ?_ | refine pu_sub ?_ | refine pu_mul ?_ | refine pu_neg ?_ | refine fa_at ?_ | refine nl_ptr ?_ | refine ex20 ?_ | refine ex21 ?_ | refine ex30 ?_ | refine ex31 ?_ | refine ex32 ?_ | refine ln_rule ?_ | refine lnT_rule ?_ | refine pu_and ?_ | refine pu_or ?_ | refine pu_xor ?_ | refine pu_seq ?_ | refine pu_sne ?_)
        refine ixA_at e2 (by omega) ?_
        repeat (first | refine pu_not ?_ | refine pu_eql ?_ | refine pu_neq ?_ | refine pu_lss ?_ | refine pu_leq ?_ | refine pu_gtr ?_ | refine pu_geq ?_ | refine pu_add ?_ | refine pu_sub ?_ | refine pu_mul ?_ | refine pu_neg ?_ | refine fa_at ?_ | refine nl_ptr ?_ | refine ex20 ?_ | refine ex21 ?_ | refine ex30 ?_ | refine ex31 ?_ | refine ex32 ?_ | refine ln_rule ?_ | refine lnT_rule ?_ | refine pu_and ?_ | refine pu_or ?_ | refine pu_xor ?_ | refine pu_seq ?_ | refine pu_sne ?_)
        refine lds_here (fun w h => h) (.tail _ (.tail _ (.tail _ (.head _)))) (v := e.v) ?_ ?_
        · rw [← hp]
          simpa using at_rd (pre := pre) (post := post) (e := e) (t := tail L.length)
        have hsl0 : Sl e.S e.v (iv e.k.rd) := RdS.sl hok'
        have hsl : Sl (((b6, cel [vI y] T.t_int) :: (b4, cel [vI i] T.t_int) :: (b2, cel [ptr b] T.t_ptr_rwlock_Locks) :: (b, obj (pre ++ e :: post) L.length) :: foot pre) ++ e.S ++ (foot post ++ H)) e.v (iv e.k.rd) := hsl0.mono fun x hx => List.mem_append_left _ (List.mem_append_right _ hx)
        refine found_spec h6 hsl (by omega) (.head _) (fun w7 h7 => ?_)
        refine sl_ld (v := vI (e.k.rd.getD (fnd e.k.rd y) 0)) h7 hsl (by omega) (by rw [Int.toNat_natCast, List.getElem?_map, List.getD_eq_getElem?_getD, List.getElem?_eq_getElem hfl]; rfl) ?_
        refine ⟨fun w => Ow B w (((b6, cel [vI y] T.t_int) :: (b4, cel [vI i] T.t_int) :: (b2, cel [ptr b] T.t_ptr_rwlock_Locks) :: (b, obj (pre ++ e :: post) L.length) :: foot pre) ++ (foot post ++ H)), h7.drew.sub (by rw [List.append_assoc]; exact (List.Sublist.refl _).append (List.sublist_append_right _ _)), ?_⟩
        refine lds_here (fun w h => h) (.tail _ (.tail _ (.head _))) rfl ?_
        refine lds_here (fun w h => h) (.tail _ (.head _)) rfl ?_
        obtain ⟨a, c, hv, hcap⟩ := Sl.cap hsl0
        have hcap2 : e.k.rd.length ≤ c := by simpa using hcap
        have g1 : ∀ KK : Value → Prop, KK (Vc.cut e.v 0 (fnd e.k.rd y) (fnd e.k.rd y)) → pu PG (Instr.sliceAt T.t_sl_int e.v none (some (vI (fnd e.k.rd y))) (some (vI (fnd e.k.rd y)))) KK := fun KK k => by
          rw [hv] at k ⊢
          exact pu_cutHM und_sli int1 (by omega) (by omega) (by omega) (by simpa using k)
        have g2 : ∀ KK : Value → Prop, KK (Vc.cut e.v (fnd e.k.rd y + 1) (iv e.k.rd).length c) → pu PG (Instr.sliceAt T.t_sl_int e.v (some (vI ((fnd e.k.rd y : Nat) + 1 : Int))) none none) KK := fun KK k => by
          rw [hv] at k ⊢
          refine pu_cutL und_sli int1 (by omega) (by simp; omega) ?_
          rw [show ((fnd e.k.rd y : Int) + 1).toNat = fnd e.k.rd y + 1 by omega]
          exact k
        refine g1 _ ?_
        repeat (first | refine pu_not ?_ | refine pu_eql ?_ | refine pu_neq ?_ | refine pu_lss ?_ | refine pu_leq ?_ | refine pu_gtr ?_ | refine pu_geq ?_ | refine pu_add ?_ | refine pu_sub ?_ | refine pu_mul ?_ | refine pu_neg ?_ | refine fa_at ?_ | refine nl_ptr ?_ | refine ex20 ?_ | refine ex21 ?_ | refine ex30 ?_ | refine ex31 ?_ | refine ex32 ?_ | refine ln_rule ?_ | refine lnT_rule ?_ | refine pu_and ?_ | refine pu_or ?_ | refine pu_xor ?_ | refine pu_seq ?_ | refine pu_sne ?_)
        rw [wrap64_in (by omega) (by omega)]
        refine g2 _ ?_
        repeat (first | refine pu_not ?_ | refine pu_eql ?_ | refine pu_neq ?_ | refine pu_lss ?_ | refine pu_leq ?_ | refine pu_gtr ?_ | refine pu_geq ?_ | refine pu_add ?_ | refine pu_sub ?_ | refine pu_mul ?_ | refine pu_neg ?_ | refine fa_at ?_ | refine nl_ptr ?_ | refine ex20 ?_ | refine ex21 ?_ | refine ex30 ?_ | refine ex31 ?_ | refine ex32 ?_ | refine ln_rule ?_ | refine lnT_rule ?_ | refine pu_and ?_ | refine pu_or ?_ | refine pu_xor ?_ | refine pu_seq ?_ | refine pu_sne ?_)
        refine RdS.cut (z := vI 0) (bytes := 8) h7.drew hok' (by simpa using hfl) (iv_plain _) und_sli info_int rfl (by simp [maxLen]; omega) (by simp; omega) ⟨a, hv⟩ (fun S' v' w8 h8 ho => ?_)
        refine ⟨h8.sub (by rw [List.append_assoc]; exact (List.Sublist.refl _).append (List.sublist_append_right _ _)), ?_⟩
        refine ixA_at e2 (by omega) ?_
        repeat (first | refine pu_not ?_ | refine pu_eql ?_ | refine pu_neq ?_ | refine pu_lss ?_ | refine pu_leq ?_ | refine pu_gtr ?_ | refine pu_geq ?_ | refine pu_add ?_ | refine pu_sub ?_ | refine pu_mul ?_ | refine pu_neg ?_ | refine fa_at ?_ | refine nl_ptr ?_ | refine ex20 ?_ | refine ex21 ?_ | refine ex30 ?_ | refine ex31 ?_ | refine ex32 ?_ | refine ln_rule ?_ | refine lnT_rule ?_ | refine pu_and ?_ | refine pu_or ?_ | refine pu_xor ?_ | refine pu_seq ?_ | refine pu_sne ?_)
        simp only [List.cons_append, List.append_assoc] at h8
        refine st1_here (A := [_, _, _]) (b := b) (off := 0 + 0 + 0 + i.toNat * 3 + 0) (l := lcells (pre ++ e :: post) ++ tail L.length) (e := T.t_rwlock_Locks) h8 (sl_cells ho.sl) (sl_plain ho.sl) (by rw [obj_len hl]; omega) (fun w9 h9 => ?_)
        have es : (lcells (pre ++ e :: post) ++ tail L.length).set (0 + 0 + 0 + i.toNat * 3 + 0) v' = lcells (pre ++ ⟨S', v', ⟨e.k.rd.eraseIdx (fnd e.k.rd y), e.k.wr⟩⟩ :: post) ++ tail L.length := by
          rw [← hp]
          simpa using lcells_set (pre := pre) (post := post) (e := e) (e' := ⟨S', v', ⟨e.k.rd.eraseIdx (fnd e.k.rd y), e.k.wr⟩⟩) (t := tail L.length) (j := 0) (x := v') (by omega) rfl
        rw [es] at h9
        refine k _ w9 (hset ⟨S', v', ⟨e.k.rd.eraseIdx (fnd e.k.rd y), e.k.wr⟩⟩ m ?_ e3 hwf) ?_
        · show RdS T.t_int S' v' (iv (e.k.rd.eraseIdx (fnd e.k.rd y)))
          rw [← erase_eq]
          unfold iv
          rw [List.map_append, List.map_take, List.map_drop]
          exact ho
        · have h10 := Ow.drop (Ow.drop (Ow.drop h9))
          simp only [List.cons_append, List.append_assoc] at h10 ⊢
          exact h10
    · rw [if_pos hr]
      have e : rUnread L i y = (L, 0, right L i y) := by unfold rUnread; rw [if_pos hr]
      rw [e] at k
      refine neq0 ?_
      refine cnd_t (by simpa using hr) ?_
      exact k F _ lp h5.drop.drop.drop
end
end Go.Proofs.Ytaifohjgamhhnaa
