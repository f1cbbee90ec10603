/- Locks: slices that are full; asks; the lists of the library. -/
import Derived.Test.YtaifohjgamhhnaaVdA
import Derived.Test.YtaifohjgamhhnaaVnF0
set_option linter.unusedVariables false
set_option linter.unusedSimpArgs false
namespace Go.Proofs.Ytaifohjgamhhnaa.Vc
open Go Go.RowKit
section
variable {P : Program} {B w : World} {KW : Value → World → Prop} {t e ty : TypeId} {H : Hp}
theorem app_zero {a : Addr} {b : Option Addr} {n c c' : Nat} {i : TypeInfo} (ht : P.underlying t = some (.slice e)) (hi : P.info? e = some i) (hn : n ≤ c) (w : World) :
    (Builtin.append_ #[t, t] ty #[.slice (some a) n c, .slice b 0 c']).run P w = .ok (.slice (some a) n c) w := by
  cases b <;> simp [Builtin.append_, run_underlying ht, sizeOf, typeInfo, hi, Builtin.lenOf, Builtin.firstCells, loadCells, loadCellsFrom, hn, storeCells]
theorem app_grow {H' : Hp} {a : Addr} {x z : Value} {n cap bytes : Nat} {xs ys : List Value} (h : Ow B w H) (hx : xs.length = n) (hc : ∀ i y, xs[i]? = some y → Cell H (a.add i) y) (hs : Sl H' x ys) (hH : ∀ y, y ∈ H' → y ∈ H)
    (hle : n ≤ cap) (hg : cap < n + ys.length) (ht : P.underlying t = some (.slice e)) (hi : (P.info? e).map (fun i => (i.zero, i.size, i.bytes)) = some (some z, 1, bytes)) (hz : z.cells.size = 1) (h63 : n + ys.length ≤ maxLen) (hb : (n + ys.length) * bytes ≤ 140737488355328)
    (k : ∀ S' v' w', Ow B w' (S' ++ H) → Own S' e 1 v' (n + ys.length) (xs ++ ys) → KW v' w') : opW P (Builtin.append_ #[t, t] ty #[.slice (some a) n cap, x]) KW w := by
  obtain ⟨i, h1, h2, h3, h4⟩ := info_of hi
  obtain ⟨b, c, rfl, hcap, hy⟩ := hs
  cases b with
  | none =>
    cases ys with
    | nil => simp at hg; omega
    | cons y ys => obtain ⟨p, hp, _⟩ := hy 0 y rfl; cases hp
  | some b =>
    have hlm : n + ys.length ≤ 9223372036854775807 := by simp only [maxLen] at h63; omega
    have hr := run_append_grow (P := P) w t ty e i z ht h1 h2 a n cap xs (by rw [h3]; omega) (fun j v hj => h.cell (hc j v hj)) b ys.length c ys (by rw [h3]; omega)
      (fun j v hj => by obtain ⟨p, hp, hcell⟩ := hy j v hj; cases hp; exact h.cell (hcell.mono hH)) hg (by omega) (growslice_fits hg (by rw [h4]; exact hb))
    refine ⟨_, _, hr, ?_⟩
    have hge := grownCap_ge w (n + ys.length) cap e
    have hcm : grownCap w (n + ys.length) cap e ≤ maxLen := grownCap_le_maxLen w (n + ys.length) cap e h63
    generalize grownCap w (n + ys.length) cap e = cap' at *
    have he : xs.toArray ++ ys.toArray ++ Builtin.zeroCells z.cells (cap' - (n + ys.length)) = (xs ++ ys ++ (Builtin.zeroCells z.cells (cap' - (n + ys.length))).toList).toArray := by simp
    rw [he]
    refine k [(w.heap.size, cel (xs ++ ys ++ (Builtin.zeroCells z.cells (cap' - (n + ys.length))).toList) e)] _ _ (h.drew.alloc _) ?_
    refine Own.mk hge hcm ?_ ?_
    · have : (Builtin.zeroCells z.cells (cap' - (n + ys.length))).toList.length = cap' - (n + ys.length) := by simp [Builtin.zeroCells, hz]
      simp only [List.length_append, this]
      omega
    · rw [Nat.mul_one]
      exact List.take_left' (by simp [hx])
/-- The slice v holds xs: a row of its own, or a full one. -/
def RdS (e : TypeId) (S : Hp) (v : Value) (xs : List Value) : Prop := Own S e 1 v xs.length xs ∨ ((∃ a, v = .slice (some a) xs.length xs.length) ∧ Sl S v xs)
theorem RdS.sl {S : Hp} {v : Value} {xs : List Value} (h : RdS e S v xs) : Sl S v xs := by
  rcases h with h | h
  · exact h.sl
  · exact h.2
theorem RdS.app {A C S H' : Hp} {v x z : Value} {bytes : Nat} {xs ys : List Value} (h : Ow B w (A ++ S ++ C)) (hr : RdS e S v xs) (hs : Sl H' x ys) (hH : ∀ y, y ∈ H' → y ∈ A ++ S ++ C) (hpos : 0 < ys.length)
    (hp : ys.all plainV = true) (ht : P.underlying t = some (.slice e)) (hi : (P.info? e).map (fun i => (i.zero, i.size, i.bytes)) = some (some z, 1, bytes)) (hz : z.cells.size = 1) (h63 : xs.length + ys.length ≤ maxLen) (hb : (xs.length + ys.length) * bytes ≤ 140737488355328)
    (k : ∀ S' v' w', Ow B w' (A ++ S' ++ C) → Own S' e 1 v' (xs.length + ys.length) (xs ++ ys) → KW v' w') : opW P (Builtin.append_ #[t, t] ty #[v, x]) KW w := by
  rcases hr with hr | ⟨⟨a, rfl⟩, hr⟩
  · exact app1 h hr hs hH hp ht hi hz h63 hb k
  · obtain ⟨b, cap, he, _, hc⟩ := hr
    refine app_grow h rfl (fun i y hy => ?_) hs hH (Nat.le_refl _) (by omega) ht hi hz h63 hb (fun S' v' w' h' ho => ?_)
    · obtain ⟨p, hp', hcell⟩ := hc i y hy
      cases he
      cases hp'
      exact hcell.mono fun y hy => List.mem_append_left _ (List.mem_append_right _ hy)
    · refine k S' v' w' ?_ ho
      have h2 : Ow B w' (S' ++ (A ++ C)) := h'.sub ((List.Sublist.refl S').append (by rw [List.append_assoc]; exact (List.Sublist.refl A).append (List.sublist_append_right _ _)))
      refine h2.perm ?_
      rw [List.append_assoc]
      exact List.perm_append_comm_assoc S' A C
/-- A part that is left: all but one. -/
theorem RdS.cut {A C S : Hp} {v z : Value} {bytes n : Nat} {xs : List Value} (h : Ow B w (A ++ S ++ C)) (hr : RdS e S v xs) (hn : n < xs.length)
    (hp : xs.all plainV = true) (ht : P.underlying t = some (.slice e)) (hi : (P.info? e).map (fun i => (i.zero, i.size, i.bytes)) = some (some z, 1, bytes)) (hz : z.cells.size = 1) (h63 : xs.length ≤ maxLen) (hb : xs.length * bytes ≤ 140737488355328) {c : Nat} (hc : ∃ a, v = .slice a xs.length c)
    (k : ∀ S' v' w', Ow B w' (A ++ S' ++ C) → RdS e S' v' (xs.take n ++ xs.drop (n + 1)) → KW v' w') : opW P (Builtin.append_ #[t, t] ty #[Vc.cut v 0 n n, Vc.cut v (n + 1) xs.length c]) KW w := by
  have hsl := hr.sl
  obtain ⟨a, rfl⟩ := hc
  have hcc : xs.length ≤ c := by
    obtain ⟨b, cap, he, hcap, _⟩ := hsl
    cases he; exact hcap
  have h1 := sl_cut (m := n) hsl (Nat.zero_le n) (by omega) (Nat.le_refl _)
  have h2 := sl_cut (m := c) hsl (show n + 1 ≤ xs.length by omega) (Nat.le_refl _) hcc
  rw [List.drop_zero] at h1
  rw [List.take_length] at h2
  have ha : ∃ p, a = some p := by
    obtain ⟨b, cap, he, hcap, hx⟩ := hsl
    cases he
    obtain ⟨p, hp, _⟩ := hx n xs[n] (List.getElem?_eq_getElem hn)
    exact ⟨p, hp⟩
  obtain ⟨p, rfl⟩ := ha
  have e1 : Vc.cut (.slice (some p) xs.length c) 0 n n = .slice (some p) n n := by
    simp only [Vc.cut, Nat.sub_zero]
    split
    · rfl
    · simp [Addr.add]
  rw [e1] at h1 ⊢
  by_cases hz0 : n + 1 = xs.length
  · obtain ⟨b, cc, e2⟩ : ∃ b cc, Vc.cut (.slice (some p) xs.length c) (n + 1) xs.length c = .slice b 0 cc := ⟨if c = n + 1 then some p else (some p).map (·.add (n + 1)), c - (n + 1), by simp only [Vc.cut, ← hz0, Nat.sub_self]⟩
    rw [e2]
    obtain ⟨i, hi1, _⟩ := info_of hi
    refine ⟨_, _, app_zero ht hi1 (Nat.le_refl _) w, k S _ w h ?_⟩
    have e3 : xs.take n ++ xs.drop (n + 1) = xs.take n := by rw [hz0, List.drop_length, List.append_nil]
    rw [e3]
    have e4 : (xs.take n).length = n := by simp; omega
    exact .inr ⟨⟨p, by rw [e4]⟩, h1⟩
  · have hl1 : (xs.take n).length = n := by simp; omega
    have hl2 : (xs.drop (n + 1)).length = xs.length - (n + 1) := by simp
    refine app_grow (xs := xs.take n) (ys := xs.drop (n + 1)) h hl1 (fun i y hy => ?_) (h2.mono fun y hy => List.mem_append_left _ (List.mem_append_right _ hy)) (fun y hy => hy) (Nat.le_refl _) (by omega) ht hi hz (by omega) (Nat.le_trans (Nat.mul_le_mul_right _ (by omega)) hb) (fun S' v' w' h' ho => ?_)
    · obtain ⟨b, cap, he, _, hx⟩ := h1
      obtain ⟨q, hq, hcell⟩ := hx i y hy
      have he2 := (Value.slice.inj he).1
      rw [hq] at he2
      cases he2
      exact hcell.mono fun y hy => List.mem_append_left _ (List.mem_append_right _ hy)
    · refine k S' v' w' ?_ (.inl (by rw [List.length_append, hl1]; exact ho))
      have h2 : Ow B w' (S' ++ (A ++ C)) := h'.sub ((List.Sublist.refl S').append (by rw [List.append_assoc]; exact (List.Sublist.refl A).append (List.sublist_append_right _ _)))
      refine h2.perm ?_
      rw [List.append_assoc]
      exact List.perm_append_comm_assoc S' A C
theorem PF.app {H : Hp} {f : Value} {xs : List Value} {r : Value} (h : PF P B H f xs r) : ∀ X : Hp, PF P B (X ++ H) f xs r
  | [] => h
  | _ :: X => PF.cons (PF.app h X)
theorem Sl.cap {s : Value} {xs : List Value} (hs : Sl H s xs) : ∃ a c, s = .slice a xs.length c ∧ xs.length ≤ c := by
  obtain ⟨a, c, he, hc, _⟩ := hs
  exact ⟨a, c, he, hc⟩
theorem eq_slnil {t e : TypeId} (ht : P.underlying t = some (.slice e)) (a : Option Addr) (n c : Nat) (w : World) : (Op.equal t (.slice a n c) (.slice none 0 0)).run P w = .ok a.isNone w := by
  have : ∀ d, (Op.equalIn (d + 1) t (.slice a n c) (.slice none 0 0)).run P w = .ok a.isNone w := fun d => by cases a <;> simp only [Op.equalIn, Sem.run_bind, run_und ht, Result.andThen, Sem.run_pure, Option.isNone]
  exact this 9999
theorem pu_slnil {t e : TypeId} {c : Bool} {KK : Value → Prop} (ht : P.underlying t = some (.slice e)) {a : Option Addr} {n cc : Nat} (k : KK (vB a.isNone)) : pu P (binV .eql t c (.slice a n cc) (.slice none 0 0)) KK :=
  pu_of (binV_run rfl (fun w => run_eqB (eq_slnil ht a n cc w))) k
/-- A read of an own slice's element of two cells. -/
theorem own2_ld {S : Hp} {v a b : Value} {n : Nat} {xs : List Value} {i : Int} {kd : IntKind} {K : Value → Prop} (h : Ow B w H) (ho : Own S e 2 v n xs) (hS : ∀ x, x ∈ S → x ∈ H) (h0 : 0 ≤ i) (h1 : i < n) (ha : xs[i.toNat * 2]? = some a) (hb : xs[i.toNat * 2 + 1]? = some b)
    (k : K (.agg #[a, b])) : ixS 2 v (.int kd i) fun p => ldW (some 2) p w K := by
  obtain ⟨hl, ⟨rfl, rfl, rfl⟩ | ⟨g, cap, l, rfl, rfl, hcap, hm, hlen, hx⟩⟩ := ho
  · omega
  · refine ixS_at h0 h1 ?_
    refine ldn_here h (hS _ (.head _)) (vs := [a, b]) ?_ rfl k
    have hlt : i.toNat * 2 + 1 < l.length := by omega
    have e1 : l[i.toNat * 2]? = some a := by
      rw [← hx, List.getElem?_take] at ha
      split at ha
      · exact ha
      · cases ha
    have e2 : l[i.toNat * 2 + 1]? = some b := by
      rw [← hx, List.getElem?_take] at hb
      split at hb
      · exact hb
      · cases hb
    rw [List.getElem?_eq_getElem (by omega)] at e1 e2
    cases e1
    cases e2
    rw [Nat.zero_add, List.drop_eq_getElem_cons (by omega), List.drop_eq_getElem_cons (by omega)]
    rfl
end
end Go.Proofs.Ytaifohjgamhhnaa.Vc
namespace Go.Proofs.Ytaifohjgamhhnaa
open Go Go.RowKit Vc Vd
attribute [local irreducible] binV Op.unary convert nlW faW ldS ldW ixS ixA ixV ixT exW lnS lnT pu stW alW opW opU bsW mkW

section
variable {B w : World} {H : Hp} {K : Value → World → Prop} {PK : List PanicEntry → World → Prop}
theorem und_int : PG.underlying T.t_int = some (.int .i64) := by kernel_rfl
theorem und_sli : PG.underlying T.t_sl_int = some (.slice T.t_int) := by kernel_rfl
theorem info_int : (PG.info? T.t_int).map (fun i => (i.zero, i.size, i.bytes)) = some (some (vI 0), 1, 8) := by kernel_rfl
/-- What the first of asks that is so says. -/
def FirstR (B : World) (H : Hp) : List (Value × Int) → Int → Prop
  | [], r => r = 0
  | (f, e) :: xs, r => ∃ b : Bool, PF PG B H f [] (vB b) ∧ if b = true then r = e else FirstR B H xs r
theorem FirstR.app {r : Int} : ∀ {xs : List (Value × Int)}, FirstR B H xs r → ∀ X : Hp, FirstR B (X ++ H) xs r
  | [], h, X => h
  | (f, e) :: xs, ⟨b, h1, h2⟩, X => ⟨b, h1.app X, by
    split
    · rename_i hb; rw [if_pos hb] at h2; exact h2
    · rename_i hb; rw [if_neg hb] at h2; exact FirstR.app h2 X⟩
def flat (xs : List (Value × Int)) : List Value := xs.flatMap fun p => [p.1, vI p.2]
theorem flat_len (xs : List (Value × Int)) : (flat xs).length = xs.length * 2 := by
  unfold flat
  induction xs with
  | nil => rfl
  | cons x xs ih => simp [ih]; omega
theorem flat_at : ∀ {xs : List (Value × Int)} {i : Nat} {f : Value} {e : Int}, xs[i]? = some (f, e) → (flat xs)[i * 2]? = some f ∧ (flat xs)[i * 2 + 1]? = some (vI e)
  | x :: xs, 0, f, e, h => by simp only [List.getElem?_cons_zero, Option.some.injEq] at h; subst h; exact ⟨rfl, rfl⟩
  | x :: xs, i + 1, f, e, h => by
    have := flat_at (xs := xs) (i := i) (by simpa using h)
    have e1 : flat (x :: xs) = x.1 :: vI x.2 :: flat xs := by simp [flat]
    rw [e1, show (i + 1) * 2 = i * 2 + 1 + 1 by omega, List.getElem?_cons_succ, List.getElem?_cons_succ]
    exact ⟨this.1, by rw [List.getElem?_cons_succ, List.getElem?_cons_succ]; exact this.2⟩
theorem flat_plain {xs : List (Value × Int)} (h : ∀ p ∈ xs, isFnV p.1 = true) : (flat xs).all plainV = true := by
  refine List.all_eq_true.2 fun v hv => ?_
  obtain ⟨p, hp, hv⟩ := List.mem_flatMap.1 hv
  rcases List.mem_cons.1 hv with rfl | hv
  · exact fn_plain (h p hp)
  · rw [List.mem_singleton.1 hv]; rfl
theorem first_spec {S : Hp} {v : Value} {xs : List (Value × Int)} {r : Int} (h : Ow B w H) (ho : Vc.Own S T.t_rwlock_ask 2 v xs.length (flat xs)) (hS : ∀ x, x ∈ S → x ∈ H) (hlen : xs.length < 100) (hf : ∀ p ∈ xs, isFnV p.1 = true) (hr : FirstR B H xs r)
    (k : ∀ w', Ow B w' H → K (vI r) w') : callW PG N.rwlock_first [v] K PK w := by
  refine rwlock_first.ok ?_
  unfold rwlock_first.C
  obtain ⟨a, c, hv⟩ := ho.len
  have hln : ∀ K : Value → Prop, K (vI xs.length) → lnS v K := fun K k => by rw [hv]; exact ln_rule k
  refine hln _ ?_
  refine ⟨fun l w => ∃ i : Nat, l = [vI i] ∧ i ≤ xs.length ∧ FirstR B H (xs.drop i) r ∧ Ow B w H, fun l _ => match l with | [.int _ n] => xs.length - n.toNat | _ => 0, ⟨0, rfl, Nat.zero_le _, hr, h⟩, ?_⟩
  rintro l w1 ⟨i, rfl, hi, hri, h1⟩ j
  repeat (first | refine pu_not ?_ | refine pu_eql ?_ | refine pu_neq ?_ | refine pu_lss ?_ | refine pu_leq ?_ | refine pu_gtr ?_ | refine pu_geq ?_ | refine pu_add ?_ | refine pu_sub ?_ | refine pu_mul ?_ | refine pu_neg ?_ | refine fa_at ?_ | refine nl_ptr ?_ | refine ex20 ?_ | refine ex21 ?_ | refine ex30 ?_ | refine ex31 ?_ | refine ex32 ?_ | refine ln_rule ?_ | refine lnT_rule ?_ | refine pu_and ?_ | refine pu_or ?_ | refine pu_xor ?_ | refine pu_seq ?_ | refine pu_sne ?_)
  refine cnd (fun hlt => ?_) (fun hlt => ?_)
  · have hlt : i < xs.length := by simpa using hlt
    obtain ⟨⟨f, e⟩, hfe⟩ : ∃ p, xs[i]? = some p := ⟨_, List.getElem?_eq_getElem hlt⟩
    obtain ⟨e1, e2⟩ := flat_at hfe
    have hfn := hf _ (List.mem_of_getElem? hfe)
    have hd : xs.drop i = (f, e) :: xs.drop (i + 1) := by
      rw [List.drop_eq_getElem_cons hlt]
      rw [List.getElem?_eq_getElem hlt] at hfe
      rw [Option.some.inj hfe]
    rw [hd] at hri
    obtain ⟨b, hpf, hb⟩ := hri
    refine own2_ld h1 ho hS (by omega) (by omega) (by rw [Int.toNat_natCast]; exact e1) (by rw [Int.toNat_natCast]; exact e2) ?_
    refine al_rule h1 (l := [.nilFunc, vI 0]) (by kernel_rfl) (fun b2 w2 h2 => ?_)
    refine st_here (A := []) h2 [f, vI e] rfl rfl (by simp only [List.all_cons, fn_plain hfn]; rfl) (by simp) (fun w3 h3 => ?_)
    simp only [List.take_zero, List.nil_append, Nat.zero_add, List.drop_succ_cons, List.drop_zero, List.drop_nil, List.append_nil] at h3
    repeat (first | refine pu_not ?_ | refine pu_eql ?_ | refine pu_neq ?_ | refine pu_lss ?_ | refine pu_leq ?_ | refine pu_gtr ?_ | refine pu_geq ?_ | refine pu_add ?_ | refine pu_sub ?_ | refine pu_mul ?_ | refine pu_neg ?_ | refine fa_at ?_ | refine nl_ptr ?_ | refine ex20 ?_ | refine ex21 ?_ | refine ex30 ?_ | refine ex31 ?_ | refine ex32 ?_ | refine ln_rule ?_ | refine lnT_rule ?_ | refine pu_and ?_ | refine pu_or ?_ | refine pu_xor ?_ | refine pu_seq ?_ | refine pu_sne ?_)
    refine ld_here h3 (.head _) rfl ?_
    refine hpf [_] _ _ _ h3 (fun w4 h4 => ?_)
    refine cnd (fun hbt => ?_) (fun hbf => ?_)
    · rw [if_pos hbt] at hb
      subst hb
      repeat (first | refine pu_not ?_ | refine pu_eql ?_ | refine pu_neq ?_ | refine pu_lss ?_ | refine pu_leq ?_ | refine pu_gtr ?_ | refine pu_geq ?_ | refine pu_add ?_ | refine pu_sub ?_ | refine pu_mul ?_ | refine pu_neg ?_ | refine fa_at ?_ | refine nl_ptr ?_ | refine ex20 ?_ | refine ex21 ?_ | refine ex30 ?_ | refine ex31 ?_ | refine ex32 ?_ | refine ln_rule ?_ | refine lnT_rule ?_ | refine pu_and ?_ | refine pu_or ?_ | refine pu_xor ?_ | refine pu_seq ?_ | refine pu_sne ?_)
      refine ld_here h4 (.head _) rfl ?_
      exact k _ h4.drop
    · rw [if_neg (by simp [hbf])] at hb
      repeat (first | refine pu_not ?_ | refine pu_eql ?_ | refine pu_neq ?_ | refine pu_lss ?_ | refine pu_leq ?_ | refine pu_gtr ?_ | refine pu_geq ?_ | refine pu_add ?_ | refine pu_sub ?_ | refine pu_mul ?_ | refine pu_neg ?_ | refine fa_at ?_ | refine nl_ptr ?_ | refine ex20 ?_ | refine ex21 ?_ | refine ex30 ?_ | refine ex31 ?_ | refine ex32 ?_ | refine ln_rule ?_ | refine lnT_rule ?_ | refine pu_and ?_ | refine pu_or ?_ | refine pu_xor ?_ | refine pu_seq ?_ | refine pu_sne ?_)
      rw [wrap64_in (by omega) (by omega)]
      exact ⟨⟨i + 1, rfl, hlt, hb, h4.drop⟩, by simp; omega⟩
  · obtain rfl : i = xs.length := by simp at hlt; omega
    rw [List.drop_length] at hri
    obtain rfl : r = 0 := hri
    exact k _ h1
theorem clone_spec {s : Value} {xs : List Value} {X0 : Hp} (h : Ow B w H) (hs : Sl X0 s xs) (hp : xs.all plainV = true) (hX : ∀ x, x ∈ X0 → x ∈ H) (hl : xs.length < 1000000) (k : ∀ S v w', Ow B w' (S ++ H) → Vc.Own S T.t_int 1 v xs.length xs → K v w') : callW PG N.slices_Clone_sl_int_int [s] K PK w := by
  refine slices_Clone_sl_int_int.ok ?_
  unfold slices_Clone_sl_int_int.C
  obtain ⟨a, c, hse, hc⟩ := Sl.cap hs
  have hcase : a = none → xs = [] := fun ha => by
    obtain ⟨a', c', he, _, hx⟩ := hs
    rw [hse] at he
    cases he
    cases xs with
    | nil => rfl
    | cons x l => obtain ⟨p, hp, _⟩ := hx 0 _ rfl; rw [ha] at hp; cases hp
  have hgoal : ∀ (KK : Value → Prop), KK (vB a.isNone) → pu PG (binV .eql T.t_sl_int true s (.slice none 0 0)) KK := fun KK k => by
    rw [hse]; exact pu_slnil und_sli k
  refine hgoal _ ?_
  refine cnd (fun hn => ?_) (fun hn => ?_)
  · have ha : a = none := by simpa using hn
    have := hcase ha
    subst this
    exact k [] _ _ h (own_none _ _)
  · refine bs_rule h [] (by kernel_rfl) (fun b1 w1 h1 => ?_)
    refine app1 (A := []) (S := [(b1, cel [] T.t_int)]) (z := vI 0) (bytes := 8) h1 (Own.mk (n := 0) (cap := 0) (xs := []) (Nat.le_refl _) (Nat.zero_le _) rfl rfl) hs (fun y hy => .tail _ (hX y hy)) hp und_sli info_int rfl (by simp [maxLen]; omega) (by simp; omega) (fun S p w2 h2 ho => ?_)
    refine k S p w2 h2 ?_
    simpa using ho
end
end Go.Proofs.Ytaifohjgamhhnaa
