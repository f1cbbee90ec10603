/- Locks: the document's. -/
import Derived.Test.YtaifohjgamhhnaaVdG
import Derived.Test.YtaifohjgamhhnaaVnS
set_option linter.unusedVariables false
set_option linter.unusedSimpArgs false
namespace Go.Proofs.Ytaifohjgamhhnaa
open Go Go.RowKit Vc Vd
attribute [local irreducible] binV Op.unary convert nlW faW ldS ldW ixS ixA ixV ixT exW lnS lnT pu stW alW opW opU bsW mkW

section
variable {B w : World} {H : Hp} {Q : World → Prop} {KK : Value → Prop} {s : Value} {size : Nat} {xs : List (List Value)} {x : List Value} {v : Value} {j : Nat} {n : Int} {kd : IntKind}
theorem sls_fld (h : Ow B w H) (hs : Sls H s size xs) (h0 : 0 ≤ n) (hv : xs[n.toNat]? = some x) (hj : x[j]? = some v) (k : KK v) : ixS size s (.int kd n) fun p => faW j p fun q => ldW none q w KK := by
  obtain ⟨a, cap, rfl, h1, h2, h3, h4⟩ := hs
  obtain ⟨p, rfl, hc⟩ := h4 _ _ hv
  have hlt := (List.getElem?_eq_some_iff.1 hv).1
  refine ixS_rule h0 (by omega) ?_
  refine fa_rule ?_
  rw [Go.Deep.add_add]
  exact ld_cell h (hc j v hj) k
theorem sls_flds (h : ∀ w, Q w → Ow B w H) (hs : Sls H s size xs) (h0 : 0 ≤ n) (hv : xs[n.toNat]? = some x) (hj : x[j]? = some v) (k : KK v) : ixS size s (.int kd n) fun p => faW j p fun q => ldS none q Q KK := by
  obtain ⟨a, cap, rfl, h1, h2, h3, h4⟩ := hs
  obtain ⟨p, rfl, hc⟩ := h4 _ _ hv
  have hlt := (List.getElem?_eq_some_iff.1 hv).1
  refine ixS_rule h0 (by omega) ?_
  refine fa_rule ?_
  rw [Go.Deep.add_add]
  exact lds_cell h (hc j v hj) k
theorem drp {S : Hp} (h : Ow B w (S ++ H)) : Ow B w H := h.sub (List.sublist_append_right _ _)
theorem cutH (hs : Sl H s x) (h0 : 0 ≤ n) (h3 : n ≤ x.length) (k : ∀ u, Sl H u (x.take n.toNat) → KK u) : pu PG (Instr.sliceAt T.t_sl_int s none (some (vI n)) none) KK := by
  obtain ⟨a, c, rfl, hc⟩ := Sl.cap hs
  refine pu_cutH und_sli int1 h0 (by omega) (k _ ?_)
  have := sl_cut (l := 0) (h := n.toNat) (m := c) hs (by omega) (by omega) (by omega)
  rwa [List.drop_zero] at this
theorem cutL (hs : Sl H s x) (h0 : 0 ≤ n) (h3 : n ≤ x.length) (k : ∀ u, Sl H u (x.drop n.toNat) → KK u) : pu PG (Instr.sliceAt T.t_sl_int s (some (vI n)) none none) KK := by
  obtain ⟨a, c, rfl, hc⟩ := Sl.cap hs
  refine pu_cutL und_sli int1 h0 (by omega) (k _ ?_)
  have := sl_cut (l := n.toNat) (h := x.length) (m := c) hs (by omega) (by omega) (by omega)
  rwa [List.take_length] at this
/-- A row of its own, of elements of two cells. -/
theorem own_sls {S : Hp} {e : TypeId} (hl : ∀ x ∈ xs, x.length = 2) (h : Vc.Own S e 2 v xs.length xs.flatten) : Sls S v 2 xs := by
  obtain ⟨h1, ⟨rfl, rfl, h0⟩ | ⟨g, cap, l, rfl, rfl, hc, hm, hlen, hx⟩⟩ := h
  · have : xs = [] := List.eq_nil_of_length_eq_zero h0
    subst this
    exact ⟨none, 0, rfl, Nat.zero_le _, Nat.zero_le _, by simp, by simp⟩
  · refine ⟨some ⟨g, 0, none⟩, cap, rfl, hc, hm, hl, fun i x hi => ⟨_, rfl, fun j y hj => ?_⟩⟩
    rw [add_mk]
    refine cell_here (.head _) ?_
    have hj2 : j < 2 := by
      have := (List.getElem?_eq_some_iff.1 hj).1
      rw [hl x (List.mem_of_getElem? hi)] at this
      exact this
    have hi2 := (List.getElem?_eq_some_iff.1 hi).1
    have key : ∀ (xs : List (List Value)) (i : Nat), (∀ x ∈ xs, x.length = 2) → xs[i]? = some x → xs.flatten[i * 2 + j]? = some y := by
      intro xs
      induction xs with
      | nil => intro i _ h; simp at h
      | cons z xs ih =>
        intro i hz h
        have hzl := hz z (.head _)
        cases i with
        | zero =>
          simp only [List.getElem?_cons_zero, Option.some.injEq] at h
          subst h
          rw [List.flatten_cons, List.getElem?_append_left (by omega)]
          simpa using hj
        | succ i =>
          rw [List.flatten_cons, List.getElem?_append_right (by omega), hzl, show (i + 1) * 2 + j - 2 = i * 2 + j by omega]
          exact ih i (fun x hx => hz x (.tail _ hx)) (by simpa using h)
    have := key xs i hl hi
    rw [← hx, List.getElem?_take] at this
    split at this
    · simpa using this
    · cases this
theorem flatten_len (hl : ∀ x ∈ xs, x.length = 2) : xs.flatten.length = xs.length * 2 := by
  induction xs with
  | nil => rfl
  | cons x xs ih =>
    rw [List.flatten_cons, List.length_append, hl x (.head _), ih fun y hy => hl y (.tail _ hy), List.length_cons]
    omega
theorem flatten_set {a b : Value} (hl : ∀ x ∈ xs, x.length = 2) {i : Nat} (hi : i < xs.length) : (xs.set i [a, b]).flatten = xs.flatten.take (i * 2) ++ [a, b] ++ xs.flatten.drop (i * 2 + 2) := by
  induction xs generalizing i with
  | nil => simp at hi
  | cons x xs ih =>
    have hx := hl x (.head _)
    obtain ⟨p, q, rfl⟩ : ∃ p q, x = [p, q] := by
      match x, hx with
      | [p, q], _ => exact ⟨p, q, rfl⟩
    cases i with
    | zero => simp
    | succ i =>
      rw [List.set_cons_succ, List.flatten_cons, List.flatten_cons, ih (fun y hy => hl y (.tail _ hy)) (by simpa using hi), show (i + 1) * 2 = i * 2 + 1 + 1 by omega]
      simp
theorem Sls.src (h : Sls H s size xs) (hsz : size = 2) : Src H s xs.length 2 xs.flatten := by
  subst hsz
  obtain ⟨a, cap, rfl, h1, h2, h3, h4⟩ := h
  refine ⟨flatten_len h3, a, cap, rfl, fun j y hj => ?_⟩
  have key : ∀ (xs : List (List Value)) (j : Nat), (∀ x ∈ xs, x.length = 2) → xs.flatten[j]? = some y → ∃ x, xs[j / 2]? = some x ∧ x[j % 2]? = some y := by
    intro xs
    induction xs with
    | nil => intro j _ h; simp at h
    | cons z xs ih =>
      intro j hz h
      have hzl := hz z (.head _)
      rw [List.flatten_cons] at h
      by_cases hj : j < 2
      · rw [List.getElem?_append_left (by omega)] at h
        exact ⟨z, by rw [Nat.div_eq_of_lt hj]; rfl, by rw [Nat.mod_eq_of_lt hj]; exact h⟩
      · rw [List.getElem?_append_right (by omega), hzl] at h
        obtain ⟨x, e1, e2⟩ := ih (j - 2) (fun x hx => hz x (.tail _ hx)) h
        refine ⟨x, ?_, ?_⟩
        · rw [show j / 2 = (j - 2) / 2 + 1 by omega, List.getElem?_cons_succ]; exact e1
        · rw [show j % 2 = (j - 2) % 2 by omega]; exact e2
  obtain ⟨x, e1, e2⟩ := key xs j h3 hj
  obtain ⟨p, hp, hc⟩ := h4 _ x e1
  refine ⟨p, hp, ?_⟩
  have := hc _ y e2
  rwa [show j / 2 * 2 + j % 2 = j by omega] at this
end
section
variable {B w : World} {H X : Hp} {K : Value → World → Prop} {PK : List PanicEntry → World → Prop} {KK : Value → Prop} {L : List Lk} {m : Nat} {i y : Int} {s : Value}
def rows (ps : List (Value × Lk)) : List (List Value) := ps.map fun p => [p.1, vI p.2.wr]
theorem rows_two (ps : List (Value × Lk)) : ∀ x ∈ rows ps, x.length = 2 := fun x hx => by
  obtain ⟨p, _, rfl⟩ := List.mem_map.1 hx
  rfl
/-- Locks as the document keeps them. -/
def rl (X : Hp) (s : Value) (L : List Lk) : Prop := ∃ ps : List (Value × Lk), ps.map Prod.snd = L ∧ Sls X s 2 (rows ps) ∧ ∀ p ∈ ps, Sl X p.1 (iv p.2.rd)
theorem rl.mono {Y : Hp} (h : rl X s L) (hs : ∀ x, x ∈ X → x ∈ Y) : rl Y s L := by
  obtain ⟨ps, h1, h2, h3⟩ := h
  exact ⟨ps, h1, h2.mono hs, fun p hp => (h3 p hp).mono hs⟩
theorem rl.ln (h : rl X s L) (k : KK (vI L.length)) : lnS s KK := by
  obtain ⟨ps, h1, h2, h3⟩ := h
  refine sls_ln h2 ?_
  have : (rows ps).length = L.length := by rw [← h1]; simp [rows]
  rw [this]; exact k
theorem rl.at (h : rl X s L) (h0 : 0 ≤ i) (h1 : i < L.length) : ∃ (ps : List (Value × Lk)) (v : Value), ps.map Prod.snd = L ∧ Sls X s 2 (rows ps) ∧ (∀ p ∈ ps, Sl X p.1 (iv p.2.rd)) ∧ (rows ps)[i.toNat]? = some [v, vI (gk L i).wr] ∧ Sl X v (iv (gk L i).rd) := by
  obtain ⟨ps, e1, e2, e3⟩ := h
  have hl : ps.length = L.length := by rw [← e1]; simp
  have hlt : i.toNat < ps.length := by omega
  have hk : ps[i.toNat].2 = gk L i := by
    have := lk_some h0 h1
    rw [← e1, List.getElem?_map, List.getElem?_eq_getElem hlt] at this
    rw [← e1]
    exact Option.some.inj this
  refine ⟨ps, ps[i.toNat].1, e1, e2, e3, ?_, ?_⟩
  · rw [rows, List.getElem?_map, List.getElem?_eq_getElem hlt, Option.map_some, hk]
  · rw [← hk]; exact e3 _ (List.getElem_mem hlt)
theorem rl.cells (h : rl X s L) : s.cells = #[s] := by
  obtain ⟨ps, h1, ⟨a, cap, rfl, _⟩, h3⟩ := h
  rfl
theorem rl.plain (h : rl X s L) : plainV s = true := by
  obtain ⟨ps, h1, ⟨a, cap, rfl, _⟩, h3⟩ := h
  rfl
theorem right_spec (h : Ow B w H) (hr : rl H s L) (k : ∀ w', Ow B w' H → K (vI (right L i y)) w') : callW PG N.linesmanref14_Locks_right [.agg #[s], vI i, vI y] K PK w := by
  refine linesmanref14_Locks_right.ok ?_
  unfold linesmanref14_Locks_right.C
  refine al_rule h (l := [s]) rfl (fun b1 w1 h1 => ?_)
  repeat (first | refine pu_not ?_ | refine pu_eql ?_ | refine pu_neq ?_ | refine pu_lss ?_ | refine pu_leq ?_ | refine pu_gtr ?_ | refine pu_geq ?_ | refine pu_add ?_ | refine pu_sub ?_ | refine pu_mul ?_ | refine pu_neg ?_ | refine fa_at ?_ | refine nl_ptr ?_ | refine ex20 ?_ | refine ex21 ?_ | refine ex30 ?_ | refine ex31 ?_ | refine ex32 ?_ | refine ln_rule ?_ | refine lnT_rule ?_ | refine pu_and ?_ | refine pu_or ?_ | refine pu_xor ?_ | refine pu_seq ?_ | refine pu_sne ?_)
  refine cnd (fun h0 => ?_) (fun h0 => ?_)
  · have e : right L i y = 2 := by unfold right; rw [if_pos (by simp at h0; omega)]
    rw [e] at k; exact k _ h1.drop
  repeat (first | refine pu_not ?_ | refine pu_eql ?_ | refine pu_neq ?_ | refine pu_lss ?_ | refine pu_leq ?_ | refine pu_gtr ?_ | refine pu_geq ?_ | refine pu_add ?_ | refine pu_sub ?_ | refine pu_mul ?_ | refine pu_neg ?_ | refine fa_at ?_ | refine nl_ptr ?_ | refine ex20 ?_ | refine ex21 ?_ | refine ex30 ?_ | refine ex31 ?_ | refine ex32 ?_ | refine ln_rule ?_ | refine lnT_rule ?_ | refine pu_and ?_ | refine pu_or ?_ | refine pu_xor ?_ | refine pu_seq ?_ | refine pu_sne ?_)
  refine cnd (fun h2 => ?_) (fun h2 => ?_)
  · have e : right L i y = 2 := by unfold right; rw [if_pos (by simp at h2; omega)]
    rw [e] at k; exact k _ h1.drop
  have hy : ¬ (y < 0 ∨ 65535 < y) := by simp at h0 h2; omega
  repeat (first | refine pu_not ?_ | refine pu_eql ?_ | refine pu_neq ?_ | refine pu_lss ?_ | refine pu_leq ?_ | refine pu_gtr ?_ | refine pu_geq ?_ | refine pu_add ?_ | refine pu_sub ?_ | refine pu_mul ?_ | refine pu_neg ?_ | refine fa_at ?_ | refine nl_ptr ?_ | refine ex20 ?_ | refine ex21 ?_ | refine ex30 ?_ | refine ex31 ?_ | refine ex32 ?_ | refine ln_rule ?_ | refine lnT_rule ?_ | refine pu_and ?_ | refine pu_or ?_ | refine pu_xor ?_ | refine pu_seq ?_ | refine pu_sne ?_)
  refine cnd (fun h3 => ?_) (fun h3 => ?_)
  · have e : right L i y = 4 := by unfold right; rw [if_neg hy, if_neg (by simp at h3; omega)]
    rw [e] at k; exact k _ h1.drop
  repeat (first | refine pu_not ?_ | refine pu_eql ?_ | refine pu_neq ?_ | refine pu_lss ?_ | refine pu_leq ?_ | refine pu_gtr ?_ | refine pu_geq ?_ | refine pu_add ?_ | refine pu_sub ?_ | refine pu_mul ?_ | refine pu_neg ?_ | refine fa_at ?_ | refine nl_ptr ?_ | refine ex20 ?_ | refine ex21 ?_ | refine ex30 ?_ | refine ex31 ?_ | refine ex32 ?_ | refine ln_rule ?_ | refine lnT_rule ?_ | refine pu_and ?_ | refine pu_or ?_ | refine pu_xor ?_ | refine pu_seq ?_ | refine pu_sne ?_)
  refine ld_here h1 (.head _) rfl ?_
  refine rl.ln hr ?_
  repeat (first | refine pu_not ?_ | refine pu_eql ?_ | refine pu_neq ?_ | refine pu_lss ?_ | refine pu_leq ?_ | refine pu_gtr ?_ | refine pu_geq ?_ | refine pu_add ?_ | refine pu_sub ?_ | refine pu_mul ?_ | refine pu_neg ?_ | refine fa_at ?_ | refine nl_ptr ?_ | refine ex20 ?_ | refine ex21 ?_ | refine ex30 ?_ | refine ex31 ?_ | refine ex32 ?_ | refine ln_rule ?_ | refine lnT_rule ?_ | refine pu_and ?_ | refine pu_or ?_ | refine pu_xor ?_ | refine pu_seq ?_ | refine pu_sne ?_)
  refine cnd (fun h4 => ?_) (fun h4 => ?_)
  · have e : right L i y = 4 := by unfold right; rw [if_neg hy, if_neg (by simp at h4; omega)]
    rw [e] at k; exact k _ h1.drop
  · have e : right L i y = 0 := by unfold right; rw [if_neg hy, if_pos (by simp at h3 h4; omega)]
    rw [e] at k; exact k _ h1.drop
theorem und_sllk : PG.underlying T.t_sl_linesmanref14_Lock = some (.slice T.t_linesmanref14_Lock) := by kernel_rfl
theorem info_lk : (PG.info? T.t_linesmanref14_Lock).map (fun i => (i.zero, i.size, i.bytes)) = some (some (.agg #[.slice none 0 0, vI 0]), 2, 32) := by kernel_rfl
theorem with_spec {v : Value} {rd : List Int} {r : Int} (h : Ow B w H) (hr : rl X s L) (hX : ∀ x, x ∈ X → x ∈ H) (hv : Sl X v (iv rd)) (h0 : 0 ≤ i) (h1 : i < L.length) (hlen : L.length ≤ 64)
    (k : ∀ S s' w', rl (S ++ X) s' (L.set i.toNat ⟨rd, r⟩) → Ow B w' (S ++ H) → K (.agg #[s']) w') : callW PG N.linesmanref14_Locks_with [.agg #[s], vI i, .agg #[v, vI r]] K PK w := by
  refine linesmanref14_Locks_with.ok ?_
  unfold linesmanref14_Locks_with.C
  obtain ⟨ps, e1, e2, e3⟩ := hr
  have hl : ps.length = L.length := by rw [← e1]; simp
  have hrl : (rows ps).length = ps.length := by simp [rows]
  refine al_rule h (l := [s]) rfl (fun b1 w1 h1 => ?_)
  refine al_rule h1 (l := [v, vI r]) rfl (fun b2 w2 h2 => ?_)
  refine al_rule h2 (l := [.slice none 0 0]) (by kernel_rfl) (fun b3 w3 h3 => ?_)
  refine bs_rule h3 [] (by kernel_rfl) (fun b4 w4 h4 => ?_)
  repeat (first | refine pu_not ?_ | refine pu_eql ?_ | refine pu_neq ?_ | refine pu_lss ?_ | refine pu_leq ?_ | refine pu_gtr ?_ | refine pu_geq ?_ | refine pu_add ?_ | refine pu_sub ?_ | refine pu_mul ?_ | refine pu_neg ?_ | refine fa_at ?_ | refine nl_ptr ?_ | refine ex20 ?_ | refine ex21 ?_ | refine ex30 ?_ | refine ex31 ?_ | refine ex32 ?_ | refine ln_rule ?_ | refine lnT_rule ?_ | refine pu_and ?_ | refine pu_or ?_ | refine pu_xor ?_ | refine pu_seq ?_ | refine pu_sne ?_)
  refine ld_here h4 (.tail _ (.tail _ (.tail _ (.head _)))) rfl ?_
  obtain ⟨inf, i1, i2, i3, i4⟩ := info_of info_lk
  refine app_rule (A := []) (S := [(b4, cel [] T.t_linesmanref14_Lock)]) (xs := []) (n := 0) (H := X) h4 (Own.mk (n := 0) (cap := 0) (xs := []) (Nat.le_refl _) (Nat.zero_le _) rfl rfl) (Sls.src e2 rfl) (fun y hy => .tail _ (.tail _ (.tail _ (.tail _ (hX y hy))))) ?_ und_sllk i1 i2 i3 i4 rfl (by omega) (by simp [maxLen, hrl]; omega) (by simp [hrl]; omega) (fun S' v' w5 h5 ho => ?_)
  · refine List.all_eq_true.2 fun u hu => ?_
    obtain ⟨x, hx, hu⟩ := List.mem_flatten.1 hu
    obtain ⟨p, hp, rfl⟩ := List.mem_map.1 hx
    rcases List.mem_cons.1 hu with rfl | hu
    · exact sl_plain (e3 p hp)
    · rw [List.mem_singleton.1 hu]; rfl
  rw [Nat.zero_add, List.nil_append] at ho
  refine ldn_here h5 (List.mem_append_right _ (.tail _ (.head _))) (vs := [v, vI r]) rfl rfl ?_
  obtain ⟨q1, ⟨_, _, q0⟩ | ⟨g, cap, l, rfl, rfl, hc, hm, hlen2, hx⟩⟩ := ho
  · omega
  refine ixS_at h0 (by omega) ?_
  have h5' : Ow B w5 ((g, cel l T.t_linesmanref14_Lock) :: (b3, cel [.slice none 0 0] T.t_linesmanref14_Locks) :: (b2, cel [v, vI r] T.t_linesmanref14_Lock) :: (b1, cel [s] T.t_linesmanref14_Locks) :: H) := by simpa using h5
  refine st_here (A := []) h5' [v, vI r] rfl rfl (by simp only [List.all_cons, sl_plain hv]; rfl) (by omega) (fun w6 h6 => ?_)
  refine pu_build [.slice (some ⟨g, 0, none⟩) (rows ps).length cap] (by kernel_rfl) ?_
  refine st1s (A := [_]) h6 rfl (fun w7 h7 => ?_)
  refine ld1 h7 (.tail _ (.head _)) ?_
  have hps : (ps.set i.toNat (v, ⟨rd, r⟩)).map Prod.snd = L.set i.toNat ⟨rd, r⟩ := by rw [List.map_set, e1]
  have hrs : rows (ps.set i.toNat (v, ⟨rd, r⟩)) = (rows ps).set i.toNat [v, vI r] := by unfold rows; rw [List.map_set]
  have hle : i.toNat * 2 + 2 ≤ (rows ps).length * 2 := by omega
  refine k [(g, cel (l.take (0 + i.toNat * 2) ++ [v, vI r] ++ l.drop (0 + i.toNat * 2 + 2)) T.t_linesmanref14_Lock)] _ _ ⟨ps.set i.toNat (v, ⟨rd, r⟩), hps, ?_, ?_⟩ ?_
  · refine Sls.mono ?_ fun x hx => List.mem_append_left _ hx
    refine own_sls (e := T.t_linesmanref14_Lock) (rows_two _) ?_
    rw [hrs, List.length_set, flatten_set (rows_two ps) (by omega), ← hx]
    refine Own.mk hc hm (by simp; omega) ?_
    rw [Nat.zero_add, List.take_append, List.take_append, List.take_take, List.take_take, List.length_append, List.length_take, List.drop_take]
    have a1 : min (i.toNat * 2) l.length = i.toNat * 2 := by omega
    have a2 : min (i.toNat * 2) ((rows ps).length * 2) = i.toNat * 2 := by omega
    have a3 : min ((rows ps).length * 2) (i.toNat * 2) = i.toNat * 2 := by omega
    rw [a1, a2, a3]
    rw [List.take_of_length_le (show [v, vI r].length ≤ (rows ps).length * 2 - i.toNat * 2 by simp; omega)]
    simp only [List.length_cons, List.length_nil]
  · intro p hp
    rcases List.mem_or_eq_of_mem_set hp with hp | rfl
    · exact (e3 p hp).mono fun x hx => List.mem_append_right _ hx
    · exact hv.mono fun x hx => List.mem_append_right _ hx
  · exact h7.sub (.cons_cons _ (.cons _ (.cons _ (.cons _ (.refl _)))))
end
end Go.Proofs.Ytaifohjgamhhnaa
