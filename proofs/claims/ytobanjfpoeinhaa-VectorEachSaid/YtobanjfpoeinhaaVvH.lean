/- The law VectorEach: its walk. -/
import Derived.Test.YtobanjfpoeinhaaVvG
set_option linter.unusedVariables false
set_option linter.unusedSimpArgs false
namespace Go.Proofs.Ytobanjfpoeinhaa
open Go Go.RowKit Vc Vx
attribute [local irreducible] binV Op.unary convert nlW faW ldS ldW ixS ixA ixV ixT exW lnS lnT pu stW alW opW opU bsW mkW

def mkB (ms : List Nat) : Hp := ms.map fun b => (b, .deferred (some []))
def mkD (ms : List Nat) : D := ms.map fun b => { target := .collected b, args := #[] }
section
variable {B w : World} {H : Hp} {K : Value → World → Prop} {PK : List PanicEntry → World → Prop}
theorem lv_rets {XK : World → Prop} {RE : Ending → World → Prop} {C : Hp} : ∀ {ms : List Nat} {w : World}, Ow B w (mkB ms ++ C) → (∀ w', Ow B w' C → XK w') → LvW PG (mkD ms) .returning w (endV XK RE)
  | [], w, h, k => k w h
  | b :: ms, w, h, k => ⟨by simp, .inl ⟨b, rfl, h.mem _ _ List.mem_cons_self, lv_rets (h.put (A := []) (.deferred none)).drop k⟩⟩
theorem info_int : (PG.info? T.t_int).map (fun i => (i.zero, i.size, i.bytes)) = some (some (vI 0), 1, 8) := by kernel_rfl
theorem und_sli : PG.underlying T.t_sl_int = some (.slice T.t_int) := by kernel_rfl
def opens (xs : List Nat) (n : Nat) : List Nat := (List.range n).filter fun i => decide (0 < gt xs i)
theorem opens_succ (xs : List Nat) (n : Nat) : opens xs (n + 1) = opens xs n ++ (if 0 < gt xs n then [n] else []) := by
  unfold opens
  rw [List.range_succ, List.filter_append]
  congr 1
  by_cases h : 0 < gt xs n <;> simp [h]
theorem opens_len (xs : List Nat) (n : Nat) : (opens xs n).length ≤ n := by
  unfold opens
  exact Nat.le_trans (List.length_filter_le _ _) (by simp)
abbrev iv (l : List Nat) : List Value := l.map fun i : Nat => vI i
def openL (xs : List Nat) (n : Nat) : List (List Value) := (opens xs n).map fun i : Nat => [vI i, v64 (gt xs i)]
theorem openL_succ (xs : List Nat) (n : Nat) : openL xs (n + 1) = openL xs n ++ (if 0 < gt xs n then [[vI n, v64 (gt xs n)]] else []) := by
  unfold openL
  rw [opens_succ, List.map_append]
  by_cases h : 0 < gt xs n <;> simp [h]
theorem openL_len (xs : List Nat) (n : Nat) : (openL xs n).length = (opens xs n).length := by simp [openL]
theorem openL_at {xs : List Nat} {i : Nat} (hp : 0 < gt xs i) : ∀ {n : Nat}, i < n → (openL xs n)[(openL xs i).length]? = some [vI i, v64 (gt xs i)]
  | 0, h => absurd h (by omega)
  | n + 1, h => by
    rw [openL_succ]
    rcases Nat.lt_succ_iff_lt_or_eq.1 h with h | rfl
    · have := openL_at hp h
      rw [List.getElem?_append_left (List.getElem?_eq_some_iff.1 this).1]
      exact this
    · rw [if_pos hp, List.getElem?_append_right (Nat.le_refl _)]
      simp
theorem openL_of {xs : List Nat} {n i : Nat} {args : List Value} (h : (openL xs n)[i]? = some args) : ∃ j : Nat, (opens xs n)[i]? = some j ∧ args = [vI j, v64 (gt xs j)] ∧ 0 < gt xs j ∧ j < n := by
  unfold openL at h
  rw [List.getElem?_map, Option.map_eq_some_iff] at h
  obtain ⟨j, hj, rfl⟩ := h
  have := List.mem_filter.1 (List.mem_of_getElem? hj)
  exact ⟨j, hj, rfl, by simpa using this.2, by simpa using this.1⟩
theorem openL_two {xs : List Nat} {n : Nat} : ∀ args ∈ openL xs n, args.length = 2 := fun a ha => by
  obtain ⟨i, hi⟩ := List.getElem?_of_mem ha
  obtain ⟨_, _, rfl, _⟩ := openL_of hi
  rfl
def allL (xs : List Nat) : List (List Value) := (List.range xs.length).map fun i : Nat => [vI i, v64 (gt xs i)]
theorem allL_at {xs : List Nat} {i : Nat} (h : i < xs.length) : (allL xs)[i]? = some [vI i, v64 (gt xs i)] := by simp [allL, h]
theorem allL_len (xs : List Nat) : (allL xs).length = xs.length := by simp [allL]
theorem allL_of {xs : List Nat} {i : Nat} {args : List Value} (h : (allL xs)[i]? = some args) : i < xs.length ∧ args = [vI i, v64 (gt xs i)] := by
  have hlt := (List.getElem?_eq_some_iff.1 h).1
  rw [allL_len] at hlt
  rw [allL_at hlt] at h
  exact ⟨hlt, (Option.some.inj h).symm⟩
theorem all_seq {b : Nat} {s : Value} {xs : List Nat} (hm : (b, cel [s] T.t_api_Clock) ∈ H) (hs : Cl H s xs) (hlen : xs.length < 2 ^ 62) : Seq PG B H (fnv N.slices_All_api_Clock_uint64_1 #[ptr b]) (allL xs) := by
  refine Seq.fn slices_All_api_Clock_uint64_1.okf ?_
  intro y J Z K PK w X hy hw j0 hr he
  refine slices_All_api_Clock_uint64_1.ok ?_
  unfold slices_All_api_Clock_uint64_1.C
  refine ld_here hw (List.mem_append_right _ hm) rfl ?_
  refine sl_ln hs ?_
  rw [List.length_map]
  refine ⟨fun l w => ∃ (i : Nat) (X : Hp), l = [vI i] ∧ i ≤ xs.length ∧ J i X ∧ Ow B w (X ++ H), fun l _ => match l with | [.int _ n] => xs.length - n.toNat | _ => 0, ⟨0, X, rfl, Nat.zero_le _, j0, hw⟩, ?_⟩
  rintro l w2 ⟨i, X, rfl, hi, hj, h2⟩ j1
  repeat (first | refine pu_not ?_ | refine pu_eql ?_ | refine pu_neq ?_ | refine pu_lss ?_ | refine pu_leq ?_ | refine pu_gtr ?_ | refine pu_geq ?_ | refine pu_add ?_ | refine pu_sub ?_ | refine pu_mul ?_ | refine pu_neg ?_ | refine fa_at ?_ | refine nl_ptr ?_ | refine ex20 ?_ | refine ex21 ?_ | refine ex30 ?_ | refine ex31 ?_ | refine ex32 ?_ | refine ln_rule ?_ | refine lnT_rule ?_ | refine pu_and ?_ | refine pu_or ?_ | refine pu_xor ?_ | refine pu_seq ?_ | refine pu_sne ?_)
  refine cnd (fun hlt => ?_) (fun hlt => ?_)
  · have hlt : i < xs.length := by simpa using hlt
    refine sl_ld h2 (hs.mono fun x hx => List.mem_append_right _ hx) (by omega) (by rw [Int.toNat_natCast]; exact qv_at hlt) ?_
    refine hr i _ X H _ _ w2 (allL_at hlt) hj (fun x hx => hx) h2 (fun X' w3 h3 hj3 => ?_) (fun X' w3 h3 hz3 => ?_)
    · repeat (first | refine pu_not ?_ | refine pu_eql ?_ | refine pu_neq ?_ | refine pu_lss ?_ | refine pu_leq ?_ | refine pu_gtr ?_ | refine pu_geq ?_ | refine pu_add ?_ | refine pu_sub ?_ | refine pu_mul ?_ | refine pu_neg ?_ | refine fa_at ?_ | refine nl_ptr ?_ | refine ex20 ?_ | refine ex21 ?_ | refine ex30 ?_ | refine ex31 ?_ | refine ex32 ?_ | refine ln_rule ?_ | refine lnT_rule ?_ | refine pu_and ?_ | refine pu_or ?_ | refine pu_xor ?_ | refine pu_seq ?_ | refine pu_sne ?_)
      refine cnd_f rfl ?_
      repeat (first | refine pu_not ?_ | refine pu_eql ?_ | refine pu_neq ?_ | refine pu_lss ?_ | refine pu_leq ?_ | refine pu_gtr ?_ | refine pu_geq ?_ | refine pu_add ?_ | refine pu_sub ?_ | refine pu_mul ?_ | refine pu_neg ?_ | refine fa_at ?_ | refine nl_ptr ?_ | refine ex20 ?_ | refine ex21 ?_ | refine ex30 ?_ | refine ex31 ?_ | refine ex32 ?_ | refine ln_rule ?_ | refine lnT_rule ?_ | refine pu_and ?_ | refine pu_or ?_ | refine pu_xor ?_ | refine pu_seq ?_ | refine pu_sne ?_)
      rw [wrap64_in (by omega) (by omega)]
      exact ⟨⟨i + 1, X', rfl, hlt, hj3, h3⟩, by simp; omega⟩
    · repeat (first | refine pu_not ?_ | refine pu_eql ?_ | refine pu_neq ?_ | refine pu_lss ?_ | refine pu_leq ?_ | refine pu_gtr ?_ | refine pu_geq ?_ | refine pu_add ?_ | refine pu_sub ?_ | refine pu_mul ?_ | refine pu_neg ?_ | refine fa_at ?_ | refine nl_ptr ?_ | refine ex20 ?_ | refine ex21 ?_ | refine ex30 ?_ | refine ex31 ?_ | refine ex32 ?_ | refine ln_rule ?_ | refine lnT_rule ?_ | refine pu_and ?_ | refine pu_or ?_ | refine pu_xor ?_ | refine pu_seq ?_ | refine pu_sne ?_)
      refine cnd_t rfl ?_
      exact he _ X' w3 h3 (.inr hz3)
  · obtain rfl : i = xs.length := by simp at hlt; omega
    refine he _ X w2 h2 (.inl (by rw [allL_len]; exact hj))
theorem each_seq {b : Nat} {s : Value} {xs : List Nat} (hm : (b, cel [s] T.t_api_Clock) ∈ H) (hs : Cl H s xs) (hlen : xs.length < 2 ^ 62) : Seq PG B H (fnv N.vector_Each_1 #[ptr b]) (openL xs xs.length) := by
  refine Seq.fn vector_Each_1.okf ?_
  intro y J Z K PK w X hy hw j0 hr he
  refine vector_Each_1.ok ?_
  unfold vector_Each_1.C
  refine al_rule hw (l := [y]) (fn_cells hy) (fun b2 w1 h1 => ?_)
  refine ld_here h1 (.tail _ (List.mem_append_right _ hm)) rfl ?_
  refine slices_All_api_Clock_uint64.ok ?_
  unfold slices_All_api_Clock_uint64.C
  refine al_rule h1 (l := [s]) (sl_cells hs) (fun b3 w2 h2 => ?_)
  have h2 : Ow B w2 (X ++ ((b3, cel [s] T.t_api_Clock) :: (b2, cel [y] T.t_func_int_uint64_bool) :: H)) := h2.perm (List.perm_append_comm_assoc [_, _] X H)
  refine range_fn (X := X) (H := (b3, cel [s] T.t_api_Clock) :: (b2, cel [y] T.t_func_int_uint64_bool) :: H) (A := vector_Each_1.note) (fuel := 400) mixed (all_seq (.head _) hs.cons.cons hlen) (by simp) (fun a ha => ?_) h2
    (fun i Y => i ≤ xs.length ∧ J (openL xs i).length Y) (fun j Y => j = .exit 0 ∧ Z Y) ⟨Nat.zero_le _, j0⟩ ?_ ?_ ?_
  · obtain ⟨i, hi⟩ := List.getElem?_of_mem ha
    obtain ⟨_, rfl⟩ := allL_of hi
    rfl
  · rintro lp r n args Y F R w4 hL ⟨hn, hj⟩ hF h4 k1 k2 u
    obtain ⟨hlt, rfl⟩ := allL_of hL
    refine Eq.mpr (vector_Each_1.Rd0_eq lp R _ _ _ w4 u) ?_
    unfold vector_Each_1.Rd0
    refine rbeg h4 (fun w5 h5 => ?_)
    repeat (first | refine pu_not ?_ | refine pu_eql ?_ | refine pu_neq ?_ | refine pu_lss ?_ | refine pu_leq ?_ | refine pu_gtr ?_ | refine pu_geq ?_ | refine pu_add ?_ | refine pu_sub ?_ | refine pu_mul ?_ | refine pu_neg ?_ | refine fa_at ?_ | refine nl_ptr ?_ | refine ex20 ?_ | refine ex21 ?_ | refine ex30 ?_ | refine ex31 ?_ | refine ex32 ?_ | refine ln_rule ?_ | refine lnT_rule ?_ | refine pu_and ?_ | refine pu_or ?_ | refine pu_xor ?_ | refine pu_seq ?_ | refine pu_sne ?_)
    refine cnd (fun hp => ?_) (fun hp => ?_)
    · have hp : 0 < gt xs n := by simp at hp; omega
      refine ld_here h5 (.tail _ (List.mem_append_right _ (hF _ (.tail _ (.head _))))) rfl ?_
      refine hr _ _ Y ((lp, recB r) :: F) _ _ w5 (openL_at hp hlt) hj (fun x hx => .tail _ (hF x (.tail _ (.tail _ hx)))) (h5.perm List.perm_middle.symm) (fun X' w6 h6 hj6 => ?_) (fun X' w6 h6 hz6 => ?_)
      · repeat (first | refine pu_not ?_ | refine pu_eql ?_ | refine pu_neq ?_ | refine pu_lss ?_ | refine pu_leq ?_ | refine pu_gtr ?_ | refine pu_geq ?_ | refine pu_add ?_ | refine pu_sub ?_ | refine pu_mul ?_ | refine pu_neg ?_ | refine fa_at ?_ | refine nl_ptr ?_ | refine ex20 ?_ | refine ex21 ?_ | refine ex30 ?_ | refine ex31 ?_ | refine ex32 ?_ | refine ln_rule ?_ | refine lnT_rule ?_ | refine pu_and ?_ | refine pu_or ?_ | refine pu_xor ?_ | refine pu_seq ?_ | refine pu_sne ?_)
        refine cnd_f rfl ?_
        refine rend_go (h6.perm List.perm_middle) (fun w7 h7 => k1 X' w7 ⟨by omega, ?_⟩ h7)
        rw [openL_succ, if_pos hp]
        simpa using hj6
      · repeat (first | refine pu_not ?_ | refine pu_eql ?_ | refine pu_neq ?_ | refine pu_lss ?_ | refine pu_leq ?_ | refine pu_gtr ?_ | refine pu_geq ?_ | refine pu_add ?_ | refine pu_sub ?_ | refine pu_mul ?_ | refine pu_neg ?_ | refine fa_at ?_ | refine nl_ptr ?_ | refine ex20 ?_ | refine ex21 ?_ | refine ex30 ?_ | refine ex31 ?_ | refine ex32 ?_ | refine ln_rule ?_ | refine lnT_rule ?_ | refine pu_and ?_ | refine pu_or ?_ | refine pu_xor ?_ | refine pu_seq ?_ | refine pu_sne ?_)
        refine cnd_t rfl ?_
        exact rend_stop (h6.perm List.perm_middle) (fun w7 h7 => k2 _ X' w7 ⟨rfl, hz6⟩ h7)
    · have hp : ¬ 0 < gt xs n := by simp at hp; omega
      refine rend_go h5 (fun w7 h7 => k1 Y w7 ⟨by omega, ?_⟩ h7)
      rw [openL_succ, if_neg hp, List.append_nil]
      exact hj
  · rintro mk Y w4 ⟨hn, hj⟩ h4
    rw [allL_len] at hj
    refine lv_ret h4 (fun w8 h8 => ?_)
    exact he _ Y w8 (h8.sub ((List.Sublist.refl Y).append (.cons _ (.cons _ (.refl _))))) (.inl hj)
  · rintro mk j Y w4 ⟨rfl, hz⟩ h4
    refine lv_ret h4 (fun w8 h8 => ?_)
    exact he _ Y w8 (h8.sub ((List.Sublist.refl Y).append (.cons _ (.cons _ (.refl _))))) (.inr hz)
theorem each_spec {s : Value} {l : List Nat} {X0 : Hp} (h : Ow B w H) (hs : Cl X0 s l) (hX : ∀ x, x ∈ X0 → x ∈ H) (hl : l.length < 1000000) (k : ∀ S b v w', Cl S v l → Ow B w' ((b, cel [v] T.t_api_Clock) :: (S ++ H)) → K (fnv N.vector_Each_1 #[ptr b]) w') : callW PG N.vector_Each [s] K PK w := by
  refine vector_Each.ok ?_
  unfold vector_Each.C
  refine clone_spec h hs hX hl (fun S v w1 h1 ho => ?_)
  refine al_rule h1 (l := [.slice none 0 0]) (by kernel_rfl) (fun b w2 h2 => ?_)
  refine st1_here (A := []) h2 (sl_cells ho.sl) (sl_plain ho.sl) (by simp) (fun w3 h3 => ?_)
  exact k S b v _ ho.sl h3

theorem VectorEach.law {v0 v1 : Value} (g0 : FitV PG H T.t_api_Clock v0) (g1 : FitV PG H T.t_int v1) (h : Ow B w H) (k : ∀ w', Ow B w' H → K (vB true) w') : callW PG N.linesmanlaw04_VectorEach [v0, v1] K PK w := by
  obtain ⟨l, hl, hq⟩ := clk_of g0
  obtain ⟨many, rfl, hmany⟩ := g1.int und_int
  have hmany := wf_i64 hmany
  clear g0 g1
  refine linesmanlaw04_VectorEach.ok ?_
  unfold linesmanlaw04_VectorEach.C
  refine al_rule h (l := [v0]) (sl_cells hl) (fun bx w1 h1 => ?_)
  refine al_rule h1 (l := [vI many]) rfl (fun bm w2 h2 => ?_)
  refine al_rule h2 (l := [vB false]) (by kernel_rfl) (fun br w3 h3 => ?_)
  refine ld_here h3 (.tail _ (.tail _ (.head _))) rfl ?_
  refine bs_rule h3 [v0] (bsw1 hl) (fun b4 w4 h4 => ?_)
  refine few_spec (ls := [l]) h4 ⟨_, sl_here (l := [v0]) (.head _), ⟨hl.cons.cons.cons.cons, hq⟩, trivial⟩ (by simp) (fun w5 h5 => ?_)
  have h5 := h5.drop
  repeat (first | refine pu_not ?_ | refine pu_eql ?_ | refine pu_neq ?_ | refine pu_lss ?_ | refine pu_leq ?_ | refine pu_gtr ?_ | refine pu_geq ?_ | refine pu_add ?_ | refine pu_sub ?_ | refine pu_mul ?_ | refine pu_neg ?_ | refine fa_at ?_ | refine nl_ptr ?_ | refine ex20 ?_ | refine ex21 ?_ | refine ex30 ?_ | refine ex31 ?_ | refine ex32 ?_ | refine ln_rule ?_ | refine lnT_rule ?_ | refine pu_and ?_ | refine pu_or ?_ | refine pu_xor ?_ | refine pu_seq ?_ | refine pu_sne ?_)
  refine cnd (fun _ => ?_) (fun hf => ?_)
  · refine vworks_spec h5 (fun w6 h6 => ?_)
    refine st1_here (A := []) h6 rfl rfl (by simp) (fun w7 h7 => ?_)
    refine ld_here h7 (.head _) rfl ?_
    exact k _ h7.drop.drop.drop
  have hf : l.length ≤ 40 := by simpa using hf
  refine al_rule h5 (l := [.slice none 0 0]) (by kernel_rfl) (fun ba w6 h6 => ?_)
  refine ⟨fun l' w => ∃ (i : Nat) (S : Hp) (v : Value), l' = [vI i] ∧ i ≤ l.length ∧ Vc.Own S T.t_int 1 v (opens l i).length (iv (opens l i)) ∧ Ow B w ((ba, cel [v] T.t_sl_int) :: (S ++ (br, cel [vB false] T.t_bool) :: (bm, cel [vI many] T.t_int) :: (bx, cel [v0] T.t_api_Clock) :: H)),
    fun l' _ => match l' with | [.int _ n] => l.length - n.toNat | _ => 0, ⟨0, [], _, rfl, Nat.zero_le _, own_none _ _, h6⟩, ?_⟩
  clear h6
  rintro l' w7 ⟨i, S, at', rfl, hi, ho, h7⟩ j
  have mX7 : (bx, cel [v0] T.t_api_Clock) ∈ (ba, cel [at'] T.t_sl_int) :: (S ++ (br, cel [vB false] T.t_bool) :: (bm, cel [vI many] T.t_int) :: (bx, cel [v0] T.t_api_Clock) :: H) := .tail _ (List.mem_append_right _ (.tail _ (.tail _ (.head _))))
  have hl7 : Cl ((ba, cel [at'] T.t_sl_int) :: (S ++ (br, cel [vB false] T.t_bool) :: (bm, cel [vI many] T.t_int) :: (bx, cel [v0] T.t_api_Clock) :: H)) v0 l := hl.mono fun x hx => .tail _ (List.mem_append_right _ (.tail _ (.tail _ (.tail _ hx))))
  refine ld_here h7 mX7 rfl ?_
  refine sl_ln hl ?_
  rw [List.length_map]
  repeat (first | refine pu_not ?_ | refine pu_eql ?_ | refine pu_neq ?_ | refine pu_lss ?_ | refine pu_leq ?_ | refine pu_gtr ?_ | refine pu_geq ?_ | refine pu_add ?_ | refine pu_sub ?_ | refine pu_mul ?_ | refine pu_neg ?_ | refine fa_at ?_ | refine nl_ptr ?_ | refine ex20 ?_ | refine ex21 ?_ | refine ex30 ?_ | refine ex31 ?_ | refine ex32 ?_ | refine ln_rule ?_ | refine lnT_rule ?_ | refine pu_and ?_ | refine pu_or ?_ | refine pu_xor ?_ | refine pu_seq ?_ | refine pu_sne ?_)
  refine cnd (fun hlt => ?_) (fun hlt => ?_)
  · have hlt : i < l.length := by simpa using hlt
    refine ld_here h7 mX7 rfl ?_
    refine sl_ld h7 hl7 (by omega) (by rw [Int.toNat_natCast]; exact qv_at hlt) ?_
    have hon := opens_succ l i
    have hol := opens_len l i
    repeat (first | refine pu_not ?_ | refine pu_eql ?_ | refine pu_neq ?_ | refine pu_lss ?_ | refine pu_leq ?_ | refine pu_gtr ?_ | refine pu_geq ?_ | refine pu_add ?_ | refine pu_sub ?_ | refine pu_mul ?_ | refine pu_neg ?_ | refine fa_at ?_ | refine nl_ptr ?_ | refine ex20 ?_ | refine ex21 ?_ | refine ex30 ?_ | refine ex31 ?_ | refine ex32 ?_ | refine ln_rule ?_ | refine lnT_rule ?_ | refine pu_and ?_ | refine pu_or ?_ | refine pu_xor ?_ | refine pu_seq ?_ | refine pu_sne ?_)
    refine cnd (fun hp => ?_) (fun hp => ?_)
    · have hp : 0 < gt l i := by simp at hp; omega
      rw [if_pos hp] at hon
      refine ld_here h7 (.head _) rfl ?_
      refine bs_rule h7 [vI i] (by kernel_rfl) (fun b8 w8 h8 => ?_)
      refine app1 (A := [_, _]) (z := vI 0) (bytes := 8) h8 ho (sl_here (b := b8) (l := [vI i]) (e := T.t_int) (.head _)) (fun y hy => hy) rfl und_sli info_int rfl (by simp [maxLen]; omega) (by simp; omega) (fun S' v' w9 h9 ho' => ?_)
      refine st1_here (A := [_]) h9 (sl_cells ho'.sl) (sl_plain ho'.sl) (by simp) (fun w10 h10 => ?_)
      repeat (first | refine pu_not ?_ | refine pu_eql ?_ | refine pu_neq ?_ | refine pu_lss ?_ | refine pu_leq ?_ | refine pu_gtr ?_ | refine pu_geq ?_ | refine pu_add ?_ | refine pu_sub ?_ | refine pu_mul ?_ | refine pu_neg ?_ | refine fa_at ?_ | refine nl_ptr ?_ | refine ex20 ?_ | refine ex21 ?_ | refine ex30 ?_ | refine ex31 ?_ | refine ex32 ?_ | refine ln_rule ?_ | refine lnT_rule ?_ | refine pu_and ?_ | refine pu_or ?_ | refine pu_xor ?_ | refine pu_seq ?_ | refine pu_sne ?_)
      rw [wrap64_in (by omega) (by omega)]
      refine ⟨⟨i + 1, S', v', rfl, hlt, ?_, h10.drop⟩, by simp; omega⟩
      rw [hon]
      simpa using ho'
    · have hp : ¬ 0 < gt l i := by simp at hp; omega
      rw [if_neg hp, List.append_nil] at hon
      repeat (first | refine pu_not ?_ | refine pu_eql ?_ | refine pu_neq ?_ | refine pu_lss ?_ | refine pu_leq ?_ | refine pu_gtr ?_ | refine pu_geq ?_ | refine pu_add ?_ | refine pu_sub ?_ | refine pu_mul ?_ | refine pu_neg ?_ | refine fa_at ?_ | refine nl_ptr ?_ | refine ex20 ?_ | refine ex21 ?_ | refine ex30 ?_ | refine ex31 ?_ | refine ex32 ?_ | refine ln_rule ?_ | refine lnT_rule ?_ | refine pu_and ?_ | refine pu_or ?_ | refine pu_xor ?_ | refine pu_seq ?_ | refine pu_sne ?_)
      rw [wrap64_in (by omega) (by omega)]
      exact ⟨⟨i + 1, S, at', rfl, hlt, by rw [hon]; exact ho, h7⟩, by simp; omega⟩
  obtain rfl : i = l.length := by simp at hlt; omega
  have hat := ho.sl
  have hol := opens_len l l.length
  refine ld_here h7 mX7 rfl ?_
  refine each_spec h7 hl7 (fun x hx => hx) (by omega) (fun S4 bs v w8 hv h8 => ?_)
  refine pu_fnl (by kernel_rfl) ?_
  refine cnd_f rfl ?_
  refine al_rule h8 (l := [vI 0]) (by kernel_rfl) (fun bt w9 h9 => ?_)
  refine st1_here (A := []) h9 rfl rfl (by simp) (fun w10 h10 => ?_)
  simp only [List.nil_append, List.set_cons_zero] at h10
  generalize hD : ((bs, cel [v] T.t_api_Clock) :: (S4 ++ (ba, cel [at'] T.t_sl_int) :: (S ++ (br, cel [vB false] T.t_bool) :: (bm, cel [vI many] T.t_int) :: (bx, cel [v0] T.t_api_Clock) :: H)) : Hp) = D0 at h10
  have mS0 : (bs, cel [v] T.t_api_Clock) ∈ D0 := by rw [← hD]; exact .head _
  have mV0 : ∀ x, x ∈ S4 → x ∈ D0 := by rw [← hD]; exact fun x hx => .tail _ (List.mem_append_left _ hx)
  have mA0 : (ba, cel [at'] T.t_sl_int) ∈ D0 := by rw [← hD]; exact .tail _ (List.mem_append_right _ (.head _))
  have mO0 : ∀ x, x ∈ S → x ∈ D0 := by rw [← hD]; exact fun x hx => .tail _ (List.mem_append_right _ (.tail _ (List.mem_append_left _ hx)))
  have mM0 : (bm, cel [vI many] T.t_int) ∈ D0 := by rw [← hD]; exact .tail _ (List.mem_append_right _ (.tail _ (List.mem_append_right _ (.tail _ (.head _)))))
  have mX0 : (bx, cel [v0] T.t_api_Clock) ∈ D0 := by rw [← hD]; exact .tail _ (List.mem_append_right _ (.tail _ (List.mem_append_right _ (.tail _ (.tail _ (.head _))))))
  have mH0 : ∀ x, x ∈ H → x ∈ D0 := by rw [← hD]; exact fun x hx => .tail _ (List.mem_append_right _ (.tail _ (List.mem_append_right _ (.tail _ (.tail _ (.tail _ hx))))))
  refine ⟨fun l' d w => ∃ (bt : Nat) (t : Nat) (ms : List Nat), l' = [ptr bt] ∧ d = mkD ms ∧ ms.length = t ∧ t ≤ 2 ∧ Ow B w ((bt, cel [vI t] T.t_int) :: (mkB ms ++ D0)), fun l d w => 2 - d.length,
    ⟨bt, 0, [], rfl, rfl, rfl, by omega, h10⟩, ?_⟩
  clear h10 h9 h8 h7
  rintro l' d w8 ⟨bt, t, ms, rfl, rfl, hms, ht, h8⟩ j0
  refine ld_here h8 (.head _) rfl ?_
  repeat (first | refine pu_not ?_ | refine pu_eql ?_ | refine pu_neq ?_ | refine pu_lss ?_ | refine pu_leq ?_ | refine pu_gtr ?_ | refine pu_geq ?_ | refine pu_add ?_ | refine pu_sub ?_ | refine pu_mul ?_ | refine pu_neg ?_ | refine fa_at ?_ | refine nl_ptr ?_ | refine ex20 ?_ | refine ex21 ?_ | refine ex30 ?_ | refine ex31 ?_ | refine ex32 ?_ | refine ln_rule ?_ | refine lnT_rule ?_ | refine pu_and ?_ | refine pu_or ?_ | refine pu_xor ?_ | refine pu_seq ?_ | refine pu_sne ?_)
  refine cnd (fun hlt => ?_) (fun hlt => ?_)
  · have hlt : t < 2 := by simp at hlt; omega
    refine al_rule h8 (l := [vI 0]) (by kernel_rfl) (fun bk w9 h9 => ?_)
    refine st1_here (A := []) h9 rfl rfl (by simp) (fun w10 h10 => ?_)
    refine range_fn (X := [(bk, cel [vI 0] T.t_int)]) (H := (bt, cel [vI t] T.t_int) :: (mkB ms ++ D0)) (A := linesmanlaw04_VectorEach.note) (fuel := 400) mixed
      (each_seq (xs := l) (.tail _ (List.mem_append_right _ mS0)) (hv.mono fun x hx => .tail _ (List.mem_append_right _ (mV0 x hx))) (by omega)) (by simp) openL_two h10
      (fun i Y => Y = [(bk, cel [vI i] T.t_int)] ∧ i ≤ (opens l l.length).length ∧ (t = 0 → i = 0 ∨ (i : Int) < many))
      (fun j Y => j = .exit 4 ∧ ∃ i : Nat, Y = [(bk, cel [vI i] T.t_int)] ∧ 1 ≤ i ∧ i ≤ (opens l l.length).length ∧ t = 0 ∧ many ≤ i ∧ (i = 1 ∨ (i : Int) - 1 < many)) ⟨rfl, by omega, fun _ => .inl rfl⟩ ?_ ?_ ?_
    · rintro lp r n args Y F R w4 hL ⟨rfl, hn, hnm⟩ hF h4 k1 k2 u
      obtain ⟨q, hq0, rfl, hqp, hql⟩ := openL_of hL
      have hnl := (List.getElem?_eq_some_iff.1 hq0).1
      refine Eq.mpr (linesmanlaw04_VectorEach.Rd0_eq lp R _ _ _ _ _ _ _ _ w4 u) ?_
      unfold linesmanlaw04_VectorEach.Rd0
      refine rbeg h4 (fun w5 h5 => ?_)
      have mX : (bx, cel [v0] T.t_api_Clock) ∈ F := hF _ (.tail _ (List.mem_append_right _ mX0))
      have mA : (ba, cel [at'] T.t_sl_int) ∈ F := hF _ (.tail _ (List.mem_append_right _ mA0))
      have mM : (bm, cel [vI many] T.t_int) ∈ F := hF _ (.tail _ (List.mem_append_right _ mM0))
      have mT : (bt, cel [vI t] T.t_int) ∈ F := hF _ (.head _)
      have hatF : Sl ((lp, recB r) :: (bk, cel [vI n] T.t_int) :: F) at' (iv (opens l l.length)) := hat.mono fun x hx => .tail _ (.tail _ (hF _ (.tail _ (List.mem_append_right _ (mO0 x hx)))))
      have hlF : Cl ((lp, recB r) :: (bk, cel [vI n] T.t_int) :: F) v0 l := hl.mono fun x hx => .tail _ (.tail _ (hF _ (.tail _ (List.mem_append_right _ (mH0 x hx)))))
      have hatn : (iv (opens l l.length))[(n : Int).toNat]? = some (vI q) := by rw [Int.toNat_natCast, List.getElem?_map, hq0]; rfl
      refine ⟨fun w => Ow B w ((lp, recB r) :: (bk, cel [vI n] T.t_int) :: F), h5.drew, ?_⟩
      refine lds_here (fun w h => h) (.tail _ (.head _)) rfl ?_
      refine lds_here (fun w h => h) (.tail _ (.tail _ mA)) rfl ?_
      refine sl_ln hat ?_
      rw [List.length_map]
      repeat (first | refine pu_not ?_ | refine pu_eql ?_ | refine pu_neq ?_ | refine pu_lss ?_ | refine pu_leq ?_ | refine pu_gtr ?_ | refine pu_geq ?_ | refine pu_add ?_ | refine pu_sub ?_ | refine pu_mul ?_ | refine pu_neg ?_ | refine fa_at ?_ | refine nl_ptr ?_ | refine ex20 ?_ | refine ex21 ?_ | refine ex30 ?_ | refine ex31 ?_ | refine ex32 ?_ | refine ln_rule ?_ | refine lnT_rule ?_ | refine pu_and ?_ | refine pu_or ?_ | refine pu_xor ?_ | refine pu_seq ?_ | refine pu_sne ?_)
      refine cnd_f (by simp; omega) ?_
      refine lds_here (fun w h => h) (.tail _ (.tail _ mA)) rfl ?_
      refine lds_here (fun w h => h) (.tail _ (.head _)) rfl ?_
      refine sl_lds (fun w h => h) hatF (by omega) hatn ?_
      repeat (first | refine pu_not ?_ | refine pu_eql ?_ | refine pu_neq ?_ | refine pu_lss ?_ | refine pu_leq ?_ | refine pu_gtr ?_ | refine pu_geq ?_ | refine pu_add ?_ | refine pu_sub ?_ | refine pu_mul ?_ | refine pu_neg ?_ | refine fa_at ?_ | refine nl_ptr ?_ | refine ex20 ?_ | refine ex21 ?_ | refine ex30 ?_ | refine ex31 ?_ | refine ex32 ?_ | refine ln_rule ?_ | refine lnT_rule ?_ | refine pu_and ?_ | refine pu_or ?_ | refine pu_xor ?_ | refine pu_seq ?_ | refine pu_sne ?_)
      refine cnd_f (by simp) ?_
      refine lds_here (fun w h => h) (.tail _ (.tail _ mX)) rfl ?_
      refine lds_here (fun w h => h) (.tail _ (.tail _ mA)) rfl ?_
      refine lds_here (fun w h => h) (.tail _ (.head _)) rfl ?_
      refine sl_lds (fun w h => h) hatF (by omega) hatn ?_
      refine sl_lds (fun w h => h) hlF (by omega) (by rw [Int.toNat_natCast]; exact qv_at hql) ?_
      repeat (first | refine pu_not ?_ | refine pu_eql ?_ | refine pu_neq ?_ | refine pu_lss ?_ | refine pu_leq ?_ | refine pu_gtr ?_ | refine pu_geq ?_ | refine pu_add ?_ | refine pu_sub ?_ | refine pu_mul ?_ | refine pu_neg ?_ | refine fa_at ?_ | refine nl_ptr ?_ | refine ex20 ?_ | refine ex21 ?_ | refine ex30 ?_ | refine ex31 ?_ | refine ex32 ?_ | refine ln_rule ?_ | refine lnT_rule ?_ | refine pu_and ?_ | refine pu_or ?_ | refine pu_xor ?_ | refine pu_seq ?_ | refine pu_sne ?_)
      refine cnd_f (by simp) ?_
      have h5 := h5.drew
      refine ld_here h5 (.tail _ (.head _)) rfl ?_
      repeat (first | refine pu_not ?_ | refine pu_eql ?_ | refine pu_neq ?_ | refine pu_lss ?_ | refine pu_leq ?_ | refine pu_gtr ?_ | refine pu_geq ?_ | refine pu_add ?_ | refine pu_sub ?_ | refine pu_mul ?_ | refine pu_neg ?_ | refine fa_at ?_ | refine nl_ptr ?_ | refine ex20 ?_ | refine ex21 ?_ | refine ex30 ?_ | refine ex31 ?_ | refine ex32 ?_ | refine ln_rule ?_ | refine lnT_rule ?_ | refine pu_and ?_ | refine pu_or ?_ | refine pu_xor ?_ | refine pu_seq ?_ | refine pu_sne ?_)
      rw [wrap64_in (by omega) (by omega)]
      refine st1_here (A := [_]) h5 rfl rfl (by simp) (fun w6 h6 => ?_)
      refine ld_here h6 (.tail _ (.tail _ mT)) rfl ?_
      repeat (first | refine pu_not ?_ | refine pu_eql ?_ | refine pu_neq ?_ | refine pu_lss ?_ | refine pu_leq ?_ | refine pu_gtr ?_ | refine pu_geq ?_ | refine pu_add ?_ | refine pu_sub ?_ | refine pu_mul ?_ | refine pu_neg ?_ | refine fa_at ?_ | refine nl_ptr ?_ | refine ex20 ?_ | refine ex21 ?_ | refine ex30 ?_ | refine ex31 ?_ | refine ex32 ?_ | refine ln_rule ?_ | refine lnT_rule ?_ | refine pu_and ?_ | refine pu_or ?_ | refine pu_xor ?_ | refine pu_seq ?_ | refine pu_sne ?_)
      refine cnd (fun ht0 => ?_) (fun ht0 => ?_)
      · have ht0 : t = 0 := by simp at ht0; omega
        refine ld_here h6 (.tail _ (.head _)) rfl ?_
        refine ld_here h6 (.tail _ (.tail _ mM)) rfl ?_
        repeat (first | refine pu_not ?_ | refine pu_eql ?_ | refine pu_neq ?_ | refine pu_lss ?_ | refine pu_leq ?_ | refine pu_gtr ?_ | refine pu_geq ?_ | refine pu_add ?_ | refine pu_sub ?_ | refine pu_mul ?_ | refine pu_neg ?_ | refine fa_at ?_ | refine nl_ptr ?_ | refine ex20 ?_ | refine ex21 ?_ | refine ex30 ?_ | refine ex31 ?_ | refine ex32 ?_ | refine ln_rule ?_ | refine lnT_rule ?_ | refine pu_and ?_ | refine pu_or ?_ | refine pu_xor ?_ | refine pu_seq ?_ | refine pu_sne ?_)
        refine cnd (fun hge => ?_) (fun hge => ?_)
        · have hge : many ≤ (n : Int) + 1 := by simpa using hge
          refine rend_stop h6 (fun w7 h7 => k2 _ _ w7 ⟨rfl, n + 1, rfl, by omega, by omega, ht0, by omega, ?_⟩ h7)
          rcases hnm ht0 with h0 | h0
          · left; omega
          · right; omega
        · have hge : ¬ many ≤ (n : Int) + 1 := by simpa using hge
          exact rend_go h6 (fun w7 h7 => k1 _ w7 ⟨rfl, by omega, fun _ => .inr (by omega)⟩ h7)
      · have ht0 : ¬ t = 0 := by simp at ht0; omega
        exact rend_go h6 (fun w7 h7 => k1 _ w7 ⟨rfl, by omega, fun h => absurd h ht0⟩ h7)
    · rintro mk Y w9 ⟨rfl, hn, hnm⟩ h9
      rw [openL_len] at h9 hnm
      have hv0 : t = 0 → (((opens l l.length).length : Nat) : Int) = if (if many > 1 then many else 1) < (((opens l l.length).length : Nat) : Int) then (if many > 1 then many else 1) else (((opens l l.length).length : Nat) : Int) := fun h0 => by
        have := hnm h0
        split <;> split at * <;> omega
      have hv1 : t = 1 → (((opens l l.length).length : Nat) : Int) = (((opens l l.length).length : Nat) : Int) := fun _ => rfl
      refine ld_here h9 (.tail _ (.tail _ (.head _))) rfl ?_
      repeat (first | refine pu_not ?_ | refine pu_eql ?_ | refine pu_neq ?_ | refine pu_lss ?_ | refine pu_leq ?_ | refine pu_gtr ?_ | refine pu_geq ?_ | refine pu_add ?_ | refine pu_sub ?_ | refine pu_mul ?_ | refine pu_neg ?_ | refine fa_at ?_ | refine nl_ptr ?_ | refine ex20 ?_ | refine ex21 ?_ | refine ex30 ?_ | refine ex31 ?_ | refine ex32 ?_ | refine ln_rule ?_ | refine lnT_rule ?_ | refine pu_and ?_ | refine pu_or ?_ | refine pu_xor ?_ | refine pu_seq ?_ | refine pu_sne ?_)
      refine cnd (fun ht0 => ?_) (fun ht0 => ?_)
      · have ht0 : t = 0 := by simp at ht0; omega
        refine ld_here h9 (.tail _ (.head _)) rfl ?_
        refine ld_here h9 (.tail _ (.tail _ (.tail _ (List.mem_append_right _ mA0)))) rfl ?_
        refine sl_ln hat ?_
        rw [List.length_map]
        repeat (first | refine pu_not ?_ | refine pu_eql ?_ | refine pu_neq ?_ | refine pu_lss ?_ | refine pu_leq ?_ | refine pu_gtr ?_ | refine pu_geq ?_ | refine pu_add ?_ | refine pu_sub ?_ | refine pu_mul ?_ | refine pu_neg ?_ | refine fa_at ?_ | refine nl_ptr ?_ | refine ex20 ?_ | refine ex21 ?_ | refine ex30 ?_ | refine ex31 ?_ | refine ex32 ?_ | refine ln_rule ?_ | refine lnT_rule ?_ | refine pu_and ?_ | refine pu_or ?_ | refine pu_xor ?_ | refine pu_seq ?_ | refine pu_sne ?_)
        refine ld_here h9 (.tail _ (.tail _ (.tail _ (List.mem_append_right _ mM0)))) rfl ?_
        refine pu_max2 ?_
        refine pu_min2 ?_
        repeat (first | refine pu_not ?_ | refine pu_eql ?_ | refine pu_neq ?_ | refine pu_lss ?_ | refine pu_leq ?_ | refine pu_gtr ?_ | refine pu_geq ?_ | refine pu_add ?_ | refine pu_sub ?_ | refine pu_mul ?_ | refine pu_neg ?_ | refine fa_at ?_ | refine nl_ptr ?_ | refine ex20 ?_ | refine ex21 ?_ | refine ex30 ?_ | refine ex31 ?_ | refine ex32 ?_ | refine ln_rule ?_ | refine lnT_rule ?_ | refine pu_and ?_ | refine pu_or ?_ | refine pu_xor ?_ | refine pu_seq ?_ | refine pu_sne ?_)
        refine cnd_f ?_ ?_
        · have := hv0 ht0
          simp only [bne_eq_false_iff_eq]
          split <;> split at this <;> split at * <;> omega
        refine ld_here h9 (.tail _ (.tail _ (.head _))) rfl ?_
        repeat (first | refine pu_not ?_ | refine pu_eql ?_ | refine pu_neq ?_ | refine pu_lss ?_ | refine pu_leq ?_ | refine pu_gtr ?_ | refine pu_geq ?_ | refine pu_add ?_ | refine pu_sub ?_ | refine pu_mul ?_ | refine pu_neg ?_ | refine fa_at ?_ | refine nl_ptr ?_ | refine ex20 ?_ | refine ex21 ?_ | refine ex30 ?_ | refine ex31 ?_ | refine ex32 ?_ | refine ln_rule ?_ | refine lnT_rule ?_ | refine pu_and ?_ | refine pu_or ?_ | refine pu_xor ?_ | refine pu_seq ?_ | refine pu_sne ?_)
        refine cnd_f (by simp; omega) ?_
        refine ld_here h9 (.tail _ (.tail _ (.head _))) rfl ?_
        refine al_rule h9 (l := [vI 0]) (by kernel_rfl) (fun bt' w10 h10 => ?_)
        refine st1_here (A := []) h10 rfl rfl (by simp) (fun w11 h11 => ?_)
        refine ld_here h11 (.head _) rfl ?_
        repeat (first | refine pu_not ?_ | refine pu_eql ?_ | refine pu_neq ?_ | refine pu_lss ?_ | refine pu_leq ?_ | refine pu_gtr ?_ | refine pu_geq ?_ | refine pu_add ?_ | refine pu_sub ?_ | refine pu_mul ?_ | refine pu_neg ?_ | refine fa_at ?_ | refine nl_ptr ?_ | refine ex20 ?_ | refine ex21 ?_ | refine ex30 ?_ | refine ex31 ?_ | refine ex32 ?_ | refine ln_rule ?_ | refine lnT_rule ?_ | refine pu_and ?_ | refine pu_or ?_ | refine pu_xor ?_ | refine pu_seq ?_ | refine pu_sne ?_)
        rw [wrap64_in (by omega) (by omega)]
        refine st1_here (A := []) h11 rfl rfl (by simp) (fun w12 h12 => ?_)
        exact ⟨⟨bt', t + 1, mk :: ms, rfl, rfl, by simp; omega, by omega, h12.sub (.cons_cons _ (.cons_cons _ (.cons _ (.cons _ (.refl _)))))⟩, by simp [mkD]; omega⟩
      · have ht0 : t = 1 := by simp at ht0; omega
        refine ld_here h9 (.tail _ (.tail _ (.head _))) rfl ?_
        repeat (first | refine pu_not ?_ | refine pu_eql ?_ | refine pu_neq ?_ | refine pu_lss ?_ | refine pu_leq ?_ | refine pu_gtr ?_ | refine pu_geq ?_ | refine pu_add ?_ | refine pu_sub ?_ | refine pu_mul ?_ | refine pu_neg ?_ | refine fa_at ?_ | refine nl_ptr ?_ | refine ex20 ?_ | refine ex21 ?_ | refine ex30 ?_ | refine ex31 ?_ | refine ex32 ?_ | refine ln_rule ?_ | refine lnT_rule ?_ | refine pu_and ?_ | refine pu_or ?_ | refine pu_xor ?_ | refine pu_seq ?_ | refine pu_sne ?_)
        refine cnd_t (by simp; omega) ?_
        refine ld_here h9 (.tail _ (.head _)) rfl ?_
        refine ld_here h9 (.tail _ (.tail _ (.tail _ (List.mem_append_right _ mA0)))) rfl ?_
        refine sl_ln hat ?_
        rw [List.length_map]
        repeat (first | refine pu_not ?_ | refine pu_eql ?_ | refine pu_neq ?_ | refine pu_lss ?_ | refine pu_leq ?_ | refine pu_gtr ?_ | refine pu_geq ?_ | refine pu_add ?_ | refine pu_sub ?_ | refine pu_mul ?_ | refine pu_neg ?_ | refine fa_at ?_ | refine nl_ptr ?_ | refine ex20 ?_ | refine ex21 ?_ | refine ex30 ?_ | refine ex31 ?_ | refine ex32 ?_ | refine ln_rule ?_ | refine lnT_rule ?_ | refine pu_and ?_ | refine pu_or ?_ | refine pu_xor ?_ | refine pu_seq ?_ | refine pu_sne ?_)
        refine cnd_f (by have := hv1 ht0; simp <;> omega) ?_
        refine ld_here h9 (.tail _ (.tail _ (.head _))) rfl ?_
        refine al_rule h9 (l := [vI 0]) (by kernel_rfl) (fun bt' w10 h10 => ?_)
        refine st1_here (A := []) h10 rfl rfl (by simp) (fun w11 h11 => ?_)
        refine ld_here h11 (.head _) rfl ?_
        repeat (first | refine pu_not ?_ | refine pu_eql ?_ | refine pu_neq ?_ | refine pu_lss ?_ | refine pu_leq ?_ | refine pu_gtr ?_ | refine pu_geq ?_ | refine pu_add ?_ | refine pu_sub ?_ | refine pu_mul ?_ | refine pu_neg ?_ | refine fa_at ?_ | refine nl_ptr ?_ | refine ex20 ?_ | refine ex21 ?_ | refine ex30 ?_ | refine ex31 ?_ | refine ex32 ?_ | refine ln_rule ?_ | refine lnT_rule ?_ | refine pu_and ?_ | refine pu_or ?_ | refine pu_xor ?_ | refine pu_seq ?_ | refine pu_sne ?_)
        rw [wrap64_in (by omega) (by omega)]
        refine st1_here (A := []) h11 rfl rfl (by simp) (fun w12 h12 => ?_)
        exact ⟨⟨bt', t + 1, mk :: ms, rfl, rfl, by simp; omega, by omega, h12.sub (.cons_cons _ (.cons_cons _ (.cons _ (.cons _ (.refl _)))))⟩, by simp [mkD]; omega⟩
    · rintro mk j Y w9 ⟨rfl, i, rfl, hi1, hi2, ht, hmi, hi⟩ h9
      have hv0 : t = 0 → (i : Int) = if (if many > 1 then many else 1) < (((opens l l.length).length : Nat) : Int) then (if many > 1 then many else 1) else (((opens l l.length).length : Nat) : Int) := fun h0 => by
        split <;> split at * <;> omega
      have hv1 : t = 1 → (i : Int) = (((opens l l.length).length : Nat) : Int) := fun h1 => by omega
      refine ld_here h9 (.tail _ (.tail _ (.head _))) rfl ?_
      repeat (first | refine pu_not ?_ | refine pu_eql ?_ | refine pu_neq ?_ | refine pu_lss ?_ | refine pu_leq ?_ | refine pu_gtr ?_ | refine pu_geq ?_ | refine pu_add ?_ | refine pu_sub ?_ | refine pu_mul ?_ | refine pu_neg ?_ | refine fa_at ?_ | refine nl_ptr ?_ | refine ex20 ?_ | refine ex21 ?_ | refine ex30 ?_ | refine ex31 ?_ | refine ex32 ?_ | refine ln_rule ?_ | refine lnT_rule ?_ | refine pu_and ?_ | refine pu_or ?_ | refine pu_xor ?_ | refine pu_seq ?_ | refine pu_sne ?_)
      refine cnd (fun ht0 => ?_) (fun ht0 => ?_)
      · have ht0 : t = 0 := by simp at ht0; omega
        refine ld_here h9 (.tail _ (.head _)) rfl ?_
        refine ld_here h9 (.tail _ (.tail _ (.tail _ (List.mem_append_right _ mA0)))) rfl ?_
        refine sl_ln hat ?_
        rw [List.length_map]
        repeat (first | refine pu_not ?_ | refine pu_eql ?_ | refine pu_neq ?_ | refine pu_lss ?_ | refine pu_leq ?_ | refine pu_gtr ?_ | refine pu_geq ?_ | refine pu_add ?_ | refine pu_sub ?_ | refine pu_mul ?_ | refine pu_neg ?_ | refine fa_at ?_ | refine nl_ptr ?_ | refine ex20 ?_ | refine ex21 ?_ | refine ex30 ?_ | refine ex31 ?_ | refine ex32 ?_ | refine ln_rule ?_ | refine lnT_rule ?_ | refine pu_and ?_ | refine pu_or ?_ | refine pu_xor ?_ | refine pu_seq ?_ | refine pu_sne ?_)
        refine ld_here h9 (.tail _ (.tail _ (.tail _ (List.mem_append_right _ mM0)))) rfl ?_
        refine pu_max2 ?_
        refine pu_min2 ?_
        repeat (first | refine pu_not ?_ | refine pu_eql ?_ | refine pu_neq ?_ | refine pu_lss ?_ | refine pu_leq ?_ | refine pu_gtr ?_ | refine pu_geq ?_ | refine pu_add ?_ | refine pu_sub ?_ | refine pu_mul ?_ | refine pu_neg ?_ | refine fa_at ?_ | refine nl_ptr ?_ | refine ex20 ?_ | refine ex21 ?_ | refine ex30 ?_ | refine ex31 ?_ | refine ex32 ?_ | refine ln_rule ?_ | refine lnT_rule ?_ | refine pu_and ?_ | refine pu_or ?_ | refine pu_xor ?_ | refine pu_seq ?_ | refine pu_sne ?_)
        refine cnd_f ?_ ?_
        · have := hv0 ht0
          simp only [bne_eq_false_iff_eq]
          split <;> split at this <;> split at * <;> omega
        refine ld_here h9 (.tail _ (.tail _ (.head _))) rfl ?_
        repeat (first | refine pu_not ?_ | refine pu_eql ?_ | refine pu_neq ?_ | refine pu_lss ?_ | refine pu_leq ?_ | refine pu_gtr ?_ | refine pu_geq ?_ | refine pu_add ?_ | refine pu_sub ?_ | refine pu_mul ?_ | refine pu_neg ?_ | refine fa_at ?_ | refine nl_ptr ?_ | refine ex20 ?_ | refine ex21 ?_ | refine ex30 ?_ | refine ex31 ?_ | refine ex32 ?_ | refine ln_rule ?_ | refine lnT_rule ?_ | refine pu_and ?_ | refine pu_or ?_ | refine pu_xor ?_ | refine pu_seq ?_ | refine pu_sne ?_)
        refine cnd_f (by simp; omega) ?_
        refine ld_here h9 (.tail _ (.tail _ (.head _))) rfl ?_
        refine al_rule h9 (l := [vI 0]) (by kernel_rfl) (fun bt' w10 h10 => ?_)
        refine st1_here (A := []) h10 rfl rfl (by simp) (fun w11 h11 => ?_)
        refine ld_here h11 (.head _) rfl ?_
        repeat (first | refine pu_not ?_ | refine pu_eql ?_ | refine pu_neq ?_ | refine pu_lss ?_ | refine pu_leq ?_ | refine pu_gtr ?_ | refine pu_geq ?_ | refine pu_add ?_ | refine pu_sub ?_ | refine pu_mul ?_ | refine pu_neg ?_ | refine fa_at ?_ | refine nl_ptr ?_ | refine ex20 ?_ | refine ex21 ?_ | refine ex30 ?_ | refine ex31 ?_ | refine ex32 ?_ | refine ln_rule ?_ | refine lnT_rule ?_ | refine pu_and ?_ | refine pu_or ?_ | refine pu_xor ?_ | refine pu_seq ?_ | refine pu_sne ?_)
        rw [wrap64_in (by omega) (by omega)]
        refine st1_here (A := []) h11 rfl rfl (by simp) (fun w12 h12 => ?_)
        exact ⟨⟨bt', t + 1, mk :: ms, rfl, rfl, by simp; omega, by omega, h12.sub (.cons_cons _ (.cons_cons _ (.cons _ (.cons _ (.refl _)))))⟩, by simp [mkD]; omega⟩
      · have ht0 : t = 1 := by simp at ht0; omega
        refine ld_here h9 (.tail _ (.tail _ (.head _))) rfl ?_
        repeat (first | refine pu_not ?_ | refine pu_eql ?_ | refine pu_neq ?_ | refine pu_lss ?_ | refine pu_leq ?_ | refine pu_gtr ?_ | refine pu_geq ?_ | refine pu_add ?_ | refine pu_sub ?_ | refine pu_mul ?_ | refine pu_neg ?_ | refine fa_at ?_ | refine nl_ptr ?_ | refine ex20 ?_ | refine ex21 ?_ | refine ex30 ?_ | refine ex31 ?_ | refine ex32 ?_ | refine ln_rule ?_ | refine lnT_rule ?_ | refine pu_and ?_ | refine pu_or ?_ | refine pu_xor ?_ | refine pu_seq ?_ | refine pu_sne ?_)
        refine cnd_t (by simp; omega) ?_
        refine ld_here h9 (.tail _ (.head _)) rfl ?_
        refine ld_here h9 (.tail _ (.tail _ (.tail _ (List.mem_append_right _ mA0)))) rfl ?_
        refine sl_ln hat ?_
        rw [List.length_map]
        repeat (first | refine pu_not ?_ | refine pu_eql ?_ | refine pu_neq ?_ | refine pu_lss ?_ | refine pu_leq ?_ | refine pu_gtr ?_ | refine pu_geq ?_ | refine pu_add ?_ | refine pu_sub ?_ | refine pu_mul ?_ | refine pu_neg ?_ | refine fa_at ?_ | refine nl_ptr ?_ | refine ex20 ?_ | refine ex21 ?_ | refine ex30 ?_ | refine ex31 ?_ | refine ex32 ?_ | refine ln_rule ?_ | refine lnT_rule ?_ | refine pu_and ?_ | refine pu_or ?_ | refine pu_xor ?_ | refine pu_seq ?_ | refine pu_sne ?_)
        refine cnd_f (by have := hv1 ht0; simp <;> omega) ?_
        refine ld_here h9 (.tail _ (.tail _ (.head _))) rfl ?_
        refine al_rule h9 (l := [vI 0]) (by kernel_rfl) (fun bt' w10 h10 => ?_)
        refine st1_here (A := []) h10 rfl rfl (by simp) (fun w11 h11 => ?_)
        refine ld_here h11 (.head _) rfl ?_
        repeat (first | refine pu_not ?_ | refine pu_eql ?_ | refine pu_neq ?_ | refine pu_lss ?_ | refine pu_leq ?_ | refine pu_gtr ?_ | refine pu_geq ?_ | refine pu_add ?_ | refine pu_sub ?_ | refine pu_mul ?_ | refine pu_neg ?_ | refine fa_at ?_ | refine nl_ptr ?_ | refine ex20 ?_ | refine ex21 ?_ | refine ex30 ?_ | refine ex31 ?_ | refine ex32 ?_ | refine ln_rule ?_ | refine lnT_rule ?_ | refine pu_and ?_ | refine pu_or ?_ | refine pu_xor ?_ | refine pu_seq ?_ | refine pu_sne ?_)
        rw [wrap64_in (by omega) (by omega)]
        refine st1_here (A := []) h11 rfl rfl (by simp) (fun w12 h12 => ?_)
        exact ⟨⟨bt', t + 1, mk :: ms, rfl, rfl, by simp; omega, by omega, h12.sub (.cons_cons _ (.cons_cons _ (.cons _ (.cons _ (.refl _)))))⟩, by simp [mkD]; omega⟩
  · obtain rfl : t = 2 := by simp at hlt; omega
    rw [← hD] at h8
    have h9 := h8.drop
    refine vworks_spec h9 (fun w10 h10 => ?_)
    refine st1_here (A := mkB ms ++ (bs, cel [v] T.t_api_Clock) :: (S4 ++ (ba, cel [at'] T.t_sl_int) :: S)) (by simpa using h10) rfl rfl (by simp) (fun w11 h11 => ?_)
    refine lv_rets (C := ((bs, cel [v] T.t_api_Clock) :: (S4 ++ (ba, cel [at'] T.t_sl_int) :: S)) ++ _) (by rw [← List.append_assoc]; exact h11) (fun w12 h12 => ?_)
    refine ld_here h12 (List.mem_append_right _ (.head _)) rfl ?_
    exact k w12 (h12.sub (List.sublist_append_right _ _)).drop.drop.drop
end
end Go.Proofs.Ytobanjfpoeinhaa
