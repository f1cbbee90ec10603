/- Locks: what is told of none; the law RwlockNone. -/
import Derived.Test.YtaifohjgamhhnaaVdO
set_option linter.unusedVariables false
set_option linter.unusedSimpArgs false
namespace Go.Proofs.Ytaifohjgamhhnaa
open Go Go.RowKit Vc Vd
attribute [local irreducible] binV Op.unary convert nlW faW ldS ldW ixS ixA ixV ixT exW lnS lnT pu stW alW opW opU bsW mkW

section
variable {B w : World} {H F : Hp} {K : Value → World → Prop} {PK : List PanicEntry → World → Prop} {x : Value} {i y : Int} {L : List Lk} {m b : Nat}
/-- None of locks. -/
inductive NP (H : Hp) : Value → Prop
  | nil : NP H (.pointer none)
  | at {b : Nat} {l : List Value} : (b, cel l T.t_rwlock_Locks) ∈ H → l[193]? = some (vB false) → NP H (ptr b)
theorem NP.mono {H' : Hp} (h : NP H x) (hs : ∀ x, x ∈ H → x ∈ H') : NP H' x := by
  cases h with
  | nil => exact .nil
  | «at» h1 h2 => exact .at (hs _ h1) h2
theorem NP.cells (h : NP H x) : x.cells = #[x] := by cases h <;> rfl
theorem none_np (hp : NP H x) (h : Ow B w H) (k : ∀ w', Ow B w' H → K (vB true) w') : callW PG N.rwlock_Locks_none [x] K PK w := by
  cases hp with
  | nil => exact none_nil h k
  | «at» h1 h2 =>
    refine rwlock_Locks_none.ok ?_
    unfold rwlock_Locks_none.C
    refine pu_pnil und_ptr ?_
    refine cnd_f rfl ?_
    repeat (first | refine pu_not ?_ | refine pu_eql ?_ | refine pu_neq ?_ | refine pu_lss ?_ | refine pu_leq ?_ | refine pu_gtr ?_ | refine pu_geq ?_ | refine pu_add ?_ | refine pu_sub ?_ | refine pu_mul ?_ | refine pu_neg ?_ | refine fa_at ?_ | refine nl_ptr ?_ | refine ex20 ?_ | refine ex21 ?_ | refine ex30 ?_ | refine ex31 ?_ | refine ex32 ?_ | refine ln_rule ?_ | refine lnT_rule ?_ | refine pu_and ?_ | refine pu_or ?_ | refine pu_xor ?_ | refine pu_seq ?_ | refine pu_sne ?_)
    refine ld_here h h1 (by simpa using h2) ?_
    repeat (first | refine pu_not ?_ | refine pu_eql ?_ | refine pu_neq ?_ | refine pu_lss ?_ | refine pu_leq ?_ | refine pu_gtr ?_ | refine pu_geq ?_ | refine pu_add ?_ | refine pu_sub ?_ | refine pu_mul ?_ | refine pu_neg ?_ | refine fa_at ?_ | refine nl_ptr ?_ | refine ex20 ?_ | refine ex21 ?_ | refine ex30 ?_ | refine ex31 ?_ | refine ex32 ?_ | refine ln_rule ?_ | refine lnT_rule ?_ | refine pu_and ?_ | refine pu_or ?_ | refine pu_xor ?_ | refine pu_seq ?_ | refine pu_sne ?_)
    exact k w h
theorem asked_np {bt n : Nat} {more : List (Value × Int)} (hp : NP H x) (h : Ow B w H) (ht : (bt, cel (flat more) T.t_rwlock_ask) ∈ H) (hn : more.length = n) (hf : ∀ p ∈ more, isFnV p.1 = true) (hlen : n < 50)
    (k : ∀ w', Ow B w' H → K (vI 1) w') : callW PG N.rwlock_Locks_asked [x, vI i, vI y, .slice (some ⟨bt, 0, none⟩) n n] K PK w := by
  refine rwlock_Locks_asked.ok ?_
  unfold rwlock_Locks_asked.C
  refine al_rule h (l := [x]) hp.cells (fun b2 w1 h1 => ?_)
  refine al_rule h1 (l := [vI i]) rfl (fun b4 w2 h2 => ?_)
  refine al_rule h2 (l := [vI y]) rfl (fun b6 w3 h3 => ?_)
  refine ld_here h3 (.tail _ (.tail _ (.head _))) rfl ?_
  refine pu_build [.func (.func N.rwlock_Locks_none) #[x] #[], vI 1] (by kernel_rfl) ?_
  refine pu_build [fnc N.rwlock_Locks_asked_1 #[ptr b6], vI 2] (by kernel_rfl) ?_
  refine pu_build [fnc N.rwlock_Locks_asked_2 #[ptr b2, ptr b4], vI 4] (by kernel_rfl) ?_
  refine bs_rule h3 (flat [(.func (.func N.rwlock_Locks_none) #[x] #[], 1), (fnc N.rwlock_Locks_asked_1 #[ptr b6], 2), (fnc N.rwlock_Locks_asked_2 #[ptr b2, ptr b4], 4)]) (by kernel_rfl) (fun b7 w4 h4 => ?_)
  generalize hX : [((.func (.func N.rwlock_Locks_none) #[x] #[] : Value), (1 : Int)), (fnc N.rwlock_Locks_asked_1 #[ptr b6], 2), (fnc N.rwlock_Locks_asked_2 #[ptr b2, ptr b4], 4)] = X at h4
  have hXl : X.length = 3 := by rw [← hX]; rfl
  obtain ⟨inf, i1, i2, i3, i4⟩ := info_of info_ask
  refine app_rule (A := []) (S := [(b7, cel (flat X) T.t_rwlock_ask)]) (xs := flat X) (ys := flat more) (H := H) h4 (Own.mk (Nat.le_refl _) (by simp [maxLen]) (by rw [flat_len, hXl]) (by rw [List.take_of_length_le]; rw [flat_len, hXl]; exact Nat.le_refl _)) (src_here ht (by rw [flat_len, hn])) (fun y hy => List.mem_append_right _ (.tail _ (.tail _ (.tail _ hy)))) (flat_plain hf) und_slask i1 i2 i3 i4 rfl (by omega) (by simp [maxLen]; omega) (by omega) (fun S' v' w5 h5 ho => ?_)
  rw [← flat_app] at ho
  refine first_spec (xs := X ++ more) (r := 1) h5 (by rw [List.length_append, hXl, hn]; exact ho) (fun x hx => List.mem_append_left _ hx) (by rw [List.length_append]; omega) ?_ ?_ (fun w6 h6 => ?_)
  · intro p hp
    rcases List.mem_append.1 hp with hp | hp
    · rw [← hX] at hp
      simp only [List.mem_cons, List.not_mem_nil, or_false] at hp
      rcases hp with rfl | rfl | rfl <;> rfl
    · exact hf p hp
  · rw [← hX]
    refine ⟨true, fun X K PK w hw k => callV_fn rwlock_Locks_none.okf (none_np (hp.mono fun z hz => List.mem_append_right _ (List.mem_append_right _ (.tail _ (.tail _ (.tail _ hz))))) hw k), ?_⟩
    rw [if_pos rfl]
  · refine k w6 (h6.sub ?_)
    exact (List.Sublist.refl H).cons _ |>.cons _ |>.cons _ |>.trans (List.sublist_append_right _ _)
theorem read_np (hp : NP H x) (h : Ow B w H) (k : ∀ w', Ow B w' H → K (vI 1) w') : callW PG N.rwlock_Locks_Read [x, vI i, vI y] K PK w := by
  refine rwlock_Locks_Read.ok ?_
  unfold rwlock_Locks_Read.C
  refine al_rule h (l := [x]) hp.cells (fun b2 w1 h1 => ?_)
  refine al_rule h1 (l := [vI i]) rfl (fun b4 w2 h2 => ?_)
  refine ld_here h2 (.tail _ (.head _)) rfl ?_
  refine ld_here h2 (.head _) rfl ?_
  refine pu_build [fnc N.rwlock_Locks_Read_1 #[ptr b2, ptr b4], vI 240] (by kernel_rfl) ?_
  refine bs_rule h2 (flat [(fnc N.rwlock_Locks_Read_1 #[ptr b2, ptr b4], 240)]) (by kernel_rfl) (fun bt w3 h3 => ?_)
  refine asked_np (hp.mono fun z hz => .tail _ (.tail _ (.tail _ hz))) h3 (.head _) rfl (fun p hp => by rw [List.mem_singleton.1 hp]; rfl) (by omega) (fun w4 h4 => ?_)
  refine neq0 ?_
  refine cnd_t rfl ?_
  exact k _ h4.drop.drop.drop
theorem write_np (hp : NP H x) (h : Ow B w H) (k : ∀ w', Ow B w' H → K (vI 1) w') : callW PG N.rwlock_Locks_Write [x, vI i, vI y] K PK w := by
  refine rwlock_Locks_Write.ok ?_
  unfold rwlock_Locks_Write.C
  refine al_rule h (l := [x]) hp.cells (fun b2 w1 h1 => ?_)
  refine al_rule h1 (l := [vI i]) rfl (fun b4 w2 h2 => ?_)
  refine ld_here h2 (.tail _ (.head _)) rfl ?_
  refine ld_here h2 (.head _) rfl ?_
  refine pu_build [fnc N.rwlock_Locks_Write_1 #[ptr b2, ptr b4], vI 240] (by kernel_rfl) ?_
  refine pu_build [fnc N.rwlock_Locks_Write_2 #[ptr b2, ptr b4], vI 241] (by kernel_rfl) ?_
  refine bs_rule h2 (flat [(fnc N.rwlock_Locks_Write_1 #[ptr b2, ptr b4], 240), (fnc N.rwlock_Locks_Write_2 #[ptr b2, ptr b4], 241)]) (by kernel_rfl) (fun bt w3 h3 => ?_)
  refine asked_np (hp.mono fun z hz => .tail _ (.tail _ (.tail _ hz))) h3 (.head _) rfl (fun p hp => ?_) (by omega) (fun w4 h4 => ?_)
  · simp only [List.mem_cons, List.not_mem_nil, or_false] at hp
    rcases hp with rfl | rfl <;> rfl
  refine neq0 ?_
  refine cnd_t rfl ?_
  exact k _ h4.drop.drop.drop
theorem unread_np (hp : NP H x) (h : Ow B w H) (k : ∀ w', Ow B w' H → K (.tuple #[vI 0, vI 1]) w') : callW PG N.rwlock_Locks_Unread [x, vI i, vI y] K PK w := by
  refine rwlock_Locks_Unread.ok ?_
  unfold rwlock_Locks_Unread.C
  refine al_rule h (l := [x]) hp.cells (fun b2 w1 h1 => ?_)
  refine al_rule h1 (l := [vI i]) rfl (fun b4 w2 h2 => ?_)
  refine al_rule h2 (l := [vI y]) rfl (fun b6 w3 h3 => ?_)
  refine ld_here h3 (.tail _ (.tail _ (.head _))) rfl ?_
  refine ld_here h3 (.tail _ (.head _)) rfl ?_
  refine ld_here h3 (.head _) rfl ?_
  refine pu_build [fnc N.rwlock_Locks_Unread_1 #[ptr b2, ptr b4], vI 242] (by kernel_rfl) ?_
  refine bs_rule h3 (flat [(fnc N.rwlock_Locks_Unread_1 #[ptr b2, ptr b4], 242)]) (by kernel_rfl) (fun bt w4 h4 => ?_)
  refine asked_np (hp.mono fun z hz => .tail _ (.tail _ (.tail _ (.tail _ hz)))) h4 (.head _) rfl (fun p hp => by rw [List.mem_singleton.1 hp]; rfl) (by omega) (fun w5 h5 => ?_)
  refine neq0 ?_
  refine cnd_t rfl ?_
  exact k _ h5.drop.drop.drop.drop
theorem unwrite_np (hp : NP H x) (h : Ow B w H) (k : ∀ w', Ow B w' H → K (.tuple #[vI 0, vI 1]) w') : callW PG N.rwlock_Locks_Unwrite [x, vI i] K PK w := by
  refine rwlock_Locks_Unwrite.ok ?_
  unfold rwlock_Locks_Unwrite.C
  refine al_rule h (l := [x]) hp.cells (fun b2 w1 h1 => ?_)
  refine al_rule h1 (l := [vI i]) rfl (fun b4 w2 h2 => ?_)
  refine ld_here h2 (.tail _ (.head _)) rfl ?_
  refine ld_here h2 (.head _) rfl ?_
  refine pu_build [fnc N.rwlock_Locks_Unwrite_1 #[ptr b2, ptr b4], vI 242] (by kernel_rfl) ?_
  refine bs_rule h2 (flat [(fnc N.rwlock_Locks_Unwrite_1 #[ptr b2, ptr b4], 242)]) (by kernel_rfl) (fun bt w3 h3 => ?_)
  refine asked_np (hp.mono fun z hz => .tail _ (.tail _ (.tail _ hz))) h3 (.head _) rfl (fun p hp => by rw [List.mem_singleton.1 hp]; rfl) (by omega) (fun w4 h4 => ?_)
  refine neq0 ?_
  refine cnd_t rfl ?_
  exact k _ h4.drop.drop.drop
theorem writer_np (hp : NP H x) (h : Ow B w H) (k : ∀ w', Ow B w' H → K (.tuple #[vI 0, vB false]) w') : callW PG N.rwlock_Locks_Writer [x, vI i] K PK w := by
  refine rwlock_Locks_Writer.ok ?_
  unfold rwlock_Locks_Writer.C
  refine none_np hp h (fun w1 h1 => ?_)
  refine cnd_t rfl ?_
  exact k _ h1
theorem readers_np (hp : NP H x) (h : Ow B w H) (k : ∀ w', Ow B w' H → K (.slice none 0 0) w') : callW PG N.rwlock_Locks_Readers [x, vI i] K PK w := by
  refine rwlock_Locks_Readers.ok ?_
  unfold rwlock_Locks_Readers.C
  refine none_np hp h (fun w1 h1 => ?_)
  refine cnd_t rfl ?_
  exact k _ h1
theorem len_np (hp : NP H x) (h : Ow B w H) (k : ∀ w', Ow B w' H → K (vI 0) w') : callW PG N.rwlock_Locks_Len [x] K PK w := by
  refine rwlock_Locks_Len.ok ?_
  unfold rwlock_Locks_Len.C
  refine none_np hp h (fun w1 h1 => ?_)
  refine cnd_t rfl ?_
  exact k _ h1
theorem copy_np (hp : NP H x) (h : Ow B w H) (k : ∀ w', Ow B w' H → K (.pointer none) w') : callW PG N.rwlock_Locks_Copy [x] K PK w := by
  refine rwlock_Locks_Copy.ok ?_
  unfold rwlock_Locks_Copy.C
  refine none_np hp h (fun w1 h1 => ?_)
  refine cnd_t rfl ?_
  exact k _ h1
theorem taken_np (hp : NP H x) (h : Ow B w H) (k : ∀ bo w', Seq PG B ((bo, cel (lcells (List.replicate 64 e0) ++ []) T.t_64_rwlock_lock) :: H) (fnc N.rwlock_Locks_Taken_1 #[ptr bo]) [] → Ow B w' ((bo, cel (lcells (List.replicate 64 e0) ++ []) T.t_64_rwlock_lock) :: H) → K (fnc N.rwlock_Locks_Taken_1 #[ptr bo]) w') : callW PG N.rwlock_Locks_Taken [x] K PK w := by
  refine rwlock_Locks_Taken.ok ?_
  unfold rwlock_Locks_Taken.C
  refine al_rule h (l := lcells (List.replicate 64 e0) ++ []) (by kernel_rfl) (fun bo w1 h1 => ?_)
  refine none_np (hp.mono fun z hz => .tail _ hz) h1 (fun w2 h2 => ?_)
  repeat (first | refine pu_not ?_ | refine pu_eql ?_ | refine pu_neq ?_ | refine pu_lss ?_ | refine pu_leq ?_ | refine pu_gtr ?_ | refine pu_geq ?_ | refine pu_add ?_ | refine pu_sub ?_ | refine pu_mul ?_ | refine pu_neg ?_ | refine fa_at ?_ | refine nl_ptr ?_ | refine ex20 ?_ | refine ex21 ?_ | refine ex30 ?_ | refine ex31 ?_ | refine ex32 ?_ | refine ln_rule ?_ | refine lnT_rule ?_ | refine pu_and ?_ | refine pu_or ?_ | refine pu_xor ?_ | refine pu_seq ?_ | refine pu_sne ?_)
  refine cnd_f rfl ?_
  refine k bo _ ?_ h2
  have := taken_seq (B := B) (L := []) (m := 0) (H := (bo, cel (lcells (List.replicate 64 e0) ++ []) T.t_64_rwlock_lock) :: H) (.head _) (List.length_replicate) (fun e he => by
    obtain ⟨_, rfl⟩ := List.mem_replicate.1 he
    exact .inl (own_none _ _)) (by simp [full]) ⟨by simp, by simp⟩
  have e : tL [] 64 = [] := by
    unfold tL
    rw [show takes [] 64 = takes [] ([] : List Lk).length from takes_out [] 64]
    rfl
  rwa [e] at this
theorem same_nn {x' : Value} (hp : NP H x) (hp' : NP H x') (h : Ow B w H) (k : ∀ w', Ow B w' H → K (vB true) w') : callW PG N.rwlock_Same [x, x'] K PK w := by
  refine rwlock_Same.ok ?_
  unfold rwlock_Same.C
  refine none_np hp h (fun w1 h1 => ?_)
  refine cnd_t rfl ?_
  refine none_np hp h1 (fun w2 h2 => ?_)
  refine cnd_t rfl ?_
  refine none_np hp' h2 (fun w3 h3 => ?_)
  exact k _ h3
theorem same_ln {x' : Value} (lp : LP L m b F) (hF : ∀ x, x ∈ F → x ∈ H) (hp' : NP H x') (h : Ow B w H) (k : ∀ w', Ow B w' H → K (vB false) w') : callW PG N.rwlock_Same [ptr b, x'] K PK w := by
  refine rwlock_Same.ok ?_
  unfold rwlock_Same.C
  refine none_spec lp h hF (fun w1 h1 => ?_)
  refine cnd_f rfl ?_
  refine none_np hp' h1 (fun w2 h2 => ?_)
  refine cnd_t rfl ?_
  refine none_spec lp h2 hF (fun w3 h3 => ?_)
  refine cnd_f rfl ?_
  exact k _ h3
theorem RwlockNone.law {v0 v1 : Value} (g0 : FitV PG H T.t_linesmanlaw14_Act v0) (g1 : FitV PG H T.t_bool v1) (h : Ow B w H) (k : ∀ w', Ow B w' H → K (vB true) w') : callW PG N.linesmanlaw14_RwlockNone [v0, v1] K PK w := by
  obtain ⟨cs, rfl, hf⟩ := g0.agg (by kernel_rfl)
  obtain ⟨a, rfl⟩ := act_of hf
  obtain ⟨zero, rfl⟩ := g1.bool und_bool
  refine linesmanlaw14_RwlockNone.ok ?_
  unfold linesmanlaw14_RwlockNone.C
  refine al_rule h (l := aC a) rfl (fun p w1 h1 => ?_)
  refine al_rule h1 (l := [vB false]) (by kernel_rfl) (fun q w2 h2 => ?_)
  refine cnd (fun hz => ?_) (fun hz => ?_)
  · refine pu_build (lcells (List.replicate 64 e0) ++ [vI 0, vB false]) (by kernel_rfl) ?_
    refine al_rule h2 (l := lcells (List.replicate 64 e0) ++ [vI 0, vB false]) rfl (fun x wA hA => ?_)
    have hp : NP ([(x, cel (lcells (List.replicate 64 e0) ++ [vI 0, vB false]) T.t_rwlock_Locks)] ++ (q, cel [vB false] T.t_bool) :: (p, cel (aC a) T.t_linesmanlaw14_Act) :: H) (ptr x) := .at (.head _) (by kernel_rfl)
    have hA : Ow B wA ([(x, cel (lcells (List.replicate 64 e0) ++ [vI 0, vB false]) T.t_rwlock_Locks)] ++ (q, cel [vB false] T.t_bool) :: (p, cel (aC a) T.t_linesmanlaw14_Act) :: H) := hA
    generalize ([(x, cel (lcells (List.replicate 64 e0) ++ [vI 0, vB false]) T.t_rwlock_Locks)] : Hp) = A1 at hp hA
    have mp : (p, cel (aC a) T.t_linesmanlaw14_Act) ∈ A1 ++ (q, cel [vB false] T.t_bool) :: (p, cel (aC a) T.t_linesmanlaw14_Act) :: H := List.mem_append_right _ (.tail _ (.head _))
    repeat (first | refine pu_not ?_ | refine pu_eql ?_ | refine pu_neq ?_ | refine pu_lss ?_ | refine pu_leq ?_ | refine pu_gtr ?_ | refine pu_geq ?_ | refine pu_add ?_ | refine pu_sub ?_ | refine pu_mul ?_ | refine pu_neg ?_ | refine fa_at ?_ | refine nl_ptr ?_ | refine ex20 ?_ | refine ex21 ?_ | refine ex30 ?_ | refine ex31 ?_ | refine ex32 ?_ | refine ln_rule ?_ | refine lnT_rule ?_ | refine pu_and ?_ | refine pu_or ?_ | refine pu_xor ?_ | refine pu_seq ?_ | refine pu_sne ?_)
    refine ld_here (l := aC a) hA mp rfl ?_
    repeat (first | refine pu_not ?_ | refine pu_eql ?_ | refine pu_neq ?_ | refine pu_lss ?_ | refine pu_leq ?_ | refine pu_gtr ?_ | refine pu_geq ?_ | refine pu_add ?_ | refine pu_sub ?_ | refine pu_mul ?_ | refine pu_neg ?_ | refine fa_at ?_ | refine nl_ptr ?_ | refine ex20 ?_ | refine ex21 ?_ | refine ex30 ?_ | refine ex31 ?_ | refine ex32 ?_ | refine ln_rule ?_ | refine lnT_rule ?_ | refine pu_and ?_ | refine pu_or ?_ | refine pu_xor ?_ | refine pu_seq ?_ | refine pu_sne ?_)
    refine ld_here (l := aC a) hA mp rfl ?_
    refine unread_np hp hA (fun wB hB => ?_)
    repeat (first | refine pu_not ?_ | refine pu_eql ?_ | refine pu_neq ?_ | refine pu_lss ?_ | refine pu_leq ?_ | refine pu_gtr ?_ | refine pu_geq ?_ | refine pu_add ?_ | refine pu_sub ?_ | refine pu_mul ?_ | refine pu_neg ?_ | refine fa_at ?_ | refine nl_ptr ?_ | refine ex20 ?_ | refine ex21 ?_ | refine ex30 ?_ | refine ex31 ?_ | refine ex32 ?_ | refine ln_rule ?_ | refine lnT_rule ?_ | refine pu_and ?_ | refine pu_or ?_ | refine pu_xor ?_ | refine pu_seq ?_ | refine pu_sne ?_)
    refine ld_here (l := aC a) hB mp rfl ?_
    refine unwrite_np hp hB (fun wC hC => ?_)
    repeat (first | refine pu_not ?_ | refine pu_eql ?_ | refine pu_neq ?_ | refine pu_lss ?_ | refine pu_leq ?_ | refine pu_gtr ?_ | refine pu_geq ?_ | refine pu_add ?_ | refine pu_sub ?_ | refine pu_mul ?_ | refine pu_neg ?_ | refine fa_at ?_ | refine nl_ptr ?_ | refine ex20 ?_ | refine ex21 ?_ | refine ex30 ?_ | refine ex31 ?_ | refine ex32 ?_ | refine ln_rule ?_ | refine lnT_rule ?_ | refine pu_and ?_ | refine pu_or ?_ | refine pu_xor ?_ | refine pu_seq ?_ | refine pu_sne ?_)
    refine ld_here (l := aC a) hC mp rfl ?_
    refine writer_np hp hC (fun wD hD => ?_)
    repeat (first | refine pu_not ?_ | refine pu_eql ?_ | refine pu_neq ?_ | refine pu_lss ?_ | refine pu_leq ?_ | refine pu_gtr ?_ | refine pu_geq ?_ | refine pu_add ?_ | refine pu_sub ?_ | refine pu_mul ?_ | refine pu_neg ?_ | refine fa_at ?_ | refine nl_ptr ?_ | refine ex20 ?_ | refine ex21 ?_ | refine ex30 ?_ | refine ex31 ?_ | refine ex32 ?_ | refine ln_rule ?_ | refine lnT_rule ?_ | refine pu_and ?_ | refine pu_or ?_ | refine pu_xor ?_ | refine pu_seq ?_ | refine pu_sne ?_)
    refine taken_np hp hD (fun bo wE hseq hE => ?_)
    refine pu_fnl (by kernel_rfl) ?_
    refine cnd_f rfl ?_
    refine range_fn (L := []) (X := []) (H := (bo, cel (lcells (List.replicate 64 e0) ++ []) T.t_64_rwlock_lock) :: (A1 ++ (q, cel [vB false] T.t_bool) :: (p, cel (aC a) T.t_linesmanlaw14_Act) :: H)) (A := linesmanlaw14_RwlockNone.note) (fuel := 400) mixed hseq (by simp) (by simp) hE
      (fun _ Y => Y = []) (fun _ _ => False) rfl ?_ ?_ ?_
    · intro l r i args X F R w hL
      simp at hL
    · rintro mk Y wF rfl hF
      have hF : Ow B wF ([(mk, .deferred (some [])), (bo, cel (lcells (List.replicate 64 e0) ++ []) T.t_64_rwlock_lock)] ++ (A1 ++ (q, cel [vB false] T.t_bool) :: (p, cel (aC a) T.t_linesmanlaw14_Act) :: H)) := hF
      generalize hZ : ([(mk, .deferred (some [])), (bo, cel (lcells (List.replicate 64 e0) ++ []) T.t_64_rwlock_lock)] : Hp) = Z at hF
      have mk2 : (mk, Obj.deferred (some [])) ∈ Z := by rw [← hZ]; exact .head _
      refine new_spec hF (fun hb => absurd (by omega) hb) (fun _ _ o FF w3 lp h3 => ?_)
      have hp3 := hp.mono (H' := FF ++ (Z ++ (A1 ++ (q, cel [vB false] T.t_bool) :: (p, cel (aC a) T.t_linesmanlaw14_Act) :: H))) fun y hy => List.mem_append_right _ (List.mem_append_right _ hy)
      have mp3 : (p, cel (aC a) T.t_linesmanlaw14_Act) ∈ FF ++ (Z ++ (A1 ++ (q, cel [vB false] T.t_bool) :: (p, cel (aC a) T.t_linesmanlaw14_Act) :: H)) := List.mem_append_right _ (List.mem_append_right _ mp)
      repeat (first | refine pu_not ?_ | refine pu_eql ?_ | refine pu_neq ?_ | refine pu_lss ?_ | refine pu_leq ?_ | refine pu_gtr ?_ | refine pu_geq ?_ | refine pu_add ?_ | refine pu_sub ?_ | refine pu_mul ?_ | refine pu_neg ?_ | refine fa_at ?_ | refine nl_ptr ?_ | refine ex20 ?_ | refine ex21 ?_ | refine ex30 ?_ | refine ex31 ?_ | refine ex32 ?_ | refine ln_rule ?_ | refine lnT_rule ?_ | refine pu_and ?_ | refine pu_or ?_ | refine pu_xor ?_ | refine pu_seq ?_ | refine pu_sne ?_)
      refine ld_here (l := aC a) h3 mp3 rfl ?_
      repeat (first | refine pu_not ?_ | refine pu_eql ?_ | refine pu_neq ?_ | refine pu_lss ?_ | refine pu_leq ?_ | refine pu_gtr ?_ | refine pu_geq ?_ | refine pu_add ?_ | refine pu_sub ?_ | refine pu_mul ?_ | refine pu_neg ?_ | refine fa_at ?_ | refine nl_ptr ?_ | refine ex20 ?_ | refine ex21 ?_ | refine ex30 ?_ | refine ex31 ?_ | refine ex32 ?_ | refine ln_rule ?_ | refine lnT_rule ?_ | refine pu_and ?_ | refine pu_or ?_ | refine pu_xor ?_ | refine pu_seq ?_ | refine pu_sne ?_)
      refine ld_here (l := aC a) h3 mp3 rfl ?_
      refine read_np hp3 h3 (fun w4 h4 => ?_)
      refine num_spec h4 (fun w5 h5 => ?_)
      repeat (first | refine pu_not ?_ | refine pu_eql ?_ | refine pu_neq ?_ | refine pu_lss ?_ | refine pu_leq ?_ | refine pu_gtr ?_ | refine pu_geq ?_ | refine pu_add ?_ | refine pu_sub ?_ | refine pu_mul ?_ | refine pu_neg ?_ | refine fa_at ?_ | refine nl_ptr ?_ | refine ex20 ?_ | refine ex21 ?_ | refine ex30 ?_ | refine ex31 ?_ | refine ex32 ?_ | refine ln_rule ?_ | refine lnT_rule ?_ | refine pu_and ?_ | refine pu_or ?_ | refine pu_xor ?_ | refine pu_seq ?_ | refine pu_sne ?_)
      refine cnd_t rfl ?_
      repeat (first | refine pu_not ?_ | refine pu_eql ?_ | refine pu_neq ?_ | refine pu_lss ?_ | refine pu_leq ?_ | refine pu_gtr ?_ | refine pu_geq ?_ | refine pu_add ?_ | refine pu_sub ?_ | refine pu_mul ?_ | refine pu_neg ?_ | refine fa_at ?_ | refine nl_ptr ?_ | refine ex20 ?_ | refine ex21 ?_ | refine ex30 ?_ | refine ex31 ?_ | refine ex32 ?_ | refine ln_rule ?_ | refine lnT_rule ?_ | refine pu_and ?_ | refine pu_or ?_ | refine pu_xor ?_ | refine pu_seq ?_ | refine pu_sne ?_)
      refine ld_here (l := aC a) h5 mp3 rfl ?_
      repeat (first | refine pu_not ?_ | refine pu_eql ?_ | refine pu_neq ?_ | refine pu_lss ?_ | refine pu_leq ?_ | refine pu_gtr ?_ | refine pu_geq ?_ | refine pu_add ?_ | refine pu_sub ?_ | refine pu_mul ?_ | refine pu_neg ?_ | refine fa_at ?_ | refine nl_ptr ?_ | refine ex20 ?_ | refine ex21 ?_ | refine ex30 ?_ | refine ex31 ?_ | refine ex32 ?_ | refine ln_rule ?_ | refine lnT_rule ?_ | refine pu_and ?_ | refine pu_or ?_ | refine pu_xor ?_ | refine pu_seq ?_ | refine pu_sne ?_)
      refine ld_here (l := aC a) h5 mp3 rfl ?_
      refine write_np hp3 h5 (fun w6 h6 => ?_)
      refine num_spec h6 (fun w7 h7 => ?_)
      repeat (first | refine pu_not ?_ | refine pu_eql ?_ | refine pu_neq ?_ | refine pu_lss ?_ | refine pu_leq ?_ | refine pu_gtr ?_ | refine pu_geq ?_ | refine pu_add ?_ | refine pu_sub ?_ | refine pu_mul ?_ | refine pu_neg ?_ | refine fa_at ?_ | refine nl_ptr ?_ | refine ex20 ?_ | refine ex21 ?_ | refine ex30 ?_ | refine ex31 ?_ | refine ex32 ?_ | refine ln_rule ?_ | refine lnT_rule ?_ | refine pu_and ?_ | refine pu_or ?_ | refine pu_xor ?_ | refine pu_seq ?_ | refine pu_sne ?_)
      refine cnd_t rfl ?_
      refine num_spec h7 (fun w8 h8 => ?_)
      repeat (first | refine pu_not ?_ | refine pu_eql ?_ | refine pu_neq ?_ | refine pu_lss ?_ | refine pu_leq ?_ | refine pu_gtr ?_ | refine pu_geq ?_ | refine pu_add ?_ | refine pu_sub ?_ | refine pu_mul ?_ | refine pu_neg ?_ | refine fa_at ?_ | refine nl_ptr ?_ | refine ex20 ?_ | refine ex21 ?_ | refine ex30 ?_ | refine ex31 ?_ | refine ex32 ?_ | refine ln_rule ?_ | refine lnT_rule ?_ | refine pu_and ?_ | refine pu_or ?_ | refine pu_xor ?_ | refine pu_seq ?_ | refine pu_sne ?_)
      refine cnd_t rfl ?_
      refine num_spec h8 (fun w9 h9 => ?_)
      repeat (first | refine pu_not ?_ | refine pu_eql ?_ | refine pu_neq ?_ | refine pu_lss ?_ | refine pu_leq ?_ | refine pu_gtr ?_ | refine pu_geq ?_ | refine pu_add ?_ | refine pu_sub ?_ | refine pu_mul ?_ | refine pu_neg ?_ | refine fa_at ?_ | refine nl_ptr ?_ | refine ex20 ?_ | refine ex21 ?_ | refine ex30 ?_ | refine ex31 ?_ | refine ex32 ?_ | refine ln_rule ?_ | refine lnT_rule ?_ | refine pu_and ?_ | refine pu_or ?_ | refine pu_xor ?_ | refine pu_seq ?_ | refine pu_sne ?_)
      refine cnd_t rfl ?_
      repeat (first | refine pu_not ?_ | refine pu_eql ?_ | refine pu_neq ?_ | refine pu_lss ?_ | refine pu_leq ?_ | refine pu_gtr ?_ | refine pu_geq ?_ | refine pu_add ?_ | refine pu_sub ?_ | refine pu_mul ?_ | refine pu_neg ?_ | refine fa_at ?_ | refine nl_ptr ?_ | refine ex20 ?_ | refine ex21 ?_ | refine ex30 ?_ | refine ex31 ?_ | refine ex32 ?_ | refine ln_rule ?_ | refine lnT_rule ?_ | refine pu_and ?_ | refine pu_or ?_ | refine pu_xor ?_ | refine pu_seq ?_ | refine pu_sne ?_)
      refine cnd_t rfl ?_
      repeat (first | refine pu_not ?_ | refine pu_eql ?_ | refine pu_neq ?_ | refine pu_lss ?_ | refine pu_leq ?_ | refine pu_gtr ?_ | refine pu_geq ?_ | refine pu_add ?_ | refine pu_sub ?_ | refine pu_mul ?_ | refine pu_neg ?_ | refine fa_at ?_ | refine nl_ptr ?_ | refine ex20 ?_ | refine ex21 ?_ | refine ex30 ?_ | refine ex31 ?_ | refine ex32 ?_ | refine ln_rule ?_ | refine lnT_rule ?_ | refine pu_and ?_ | refine pu_or ?_ | refine pu_xor ?_ | refine pu_seq ?_ | refine pu_sne ?_)
      refine ld_here (l := aC a) h9 mp3 rfl ?_
      refine readers_np hp3 h9 (fun w10 h10 => ?_)
      refine ln_rule ?_
      repeat (first | refine pu_not ?_ | refine pu_eql ?_ | refine pu_neq ?_ | refine pu_lss ?_ | refine pu_leq ?_ | refine pu_gtr ?_ | refine pu_geq ?_ | refine pu_add ?_ | refine pu_sub ?_ | refine pu_mul ?_ | refine pu_neg ?_ | refine fa_at ?_ | refine nl_ptr ?_ | refine ex20 ?_ | refine ex21 ?_ | refine ex30 ?_ | refine ex31 ?_ | refine ex32 ?_ | refine ln_rule ?_ | refine lnT_rule ?_ | refine pu_and ?_ | refine pu_or ?_ | refine pu_xor ?_ | refine pu_seq ?_ | refine pu_sne ?_)
      refine cnd_t rfl ?_
      refine len_np hp3 h10 (fun w11 h11 => ?_)
      repeat (first | refine pu_not ?_ | refine pu_eql ?_ | refine pu_neq ?_ | refine pu_lss ?_ | refine pu_leq ?_ | refine pu_gtr ?_ | refine pu_geq ?_ | refine pu_add ?_ | refine pu_sub ?_ | refine pu_mul ?_ | refine pu_neg ?_ | refine fa_at ?_ | refine nl_ptr ?_ | refine ex20 ?_ | refine ex21 ?_ | refine ex30 ?_ | refine ex31 ?_ | refine ex32 ?_ | refine ln_rule ?_ | refine lnT_rule ?_ | refine pu_and ?_ | refine pu_or ?_ | refine pu_xor ?_ | refine pu_seq ?_ | refine pu_sne ?_)
      refine cnd_t rfl ?_
      refine copy_np hp3 h11 (fun w12 h12 => ?_)
      refine pu_pnil und_ptr ?_
      refine cnd_t rfl ?_
      refine same_nn hp3 .nil h12 (fun w13 h13 => ?_)
      refine cnd_t rfl ?_
      refine num_spec h13 (fun w14 h14 => ?_)
      repeat (first | refine pu_not ?_ | refine pu_eql ?_ | refine pu_neq ?_ | refine pu_lss ?_ | refine pu_leq ?_ | refine pu_gtr ?_ | refine pu_geq ?_ | refine pu_add ?_ | refine pu_sub ?_ | refine pu_mul ?_ | refine pu_neg ?_ | refine fa_at ?_ | refine nl_ptr ?_ | refine ex20 ?_ | refine ex21 ?_ | refine ex30 ?_ | refine ex31 ?_ | refine ex32 ?_ | refine ln_rule ?_ | refine lnT_rule ?_ | refine pu_and ?_ | refine pu_or ?_ | refine pu_xor ?_ | refine pu_seq ?_ | refine pu_sne ?_)
      refine cnd_t rfl ?_
      refine same_ln lp (fun x hx => List.mem_append_left _ hx) hp3 h14 (fun w15 h15 => ?_)
      repeat (first | refine pu_not ?_ | refine pu_eql ?_ | refine pu_neq ?_ | refine pu_lss ?_ | refine pu_leq ?_ | refine pu_gtr ?_ | refine pu_geq ?_ | refine pu_add ?_ | refine pu_sub ?_ | refine pu_mul ?_ | refine pu_neg ?_ | refine fa_at ?_ | refine nl_ptr ?_ | refine ex20 ?_ | refine ex21 ?_ | refine ex30 ?_ | refine ex31 ?_ | refine ex32 ?_ | refine ln_rule ?_ | refine lnT_rule ?_ | refine pu_and ?_ | refine pu_or ?_ | refine pu_xor ?_ | refine pu_seq ?_ | refine pu_sne ?_)
      refine cnd_t rfl ?_
      refine works_spec h15 (fun w16 h16 => ?_)
      have h16 : Ow B w16 ((FF ++ (Z ++ A1)) ++ (q, cel [vB false] T.t_bool) :: (p, cel (aC a) T.t_linesmanlaw14_Act) :: H) := by simpa using h16
      refine st1_here h16 rfl rfl (by simp) (fun w17 h17 => ?_)
      simp only [List.set_cons_zero] at h17
      have h18 : Ow B w17 ((mk, .deferred (some [])) :: (q, cel [vB true] T.t_bool) :: (p, cel (aC a) T.t_linesmanlaw14_Act) :: H) := by
        have : Ow B w17 (Z ++ (q, cel [vB true] T.t_bool) :: (p, cel (aC a) T.t_linesmanlaw14_Act) :: H) := by
          refine h17.sub ?_
          rw [List.append_assoc]
          refine List.Sublist.trans ?_ (List.sublist_append_right _ _)
          rw [List.append_assoc]
          exact (List.Sublist.refl Z).append (List.sublist_append_right _ _)
        rw [← hZ] at this
        exact this.sub (.cons_cons _ (.cons _ (.refl _)))
      refine lv_ret h18 (fun w19 h19 => ?_)
      refine ld_here h19 (.head _) rfl ?_
      exact k _ h19.drop.drop
    · intro mk j Y wF hf
      exact hf.elim
  · have hp : NP (([] : Hp) ++ (q, cel [vB false] T.t_bool) :: (p, cel (aC a) T.t_linesmanlaw14_Act) :: H) (.pointer none) := .nil
    have hA : Ow B w2 (([] : Hp) ++ (q, cel [vB false] T.t_bool) :: (p, cel (aC a) T.t_linesmanlaw14_Act) :: H) := h2
    generalize ([] : Hp) = A1 at hp hA
    have mp : (p, cel (aC a) T.t_linesmanlaw14_Act) ∈ A1 ++ (q, cel [vB false] T.t_bool) :: (p, cel (aC a) T.t_linesmanlaw14_Act) :: H := List.mem_append_right _ (.tail _ (.head _))
    repeat (first | refine pu_not ?_ | refine pu_eql ?_ | refine pu_neq ?_ | refine pu_lss ?_ | refine pu_leq ?_ | refine pu_gtr ?_ | refine pu_geq ?_ | refine pu_add ?_ | refine pu_sub ?_ | refine pu_mul ?_ | refine pu_neg ?_ | refine fa_at ?_ | refine nl_ptr ?_ | refine ex20 ?_ | refine ex21 ?_ | refine ex30 ?_ | refine ex31 ?_ | refine ex32 ?_ | refine ln_rule ?_ | refine lnT_rule ?_ | refine pu_and ?_ | refine pu_or ?_ | refine pu_xor ?_ | refine pu_seq ?_ | refine pu_sne ?_)
    refine ld_here (l := aC a) hA mp rfl ?_
    repeat (first | refine pu_not ?_ | refine pu_eql ?_ | refine pu_neq ?_ | refine pu_lss ?_ | refine pu_leq ?_ | refine pu_gtr ?_ | refine pu_geq ?_ | refine pu_add ?_ | refine pu_sub ?_ | refine pu_mul ?_ | refine pu_neg ?_ | refine fa_at ?_ | refine nl_ptr ?_ | refine ex20 ?_ | refine ex21 ?_ | refine ex30 ?_ | refine ex31 ?_ | refine ex32 ?_ | refine ln_rule ?_ | refine lnT_rule ?_ | refine pu_and ?_ | refine pu_or ?_ | refine pu_xor ?_ | refine pu_seq ?_ | refine pu_sne ?_)
    refine ld_here (l := aC a) hA mp rfl ?_
    refine unread_np hp hA (fun wB hB => ?_)
    repeat (first | refine pu_not ?_ | refine pu_eql ?_ | refine pu_neq ?_ | refine pu_lss ?_ | refine pu_leq ?_ | refine pu_gtr ?_ | refine pu_geq ?_ | refine pu_add ?_ | refine pu_sub ?_ | refine pu_mul ?_ | refine pu_neg ?_ | refine fa_at ?_ | refine nl_ptr ?_ | refine ex20 ?_ | refine ex21 ?_ | refine ex30 ?_ | refine ex31 ?_ | refine ex32 ?_ | refine ln_rule ?_ | refine lnT_rule ?_ | refine pu_and ?_ | refine pu_or ?_ | refine pu_xor ?_ | refine pu_seq ?_ | refine pu_sne ?_)
    refine ld_here (l := aC a) hB mp rfl ?_
    refine unwrite_np hp hB (fun wC hC => ?_)
    repeat (first | refine pu_not ?_ | refine pu_eql ?_ | refine pu_neq ?_ | refine pu_lss ?_ | refine pu_leq ?_ | refine pu_gtr ?_ | refine pu_geq ?_ | refine pu_add ?_ | refine pu_sub ?_ | refine pu_mul ?_ | refine pu_neg ?_ | refine fa_at ?_ | refine nl_ptr ?_ | refine ex20 ?_ | refine ex21 ?_ | refine ex30 ?_ | refine ex31 ?_ | refine ex32 ?_ | refine ln_rule ?_ | refine lnT_rule ?_ | refine pu_and ?_ | refine pu_or ?_ | refine pu_xor ?_ | refine pu_seq ?_ | refine pu_sne ?_)
    refine ld_here (l := aC a) hC mp rfl ?_
    refine writer_np hp hC (fun wD hD => ?_)
    repeat (first | refine pu_not ?_ | refine pu_eql ?_ | refine pu_neq ?_ | refine pu_lss ?_ | refine pu_leq ?_ | refine pu_gtr ?_ | refine pu_geq ?_ | refine pu_add ?_ | refine pu_sub ?_ | refine pu_mul ?_ | refine pu_neg ?_ | refine fa_at ?_ | refine nl_ptr ?_ | refine ex20 ?_ | refine ex21 ?_ | refine ex30 ?_ | refine ex31 ?_ | refine ex32 ?_ | refine ln_rule ?_ | refine lnT_rule ?_ | refine pu_and ?_ | refine pu_or ?_ | refine pu_xor ?_ | refine pu_seq ?_ | refine pu_sne ?_)
    refine taken_np hp hD (fun bo wE hseq hE => ?_)
    refine pu_fnl (by kernel_rfl) ?_
    refine cnd_f rfl ?_
    refine range_fn (L := []) (X := []) (H := (bo, cel (lcells (List.replicate 64 e0) ++ []) T.t_64_rwlock_lock) :: (A1 ++ (q, cel [vB false] T.t_bool) :: (p, cel (aC a) T.t_linesmanlaw14_Act) :: H)) (A := linesmanlaw14_RwlockNone.note) (fuel := 400) mixed hseq (by simp) (by simp) hE
      (fun _ Y => Y = []) (fun _ _ => False) rfl ?_ ?_ ?_
    · intro l r i args X F R w hL
      simp at hL
    · rintro mk Y wF rfl hF
      have hF : Ow B wF ([(mk, .deferred (some [])), (bo, cel (lcells (List.replicate 64 e0) ++ []) T.t_64_rwlock_lock)] ++ (A1 ++ (q, cel [vB false] T.t_bool) :: (p, cel (aC a) T.t_linesmanlaw14_Act) :: H)) := hF
      generalize hZ : ([(mk, .deferred (some [])), (bo, cel (lcells (List.replicate 64 e0) ++ []) T.t_64_rwlock_lock)] : Hp) = Z at hF
      have mk2 : (mk, Obj.deferred (some [])) ∈ Z := by rw [← hZ]; exact .head _
      refine new_spec hF (fun hb => absurd (by omega) hb) (fun _ _ o FF w3 lp h3 => ?_)
      have hp3 := hp.mono (H' := FF ++ (Z ++ (A1 ++ (q, cel [vB false] T.t_bool) :: (p, cel (aC a) T.t_linesmanlaw14_Act) :: H))) fun y hy => List.mem_append_right _ (List.mem_append_right _ hy)
      have mp3 : (p, cel (aC a) T.t_linesmanlaw14_Act) ∈ FF ++ (Z ++ (A1 ++ (q, cel [vB false] T.t_bool) :: (p, cel (aC a) T.t_linesmanlaw14_Act) :: H)) := List.mem_append_right _ (List.mem_append_right _ mp)
      repeat (first | refine pu_not ?_ | refine pu_eql ?_ | refine pu_neq ?_ | refine pu_lss ?_ | refine pu_leq ?_ | refine pu_gtr ?_ | refine pu_geq ?_ | refine pu_add ?_ | refine pu_sub ?_ | refine pu_mul ?_ | refine pu_neg ?_ | refine fa_at ?_ | refine nl_ptr ?_ | refine ex20 ?_ | refine ex21 ?_ | refine ex30 ?_ | refine ex31 ?_ | refine ex32 ?_ | refine ln_rule ?_ | refine lnT_rule ?_ | refine pu_and ?_ | refine pu_or ?_ | refine pu_xor ?_ | refine pu_seq ?_ | refine pu_sne ?_)
      refine ld_here (l := aC a) h3 mp3 rfl ?_
      repeat (first | refine pu_not ?_ | refine pu_eql ?_ | refine pu_neq ?_ | refine pu_lss ?_ | refine pu_leq ?_ | refine pu_gtr ?_ | refine pu_geq ?_ | refine pu_add ?_ | refine pu_sub ?_ | refine pu_mul ?_ | refine pu_neg ?_ | refine fa_at ?_ | refine nl_ptr ?_ | refine ex20 ?_ | refine ex21 ?_ | refine ex30 ?_ | refine ex31 ?_ | refine ex32 ?_ | refine ln_rule ?_ | refine lnT_rule ?_ | refine pu_and ?_ | refine pu_or ?_ | refine pu_xor ?_ | refine pu_seq ?_ | refine pu_sne ?_)
      refine ld_here (l := aC a) h3 mp3 rfl ?_
      refine read_np hp3 h3 (fun w4 h4 => ?_)
      refine num_spec h4 (fun w5 h5 => ?_)
      repeat (first | refine pu_not ?_ | refine pu_eql ?_ | refine pu_neq ?_ | refine pu_lss ?_ | refine pu_leq ?_ | refine pu_gtr ?_ | refine pu_geq ?_ | refine pu_add ?_ | refine pu_sub ?_ | refine pu_mul ?_ | refine pu_neg ?_ | refine fa_at ?_ | refine nl_ptr ?_ | refine ex20 ?_ | refine ex21 ?_ | refine ex30 ?_ | refine ex31 ?_ | refine ex32 ?_ | refine ln_rule ?_ | refine lnT_rule ?_ | refine pu_and ?_ | refine pu_or ?_ | refine pu_xor ?_ | refine pu_seq ?_ | refine pu_sne ?_)
      refine cnd_t rfl ?_
      repeat (first | refine pu_not ?_ | refine pu_eql ?_ | refine pu_neq ?_ | refine pu_lss ?_ | refine pu_leq ?_ | refine pu_gtr ?_ | refine pu_geq ?_ | refine pu_add ?_ | refine pu_sub ?_ | refine pu_mul ?_ | refine pu_neg ?_ | refine fa_at ?_ | refine nl_ptr ?_ | refine ex20 ?_ | refine ex21 ?_ | refine ex30 ?_ | refine ex31 ?_ | refine ex32 ?_ | refine ln_rule ?_ | refine lnT_rule ?_ | refine pu_and ?_ | refine pu_or ?_ | refine pu_xor ?_ | refine pu_seq ?_ | refine pu_sne ?_)
      refine ld_here (l := aC a) h5 mp3 rfl ?_
      repeat (first | refine pu_not ?_ | refine pu_eql ?_ | refine pu_neq ?_ | refine pu_lss ?_ | refine pu_leq ?_ | refine pu_gtr ?_ | refine pu_geq ?_ | refine pu_add ?_ | refine pu_sub ?_ | refine pu_mul ?_ | refine pu_neg ?_ | refine fa_at ?_ | refine nl_ptr ?_ | refine ex20 ?_ | refine ex21 ?_ | refine ex30 ?_ | refine ex31 ?_ | refine ex32 ?_ | refine ln_rule ?_ | refine lnT_rule ?_ | refine pu_and ?_ | refine pu_or ?_ | refine pu_xor ?_ | refine pu_seq ?_ | refine pu_sne ?_)
      refine ld_here (l := aC a) h5 mp3 rfl ?_
      refine write_np hp3 h5 (fun w6 h6 => ?_)
      refine num_spec h6 (fun w7 h7 => ?_)
      repeat (first | refine pu_not ?_ | refine pu_eql ?_ | refine pu_neq ?_ | refine pu_lss ?_ | refine pu_leq ?_ | refine pu_gtr ?_ | refine pu_geq ?_ | refine pu_add ?_ | refine pu_sub ?_ | refine pu_mul ?_ | refine pu_neg ?_ | refine fa_at ?_ | refine nl_ptr ?_ | refine ex20 ?_ | refine ex21 ?_ | refine ex30 ?_ | refine ex31 ?_ | refine ex32 ?_ | refine ln_rule ?_ | refine lnT_rule ?_ | refine pu_and ?_ | refine pu_or ?_ | refine pu_xor ?_ | refine pu_seq ?_ | refine pu_sne ?_)
      refine cnd_t rfl ?_
      refine num_spec h7 (fun w8 h8 => ?_)
      repeat (first | refine pu_not ?_ | refine pu_eql ?_ | refine pu_neq ?_ | refine pu_lss ?_ | refine pu_leq ?_ | refine pu_gtr ?_ | refine pu_geq ?_ | refine pu_add ?_ | refine pu_sub ?_ | refine pu_mul ?_ | refine pu_neg ?_ | refine fa_at ?_ | refine nl_ptr ?_ | refine ex20 ?_ | refine ex21 ?_ | refine ex30 ?_ | refine ex31 ?_ | refine ex32 ?_ | refine ln_rule ?_ | refine lnT_rule ?_ | refine pu_and ?_ | refine pu_or ?_ | refine pu_xor ?_ | refine pu_seq ?_ | refine pu_sne ?_)
      refine cnd_t rfl ?_
      refine num_spec h8 (fun w9 h9 => ?_)
      repeat (first | refine pu_not ?_ | refine pu_eql ?_ | refine pu_neq ?_ | refine pu_lss ?_ | refine pu_leq ?_ | refine pu_gtr ?_ | refine pu_geq ?_ | refine pu_add ?_ | refine pu_sub ?_ | refine pu_mul ?_ | refine pu_neg ?_ | refine fa_at ?_ | refine nl_ptr ?_ | refine ex20 ?_ | refine ex21 ?_ | refine ex30 ?_ | refine ex31 ?_ | refine ex32 ?_ | refine ln_rule ?_ | refine lnT_rule ?_ | refine pu_and ?_ | refine pu_or ?_ | refine pu_xor ?_ | refine pu_seq ?_ | refine pu_sne ?_)
      refine cnd_t rfl ?_
      repeat (first | refine pu_not ?_ | refine pu_eql ?_ | refine pu_neq ?_ | refine pu_lss ?_ | refine pu_leq ?_ | refine pu_gtr ?_ | refine pu_geq ?_ | refine pu_add ?_ | refine pu_sub ?_ | refine pu_mul ?_ | refine pu_neg ?_ | refine fa_at ?_ | refine nl_ptr ?_ | refine ex20 ?_ | refine ex21 ?_ | refine ex30 ?_ | refine ex31 ?_ | refine ex32 ?_ | refine ln_rule ?_ | refine lnT_rule ?_ | refine pu_and ?_ | refine pu_or ?_ | refine pu_xor ?_ | refine pu_seq ?_ | refine pu_sne ?_)
      refine cnd_t rfl ?_
      repeat (first | refine pu_not ?_ | refine pu_eql ?_ | refine pu_neq ?_ | refine pu_lss ?_ | refine pu_leq ?_ | refine pu_gtr ?_ | refine pu_geq ?_ | refine pu_add ?_ | refine pu_sub ?_ | refine pu_mul ?_ | refine pu_neg ?_ | refine fa_at ?_ | refine nl_ptr ?_ | refine ex20 ?_ | refine ex21 ?_ | refine ex30 ?_ | refine ex31 ?_ | refine ex32 ?_ | refine ln_rule ?_ | refine lnT_rule ?_ | refine pu_and ?_ | refine pu_or ?_ | refine pu_xor ?_ | refine pu_seq ?_ | refine pu_sne ?_)
      refine ld_here (l := aC a) h9 mp3 rfl ?_
      refine readers_np hp3 h9 (fun w10 h10 => ?_)
      refine ln_rule ?_
      repeat (first | refine pu_not ?_ | refine pu_eql ?_ | refine pu_neq ?_ | refine pu_lss ?_ | refine pu_leq ?_ | refine pu_gtr ?_ | refine pu_geq ?_ | refine pu_add ?_ | refine pu_sub ?_ | refine pu_mul ?_ | refine pu_neg ?_ | refine fa_at ?_ | refine nl_ptr ?_ | refine ex20 ?_ | refine ex21 ?_ | refine ex30 ?_ | refine ex31 ?_ | refine ex32 ?_ | refine ln_rule ?_ | refine lnT_rule ?_ | refine pu_and ?_ | refine pu_or ?_ | refine pu_xor ?_ | refine pu_seq ?_ | refine pu_sne ?_)
      refine cnd_t rfl ?_
      refine len_np hp3 h10 (fun w11 h11 => ?_)
      repeat (first | refine pu_not ?_ | refine pu_eql ?_ | refine pu_neq ?_ | refine pu_lss ?_ | refine pu_leq ?_ | refine pu_gtr ?_ | refine pu_geq ?_ | refine pu_add ?_ | refine pu_sub ?_ | refine pu_mul ?_ | refine pu_neg ?_ | refine fa_at ?_ | refine nl_ptr ?_ | refine ex20 ?_ | refine ex21 ?_ | refine ex30 ?_ | refine ex31 ?_ | refine ex32 ?_ | refine ln_rule ?_ | refine lnT_rule ?_ | refine pu_and ?_ | refine pu_or ?_ | refine pu_xor ?_ | refine pu_seq ?_ | refine pu_sne ?_)
      refine cnd_t rfl ?_
      refine copy_np hp3 h11 (fun w12 h12 => ?_)
      refine pu_pnil und_ptr ?_
      refine cnd_t rfl ?_
      refine same_nn hp3 .nil h12 (fun w13 h13 => ?_)
      refine cnd_t rfl ?_
      refine num_spec h13 (fun w14 h14 => ?_)
      repeat (first | refine pu_not ?_ | refine pu_eql ?_ | refine pu_neq ?_ | refine pu_lss ?_ | refine pu_leq ?_ | refine pu_gtr ?_ | refine pu_geq ?_ | refine pu_add ?_ | refine pu_sub ?_ | refine pu_mul ?_ | refine pu_neg ?_ | refine fa_at ?_ | refine nl_ptr ?_ | refine ex20 ?_ | refine ex21 ?_ | refine ex30 ?_ | refine ex31 ?_ | refine ex32 ?_ | refine ln_rule ?_ | refine lnT_rule ?_ | refine pu_and ?_ | refine pu_or ?_ | refine pu_xor ?_ | refine pu_seq ?_ | refine pu_sne ?_)
      refine cnd_t rfl ?_
      refine same_ln lp (fun x hx => List.mem_append_left _ hx) hp3 h14 (fun w15 h15 => ?_)
      repeat (first | refine pu_not ?_ | refine pu_eql ?_ | refine pu_neq ?_ | refine pu_lss ?_ | refine pu_leq ?_ | refine pu_gtr ?_ | refine pu_geq ?_ | refine pu_add ?_ | refine pu_sub ?_ | refine pu_mul ?_ | refine pu_neg ?_ | refine fa_at ?_ | refine nl_ptr ?_ | refine ex20 ?_ | refine ex21 ?_ | refine ex30 ?_ | refine ex31 ?_ | refine ex32 ?_ | refine ln_rule ?_ | refine lnT_rule ?_ | refine pu_and ?_ | refine pu_or ?_ | refine pu_xor ?_ | refine pu_seq ?_ | refine pu_sne ?_)
      refine cnd_t rfl ?_
      refine works_spec h15 (fun w16 h16 => ?_)
      have h16 : Ow B w16 ((FF ++ (Z ++ A1)) ++ (q, cel [vB false] T.t_bool) :: (p, cel (aC a) T.t_linesmanlaw14_Act) :: H) := by simpa using h16
      refine st1_here h16 rfl rfl (by simp) (fun w17 h17 => ?_)
      simp only [List.set_cons_zero] at h17
      have h18 : Ow B w17 ((mk, .deferred (some [])) :: (q, cel [vB true] T.t_bool) :: (p, cel (aC a) T.t_linesmanlaw14_Act) :: H) := by
        have : Ow B w17 (Z ++ (q, cel [vB true] T.t_bool) :: (p, cel (aC a) T.t_linesmanlaw14_Act) :: H) := by
          refine h17.sub ?_
          rw [List.append_assoc]
          refine List.Sublist.trans ?_ (List.sublist_append_right _ _)
          rw [List.append_assoc]
          exact (List.Sublist.refl Z).append (List.sublist_append_right _ _)
        rw [← hZ] at this
        exact this.sub (.cons_cons _ (.cons _ (.refl _)))
      refine lv_ret h18 (fun w19 h19 => ?_)
      refine ld_here h19 (.head _) rfl ?_
      exact k _ h19.drop.drop
    · intro mk j Y wF hf
      exact hf.elim
end
end Go.Proofs.Ytaifohjgamhhnaa
