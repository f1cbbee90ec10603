/- The law RwlockPlays: its walk. -/
import Derived.Test.YtaifohjgamhhnaaVdN
set_option linter.unusedVariables false
set_option linter.unusedSimpArgs false
namespace Go.Proofs.Ytaifohjgamhhnaa
open Go Go.RowKit Vc Vd
attribute [local irreducible] binV Op.unary convert nlW faW ldS ldW ixS ixA ixV ixT exW lnS lnT pu stW alW opW opU bsW mkW

section
variable {B w : World} {H : Hp} {K : Value → World → Prop} {PK : List PanicEntry → World → Prop}
abbrev aC (a : Int × Int × Int) : List Value := [vI a.1, vI a.2.1, vI a.2.2]
theorem act_of {cs : List Value} (h : Fit PG H T.t_linesmanlaw14_Act cs) : ∃ a : Int × Int × Int, cs = aC a := by
  have hl : cs.length = 3 := h.len (by kernel_rfl) (by kernel_rfl)
  match cs, hl with
  | [x, y, z], _ =>
    obtain ⟨a, ha, _⟩ := (h.field (i := 0) (T := T.t_int) (off := 0) (n := 1) (by kernel_rfl)).of_int und_int
    obtain ⟨b, hb, _⟩ := (h.field (i := 1) (T := T.t_int) (off := 1) (n := 1) (by kernel_rfl)).of_int und_int
    obtain ⟨c, hc, _⟩ := (h.field (i := 2) (T := T.t_int) (off := 2) (n := 1) (by kernel_rfl)).of_int und_int
    refine ⟨(a, b, c), ?_⟩
    have e1 : [x] = [vI a] := ha
    have e2 : [y] = [vI b] := hb
    have e3 : [z] = [vI c] := hc
    cases e1; cases e2; cases e3
    rfl
theorem acts_of {v : Value} (h : FitV PG H T.t_sl_linesmanlaw14_Act v) : ∃ l : List (Int × Int × Int), Sls H v 3 (l.map aC) := by
  obtain ⟨xs, h1, h2⟩ := h.slice (e := T.t_linesmanlaw14_Act) (by kernel_rfl)
  have : ∃ l : List (Int × Int × Int), xs = l.map aC := by
    clear h1
    induction xs with
    | nil => exact ⟨[], rfl⟩
    | cons x xs ih =>
      obtain ⟨l, hl⟩ := ih fun y hy => h2 y (.tail _ hy)
      obtain ⟨a, ha⟩ := act_of (h2 x (.head _))
      exact ⟨a :: l, by rw [ha, hl]; rfl⟩
  obtain ⟨l, rfl⟩ := this
  have e : PG.cellsOf T.t_linesmanlaw14_Act = 3 := by kernel_rfl
  rw [e] at h1
  exact ⟨l, h1⟩
theorem acts_at {l : List (Int × Int × Int)} {i : Nat} (h : i < l.length) : (l.map aC)[(i : Int).toNat]? = some (aC l[i]) := by
  rw [Int.toNat_natCast, List.getElem?_map, List.getElem?_eq_getElem h]; rfl
abbrev oL (s : Value) : Obj := cel [s] T.t_linesmanref14_Locks
theorem und_ptrL : PG.underlying T.t_ptr_rwlock_Locks = some (.pointer T.t_rwlock_Locks) := und_ptr
theorem RwlockPlays.law {v0 v1 : Value} (g0 : FitV PG H T.t_int v0) (g1 : FitV PG H T.t_sl_linesmanlaw14_Act v1) (h : Ow B w H) (k : ∀ w', Ow B w' H → K (vB true) w') : callW PG N.linesmanlaw14_RwlockPlays [v0, v1] K PK w := by
  obtain ⟨many, rfl, _⟩ := g0.int und_int
  obtain ⟨l, hl⟩ := acts_of g1
  clear g0 g1
  refine linesmanlaw14_RwlockPlays.ok ?_
  unfold linesmanlaw14_RwlockPlays.C
  refine sls_ln hl ?_
  rw [List.length_map]
  repeat (first | refine pu_not ?_ | refine pu_eql ?_ | refine pu_neq ?_ | refine pu_lss ?_ | refine pu_leq ?_ | refine pu_gtr ?_ | refine pu_geq ?_ | refine pu_add ?_ | refine pu_sub ?_ | refine pu_mul ?_ | refine pu_neg ?_ | refine fa_at ?_ | refine nl_ptr ?_ | refine ex20 ?_ | refine ex21 ?_ | refine ex30 ?_ | refine ex31 ?_ | refine ex32 ?_ | refine ln_rule ?_ | refine lnT_rule ?_ | refine pu_and ?_ | refine pu_or ?_ | refine pu_xor ?_ | refine pu_seq ?_ | refine pu_sne ?_)
  refine cnd (fun _ => works_spec h k) (fun hle => ?_)
  have hle : l.length ≤ 60 := by simp at hle; omega
  by_cases hm : 0 ≤ many ∧ many ≤ 64
  · refine new_spec h (fun hb => absurd hm hb) (fun _ _ b F w1 lp h1 => ?_)
    repeat (first | refine pu_not ?_ | refine pu_eql ?_ | refine pu_neq ?_ | refine pu_lss ?_ | refine pu_leq ?_ | refine pu_gtr ?_ | refine pu_geq ?_ | refine pu_add ?_ | refine pu_sub ?_ | refine pu_mul ?_ | refine pu_neg ?_ | refine fa_at ?_ | refine nl_ptr ?_ | refine ex20 ?_ | refine ex21 ?_ | refine ex30 ?_ | refine ex31 ?_ | refine ex32 ?_ | refine ln_rule ?_ | refine lnT_rule ?_ | refine pu_and ?_ | refine pu_or ?_ | refine pu_xor ?_ | refine pu_seq ?_ | refine pu_sne ?_)
    refine refNew_spec h1 (fun hb => absurd hm hb) (fun _ _ S s w2 hs h2 => ?_)
    repeat (first | refine pu_not ?_ | refine pu_eql ?_ | refine pu_neq ?_ | refine pu_lss ?_ | refine pu_leq ?_ | refine pu_gtr ?_ | refine pu_geq ?_ | refine pu_add ?_ | refine pu_sub ?_ | refine pu_mul ?_ | refine pu_neg ?_ | refine fa_at ?_ | refine nl_ptr ?_ | refine ex20 ?_ | refine ex21 ?_ | refine ex30 ?_ | refine ex31 ?_ | refine ex32 ?_ | refine ln_rule ?_ | refine lnT_rule ?_ | refine pu_and ?_ | refine pu_or ?_ | refine pu_xor ?_ | refine pu_seq ?_ | refine pu_sne ?_)
    refine al_rule h2 (l := [.slice none 0 0]) (by kernel_rfl) (fun t w3 h3 => ?_)
    refine st1s (A := []) h3 (rl.plain hs) (fun w4 h4 => ?_)
    have h4 : Ow B w4 (F ++ ((t, oL s) :: (S ++ H))) := front (A := (t, oL s) :: S) h4
    refine num_spec h4 (fun w5 h5 => ?_)
    refine neqs ?_
    refine cnd_f rfl ?_
    refine pu_pnnil und_ptr ?_
    repeat (first | refine pu_not ?_ | refine pu_eql ?_ | refine pu_neq ?_ | refine pu_lss ?_ | refine pu_leq ?_ | refine pu_gtr ?_ | refine pu_geq ?_ | refine pu_add ?_ | refine pu_sub ?_ | refine pu_mul ?_ | refine pu_neg ?_ | refine fa_at ?_ | refine nl_ptr ?_ | refine ex20 ?_ | refine ex21 ?_ | refine ex30 ?_ | refine ex31 ?_ | refine ex32 ?_ | refine ln_rule ?_ | refine lnT_rule ?_ | refine pu_and ?_ | refine pu_or ?_ | refine pu_xor ?_ | refine pu_seq ?_ | refine pu_sne ?_)
    refine neqb ?_
    refine cnd_f rfl ?_
    repeat (first | refine pu_not ?_ | refine pu_eql ?_ | refine pu_neq ?_ | refine pu_lss ?_ | refine pu_leq ?_ | refine pu_gtr ?_ | refine pu_geq ?_ | refine pu_add ?_ | refine pu_sub ?_ | refine pu_mul ?_ | refine pu_neg ?_ | refine fa_at ?_ | refine nl_ptr ?_ | refine ex20 ?_ | refine ex21 ?_ | refine ex30 ?_ | refine ex31 ?_ | refine ex32 ?_ | refine ln_rule ?_ | refine lnT_rule ?_ | refine pu_and ?_ | refine pu_or ?_ | refine pu_xor ?_ | refine pu_seq ?_ | refine pu_sne ?_)
    refine cnd_f rfl ?_
    refine ⟨fun l' w => ∃ (i b : Nat) (F S : Hp) (s : Value) (L : List Lk), l' = [ptr b, vI i] ∧ i ≤ l.length ∧ LP L i b F ∧ rl S s L ∧ Ow B w (F ++ ((t, oL s) :: (S ++ H))), fun l' _ => match l' with | [_, .int _ n] => l.length - n.toNat | _ => 0, ⟨0, b, F, S, s, _, rfl, Nat.zero_le _, lp, hs, h5⟩, ?_⟩
    clear lp hs h1 h2 h3 h4 h5
    rintro l' w5 ⟨i, b, F, S, s, L, rfl, hi, lp, hs, h5⟩ j
    refine sls_ln hl ?_
    rw [List.length_map]
    repeat (first | refine pu_not ?_ | refine pu_eql ?_ | refine pu_neq ?_ | refine pu_lss ?_ | refine pu_leq ?_ | refine pu_gtr ?_ | refine pu_geq ?_ | refine pu_add ?_ | refine pu_sub ?_ | refine pu_mul ?_ | refine pu_neg ?_ | refine fa_at ?_ | refine nl_ptr ?_ | refine ex20 ?_ | refine ex21 ?_ | refine ex30 ?_ | refine ex31 ?_ | refine ex32 ?_ | refine ln_rule ?_ | refine lnT_rule ?_ | refine pu_and ?_ | refine pu_or ?_ | refine pu_xor ?_ | refine pu_seq ?_ | refine pu_sne ?_)
    refine cnd (fun hlt => ?_) (fun hlt => ?_)
    · have hlt : i < l.length := by simpa using hlt
      refine ⟨fun w => Ow B w ((t, oL s) :: (S ++ H)), drp h5.drew, ?_⟩
      refine lds1 (fun w h => h) (.head _) ?_
      refine sls_lds (fun w h => h) (hl.mono fun x hx => .tail _ (List.mem_append_right _ hx)) (by omega) (acts_at hlt) ?_
      refine ⟨?_, ?_⟩
      · refine act_spec lp (by omega) hs (fun x hx => .tail _ (List.mem_append_left _ hx)) h5.drew (fun b' F' S' s' L' w6 lp' r' h6 => ?_)
        repeat (first | refine pu_not ?_ | refine pu_eql ?_ | refine pu_neq ?_ | refine pu_lss ?_ | refine pu_leq ?_ | refine pu_gtr ?_ | refine pu_geq ?_ | refine pu_add ?_ | refine pu_sub ?_ | refine pu_mul ?_ | refine pu_neg ?_ | refine fa_at ?_ | refine nl_ptr ?_ | refine ex20 ?_ | refine ex21 ?_ | refine ex30 ?_ | refine ex31 ?_ | refine ex32 ?_ | refine ln_rule ?_ | refine lnT_rule ?_ | refine pu_and ?_ | refine pu_or ?_ | refine pu_xor ?_ | refine pu_seq ?_ | refine pu_sne ?_)
        refine al_rule h6 (l := [.slice none 0 0]) (by kernel_rfl) (fun q w7 h7 => ?_)
        refine ⟨drp (drp h7.drop), ?_⟩
        refine st1s (A := []) h7 (rl.plain r') (fun w8 h8 => ?_)
        refine ⟨fun w => Ow B w ((q, oL s') :: (F' ++ (S' ++ (t, oL s) :: (S ++ H)))), h8.drew, ?_⟩
        refine lds1 (fun w h => h) (.head _) ?_
        have h9 : Ow B w8.drew (((q, oL s') :: (F' ++ S')) ++ (t, oL s) :: (S ++ H)) := by simpa using h8.drew
        refine st1s h9 (rl.plain r') (fun w10 h10 => ?_)
        have h10 : Ow B w10 (F' ++ (S' ++ (t, oL s') :: (S ++ H))) := Ow.drop (p := (q, oL s')) (by simpa using h10)
        repeat (first | refine pu_not ?_ | refine pu_eql ?_ | refine pu_neq ?_ | refine pu_lss ?_ | refine pu_leq ?_ | refine pu_gtr ?_ | refine pu_geq ?_ | refine pu_add ?_ | refine pu_sub ?_ | refine pu_mul ?_ | refine pu_neg ?_ | refine fa_at ?_ | refine nl_ptr ?_ | refine ex20 ?_ | refine ex21 ?_ | refine ex30 ?_ | refine ex31 ?_ | refine ex32 ?_ | refine ln_rule ?_ | refine lnT_rule ?_ | refine pu_and ?_ | refine pu_or ?_ | refine pu_xor ?_ | refine pu_seq ?_ | refine pu_sne ?_)
        refine cnd_f rfl ?_
        refine ld1 h10 (List.mem_append_right _ (List.mem_append_right _ (.head _))) ?_
        refine pu_rem (by decide) ?_
        refine is_spec (X := S' ++ S) lp' (by omega) r' (fun x hx => ?_) h10 (fun w11 h11 => ?_)
        · rcases List.mem_append.1 hx with hx | hx
          · exact List.mem_append_left _ hx
          · exact List.mem_append_right _ (.tail _ (List.mem_append_left _ hx))
        repeat (first | refine pu_not ?_ | refine pu_eql ?_ | refine pu_neq ?_ | refine pu_lss ?_ | refine pu_leq ?_ | refine pu_gtr ?_ | refine pu_geq ?_ | refine pu_add ?_ | refine pu_sub ?_ | refine pu_mul ?_ | refine pu_neg ?_ | refine fa_at ?_ | refine nl_ptr ?_ | refine ex20 ?_ | refine ex21 ?_ | refine ex30 ?_ | refine ex31 ?_ | refine ex32 ?_ | refine ln_rule ?_ | refine lnT_rule ?_ | refine pu_and ?_ | refine pu_or ?_ | refine pu_xor ?_ | refine pu_seq ?_ | refine pu_sne ?_)
        refine cnd_f rfl ?_
        repeat (first | refine pu_not ?_ | refine pu_eql ?_ | refine pu_neq ?_ | refine pu_lss ?_ | refine pu_leq ?_ | refine pu_gtr ?_ | refine pu_geq ?_ | refine pu_add ?_ | refine pu_sub ?_ | refine pu_mul ?_ | refine pu_neg ?_ | refine fa_at ?_ | refine nl_ptr ?_ | refine ex20 ?_ | refine ex21 ?_ | refine ex30 ?_ | refine ex31 ?_ | refine ex32 ?_ | refine ln_rule ?_ | refine lnT_rule ?_ | refine pu_and ?_ | refine pu_or ?_ | refine pu_xor ?_ | refine pu_seq ?_ | refine pu_sne ?_)
        rw [wrap64_in (by omega) (by omega)]
        refine ⟨⟨i + 1, b', F', S' ++ S, s', L', rfl, hlt, lp', r', ?_⟩, by simp; omega⟩
        rw [List.append_assoc]
        exact h11.perm ((List.perm_middle (l₁ := S') (l₂ := S ++ H)).append_left F')
      · refine al_rule h5.drew (l := [.slice none 0 0]) (by kernel_rfl) (fun q w6 h6 => ?_)
        refine ⟨drp h6.drop, ?_⟩
        have h6 : Ow B w6 (F ++ ((q, oL (.slice none 0 0)) :: (t, oL s) :: (S ++ H))) := front (A := [_]) h6
        refine act_spec lp (by omega) hs (fun x hx => .tail _ (.tail _ (List.mem_append_left _ hx))) h6 (fun b' F' S' s' L' w7 lp' r' h7 => ?_)
        repeat (first | refine pu_not ?_ | refine pu_eql ?_ | refine pu_neq ?_ | refine pu_lss ?_ | refine pu_leq ?_ | refine pu_gtr ?_ | refine pu_geq ?_ | refine pu_add ?_ | refine pu_sub ?_ | refine pu_mul ?_ | refine pu_neg ?_ | refine fa_at ?_ | refine nl_ptr ?_ | refine ex20 ?_ | refine ex21 ?_ | refine ex30 ?_ | refine ex31 ?_ | refine ex32 ?_ | refine ln_rule ?_ | refine lnT_rule ?_ | refine pu_and ?_ | refine pu_or ?_ | refine pu_xor ?_ | refine pu_seq ?_ | refine pu_sne ?_)
        have h7 : Ow B w7 ((F' ++ S') ++ (q, oL (.slice none 0 0)) :: (t, oL s) :: (S ++ H)) := by simpa using h7
        refine st1s h7 (rl.plain r') (fun w8 h8 => ?_)
        refine ⟨fun w => Ow B w ((F' ++ S') ++ (q, oL s') :: (t, oL s) :: (S ++ H)), h8.drew, ?_⟩
        refine lds1 (fun w h => h) (List.mem_append_right _ (.head _)) ?_
        have h9 : Ow B w8.drew (((F' ++ S') ++ [(q, oL s')]) ++ (t, oL s) :: (S ++ H)) := by simpa using h8.drew
        refine st1s h9 (rl.plain r') (fun w10 h10 => ?_)
        have h10 : Ow B w10 (F' ++ (S' ++ (t, oL s') :: (S ++ H))) := by
          have : Ow B w10 ((F' ++ S') ++ ([(q, oL s')] ++ (t, oL s') :: (S ++ H))) := by simpa using h10
          have := this.sub ((List.Sublist.refl (F' ++ S')).append (List.sublist_append_right _ _))
          simpa using this
        repeat (first | refine pu_not ?_ | refine pu_eql ?_ | refine pu_neq ?_ | refine pu_lss ?_ | refine pu_leq ?_ | refine pu_gtr ?_ | refine pu_geq ?_ | refine pu_add ?_ | refine pu_sub ?_ | refine pu_mul ?_ | refine pu_neg ?_ | refine fa_at ?_ | refine nl_ptr ?_ | refine ex20 ?_ | refine ex21 ?_ | refine ex30 ?_ | refine ex31 ?_ | refine ex32 ?_ | refine ln_rule ?_ | refine lnT_rule ?_ | refine pu_and ?_ | refine pu_or ?_ | refine pu_xor ?_ | refine pu_seq ?_ | refine pu_sne ?_)
        refine cnd_f rfl ?_
        refine ld1 h10 (List.mem_append_right _ (List.mem_append_right _ (.head _))) ?_
        refine pu_rem (by decide) ?_
        refine is_spec (X := S' ++ S) lp' (by omega) r' (fun x hx => ?_) h10 (fun w11 h11 => ?_)
        · rcases List.mem_append.1 hx with hx | hx
          · exact List.mem_append_left _ hx
          · exact List.mem_append_right _ (.tail _ (List.mem_append_left _ hx))
        repeat (first | refine pu_not ?_ | refine pu_eql ?_ | refine pu_neq ?_ | refine pu_lss ?_ | refine pu_leq ?_ | refine pu_gtr ?_ | refine pu_geq ?_ | refine pu_add ?_ | refine pu_sub ?_ | refine pu_mul ?_ | refine pu_neg ?_ | refine fa_at ?_ | refine nl_ptr ?_ | refine ex20 ?_ | refine ex21 ?_ | refine ex30 ?_ | refine ex31 ?_ | refine ex32 ?_ | refine ln_rule ?_ | refine lnT_rule ?_ | refine pu_and ?_ | refine pu_or ?_ | refine pu_xor ?_ | refine pu_seq ?_ | refine pu_sne ?_)
        refine cnd_f rfl ?_
        repeat (first | refine pu_not ?_ | refine pu_eql ?_ | refine pu_neq ?_ | refine pu_lss ?_ | refine pu_leq ?_ | refine pu_gtr ?_ | refine pu_geq ?_ | refine pu_add ?_ | refine pu_sub ?_ | refine pu_mul ?_ | refine pu_neg ?_ | refine fa_at ?_ | refine nl_ptr ?_ | refine ex20 ?_ | refine ex21 ?_ | refine ex30 ?_ | refine ex31 ?_ | refine ex32 ?_ | refine ln_rule ?_ | refine lnT_rule ?_ | refine pu_and ?_ | refine pu_or ?_ | refine pu_xor ?_ | refine pu_seq ?_ | refine pu_sne ?_)
        rw [wrap64_in (by omega) (by omega)]
        refine ⟨⟨i + 1, b', F', S' ++ S, s', L', rfl, hlt, lp', r', ?_⟩, by simp; omega⟩
        rw [List.append_assoc]
        exact h11.perm ((List.perm_middle (l₁ := S') (l₂ := S ++ H)).append_left F')
    · refine ld1 h5 (List.mem_append_right _ (.head _)) ?_
      refine is_spec (X := S) lp (by omega) hs (fun x hx => .tail _ (List.mem_append_left _ hx)) h5 (fun w6 h6 => ?_)
      refine cnd_t rfl ?_
      exact works_spec h6 fun w' h' => k w' (h'.sub (((List.sublist_append_right _ _).cons _).trans (List.sublist_append_right _ _)))
  · refine new_spec h (fun _ w1 h1 => ?_) (fun h0 h1 => absurd ⟨h0, h1⟩ hm)
    repeat (first | refine pu_not ?_ | refine pu_eql ?_ | refine pu_neq ?_ | refine pu_lss ?_ | refine pu_leq ?_ | refine pu_gtr ?_ | refine pu_geq ?_ | refine pu_add ?_ | refine pu_sub ?_ | refine pu_mul ?_ | refine pu_neg ?_ | refine fa_at ?_ | refine nl_ptr ?_ | refine ex20 ?_ | refine ex21 ?_ | refine ex30 ?_ | refine ex31 ?_ | refine ex32 ?_ | refine ln_rule ?_ | refine lnT_rule ?_ | refine pu_and ?_ | refine pu_or ?_ | refine pu_xor ?_ | refine pu_seq ?_ | refine pu_sne ?_)
    refine refNew_spec h1 (fun _ w2 h2 => ?_) (fun h0 h1 => absurd ⟨h0, h1⟩ hm)
    repeat (first | refine pu_not ?_ | refine pu_eql ?_ | refine pu_neq ?_ | refine pu_lss ?_ | refine pu_leq ?_ | refine pu_gtr ?_ | refine pu_geq ?_ | refine pu_add ?_ | refine pu_sub ?_ | refine pu_mul ?_ | refine pu_neg ?_ | refine fa_at ?_ | refine nl_ptr ?_ | refine ex20 ?_ | refine ex21 ?_ | refine ex30 ?_ | refine ex31 ?_ | refine ex32 ?_ | refine ln_rule ?_ | refine lnT_rule ?_ | refine pu_and ?_ | refine pu_or ?_ | refine pu_xor ?_ | refine pu_seq ?_ | refine pu_sne ?_)
    refine al_rule h2 (l := [.slice none 0 0]) (by kernel_rfl) (fun t w3 h3 => ?_)
    refine st1s (A := []) h3 rfl (fun w4 h4 => ?_)
    refine num_spec h4 (fun w5 h5 => ?_)
    refine neqs ?_
    refine cnd_f rfl ?_
    refine pu_pnnil und_ptr ?_
    repeat (first | refine pu_not ?_ | refine pu_eql ?_ | refine pu_neq ?_ | refine pu_lss ?_ | refine pu_leq ?_ | refine pu_gtr ?_ | refine pu_geq ?_ | refine pu_add ?_ | refine pu_sub ?_ | refine pu_mul ?_ | refine pu_neg ?_ | refine fa_at ?_ | refine nl_ptr ?_ | refine ex20 ?_ | refine ex21 ?_ | refine ex30 ?_ | refine ex31 ?_ | refine ex32 ?_ | refine ln_rule ?_ | refine lnT_rule ?_ | refine pu_and ?_ | refine pu_or ?_ | refine pu_xor ?_ | refine pu_seq ?_ | refine pu_sne ?_)
    refine neqb ?_
    refine cnd_f rfl ?_
    repeat (first | refine pu_not ?_ | refine pu_eql ?_ | refine pu_neq ?_ | refine pu_lss ?_ | refine pu_leq ?_ | refine pu_gtr ?_ | refine pu_geq ?_ | refine pu_add ?_ | refine pu_sub ?_ | refine pu_mul ?_ | refine pu_neg ?_ | refine fa_at ?_ | refine nl_ptr ?_ | refine ex20 ?_ | refine ex21 ?_ | refine ex30 ?_ | refine ex31 ?_ | refine ex32 ?_ | refine ln_rule ?_ | refine lnT_rule ?_ | refine pu_and ?_ | refine pu_or ?_ | refine pu_xor ?_ | refine pu_seq ?_ | refine pu_sne ?_)
    refine cnd_t rfl ?_
    exact works_spec h5 fun w' h' => k w' h'.drop
end
end Go.Proofs.Ytaifohjgamhhnaa
