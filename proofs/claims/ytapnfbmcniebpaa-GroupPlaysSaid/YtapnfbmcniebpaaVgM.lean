/- The laws GroupPlays, GroupCopies, GroupNone: their walks. -/
import Derived.Test.YtapnfbmcniebpaaVgL
set_option linter.unusedVariables false
set_option linter.unusedSimpArgs false
namespace Go.Proofs.Ytapnfbmcniebpaa
open Go Go.RowKit Vc
attribute [local irreducible] binV Op.unary convert

section
variable {B w : World} {H : Hp} {K : Value → World → Prop} {PK : List PanicEntry → World → Prop}
abbrev aC (a : Int × Int × Int) : List Value := [vI a.1, vI a.2.1, vI a.2.2]
theorem act_of {cs : List Value} (h : Fit PG H T.t_linesmanlaw15_Act cs) : ∃ a : Int × Int × Int, cs = aC a := by
  have hl : cs.length = 3 := h.len (by kernel_rfl) (by kernel_rfl)
  match cs, hl with
  | [x, y, z], _ =>
    obtain ⟨a, ha, _⟩ := (h.field (i := 0) (T := T.t_int) (off := 0) (n := 1) (by kernel_rfl)).of_int und_int
    obtain ⟨b, hb, _⟩ := (h.field (i := 1) (T := T.t_int) (off := 1) (n := 1) (by kernel_rfl)).of_int und_int
    obtain ⟨c, hc, _⟩ := (h.field (i := 2) (T := T.t_int64) (off := 2) (n := 1) (by kernel_rfl)).of_int und_int64
    refine ⟨(a, b, c), ?_⟩
    have e1 : [x] = [vI a] := ha
    have e2 : [y] = [vI b] := hb
    have e3 : [z] = [vI c] := hc
    cases e1; cases e2; cases e3
    rfl
theorem acts_of {v : Value} (h : FitV PG H T.t_sl_linesmanlaw15_Act v) : ∃ l : List (Int × Int × Int), Sls H v 3 (l.map aC) := by
  obtain ⟨xs, h1, h2⟩ := h.slice (e := T.t_linesmanlaw15_Act) (by kernel_rfl)
  have : ∃ l : List (Int × Int × Int), xs = l.map aC := by
    clear h1
    induction xs with
    | nil => exact ⟨[], rfl⟩
    | cons x xs ih =>
      obtain ⟨l, hl⟩ := ih fun y hy => h2 y (.tail _ hy)
      obtain ⟨a, ha⟩ := act_of (h2 x (.head _))
      exact ⟨a :: l, by rw [ha, hl]; rfl⟩
  obtain ⟨l, rfl⟩ := this
  have e : PG.cellsOf T.t_linesmanlaw15_Act = 3 := by kernel_rfl
  rw [e] at h1
  exact ⟨l, h1⟩
theorem rep_wf {n : Nat} (h : n ≤ 64) : RWf (List.replicate n 0) := ⟨by simpa using h, fun c hc => by
  obtain ⟨_, rfl⟩ := List.mem_replicate.1 hc; omega⟩

theorem GroupPlays.law {v0 v1 : Value} (g0 : FitV PG H T.t_int v0) (g1 : FitV PG H T.t_sl_linesmanlaw15_Act v1) (h : Ow B w H) (k : ∀ w', Ow B w' H → K (vB true) w') : callW PG N.linesmanlaw15_GroupPlays [v0, v1] K PK w := by
  obtain ⟨many, rfl, _⟩ := g0.int und_int
  obtain ⟨l, hl⟩ := acts_of g1
  clear g0 g1
  refine linesmanlaw15_GroupPlays.ok ?_
  unfold linesmanlaw15_GroupPlays.C
  refine sls_ln hl ?_
  rw [List.length_map]
  repeat (first | refine pu_not ?_ | refine pu_eql ?_ | refine pu_neq ?_ | refine pu_lss ?_ | refine pu_leq ?_ | refine pu_gtr ?_ | refine pu_geq ?_ | refine pu_add ?_ | refine pu_sub ?_ | refine pu_mul ?_ | refine pu_neg ?_ | refine fa_at ?_ | refine nl_ptr ?_ | refine ex20 ?_ | refine ex21 ?_ | refine ex30 ?_ | refine ex31 ?_ | refine ex32 ?_ | refine ln_rule ?_ | refine lnT_rule ?_ | refine pu_and ?_ | refine pu_or ?_ | refine pu_xor ?_ | refine pu_seq ?_ | refine pu_sne ?_)
  refine cnd (fun _ => works_spec h k) (fun hle => ?_)
  have hle : l.length ≤ 60 := by simp at hle; omega
  by_cases hm : 0 ≤ many ∧ many ≤ 64
  · refine new_spec h (fun hb => absurd hm hb) (fun _ _ b w1 h1 => ?_)
    repeat (first | refine pu_not ?_ | refine pu_eql ?_ | refine pu_neq ?_ | refine pu_lss ?_ | refine pu_leq ?_ | refine pu_gtr ?_ | refine pu_geq ?_ | refine pu_add ?_ | refine pu_sub ?_ | refine pu_mul ?_ | refine pu_neg ?_ | refine fa_at ?_ | refine nl_ptr ?_ | refine ex20 ?_ | refine ex21 ?_ | refine ex30 ?_ | refine ex31 ?_ | refine ex32 ?_ | refine ln_rule ?_ | refine lnT_rule ?_ | refine pu_and ?_ | refine pu_or ?_ | refine pu_xor ?_ | refine pu_seq ?_ | refine pu_sne ?_)
    refine refNew_spec h1 (fun hb => absurd hm hb) (fun _ _ S s w2 hs h2 => ?_)
    have h2 : Ow B w2 ((b, (GV.new many).obj) :: (S ++ H)) := mvo (L := [_]) h2
    repeat (first | refine pu_not ?_ | refine pu_eql ?_ | refine pu_neq ?_ | refine pu_lss ?_ | refine pu_leq ?_ | refine pu_gtr ?_ | refine pu_geq ?_ | refine pu_add ?_ | refine pu_sub ?_ | refine pu_mul ?_ | refine pu_neg ?_ | refine fa_at ?_ | refine nl_ptr ?_ | refine ex20 ?_ | refine ex21 ?_ | refine ex30 ?_ | refine ex31 ?_ | refine ex32 ?_ | refine ln_rule ?_ | refine lnT_rule ?_ | refine pu_and ?_ | refine pu_or ?_ | refine pu_xor ?_ | refine pu_seq ?_ | refine pu_sne ?_)
    refine al_rule h2 (l := [.slice none 0 0]) (by kernel_rfl) (fun t w3 h3 => ?_)
    refine st1s (A := []) h3 (sl_plain hs) (fun w4 h4 => ?_)
    refine num_spec ?_
    repeat (first | refine pu_not ?_ | refine pu_eql ?_ | refine pu_neq ?_ | refine pu_lss ?_ | refine pu_leq ?_ | refine pu_gtr ?_ | refine pu_geq ?_ | refine pu_add ?_ | refine pu_sub ?_ | refine pu_mul ?_ | refine pu_neg ?_ | refine fa_at ?_ | refine nl_ptr ?_ | refine ex20 ?_ | refine ex21 ?_ | refine ex30 ?_ | refine ex31 ?_ | refine ex32 ?_ | refine ln_rule ?_ | refine lnT_rule ?_ | refine pu_and ?_ | refine pu_or ?_ | refine pu_xor ?_ | refine pu_seq ?_ | refine pu_sne ?_)
    refine cnd_f (by simp) ?_
    refine pu_pnnil und_ptr ?_
    repeat (first | refine pu_not ?_ | refine pu_eql ?_ | refine pu_neq ?_ | refine pu_lss ?_ | refine pu_leq ?_ | refine pu_gtr ?_ | refine pu_geq ?_ | refine pu_add ?_ | refine pu_sub ?_ | refine pu_mul ?_ | refine pu_neg ?_ | refine fa_at ?_ | refine nl_ptr ?_ | refine ex20 ?_ | refine ex21 ?_ | refine ex30 ?_ | refine ex31 ?_ | refine ex32 ?_ | refine ln_rule ?_ | refine lnT_rule ?_ | refine pu_and ?_ | refine pu_or ?_ | refine pu_xor ?_ | refine pu_seq ?_ | refine pu_sne ?_)
    refine pu_bneq und_bool' ?_
    refine cnd_f (by simp) ?_
    repeat (first | refine pu_not ?_ | refine pu_eql ?_ | refine pu_neq ?_ | refine pu_lss ?_ | refine pu_leq ?_ | refine pu_gtr ?_ | refine pu_geq ?_ | refine pu_add ?_ | refine pu_sub ?_ | refine pu_mul ?_ | refine pu_neg ?_ | refine fa_at ?_ | refine nl_ptr ?_ | refine ex20 ?_ | refine ex21 ?_ | refine ex30 ?_ | refine ex31 ?_ | refine ex32 ?_ | refine ln_rule ?_ | refine lnT_rule ?_ | refine pu_and ?_ | refine pu_or ?_ | refine pu_xor ?_ | refine pu_seq ?_ | refine pu_sne ?_)
    refine cnd_f (by simp) ?_
    obtain ⟨n, rfl⟩ : ∃ n : Nat, many = n := ⟨many.toNat, by omega⟩
    rw [gOf_new n (by omega)] at h4
    have hx0 := rep_wf (n := n) (by omega)
    rw [Int.toNat_natCast] at hs
    have h4 : Ow B w4 ((t, cel [s] TG) :: (b, (gOf (List.replicate n 0)).obj) :: (S ++ H)) := h4
    refine ⟨fun l' w => ∃ (i b : Nat) (S : Hp) (s : Value) (xs : List Int), l' = [ptr b, vI i] ∧ i ≤ l.length ∧ RWf xs ∧ Sl S s (xs.map vI) ∧ Ow B w ((t, cel [s] TG) :: (b, (gOf xs).obj) :: (S ++ H)),
      fun l' _ => match l' with | [_, .int _ n] => l.length - n.toNat | _ => 0, ⟨0, b, S, s, _, rfl, Nat.zero_le _, hx0, hs, h4⟩, ?_⟩
    clear hs h4 hx0 h2
    rintro l' w5 ⟨i, b, S, s, xs, rfl, hi, hx, hs, h5⟩ j
    refine sls_ln hl ?_
    rw [List.length_map]
    repeat (first | refine pu_not ?_ | refine pu_eql ?_ | refine pu_neq ?_ | refine pu_lss ?_ | refine pu_leq ?_ | refine pu_gtr ?_ | refine pu_geq ?_ | refine pu_add ?_ | refine pu_sub ?_ | refine pu_mul ?_ | refine pu_neg ?_ | refine fa_at ?_ | refine nl_ptr ?_ | refine ex20 ?_ | refine ex21 ?_ | refine ex30 ?_ | refine ex31 ?_ | refine ex32 ?_ | refine ln_rule ?_ | refine lnT_rule ?_ | refine pu_and ?_ | refine pu_or ?_ | refine pu_xor ?_ | refine pu_seq ?_ | refine pu_sne ?_)
    refine cnd (fun hlt => ?_) (fun hge => ?_)
    · have hlt : i < l.length := by simpa using hlt
      have hat : (l.map aC)[(i : Int).toNat]? = some (aC l[i]) := by rw [Int.toNat_natCast, List.getElem?_map, List.getElem?_eq_getElem hlt]; rfl
      obtain ⟨hx', _⟩ := actL_wf hx l[i].1 l[i].2.1 l[i].2.2
      refine ⟨fun w => Ow B w ((t, cel [s] TG) :: (S ++ H)), h5.drew.sub (.cons_cons _ (.cons _ (.refl _))), ?_⟩
      refine lds1 (fun w h => h) (.head _) ?_
      refine sls_lds (fun w h => h) (hl.mono fun x hx => .tail _ (List.mem_append_right _ hx)) (by omega) hat ?_
      refine ⟨?_, ?_⟩
      · have h6 : Ow B (World.drew w5) ((b, (gOf xs).obj) :: (t, cel [s] TG) :: (S ++ H)) := h5.drew.perm (List.Perm.swap _ _ _)
        refine act_spec h6 hs (fun x hx => .tail _ (List.mem_append_left _ hx)) hx (fun b' Y s' w7 h7 hs' => ?_)
        have h7 : Ow B w7 ((b', (gOf (actL xs l[i].1 l[i].2.1 l[i].2.2)).obj) :: (t, cel [s] TG) :: (Y ++ (S ++ H))) := h7.perm (List.perm_middle.cons _)
        repeat (first | refine pu_not ?_ | refine pu_eql ?_ | refine pu_neq ?_ | refine pu_lss ?_ | refine pu_leq ?_ | refine pu_gtr ?_ | refine pu_geq ?_ | refine pu_add ?_ | refine pu_sub ?_ | refine pu_mul ?_ | refine pu_neg ?_ | refine fa_at ?_ | refine nl_ptr ?_ | refine ex20 ?_ | refine ex21 ?_ | refine ex30 ?_ | refine ex31 ?_ | refine ex32 ?_ | refine ln_rule ?_ | refine lnT_rule ?_ | refine pu_and ?_ | refine pu_or ?_ | refine pu_xor ?_ | refine pu_seq ?_ | refine pu_sne ?_)
        refine al_rule h7 (l := [.slice none 0 0]) (by kernel_rfl) (fun q w8 h8 => ?_)
        refine ⟨h8.sub (.cons _ (.cons _ (.cons_cons _ (List.sublist_append_right _ _)))), ?_⟩
        have hsp := sl_plain hs'
        refine st1s (A := []) h8 hsp (fun w9 h9 => ?_)
        refine ⟨fun w => Ow B w ((q, cel [s'] TG) :: (b', (gOf (actL xs l[i].1 l[i].2.1 l[i].2.2)).obj) :: (t, cel [s] TG) :: (Y ++ (S ++ H))), h9.drew, ?_⟩
        have h9 : Ow B (World.drew w9) ((q, cel [s'] TG) :: (b', (gOf (actL xs l[i].1 l[i].2.1 l[i].2.2)).obj) :: (t, cel [s] TG) :: (Y ++ (S ++ H))) := h9.drew
        refine lds1 (fun w h => h) (.head _) ?_
        refine st1s (A := [_, _]) h9 hsp (fun w10 h10 => ?_)
        repeat (first | refine pu_not ?_ | refine pu_eql ?_ | refine pu_neq ?_ | refine pu_lss ?_ | refine pu_leq ?_ | refine pu_gtr ?_ | refine pu_geq ?_ | refine pu_add ?_ | refine pu_sub ?_ | refine pu_mul ?_ | refine pu_neg ?_ | refine fa_at ?_ | refine nl_ptr ?_ | refine ex20 ?_ | refine ex21 ?_ | refine ex30 ?_ | refine ex31 ?_ | refine ex32 ?_ | refine ln_rule ?_ | refine lnT_rule ?_ | refine pu_and ?_ | refine pu_or ?_ | refine pu_xor ?_ | refine pu_seq ?_ | refine pu_sne ?_)
        refine cnd_f rfl ?_
        refine ld1 h10 (.tail _ (.tail _ (.head _))) ?_
        refine pu_rem (by omega) ?_
        refine is_spec h10 (.tail _ (.head _)) (hs'.mono fun x hx => ?_) hx' (fun w11 h11 => ?_)
        · rcases List.mem_append.1 hx with hx | hx
          · exact .tail _ (.tail _ (.tail _ (List.mem_append_left _ hx)))
          · exact .tail _ (.tail _ (.tail _ (List.mem_append_right _ (List.mem_append_left _ hx))))
        · repeat (first | refine pu_not ?_ | refine pu_eql ?_ | refine pu_neq ?_ | refine pu_lss ?_ | refine pu_leq ?_ | refine pu_gtr ?_ | refine pu_geq ?_ | refine pu_add ?_ | refine pu_sub ?_ | refine pu_mul ?_ | refine pu_neg ?_ | refine fa_at ?_ | refine nl_ptr ?_ | refine ex20 ?_ | refine ex21 ?_ | refine ex30 ?_ | refine ex31 ?_ | refine ex32 ?_ | refine ln_rule ?_ | refine lnT_rule ?_ | refine pu_and ?_ | refine pu_or ?_ | refine pu_xor ?_ | refine pu_seq ?_ | refine pu_sne ?_)
          refine cnd_f rfl ?_
          repeat (first | refine pu_not ?_ | refine pu_eql ?_ | refine pu_neq ?_ | refine pu_lss ?_ | refine pu_leq ?_ | refine pu_gtr ?_ | refine pu_geq ?_ | refine pu_add ?_ | refine pu_sub ?_ | refine pu_mul ?_ | refine pu_neg ?_ | refine fa_at ?_ | refine nl_ptr ?_ | refine ex20 ?_ | refine ex21 ?_ | refine ex30 ?_ | refine ex31 ?_ | refine ex32 ?_ | refine ln_rule ?_ | refine lnT_rule ?_ | refine pu_and ?_ | refine pu_or ?_ | refine pu_xor ?_ | refine pu_seq ?_ | refine pu_sne ?_)
          rw [wrap64_in (by omega) (by omega)]
          refine ⟨⟨i + 1, b', Y ++ S, s', _, rfl, hlt, hx', hs', ?_⟩, by simp; omega⟩
          have := h11.drop.perm (List.Perm.swap _ _ _)
          rw [List.append_assoc]
          exact this
      · refine al_rule h5.drew (l := [.slice none 0 0]) (by kernel_rfl) (fun q w6 h6 => ?_)
        refine ⟨h6.sub (.cons _ (.cons_cons _ (.cons _ (.refl _)))), ?_⟩
        have h6 : Ow B w6 ((b, (gOf xs).obj) :: (q, cel [.slice none 0 0] TG) :: (t, cel [s] TG) :: (S ++ H)) := h6.perm (List.perm_middle (l₁ := [_, _]))
        refine act_spec h6 hs (fun x hx => .tail _ (.tail _ (List.mem_append_left _ hx))) hx (fun b' Y s' w7 h7 hs' => ?_)
        have h7 : Ow B w7 ((q, cel [.slice none 0 0] TG) :: (b', (gOf (actL xs l[i].1 l[i].2.1 l[i].2.2)).obj) :: (t, cel [s] TG) :: (Y ++ (S ++ H))) :=
          (h7.perm ((List.perm_append_comm_assoc Y [_, _] (S ++ H)).cons _)).perm (List.Perm.swap _ _ _)
        repeat (first | refine pu_not ?_ | refine pu_eql ?_ | refine pu_neq ?_ | refine pu_lss ?_ | refine pu_leq ?_ | refine pu_gtr ?_ | refine pu_geq ?_ | refine pu_add ?_ | refine pu_sub ?_ | refine pu_mul ?_ | refine pu_neg ?_ | refine fa_at ?_ | refine nl_ptr ?_ | refine ex20 ?_ | refine ex21 ?_ | refine ex30 ?_ | refine ex31 ?_ | refine ex32 ?_ | refine ln_rule ?_ | refine lnT_rule ?_ | refine pu_and ?_ | refine pu_or ?_ | refine pu_xor ?_ | refine pu_seq ?_ | refine pu_sne ?_)
        have hsp := sl_plain hs'
        refine st1s (A := []) h7 hsp (fun w9 h9 => ?_)
        refine ⟨fun w => Ow B w ((q, cel [s'] TG) :: (b', (gOf (actL xs l[i].1 l[i].2.1 l[i].2.2)).obj) :: (t, cel [s] TG) :: (Y ++ (S ++ H))), h9.drew, ?_⟩
        have h9 : Ow B (World.drew w9) ((q, cel [s'] TG) :: (b', (gOf (actL xs l[i].1 l[i].2.1 l[i].2.2)).obj) :: (t, cel [s] TG) :: (Y ++ (S ++ H))) := h9.drew
        refine lds1 (fun w h => h) (.head _) ?_
        refine st1s (A := [_, _]) h9 hsp (fun w10 h10 => ?_)
        repeat (first | refine pu_not ?_ | refine pu_eql ?_ | refine pu_neq ?_ | refine pu_lss ?_ | refine pu_leq ?_ | refine pu_gtr ?_ | refine pu_geq ?_ | refine pu_add ?_ | refine pu_sub ?_ | refine pu_mul ?_ | refine pu_neg ?_ | refine fa_at ?_ | refine nl_ptr ?_ | refine ex20 ?_ | refine ex21 ?_ | refine ex30 ?_ | refine ex31 ?_ | refine ex32 ?_ | refine ln_rule ?_ | refine lnT_rule ?_ | refine pu_and ?_ | refine pu_or ?_ | refine pu_xor ?_ | refine pu_seq ?_ | refine pu_sne ?_)
        refine cnd_f rfl ?_
        refine ld1 h10 (.tail _ (.tail _ (.head _))) ?_
        refine pu_rem (by omega) ?_
        refine is_spec h10 (.tail _ (.head _)) (hs'.mono fun x hx => ?_) hx' (fun w11 h11 => ?_)
        · rcases List.mem_append.1 hx with hx | hx
          · exact .tail _ (.tail _ (.tail _ (List.mem_append_left _ hx)))
          · exact .tail _ (.tail _ (.tail _ (List.mem_append_right _ (List.mem_append_left _ hx))))
        · repeat (first | refine pu_not ?_ | refine pu_eql ?_ | refine pu_neq ?_ | refine pu_lss ?_ | refine pu_leq ?_ | refine pu_gtr ?_ | refine pu_geq ?_ | refine pu_add ?_ | refine pu_sub ?_ | refine pu_mul ?_ | refine pu_neg ?_ | refine fa_at ?_ | refine nl_ptr ?_ | refine ex20 ?_ | refine ex21 ?_ | refine ex30 ?_ | refine ex31 ?_ | refine ex32 ?_ | refine ln_rule ?_ | refine lnT_rule ?_ | refine pu_and ?_ | refine pu_or ?_ | refine pu_xor ?_ | refine pu_seq ?_ | refine pu_sne ?_)
          refine cnd_f rfl ?_
          repeat (first | refine pu_not ?_ | refine pu_eql ?_ | refine pu_neq ?_ | refine pu_lss ?_ | refine pu_leq ?_ | refine pu_gtr ?_ | refine pu_geq ?_ | refine pu_add ?_ | refine pu_sub ?_ | refine pu_mul ?_ | refine pu_neg ?_ | refine fa_at ?_ | refine nl_ptr ?_ | refine ex20 ?_ | refine ex21 ?_ | refine ex30 ?_ | refine ex31 ?_ | refine ex32 ?_ | refine ln_rule ?_ | refine lnT_rule ?_ | refine pu_and ?_ | refine pu_or ?_ | refine pu_xor ?_ | refine pu_seq ?_ | refine pu_sne ?_)
          rw [wrap64_in (by omega) (by omega)]
          refine ⟨⟨i + 1, b', Y ++ S, s', _, rfl, hlt, hx', hs', ?_⟩, by simp; omega⟩
          have := h11.drop.perm (List.Perm.swap _ _ _)
          rw [List.append_assoc]
          exact this
    · refine ld1 h5 (.head _) ?_
      refine is_spec h5 (.tail _ (.head _)) (hs.mono fun x hx => .tail _ (.tail _ (List.mem_append_left _ hx))) hx (fun w6 h6 => ?_)
      refine cnd_t rfl ?_
      exact works_spec (h6.drop.drop.sub (List.sublist_append_right _ _)) k
  · refine new_spec h (fun _ w1 h1 => ?_) (fun h0 h1 => absurd ⟨h0, h1⟩ hm)
    repeat (first | refine pu_not ?_ | refine pu_eql ?_ | refine pu_neq ?_ | refine pu_lss ?_ | refine pu_leq ?_ | refine pu_gtr ?_ | refine pu_geq ?_ | refine pu_add ?_ | refine pu_sub ?_ | refine pu_mul ?_ | refine pu_neg ?_ | refine fa_at ?_ | refine nl_ptr ?_ | refine ex20 ?_ | refine ex21 ?_ | refine ex30 ?_ | refine ex31 ?_ | refine ex32 ?_ | refine ln_rule ?_ | refine lnT_rule ?_ | refine pu_and ?_ | refine pu_or ?_ | refine pu_xor ?_ | refine pu_seq ?_ | refine pu_sne ?_)
    refine refNew_spec h1 (fun _ w2 h2 => ?_) (fun h0 h1 => absurd ⟨h0, h1⟩ hm)
    repeat (first | refine pu_not ?_ | refine pu_eql ?_ | refine pu_neq ?_ | refine pu_lss ?_ | refine pu_leq ?_ | refine pu_gtr ?_ | refine pu_geq ?_ | refine pu_add ?_ | refine pu_sub ?_ | refine pu_mul ?_ | refine pu_neg ?_ | refine fa_at ?_ | refine nl_ptr ?_ | refine ex20 ?_ | refine ex21 ?_ | refine ex30 ?_ | refine ex31 ?_ | refine ex32 ?_ | refine ln_rule ?_ | refine lnT_rule ?_ | refine pu_and ?_ | refine pu_or ?_ | refine pu_xor ?_ | refine pu_seq ?_ | refine pu_sne ?_)
    refine al_rule h2 (l := [.slice none 0 0]) (by kernel_rfl) (fun t w3 h3 => ?_)
    refine st1s (A := []) h3 rfl (fun w4 h4 => ?_)
    refine num_spec ?_
    repeat (first | refine pu_not ?_ | refine pu_eql ?_ | refine pu_neq ?_ | refine pu_lss ?_ | refine pu_leq ?_ | refine pu_gtr ?_ | refine pu_geq ?_ | refine pu_add ?_ | refine pu_sub ?_ | refine pu_mul ?_ | refine pu_neg ?_ | refine fa_at ?_ | refine nl_ptr ?_ | refine ex20 ?_ | refine ex21 ?_ | refine ex30 ?_ | refine ex31 ?_ | refine ex32 ?_ | refine ln_rule ?_ | refine lnT_rule ?_ | refine pu_and ?_ | refine pu_or ?_ | refine pu_xor ?_ | refine pu_seq ?_ | refine pu_sne ?_)
    refine cnd_f (by simp) ?_
    refine pu_pnnil und_ptr ?_
    repeat (first | refine pu_not ?_ | refine pu_eql ?_ | refine pu_neq ?_ | refine pu_lss ?_ | refine pu_leq ?_ | refine pu_gtr ?_ | refine pu_geq ?_ | refine pu_add ?_ | refine pu_sub ?_ | refine pu_mul ?_ | refine pu_neg ?_ | refine fa_at ?_ | refine nl_ptr ?_ | refine ex20 ?_ | refine ex21 ?_ | refine ex30 ?_ | refine ex31 ?_ | refine ex32 ?_ | refine ln_rule ?_ | refine lnT_rule ?_ | refine pu_and ?_ | refine pu_or ?_ | refine pu_xor ?_ | refine pu_seq ?_ | refine pu_sne ?_)
    refine pu_bneq und_bool' ?_
    refine cnd_f (by simp) ?_
    repeat (first | refine pu_not ?_ | refine pu_eql ?_ | refine pu_neq ?_ | refine pu_lss ?_ | refine pu_leq ?_ | refine pu_gtr ?_ | refine pu_geq ?_ | refine pu_add ?_ | refine pu_sub ?_ | refine pu_mul ?_ | refine pu_neg ?_ | refine fa_at ?_ | refine nl_ptr ?_ | refine ex20 ?_ | refine ex21 ?_ | refine ex30 ?_ | refine ex31 ?_ | refine ex32 ?_ | refine ln_rule ?_ | refine lnT_rule ?_ | refine pu_and ?_ | refine pu_or ?_ | refine pu_xor ?_ | refine pu_seq ?_ | refine pu_sne ?_)
    refine cnd_t (by simp) ?_
    exact works_spec h4.drop k

theorem two_of {v : Value} (h : FitV PG H T.t_2_linesmanlaw15_Act v) : ∃ a b : Int × Int × Int, v = .agg (aC a ++ aC b).toArray := by
  obtain ⟨cs, rfl, hf⟩ := h.array (n := 2) (e := T.t_linesmanlaw15_Act) (by kernel_rfl)
  obtain ⟨hl, hf⟩ := hf.of_array (n := 2) (e := T.t_linesmanlaw15_Act) (by kernel_rfl)
  have e3 : PG.cellsOf T.t_linesmanlaw15_Act = 3 := by kernel_rfl
  have hl : cs.length = 6 := by rw [hl]; kernel_rfl
  rw [e3] at hf
  obtain ⟨a, ha⟩ := act_of (hf 0 (by omega))
  obtain ⟨b, hb⟩ := act_of (hf 1 (by omega))
  refine ⟨a, b, ?_⟩
  have : cs = (cs.drop (0 * 3)).take 3 ++ (cs.drop (1 * 3)).take 3 := by
    rw [show (cs.drop (0 * 3)).take 3 = cs.take 3 from rfl, show (cs.drop (1 * 3)).take 3 = cs.drop 3 from List.take_of_length_le (by simp; omega), List.take_append_drop]
  rw [this, ha, hb]

theorem gOf_same {xs ys : List Int} : decide ((gOf xs).of = (gOf ys).of ∧ (gOf xs).many = (gOf ys).many) = decide (xs = ys) := by
  congr 1
  simp only [eq_iff_iff, gOf]
  constructor
  · rintro ⟨h1, h2⟩
    have h2 : xs.length = ys.length := by omega
    rw [h2] at h1
    exact List.append_cancel_right h1
  · rintro rfl
    exact ⟨rfl, rfl⟩

theorem GroupCopies.law {v0 v1 v2 : Value} (g0 : FitV PG H T.t_int v0) (g1 : FitV PG H T.t_sl_linesmanlaw15_Act v1) (g2 : FitV PG H T.t_2_linesmanlaw15_Act v2) (h : Ow B w H) (k : ∀ w', Ow B w' H → K (vB true) w') :
    callW PG N.linesmanlaw15_GroupCopies [v0, v1, v2] K PK w := by
  obtain ⟨many, rfl, _⟩ := g0.int und_int
  obtain ⟨l, hl⟩ := acts_of g1
  obtain ⟨a1, a2, rfl⟩ := two_of g2
  clear g0 g1 g2
  refine linesmanlaw15_GroupCopies.ok ?_
  unfold linesmanlaw15_GroupCopies.C
  refine al_rule h (l := aC a1 ++ aC a2) rfl (fun z w0 h0 => ?_)
  repeat (first | refine pu_not ?_ | refine pu_eql ?_ | refine pu_neq ?_ | refine pu_lss ?_ | refine pu_leq ?_ | refine pu_gtr ?_ | refine pu_geq ?_ | refine pu_add ?_ | refine pu_sub ?_ | refine pu_mul ?_ | refine pu_neg ?_ | refine fa_at ?_ | refine nl_ptr ?_ | refine ex20 ?_ | refine ex21 ?_ | refine ex30 ?_ | refine ex31 ?_ | refine ex32 ?_ | refine ln_rule ?_ | refine lnT_rule ?_ | refine pu_and ?_ | refine pu_or ?_ | refine pu_xor ?_ | refine pu_seq ?_ | refine pu_sne ?_)
  refine cnd (fun _ => works_spec h0 (fun w' h' => k w' h'.drop)) (fun hge => ?_)
  repeat (first | refine pu_not ?_ | refine pu_eql ?_ | refine pu_neq ?_ | refine pu_lss ?_ | refine pu_leq ?_ | refine pu_gtr ?_ | refine pu_geq ?_ | refine pu_add ?_ | refine pu_sub ?_ | refine pu_mul ?_ | refine pu_neg ?_ | refine fa_at ?_ | refine nl_ptr ?_ | refine ex20 ?_ | refine ex21 ?_ | refine ex30 ?_ | refine ex31 ?_ | refine ex32 ?_ | refine ln_rule ?_ | refine lnT_rule ?_ | refine pu_and ?_ | refine pu_or ?_ | refine pu_xor ?_ | refine pu_seq ?_ | refine pu_sne ?_)
  refine cnd (fun _ => works_spec h0 (fun w' h' => k w' h'.drop)) (fun hle => ?_)
  refine sls_ln hl ?_
  rw [List.length_map]
  repeat (first | refine pu_not ?_ | refine pu_eql ?_ | refine pu_neq ?_ | refine pu_lss ?_ | refine pu_leq ?_ | refine pu_gtr ?_ | refine pu_geq ?_ | refine pu_add ?_ | refine pu_sub ?_ | refine pu_mul ?_ | refine pu_neg ?_ | refine fa_at ?_ | refine nl_ptr ?_ | refine ex20 ?_ | refine ex21 ?_ | refine ex30 ?_ | refine ex31 ?_ | refine ex32 ?_ | refine ln_rule ?_ | refine lnT_rule ?_ | refine pu_and ?_ | refine pu_or ?_ | refine pu_xor ?_ | refine pu_seq ?_ | refine pu_sne ?_)
  refine cnd (fun _ => works_spec h0 (fun w' h' => k w' h'.drop)) (fun hll => ?_)
  have hm : 0 ≤ many ∧ many ≤ 64 := by simp at hge hle; omega
  have hll : l.length ≤ 30 := by simp at hll; omega
  clear hge hle
  obtain ⟨n, rfl⟩ : ∃ n : Nat, many = n := ⟨many.toNat, by omega⟩
  refine new_spec h0 (fun hb => absurd hm hb) (fun _ _ b w1 h1 => ?_)
  repeat (first | refine pu_not ?_ | refine pu_eql ?_ | refine pu_neq ?_ | refine pu_lss ?_ | refine pu_leq ?_ | refine pu_gtr ?_ | refine pu_geq ?_ | refine pu_add ?_ | refine pu_sub ?_ | refine pu_mul ?_ | refine pu_neg ?_ | refine fa_at ?_ | refine nl_ptr ?_ | refine ex20 ?_ | refine ex21 ?_ | refine ex30 ?_ | refine ex31 ?_ | refine ex32 ?_ | refine ln_rule ?_ | refine lnT_rule ?_ | refine pu_and ?_ | refine pu_or ?_ | refine pu_xor ?_ | refine pu_seq ?_ | refine pu_sne ?_)
  refine refNew_spec h1 (fun hb => absurd hm hb) (fun _ _ S s w2 hs h2 => ?_)
  repeat (first | refine pu_not ?_ | refine pu_eql ?_ | refine pu_neq ?_ | refine pu_lss ?_ | refine pu_leq ?_ | refine pu_gtr ?_ | refine pu_geq ?_ | refine pu_add ?_ | refine pu_sub ?_ | refine pu_mul ?_ | refine pu_neg ?_ | refine fa_at ?_ | refine nl_ptr ?_ | refine ex20 ?_ | refine ex21 ?_ | refine ex30 ?_ | refine ex31 ?_ | refine ex32 ?_ | refine ln_rule ?_ | refine lnT_rule ?_ | refine pu_and ?_ | refine pu_or ?_ | refine pu_xor ?_ | refine pu_seq ?_ | refine pu_sne ?_)
  rw [gOf_new n (by omega)] at h2
  have hx0 := rep_wf (n := n) (by omega)
  rw [Int.toNat_natCast] at hs
  have h2 : Ow B w2 ((b, (gOf (List.replicate n 0)).obj) :: (z, cel (aC a1 ++ aC a2) T.t_2_linesmanlaw15_Act) :: (S ++ H)) := mvo (L := [_, _]) h2
  refine al_rule h2 (l := [.slice none 0 0]) (by kernel_rfl) (fun t w3 h3 => ?_)
  refine st1s (A := []) h3 (sl_plain hs) (fun w4 h4 => ?_)
  have h4 : Ow B w4 ((t, cel [s] TG) :: (b, (gOf (List.replicate n 0)).obj) :: (z, cel (aC a1 ++ aC a2) T.t_2_linesmanlaw15_Act) :: (S ++ H)) := h4
  refine ⟨fun l' w => ∃ (i b : Nat) (S : Hp) (s : Value) (xs : List Int), l' = [ptr b, vI i] ∧ i ≤ l.length ∧ RWf xs ∧ xs.length = n ∧ Sl S s (xs.map vI) ∧ Ow B w ((t, cel [s] TG) :: (b, (gOf xs).obj) :: (z, cel (aC a1 ++ aC a2) T.t_2_linesmanlaw15_Act) :: (S ++ H)),
    fun l' _ => match l' with | [_, .int _ n] => l.length - n.toNat | _ => 0, ⟨0, b, S, s, _, rfl, Nat.zero_le _, hx0, by simp, hs, h4⟩, ?_⟩
  clear hs h4 hx0 h2
  rintro l' w5 ⟨i, b, S, s, xs, rfl, hi, hx, hxn, hs, h5⟩ j
  refine sls_ln hl ?_
  rw [List.length_map]
  repeat (first | refine pu_not ?_ | refine pu_eql ?_ | refine pu_neq ?_ | refine pu_lss ?_ | refine pu_leq ?_ | refine pu_gtr ?_ | refine pu_geq ?_ | refine pu_add ?_ | refine pu_sub ?_ | refine pu_mul ?_ | refine pu_neg ?_ | refine fa_at ?_ | refine nl_ptr ?_ | refine ex20 ?_ | refine ex21 ?_ | refine ex30 ?_ | refine ex31 ?_ | refine ex32 ?_ | refine ln_rule ?_ | refine lnT_rule ?_ | refine pu_and ?_ | refine pu_or ?_ | refine pu_xor ?_ | refine pu_seq ?_ | refine pu_sne ?_)
  refine cnd (fun hlt => ?_) (fun hge => ?_)
  · have hlt : i < l.length := by simpa using hlt
    have hat : (l.map aC)[(i : Int).toNat]? = some (aC l[i]) := by rw [Int.toNat_natCast, List.getElem?_map, List.getElem?_eq_getElem hlt]; rfl
    obtain ⟨hx', hxl⟩ := actL_wf hx l[i].1 l[i].2.1 l[i].2.2
    refine ⟨fun w => Ow B w ((t, cel [s] TG) :: (b, (gOf xs).obj) :: (z, cel (aC a1 ++ aC a2) T.t_2_linesmanlaw15_Act) :: (S ++ H)), h5.drew, ?_⟩
    refine lds1 (fun w h => h) (.head _) ?_
    refine sls_lds (fun w h => h) (hl.mono fun x hx => .tail _ (.tail _ (.tail _ (List.mem_append_right _ hx)))) (by omega) hat ?_
    have h6 : Ow B (World.drew w5) ((b, (gOf xs).obj) :: (t, cel [s] TG) :: (z, cel (aC a1 ++ aC a2) T.t_2_linesmanlaw15_Act) :: (S ++ H)) := h5.drew.perm (List.Perm.swap _ _ _)
    refine act_spec h6 hs (fun x hx => .tail _ (.tail _ (List.mem_append_left _ hx))) hx (fun b' Y s' w7 h7 hs' => ?_)
    have h7 : Ow B w7 ((b', (gOf (actL xs l[i].1 l[i].2.1 l[i].2.2)).obj) :: (t, cel [s] TG) :: (z, cel (aC a1 ++ aC a2) T.t_2_linesmanlaw15_Act) :: (Y ++ (S ++ H))) := h7.perm ((List.perm_append_comm_assoc Y [_, _] (S ++ H)).cons _)
    repeat (first | refine pu_not ?_ | refine pu_eql ?_ | refine pu_neq ?_ | refine pu_lss ?_ | refine pu_leq ?_ | refine pu_gtr ?_ | refine pu_geq ?_ | refine pu_add ?_ | refine pu_sub ?_ | refine pu_mul ?_ | refine pu_neg ?_ | refine fa_at ?_ | refine nl_ptr ?_ | refine ex20 ?_ | refine ex21 ?_ | refine ex30 ?_ | refine ex31 ?_ | refine ex32 ?_ | refine ln_rule ?_ | refine lnT_rule ?_ | refine pu_and ?_ | refine pu_or ?_ | refine pu_xor ?_ | refine pu_seq ?_ | refine pu_sne ?_)
    refine st1s (A := [_]) h7 (sl_plain hs') (fun w8 h8 => ?_)
    repeat (first | refine pu_not ?_ | refine pu_eql ?_ | refine pu_neq ?_ | refine pu_lss ?_ | refine pu_leq ?_ | refine pu_gtr ?_ | refine pu_geq ?_ | refine pu_add ?_ | refine pu_sub ?_ | refine pu_mul ?_ | refine pu_neg ?_ | refine fa_at ?_ | refine nl_ptr ?_ | refine ex20 ?_ | refine ex21 ?_ | refine ex30 ?_ | refine ex31 ?_ | refine ex32 ?_ | refine ln_rule ?_ | refine lnT_rule ?_ | refine pu_and ?_ | refine pu_or ?_ | refine pu_xor ?_ | refine pu_seq ?_ | refine pu_sne ?_)
    rw [wrap64_in (by omega) (by omega)]
    refine ⟨⟨i + 1, b', Y ++ S, s', _, rfl, hlt, hx', by omega, hs', ?_⟩, by simp; omega⟩
    have := h8.perm (List.Perm.swap _ _ _)
    rw [List.append_assoc]
    exact this
  · have hg := gOf_wf hx
    refine copy_spec hg rfl h5 (.tail _ (.head _)) (fun c w6 h6 => ?_)
    have h6 : Ow B w6 ((b, (gOf xs).obj) :: (c, (gOf xs).obj) :: (t, cel [s] TG) :: (z, cel (aC a1 ++ aC a2) T.t_2_linesmanlaw15_Act) :: (S ++ H)) := h6.perm (List.perm_middle (l₁ := [_, _]))
    refine ld1 h6 (.tail _ (.tail _ (.head _))) ?_
    refine ixA_at (by omega) (by omega) ?_
    refine ldn_here h6 (.tail _ (.tail _ (.tail _ (.head _)))) (vs := aC a1) rfl rfl ?_
    obtain ⟨hxa, hla⟩ := actL_wf hx a1.1 a1.2.1 a1.2.2
    obtain ⟨hxb, hlb⟩ := actL_wf hx a2.1 a2.2.1 a2.2.2
    refine act_spec h6 hs (fun x hx => .tail _ (.tail _ (.tail _ (List.mem_append_left _ hx)))) hx (fun b' Y s1 w7 h7 hs1 => ?_)
    generalize hxs1 : actL xs a1.1 a1.2.1 a1.2.2 = x1 at *
    have h7 : Ow B w7 ((b', (gOf x1).obj) :: (c, (gOf xs).obj) :: (t, cel [s] TG) :: (z, cel (aC a1 ++ aC a2) T.t_2_linesmanlaw15_Act) :: (Y ++ (S ++ H))) := h7.perm ((List.perm_append_comm_assoc Y [_, _, _] (S ++ H)).cons _)
    repeat (first | refine pu_not ?_ | refine pu_eql ?_ | refine pu_neq ?_ | refine pu_lss ?_ | refine pu_leq ?_ | refine pu_gtr ?_ | refine pu_geq ?_ | refine pu_add ?_ | refine pu_sub ?_ | refine pu_mul ?_ | refine pu_neg ?_ | refine fa_at ?_ | refine nl_ptr ?_ | refine ex20 ?_ | refine ex21 ?_ | refine ex30 ?_ | refine ex31 ?_ | refine ex32 ?_ | refine ln_rule ?_ | refine lnT_rule ?_ | refine pu_and ?_ | refine pu_or ?_ | refine pu_xor ?_ | refine pu_seq ?_ | refine pu_sne ?_)
    refine al_rule h7 (l := [.slice none 0 0]) (by kernel_rfl) (fun q w8 h8 => ?_)
    refine st1s (A := []) h8 (sl_plain hs1) (fun w9 h9 => ?_)
    have h9 : Ow B w9 ((c, (gOf xs).obj) :: (q, cel [s1] TG) :: (b', (gOf x1).obj) :: (t, cel [s] TG) :: (z, cel (aC a1 ++ aC a2) T.t_2_linesmanlaw15_Act) :: (Y ++ (S ++ H))) := h9.perm (List.perm_middle (l₁ := [_, _]))
    refine ld1 h9 (.tail _ (.tail _ (.tail _ (.head _)))) ?_
    refine ixA_at (by omega) (by omega) ?_
    refine ldn_here h9 (.tail _ (.tail _ (.tail _ (.tail _ (.head _))))) (vs := aC a2) rfl rfl ?_
    refine act_spec h9 hs (fun x hx => .tail _ (.tail _ (.tail _ (.tail _ (List.mem_append_right _ (List.mem_append_left _ hx)))))) hx (fun c' Y2 s2 w10 h10 hs2 => ?_)
    generalize hxs2 : actL xs a2.1 a2.2.1 a2.2.2 = x2 at *
    have h10 : Ow B w10 ((c', (gOf x2).obj) :: (q, cel [s1] TG) :: (b', (gOf x1).obj) :: (t, cel [s] TG) :: (z, cel (aC a1 ++ aC a2) T.t_2_linesmanlaw15_Act) :: (Y2 ++ (Y ++ (S ++ H)))) := h10.perm ((List.perm_append_comm_assoc Y2 [_, _, _, _] (Y ++ (S ++ H))).cons _)
    repeat (first | refine pu_not ?_ | refine pu_eql ?_ | refine pu_neq ?_ | refine pu_lss ?_ | refine pu_leq ?_ | refine pu_gtr ?_ | refine pu_geq ?_ | refine pu_add ?_ | refine pu_sub ?_ | refine pu_mul ?_ | refine pu_neg ?_ | refine fa_at ?_ | refine nl_ptr ?_ | refine ex20 ?_ | refine ex21 ?_ | refine ex30 ?_ | refine ex31 ?_ | refine ex32 ?_ | refine ln_rule ?_ | refine lnT_rule ?_ | refine pu_and ?_ | refine pu_or ?_ | refine pu_xor ?_ | refine pu_seq ?_ | refine pu_sne ?_)
    refine al_rule h10 (l := [.slice none 0 0]) (by kernel_rfl) (fun q2 w11 h11 => ?_)
    refine st1s (A := []) h11 (sl_plain hs2) (fun w12 h12 => ?_)
    have h12 : Ow B w12 ((q2, cel [s2] TG) :: (c', (gOf x2).obj) :: (q, cel [s1] TG) :: (b', (gOf x1).obj) :: (t, cel [s] TG) :: (z, cel (aC a1 ++ aC a2) T.t_2_linesmanlaw15_Act) :: (Y2 ++ (Y ++ (S ++ H)))) := h12
    have hsY : ∀ {p q r s t u : Nat × Obj}, Sl (p :: q :: r :: s :: t :: u :: (Y2 ++ (Y ++ (S ++ H)))) s1 (x1.map vI) := hs1.mono fun x hx => by
      refine .tail _ (.tail _ (.tail _ (.tail _ (.tail _ (.tail _ (List.mem_append_right _ ?_))))))
      rcases List.mem_append.1 hx with hx | hx
      · exact List.mem_append_left _ hx
      · exact List.mem_append_right _ (List.mem_append_left _ hx)
    have hsY2 : ∀ {p q r s t u : Nat × Obj}, Sl (p :: q :: r :: s :: t :: u :: (Y2 ++ (Y ++ (S ++ H)))) s2 (x2.map vI) := hs2.mono fun x hx => by
      refine .tail _ (.tail _ (.tail _ (.tail _ (.tail _ (.tail _ ?_)))))
      rcases List.mem_append.1 hx with hx | hx
      · exact List.mem_append_left _ hx
      · exact List.mem_append_right _ (List.mem_append_right _ (List.mem_append_left _ hx))
    refine ld1 h12 (.tail _ (.tail _ (.head _))) ?_
    refine ld1 h12 (.head _) ?_
    refine refSame_spec h12 hsY hsY2 hxa hxb (fun w13 h13 => ?_)
    repeat (first | refine pu_not ?_ | refine pu_eql ?_ | refine pu_neq ?_ | refine pu_lss ?_ | refine pu_leq ?_ | refine pu_gtr ?_ | refine pu_geq ?_ | refine pu_add ?_ | refine pu_sub ?_ | refine pu_mul ?_ | refine pu_neg ?_ | refine fa_at ?_ | refine nl_ptr ?_ | refine ex20 ?_ | refine ex21 ?_ | refine ex30 ?_ | refine ex31 ?_ | refine ex32 ?_ | refine ln_rule ?_ | refine lnT_rule ?_ | refine pu_and ?_ | refine pu_or ?_ | refine pu_xor ?_ | refine pu_seq ?_ | refine pu_sne ?_)
    rw [wrap64_in (by omega) (by omega)]
    refine pu_rem (by omega) ?_
    have hmod : Int.tmod ((n : Int) + 1) 65 = ((n + 1) % 65 : Nat) := by
      rw [Int.tmod_eq_emod_of_nonneg (by omega)]; omega
    rw [hmod]
    refine new_spec h13 (fun hb => absurd (by omega) hb) (fun _ _ o w14 h14 => ?_)
    rw [gOf_new _ (by omega)] at h14
    have hox := rep_wf (n := (n + 1) % 65) (by omega)
    repeat (first | refine pu_not ?_ | refine pu_eql ?_ | refine pu_neq ?_ | refine pu_lss ?_ | refine pu_leq ?_ | refine pu_gtr ?_ | refine pu_geq ?_ | refine pu_add ?_ | refine pu_sub ?_ | refine pu_mul ?_ | refine pu_neg ?_ | refine fa_at ?_ | refine nl_ptr ?_ | refine ex20 ?_ | refine ex21 ?_ | refine ex30 ?_ | refine ex31 ?_ | refine ex32 ?_ | refine ln_rule ?_ | refine lnT_rule ?_ | refine pu_and ?_ | refine pu_or ?_ | refine pu_xor ?_ | refine pu_seq ?_ | refine pu_sne ?_)
    refine num_spec ?_
    refine num_spec ?_
    repeat (first | refine pu_not ?_ | refine pu_eql ?_ | refine pu_neq ?_ | refine pu_lss ?_ | refine pu_leq ?_ | refine pu_gtr ?_ | refine pu_geq ?_ | refine pu_add ?_ | refine pu_sub ?_ | refine pu_mul ?_ | refine pu_neg ?_ | refine fa_at ?_ | refine nl_ptr ?_ | refine ex20 ?_ | refine ex21 ?_ | refine ex30 ?_ | refine ex31 ?_ | refine ex32 ?_ | refine ln_rule ?_ | refine lnT_rule ?_ | refine pu_and ?_ | refine pu_or ?_ | refine pu_xor ?_ | refine pu_seq ?_ | refine pu_sne ?_)
    refine cnd_t (by decide) ?_
    refine cnd_t rfl ?_
    refine cnd_t rfl ?_
    refine ld1 h14 (.tail _ (.tail _ (.tail _ (.head _)))) ?_
    refine is_spec h14 (.tail _ (.tail _ (.tail _ (.tail _ (.head _))))) hsY.cons hxa (fun w15 h15 => ?_)
    refine cnd_t rfl ?_
    refine ld1 h15 (.tail _ (.head _)) ?_
    refine is_spec h15 (.tail _ (.tail _ (.head _))) hsY2.cons hxb (fun w16 h16 => ?_)
    refine cnd_t rfl ?_
    refine same_spec (x := ptr b') (r := false) (g := gOf x1) (y := ptr c') (r' := false) (g' := gOf x2) (.at (gOf_wf hxa) (.tail _ (.tail _ (.tail _ (.tail _ (.head _)))))) (.at (gOf_wf hxb) (.tail _ (.tail _ (.head _)))) h16 (fun w17 h17 => ?_)
    rw [if_neg (by simp), gOf_same]
    refine pu_beql und_bool' ?_
    refine cnd_t (by simp) ?_
    refine same_spec (x := ptr c') (r := false) (g := gOf x2) (y := ptr b') (r' := false) (g' := gOf x1) (.at (gOf_wf hxb) (.tail _ (.tail _ (.head _)))) (.at (gOf_wf hxa) (.tail _ (.tail _ (.tail _ (.tail _ (.head _)))))) h17 (fun w18 h18 => ?_)
    rw [if_neg (by simp), gOf_same]
    refine pu_beql und_bool' ?_
    refine cnd_t (by simp [eq_comm]) ?_
    refine same_spec (x := ptr b') (r := false) (g := gOf x1) (y := ptr o) (r' := false) (g' := gOf (List.replicate ((n + 1) % 65) 0)) (.at (gOf_wf hxa) (.tail _ (.tail _ (.tail _ (.tail _ (.head _)))))) (.at (gOf_wf hox) (.head _)) h18 (fun w19 h19 => ?_)
    rw [if_neg (by simp), gOf_same]
    repeat (first | refine pu_not ?_ | refine pu_eql ?_ | refine pu_neq ?_ | refine pu_lss ?_ | refine pu_leq ?_ | refine pu_gtr ?_ | refine pu_geq ?_ | refine pu_add ?_ | refine pu_sub ?_ | refine pu_mul ?_ | refine pu_neg ?_ | refine fa_at ?_ | refine nl_ptr ?_ | refine ex20 ?_ | refine ex21 ?_ | refine ex30 ?_ | refine ex31 ?_ | refine ex32 ?_ | refine ln_rule ?_ | refine lnT_rule ?_ | refine pu_and ?_ | refine pu_or ?_ | refine pu_xor ?_ | refine pu_seq ?_ | refine pu_sne ?_)
    refine cnd_t ?_ ?_
    · simp only [Bool.not_eq_true', decide_eq_false_iff_not]
      intro he
      have := congrArg List.length he
      simp only [List.length_replicate] at this
      omega
    · refine works_spec (h19.sub (.cons _ (.cons _ (.cons _ (.cons _ (.cons _ (.cons _ (.cons _ (.refl _)))))))) |>.sub (List.sublist_append_right _ _) |>.sub (List.sublist_append_right _ _) |>.sub (List.sublist_append_right _ _)) k

def gZ : GV := ⟨List.replicate 64 0, 0, false⟩
theorem gZ_wf : gZ.Wf := ⟨rfl, by decide, by decide, fun c hc => by
  obtain ⟨_, rfl⟩ := List.mem_replicate.1 hc; omega⟩
theorem openL_zero : openL (List.replicate 64 0) 64 = [] := by decide +kernel
section
variable {x : Value} {g : GV}
theorem GP.mono {H' : Hp} {r : Bool} (hp : GP H x r g) (hs : ∀ y, y ∈ H → y ∈ H') : GP H' x r g := by
  cases hp with
  | nil => exact .nil g
  | «at» h1 h2 => exact .at h1 (hs _ h2)
theorem add_gp {i n : Value} (hp : GP H x true g) (h : Ow B w H) (k : ∀ w', Ow B w' H → K (.tuple #[vI 0, vI 1]) w') : callW PG N.group_Groups_Add [x, i, n] K PK w := by
  refine group_Groups_Add.ok ?_
  unfold group_Groups_Add.C
  exact none_gp hp h (fun w1 h1 => cnd_t rfl (k _ h1))
theorem count_gp {i : Value} (hp : GP H x true g) (h : Ow B w H) (k : ∀ w', Ow B w' H → K (vI 0) w') : callW PG N.group_Groups_Count [x, i] K PK w := by
  refine group_Groups_Count.ok ?_
  unfold group_Groups_Count.C
  exact none_gp hp h (fun w1 h1 => cnd_t rfl (k _ h1))
theorem done_gp {i : Value} (hp : GP H x true g) (h : Ow B w H) (k : ∀ w', Ow B w' H → K (vB false) w') : callW PG N.group_Groups_Done [x, i] K PK w := by
  refine group_Groups_Done.ok ?_
  unfold group_Groups_Done.C
  refine none_gp hp h (fun w1 h1 => ?_)
  repeat (first | refine pu_not ?_ | refine pu_eql ?_ | refine pu_neq ?_ | refine pu_lss ?_ | refine pu_leq ?_ | refine pu_gtr ?_ | refine pu_geq ?_ | refine pu_add ?_ | refine pu_sub ?_ | refine pu_mul ?_ | refine pu_neg ?_ | refine fa_at ?_ | refine nl_ptr ?_ | refine ex20 ?_ | refine ex21 ?_ | refine ex30 ?_ | refine ex31 ?_ | refine ex32 ?_ | refine ln_rule ?_ | refine lnT_rule ?_ | refine pu_and ?_ | refine pu_or ?_ | refine pu_xor ?_ | refine pu_seq ?_ | refine pu_sne ?_)
  exact cnd_f rfl (k _ h1)
theorem copy_gp (hp : GP H x true g) (h : Ow B w H) (k : ∀ w', Ow B w' H → K (.pointer none) w') : callW PG N.group_Groups_Copy [x] K PK w := by
  refine group_Groups_Copy.ok ?_
  unfold group_Groups_Copy.C
  exact none_gp hp h (fun w1 h1 => cnd_t rfl (k _ h1))
theorem len_gp (hp : GP H x true g) (h : Ow B w H) (k : ∀ w', Ow B w' H → K (vI 0) w') : callW PG N.group_Groups_Len [x] K PK w := by
  refine group_Groups_Len.ok ?_
  unfold group_Groups_Len.C
  exact none_gp hp h (fun w1 h1 => cnd_t rfl (k _ h1))
end
theorem GroupNone.law {v0 v1 : Value} (g0 : FitV PG H T.t_linesmanlaw15_Act v0) (g1 : FitV PG H T.t_bool v1) (h : Ow B w H) (k : ∀ w', Ow B w' H → K (vB true) w') : callW PG N.linesmanlaw15_GroupNone [v0, v1] K PK w := by
  obtain ⟨cs, rfl, hf⟩ := g0.agg (by kernel_rfl)
  obtain ⟨a, rfl⟩ := act_of hf
  obtain ⟨zero, rfl⟩ := g1.bool und_bool'
  refine linesmanlaw15_GroupNone.ok ?_
  unfold linesmanlaw15_GroupNone.C
  refine al_rule h (l := aC a) rfl (fun p w1 h1 => ?_)
  refine al_rule h1 (l := [vB false]) (by kernel_rfl) (fun q w2 h2 => ?_)
  refine cnd (fun hz => ?_) (fun hz => ?_)
  · refine pu_of (v := .agg gZ.cells.toArray) (fun w => by kernel_rfl) ?_
    refine al_rule h2 (l := gZ.cells) rfl (fun x wA hA => ?_)
    have hA : Ow B wA ((x, gZ.obj) :: (q, cel [vB false] T.t_bool) :: (p, cel (aC a) T.t_linesmanlaw15_Act) :: H) := hA
    have hp : GP ((x, gZ.obj) :: (q, cel [vB false] T.t_bool) :: (p, cel (aC a) T.t_linesmanlaw15_Act) :: H) (ptr x) true gZ := .at gZ_wf (.head _)
    have mp : (p, cel (aC a) T.t_linesmanlaw15_Act) ∈ (x, gZ.obj) :: (q, cel [vB false] T.t_bool) :: (p, cel (aC a) T.t_linesmanlaw15_Act) :: H := .tail _ (.tail _ (.head _))
    generalize hHA : (x, gZ.obj) :: (q, cel [vB false] T.t_bool) :: (p, cel (aC a) T.t_linesmanlaw15_Act) :: H = HA at hA hp mp
    repeat (first | refine pu_not ?_ | refine pu_eql ?_ | refine pu_neq ?_ | refine pu_lss ?_ | refine pu_leq ?_ | refine pu_gtr ?_ | refine pu_geq ?_ | refine pu_add ?_ | refine pu_sub ?_ | refine pu_mul ?_ | refine pu_neg ?_ | refine fa_at ?_ | refine nl_ptr ?_ | refine ex20 ?_ | refine ex21 ?_ | refine ex30 ?_ | refine ex31 ?_ | refine ex32 ?_ | refine ln_rule ?_ | refine lnT_rule ?_ | refine pu_and ?_ | refine pu_or ?_ | refine pu_xor ?_ | refine pu_seq ?_ | refine pu_sne ?_)
    refine ld_here (l := aC a) hA mp rfl ?_
    repeat (first | refine pu_not ?_ | refine pu_eql ?_ | refine pu_neq ?_ | refine pu_lss ?_ | refine pu_leq ?_ | refine pu_gtr ?_ | refine pu_geq ?_ | refine pu_add ?_ | refine pu_sub ?_ | refine pu_mul ?_ | refine pu_neg ?_ | refine fa_at ?_ | refine nl_ptr ?_ | refine ex20 ?_ | refine ex21 ?_ | refine ex30 ?_ | refine ex31 ?_ | refine ex32 ?_ | refine ln_rule ?_ | refine lnT_rule ?_ | refine pu_and ?_ | refine pu_or ?_ | refine pu_xor ?_ | refine pu_seq ?_ | refine pu_sne ?_)
    refine ld_here (l := aC a) hA mp rfl ?_
    refine add_gp hp hA (fun wB hB => ?_)
    repeat (first | refine pu_not ?_ | refine pu_eql ?_ | refine pu_neq ?_ | refine pu_lss ?_ | refine pu_leq ?_ | refine pu_gtr ?_ | refine pu_geq ?_ | refine pu_add ?_ | refine pu_sub ?_ | refine pu_mul ?_ | refine pu_neg ?_ | refine fa_at ?_ | refine nl_ptr ?_ | refine ex20 ?_ | refine ex21 ?_ | refine ex30 ?_ | refine ex31 ?_ | refine ex32 ?_ | refine ln_rule ?_ | refine lnT_rule ?_ | refine pu_and ?_ | refine pu_or ?_ | refine pu_xor ?_ | refine pu_seq ?_ | refine pu_sne ?_)
    refine open_spec hp hB (fun c wC hC => ?_)
    rw [if_pos rfl, if_pos rfl] at hC
    refine pu_fnl (by kernel_rfl) ?_
    refine cnd_f rfl ?_
    refine range_fn (L := []) (X := []) (H := (c, cntCell (List.replicate 64 0) 0) :: HA) (A := linesmanlaw15_GroupNone.note) (fuel := 400) mixed (by rw [← openL_zero]; exact open_seq (.head _) (by simp)) (by simp) (by simp) hC
      (fun _ Y => Y = []) (fun _ _ => False) rfl ?_ ?_ ?_
    · intro l r i args X F R w hL
      simp at hL
    · rintro m Y wD rfl hD
      have hp : GP ((m, .deferred (some [])) :: (c, cntCell (List.replicate 64 0) 0) :: HA) _ true gZ := hp.mono fun y hy => .tail _ (.tail _ hy)
      refine new_spec hD (fun hb => absurd (by omega) hb) (fun _ _ o w3 h3 => ?_)
      have hog := GV.new_wf (many := 0) (by omega) (by omega)
      have h3 : Ow B w3 ((o, (GV.new 0).obj) :: (m, .deferred (some [])) :: (c, cntCell (List.replicate 64 0) 0) :: HA) := h3
      have hp := hp.mono (H' := (o, (GV.new 0).obj) :: (m, .deferred (some [])) :: (c, cntCell (List.replicate 64 0) 0) :: HA) fun y hy => .tail _ hy
      repeat (first | refine pu_not ?_ | refine pu_eql ?_ | refine pu_neq ?_ | refine pu_lss ?_ | refine pu_leq ?_ | refine pu_gtr ?_ | refine pu_geq ?_ | refine pu_add ?_ | refine pu_sub ?_ | refine pu_mul ?_ | refine pu_neg ?_ | refine fa_at ?_ | refine nl_ptr ?_ | refine ex20 ?_ | refine ex21 ?_ | refine ex30 ?_ | refine ex31 ?_ | refine ex32 ?_ | refine ln_rule ?_ | refine lnT_rule ?_ | refine pu_and ?_ | refine pu_or ?_ | refine pu_xor ?_ | refine pu_seq ?_ | refine pu_sne ?_)
      refine num_spec ?_
      repeat (first | refine pu_not ?_ | refine pu_eql ?_ | refine pu_neq ?_ | refine pu_lss ?_ | refine pu_leq ?_ | refine pu_gtr ?_ | refine pu_geq ?_ | refine pu_add ?_ | refine pu_sub ?_ | refine pu_mul ?_ | refine pu_neg ?_ | refine fa_at ?_ | refine nl_ptr ?_ | refine ex20 ?_ | refine ex21 ?_ | refine ex30 ?_ | refine ex31 ?_ | refine ex32 ?_ | refine ln_rule ?_ | refine lnT_rule ?_ | refine pu_and ?_ | refine pu_or ?_ | refine pu_xor ?_ | refine pu_seq ?_ | refine pu_sne ?_)
      refine cnd_t rfl ?_
      repeat (first | refine pu_not ?_ | refine pu_eql ?_ | refine pu_neq ?_ | refine pu_lss ?_ | refine pu_leq ?_ | refine pu_gtr ?_ | refine pu_geq ?_ | refine pu_add ?_ | refine pu_sub ?_ | refine pu_mul ?_ | refine pu_neg ?_ | refine fa_at ?_ | refine nl_ptr ?_ | refine ex20 ?_ | refine ex21 ?_ | refine ex30 ?_ | refine ex31 ?_ | refine ex32 ?_ | refine ln_rule ?_ | refine lnT_rule ?_ | refine pu_and ?_ | refine pu_or ?_ | refine pu_xor ?_ | refine pu_seq ?_ | refine pu_sne ?_)
      refine ld_here (l := aC a) h3 (.tail _ (.tail _ (.tail _ mp))) rfl ?_
      refine count_gp hp h3 (fun w4 h4 => ?_)
      repeat (first | refine pu_not ?_ | refine pu_eql ?_ | refine pu_neq ?_ | refine pu_lss ?_ | refine pu_leq ?_ | refine pu_gtr ?_ | refine pu_geq ?_ | refine pu_add ?_ | refine pu_sub ?_ | refine pu_mul ?_ | refine pu_neg ?_ | refine fa_at ?_ | refine nl_ptr ?_ | refine ex20 ?_ | refine ex21 ?_ | refine ex30 ?_ | refine ex31 ?_ | refine ex32 ?_ | refine ln_rule ?_ | refine lnT_rule ?_ | refine pu_and ?_ | refine pu_or ?_ | refine pu_xor ?_ | refine pu_seq ?_ | refine pu_sne ?_)
      refine cnd_t rfl ?_
      repeat (first | refine pu_not ?_ | refine pu_eql ?_ | refine pu_neq ?_ | refine pu_lss ?_ | refine pu_leq ?_ | refine pu_gtr ?_ | refine pu_geq ?_ | refine pu_add ?_ | refine pu_sub ?_ | refine pu_mul ?_ | refine pu_neg ?_ | refine fa_at ?_ | refine nl_ptr ?_ | refine ex20 ?_ | refine ex21 ?_ | refine ex30 ?_ | refine ex31 ?_ | refine ex32 ?_ | refine ln_rule ?_ | refine lnT_rule ?_ | refine pu_and ?_ | refine pu_or ?_ | refine pu_xor ?_ | refine pu_seq ?_ | refine pu_sne ?_)
      refine ld_here (l := aC a) h4 (.tail _ (.tail _ (.tail _ mp))) rfl ?_
      refine done_gp hp h4 (fun w5 h5 => ?_)
      repeat (first | refine pu_not ?_ | refine pu_eql ?_ | refine pu_neq ?_ | refine pu_lss ?_ | refine pu_leq ?_ | refine pu_gtr ?_ | refine pu_geq ?_ | refine pu_add ?_ | refine pu_sub ?_ | refine pu_mul ?_ | refine pu_neg ?_ | refine fa_at ?_ | refine nl_ptr ?_ | refine ex20 ?_ | refine ex21 ?_ | refine ex30 ?_ | refine ex31 ?_ | refine ex32 ?_ | refine ln_rule ?_ | refine lnT_rule ?_ | refine pu_and ?_ | refine pu_or ?_ | refine pu_xor ?_ | refine pu_seq ?_ | refine pu_sne ?_)
      refine cnd_t rfl ?_
      refine len_gp hp h5 (fun w6 h6 => ?_)
      repeat (first | refine pu_not ?_ | refine pu_eql ?_ | refine pu_neq ?_ | refine pu_lss ?_ | refine pu_leq ?_ | refine pu_gtr ?_ | refine pu_geq ?_ | refine pu_add ?_ | refine pu_sub ?_ | refine pu_mul ?_ | refine pu_neg ?_ | refine fa_at ?_ | refine nl_ptr ?_ | refine ex20 ?_ | refine ex21 ?_ | refine ex30 ?_ | refine ex31 ?_ | refine ex32 ?_ | refine ln_rule ?_ | refine lnT_rule ?_ | refine pu_and ?_ | refine pu_or ?_ | refine pu_xor ?_ | refine pu_seq ?_ | refine pu_sne ?_)
      refine cnd_t rfl ?_
      refine copy_gp hp h6 (fun w7 h7 => ?_)
      refine pu_pnil und_ptr ?_
      refine cnd_t rfl ?_
      refine same_spec hp (.nil gZ) h7 (fun w8 h8 => ?_)
      rw [if_pos (.inl rfl)]
      refine cnd_t rfl ?_
      refine num_spec ?_
      repeat (first | refine pu_not ?_ | refine pu_eql ?_ | refine pu_neq ?_ | refine pu_lss ?_ | refine pu_leq ?_ | refine pu_gtr ?_ | refine pu_geq ?_ | refine pu_add ?_ | refine pu_sub ?_ | refine pu_mul ?_ | refine pu_neg ?_ | refine fa_at ?_ | refine nl_ptr ?_ | refine ex20 ?_ | refine ex21 ?_ | refine ex30 ?_ | refine ex31 ?_ | refine ex32 ?_ | refine ln_rule ?_ | refine lnT_rule ?_ | refine pu_and ?_ | refine pu_or ?_ | refine pu_xor ?_ | refine pu_seq ?_ | refine pu_sne ?_)
      refine cnd_t rfl ?_
      refine same_spec (x := ptr o) (r := false) (g := GV.new 0) (.at hog (.head _)) hp h8 (fun w9 h9 => ?_)
      rw [if_pos (.inr rfl)]
      repeat (first | refine pu_not ?_ | refine pu_eql ?_ | refine pu_neq ?_ | refine pu_lss ?_ | refine pu_leq ?_ | refine pu_gtr ?_ | refine pu_geq ?_ | refine pu_add ?_ | refine pu_sub ?_ | refine pu_mul ?_ | refine pu_neg ?_ | refine fa_at ?_ | refine nl_ptr ?_ | refine ex20 ?_ | refine ex21 ?_ | refine ex30 ?_ | refine ex31 ?_ | refine ex32 ?_ | refine ln_rule ?_ | refine lnT_rule ?_ | refine pu_and ?_ | refine pu_or ?_ | refine pu_xor ?_ | refine pu_seq ?_ | refine pu_sne ?_)
      refine cnd_t rfl ?_
      refine works_spec h9 (fun w10 h10 => ?_)
      have h10 : Ow B w10 ((m, .deferred (some [])) :: (c, cntCell (List.replicate 64 0) 0) :: HA) := h10.drop
      subst hHA
      refine st1_here (A := [_, _, _]) h10 rfl rfl (by simp) (fun w11 h11 => ?_)
      refine lv_ret h11 (fun w12 h12 => ?_)
      refine ld_here h12 (.tail _ (.tail _ (.head _))) rfl ?_
      exact k _ (h12.sub (.cons _ (.cons _ (.cons _ (.cons _ (.refl _))))))
    · rintro _ _ _ _ hz
      exact hz.elim
  · have hA : Ow B w2 ((q, cel [vB false] T.t_bool) :: (p, cel (aC a) T.t_linesmanlaw15_Act) :: H) := h2
    have hp : GP ((q, cel [vB false] T.t_bool) :: (p, cel (aC a) T.t_linesmanlaw15_Act) :: H) (.pointer none) true gZ := .nil gZ
    have mp : (p, cel (aC a) T.t_linesmanlaw15_Act) ∈ (q, cel [vB false] T.t_bool) :: (p, cel (aC a) T.t_linesmanlaw15_Act) :: H := .tail _ (.head _)
    generalize hHA : (q, cel [vB false] T.t_bool) :: (p, cel (aC a) T.t_linesmanlaw15_Act) :: H = HA at hA hp mp
    repeat (first | refine pu_not ?_ | refine pu_eql ?_ | refine pu_neq ?_ | refine pu_lss ?_ | refine pu_leq ?_ | refine pu_gtr ?_ | refine pu_geq ?_ | refine pu_add ?_ | refine pu_sub ?_ | refine pu_mul ?_ | refine pu_neg ?_ | refine fa_at ?_ | refine nl_ptr ?_ | refine ex20 ?_ | refine ex21 ?_ | refine ex30 ?_ | refine ex31 ?_ | refine ex32 ?_ | refine ln_rule ?_ | refine lnT_rule ?_ | refine pu_and ?_ | refine pu_or ?_ | refine pu_xor ?_ | refine pu_seq ?_ | refine pu_sne ?_)
    refine ld_here (l := aC a) hA mp rfl ?_
    repeat (first | refine pu_not ?_ | refine pu_eql ?_ | refine pu_neq ?_ | refine pu_lss ?_ | refine pu_leq ?_ | refine pu_gtr ?_ | refine pu_geq ?_ | refine pu_add ?_ | refine pu_sub ?_ | refine pu_mul ?_ | refine pu_neg ?_ | refine fa_at ?_ | refine nl_ptr ?_ | refine ex20 ?_ | refine ex21 ?_ | refine ex30 ?_ | refine ex31 ?_ | refine ex32 ?_ | refine ln_rule ?_ | refine lnT_rule ?_ | refine pu_and ?_ | refine pu_or ?_ | refine pu_xor ?_ | refine pu_seq ?_ | refine pu_sne ?_)
    refine ld_here (l := aC a) hA mp rfl ?_
    refine add_gp hp hA (fun wB hB => ?_)
    repeat (first | refine pu_not ?_ | refine pu_eql ?_ | refine pu_neq ?_ | refine pu_lss ?_ | refine pu_leq ?_ | refine pu_gtr ?_ | refine pu_geq ?_ | refine pu_add ?_ | refine pu_sub ?_ | refine pu_mul ?_ | refine pu_neg ?_ | refine fa_at ?_ | refine nl_ptr ?_ | refine ex20 ?_ | refine ex21 ?_ | refine ex30 ?_ | refine ex31 ?_ | refine ex32 ?_ | refine ln_rule ?_ | refine lnT_rule ?_ | refine pu_and ?_ | refine pu_or ?_ | refine pu_xor ?_ | refine pu_seq ?_ | refine pu_sne ?_)
    refine open_spec hp hB (fun c wC hC => ?_)
    rw [if_pos rfl, if_pos rfl] at hC
    refine pu_fnl (by kernel_rfl) ?_
    refine cnd_f rfl ?_
    refine range_fn (L := []) (X := []) (H := (c, cntCell (List.replicate 64 0) 0) :: HA) (A := linesmanlaw15_GroupNone.note) (fuel := 400) mixed (by rw [← openL_zero]; exact open_seq (.head _) (by simp)) (by simp) (by simp) hC
      (fun _ Y => Y = []) (fun _ _ => False) rfl ?_ ?_ ?_
    · intro l r i args X F R w hL
      simp at hL
    · rintro m Y wD rfl hD
      have hp : GP ((m, .deferred (some [])) :: (c, cntCell (List.replicate 64 0) 0) :: HA) _ true gZ := hp.mono fun y hy => .tail _ (.tail _ hy)
      refine new_spec hD (fun hb => absurd (by omega) hb) (fun _ _ o w3 h3 => ?_)
      have hog := GV.new_wf (many := 0) (by omega) (by omega)
      have h3 : Ow B w3 ((o, (GV.new 0).obj) :: (m, .deferred (some [])) :: (c, cntCell (List.replicate 64 0) 0) :: HA) := h3
      have hp := hp.mono (H' := (o, (GV.new 0).obj) :: (m, .deferred (some [])) :: (c, cntCell (List.replicate 64 0) 0) :: HA) fun y hy => .tail _ hy
      repeat (first | refine pu_not ?_ | refine pu_eql ?_ | refine pu_neq ?_ | refine pu_lss ?_ | refine pu_leq ?_ | refine pu_gtr ?_ | refine pu_geq ?_ | refine pu_add ?_ | refine pu_sub ?_ | refine pu_mul ?_ | refine pu_neg ?_ | refine fa_at ?_ | refine nl_ptr ?_ | refine ex20 ?_ | refine ex21 ?_ | refine ex30 ?_ | refine ex31 ?_ | refine ex32 ?_ | refine ln_rule ?_ | refine lnT_rule ?_ | refine pu_and ?_ | refine pu_or ?_ | refine pu_xor ?_ | refine pu_seq ?_ | refine pu_sne ?_)
      refine num_spec ?_
      repeat (first | refine pu_not ?_ | refine pu_eql ?_ | refine pu_neq ?_ | refine pu_lss ?_ | refine pu_leq ?_ | refine pu_gtr ?_ | refine pu_geq ?_ | refine pu_add ?_ | refine pu_sub ?_ | refine pu_mul ?_ | refine pu_neg ?_ | refine fa_at ?_ | refine nl_ptr ?_ | refine ex20 ?_ | refine ex21 ?_ | refine ex30 ?_ | refine ex31 ?_ | refine ex32 ?_ | refine ln_rule ?_ | refine lnT_rule ?_ | refine pu_and ?_ | refine pu_or ?_ | refine pu_xor ?_ | refine pu_seq ?_ | refine pu_sne ?_)
      refine cnd_t rfl ?_
      repeat (first | refine pu_not ?_ | refine pu_eql ?_ | refine pu_neq ?_ | refine pu_lss ?_ | refine pu_leq ?_ | refine pu_gtr ?_ | refine pu_geq ?_ | refine pu_add ?_ | refine pu_sub ?_ | refine pu_mul ?_ | refine pu_neg ?_ | refine fa_at ?_ | refine nl_ptr ?_ | refine ex20 ?_ | refine ex21 ?_ | refine ex30 ?_ | refine ex31 ?_ | refine ex32 ?_ | refine ln_rule ?_ | refine lnT_rule ?_ | refine pu_and ?_ | refine pu_or ?_ | refine pu_xor ?_ | refine pu_seq ?_ | refine pu_sne ?_)
      refine ld_here (l := aC a) h3 (.tail _ (.tail _ (.tail _ mp))) rfl ?_
      refine count_gp hp h3 (fun w4 h4 => ?_)
      repeat (first | refine pu_not ?_ | refine pu_eql ?_ | refine pu_neq ?_ | refine pu_lss ?_ | refine pu_leq ?_ | refine pu_gtr ?_ | refine pu_geq ?_ | refine pu_add ?_ | refine pu_sub ?_ | refine pu_mul ?_ | refine pu_neg ?_ | refine fa_at ?_ | refine nl_ptr ?_ | refine ex20 ?_ | refine ex21 ?_ | refine ex30 ?_ | refine ex31 ?_ | refine ex32 ?_ | refine ln_rule ?_ | refine lnT_rule ?_ | refine pu_and ?_ | refine pu_or ?_ | refine pu_xor ?_ | refine pu_seq ?_ | refine pu_sne ?_)
      refine cnd_t rfl ?_
      repeat (first | refine pu_not ?_ | refine pu_eql ?_ | refine pu_neq ?_ | refine pu_lss ?_ | refine pu_leq ?_ | refine pu_gtr ?_ | refine pu_geq ?_ | refine pu_add ?_ | refine pu_sub ?_ | refine pu_mul ?_ | refine pu_neg ?_ | refine fa_at ?_ | refine nl_ptr ?_ | refine ex20 ?_ | refine ex21 ?_ | refine ex30 ?_ | refine ex31 ?_ | refine ex32 ?_ | refine ln_rule ?_ | refine lnT_rule ?_ | refine pu_and ?_ | refine pu_or ?_ | refine pu_xor ?_ | refine pu_seq ?_ | refine pu_sne ?_)
      refine ld_here (l := aC a) h4 (.tail _ (.tail _ (.tail _ mp))) rfl ?_
      refine done_gp hp h4 (fun w5 h5 => ?_)
      repeat (first | refine pu_not ?_ | refine pu_eql ?_ | refine pu_neq ?_ | refine pu_lss ?_ | refine pu_leq ?_ | refine pu_gtr ?_ | refine pu_geq ?_ | refine pu_add ?_ | refine pu_sub ?_ | refine pu_mul ?_ | refine pu_neg ?_ | refine fa_at ?_ | refine nl_ptr ?_ | refine ex20 ?_ | refine ex21 ?_ | refine ex30 ?_ | refine ex31 ?_ | refine ex32 ?_ | refine ln_rule ?_ | refine lnT_rule ?_ | refine pu_and ?_ | refine pu_or ?_ | refine pu_xor ?_ | refine pu_seq ?_ | refine pu_sne ?_)
      refine cnd_t rfl ?_
      refine len_gp hp h5 (fun w6 h6 => ?_)
      repeat (first | refine pu_not ?_ | refine pu_eql ?_ | refine pu_neq ?_ | refine pu_lss ?_ | refine pu_leq ?_ | refine pu_gtr ?_ | refine pu_geq ?_ | refine pu_add ?_ | refine pu_sub ?_ | refine pu_mul ?_ | refine pu_neg ?_ | refine fa_at ?_ | refine nl_ptr ?_ | refine ex20 ?_ | refine ex21 ?_ | refine ex30 ?_ | refine ex31 ?_ | refine ex32 ?_ | refine ln_rule ?_ | refine lnT_rule ?_ | refine pu_and ?_ | refine pu_or ?_ | refine pu_xor ?_ | refine pu_seq ?_ | refine pu_sne ?_)
      refine cnd_t rfl ?_
      refine copy_gp hp h6 (fun w7 h7 => ?_)
      refine pu_pnil und_ptr ?_
      refine cnd_t rfl ?_
      refine same_spec hp (.nil gZ) h7 (fun w8 h8 => ?_)
      rw [if_pos (.inl rfl)]
      refine cnd_t rfl ?_
      refine num_spec ?_
      repeat (first | refine pu_not ?_ | refine pu_eql ?_ | refine pu_neq ?_ | refine pu_lss ?_ | refine pu_leq ?_ | refine pu_gtr ?_ | refine pu_geq ?_ | refine pu_add ?_ | refine pu_sub ?_ | refine pu_mul ?_ | refine pu_neg ?_ | refine fa_at ?_ | refine nl_ptr ?_ | refine ex20 ?_ | refine ex21 ?_ | refine ex30 ?_ | refine ex31 ?_ | refine ex32 ?_ | refine ln_rule ?_ | refine lnT_rule ?_ | refine pu_and ?_ | refine pu_or ?_ | refine pu_xor ?_ | refine pu_seq ?_ | refine pu_sne ?_)
      refine cnd_t rfl ?_
      refine same_spec (x := ptr o) (r := false) (g := GV.new 0) (.at hog (.head _)) hp h8 (fun w9 h9 => ?_)
      rw [if_pos (.inr rfl)]
      repeat (first | refine pu_not ?_ | refine pu_eql ?_ | refine pu_neq ?_ | refine pu_lss ?_ | refine pu_leq ?_ | refine pu_gtr ?_ | refine pu_geq ?_ | refine pu_add ?_ | refine pu_sub ?_ | refine pu_mul ?_ | refine pu_neg ?_ | refine fa_at ?_ | refine nl_ptr ?_ | refine ex20 ?_ | refine ex21 ?_ | refine ex30 ?_ | refine ex31 ?_ | refine ex32 ?_ | refine ln_rule ?_ | refine lnT_rule ?_ | refine pu_and ?_ | refine pu_or ?_ | refine pu_xor ?_ | refine pu_seq ?_ | refine pu_sne ?_)
      refine cnd_t rfl ?_
      refine works_spec h9 (fun w10 h10 => ?_)
      have h10 : Ow B w10 ((m, .deferred (some [])) :: (c, cntCell (List.replicate 64 0) 0) :: HA) := h10.drop
      subst hHA
      refine st1_here (A := [_, _]) h10 rfl rfl (by simp) (fun w11 h11 => ?_)
      refine lv_ret h11 (fun w12 h12 => ?_)
      refine ld_here h12 (.tail _ (.head _)) rfl ?_
      exact k _ (h12.sub (.cons _ (.cons _ (.cons _ (.refl _)))))
    · rintro _ _ _ _ hz
      exact hz.elim
end
end Go.Proofs.Ytapnfbmcniebpaa
