/- The laws DigestSums, DigestHolds, DigestNone, DigestPlays: their walks. -/
import Derived.Test.YtplobehejancpaaVoH
set_option linter.unusedVariables false
set_option linter.unusedSimpArgs false
namespace Go.Proofs.Ytplobehejancpaa
open Go Go.RowKit Vc Oc Dg
attribute [local irreducible] binV Op.unary convert nlW faW ldS ldW ixS ixA ixV ixT exW lnS lnT pu stW alW opW opU bsW mkW dgC tabV

section
variable {B w : World} {H : Hp} {K : Value → World → Prop} {PK : List PanicEntry → World → Prop}
theorem und_slslb : PG.underlying T.t_sl_sl_uint8 = some (.slice T.t_sl_uint8) := by kernel_rfl
theorem dworks_spec (h : Ow B w H) (k : ∀ w', Ow B w' H → K (vB true) w') : callW PG N.linesmanlaw02_works [] K PK w := by
  refine linesmanlaw02_works.ok ?_
  unfold linesmanlaw02_works.C
  refine dnew_spec h (fun b w1 h1 => ?_)
  refine dnumber_spec (n := 12849) (x := 2) h1 (by decide) (by omega) (by omega) (by omega) (fun w2 h2 => ?_)
  have e2 : fxR 12849 2 = ([49, 50], 0) := by decide +kernel
  rw [e2] at h2 ⊢
  have h2 : Ow B w2 ((b, dg (fold top [49, 50]) 2) :: H) := h2
  refine bs_const (l := bv [51, 52, 53, 54, 55, 56, 57]) h2 und_slb und_u8 (by kernel_rfl) rfl (fun b3 o3 v3 w3 h3 hs3 => ?_)
  refine bs_rule h3 [v3] (bsw1 hs3) (fun b4 w4 h4 => ?_)
  have hW4 : Wr ((b4, cel [v3] T.t_sl_uint8) :: [(b3, o3)]) (.slice (some ⟨b4, 0, none⟩) 1 1) [[51, 52, 53, 54, 55, 56, 57]] := ⟨[v3], sl_here (l := [v3]) (.head _), ⟨hs3.cons, by simp [Byt]⟩, trivial⟩
  refine write_spec (A := [_, _]) h4 (fold_lt _ (by decide) (by simp [Byt])) hW4 (fun y hy => List.mem_append_left _ hy) (by omega) (by simp) (by simp) (fun w5 h5 => ?_)
  have e5 : fold (fold top [49, 50]) [[51, 52, 53, 54, 55, 56, 57]].flatten = fold top [49, 50, 51, 52, 53, 54, 55, 56, 57] := rfl
  rw [e5] at h5
  have h5 : Ow B w5 ((b, dg (fold top [49, 50, 51, 52, 53, 54, 55, 56, 57]) 9) :: H) := h5.sub (.cons _ (.cons _ (.refl _)))
  refine bs_const (l := bv [49, 50, 51, 52, 53, 54, 55, 56, 57]) h5 und_slb und_u8 (by kernel_rfl) rfl (fun b6 o6 v6 w6 h6 hs6 => ?_)
  refine bs_rule h6 [v6] (bsw1 hs6) (fun b7 w7 h7 => ?_)
  have hW7 : Wr ((b7, cel [v6] T.t_sl_uint8) :: [(b6, o6)]) (.slice (some ⟨b7, 0, none⟩) 1 1) [[49, 50, 51, 52, 53, 54, 55, 56, 57]] := ⟨[v6], sl_here (l := [v6]) (.head _), ⟨hs6.cons, by simp [Byt]⟩, trivial⟩
  refine dof_spec h7 hW7 (fun y hy => by
    rcases List.mem_cons.1 hy with rfl | hy
    · exact .head _
    · rcases List.mem_cons.1 hy with rfl | hy
      · exact .tail _ (.head _)
      · cases hy) (by simp) (by simp) (fun w8 h8 => ?_)
  have h8 := h8.drop.drop
  have e8 : sum [[49, 50, 51, 52, 53, 54, 55, 56, 57]].flatten = 11051210869376104954 := by decide +kernel
  rw [e8]
  repeat (first | refine pu_not ?_ | refine pu_eql ?_ | refine pu_neq ?_ | refine pu_lss ?_ | refine pu_leq ?_ | refine pu_gtr ?_ | refine pu_geq ?_ | refine pu_add ?_ | refine pu_sub ?_ | refine pu_mul ?_ | refine pu_neg ?_ | refine fa_at ?_ | refine nl_ptr ?_ | refine ex20 ?_ | refine ex21 ?_ | refine ex30 ?_ | refine ex31 ?_ | refine ex32 ?_ | refine ln_rule ?_ | refine lnT_rule ?_ | refine pu_and ?_ | refine pu_or ?_ | refine pu_xor ?_ | refine pu_seq ?_ | refine pu_sne ?_)
  refine cnd_t rfl ?_
  refine dof_spec (X0 := []) (ls := []) h8 ⟨[], ⟨none, 0, rfl, Nat.le_refl _, by simp⟩, trivial⟩ (by simp) (by simp) (by simp) (fun w9 h9 => ?_)
  have e9 : sum ([] : List (List Nat)).flatten = 0 := by decide +kernel
  rw [e9]
  repeat (first | refine pu_not ?_ | refine pu_eql ?_ | refine pu_neq ?_ | refine pu_lss ?_ | refine pu_leq ?_ | refine pu_gtr ?_ | refine pu_geq ?_ | refine pu_add ?_ | refine pu_sub ?_ | refine pu_mul ?_ | refine pu_neg ?_ | refine fa_at ?_ | refine nl_ptr ?_ | refine ex20 ?_ | refine ex21 ?_ | refine ex30 ?_ | refine ex31 ?_ | refine ex32 ?_ | refine ln_rule ?_ | refine lnT_rule ?_ | refine pu_and ?_ | refine pu_or ?_ | refine pu_xor ?_ | refine pu_seq ?_ | refine pu_sne ?_)
  refine cnd_t rfl ?_
  refine dnum_spec ?_
  refine dnum_spec ?_
  repeat (first | refine pu_not ?_ | refine pu_eql ?_ | refine pu_neq ?_ | refine pu_lss ?_ | refine pu_leq ?_ | refine pu_gtr ?_ | refine pu_geq ?_ | refine pu_add ?_ | refine pu_sub ?_ | refine pu_mul ?_ | refine pu_neg ?_ | refine fa_at ?_ | refine nl_ptr ?_ | refine ex20 ?_ | refine ex21 ?_ | refine ex30 ?_ | refine ex31 ?_ | refine ex32 ?_ | refine ln_rule ?_ | refine lnT_rule ?_ | refine pu_and ?_ | refine pu_or ?_ | refine pu_xor ?_ | refine pu_seq ?_ | refine pu_sne ?_)
  refine cnd_t rfl ?_
  refine dsum_spec h9 (.head _) (fold_lt _ (by decide) (by simp [Byt])) (fun w10 h10 => ?_)
  have e10 : nt (fold top [49, 50, 51, 52, 53, 54, 55, 56, 57]) = 11051210869376104954 := by decide +kernel
  rw [e10]
  repeat (first | refine pu_not ?_ | refine pu_eql ?_ | refine pu_neq ?_ | refine pu_lss ?_ | refine pu_leq ?_ | refine pu_gtr ?_ | refine pu_geq ?_ | refine pu_add ?_ | refine pu_sub ?_ | refine pu_mul ?_ | refine pu_neg ?_ | refine fa_at ?_ | refine nl_ptr ?_ | refine ex20 ?_ | refine ex21 ?_ | refine ex30 ?_ | refine ex31 ?_ | refine ex32 ?_ | refine ln_rule ?_ | refine lnT_rule ?_ | refine pu_and ?_ | refine pu_or ?_ | refine pu_xor ?_ | refine pu_seq ?_ | refine pu_sne ?_)
  refine cnd_t rfl ?_
  refine dlen_spec h10 (.head _) (fun w11 h11 => ?_)
  repeat (first | refine pu_not ?_ | refine pu_eql ?_ | refine pu_neq ?_ | refine pu_lss ?_ | refine pu_leq ?_ | refine pu_gtr ?_ | refine pu_geq ?_ | refine pu_add ?_ | refine pu_sub ?_ | refine pu_mul ?_ | refine pu_neg ?_ | refine fa_at ?_ | refine nl_ptr ?_ | refine ex20 ?_ | refine ex21 ?_ | refine ex30 ?_ | refine ex31 ?_ | refine ex32 ?_ | refine ln_rule ?_ | refine lnT_rule ?_ | refine pu_and ?_ | refine pu_or ?_ | refine pu_xor ?_ | refine pu_seq ?_ | refine pu_sne ?_)
  refine cnd_t rfl ?_
  refine dnumber_spec (n := 256) (x := 1) h11 (fold_lt _ (by decide) (by simp [Byt])) (by omega) (by omega) (by omega) (fun w12 h12 => ?_)
  have e12 : fxR 256 1 = ([], 4) := by decide +kernel
  rw [e12]
  refine dnum_spec ?_
  repeat (first | refine pu_not ?_ | refine pu_eql ?_ | refine pu_neq ?_ | refine pu_lss ?_ | refine pu_leq ?_ | refine pu_gtr ?_ | refine pu_geq ?_ | refine pu_add ?_ | refine pu_sub ?_ | refine pu_mul ?_ | refine pu_neg ?_ | refine fa_at ?_ | refine nl_ptr ?_ | refine ex20 ?_ | refine ex21 ?_ | refine ex30 ?_ | refine ex31 ?_ | refine ex32 ?_ | refine ln_rule ?_ | refine lnT_rule ?_ | refine pu_and ?_ | refine pu_or ?_ | refine pu_xor ?_ | refine pu_seq ?_ | refine pu_sne ?_)
  exact k _ h12.drop

theorem DigestSums.law {v0 v1 : Value} (g0 : FitV PG H T.t_sl_uint8 v0) (g1 : FitV PG H T.t_int v1) (h : Ow B w H) (k : ∀ w', Ow B w' H → K (vB true) w') : callW PG N.linesmanlaw02_DigestSums [v0, v1] K PK w := by
  obtain ⟨l, hl, hlm, hb⟩ := bytes_of g0
  obtain ⟨x, rfl, _⟩ := g1.int und_int
  clear g0 g1
  refine linesmanlaw02_DigestSums.ok ?_
  unfold linesmanlaw02_DigestSums.C
  refine sl_ln hl ?_
  rw [List.length_map]
  repeat (first | refine pu_not ?_ | refine pu_eql ?_ | refine pu_neq ?_ | refine pu_lss ?_ | refine pu_leq ?_ | refine pu_gtr ?_ | refine pu_geq ?_ | refine pu_add ?_ | refine pu_sub ?_ | refine pu_mul ?_ | refine pu_neg ?_ | refine fa_at ?_ | refine nl_ptr ?_ | refine ex20 ?_ | refine ex21 ?_ | refine ex30 ?_ | refine ex31 ?_ | refine ex32 ?_ | refine ln_rule ?_ | refine lnT_rule ?_ | refine pu_and ?_ | refine pu_or ?_ | refine pu_xor ?_ | refine pu_seq ?_ | refine pu_sne ?_)
  refine cnd (fun _ => dworks_spec h k) (fun hle => ?_)
  have hle : l.length ≤ 400 := by simp at hle; omega
  refine sl_ln hl ?_
  rw [List.length_map]
  refine pu_max2 ?_
  refine pu_min2 ?_
  obtain ⟨c, hc, hcl⟩ : ∃ c : Nat, (if (if x > 0 then x else 0) < (l.length : Int) then (if x > 0 then x else 0) else (l.length : Int)) = c ∧ c ≤ l.length :=
    ⟨(if (if x > 0 then x else 0) < (l.length : Int) then (if x > 0 then x else 0) else (l.length : Int)).toNat, by split <;> split at * <;> omega, by split <;> split at * <;> omega⟩
  rw [hc]
  refine rof_spec h hl hb (by omega) (fun w1 h1 => ?_)
  have h1 := h1.drew
  refine bs_rule h1 [v0] (bsw1 hl) (fun b2 w2 h2 => ?_)
  refine dof_spec (ls := [l]) h2 ⟨[v0], sl_here (l := [v0]) (.head _), ⟨hl.cons, hb⟩, trivial⟩ (fun y hy => hy) (by simp; omega) (by simp) (fun w3 h3 => ?_)
  have h3 := h3.drop
  have e1 : [l].flatten = l := by simp
  rw [e1]
  repeat (first | refine pu_not ?_ | refine pu_eql ?_ | refine pu_neq ?_ | refine pu_lss ?_ | refine pu_leq ?_ | refine pu_gtr ?_ | refine pu_geq ?_ | refine pu_add ?_ | refine pu_sub ?_ | refine pu_mul ?_ | refine pu_neg ?_ | refine fa_at ?_ | refine nl_ptr ?_ | refine ex20 ?_ | refine ex21 ?_ | refine ex30 ?_ | refine ex31 ?_ | refine ex32 ?_ | refine ln_rule ?_ | refine lnT_rule ?_ | refine pu_and ?_ | refine pu_or ?_ | refine pu_xor ?_ | refine pu_seq ?_ | refine pu_sne ?_)
  refine cnd_t (by simp) ?_
  have e2 : (bv l).drop c = bv (l.drop c) := by simp [bv]
  have e3 : (bv l).take c = bv (l.take c) := by simp [bv]
  refine cutH hl (by omega) (by simp; omega) (fun cc hcc => ?_)
  rw [Int.toNat_natCast]
  have hs1 := sl_cut (l := 0) (h := c) (m := cc) hl (by omega) (by simpa using hcl) (by omega)
  rw [List.drop_zero, e3] at hs1
  refine cutL hl (by omega) (by simp; omega) (fun cd hcd => ?_)
  rw [Int.toNat_natCast]
  have hs2 := sl_cut (l := c) (h := (bv l).length) (m := cd) hl (by simpa using hcl) (Nat.le_refl _) hcd
  rw [List.take_length, e2] at hs2
  refine bs_rule h3 [cut v0 0 c cc, cut v0 c (bv l).length cd] (bsw2 hs1 hs2) (fun b4 w4 h4 => ?_)
  refine dof_spec (ls := [l.take c, l.drop c]) h4 ⟨_, sl_here (l := [cut v0 0 c cc, cut v0 c (bv l).length cd]) (.head _), ⟨hs1.cons, hb.take _⟩, ⟨hs2.cons, hb.drop _⟩, trivial⟩ (fun y hy => hy) (by simp; omega) (by simp) (fun w5 h5 => ?_)
  have h5 := h5.drop
  have e4 : [l.take c, l.drop c].flatten = l := by simp
  rw [e4]
  repeat (first | refine pu_not ?_ | refine pu_eql ?_ | refine pu_neq ?_ | refine pu_lss ?_ | refine pu_leq ?_ | refine pu_gtr ?_ | refine pu_geq ?_ | refine pu_add ?_ | refine pu_sub ?_ | refine pu_mul ?_ | refine pu_neg ?_ | refine fa_at ?_ | refine nl_ptr ?_ | refine ex20 ?_ | refine ex21 ?_ | refine ex30 ?_ | refine ex31 ?_ | refine ex32 ?_ | refine ln_rule ?_ | refine lnT_rule ?_ | refine pu_and ?_ | refine pu_or ?_ | refine pu_xor ?_ | refine pu_seq ?_ | refine pu_sne ?_)
  refine cnd_t (by simp) ?_
  refine cutH hl (by omega) (by simp; omega) (fun cc hcc => ?_)
  rw [Int.toNat_natCast]
  have hs1 := sl_cut (l := 0) (h := c) (m := cc) hl (by omega) (by simpa using hcl) (by omega)
  rw [List.drop_zero, e3] at hs1
  refine cutL hl (by omega) (by simp; omega) (fun cd hcd => ?_)
  rw [Int.toNat_natCast]
  have hs2 := sl_cut (l := c) (h := (bv l).length) (m := cd) hl (by simpa using hcl) (Nat.le_refl _) hcd
  rw [List.take_length, e2] at hs2
  refine bs_rule h5 [.slice none 0 0, cut v0 0 c cc, .slice none 0 0, cut v0 c (bv l).length cd] (bsw4 hs1 hs2) (fun b6 w6 h6 => ?_)
  have hn : ∀ {Y : Hp}, Sl Y (.slice none 0 0) (bv []) := ⟨none, 0, rfl, Nat.le_refl _, by simp⟩
  refine dof_spec (ls := [[], l.take c, [], l.drop c]) h6 ⟨_, sl_here (l := [.slice none 0 0, cut v0 0 c cc, .slice none 0 0, cut v0 c (bv l).length cd]) (.head _), ⟨hn, by simp [Byt]⟩, ⟨hs1.cons, hb.take _⟩, ⟨hn, by simp [Byt]⟩, ⟨hs2.cons, hb.drop _⟩, trivial⟩ (fun y hy => hy) (by simp; omega) (by simp) (fun w7 h7 => ?_)
  have h7 := h7.drop
  have e5 : [[], l.take c, [], l.drop c].flatten = l := by simp
  rw [e5]
  repeat (first | refine pu_not ?_ | refine pu_eql ?_ | refine pu_neq ?_ | refine pu_lss ?_ | refine pu_leq ?_ | refine pu_gtr ?_ | refine pu_geq ?_ | refine pu_add ?_ | refine pu_sub ?_ | refine pu_mul ?_ | refine pu_neg ?_ | refine fa_at ?_ | refine nl_ptr ?_ | refine ex20 ?_ | refine ex21 ?_ | refine ex30 ?_ | refine ex31 ?_ | refine ex32 ?_ | refine ln_rule ?_ | refine lnT_rule ?_ | refine pu_and ?_ | refine pu_or ?_ | refine pu_xor ?_ | refine pu_seq ?_ | refine pu_sne ?_)
  refine cnd_t (by simp) ?_
  exact dworks_spec h7 k

theorem DigestHolds.law {v0 v1 v2 : Value} (g0 : FitV PG H T.t_sl_uint8 v0) (g1 : FitV PG H T.t_int v1) (g2 : FitV PG H T.t_uint8 v2) (h : Ow B w H) (k : ∀ w', Ow B w' H → K (vB true) w') : callW PG N.linesmanlaw02_DigestHolds [v0, v1, v2] K PK w := by
  obtain ⟨l, hl, hlm, hb⟩ := bytes_of g0
  obtain ⟨x, rfl, _⟩ := g1.int und_int
  obtain ⟨c, rfl, hc⟩ : ∃ c : Nat, v2 = v8 c ∧ c < 256 := by
    obtain ⟨n, rfl, hw⟩ := g2.int und_u8
    have := wf_u8 hw
    exact ⟨n.toNat, by rw [v8, Int.toNat_of_nonneg this.1], by omega⟩
  clear g0 g1 g2
  refine linesmanlaw02_DigestHolds.ok ?_
  unfold linesmanlaw02_DigestHolds.C
  refine sl_ln hl ?_
  rw [List.length_map]
  repeat (first | refine pu_not ?_ | refine pu_eql ?_ | refine pu_neq ?_ | refine pu_lss ?_ | refine pu_leq ?_ | refine pu_gtr ?_ | refine pu_geq ?_ | refine pu_add ?_ | refine pu_sub ?_ | refine pu_mul ?_ | refine pu_neg ?_ | refine fa_at ?_ | refine nl_ptr ?_ | refine ex20 ?_ | refine ex21 ?_ | refine ex30 ?_ | refine ex31 ?_ | refine ex32 ?_ | refine ln_rule ?_ | refine lnT_rule ?_ | refine pu_and ?_ | refine pu_or ?_ | refine pu_xor ?_ | refine pu_seq ?_ | refine pu_sne ?_)
  refine cnd (fun _ => dworks_spec h k) (fun hle => ?_)
  have hle : l.length ≤ 400 := by simp at hle; omega
  repeat (first | refine pu_not ?_ | refine pu_eql ?_ | refine pu_neq ?_ | refine pu_lss ?_ | refine pu_leq ?_ | refine pu_gtr ?_ | refine pu_geq ?_ | refine pu_add ?_ | refine pu_sub ?_ | refine pu_mul ?_ | refine pu_neg ?_ | refine fa_at ?_ | refine nl_ptr ?_ | refine ex20 ?_ | refine ex21 ?_ | refine ex30 ?_ | refine ex31 ?_ | refine ex32 ?_ | refine ln_rule ?_ | refine lnT_rule ?_ | refine pu_and ?_ | refine pu_or ?_ | refine pu_xor ?_ | refine pu_seq ?_ | refine pu_sne ?_)
  refine cnd (fun _ => dworks_spec h k) (fun h0 => ?_)
  refine sl_ln hl ?_
  rw [List.length_map]
  repeat (first | refine pu_not ?_ | refine pu_eql ?_ | refine pu_neq ?_ | refine pu_lss ?_ | refine pu_leq ?_ | refine pu_gtr ?_ | refine pu_geq ?_ | refine pu_add ?_ | refine pu_sub ?_ | refine pu_mul ?_ | refine pu_neg ?_ | refine fa_at ?_ | refine nl_ptr ?_ | refine ex20 ?_ | refine ex21 ?_ | refine ex30 ?_ | refine ex31 ?_ | refine ex32 ?_ | refine ln_rule ?_ | refine lnT_rule ?_ | refine pu_and ?_ | refine pu_or ?_ | refine pu_xor ?_ | refine pu_seq ?_ | refine pu_sne ?_)
  refine cnd (fun _ => dworks_spec h k) (fun h1 => ?_)
  repeat (first | refine pu_not ?_ | refine pu_eql ?_ | refine pu_neq ?_ | refine pu_lss ?_ | refine pu_leq ?_ | refine pu_gtr ?_ | refine pu_geq ?_ | refine pu_add ?_ | refine pu_sub ?_ | refine pu_mul ?_ | refine pu_neg ?_ | refine fa_at ?_ | refine nl_ptr ?_ | refine ex20 ?_ | refine ex21 ?_ | refine ex30 ?_ | refine ex31 ?_ | refine ex32 ?_ | refine ln_rule ?_ | refine lnT_rule ?_ | refine pu_and ?_ | refine pu_or ?_ | refine pu_xor ?_ | refine pu_seq ?_ | refine pu_sne ?_)
  refine cnd (fun _ => dworks_spec h k) (fun hc0 => ?_)
  have hc0 : c ≠ 0 := by rintro rfl; simp at hc0
  obtain ⟨i, rfl, hi⟩ : ∃ i : Nat, x = i ∧ i < l.length := ⟨x.toNat, by simp at h0; omega, by simp at h0 h1; omega⟩
  clear h0 h1
  have hat : l[i]? = some (l.getD i 0) := by simp [List.getD, hi]
  have hd := hb.at hat
  generalize l.getD i 0 = d at *
  have hat2 : (bv l)[(i : Int).toNat]? = some (v8 d) := by rw [Int.toNat_natCast, List.getElem?_map, hat]; rfl
  refine bs_rule h [] (by kernel_rfl) (fun b1 w1 h1 => ?_)
  refine app1 (A := []) (S := [(b1, cel [] T.t_uint8)]) (z := v8 0) (bytes := 1) h1 (Own.mk (n := 0) (cap := 0) (xs := []) (Nat.le_refl _) (Nat.zero_le _) rfl rfl) hl (fun y hy => .tail _ hy) (by simp [plainV]) und_slb info_u8 rfl (by simp [maxLen]; omega) (by simp; omega) (fun S p w2 h2 ho => ?_)
  simp only [List.nil_append, Nat.zero_add, List.length_map] at ho h2
  refine sl_ld h2 (ho.sl.mono fun x hx => List.mem_append_left _ hx) (by omega) hat2 ?_
  refine x8 hd hc ?_
  refine own_set (A := []) h2 ho (by omega) (by omega) rfl rfl (fun S w3 h3 ho => ?_)
  rw [Int.toNat_natCast, ← List.map_set] at ho
  have hx8 := xor_lt8 hd hc
  have hb2 : Byt (l.set i (d ^^^ c)) := fun y hy => by
    rcases List.mem_or_eq_of_mem_set hy with hy | rfl
    · exact hb y hy
    · exact hx8
  have hl3 : Sl (S ++ H) v0 (bv l) := hl.mono fun x hx => List.mem_append_right _ hx
  refine bs_rule h3 [v0] (bsw1 hl) (fun b4 w4 h4 => ?_)
  refine dof_spec (ls := [l]) h4 ⟨_, sl_here (l := [v0]) (.head _), ⟨hl3.cons, hb⟩, trivial⟩ (fun y hy => hy) (by simp; omega) (by simp) (fun w5 h5 => ?_)
  have h5 := h5.drop
  refine bs_rule h5 [p] (bsw1 ho.sl) (fun b6 w6 h6 => ?_)
  refine dof_spec (ls := [l.set i (d ^^^ c)]) h6 ⟨_, sl_here (l := [p]) (.head _), ⟨(ho.sl.mono fun x hx => .tail _ (List.mem_append_left _ hx)), hb2⟩, trivial⟩ (fun y hy => hy) (by simp; omega) (by simp) (fun w7 h7 => ?_)
  have h7 := h7.drop
  have e1 : [l].flatten = l := by simp
  have e2 : [l.set i (d ^^^ c)].flatten = l.set i (d ^^^ c) := by simp
  rw [e1, e2]
  have hne : sum l ≠ sum (l.set i (d ^^^ c)) := by
    obtain ⟨hi2, hdi⟩ := List.getElem?_eq_some_iff.1 hat
    have e3 : l = l.take i ++ d :: l.drop (i + 1) := by rw [← hdi, ← List.drop_eq_getElem_cons hi2, List.take_append_drop]
    have e4 : l.set i (d ^^^ c) = l.take i ++ (d ^^^ c) :: l.drop (i + 1) := by rw [List.set_eq_take_append_cons_drop, if_pos hi2]
    rw [e4]
    conv => lhs; rw [e3]
    refine sum_ne (hb.take i) (hb.drop (i + 1)) hd hx8 fun he => ?_
    have : d ^^^ 0 = d ^^^ c := by rw [Nat.xor_zero]; exact he
    exact hc0 (xor_cancel this).symm
  repeat (first | refine pu_not ?_ | refine pu_eql ?_ | refine pu_neq ?_ | refine pu_lss ?_ | refine pu_leq ?_ | refine pu_gtr ?_ | refine pu_geq ?_ | refine pu_add ?_ | refine pu_sub ?_ | refine pu_mul ?_ | refine pu_neg ?_ | refine fa_at ?_ | refine nl_ptr ?_ | refine ex20 ?_ | refine ex21 ?_ | refine ex30 ?_ | refine ex31 ?_ | refine ex32 ?_ | refine ln_rule ?_ | refine lnT_rule ?_ | refine pu_and ?_ | refine pu_or ?_ | refine pu_xor ?_ | refine pu_seq ?_ | refine pu_sne ?_)
  refine cnd_t ?_ ?_
  · simp only [bne_iff_ne, ne_eq]
    omega
  · exact dworks_spec h7 (fun w' h' => k w' (h'.sub (List.sublist_append_right _ _)))

/-- Of none. -/
theorem dwrite_none {x y : Value} (hp : DP H x true) (h : Ow B w H) (k : ∀ w', Ow B w' H → K (vI 1) w') : callW PG N.digest_Digest_Write [x, y] K PK w := by
  refine digest_Digest_Write.ok ?_
  unfold digest_Digest_Write.C
  exact dnone_spec hp h (fun w1 h1 => cnd_t rfl (k _ h1))
theorem dnumber_none {x y z : Value} (hp : DP H x true) (h : Ow B w H) (k : ∀ w', Ow B w' H → K (vI 1) w') : callW PG N.digest_Digest_Number [x, y, z] K PK w := by
  refine digest_Digest_Number.ok ?_
  unfold digest_Digest_Number.C
  exact dnone_spec hp h (fun w1 h1 => cnd_t rfl (k _ h1))
theorem dsum_none {x : Value} (hp : DP H x true) (h : Ow B w H) (k : ∀ w', Ow B w' H → K (v64 0) w') : callW PG N.digest_Digest_Sum [x] K PK w := by
  refine digest_Digest_Sum.ok ?_
  unfold digest_Digest_Sum.C
  exact dnone_spec hp h (fun w1 h1 => cnd_t rfl (k _ h1))
theorem dlen_none {x : Value} (hp : DP H x true) (h : Ow B w H) (k : ∀ w', Ow B w' H → K (vI 0) w') : callW PG N.digest_Digest_Len [x] K PK w := by
  refine digest_Digest_Len.ok ?_
  unfold digest_Digest_Len.C
  exact dnone_spec hp h (fun w1 h1 => cnd_t rfl (k _ h1))
theorem dcopy_none {x : Value} (hp : DP H x true) (h : Ow B w H) (k : ∀ w', Ow B w' H → K (.pointer none) w') : callW PG N.digest_Digest_Copy [x] K PK w := by
  refine digest_Digest_Copy.ok ?_
  unfold digest_Digest_Copy.C
  exact dnone_spec hp h (fun w1 h1 => cnd_t rfl (k _ h1))
theorem DigestNone.law {v0 v1 v2 : Value} (g0 : FitV PG H T.t_uint64 v0) (g1 : FitV PG H T.t_sl_uint8 v1) (g2 : FitV PG H T.t_bool v2) (h : Ow B w H) (k : ∀ w', Ow B w' H → K (vB true) w') : callW PG N.linesmanlaw02_DigestNone [v0, v1, v2] K PK w := by
  obtain ⟨n, rfl, hn⟩ := u64_of g0
  obtain ⟨l, hl, hlm, hb⟩ := bytes_of g1
  obtain ⟨z, rfl⟩ := g2.bool und_bool
  clear g0 g1 g2
  refine linesmanlaw02_DigestNone.ok ?_
  unfold linesmanlaw02_DigestNone.C
  refine sl_ln hl ?_
  rw [List.length_map]
  repeat (first | refine pu_not ?_ | refine pu_eql ?_ | refine pu_neq ?_ | refine pu_lss ?_ | refine pu_leq ?_ | refine pu_gtr ?_ | refine pu_geq ?_ | refine pu_add ?_ | refine pu_sub ?_ | refine pu_mul ?_ | refine pu_neg ?_ | refine fa_at ?_ | refine nl_ptr ?_ | refine ex20 ?_ | refine ex21 ?_ | refine ex30 ?_ | refine ex31 ?_ | refine ex32 ?_ | refine ln_rule ?_ | refine lnT_rule ?_ | refine pu_and ?_ | refine pu_or ?_ | refine pu_xor ?_ | refine pu_seq ?_ | refine pu_sne ?_)
  refine cnd (fun _ => dworks_spec h k) (fun hle => ?_)
  refine cnd (fun _ => ?_) (fun _ => ?_)
  · refine pu_build (List.replicate 256 (v64 0) ++ [v64 0, vI 0, vB false]) (by kernel_rfl) ?_
    refine al_rule h (l := List.replicate 256 (v64 0) ++ [v64 0, vI 0, vB false]) rfl (fun b w1 hA => ?_)
    have hp : ∀ q, DP (q :: (b, cel (List.replicate 256 (v64 0) ++ [v64 0, vI 0, vB false]) T.t_digest_Digest) :: H) (ptr b) true := fun q => .at (made := false) (.tail _ (.head _)) (by rw [List.getElem?_append_right (by rw [List.length_replicate]; omega), List.length_replicate]; rfl)
    refine bs_rule hA [v1] (bsw1 hl) (fun b2 w2 h2 => ?_)
    refine dwrite_none (hp _) h2 (fun w3 h3 => ?_)
    refine dnum_spec ?_
    repeat (first | refine pu_not ?_ | refine pu_eql ?_ | refine pu_neq ?_ | refine pu_lss ?_ | refine pu_leq ?_ | refine pu_gtr ?_ | refine pu_geq ?_ | refine pu_add ?_ | refine pu_sub ?_ | refine pu_mul ?_ | refine pu_neg ?_ | refine fa_at ?_ | refine nl_ptr ?_ | refine ex20 ?_ | refine ex21 ?_ | refine ex30 ?_ | refine ex31 ?_ | refine ex32 ?_ | refine ln_rule ?_ | refine lnT_rule ?_ | refine pu_and ?_ | refine pu_or ?_ | refine pu_xor ?_ | refine pu_seq ?_ | refine pu_sne ?_)
    refine cnd_t rfl ?_
    refine dnumber_none (hp _) h3 (fun w4 h4 => ?_)
    refine dnum_spec ?_
    repeat (first | refine pu_not ?_ | refine pu_eql ?_ | refine pu_neq ?_ | refine pu_lss ?_ | refine pu_leq ?_ | refine pu_gtr ?_ | refine pu_geq ?_ | refine pu_add ?_ | refine pu_sub ?_ | refine pu_mul ?_ | refine pu_neg ?_ | refine fa_at ?_ | refine nl_ptr ?_ | refine ex20 ?_ | refine ex21 ?_ | refine ex30 ?_ | refine ex31 ?_ | refine ex32 ?_ | refine ln_rule ?_ | refine lnT_rule ?_ | refine pu_and ?_ | refine pu_or ?_ | refine pu_xor ?_ | refine pu_seq ?_ | refine pu_sne ?_)
    refine cnd_t rfl ?_
    refine dsum_none (hp _) h4 (fun w5 h5 => ?_)
    repeat (first | refine pu_not ?_ | refine pu_eql ?_ | refine pu_neq ?_ | refine pu_lss ?_ | refine pu_leq ?_ | refine pu_gtr ?_ | refine pu_geq ?_ | refine pu_add ?_ | refine pu_sub ?_ | refine pu_mul ?_ | refine pu_neg ?_ | refine fa_at ?_ | refine nl_ptr ?_ | refine ex20 ?_ | refine ex21 ?_ | refine ex30 ?_ | refine ex31 ?_ | refine ex32 ?_ | refine ln_rule ?_ | refine lnT_rule ?_ | refine pu_and ?_ | refine pu_or ?_ | refine pu_xor ?_ | refine pu_seq ?_ | refine pu_sne ?_)
    refine cnd_t rfl ?_
    refine dlen_none (hp _) h5 (fun w6 h6 => ?_)
    repeat (first | refine pu_not ?_ | refine pu_eql ?_ | refine pu_neq ?_ | refine pu_lss ?_ | refine pu_leq ?_ | refine pu_gtr ?_ | refine pu_geq ?_ | refine pu_add ?_ | refine pu_sub ?_ | refine pu_mul ?_ | refine pu_neg ?_ | refine fa_at ?_ | refine nl_ptr ?_ | refine ex20 ?_ | refine ex21 ?_ | refine ex30 ?_ | refine ex31 ?_ | refine ex32 ?_ | refine ln_rule ?_ | refine lnT_rule ?_ | refine pu_and ?_ | refine pu_or ?_ | refine pu_xor ?_ | refine pu_seq ?_ | refine pu_sne ?_)
    refine cnd_t rfl ?_
    refine dcopy_none (hp _) h6 (fun w7 h7 => ?_)
    refine pu_pnil und_dp ?_
    refine cnd_t rfl ?_
    exact dworks_spec h7.drop.drop k
  · have hA := h
    have hp : ∀ q, DP (q :: H) (.pointer none) true := fun q => .nil
    refine bs_rule hA [v1] (bsw1 hl) (fun b2 w2 h2 => ?_)
    refine dwrite_none (hp _) h2 (fun w3 h3 => ?_)
    refine dnum_spec ?_
    repeat (first | refine pu_not ?_ | refine pu_eql ?_ | refine pu_neq ?_ | refine pu_lss ?_ | refine pu_leq ?_ | refine pu_gtr ?_ | refine pu_geq ?_ | refine pu_add ?_ | refine pu_sub ?_ | refine pu_mul ?_ | refine pu_neg ?_ | refine fa_at ?_ | refine nl_ptr ?_ | refine ex20 ?_ | refine ex21 ?_ | refine ex30 ?_ | refine ex31 ?_ | refine ex32 ?_ | refine ln_rule ?_ | refine lnT_rule ?_ | refine pu_and ?_ | refine pu_or ?_ | refine pu_xor ?_ | refine pu_seq ?_ | refine pu_sne ?_)
    refine cnd_t rfl ?_
    refine dnumber_none (hp _) h3 (fun w4 h4 => ?_)
    refine dnum_spec ?_
    repeat (first | refine pu_not ?_ | refine pu_eql ?_ | refine pu_neq ?_ | refine pu_lss ?_ | refine pu_leq ?_ | refine pu_gtr ?_ | refine pu_geq ?_ | refine pu_add ?_ | refine pu_sub ?_ | refine pu_mul ?_ | refine pu_neg ?_ | refine fa_at ?_ | refine nl_ptr ?_ | refine ex20 ?_ | refine ex21 ?_ | refine ex30 ?_ | refine ex31 ?_ | refine ex32 ?_ | refine ln_rule ?_ | refine lnT_rule ?_ | refine pu_and ?_ | refine pu_or ?_ | refine pu_xor ?_ | refine pu_seq ?_ | refine pu_sne ?_)
    refine cnd_t rfl ?_
    refine dsum_none (hp _) h4 (fun w5 h5 => ?_)
    repeat (first | refine pu_not ?_ | refine pu_eql ?_ | refine pu_neq ?_ | refine pu_lss ?_ | refine pu_leq ?_ | refine pu_gtr ?_ | refine pu_geq ?_ | refine pu_add ?_ | refine pu_sub ?_ | refine pu_mul ?_ | refine pu_neg ?_ | refine fa_at ?_ | refine nl_ptr ?_ | refine ex20 ?_ | refine ex21 ?_ | refine ex30 ?_ | refine ex31 ?_ | refine ex32 ?_ | refine ln_rule ?_ | refine lnT_rule ?_ | refine pu_and ?_ | refine pu_or ?_ | refine pu_xor ?_ | refine pu_seq ?_ | refine pu_sne ?_)
    refine cnd_t rfl ?_
    refine dlen_none (hp _) h5 (fun w6 h6 => ?_)
    repeat (first | refine pu_not ?_ | refine pu_eql ?_ | refine pu_neq ?_ | refine pu_lss ?_ | refine pu_leq ?_ | refine pu_gtr ?_ | refine pu_geq ?_ | refine pu_add ?_ | refine pu_sub ?_ | refine pu_mul ?_ | refine pu_neg ?_ | refine fa_at ?_ | refine nl_ptr ?_ | refine ex20 ?_ | refine ex21 ?_ | refine ex30 ?_ | refine ex31 ?_ | refine ex32 ?_ | refine ln_rule ?_ | refine lnT_rule ?_ | refine pu_and ?_ | refine pu_or ?_ | refine pu_xor ?_ | refine pu_seq ?_ | refine pu_sne ?_)
    refine cnd_t rfl ?_
    refine dcopy_none (hp _) h6 (fun w7 h7 => ?_)
    refine pu_pnil und_dp ?_
    refine cnd_t rfl ?_
    exact dworks_spec h7.drop k
end
end Go.Proofs.Ytplobehejancpaa
