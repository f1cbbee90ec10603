/- The laws OctetFixed, OctetNumbers, OctetTexts, OctetHolds: their walks. -/
import Derived.Test.YtplobehejancpaaVoD
set_option linter.unusedVariables false
set_option linter.unusedSimpArgs false
namespace Go.Proofs.Ytplobehejancpaa
open Go Go.RowKit Vc Oc
attribute [local irreducible] binV Op.unary convert nlW faW ldS ldW ixS ixA ixV ixT exW lnS lnT pu stW alW opW opU bsW mkW

section
variable {B w : World} {H : Hp} {K : Value → World → Prop} {PK : List PanicEntry → World → Prop}
theorem u64_of {v : Value} (g : FitV PG H T.t_uint64 v) : ∃ n : Nat, v = v64 n ∧ n < 18446744073709551616 := by
  obtain ⟨n, rfl, hw⟩ := g.int und_u64
  have := wf_u64 hw
  refine ⟨n.toNat, ?_, by omega⟩
  rw [v64, Int.toNat_of_nonneg this.1]
theorem bytes_of {v : Value} (g : FitV PG H T.t_sl_uint8 v) : ∃ l : List Nat, Sl H v (bv l) ∧ l.length ≤ maxLen ∧ Byt l := g.bytes und_slb und_u8 (by kernel_rfl)
theorem sneF {x y : ByteArray} (h : x = y) : (!(x.toList == y.toList)) = false := by subst h; simp
theorem seqT' {x y : ByteArray} (h : x = y) : (x.toList == y.toList) = true := by subst h; simp
theorem fxR_cases (n : Nat) (x : Int) : (fxR n x).2 ≠ 0 ∨ ∃ W : Nat, x = W ∧ W ≤ 8 ∧ right x = true ∧ n < 256 ^ W ∧ fxR n x = (fx n W, 0) := by
  unfold fxR
  by_cases hr : right x = false
  · rw [if_pos hr]; exact .inl (by simp)
  · have hr : right x = true := by simpa using hr
    rw [if_neg (by rw [hr]; simp)]
    by_cases hn : n < 256 ^ x.toNat
    · rw [if_pos hn]
      refine .inr ⟨x.toNat, ?_, ?_, hr, hn, rfl⟩
      · rcases right_cases hr with rfl | rfl | rfl | rfl <;> rfl
      · rcases right_cases hr with rfl | rfl | rfl | rfl <;> decide
    · rw [if_neg hn]; exact .inl (by simp)
theorem bv_app (a b : List Nat) : bv a ++ bv b = bv (a ++ b) := by simp [bv]
/-- Two appends onto a new slice. -/
theorem app2 {KW : Value → World → Prop} {u v : Value} {a b : List Nat} {X Y : Hp} (h : Ow B w H) (hu : Sl X u (bv a)) (hX : ∀ x, x ∈ X → x ∈ H) (hv : Sl Y v (bv b)) (hY : ∀ x, x ∈ Y → x ∈ H) (ha : a.length < 1000000) (hb : b.length < 1000000)
    (k : ∀ S z w', Ow B w' (S ++ H) → Vc.Own S T.t_uint8 1 z (a ++ b).length (bv (a ++ b)) → KW z w') :
    bsW T.t_uint8 0 (bsC PG T.t_uint8 0 []) (fun p w => opW PG (Builtin.append_ #[T.t_sl_uint8, T.t_sl_uint8] T.t_sl_uint8 #[p, u]) (fun q w => opW PG (Builtin.append_ #[T.t_sl_uint8, T.t_sl_uint8] T.t_sl_uint8 #[q, v]) KW w) w) w := by
  refine bs_rule h [] (by kernel_rfl) (fun b1 w1 h1 => ?_)
  refine app1 (A := []) (S := [(b1, cel [] T.t_uint8)]) (z := v8 0) (bytes := 1) h1 (Own.mk (n := 0) (cap := 0) (xs := []) (Nat.le_refl _) (Nat.zero_le _) rfl rfl) hu (fun y hy => .tail _ (hX y hy)) (by simp [plainV]) und_slb info_u8 rfl (by simp [maxLen]; omega) (by simp; omega) (fun S p w2 h2 ho => ?_)
  refine app1 (A := []) (z := v8 0) (bytes := 1) h2 ho hv (fun y hy => List.mem_append_right _ (hY y hy)) (by simp [plainV]) und_slb info_u8 rfl (by simp [maxLen]; omega) (by simp; omega) (fun S' q w3 h3 ho' => ?_)
  refine k S' q w3 h3 ?_
  simpa using ho'

theorem OctetFixed.law {v0 v1 v2 : Value} (g0 : FitV PG H T.t_uint64 v0) (g1 : FitV PG H T.t_int v1) (g2 : FitV PG H T.t_sl_uint8 v2) (h : Ow B w H) (k : ∀ w', Ow B w' H → K (vB true) w') : callW PG N.linesmanlaw01_OctetFixed [v0, v1, v2] K PK w := by
  obtain ⟨n, rfl, hn⟩ := u64_of g0
  obtain ⟨x, rfl, _⟩ := g1.int und_int
  obtain ⟨l, hl, hlm, hb⟩ := bytes_of g2
  clear g0 g1 g2
  refine linesmanlaw01_OctetFixed.ok ?_
  unfold linesmanlaw01_OctetFixed.C
  refine sl_ln hl ?_
  rw [List.length_map]
  repeat (first | refine pu_not ?_ | refine pu_eql ?_ | refine pu_neq ?_ | refine pu_lss ?_ | refine pu_leq ?_ | refine pu_gtr ?_ | refine pu_geq ?_ | refine pu_add ?_ | refine pu_sub ?_ | refine pu_mul ?_ | refine pu_neg ?_ | refine fa_at ?_ | refine nl_ptr ?_ | refine ex20 ?_ | refine ex21 ?_ | refine ex30 ?_ | refine ex31 ?_ | refine ex32 ?_ | refine ln_rule ?_ | refine lnT_rule ?_ | refine pu_and ?_ | refine pu_or ?_ | refine pu_xor ?_ | refine pu_seq ?_ | refine pu_sne ?_)
  refine cnd (fun _ => oworks_spec h k) (fun hle => ?_)
  have hle : l.length ≤ 200 := by simp at hle; omega
  refine fixed_spec h hn (fun S a w1 h1 ho => ?_)
  repeat (first | refine pu_not ?_ | refine pu_eql ?_ | refine pu_neq ?_ | refine pu_lss ?_ | refine pu_leq ?_ | refine pu_gtr ?_ | refine pu_geq ?_ | refine pu_add ?_ | refine pu_sub ?_ | refine pu_mul ?_ | refine pu_neg ?_ | refine fa_at ?_ | refine nl_ptr ?_ | refine ex20 ?_ | refine ex21 ?_ | refine ex30 ?_ | refine ex31 ?_ | refine ex32 ?_ | refine ln_rule ?_ | refine lnT_rule ?_ | refine pu_and ?_ | refine pu_or ?_ | refine pu_xor ?_ | refine pu_seq ?_ | refine pu_sne ?_)
  refine rfixed_spec h1 hn (fun S2 a2 w2 h2 ho2 => ?_)
  repeat (first | refine pu_not ?_ | refine pu_eql ?_ | refine pu_neq ?_ | refine pu_lss ?_ | refine pu_leq ?_ | refine pu_gtr ?_ | refine pu_geq ?_ | refine pu_add ?_ | refine pu_sub ?_ | refine pu_mul ?_ | refine pu_neg ?_ | refine fa_at ?_ | refine nl_ptr ?_ | refine ex20 ?_ | refine ex21 ?_ | refine ex30 ?_ | refine ex31 ?_ | refine ex32 ?_ | refine ln_rule ?_ | refine lnT_rule ?_ | refine pu_and ?_ | refine pu_or ?_ | refine pu_xor ?_ | refine pu_seq ?_ | refine pu_sne ?_)
  have hl2 : Sl (S2 ++ (S ++ H)) v2 (bv l) := hl.mono fun x hx => List.mem_append_right _ (List.mem_append_right _ hx)
  refine readFixed_spec h2 hl2 hb (by omega) (fun w3 h3 => ?_)
  repeat (first | refine pu_not ?_ | refine pu_eql ?_ | refine pu_neq ?_ | refine pu_lss ?_ | refine pu_leq ?_ | refine pu_gtr ?_ | refine pu_geq ?_ | refine pu_add ?_ | refine pu_sub ?_ | refine pu_mul ?_ | refine pu_neg ?_ | refine fa_at ?_ | refine nl_ptr ?_ | refine ex20 ?_ | refine ex21 ?_ | refine ex30 ?_ | refine ex31 ?_ | refine ex32 ?_ | refine ln_rule ?_ | refine lnT_rule ?_ | refine pu_and ?_ | refine pu_or ?_ | refine pu_xor ?_ | refine pu_seq ?_ | refine pu_sne ?_)
  refine rreadFixed_spec h3 hl2 hb (by omega) (fun w4 h4 => ?_)
  repeat (first | refine pu_not ?_ | refine pu_eql ?_ | refine pu_neq ?_ | refine pu_lss ?_ | refine pu_leq ?_ | refine pu_gtr ?_ | refine pu_geq ?_ | refine pu_add ?_ | refine pu_sub ?_ | refine pu_mul ?_ | refine pu_neg ?_ | refine fa_at ?_ | refine nl_ptr ?_ | refine ex20 ?_ | refine ex21 ?_ | refine ex30 ?_ | refine ex31 ?_ | refine ex32 ?_ | refine ln_rule ?_ | refine lnT_rule ?_ | refine pu_and ?_ | refine pu_or ?_ | refine pu_xor ?_ | refine pu_seq ?_ | refine pu_sne ?_)
  refine strOf h4 (ho.sl.mono fun x hx => List.mem_append_right _ (List.mem_append_left _ hx)) ?_
  refine strOf h4 (ho2.sl.mono fun x hx => List.mem_append_left _ hx) ?_
  repeat (first | refine pu_not ?_ | refine pu_eql ?_ | refine pu_neq ?_ | refine pu_lss ?_ | refine pu_leq ?_ | refine pu_gtr ?_ | refine pu_geq ?_ | refine pu_add ?_ | refine pu_sub ?_ | refine pu_mul ?_ | refine pu_neg ?_ | refine fa_at ?_ | refine nl_ptr ?_ | refine ex20 ?_ | refine ex21 ?_ | refine ex30 ?_ | refine ex31 ?_ | refine ex32 ?_ | refine ln_rule ?_ | refine lnT_rule ?_ | refine pu_and ?_ | refine pu_or ?_ | refine pu_xor ?_ | refine pu_seq ?_ | refine pu_sne ?_)
  refine cnd_f (sneF rfl) ?_
  refine onum_spec ?_
  repeat (first | refine pu_not ?_ | refine pu_eql ?_ | refine pu_neq ?_ | refine pu_lss ?_ | refine pu_leq ?_ | refine pu_gtr ?_ | refine pu_geq ?_ | refine pu_add ?_ | refine pu_sub ?_ | refine pu_mul ?_ | refine pu_neg ?_ | refine fa_at ?_ | refine nl_ptr ?_ | refine ex20 ?_ | refine ex21 ?_ | refine ex30 ?_ | refine ex31 ?_ | refine ex32 ?_ | refine ln_rule ?_ | refine lnT_rule ?_ | refine pu_and ?_ | refine pu_or ?_ | refine pu_xor ?_ | refine pu_seq ?_ | refine pu_sne ?_)
  refine cnd_f (by simp) ?_
  repeat (first | refine pu_not ?_ | refine pu_eql ?_ | refine pu_neq ?_ | refine pu_lss ?_ | refine pu_leq ?_ | refine pu_gtr ?_ | refine pu_geq ?_ | refine pu_add ?_ | refine pu_sub ?_ | refine pu_mul ?_ | refine pu_neg ?_ | refine fa_at ?_ | refine nl_ptr ?_ | refine ex20 ?_ | refine ex21 ?_ | refine ex30 ?_ | refine ex31 ?_ | refine ex32 ?_ | refine ln_rule ?_ | refine lnT_rule ?_ | refine pu_and ?_ | refine pu_or ?_ | refine pu_xor ?_ | refine pu_seq ?_ | refine pu_sne ?_)
  refine cnd_f (by simp) ?_
  refine onum_spec ?_
  repeat (first | refine pu_not ?_ | refine pu_eql ?_ | refine pu_neq ?_ | refine pu_lss ?_ | refine pu_leq ?_ | refine pu_gtr ?_ | refine pu_geq ?_ | refine pu_add ?_ | refine pu_sub ?_ | refine pu_mul ?_ | refine pu_neg ?_ | refine fa_at ?_ | refine nl_ptr ?_ | refine ex20 ?_ | refine ex21 ?_ | refine ex30 ?_ | refine ex31 ?_ | refine ex32 ?_ | refine ln_rule ?_ | refine lnT_rule ?_ | refine pu_and ?_ | refine pu_or ?_ | refine pu_xor ?_ | refine pu_seq ?_ | refine pu_sne ?_)
  refine cnd_f (by simp) ?_
  repeat (first | refine pu_not ?_ | refine pu_eql ?_ | refine pu_neq ?_ | refine pu_lss ?_ | refine pu_leq ?_ | refine pu_gtr ?_ | refine pu_geq ?_ | refine pu_add ?_ | refine pu_sub ?_ | refine pu_mul ?_ | refine pu_neg ?_ | refine fa_at ?_ | refine nl_ptr ?_ | refine ex20 ?_ | refine ex21 ?_ | refine ex30 ?_ | refine ex31 ?_ | refine ex32 ?_ | refine ln_rule ?_ | refine lnT_rule ?_ | refine pu_and ?_ | refine pu_or ?_ | refine pu_xor ?_ | refine pu_seq ?_ | refine pu_sne ?_)
  have h5 := h4.sub (List.sublist_append_right _ _)
  rcases fxR_cases n x with hbad | ⟨W, rfl, hW, hr, hnW, he⟩
  · refine cnd_t (by simpa using hbad) ?_
    exact oworks_spec h5 (fun w' h' => k w' (h'.sub (List.sublist_append_right _ _)))
  · rw [he] at ho ⊢
    refine cnd_f rfl ?_
    refine app2 h5 ho.sl (fun x hx => List.mem_append_left _ hx) hl (fun x hx => List.mem_append_right _ hx) (by rw [fx_len]; omega) (by omega) (fun S3 z w6 h6 ho6 => ?_)
    refine readFixed_spec (l := fx n W ++ l) h6 (ho6.sl.mono fun x hx => List.mem_append_left _ hx) ((fx_byt n W).app hb) (by simp [fx_len]; omega) (fun w7 h7 => ?_)
    have e : rfR (fx n W ++ l) W = (n, 0) := by
      unfold rfR
      rw [if_neg (by rw [hr]; simp), Int.toNat_natCast, if_neg (by simp [fx_len]), List.take_left' (fx_len n W), val_fx W n hnW]
    rw [e]
    repeat (first | refine pu_not ?_ | refine pu_eql ?_ | refine pu_neq ?_ | refine pu_lss ?_ | refine pu_leq ?_ | refine pu_gtr ?_ | refine pu_geq ?_ | refine pu_add ?_ | refine pu_sub ?_ | refine pu_mul ?_ | refine pu_neg ?_ | refine fa_at ?_ | refine nl_ptr ?_ | refine ex20 ?_ | refine ex21 ?_ | refine ex30 ?_ | refine ex31 ?_ | refine ex32 ?_ | refine ln_rule ?_ | refine lnT_rule ?_ | refine pu_and ?_ | refine pu_or ?_ | refine pu_xor ?_ | refine pu_seq ?_ | refine pu_sne ?_)
    refine cnd_t (by simp) ?_
    refine onum_spec ?_
    repeat (first | refine pu_not ?_ | refine pu_eql ?_ | refine pu_neq ?_ | refine pu_lss ?_ | refine pu_leq ?_ | refine pu_gtr ?_ | refine pu_geq ?_ | refine pu_add ?_ | refine pu_sub ?_ | refine pu_mul ?_ | refine pu_neg ?_ | refine fa_at ?_ | refine nl_ptr ?_ | refine ex20 ?_ | refine ex21 ?_ | refine ex30 ?_ | refine ex31 ?_ | refine ex32 ?_ | refine ln_rule ?_ | refine lnT_rule ?_ | refine pu_and ?_ | refine pu_or ?_ | refine pu_xor ?_ | refine pu_seq ?_ | refine pu_sne ?_)
    refine cnd_t rfl ?_
    exact oworks_spec (h7.sub (List.sublist_append_right _ _)) (fun w' h' => k w' (h'.sub (List.sublist_append_right _ _)))

theorem OctetNumbers.law {v0 v1 : Value} (g0 : FitV PG H T.t_uint64 v0) (g1 : FitV PG H T.t_sl_uint8 v1) (h : Ow B w H) (k : ∀ w', Ow B w' H → K (vB true) w') : callW PG N.linesmanlaw01_OctetNumbers [v0, v1] K PK w := by
  obtain ⟨n, rfl, hn⟩ := u64_of g0
  obtain ⟨l, hl, hlm, hb⟩ := bytes_of g1
  clear g0 g1
  refine linesmanlaw01_OctetNumbers.ok ?_
  unfold linesmanlaw01_OctetNumbers.C
  refine sl_ln hl ?_
  rw [List.length_map]
  repeat (first | refine pu_not ?_ | refine pu_eql ?_ | refine pu_neq ?_ | refine pu_lss ?_ | refine pu_leq ?_ | refine pu_gtr ?_ | refine pu_geq ?_ | refine pu_add ?_ | refine pu_sub ?_ | refine pu_mul ?_ | refine pu_neg ?_ | refine fa_at ?_ | refine nl_ptr ?_ | refine ex20 ?_ | refine ex21 ?_ | refine ex30 ?_ | refine ex31 ?_ | refine ex32 ?_ | refine ln_rule ?_ | refine lnT_rule ?_ | refine pu_and ?_ | refine pu_or ?_ | refine pu_xor ?_ | refine pu_seq ?_ | refine pu_sne ?_)
  refine cnd (fun _ => oworks_spec h k) (fun hle => ?_)
  have hle : l.length ≤ 200 := by simp at hle; omega
  have hnl := nb_len 9 n (by have : (128 : Nat) ^ (9 + 1) = 1180591620717411303424 := by decide
                             omega)
  refine number_spec h hn (fun S a w1 h1 ho => ?_)
  refine app2 h1 ho.sl (fun x hx => List.mem_append_left _ hx) hl (fun x hx => List.mem_append_right _ hx) (by omega) (by omega) (fun S2 z w2 h2 ho2 => ?_)
  refine readNumber_spec (l := nb n ++ l) h2 (ho2.sl.mono fun x hx => List.mem_append_left _ hx) ((nb_byt n).app hb) (by simp; omega) (fun w3 h3 => ?_)
  rw [rn_of_nb hn]
  have h3 := h3.sub (List.sublist_append_right _ _)
  repeat (first | refine pu_not ?_ | refine pu_eql ?_ | refine pu_neq ?_ | refine pu_lss ?_ | refine pu_leq ?_ | refine pu_gtr ?_ | refine pu_geq ?_ | refine pu_add ?_ | refine pu_sub ?_ | refine pu_mul ?_ | refine pu_neg ?_ | refine fa_at ?_ | refine nl_ptr ?_ | refine ex20 ?_ | refine ex21 ?_ | refine ex30 ?_ | refine ex31 ?_ | refine ex32 ?_ | refine ln_rule ?_ | refine lnT_rule ?_ | refine pu_and ?_ | refine pu_or ?_ | refine pu_xor ?_ | refine pu_seq ?_ | refine pu_sne ?_)
  have hl2 : Sl (S ++ H) v1 (bv l) := hl.mono fun x hx => List.mem_append_right _ hx
  refine readNumber_spec h3 hl2 hb (by omega) (fun w4 h4 => ?_)
  repeat (first | refine pu_not ?_ | refine pu_eql ?_ | refine pu_neq ?_ | refine pu_lss ?_ | refine pu_leq ?_ | refine pu_gtr ?_ | refine pu_geq ?_ | refine pu_add ?_ | refine pu_sub ?_ | refine pu_mul ?_ | refine pu_neg ?_ | refine fa_at ?_ | refine nl_ptr ?_ | refine ex20 ?_ | refine ex21 ?_ | refine ex30 ?_ | refine ex31 ?_ | refine ex32 ?_ | refine ln_rule ?_ | refine lnT_rule ?_ | refine pu_and ?_ | refine pu_or ?_ | refine pu_xor ?_ | refine pu_seq ?_ | refine pu_sne ?_)
  refine rreadNumber_spec h4 hl2 hb (by omega) (fun w5 h5 => ?_)
  repeat (first | refine pu_not ?_ | refine pu_eql ?_ | refine pu_neq ?_ | refine pu_lss ?_ | refine pu_leq ?_ | refine pu_gtr ?_ | refine pu_geq ?_ | refine pu_add ?_ | refine pu_sub ?_ | refine pu_mul ?_ | refine pu_neg ?_ | refine fa_at ?_ | refine nl_ptr ?_ | refine ex20 ?_ | refine ex21 ?_ | refine ex30 ?_ | refine ex31 ?_ | refine ex32 ?_ | refine ln_rule ?_ | refine lnT_rule ?_ | refine pu_and ?_ | refine pu_or ?_ | refine pu_xor ?_ | refine pu_seq ?_ | refine pu_sne ?_)
  obtain ⟨hr1, hr2, hr3⟩ := rn_zero l hb
  generalize hrn : rn l 0 0 = r at *
  obtain ⟨y, m, bad⟩ := r
  dsimp only at *
  have h5 := h5.drew
  refine ⟨?_, ?_⟩
  · refine strOf h5 (ho.sl.mono fun x hx => List.mem_append_left _ hx) ?_
    refine rnumber_spec n h5 hn (fun S7 a7 w7 h7 ho7 => ?_)
    refine strOf h7 (ho7.sl.mono fun x hx => List.mem_append_left _ hx) ?_
    repeat (first | refine pu_not ?_ | refine pu_eql ?_ | refine pu_neq ?_ | refine pu_lss ?_ | refine pu_leq ?_ | refine pu_gtr ?_ | refine pu_geq ?_ | refine pu_add ?_ | refine pu_sub ?_ | refine pu_mul ?_ | refine pu_neg ?_ | refine fa_at ?_ | refine nl_ptr ?_ | refine ex20 ?_ | refine ex21 ?_ | refine ex30 ?_ | refine ex31 ?_ | refine ex32 ?_ | refine ln_rule ?_ | refine lnT_rule ?_ | refine pu_and ?_ | refine pu_or ?_ | refine pu_xor ?_ | refine pu_seq ?_ | refine pu_sne ?_)
    refine cnd_f (sneF rfl) ?_
    repeat (first | refine pu_not ?_ | refine pu_eql ?_ | refine pu_neq ?_ | refine pu_lss ?_ | refine pu_leq ?_ | refine pu_gtr ?_ | refine pu_geq ?_ | refine pu_add ?_ | refine pu_sub ?_ | refine pu_mul ?_ | refine pu_neg ?_ | refine fa_at ?_ | refine nl_ptr ?_ | refine ex20 ?_ | refine ex21 ?_ | refine ex30 ?_ | refine ex31 ?_ | refine ex32 ?_ | refine ln_rule ?_ | refine lnT_rule ?_ | refine pu_and ?_ | refine pu_or ?_ | refine pu_xor ?_ | refine pu_seq ?_ | refine pu_sne ?_)
    refine cnd_f (by simp) ?_
    refine sl_ln ho.sl ?_
    rw [List.length_map]
    repeat (first | refine pu_not ?_ | refine pu_eql ?_ | refine pu_neq ?_ | refine pu_lss ?_ | refine pu_leq ?_ | refine pu_gtr ?_ | refine pu_geq ?_ | refine pu_add ?_ | refine pu_sub ?_ | refine pu_mul ?_ | refine pu_neg ?_ | refine fa_at ?_ | refine nl_ptr ?_ | refine ex20 ?_ | refine ex21 ?_ | refine ex30 ?_ | refine ex31 ?_ | refine ex32 ?_ | refine ln_rule ?_ | refine lnT_rule ?_ | refine pu_and ?_ | refine pu_or ?_ | refine pu_xor ?_ | refine pu_seq ?_ | refine pu_sne ?_)
    refine cnd_f (by simp) ?_
    refine onum_spec ?_
    repeat (first | refine pu_not ?_ | refine pu_eql ?_ | refine pu_neq ?_ | refine pu_lss ?_ | refine pu_leq ?_ | refine pu_gtr ?_ | refine pu_geq ?_ | refine pu_add ?_ | refine pu_sub ?_ | refine pu_mul ?_ | refine pu_neg ?_ | refine fa_at ?_ | refine nl_ptr ?_ | refine ex20 ?_ | refine ex21 ?_ | refine ex30 ?_ | refine ex31 ?_ | refine ex32 ?_ | refine ln_rule ?_ | refine lnT_rule ?_ | refine pu_and ?_ | refine pu_or ?_ | refine pu_xor ?_ | refine pu_seq ?_ | refine pu_sne ?_)
    refine cnd_f rfl ?_
    repeat (first | refine pu_not ?_ | refine pu_eql ?_ | refine pu_neq ?_ | refine pu_lss ?_ | refine pu_leq ?_ | refine pu_gtr ?_ | refine pu_geq ?_ | refine pu_add ?_ | refine pu_sub ?_ | refine pu_mul ?_ | refine pu_neg ?_ | refine fa_at ?_ | refine nl_ptr ?_ | refine ex20 ?_ | refine ex21 ?_ | refine ex30 ?_ | refine ex31 ?_ | refine ex32 ?_ | refine ln_rule ?_ | refine lnT_rule ?_ | refine pu_and ?_ | refine pu_or ?_ | refine pu_xor ?_ | refine pu_seq ?_ | refine pu_sne ?_)
    refine cnd_f (by simp) ?_
    repeat (first | refine pu_not ?_ | refine pu_eql ?_ | refine pu_neq ?_ | refine pu_lss ?_ | refine pu_leq ?_ | refine pu_gtr ?_ | refine pu_geq ?_ | refine pu_add ?_ | refine pu_sub ?_ | refine pu_mul ?_ | refine pu_neg ?_ | refine fa_at ?_ | refine nl_ptr ?_ | refine ex20 ?_ | refine ex21 ?_ | refine ex30 ?_ | refine ex31 ?_ | refine ex32 ?_ | refine ln_rule ?_ | refine lnT_rule ?_ | refine pu_and ?_ | refine pu_or ?_ | refine pu_xor ?_ | refine pu_seq ?_ | refine pu_sne ?_)
    refine cnd_f (by simp) ?_
    refine onum_spec ?_
    repeat (first | refine pu_not ?_ | refine pu_eql ?_ | refine pu_neq ?_ | refine pu_lss ?_ | refine pu_leq ?_ | refine pu_gtr ?_ | refine pu_geq ?_ | refine pu_add ?_ | refine pu_sub ?_ | refine pu_mul ?_ | refine pu_neg ?_ | refine fa_at ?_ | refine nl_ptr ?_ | refine ex20 ?_ | refine ex21 ?_ | refine ex30 ?_ | refine ex31 ?_ | refine ex32 ?_ | refine ln_rule ?_ | refine lnT_rule ?_ | refine pu_and ?_ | refine pu_or ?_ | refine pu_xor ?_ | refine pu_seq ?_ | refine pu_sne ?_)
    refine cnd_f (by simp) ?_
    unfold linesmanlaw01_OctetNumbers.k0
    have h8 := (h7.sub (List.sublist_append_right _ _)).drew
    have hk : ∀ w', Ow B w' (S ++ H) → K (vB true) w' := fun w' h' => k w' (h'.sub (List.sublist_append_right _ _))
    repeat (first | refine pu_not ?_ | refine pu_eql ?_ | refine pu_neq ?_ | refine pu_lss ?_ | refine pu_leq ?_ | refine pu_gtr ?_ | refine pu_geq ?_ | refine pu_add ?_ | refine pu_sub ?_ | refine pu_mul ?_ | refine pu_neg ?_ | refine fa_at ?_ | refine nl_ptr ?_ | refine ex20 ?_ | refine ex21 ?_ | refine ex30 ?_ | refine ex31 ?_ | refine ex32 ?_ | refine ln_rule ?_ | refine lnT_rule ?_ | refine pu_and ?_ | refine pu_or ?_ | refine pu_xor ?_ | refine pu_seq ?_ | refine pu_sne ?_)
    refine cnd (fun hbad => ?_) (fun hbad => ?_)
    · exact ⟨⟨oworks_spec h8 hk, oworks_spec h8 hk⟩, oworks_spec h8 hk⟩
    · have hbad : bad = 0 := by simp at hbad; omega
      subst hbad
      have hr3 := hr3 rfl
      refine cutH hl2 (by omega) (by simp; omega) (fun c hc => ?_)
      rw [Int.toNat_natCast]
      have hs2 := sl_cut (l := 0) (h := m) (m := c) hl2 (by omega) (by simp; omega) (by omega)
      rw [List.drop_zero, ← List.map_take, hr3] at hs2
      refine ⟨?_, ?_⟩
      · refine number_spec h8 hr1 (fun S9 a9 w9 h9 ho9 => ?_)
        have hk9 : ∀ w', Ow B w' (S9 ++ (S ++ H)) → K (vB true) w' := fun w' h' => hk w' (h'.sub (List.sublist_append_right _ _))
        have hs9 : Sl (S9 ++ (S ++ H)) _ (bv (nb y)) := hs2.mono fun x hx => List.mem_append_right _ hx
        have ho9' : Sl (S9 ++ (S ++ H)) a9 (bv (nb y)) := ho9.sl.mono fun x hx => List.mem_append_left _ hx
        refine ⟨?_, ?_⟩
        · refine strOf h9 ho9' ?_
          refine strOf h9 hs9 ?_
          repeat (first | refine pu_not ?_ | refine pu_eql ?_ | refine pu_neq ?_ | refine pu_lss ?_ | refine pu_leq ?_ | refine pu_gtr ?_ | refine pu_geq ?_ | refine pu_add ?_ | refine pu_sub ?_ | refine pu_mul ?_ | refine pu_neg ?_ | refine fa_at ?_ | refine nl_ptr ?_ | refine ex20 ?_ | refine ex21 ?_ | refine ex30 ?_ | refine ex31 ?_ | refine ex32 ?_ | refine ln_rule ?_ | refine lnT_rule ?_ | refine pu_and ?_ | refine pu_or ?_ | refine pu_xor ?_ | refine pu_seq ?_ | refine pu_sne ?_)
          refine cnd_t seqT ?_
          exact oworks_spec h9 hk9
        · refine strOf h9 hs9 ?_
          refine strOf h9 ho9' ?_
          repeat (first | refine pu_not ?_ | refine pu_eql ?_ | refine pu_neq ?_ | refine pu_lss ?_ | refine pu_leq ?_ | refine pu_gtr ?_ | refine pu_geq ?_ | refine pu_add ?_ | refine pu_sub ?_ | refine pu_mul ?_ | refine pu_neg ?_ | refine fa_at ?_ | refine nl_ptr ?_ | refine ex20 ?_ | refine ex21 ?_ | refine ex30 ?_ | refine ex31 ?_ | refine ex32 ?_ | refine ln_rule ?_ | refine lnT_rule ?_ | refine pu_and ?_ | refine pu_or ?_ | refine pu_xor ?_ | refine pu_seq ?_ | refine pu_sne ?_)
          refine cnd_t seqT ?_
          exact oworks_spec h9 hk9
      · refine strOf h8 hs2 ?_
        refine number_spec h8 hr1 (fun S9 a9 w9 h9 ho9 => ?_)
        have hk9 : ∀ w', Ow B w' (S9 ++ (S ++ H)) → K (vB true) w' := fun w' h' => hk w' (h'.sub (List.sublist_append_right _ _))
        have ho9' : Sl (S9 ++ (S ++ H)) a9 (bv (nb y)) := ho9.sl.mono fun x hx => List.mem_append_left _ hx
        refine strOf h9 ho9' ?_
        repeat (first | refine pu_not ?_ | refine pu_eql ?_ | refine pu_neq ?_ | refine pu_lss ?_ | refine pu_leq ?_ | refine pu_gtr ?_ | refine pu_geq ?_ | refine pu_add ?_ | refine pu_sub ?_ | refine pu_mul ?_ | refine pu_neg ?_ | refine fa_at ?_ | refine nl_ptr ?_ | refine ex20 ?_ | refine ex21 ?_ | refine ex30 ?_ | refine ex31 ?_ | refine ex32 ?_ | refine ln_rule ?_ | refine lnT_rule ?_ | refine pu_and ?_ | refine pu_or ?_ | refine pu_xor ?_ | refine pu_seq ?_ | refine pu_sne ?_)
        refine cnd_t seqT ?_
        exact oworks_spec h9 hk9
  · refine rnumber_spec n h5 hn (fun S7 a7 w7 h7 ho7 => ?_)
    have ho' : Sl (S7 ++ (S ++ H)) a (bv (nb n)) := ho.sl.mono fun x hx => List.mem_append_right _ (List.mem_append_left _ hx)
    have ho7' : Sl (S7 ++ (S ++ H)) a7 (bv (nb n)) := ho7.sl.mono fun x hx => List.mem_append_left _ hx
    refine ⟨?_, ?_⟩
    · refine strOf h7 ho' ?_
      refine strOf h7 ho7' ?_
      repeat (first | refine pu_not ?_ | refine pu_eql ?_ | refine pu_neq ?_ | refine pu_lss ?_ | refine pu_leq ?_ | refine pu_gtr ?_ | refine pu_geq ?_ | refine pu_add ?_ | refine pu_sub ?_ | refine pu_mul ?_ | refine pu_neg ?_ | refine fa_at ?_ | refine nl_ptr ?_ | refine ex20 ?_ | refine ex21 ?_ | refine ex30 ?_ | refine ex31 ?_ | refine ex32 ?_ | refine ln_rule ?_ | refine lnT_rule ?_ | refine pu_and ?_ | refine pu_or ?_ | refine pu_xor ?_ | refine pu_seq ?_ | refine pu_sne ?_)
      refine cnd_f (sneF rfl) ?_
      repeat (first | refine pu_not ?_ | refine pu_eql ?_ | refine pu_neq ?_ | refine pu_lss ?_ | refine pu_leq ?_ | refine pu_gtr ?_ | refine pu_geq ?_ | refine pu_add ?_ | refine pu_sub ?_ | refine pu_mul ?_ | refine pu_neg ?_ | refine fa_at ?_ | refine nl_ptr ?_ | refine ex20 ?_ | refine ex21 ?_ | refine ex30 ?_ | refine ex31 ?_ | refine ex32 ?_ | refine ln_rule ?_ | refine lnT_rule ?_ | refine pu_and ?_ | refine pu_or ?_ | refine pu_xor ?_ | refine pu_seq ?_ | refine pu_sne ?_)
      refine cnd_f (by simp) ?_
      refine sl_ln ho.sl ?_
      rw [List.length_map]
      repeat (first | refine pu_not ?_ | refine pu_eql ?_ | refine pu_neq ?_ | refine pu_lss ?_ | refine pu_leq ?_ | refine pu_gtr ?_ | refine pu_geq ?_ | refine pu_add ?_ | refine pu_sub ?_ | refine pu_mul ?_ | refine pu_neg ?_ | refine fa_at ?_ | refine nl_ptr ?_ | refine ex20 ?_ | refine ex21 ?_ | refine ex30 ?_ | refine ex31 ?_ | refine ex32 ?_ | refine ln_rule ?_ | refine lnT_rule ?_ | refine pu_and ?_ | refine pu_or ?_ | refine pu_xor ?_ | refine pu_seq ?_ | refine pu_sne ?_)
      refine cnd_f (by simp) ?_
      refine onum_spec ?_
      repeat (first | refine pu_not ?_ | refine pu_eql ?_ | refine pu_neq ?_ | refine pu_lss ?_ | refine pu_leq ?_ | refine pu_gtr ?_ | refine pu_geq ?_ | refine pu_add ?_ | refine pu_sub ?_ | refine pu_mul ?_ | refine pu_neg ?_ | refine fa_at ?_ | refine nl_ptr ?_ | refine ex20 ?_ | refine ex21 ?_ | refine ex30 ?_ | refine ex31 ?_ | refine ex32 ?_ | refine ln_rule ?_ | refine lnT_rule ?_ | refine pu_and ?_ | refine pu_or ?_ | refine pu_xor ?_ | refine pu_seq ?_ | refine pu_sne ?_)
      refine cnd_f rfl ?_
      repeat (first | refine pu_not ?_ | refine pu_eql ?_ | refine pu_neq ?_ | refine pu_lss ?_ | refine pu_leq ?_ | refine pu_gtr ?_ | refine pu_geq ?_ | refine pu_add ?_ | refine pu_sub ?_ | refine pu_mul ?_ | refine pu_neg ?_ | refine fa_at ?_ | refine nl_ptr ?_ | refine ex20 ?_ | refine ex21 ?_ | refine ex30 ?_ | refine ex31 ?_ | refine ex32 ?_ | refine ln_rule ?_ | refine lnT_rule ?_ | refine pu_and ?_ | refine pu_or ?_ | refine pu_xor ?_ | refine pu_seq ?_ | refine pu_sne ?_)
      refine cnd_f (by simp) ?_
      repeat (first | refine pu_not ?_ | refine pu_eql ?_ | refine pu_neq ?_ | refine pu_lss ?_ | refine pu_leq ?_ | refine pu_gtr ?_ | refine pu_geq ?_ | refine pu_add ?_ | refine pu_sub ?_ | refine pu_mul ?_ | refine pu_neg ?_ | refine fa_at ?_ | refine nl_ptr ?_ | refine ex20 ?_ | refine ex21 ?_ | refine ex30 ?_ | refine ex31 ?_ | refine ex32 ?_ | refine ln_rule ?_ | refine lnT_rule ?_ | refine pu_and ?_ | refine pu_or ?_ | refine pu_xor ?_ | refine pu_seq ?_ | refine pu_sne ?_)
      refine cnd_f (by simp) ?_
      refine onum_spec ?_
      repeat (first | refine pu_not ?_ | refine pu_eql ?_ | refine pu_neq ?_ | refine pu_lss ?_ | refine pu_leq ?_ | refine pu_gtr ?_ | refine pu_geq ?_ | refine pu_add ?_ | refine pu_sub ?_ | refine pu_mul ?_ | refine pu_neg ?_ | refine fa_at ?_ | refine nl_ptr ?_ | refine ex20 ?_ | refine ex21 ?_ | refine ex30 ?_ | refine ex31 ?_ | refine ex32 ?_ | refine ln_rule ?_ | refine lnT_rule ?_ | refine pu_and ?_ | refine pu_or ?_ | refine pu_xor ?_ | refine pu_seq ?_ | refine pu_sne ?_)
      refine cnd_f (by simp) ?_
      unfold linesmanlaw01_OctetNumbers.k0
      have h8 := (h7.sub (List.sublist_append_right _ _)).drew
      have hk : ∀ w', Ow B w' (S ++ H) → K (vB true) w' := fun w' h' => k w' (h'.sub (List.sublist_append_right _ _))
      repeat (first | refine pu_not ?_ | refine pu_eql ?_ | refine pu_neq ?_ | refine pu_lss ?_ | refine pu_leq ?_ | refine pu_gtr ?_ | refine pu_geq ?_ | refine pu_add ?_ | refine pu_sub ?_ | refine pu_mul ?_ | refine pu_neg ?_ | refine fa_at ?_ | refine nl_ptr ?_ | refine ex20 ?_ | refine ex21 ?_ | refine ex30 ?_ | refine ex31 ?_ | refine ex32 ?_ | refine ln_rule ?_ | refine lnT_rule ?_ | refine pu_and ?_ | refine pu_or ?_ | refine pu_xor ?_ | refine pu_seq ?_ | refine pu_sne ?_)
      refine cnd (fun hbad => ?_) (fun hbad => ?_)
      · exact ⟨⟨oworks_spec h8 hk, oworks_spec h8 hk⟩, oworks_spec h8 hk⟩
      · have hbad : bad = 0 := by simp at hbad; omega
        subst hbad
        have hr3 := hr3 rfl
        refine cutH hl2 (by omega) (by simp; omega) (fun c hc => ?_)
        rw [Int.toNat_natCast]
        have hs2 := sl_cut (l := 0) (h := m) (m := c) hl2 (by omega) (by simp; omega) (by omega)
        rw [List.drop_zero, ← List.map_take, hr3] at hs2
        refine ⟨?_, ?_⟩
        · refine number_spec h8 hr1 (fun S9 a9 w9 h9 ho9 => ?_)
          have hk9 : ∀ w', Ow B w' (S9 ++ (S ++ H)) → K (vB true) w' := fun w' h' => hk w' (h'.sub (List.sublist_append_right _ _))
          have hs9 : Sl (S9 ++ (S ++ H)) _ (bv (nb y)) := hs2.mono fun x hx => List.mem_append_right _ hx
          have ho9' : Sl (S9 ++ (S ++ H)) a9 (bv (nb y)) := ho9.sl.mono fun x hx => List.mem_append_left _ hx
          refine ⟨?_, ?_⟩
          · refine strOf h9 ho9' ?_
            refine strOf h9 hs9 ?_
            repeat (first | refine pu_not ?_ | refine pu_eql ?_ | refine pu_neq ?_ | refine pu_lss ?_ | refine pu_leq ?_ | refine pu_gtr ?_ | refine pu_geq ?_ | refine pu_add ?_ | refine pu_sub ?_ | refine pu_mul ?_ | refine pu_neg ?_ | refine fa_at ?_ | refine nl_ptr ?_ | refine ex20 ?_ | refine ex21 ?_ | refine ex30 ?_ | refine ex31 ?_ | refine ex32 ?_ | refine ln_rule ?_ | refine lnT_rule ?_ | refine pu_and ?_ | refine pu_or ?_ | refine pu_xor ?_ | refine pu_seq ?_ | refine pu_sne ?_)
            refine cnd_t seqT ?_
            exact oworks_spec h9 hk9
          · refine strOf h9 hs9 ?_
            refine strOf h9 ho9' ?_
            repeat (first | refine pu_not ?_ | refine pu_eql ?_ | refine pu_neq ?_ | refine pu_lss ?_ | refine pu_leq ?_ | refine pu_gtr ?_ | refine pu_geq ?_ | refine pu_add ?_ | refine pu_sub ?_ | refine pu_mul ?_ | refine pu_neg ?_ | refine fa_at ?_ | refine nl_ptr ?_ | refine ex20 ?_ | refine ex21 ?_ | refine ex30 ?_ | refine ex31 ?_ | refine ex32 ?_ | refine ln_rule ?_ | refine lnT_rule ?_ | refine pu_and ?_ | refine pu_or ?_ | refine pu_xor ?_ | refine pu_seq ?_ | refine pu_sne ?_)
            refine cnd_t seqT ?_
            exact oworks_spec h9 hk9
        · refine strOf h8 hs2 ?_
          refine number_spec h8 hr1 (fun S9 a9 w9 h9 ho9 => ?_)
          have hk9 : ∀ w', Ow B w' (S9 ++ (S ++ H)) → K (vB true) w' := fun w' h' => hk w' (h'.sub (List.sublist_append_right _ _))
          have ho9' : Sl (S9 ++ (S ++ H)) a9 (bv (nb y)) := ho9.sl.mono fun x hx => List.mem_append_left _ hx
          refine strOf h9 ho9' ?_
          repeat (first | refine pu_not ?_ | refine pu_eql ?_ | refine pu_neq ?_ | refine pu_lss ?_ | refine pu_leq ?_ | refine pu_gtr ?_ | refine pu_geq ?_ | refine pu_add ?_ | refine pu_sub ?_ | refine pu_mul ?_ | refine pu_neg ?_ | refine fa_at ?_ | refine nl_ptr ?_ | refine ex20 ?_ | refine ex21 ?_ | refine ex30 ?_ | refine ex31 ?_ | refine ex32 ?_ | refine ln_rule ?_ | refine lnT_rule ?_ | refine pu_and ?_ | refine pu_or ?_ | refine pu_xor ?_ | refine pu_seq ?_ | refine pu_sne ?_)
          refine cnd_t seqT ?_
          exact oworks_spec h9 hk9
    · refine strOf h7 ho7' ?_
      refine strOf h7 ho' ?_
      repeat (first | refine pu_not ?_ | refine pu_eql ?_ | refine pu_neq ?_ | refine pu_lss ?_ | refine pu_leq ?_ | refine pu_gtr ?_ | refine pu_geq ?_ | refine pu_add ?_ | refine pu_sub ?_ | refine pu_mul ?_ | refine pu_neg ?_ | refine fa_at ?_ | refine nl_ptr ?_ | refine ex20 ?_ | refine ex21 ?_ | refine ex30 ?_ | refine ex31 ?_ | refine ex32 ?_ | refine ln_rule ?_ | refine lnT_rule ?_ | refine pu_and ?_ | refine pu_or ?_ | refine pu_xor ?_ | refine pu_seq ?_ | refine pu_sne ?_)
      refine cnd_f (sneF rfl) ?_
      repeat (first | refine pu_not ?_ | refine pu_eql ?_ | refine pu_neq ?_ | refine pu_lss ?_ | refine pu_leq ?_ | refine pu_gtr ?_ | refine pu_geq ?_ | refine pu_add ?_ | refine pu_sub ?_ | refine pu_mul ?_ | refine pu_neg ?_ | refine fa_at ?_ | refine nl_ptr ?_ | refine ex20 ?_ | refine ex21 ?_ | refine ex30 ?_ | refine ex31 ?_ | refine ex32 ?_ | refine ln_rule ?_ | refine lnT_rule ?_ | refine pu_and ?_ | refine pu_or ?_ | refine pu_xor ?_ | refine pu_seq ?_ | refine pu_sne ?_)
      refine cnd_f (by simp) ?_
      refine sl_ln ho.sl ?_
      rw [List.length_map]
      repeat (first | refine pu_not ?_ | refine pu_eql ?_ | refine pu_neq ?_ | refine pu_lss ?_ | refine pu_leq ?_ | refine pu_gtr ?_ | refine pu_geq ?_ | refine pu_add ?_ | refine pu_sub ?_ | refine pu_mul ?_ | refine pu_neg ?_ | refine fa_at ?_ | refine nl_ptr ?_ | refine ex20 ?_ | refine ex21 ?_ | refine ex30 ?_ | refine ex31 ?_ | refine ex32 ?_ | refine ln_rule ?_ | refine lnT_rule ?_ | refine pu_and ?_ | refine pu_or ?_ | refine pu_xor ?_ | refine pu_seq ?_ | refine pu_sne ?_)
      refine cnd_f (by simp) ?_
      refine onum_spec ?_
      repeat (first | refine pu_not ?_ | refine pu_eql ?_ | refine pu_neq ?_ | refine pu_lss ?_ | refine pu_leq ?_ | refine pu_gtr ?_ | refine pu_geq ?_ | refine pu_add ?_ | refine pu_sub ?_ | refine pu_mul ?_ | refine pu_neg ?_ | refine fa_at ?_ | refine nl_ptr ?_ | refine ex20 ?_ | refine ex21 ?_ | refine ex30 ?_ | refine ex31 ?_ | refine ex32 ?_ | refine ln_rule ?_ | refine lnT_rule ?_ | refine pu_and ?_ | refine pu_or ?_ | refine pu_xor ?_ | refine pu_seq ?_ | refine pu_sne ?_)
      refine cnd_f rfl ?_
      repeat (first | refine pu_not ?_ | refine pu_eql ?_ | refine pu_neq ?_ | refine pu_lss ?_ | refine pu_leq ?_ | refine pu_gtr ?_ | refine pu_geq ?_ | refine pu_add ?_ | refine pu_sub ?_ | refine pu_mul ?_ | refine pu_neg ?_ | refine fa_at ?_ | refine nl_ptr ?_ | refine ex20 ?_ | refine ex21 ?_ | refine ex30 ?_ | refine ex31 ?_ | refine ex32 ?_ | refine ln_rule ?_ | refine lnT_rule ?_ | refine pu_and ?_ | refine pu_or ?_ | refine pu_xor ?_ | refine pu_seq ?_ | refine pu_sne ?_)
      refine cnd_f (by simp) ?_
      repeat (first | refine pu_not ?_ | refine pu_eql ?_ | refine pu_neq ?_ | refine pu_lss ?_ | refine pu_leq ?_ | refine pu_gtr ?_ | refine pu_geq ?_ | refine pu_add ?_ | refine pu_sub ?_ | refine pu_mul ?_ | refine pu_neg ?_ | refine fa_at ?_ | refine nl_ptr ?_ | refine ex20 ?_ | refine ex21 ?_ | refine ex30 ?_ | refine ex31 ?_ | refine ex32 ?_ | refine ln_rule ?_ | refine lnT_rule ?_ | refine pu_and ?_ | refine pu_or ?_ | refine pu_xor ?_ | refine pu_seq ?_ | refine pu_sne ?_)
      refine cnd_f (by simp) ?_
      refine onum_spec ?_
      repeat (first | refine pu_not ?_ | refine pu_eql ?_ | refine pu_neq ?_ | refine pu_lss ?_ | refine pu_leq ?_ | refine pu_gtr ?_ | refine pu_geq ?_ | refine pu_add ?_ | refine pu_sub ?_ | refine pu_mul ?_ | refine pu_neg ?_ | refine fa_at ?_ | refine nl_ptr ?_ | refine ex20 ?_ | refine ex21 ?_ | refine ex30 ?_ | refine ex31 ?_ | refine ex32 ?_ | refine ln_rule ?_ | refine lnT_rule ?_ | refine pu_and ?_ | refine pu_or ?_ | refine pu_xor ?_ | refine pu_seq ?_ | refine pu_sne ?_)
      refine cnd_f (by simp) ?_
      unfold linesmanlaw01_OctetNumbers.k0
      have h8 := (h7.sub (List.sublist_append_right _ _)).drew
      have hk : ∀ w', Ow B w' (S ++ H) → K (vB true) w' := fun w' h' => k w' (h'.sub (List.sublist_append_right _ _))
      repeat (first | refine pu_not ?_ | refine pu_eql ?_ | refine pu_neq ?_ | refine pu_lss ?_ | refine pu_leq ?_ | refine pu_gtr ?_ | refine pu_geq ?_ | refine pu_add ?_ | refine pu_sub ?_ | refine pu_mul ?_ | refine pu_neg ?_ | refine fa_at ?_ | refine nl_ptr ?_ | refine ex20 ?_ | refine ex21 ?_ | refine ex30 ?_ | refine ex31 ?_ | refine ex32 ?_ | refine ln_rule ?_ | refine lnT_rule ?_ | refine pu_and ?_ | refine pu_or ?_ | refine pu_xor ?_ | refine pu_seq ?_ | refine pu_sne ?_)
      refine cnd (fun hbad => ?_) (fun hbad => ?_)
      · exact ⟨⟨oworks_spec h8 hk, oworks_spec h8 hk⟩, oworks_spec h8 hk⟩
      · have hbad : bad = 0 := by simp at hbad; omega
        subst hbad
        have hr3 := hr3 rfl
        refine cutH hl2 (by omega) (by simp; omega) (fun c hc => ?_)
        rw [Int.toNat_natCast]
        have hs2 := sl_cut (l := 0) (h := m) (m := c) hl2 (by omega) (by simp; omega) (by omega)
        rw [List.drop_zero, ← List.map_take, hr3] at hs2
        refine ⟨?_, ?_⟩
        · refine number_spec h8 hr1 (fun S9 a9 w9 h9 ho9 => ?_)
          have hk9 : ∀ w', Ow B w' (S9 ++ (S ++ H)) → K (vB true) w' := fun w' h' => hk w' (h'.sub (List.sublist_append_right _ _))
          have hs9 : Sl (S9 ++ (S ++ H)) _ (bv (nb y)) := hs2.mono fun x hx => List.mem_append_right _ hx
          have ho9' : Sl (S9 ++ (S ++ H)) a9 (bv (nb y)) := ho9.sl.mono fun x hx => List.mem_append_left _ hx
          refine ⟨?_, ?_⟩
          · refine strOf h9 ho9' ?_
            refine strOf h9 hs9 ?_
            repeat (first | refine pu_not ?_ | refine pu_eql ?_ | refine pu_neq ?_ | refine pu_lss ?_ | refine pu_leq ?_ | refine pu_gtr ?_ | refine pu_geq ?_ | refine pu_add ?_ | refine pu_sub ?_ | refine pu_mul ?_ | refine pu_neg ?_ | refine fa_at ?_ | refine nl_ptr ?_ | refine ex20 ?_ | refine ex21 ?_ | refine ex30 ?_ | refine ex31 ?_ | refine ex32 ?_ | refine ln_rule ?_ | refine lnT_rule ?_ | refine pu_and ?_ | refine pu_or ?_ | refine pu_xor ?_ | refine pu_seq ?_ | refine pu_sne ?_)
            refine cnd_t seqT ?_
            exact oworks_spec h9 hk9
          · refine strOf h9 hs9 ?_
            refine strOf h9 ho9' ?_
            repeat (first | refine pu_not ?_ | refine pu_eql ?_ | refine pu_neq ?_ | refine pu_lss ?_ | refine pu_leq ?_ | refine pu_gtr ?_ | refine pu_geq ?_ | refine pu_add ?_ | refine pu_sub ?_ | refine pu_mul ?_ | refine pu_neg ?_ | refine fa_at ?_ | refine nl_ptr ?_ | refine ex20 ?_ | refine ex21 ?_ | refine ex30 ?_ | refine ex31 ?_ | refine ex32 ?_ | refine ln_rule ?_ | refine lnT_rule ?_ | refine pu_and ?_ | refine pu_or ?_ | refine pu_xor ?_ | refine pu_seq ?_ | refine pu_sne ?_)
            refine cnd_t seqT ?_
            exact oworks_spec h9 hk9
        · refine strOf h8 hs2 ?_
          refine number_spec h8 hr1 (fun S9 a9 w9 h9 ho9 => ?_)
          have hk9 : ∀ w', Ow B w' (S9 ++ (S ++ H)) → K (vB true) w' := fun w' h' => hk w' (h'.sub (List.sublist_append_right _ _))
          have ho9' : Sl (S9 ++ (S ++ H)) a9 (bv (nb y)) := ho9.sl.mono fun x hx => List.mem_append_left _ hx
          refine strOf h9 ho9' ?_
          repeat (first | refine pu_not ?_ | refine pu_eql ?_ | refine pu_neq ?_ | refine pu_lss ?_ | refine pu_leq ?_ | refine pu_gtr ?_ | refine pu_geq ?_ | refine pu_add ?_ | refine pu_sub ?_ | refine pu_mul ?_ | refine pu_neg ?_ | refine fa_at ?_ | refine nl_ptr ?_ | refine ex20 ?_ | refine ex21 ?_ | refine ex30 ?_ | refine ex31 ?_ | refine ex32 ?_ | refine ln_rule ?_ | refine lnT_rule ?_ | refine pu_and ?_ | refine pu_or ?_ | refine pu_xor ?_ | refine pu_seq ?_ | refine pu_sne ?_)
          refine cnd_t seqT ?_
          exact oworks_spec h9 hk9

theorem OctetTexts.law {v0 v1 : Value} (g0 : FitV PG H T.t_string v0) (g1 : FitV PG H T.t_sl_uint8 v1) (h : Ow B w H) (k : ∀ w', Ow B w' H → K (vB true) w') : callW PG N.linesmanlaw01_OctetTexts [v0, v1] K PK w := by
  obtain ⟨s, rfl, _⟩ := g0.str und_str
  obtain ⟨l, hl, hlm, hb⟩ := bytes_of g1
  clear g0 g1
  refine linesmanlaw01_OctetTexts.ok ?_
  unfold linesmanlaw01_OctetTexts.C
  repeat (first | refine pu_not ?_ | refine pu_eql ?_ | refine pu_neq ?_ | refine pu_lss ?_ | refine pu_leq ?_ | refine pu_gtr ?_ | refine pu_geq ?_ | refine pu_add ?_ | refine pu_sub ?_ | refine pu_mul ?_ | refine pu_neg ?_ | refine fa_at ?_ | refine nl_ptr ?_ | refine ex20 ?_ | refine ex21 ?_ | refine ex30 ?_ | refine ex31 ?_ | refine ex32 ?_ | refine ln_rule ?_ | refine lnT_rule ?_ | refine pu_and ?_ | refine pu_or ?_ | refine pu_xor ?_ | refine pu_seq ?_ | refine pu_sne ?_)
  refine cnd (fun _ => oworks_spec h k) (fun hls => ?_)
  have hls : s.size ≤ 300 := by simp at hls; omega
  refine sl_ln hl ?_
  rw [List.length_map]
  repeat (first | refine pu_not ?_ | refine pu_eql ?_ | refine pu_neq ?_ | refine pu_lss ?_ | refine pu_leq ?_ | refine pu_gtr ?_ | refine pu_geq ?_ | refine pu_add ?_ | refine pu_sub ?_ | refine pu_mul ?_ | refine pu_neg ?_ | refine fa_at ?_ | refine nl_ptr ?_ | refine ex20 ?_ | refine ex21 ?_ | refine ex30 ?_ | refine ex31 ?_ | refine ex32 ?_ | refine ln_rule ?_ | refine lnT_rule ?_ | refine pu_and ?_ | refine pu_or ?_ | refine pu_xor ?_ | refine pu_seq ?_ | refine pu_sne ?_)
  refine cnd (fun _ => oworks_spec h k) (fun hle => ?_)
  have hle : l.length ≤ 300 := by simp at hle; omega
  have htl : (tx (tb s)).length ≤ 400 := by
    have hnl := nb_len 9 (tb s).length (by have : (128 : Nat) ^ (9 + 1) = 1180591620717411303424 := by decide
                                           rw [tb_len]; omega)
    simp only [tx, List.length_append, tb_len] at hnl ⊢
    omega
  have htb : Byt (tx (tb s)) := (nb_byt _).app (tb_byt s)
  refine text_spec h (by omega) (fun S a w1 h1 ho => ?_)
  refine app2 h1 ho.sl (fun x hx => List.mem_append_left _ hx) hl (fun x hx => List.mem_append_right _ hx) (by omega) (by omega) (fun S2 z w2 h2 ho2 => ?_)
  refine readText_spec (l := tx (tb s) ++ l) h2 (ho2.sl.mono fun x hx => List.mem_append_left _ hx) (htb.app hb) (by simp; omega) (fun w3 h3 => ?_)
  rw [rt_tx (by rw [tb_len]; omega)]
  have h3 := h3.sub (List.sublist_append_right _ _)
  repeat (first | refine pu_not ?_ | refine pu_eql ?_ | refine pu_neq ?_ | refine pu_lss ?_ | refine pu_leq ?_ | refine pu_gtr ?_ | refine pu_geq ?_ | refine pu_add ?_ | refine pu_sub ?_ | refine pu_mul ?_ | refine pu_neg ?_ | refine fa_at ?_ | refine nl_ptr ?_ | refine ex20 ?_ | refine ex21 ?_ | refine ex30 ?_ | refine ex31 ?_ | refine ex32 ?_ | refine ln_rule ?_ | refine lnT_rule ?_ | refine pu_and ?_ | refine pu_or ?_ | refine pu_xor ?_ | refine pu_seq ?_ | refine pu_sne ?_)
  have hl2 : Sl (S ++ H) v1 (bv l) := hl.mono fun x hx => List.mem_append_right _ hx
  refine readText_spec h3 hl2 hb (by omega) (fun w4 h4 => ?_)
  repeat (first | refine pu_not ?_ | refine pu_eql ?_ | refine pu_neq ?_ | refine pu_lss ?_ | refine pu_leq ?_ | refine pu_gtr ?_ | refine pu_geq ?_ | refine pu_add ?_ | refine pu_sub ?_ | refine pu_mul ?_ | refine pu_neg ?_ | refine fa_at ?_ | refine nl_ptr ?_ | refine ex20 ?_ | refine ex21 ?_ | refine ex30 ?_ | refine ex31 ?_ | refine ex32 ?_ | refine ln_rule ?_ | refine lnT_rule ?_ | refine pu_and ?_ | refine pu_or ?_ | refine pu_xor ?_ | refine pu_seq ?_ | refine pu_sne ?_)
  refine rreadText_spec h4 hl2 hb (by omega) (fun w5 h5 => ?_)
  repeat (first | refine pu_not ?_ | refine pu_eql ?_ | refine pu_neq ?_ | refine pu_lss ?_ | refine pu_leq ?_ | refine pu_gtr ?_ | refine pu_geq ?_ | refine pu_add ?_ | refine pu_sub ?_ | refine pu_mul ?_ | refine pu_neg ?_ | refine fa_at ?_ | refine nl_ptr ?_ | refine ex20 ?_ | refine ex21 ?_ | refine ex30 ?_ | refine ex31 ?_ | refine ex32 ?_ | refine ln_rule ?_ | refine lnT_rule ?_ | refine pu_and ?_ | refine pu_or ?_ | refine pu_xor ?_ | refine pu_seq ?_ | refine pu_sne ?_)
  have h5 := h5.drew
  refine ⟨?_, ?_⟩
  · refine strOf h5 (ho.sl.mono fun x hx => List.mem_append_left _ hx) ?_
    refine rtext_spec h5 (by omega) (fun S7 a7 w7 h7 ho7 => ?_)
    refine strOf h7 (ho7.sl.mono fun x hx => List.mem_append_left _ hx) ?_
    repeat (first | refine pu_not ?_ | refine pu_eql ?_ | refine pu_neq ?_ | refine pu_lss ?_ | refine pu_leq ?_ | refine pu_gtr ?_ | refine pu_geq ?_ | refine pu_add ?_ | refine pu_sub ?_ | refine pu_mul ?_ | refine pu_neg ?_ | refine fa_at ?_ | refine nl_ptr ?_ | refine ex20 ?_ | refine ex21 ?_ | refine ex30 ?_ | refine ex31 ?_ | refine ex32 ?_ | refine ln_rule ?_ | refine lnT_rule ?_ | refine pu_and ?_ | refine pu_or ?_ | refine pu_xor ?_ | refine pu_seq ?_ | refine pu_sne ?_)
    refine cnd_t seqT ?_
    repeat (first | refine pu_not ?_ | refine pu_eql ?_ | refine pu_neq ?_ | refine pu_lss ?_ | refine pu_leq ?_ | refine pu_gtr ?_ | refine pu_geq ?_ | refine pu_add ?_ | refine pu_sub ?_ | refine pu_mul ?_ | refine pu_neg ?_ | refine fa_at ?_ | refine nl_ptr ?_ | refine ex20 ?_ | refine ex21 ?_ | refine ex30 ?_ | refine ex31 ?_ | refine ex32 ?_ | refine ln_rule ?_ | refine lnT_rule ?_ | refine pu_and ?_ | refine pu_or ?_ | refine pu_xor ?_ | refine pu_seq ?_ | refine pu_sne ?_)
    refine cnd_t (seqT' (bs_tb s)) ?_
    refine sl_ln ho.sl ?_
    rw [List.length_map]
    repeat (first | refine pu_not ?_ | refine pu_eql ?_ | refine pu_neq ?_ | refine pu_lss ?_ | refine pu_leq ?_ | refine pu_gtr ?_ | refine pu_geq ?_ | refine pu_add ?_ | refine pu_sub ?_ | refine pu_mul ?_ | refine pu_neg ?_ | refine fa_at ?_ | refine nl_ptr ?_ | refine ex20 ?_ | refine ex21 ?_ | refine ex30 ?_ | refine ex31 ?_ | refine ex32 ?_ | refine ln_rule ?_ | refine lnT_rule ?_ | refine pu_and ?_ | refine pu_or ?_ | refine pu_xor ?_ | refine pu_seq ?_ | refine pu_sne ?_)
    refine cnd_t (by simp) ?_
    refine onum_spec ?_
    repeat (first | refine pu_not ?_ | refine pu_eql ?_ | refine pu_neq ?_ | refine pu_lss ?_ | refine pu_leq ?_ | refine pu_gtr ?_ | refine pu_geq ?_ | refine pu_add ?_ | refine pu_sub ?_ | refine pu_mul ?_ | refine pu_neg ?_ | refine fa_at ?_ | refine nl_ptr ?_ | refine ex20 ?_ | refine ex21 ?_ | refine ex30 ?_ | refine ex31 ?_ | refine ex32 ?_ | refine ln_rule ?_ | refine lnT_rule ?_ | refine pu_and ?_ | refine pu_or ?_ | refine pu_xor ?_ | refine pu_seq ?_ | refine pu_sne ?_)
    refine cnd_t rfl ?_
    repeat (first | refine pu_not ?_ | refine pu_eql ?_ | refine pu_neq ?_ | refine pu_lss ?_ | refine pu_leq ?_ | refine pu_gtr ?_ | refine pu_geq ?_ | refine pu_add ?_ | refine pu_sub ?_ | refine pu_mul ?_ | refine pu_neg ?_ | refine fa_at ?_ | refine nl_ptr ?_ | refine ex20 ?_ | refine ex21 ?_ | refine ex30 ?_ | refine ex31 ?_ | refine ex32 ?_ | refine ln_rule ?_ | refine lnT_rule ?_ | refine pu_and ?_ | refine pu_or ?_ | refine pu_xor ?_ | refine pu_seq ?_ | refine pu_sne ?_)
    refine cnd_t seqT ?_
    repeat (first | refine pu_not ?_ | refine pu_eql ?_ | refine pu_neq ?_ | refine pu_lss ?_ | refine pu_leq ?_ | refine pu_gtr ?_ | refine pu_geq ?_ | refine pu_add ?_ | refine pu_sub ?_ | refine pu_mul ?_ | refine pu_neg ?_ | refine fa_at ?_ | refine nl_ptr ?_ | refine ex20 ?_ | refine ex21 ?_ | refine ex30 ?_ | refine ex31 ?_ | refine ex32 ?_ | refine ln_rule ?_ | refine lnT_rule ?_ | refine pu_and ?_ | refine pu_or ?_ | refine pu_xor ?_ | refine pu_seq ?_ | refine pu_sne ?_)
    refine cnd_t (by simp) ?_
    refine onum_spec ?_
    repeat (first | refine pu_not ?_ | refine pu_eql ?_ | refine pu_neq ?_ | refine pu_lss ?_ | refine pu_leq ?_ | refine pu_gtr ?_ | refine pu_geq ?_ | refine pu_add ?_ | refine pu_sub ?_ | refine pu_mul ?_ | refine pu_neg ?_ | refine fa_at ?_ | refine nl_ptr ?_ | refine ex20 ?_ | refine ex21 ?_ | refine ex30 ?_ | refine ex31 ?_ | refine ex32 ?_ | refine ln_rule ?_ | refine lnT_rule ?_ | refine pu_and ?_ | refine pu_or ?_ | refine pu_xor ?_ | refine pu_seq ?_ | refine pu_sne ?_)
    refine cnd_t (by simp) ?_
    exact oworks_spec h7 (fun w' h' => k w' ((h'.sub (List.sublist_append_right _ _)).sub (List.sublist_append_right _ _)))
  · refine rtext_spec h5 (by omega) (fun S7 a7 w7 h7 ho7 => ?_)
    have ho' : Sl (S7 ++ (S ++ H)) a (bv (tx (tb s))) := ho.sl.mono fun x hx => List.mem_append_right _ (List.mem_append_left _ hx)
    have ho7' : Sl (S7 ++ (S ++ H)) a7 (bv (tx (tb s))) := ho7.sl.mono fun x hx => List.mem_append_left _ hx
    refine ⟨?_, ?_⟩
    · refine strOf h7 ho' ?_
      refine strOf h7 ho7' ?_
      repeat (first | refine pu_not ?_ | refine pu_eql ?_ | refine pu_neq ?_ | refine pu_lss ?_ | refine pu_leq ?_ | refine pu_gtr ?_ | refine pu_geq ?_ | refine pu_add ?_ | refine pu_sub ?_ | refine pu_mul ?_ | refine pu_neg ?_ | refine fa_at ?_ | refine nl_ptr ?_ | refine ex20 ?_ | refine ex21 ?_ | refine ex30 ?_ | refine ex31 ?_ | refine ex32 ?_ | refine ln_rule ?_ | refine lnT_rule ?_ | refine pu_and ?_ | refine pu_or ?_ | refine pu_xor ?_ | refine pu_seq ?_ | refine pu_sne ?_)
      refine cnd_t seqT ?_
      repeat (first | refine pu_not ?_ | refine pu_eql ?_ | refine pu_neq ?_ | refine pu_lss ?_ | refine pu_leq ?_ | refine pu_gtr ?_ | refine pu_geq ?_ | refine pu_add ?_ | refine pu_sub ?_ | refine pu_mul ?_ | refine pu_neg ?_ | refine fa_at ?_ | refine nl_ptr ?_ | refine ex20 ?_ | refine ex21 ?_ | refine ex30 ?_ | refine ex31 ?_ | refine ex32 ?_ | refine ln_rule ?_ | refine lnT_rule ?_ | refine pu_and ?_ | refine pu_or ?_ | refine pu_xor ?_ | refine pu_seq ?_ | refine pu_sne ?_)
      refine cnd_t (seqT' (bs_tb s)) ?_
      refine sl_ln ho.sl ?_
      rw [List.length_map]
      repeat (first | refine pu_not ?_ | refine pu_eql ?_ | refine pu_neq ?_ | refine pu_lss ?_ | refine pu_leq ?_ | refine pu_gtr ?_ | refine pu_geq ?_ | refine pu_add ?_ | refine pu_sub ?_ | refine pu_mul ?_ | refine pu_neg ?_ | refine fa_at ?_ | refine nl_ptr ?_ | refine ex20 ?_ | refine ex21 ?_ | refine ex30 ?_ | refine ex31 ?_ | refine ex32 ?_ | refine ln_rule ?_ | refine lnT_rule ?_ | refine pu_and ?_ | refine pu_or ?_ | refine pu_xor ?_ | refine pu_seq ?_ | refine pu_sne ?_)
      refine cnd_t (by simp) ?_
      refine onum_spec ?_
      repeat (first | refine pu_not ?_ | refine pu_eql ?_ | refine pu_neq ?_ | refine pu_lss ?_ | refine pu_leq ?_ | refine pu_gtr ?_ | refine pu_geq ?_ | refine pu_add ?_ | refine pu_sub ?_ | refine pu_mul ?_ | refine pu_neg ?_ | refine fa_at ?_ | refine nl_ptr ?_ | refine ex20 ?_ | refine ex21 ?_ | refine ex30 ?_ | refine ex31 ?_ | refine ex32 ?_ | refine ln_rule ?_ | refine lnT_rule ?_ | refine pu_and ?_ | refine pu_or ?_ | refine pu_xor ?_ | refine pu_seq ?_ | refine pu_sne ?_)
      refine cnd_t rfl ?_
      repeat (first | refine pu_not ?_ | refine pu_eql ?_ | refine pu_neq ?_ | refine pu_lss ?_ | refine pu_leq ?_ | refine pu_gtr ?_ | refine pu_geq ?_ | refine pu_add ?_ | refine pu_sub ?_ | refine pu_mul ?_ | refine pu_neg ?_ | refine fa_at ?_ | refine nl_ptr ?_ | refine ex20 ?_ | refine ex21 ?_ | refine ex30 ?_ | refine ex31 ?_ | refine ex32 ?_ | refine ln_rule ?_ | refine lnT_rule ?_ | refine pu_and ?_ | refine pu_or ?_ | refine pu_xor ?_ | refine pu_seq ?_ | refine pu_sne ?_)
      refine cnd_t seqT ?_
      repeat (first | refine pu_not ?_ | refine pu_eql ?_ | refine pu_neq ?_ | refine pu_lss ?_ | refine pu_leq ?_ | refine pu_gtr ?_ | refine pu_geq ?_ | refine pu_add ?_ | refine pu_sub ?_ | refine pu_mul ?_ | refine pu_neg ?_ | refine fa_at ?_ | refine nl_ptr ?_ | refine ex20 ?_ | refine ex21 ?_ | refine ex30 ?_ | refine ex31 ?_ | refine ex32 ?_ | refine ln_rule ?_ | refine lnT_rule ?_ | refine pu_and ?_ | refine pu_or ?_ | refine pu_xor ?_ | refine pu_seq ?_ | refine pu_sne ?_)
      refine cnd_t (by simp) ?_
      refine onum_spec ?_
      repeat (first | refine pu_not ?_ | refine pu_eql ?_ | refine pu_neq ?_ | refine pu_lss ?_ | refine pu_leq ?_ | refine pu_gtr ?_ | refine pu_geq ?_ | refine pu_add ?_ | refine pu_sub ?_ | refine pu_mul ?_ | refine pu_neg ?_ | refine fa_at ?_ | refine nl_ptr ?_ | refine ex20 ?_ | refine ex21 ?_ | refine ex30 ?_ | refine ex31 ?_ | refine ex32 ?_ | refine ln_rule ?_ | refine lnT_rule ?_ | refine pu_and ?_ | refine pu_or ?_ | refine pu_xor ?_ | refine pu_seq ?_ | refine pu_sne ?_)
      refine cnd_t (by simp) ?_
      exact oworks_spec h7 (fun w' h' => k w' ((h'.sub (List.sublist_append_right _ _)).sub (List.sublist_append_right _ _)))
    · refine strOf h7 ho7' ?_
      refine strOf h7 ho' ?_
      repeat (first | refine pu_not ?_ | refine pu_eql ?_ | refine pu_neq ?_ | refine pu_lss ?_ | refine pu_leq ?_ | refine pu_gtr ?_ | refine pu_geq ?_ | refine pu_add ?_ | refine pu_sub ?_ | refine pu_mul ?_ | refine pu_neg ?_ | refine fa_at ?_ | refine nl_ptr ?_ | refine ex20 ?_ | refine ex21 ?_ | refine ex30 ?_ | refine ex31 ?_ | refine ex32 ?_ | refine ln_rule ?_ | refine lnT_rule ?_ | refine pu_and ?_ | refine pu_or ?_ | refine pu_xor ?_ | refine pu_seq ?_ | refine pu_sne ?_)
      refine cnd_t seqT ?_
      repeat (first | refine pu_not ?_ | refine pu_eql ?_ | refine pu_neq ?_ | refine pu_lss ?_ | refine pu_leq ?_ | refine pu_gtr ?_ | refine pu_geq ?_ | refine pu_add ?_ | refine pu_sub ?_ | refine pu_mul ?_ | refine pu_neg ?_ | refine fa_at ?_ | refine nl_ptr ?_ | refine ex20 ?_ | refine ex21 ?_ | refine ex30 ?_ | refine ex31 ?_ | refine ex32 ?_ | refine ln_rule ?_ | refine lnT_rule ?_ | refine pu_and ?_ | refine pu_or ?_ | refine pu_xor ?_ | refine pu_seq ?_ | refine pu_sne ?_)
      refine cnd_t (seqT' (bs_tb s)) ?_
      refine sl_ln ho.sl ?_
      rw [List.length_map]
      repeat (first | refine pu_not ?_ | refine pu_eql ?_ | refine pu_neq ?_ | refine pu_lss ?_ | refine pu_leq ?_ | refine pu_gtr ?_ | refine pu_geq ?_ | refine pu_add ?_ | refine pu_sub ?_ | refine pu_mul ?_ | refine pu_neg ?_ | refine fa_at ?_ | refine nl_ptr ?_ | refine ex20 ?_ | refine ex21 ?_ | refine ex30 ?_ | refine ex31 ?_ | refine ex32 ?_ | refine ln_rule ?_ | refine lnT_rule ?_ | refine pu_and ?_ | refine pu_or ?_ | refine pu_xor ?_ | refine pu_seq ?_ | refine pu_sne ?_)
      refine cnd_t (by simp) ?_
      refine onum_spec ?_
      repeat (first | refine pu_not ?_ | refine pu_eql ?_ | refine pu_neq ?_ | refine pu_lss ?_ | refine pu_leq ?_ | refine pu_gtr ?_ | refine pu_geq ?_ | refine pu_add ?_ | refine pu_sub ?_ | refine pu_mul ?_ | refine pu_neg ?_ | refine fa_at ?_ | refine nl_ptr ?_ | refine ex20 ?_ | refine ex21 ?_ | refine ex30 ?_ | refine ex31 ?_ | refine ex32 ?_ | refine ln_rule ?_ | refine lnT_rule ?_ | refine pu_and ?_ | refine pu_or ?_ | refine pu_xor ?_ | refine pu_seq ?_ | refine pu_sne ?_)
      refine cnd_t rfl ?_
      repeat (first | refine pu_not ?_ | refine pu_eql ?_ | refine pu_neq ?_ | refine pu_lss ?_ | refine pu_leq ?_ | refine pu_gtr ?_ | refine pu_geq ?_ | refine pu_add ?_ | refine pu_sub ?_ | refine pu_mul ?_ | refine pu_neg ?_ | refine fa_at ?_ | refine nl_ptr ?_ | refine ex20 ?_ | refine ex21 ?_ | refine ex30 ?_ | refine ex31 ?_ | refine ex32 ?_ | refine ln_rule ?_ | refine lnT_rule ?_ | refine pu_and ?_ | refine pu_or ?_ | refine pu_xor ?_ | refine pu_seq ?_ | refine pu_sne ?_)
      refine cnd_t seqT ?_
      repeat (first | refine pu_not ?_ | refine pu_eql ?_ | refine pu_neq ?_ | refine pu_lss ?_ | refine pu_leq ?_ | refine pu_gtr ?_ | refine pu_geq ?_ | refine pu_add ?_ | refine pu_sub ?_ | refine pu_mul ?_ | refine pu_neg ?_ | refine fa_at ?_ | refine nl_ptr ?_ | refine ex20 ?_ | refine ex21 ?_ | refine ex30 ?_ | refine ex31 ?_ | refine ex32 ?_ | refine ln_rule ?_ | refine lnT_rule ?_ | refine pu_and ?_ | refine pu_or ?_ | refine pu_xor ?_ | refine pu_seq ?_ | refine pu_sne ?_)
      refine cnd_t (by simp) ?_
      refine onum_spec ?_
      repeat (first | refine pu_not ?_ | refine pu_eql ?_ | refine pu_neq ?_ | refine pu_lss ?_ | refine pu_leq ?_ | refine pu_gtr ?_ | refine pu_geq ?_ | refine pu_add ?_ | refine pu_sub ?_ | refine pu_mul ?_ | refine pu_neg ?_ | refine fa_at ?_ | refine nl_ptr ?_ | refine ex20 ?_ | refine ex21 ?_ | refine ex30 ?_ | refine ex31 ?_ | refine ex32 ?_ | refine ln_rule ?_ | refine lnT_rule ?_ | refine pu_and ?_ | refine pu_or ?_ | refine pu_xor ?_ | refine pu_seq ?_ | refine pu_sne ?_)
      refine cnd_t (by simp) ?_
      exact oworks_spec h7 (fun w' h' => k w' ((h'.sub (List.sublist_append_right _ _)).sub (List.sublist_append_right _ _)))

theorem bs_extract (l : List Nat) (h : Nat) : (bs l).extract 0 h = bs (l.take h) := by
  unfold bs
  have : ∀ (a : Array UInt8), (ByteArray.mk a).extract 0 h = ⟨a.extract 0 h⟩ := fun a => by
    apply ByteArray.ext
    simp [ByteArray.data_extract]
  rw [this]
  congr 1
  simp [List.map_take]
theorem pu_cutS {KK : Value → Prop} {s : ByteArray} {h : Int} (h0 : 0 ≤ h) (h1 : h ≤ s.size) (k : KK (.string (s.extract 0 h.toNat))) : pu PG (Instr.sliceAt T.t_string (.string s) none (some (vI h)) none) KK := by
  refine pu_of (fun w => ?_) k
  simp only [Instr.sliceAt, Instr.slice, Sem.run_bind, run_und und_str, Result.andThen, Instr.sliceBounds, Sem.run_pure, slb (P := PG) (n := h) (y := s.size) h0 h1, Option.isSome, Bool.false_eq_true, if_false]
theorem two_of {v : Value} (g : FitV PG H T.t_2_uint64 v) : ∃ m n : Nat, v = .agg #[v64 m, v64 n] ∧ m < 18446744073709551616 ∧ n < 18446744073709551616 := by
  obtain ⟨cs, rfl, hf⟩ := g.agg (by kernel_rfl)
  have hl : cs.length = 2 := hf.len (by kernel_rfl) (by kernel_rfl)
  obtain ⟨_, hf⟩ := hf.of_array (n := 2) (e := T.t_uint64) (by kernel_rfl)
  have e1 : PG.cellsOf T.t_uint64 = 1 := by kernel_rfl
  rw [e1] at hf
  match cs, hl with
  | [x, y], _ =>
    obtain ⟨m, hm, hmw⟩ := (hf 0 (by omega)).of_int und_u64
    obtain ⟨n, hn, hnw⟩ := (hf 1 (by omega)).of_int und_u64
    have hm : [x] = [.int .u64 m] := hm
    have hn : [y] = [.int .u64 n] := hn
    have h1 := wf_u64 hmw
    have h2 := wf_u64 hnw
    cases hm; cases hn
    refine ⟨m.toNat, n.toNat, ?_, by omega, by omega⟩
    rw [v64, v64, Int.toNat_of_nonneg h1.1, Int.toNat_of_nonneg h2.1]

theorem OctetHolds.law {v0 v1 v2 : Value} (g0 : FitV PG H T.t_2_uint64 v0) (g1 : FitV PG H T.t_string v1) (g2 : FitV PG H T.t_string v2) (h : Ow B w H) (k : ∀ w', Ow B w' H → K (vB true) w') : callW PG N.linesmanlaw01_OctetHolds [v0, v1, v2] K PK w := by
  obtain ⟨m, n, rfl, hm, hn⟩ := two_of g0
  obtain ⟨s, rfl, _⟩ := g1.str und_str
  obtain ⟨t, rfl, _⟩ := g2.str und_str
  clear g0 g1 g2
  refine linesmanlaw01_OctetHolds.ok ?_
  unfold linesmanlaw01_OctetHolds.C
  refine al_rule h (l := [v64 m, v64 n]) rfl (fun b w1 h1 => ?_)
  refine ⟨fun w => Ow B w ((b, cel [v64 m, v64 n] T.t_2_uint64) :: H), h1.drew, ?_⟩
  refine ixA_at (by omega) (by omega) ?_
  refine lds_here (fun w h => h) (.head _) rfl ?_
  refine ixA_at (by omega) (by omega) ?_
  refine lds_here (fun w h => h) (.head _) rfl ?_
  have h2 := h1.drew.drop
  repeat (first | refine pu_not ?_ | refine pu_eql ?_ | refine pu_neq ?_ | refine pu_lss ?_ | refine pu_leq ?_ | refine pu_gtr ?_ | refine pu_geq ?_ | refine pu_add ?_ | refine pu_sub ?_ | refine pu_mul ?_ | refine pu_neg ?_ | refine fa_at ?_ | refine nl_ptr ?_ | refine ex20 ?_ | refine ex21 ?_ | refine ex30 ?_ | refine ex31 ?_ | refine ex32 ?_ | refine ln_rule ?_ | refine lnT_rule ?_ | refine pu_and ?_ | refine pu_or ?_ | refine pu_xor ?_ | refine pu_seq ?_ | refine pu_sne ?_)
  refine cnd (fun _ => oworks_spec h2 k) (fun hls => ?_)
  have hls : s.size ≤ 300 := by simp at hls; omega
  repeat (first | refine pu_not ?_ | refine pu_eql ?_ | refine pu_neq ?_ | refine pu_lss ?_ | refine pu_leq ?_ | refine pu_gtr ?_ | refine pu_geq ?_ | refine pu_add ?_ | refine pu_sub ?_ | refine pu_mul ?_ | refine pu_neg ?_ | refine fa_at ?_ | refine nl_ptr ?_ | refine ex20 ?_ | refine ex21 ?_ | refine ex30 ?_ | refine ex31 ?_ | refine ex32 ?_ | refine ln_rule ?_ | refine lnT_rule ?_ | refine pu_and ?_ | refine pu_or ?_ | refine pu_xor ?_ | refine pu_seq ?_ | refine pu_sne ?_)
  refine cnd (fun _ => oworks_spec h2 k) (fun hlt => ?_)
  have hlt : t.size ≤ 300 := by simp at hlt; omega
  have hle : ∀ {u : ByteArray}, u.size ≤ 300 → (tx (tb u)).length ≤ 400 := fun {u} hu => by
    have hnl := nb_len 9 (tb u).length (by have : (128 : Nat) ^ (9 + 1) = 1180591620717411303424 := by decide
                                           rw [tb_len]; omega)
    simp only [tx, List.length_append, tb_len] at hnl ⊢
    omega
  have hs4 := hle hls
  have ht4 := hle hlt
  have htb : Byt (tx (tb s) ++ tx (tb t)) := ((nb_byt _).app (tb_byt s)).app ((nb_byt _).app (tb_byt t))
  have hinj : (bs (nb m) = bs (nb n)) ↔ m = n := by
    rw [bs_inj (nb_byt m) (nb_byt n)]
    constructor
    · intro he
      refine nb_prefix hm hn ?_
      rw [← he, List.take_length]
    · rintro rfl; rfl
  refine number_spec h2.drew hm (fun Sm am w3 h3 hom => ?_)
  refine ⟨?_, ?_⟩
  · refine strOf h3 (hom.sl.mono fun x hx => List.mem_append_left _ hx) ?_
    refine number_spec h3 hn (fun Sn an w4 h4 hon => ?_)
    refine strOf h4 (hon.sl.mono fun x hx => List.mem_append_left _ hx) ?_
    have hA := h4
    repeat (first | refine pu_not ?_ | refine pu_eql ?_ | refine pu_neq ?_ | refine pu_lss ?_ | refine pu_leq ?_ | refine pu_gtr ?_ | refine pu_geq ?_ | refine pu_add ?_ | refine pu_sub ?_ | refine pu_mul ?_ | refine pu_neg ?_ | refine fa_at ?_ | refine nl_ptr ?_ | refine ex20 ?_ | refine ex21 ?_ | refine ex30 ?_ | refine ex31 ?_ | refine ex32 ?_ | refine ln_rule ?_ | refine lnT_rule ?_ | refine pu_and ?_ | refine pu_or ?_ | refine pu_xor ?_ | refine pu_seq ?_ | refine pu_sne ?_)
    refine pu_bneq und_bool ?_
    refine cnd_f ?_ ?_
    · rw [bytes_eq]
      by_cases he : m = n
      · subst he; simp
      · have : ¬ bs (nb m) = bs (nb n) := fun h => he (hinj.1 h)
        simp only [this, decide_false, bne_eq_false_iff_eq, ibeq]
        have : ¬ (m : Int) = n := by omega
        simp [this]
    repeat (first | refine pu_not ?_ | refine pu_eql ?_ | refine pu_neq ?_ | refine pu_lss ?_ | refine pu_leq ?_ | refine pu_gtr ?_ | refine pu_geq ?_ | refine pu_add ?_ | refine pu_sub ?_ | refine pu_mul ?_ | refine pu_neg ?_ | refine fa_at ?_ | refine nl_ptr ?_ | refine ex20 ?_ | refine ex21 ?_ | refine ex30 ?_ | refine ex31 ?_ | refine ex32 ?_ | refine ln_rule ?_ | refine lnT_rule ?_ | refine pu_and ?_ | refine pu_or ?_ | refine pu_xor ?_ | refine pu_seq ?_ | refine pu_sne ?_)
    refine cnd (fun hne => ?_) (fun heq => ?_)
    · have hne : m ≠ n := by rintro rfl; simp at hne
      repeat (first | refine pu_not ?_ | refine pu_eql ?_ | refine pu_neq ?_ | refine pu_lss ?_ | refine pu_leq ?_ | refine pu_gtr ?_ | refine pu_geq ?_ | refine pu_add ?_ | refine pu_sub ?_ | refine pu_mul ?_ | refine pu_neg ?_ | refine fa_at ?_ | refine nl_ptr ?_ | refine ex20 ?_ | refine ex21 ?_ | refine ex30 ?_ | refine ex31 ?_ | refine ex32 ?_ | refine ln_rule ?_ | refine lnT_rule ?_ | refine pu_and ?_ | refine pu_or ?_ | refine pu_xor ?_ | refine pu_seq ?_ | refine pu_sne ?_)
      refine cnd (fun hle2 => ?_) (fun _ => ?_)
      · rw [bs_size, bs_size] at hle2
        have hle2 : (nb m).length ≤ (nb n).length := by simp at hle2; omega
        repeat (first | refine pu_not ?_ | refine pu_eql ?_ | refine pu_neq ?_ | refine pu_lss ?_ | refine pu_leq ?_ | refine pu_gtr ?_ | refine pu_geq ?_ | refine pu_add ?_ | refine pu_sub ?_ | refine pu_mul ?_ | refine pu_neg ?_ | refine fa_at ?_ | refine nl_ptr ?_ | refine ex20 ?_ | refine ex21 ?_ | refine ex30 ?_ | refine ex31 ?_ | refine ex32 ?_ | refine ln_rule ?_ | refine lnT_rule ?_ | refine pu_and ?_ | refine pu_or ?_ | refine pu_xor ?_ | refine pu_seq ?_ | refine pu_sne ?_)
        rw [bs_size]
        refine pu_cutS (by omega) (by rw [bs_size]; omega) ?_
        rw [Int.toNat_natCast, bs_extract]
        repeat (first | refine pu_not ?_ | refine pu_eql ?_ | refine pu_neq ?_ | refine pu_lss ?_ | refine pu_leq ?_ | refine pu_gtr ?_ | refine pu_geq ?_ | refine pu_add ?_ | refine pu_sub ?_ | refine pu_mul ?_ | refine pu_neg ?_ | refine fa_at ?_ | refine nl_ptr ?_ | refine ex20 ?_ | refine ex21 ?_ | refine ex30 ?_ | refine ex31 ?_ | refine ex32 ?_ | refine ln_rule ?_ | refine lnT_rule ?_ | refine pu_and ?_ | refine pu_or ?_ | refine pu_xor ?_ | refine pu_seq ?_ | refine pu_sne ?_)
        refine cnd_f ?_ ?_
        · rw [bytes_eq]
          simp only [decide_eq_false_iff_not]
          rw [bs_inj ((nb_byt n).take _) (nb_byt m)]
          exact fun he => hne (nb_prefix hm hn he)
        · refine bs_rule hA [] (by kernel_rfl) (fun b10 w10 h10 => ?_)
          refine text_spec h10 (by omega) (fun S a w11 h11 ho => ?_)
          refine app1 (A := S) (S := [(b10, cel [] T.t_uint8)]) (z := v8 0) (bytes := 1) (by simpa using h11) (Own.mk (n := 0) (cap := 0) (xs := []) (Nat.le_refl _) (Nat.zero_le _) rfl rfl) ho.sl (fun y hy => List.mem_append_left _ (List.mem_append_left _ hy)) (by simp [plainV]) und_slb info_u8 rfl (by simp [maxLen]; omega) (by simp; omega) (fun S2 p w12 h12 ho12 => ?_)
          have h12 := h12.sub ((List.sublist_append_right S S2).append (List.Sublist.refl _))
          refine text_spec h12 (by omega) (fun S3 a3 w13 h13 ho13 => ?_)
          refine app1 (A := S3) (S := S2) (z := v8 0) (bytes := 1) (by simpa using h13) ho12 ho13.sl (fun y hy => List.mem_append_left _ (List.mem_append_left _ hy)) (by simp [plainV]) und_slb info_u8 rfl (by simp [maxLen]; omega) (by simp; omega) (fun S4 q w14 h14 ho14 => ?_)
          have h14 := h14.sub ((List.sublist_append_right S3 S4).append (List.Sublist.refl _))
          have hq : Sl S4 q (bv (tx (tb s) ++ tx (tb t))) := by simpa using ho14.sl
          have hq : Sl (S4 ++ (Sn ++ (Sm ++ H))) q (bv (tx (tb s) ++ tx (tb t))) := hq.mono fun x hx => List.mem_append_left _ hx
          refine readText_spec (l := tx (tb s) ++ tx (tb t)) h14 hq htb (by simp; omega) (fun w15 h15 => ?_)
          rw [rt_tx (by rw [tb_len]; omega)]
          repeat (first | refine pu_not ?_ | refine pu_eql ?_ | refine pu_neq ?_ | refine pu_lss ?_ | refine pu_leq ?_ | refine pu_gtr ?_ | refine pu_geq ?_ | refine pu_add ?_ | refine pu_sub ?_ | refine pu_mul ?_ | refine pu_neg ?_ | refine fa_at ?_ | refine nl_ptr ?_ | refine ex20 ?_ | refine ex21 ?_ | refine ex30 ?_ | refine ex31 ?_ | refine ex32 ?_ | refine ln_rule ?_ | refine lnT_rule ?_ | refine pu_and ?_ | refine pu_or ?_ | refine pu_xor ?_ | refine pu_seq ?_ | refine pu_sne ?_)
          refine onum_spec ?_
          repeat (first | refine pu_not ?_ | refine pu_eql ?_ | refine pu_neq ?_ | refine pu_lss ?_ | refine pu_leq ?_ | refine pu_gtr ?_ | refine pu_geq ?_ | refine pu_add ?_ | refine pu_sub ?_ | refine pu_mul ?_ | refine pu_neg ?_ | refine fa_at ?_ | refine nl_ptr ?_ | refine ex20 ?_ | refine ex21 ?_ | refine ex30 ?_ | refine ex31 ?_ | refine ex32 ?_ | refine ln_rule ?_ | refine lnT_rule ?_ | refine pu_and ?_ | refine pu_or ?_ | refine pu_xor ?_ | refine pu_seq ?_ | refine pu_sne ?_)
          refine cnd_f rfl ?_
          repeat (first | refine pu_not ?_ | refine pu_eql ?_ | refine pu_neq ?_ | refine pu_lss ?_ | refine pu_leq ?_ | refine pu_gtr ?_ | refine pu_geq ?_ | refine pu_add ?_ | refine pu_sub ?_ | refine pu_mul ?_ | refine pu_neg ?_ | refine fa_at ?_ | refine nl_ptr ?_ | refine ex20 ?_ | refine ex21 ?_ | refine ex30 ?_ | refine ex31 ?_ | refine ex32 ?_ | refine ln_rule ?_ | refine lnT_rule ?_ | refine pu_and ?_ | refine pu_or ?_ | refine pu_xor ?_ | refine pu_seq ?_ | refine pu_sne ?_)
          refine cnd_f (sneF (bs_tb s)) ?_
          repeat (first | refine pu_not ?_ | refine pu_eql ?_ | refine pu_neq ?_ | refine pu_lss ?_ | refine pu_leq ?_ | refine pu_gtr ?_ | refine pu_geq ?_ | refine pu_add ?_ | refine pu_sub ?_ | refine pu_mul ?_ | refine pu_neg ?_ | refine fa_at ?_ | refine nl_ptr ?_ | refine ex20 ?_ | refine ex21 ?_ | refine ex30 ?_ | refine ex31 ?_ | refine ex32 ?_ | refine ln_rule ?_ | refine lnT_rule ?_ | refine pu_and ?_ | refine pu_or ?_ | refine pu_xor ?_ | refine pu_seq ?_ | refine pu_sne ?_)
          refine cnd_f (by simp) ?_
          refine sl_ln hq ?_
          rw [List.length_map]
          repeat (first | refine pu_not ?_ | refine pu_eql ?_ | refine pu_neq ?_ | refine pu_lss ?_ | refine pu_leq ?_ | refine pu_gtr ?_ | refine pu_geq ?_ | refine pu_add ?_ | refine pu_sub ?_ | refine pu_mul ?_ | refine pu_neg ?_ | refine fa_at ?_ | refine nl_ptr ?_ | refine ex20 ?_ | refine ex21 ?_ | refine ex30 ?_ | refine ex31 ?_ | refine ex32 ?_ | refine ln_rule ?_ | refine lnT_rule ?_ | refine pu_and ?_ | refine pu_or ?_ | refine pu_xor ?_ | refine pu_seq ?_ | refine pu_sne ?_)
          refine cnd_f (by simp; omega) ?_
          refine cutL hq (by omega) (by simp; omega) (fun c hc => ?_)
          rw [Int.toNat_natCast]
          have hq2 := sl_cut (l := (tx (tb s)).length) (h := (bv (tx (tb s) ++ tx (tb t))).length) (m := c) hq (by simp) (Nat.le_refl _) hc
          rw [List.take_length, ← List.map_drop, List.drop_left' rfl] at hq2
          refine readText_spec (l := tx (tb t)) h15 hq2 ((nb_byt _).app (tb_byt t)) (by omega) (fun w16 h16 => ?_)
          have e16 := rt_tx (s := tb t) (by rw [tb_len]; omega) []
          rw [List.append_nil] at e16
          rw [e16]
          repeat (first | refine pu_not ?_ | refine pu_eql ?_ | refine pu_neq ?_ | refine pu_lss ?_ | refine pu_leq ?_ | refine pu_gtr ?_ | refine pu_geq ?_ | refine pu_add ?_ | refine pu_sub ?_ | refine pu_mul ?_ | refine pu_neg ?_ | refine fa_at ?_ | refine nl_ptr ?_ | refine ex20 ?_ | refine ex21 ?_ | refine ex30 ?_ | refine ex31 ?_ | refine ex32 ?_ | refine ln_rule ?_ | refine lnT_rule ?_ | refine pu_and ?_ | refine pu_or ?_ | refine pu_xor ?_ | refine pu_seq ?_ | refine pu_sne ?_)
          refine onum_spec ?_
          repeat (first | refine pu_not ?_ | refine pu_eql ?_ | refine pu_neq ?_ | refine pu_lss ?_ | refine pu_leq ?_ | refine pu_gtr ?_ | refine pu_geq ?_ | refine pu_add ?_ | refine pu_sub ?_ | refine pu_mul ?_ | refine pu_neg ?_ | refine fa_at ?_ | refine nl_ptr ?_ | refine ex20 ?_ | refine ex21 ?_ | refine ex30 ?_ | refine ex31 ?_ | refine ex32 ?_ | refine ln_rule ?_ | refine lnT_rule ?_ | refine pu_and ?_ | refine pu_or ?_ | refine pu_xor ?_ | refine pu_seq ?_ | refine pu_sne ?_)
          refine cnd_t rfl ?_
          repeat (first | refine pu_not ?_ | refine pu_eql ?_ | refine pu_neq ?_ | refine pu_lss ?_ | refine pu_leq ?_ | refine pu_gtr ?_ | refine pu_geq ?_ | refine pu_add ?_ | refine pu_sub ?_ | refine pu_mul ?_ | refine pu_neg ?_ | refine fa_at ?_ | refine nl_ptr ?_ | refine ex20 ?_ | refine ex21 ?_ | refine ex30 ?_ | refine ex31 ?_ | refine ex32 ?_ | refine ln_rule ?_ | refine lnT_rule ?_ | refine pu_and ?_ | refine pu_or ?_ | refine pu_xor ?_ | refine pu_seq ?_ | refine pu_sne ?_)
          refine cnd_t (seqT' (bs_tb t)) ?_
          repeat (first | refine pu_not ?_ | refine pu_eql ?_ | refine pu_neq ?_ | refine pu_lss ?_ | refine pu_leq ?_ | refine pu_gtr ?_ | refine pu_geq ?_ | refine pu_add ?_ | refine pu_sub ?_ | refine pu_mul ?_ | refine pu_neg ?_ | refine fa_at ?_ | refine nl_ptr ?_ | refine ex20 ?_ | refine ex21 ?_ | refine ex30 ?_ | refine ex31 ?_ | refine ex32 ?_ | refine ln_rule ?_ | refine lnT_rule ?_ | refine pu_and ?_ | refine pu_or ?_ | refine pu_xor ?_ | refine pu_seq ?_ | refine pu_sne ?_)
          refine sl_ln hq ?_
          rw [List.length_map]
          dsimp only
          repeat (first | refine pu_not ?_ | refine pu_eql ?_ | refine pu_neq ?_ | refine pu_lss ?_ | refine pu_leq ?_ | refine pu_gtr ?_ | refine pu_geq ?_ | refine pu_add ?_ | refine pu_sub ?_ | refine pu_mul ?_ | refine pu_neg ?_ | refine fa_at ?_ | refine nl_ptr ?_ | refine ex20 ?_ | refine ex21 ?_ | refine ex30 ?_ | refine ex31 ?_ | refine ex32 ?_ | refine ln_rule ?_ | refine lnT_rule ?_ | refine pu_and ?_ | refine pu_or ?_ | refine pu_xor ?_ | refine pu_seq ?_ | refine pu_sne ?_)
          rw [wrap64_in (by omega) (by omega)]
          refine cnd_t (by simp) ?_
          exact oworks_spec h16 (fun w' h' => k w' ((((h'.sub (List.sublist_append_right _ _)).sub (List.sublist_append_right _ _)).sub (List.sublist_append_right _ _))))
      · refine bs_rule hA [] (by kernel_rfl) (fun b10 w10 h10 => ?_)
        refine text_spec h10 (by omega) (fun S a w11 h11 ho => ?_)
        refine app1 (A := S) (S := [(b10, cel [] T.t_uint8)]) (z := v8 0) (bytes := 1) (by simpa using h11) (Own.mk (n := 0) (cap := 0) (xs := []) (Nat.le_refl _) (Nat.zero_le _) rfl rfl) ho.sl (fun y hy => List.mem_append_left _ (List.mem_append_left _ hy)) (by simp [plainV]) und_slb info_u8 rfl (by simp [maxLen]; omega) (by simp; omega) (fun S2 p w12 h12 ho12 => ?_)
        have h12 := h12.sub ((List.sublist_append_right S S2).append (List.Sublist.refl _))
        refine text_spec h12 (by omega) (fun S3 a3 w13 h13 ho13 => ?_)
        refine app1 (A := S3) (S := S2) (z := v8 0) (bytes := 1) (by simpa using h13) ho12 ho13.sl (fun y hy => List.mem_append_left _ (List.mem_append_left _ hy)) (by simp [plainV]) und_slb info_u8 rfl (by simp [maxLen]; omega) (by simp; omega) (fun S4 q w14 h14 ho14 => ?_)
        have h14 := h14.sub ((List.sublist_append_right S3 S4).append (List.Sublist.refl _))
        have hq : Sl S4 q (bv (tx (tb s) ++ tx (tb t))) := by simpa using ho14.sl
        have hq : Sl (S4 ++ (Sn ++ (Sm ++ H))) q (bv (tx (tb s) ++ tx (tb t))) := hq.mono fun x hx => List.mem_append_left _ hx
        refine readText_spec (l := tx (tb s) ++ tx (tb t)) h14 hq htb (by simp; omega) (fun w15 h15 => ?_)
        rw [rt_tx (by rw [tb_len]; omega)]
        repeat (first | refine pu_not ?_ | refine pu_eql ?_ | refine pu_neq ?_ | refine pu_lss ?_ | refine pu_leq ?_ | refine pu_gtr ?_ | refine pu_geq ?_ | refine pu_add ?_ | refine pu_sub ?_ | refine pu_mul ?_ | refine pu_neg ?_ | refine fa_at ?_ | refine nl_ptr ?_ | refine ex20 ?_ | refine ex21 ?_ | refine ex30 ?_ | refine ex31 ?_ | refine ex32 ?_ | refine ln_rule ?_ | refine lnT_rule ?_ | refine pu_and ?_ | refine pu_or ?_ | refine pu_xor ?_ | refine pu_seq ?_ | refine pu_sne ?_)
        refine onum_spec ?_
        repeat (first | refine pu_not ?_ | refine pu_eql ?_ | refine pu_neq ?_ | refine pu_lss ?_ | refine pu_leq ?_ | refine pu_gtr ?_ | refine pu_geq ?_ | refine pu_add ?_ | refine pu_sub ?_ | refine pu_mul ?_ | refine pu_neg ?_ | refine fa_at ?_ | refine nl_ptr ?_ | refine ex20 ?_ | refine ex21 ?_ | refine ex30 ?_ | refine ex31 ?_ | refine ex32 ?_ | refine ln_rule ?_ | refine lnT_rule ?_ | refine pu_and ?_ | refine pu_or ?_ | refine pu_xor ?_ | refine pu_seq ?_ | refine pu_sne ?_)
        refine cnd_f rfl ?_
        repeat (first | refine pu_not ?_ | refine pu_eql ?_ | refine pu_neq ?_ | refine pu_lss ?_ | refine pu_leq ?_ | refine pu_gtr ?_ | refine pu_geq ?_ | refine pu_add ?_ | refine pu_sub ?_ | refine pu_mul ?_ | refine pu_neg ?_ | refine fa_at ?_ | refine nl_ptr ?_ | refine ex20 ?_ | refine ex21 ?_ | refine ex30 ?_ | refine ex31 ?_ | refine ex32 ?_ | refine ln_rule ?_ | refine lnT_rule ?_ | refine pu_and ?_ | refine pu_or ?_ | refine pu_xor ?_ | refine pu_seq ?_ | refine pu_sne ?_)
        refine cnd_f (sneF (bs_tb s)) ?_
        repeat (first | refine pu_not ?_ | refine pu_eql ?_ | refine pu_neq ?_ | refine pu_lss ?_ | refine pu_leq ?_ | refine pu_gtr ?_ | refine pu_geq ?_ | refine pu_add ?_ | refine pu_sub ?_ | refine pu_mul ?_ | refine pu_neg ?_ | refine fa_at ?_ | refine nl_ptr ?_ | refine ex20 ?_ | refine ex21 ?_ | refine ex30 ?_ | refine ex31 ?_ | refine ex32 ?_ | refine ln_rule ?_ | refine lnT_rule ?_ | refine pu_and ?_ | refine pu_or ?_ | refine pu_xor ?_ | refine pu_seq ?_ | refine pu_sne ?_)
        refine cnd_f (by simp) ?_
        refine sl_ln hq ?_
        rw [List.length_map]
        repeat (first | refine pu_not ?_ | refine pu_eql ?_ | refine pu_neq ?_ | refine pu_lss ?_ | refine pu_leq ?_ | refine pu_gtr ?_ | refine pu_geq ?_ | refine pu_add ?_ | refine pu_sub ?_ | refine pu_mul ?_ | refine pu_neg ?_ | refine fa_at ?_ | refine nl_ptr ?_ | refine ex20 ?_ | refine ex21 ?_ | refine ex30 ?_ | refine ex31 ?_ | refine ex32 ?_ | refine ln_rule ?_ | refine lnT_rule ?_ | refine pu_and ?_ | refine pu_or ?_ | refine pu_xor ?_ | refine pu_seq ?_ | refine pu_sne ?_)
        refine cnd_f (by simp; omega) ?_
        refine cutL hq (by omega) (by simp; omega) (fun c hc => ?_)
        rw [Int.toNat_natCast]
        have hq2 := sl_cut (l := (tx (tb s)).length) (h := (bv (tx (tb s) ++ tx (tb t))).length) (m := c) hq (by simp) (Nat.le_refl _) hc
        rw [List.take_length, ← List.map_drop, List.drop_left' rfl] at hq2
        refine readText_spec (l := tx (tb t)) h15 hq2 ((nb_byt _).app (tb_byt t)) (by omega) (fun w16 h16 => ?_)
        have e16 := rt_tx (s := tb t) (by rw [tb_len]; omega) []
        rw [List.append_nil] at e16
        rw [e16]
        repeat (first | refine pu_not ?_ | refine pu_eql ?_ | refine pu_neq ?_ | refine pu_lss ?_ | refine pu_leq ?_ | refine pu_gtr ?_ | refine pu_geq ?_ | refine pu_add ?_ | refine pu_sub ?_ | refine pu_mul ?_ | refine pu_neg ?_ | refine fa_at ?_ | refine nl_ptr ?_ | refine ex20 ?_ | refine ex21 ?_ | refine ex30 ?_ | refine ex31 ?_ | refine ex32 ?_ | refine ln_rule ?_ | refine lnT_rule ?_ | refine pu_and ?_ | refine pu_or ?_ | refine pu_xor ?_ | refine pu_seq ?_ | refine pu_sne ?_)
        refine onum_spec ?_
        repeat (first | refine pu_not ?_ | refine pu_eql ?_ | refine pu_neq ?_ | refine pu_lss ?_ | refine pu_leq ?_ | refine pu_gtr ?_ | refine pu_geq ?_ | refine pu_add ?_ | refine pu_sub ?_ | refine pu_mul ?_ | refine pu_neg ?_ | refine fa_at ?_ | refine nl_ptr ?_ | refine ex20 ?_ | refine ex21 ?_ | refine ex30 ?_ | refine ex31 ?_ | refine ex32 ?_ | refine ln_rule ?_ | refine lnT_rule ?_ | refine pu_and ?_ | refine pu_or ?_ | refine pu_xor ?_ | refine pu_seq ?_ | refine pu_sne ?_)
        refine cnd_t rfl ?_
        repeat (first | refine pu_not ?_ | refine pu_eql ?_ | refine pu_neq ?_ | refine pu_lss ?_ | refine pu_leq ?_ | refine pu_gtr ?_ | refine pu_geq ?_ | refine pu_add ?_ | refine pu_sub ?_ | refine pu_mul ?_ | refine pu_neg ?_ | refine fa_at ?_ | refine nl_ptr ?_ | refine ex20 ?_ | refine ex21 ?_ | refine ex30 ?_ | refine ex31 ?_ | refine ex32 ?_ | refine ln_rule ?_ | refine lnT_rule ?_ | refine pu_and ?_ | refine pu_or ?_ | refine pu_xor ?_ | refine pu_seq ?_ | refine pu_sne ?_)
        refine cnd_t (seqT' (bs_tb t)) ?_
        repeat (first | refine pu_not ?_ | refine pu_eql ?_ | refine pu_neq ?_ | refine pu_lss ?_ | refine pu_leq ?_ | refine pu_gtr ?_ | refine pu_geq ?_ | refine pu_add ?_ | refine pu_sub ?_ | refine pu_mul ?_ | refine pu_neg ?_ | refine fa_at ?_ | refine nl_ptr ?_ | refine ex20 ?_ | refine ex21 ?_ | refine ex30 ?_ | refine ex31 ?_ | refine ex32 ?_ | refine ln_rule ?_ | refine lnT_rule ?_ | refine pu_and ?_ | refine pu_or ?_ | refine pu_xor ?_ | refine pu_seq ?_ | refine pu_sne ?_)
        refine sl_ln hq ?_
        rw [List.length_map]
        dsimp only
        repeat (first | refine pu_not ?_ | refine pu_eql ?_ | refine pu_neq ?_ | refine pu_lss ?_ | refine pu_leq ?_ | refine pu_gtr ?_ | refine pu_geq ?_ | refine pu_add ?_ | refine pu_sub ?_ | refine pu_mul ?_ | refine pu_neg ?_ | refine fa_at ?_ | refine nl_ptr ?_ | refine ex20 ?_ | refine ex21 ?_ | refine ex30 ?_ | refine ex31 ?_ | refine ex32 ?_ | refine ln_rule ?_ | refine lnT_rule ?_ | refine pu_and ?_ | refine pu_or ?_ | refine pu_xor ?_ | refine pu_seq ?_ | refine pu_sne ?_)
        rw [wrap64_in (by omega) (by omega)]
        refine cnd_t (by simp) ?_
        exact oworks_spec h16 (fun w' h' => k w' ((((h'.sub (List.sublist_append_right _ _)).sub (List.sublist_append_right _ _)).sub (List.sublist_append_right _ _))))
    · refine bs_rule hA [] (by kernel_rfl) (fun b10 w10 h10 => ?_)
      refine text_spec h10 (by omega) (fun S a w11 h11 ho => ?_)
      refine app1 (A := S) (S := [(b10, cel [] T.t_uint8)]) (z := v8 0) (bytes := 1) (by simpa using h11) (Own.mk (n := 0) (cap := 0) (xs := []) (Nat.le_refl _) (Nat.zero_le _) rfl rfl) ho.sl (fun y hy => List.mem_append_left _ (List.mem_append_left _ hy)) (by simp [plainV]) und_slb info_u8 rfl (by simp [maxLen]; omega) (by simp; omega) (fun S2 p w12 h12 ho12 => ?_)
      have h12 := h12.sub ((List.sublist_append_right S S2).append (List.Sublist.refl _))
      refine text_spec h12 (by omega) (fun S3 a3 w13 h13 ho13 => ?_)
      refine app1 (A := S3) (S := S2) (z := v8 0) (bytes := 1) (by simpa using h13) ho12 ho13.sl (fun y hy => List.mem_append_left _ (List.mem_append_left _ hy)) (by simp [plainV]) und_slb info_u8 rfl (by simp [maxLen]; omega) (by simp; omega) (fun S4 q w14 h14 ho14 => ?_)
      have h14 := h14.sub ((List.sublist_append_right S3 S4).append (List.Sublist.refl _))
      have hq : Sl S4 q (bv (tx (tb s) ++ tx (tb t))) := by simpa using ho14.sl
      have hq : Sl (S4 ++ (Sn ++ (Sm ++ H))) q (bv (tx (tb s) ++ tx (tb t))) := hq.mono fun x hx => List.mem_append_left _ hx
      refine readText_spec (l := tx (tb s) ++ tx (tb t)) h14 hq htb (by simp; omega) (fun w15 h15 => ?_)
      rw [rt_tx (by rw [tb_len]; omega)]
      repeat (first | refine pu_not ?_ | refine pu_eql ?_ | refine pu_neq ?_ | refine pu_lss ?_ | refine pu_leq ?_ | refine pu_gtr ?_ | refine pu_geq ?_ | refine pu_add ?_ | refine pu_sub ?_ | refine pu_mul ?_ | refine pu_neg ?_ | refine fa_at ?_ | refine nl_ptr ?_ | refine ex20 ?_ | refine ex21 ?_ | refine ex30 ?_ | refine ex31 ?_ | refine ex32 ?_ | refine ln_rule ?_ | refine lnT_rule ?_ | refine pu_and ?_ | refine pu_or ?_ | refine pu_xor ?_ | refine pu_seq ?_ | refine pu_sne ?_)
      refine onum_spec ?_
      repeat (first | refine pu_not ?_ | refine pu_eql ?_ | refine pu_neq ?_ | refine pu_lss ?_ | refine pu_leq ?_ | refine pu_gtr ?_ | refine pu_geq ?_ | refine pu_add ?_ | refine pu_sub ?_ | refine pu_mul ?_ | refine pu_neg ?_ | refine fa_at ?_ | refine nl_ptr ?_ | refine ex20 ?_ | refine ex21 ?_ | refine ex30 ?_ | refine ex31 ?_ | refine ex32 ?_ | refine ln_rule ?_ | refine lnT_rule ?_ | refine pu_and ?_ | refine pu_or ?_ | refine pu_xor ?_ | refine pu_seq ?_ | refine pu_sne ?_)
      refine cnd_f rfl ?_
      repeat (first | refine pu_not ?_ | refine pu_eql ?_ | refine pu_neq ?_ | refine pu_lss ?_ | refine pu_leq ?_ | refine pu_gtr ?_ | refine pu_geq ?_ | refine pu_add ?_ | refine pu_sub ?_ | refine pu_mul ?_ | refine pu_neg ?_ | refine fa_at ?_ | refine nl_ptr ?_ | refine ex20 ?_ | refine ex21 ?_ | refine ex30 ?_ | refine ex31 ?_ | refine ex32 ?_ | refine ln_rule ?_ | refine lnT_rule ?_ | refine pu_and ?_ | refine pu_or ?_ | refine pu_xor ?_ | refine pu_seq ?_ | refine pu_sne ?_)
      refine cnd_f (sneF (bs_tb s)) ?_
      repeat (first | refine pu_not ?_ | refine pu_eql ?_ | refine pu_neq ?_ | refine pu_lss ?_ | refine pu_leq ?_ | refine pu_gtr ?_ | refine pu_geq ?_ | refine pu_add ?_ | refine pu_sub ?_ | refine pu_mul ?_ | refine pu_neg ?_ | refine fa_at ?_ | refine nl_ptr ?_ | refine ex20 ?_ | refine ex21 ?_ | refine ex30 ?_ | refine ex31 ?_ | refine ex32 ?_ | refine ln_rule ?_ | refine lnT_rule ?_ | refine pu_and ?_ | refine pu_or ?_ | refine pu_xor ?_ | refine pu_seq ?_ | refine pu_sne ?_)
      refine cnd_f (by simp) ?_
      refine sl_ln hq ?_
      rw [List.length_map]
      repeat (first | refine pu_not ?_ | refine pu_eql ?_ | refine pu_neq ?_ | refine pu_lss ?_ | refine pu_leq ?_ | refine pu_gtr ?_ | refine pu_geq ?_ | refine pu_add ?_ | refine pu_sub ?_ | refine pu_mul ?_ | refine pu_neg ?_ | refine fa_at ?_ | refine nl_ptr ?_ | refine ex20 ?_ | refine ex21 ?_ | refine ex30 ?_ | refine ex31 ?_ | refine ex32 ?_ | refine ln_rule ?_ | refine lnT_rule ?_ | refine pu_and ?_ | refine pu_or ?_ | refine pu_xor ?_ | refine pu_seq ?_ | refine pu_sne ?_)
      refine cnd_f (by simp; omega) ?_
      refine cutL hq (by omega) (by simp; omega) (fun c hc => ?_)
      rw [Int.toNat_natCast]
      have hq2 := sl_cut (l := (tx (tb s)).length) (h := (bv (tx (tb s) ++ tx (tb t))).length) (m := c) hq (by simp) (Nat.le_refl _) hc
      rw [List.take_length, ← List.map_drop, List.drop_left' rfl] at hq2
      refine readText_spec (l := tx (tb t)) h15 hq2 ((nb_byt _).app (tb_byt t)) (by omega) (fun w16 h16 => ?_)
      have e16 := rt_tx (s := tb t) (by rw [tb_len]; omega) []
      rw [List.append_nil] at e16
      rw [e16]
      repeat (first | refine pu_not ?_ | refine pu_eql ?_ | refine pu_neq ?_ | refine pu_lss ?_ | refine pu_leq ?_ | refine pu_gtr ?_ | refine pu_geq ?_ | refine pu_add ?_ | refine pu_sub ?_ | refine pu_mul ?_ | refine pu_neg ?_ | refine fa_at ?_ | refine nl_ptr ?_ | refine ex20 ?_ | refine ex21 ?_ | refine ex30 ?_ | refine ex31 ?_ | refine ex32 ?_ | refine ln_rule ?_ | refine lnT_rule ?_ | refine pu_and ?_ | refine pu_or ?_ | refine pu_xor ?_ | refine pu_seq ?_ | refine pu_sne ?_)
      refine onum_spec ?_
      repeat (first | refine pu_not ?_ | refine pu_eql ?_ | refine pu_neq ?_ | refine pu_lss ?_ | refine pu_leq ?_ | refine pu_gtr ?_ | refine pu_geq ?_ | refine pu_add ?_ | refine pu_sub ?_ | refine pu_mul ?_ | refine pu_neg ?_ | refine fa_at ?_ | refine nl_ptr ?_ | refine ex20 ?_ | refine ex21 ?_ | refine ex30 ?_ | refine ex31 ?_ | refine ex32 ?_ | refine ln_rule ?_ | refine lnT_rule ?_ | refine pu_and ?_ | refine pu_or ?_ | refine pu_xor ?_ | refine pu_seq ?_ | refine pu_sne ?_)
      refine cnd_t rfl ?_
      repeat (first | refine pu_not ?_ | refine pu_eql ?_ | refine pu_neq ?_ | refine pu_lss ?_ | refine pu_leq ?_ | refine pu_gtr ?_ | refine pu_geq ?_ | refine pu_add ?_ | refine pu_sub ?_ | refine pu_mul ?_ | refine pu_neg ?_ | refine fa_at ?_ | refine nl_ptr ?_ | refine ex20 ?_ | refine ex21 ?_ | refine ex30 ?_ | refine ex31 ?_ | refine ex32 ?_ | refine ln_rule ?_ | refine lnT_rule ?_ | refine pu_and ?_ | refine pu_or ?_ | refine pu_xor ?_ | refine pu_seq ?_ | refine pu_sne ?_)
      refine cnd_t (seqT' (bs_tb t)) ?_
      repeat (first | refine pu_not ?_ | refine pu_eql ?_ | refine pu_neq ?_ | refine pu_lss ?_ | refine pu_leq ?_ | refine pu_gtr ?_ | refine pu_geq ?_ | refine pu_add ?_ | refine pu_sub ?_ | refine pu_mul ?_ | refine pu_neg ?_ | refine fa_at ?_ | refine nl_ptr ?_ | refine ex20 ?_ | refine ex21 ?_ | refine ex30 ?_ | refine ex31 ?_ | refine ex32 ?_ | refine ln_rule ?_ | refine lnT_rule ?_ | refine pu_and ?_ | refine pu_or ?_ | refine pu_xor ?_ | refine pu_seq ?_ | refine pu_sne ?_)
      refine sl_ln hq ?_
      rw [List.length_map]
      dsimp only
      repeat (first | refine pu_not ?_ | refine pu_eql ?_ | refine pu_neq ?_ | refine pu_lss ?_ | refine pu_leq ?_ | refine pu_gtr ?_ | refine pu_geq ?_ | refine pu_add ?_ | refine pu_sub ?_ | refine pu_mul ?_ | refine pu_neg ?_ | refine fa_at ?_ | refine nl_ptr ?_ | refine ex20 ?_ | refine ex21 ?_ | refine ex30 ?_ | refine ex31 ?_ | refine ex32 ?_ | refine ln_rule ?_ | refine lnT_rule ?_ | refine pu_and ?_ | refine pu_or ?_ | refine pu_xor ?_ | refine pu_seq ?_ | refine pu_sne ?_)
      rw [wrap64_in (by omega) (by omega)]
      refine cnd_t (by simp) ?_
      exact oworks_spec h16 (fun w' h' => k w' ((((h'.sub (List.sublist_append_right _ _)).sub (List.sublist_append_right _ _)).sub (List.sublist_append_right _ _))))
  · refine number_spec h3 hn (fun Sn an w4 h4 hon => ?_)
    have hm' : Sl (Sn ++ (Sm ++ H)) am (bv (nb m)) := hom.sl.mono fun x hx => List.mem_append_right _ (List.mem_append_left _ hx)
    have hn' : Sl (Sn ++ (Sm ++ H)) an (bv (nb n)) := hon.sl.mono fun x hx => List.mem_append_left _ hx
    have hA := h4
    refine ⟨?_, ?_⟩
    · refine strOf h4 hm' ?_
      refine strOf h4 hn' ?_
      repeat (first | refine pu_not ?_ | refine pu_eql ?_ | refine pu_neq ?_ | refine pu_lss ?_ | refine pu_leq ?_ | refine pu_gtr ?_ | refine pu_geq ?_ | refine pu_add ?_ | refine pu_sub ?_ | refine pu_mul ?_ | refine pu_neg ?_ | refine fa_at ?_ | refine nl_ptr ?_ | refine ex20 ?_ | refine ex21 ?_ | refine ex30 ?_ | refine ex31 ?_ | refine ex32 ?_ | refine ln_rule ?_ | refine lnT_rule ?_ | refine pu_and ?_ | refine pu_or ?_ | refine pu_xor ?_ | refine pu_seq ?_ | refine pu_sne ?_)
      refine pu_bneq und_bool ?_
      refine cnd_f ?_ ?_
      · rw [bytes_eq]
        by_cases he : m = n
        · subst he; simp
        · have : ¬ bs (nb m) = bs (nb n) := fun h => he (hinj.1 h)
          simp only [this, decide_false, bne_eq_false_iff_eq, ibeq]
          have : ¬ (m : Int) = n := by omega
          simp [this]
      repeat (first | refine pu_not ?_ | refine pu_eql ?_ | refine pu_neq ?_ | refine pu_lss ?_ | refine pu_leq ?_ | refine pu_gtr ?_ | refine pu_geq ?_ | refine pu_add ?_ | refine pu_sub ?_ | refine pu_mul ?_ | refine pu_neg ?_ | refine fa_at ?_ | refine nl_ptr ?_ | refine ex20 ?_ | refine ex21 ?_ | refine ex30 ?_ | refine ex31 ?_ | refine ex32 ?_ | refine ln_rule ?_ | refine lnT_rule ?_ | refine pu_and ?_ | refine pu_or ?_ | refine pu_xor ?_ | refine pu_seq ?_ | refine pu_sne ?_)
      refine cnd (fun hne => ?_) (fun heq => ?_)
      · have hne : m ≠ n := by rintro rfl; simp at hne
        repeat (first | refine pu_not ?_ | refine pu_eql ?_ | refine pu_neq ?_ | refine pu_lss ?_ | refine pu_leq ?_ | refine pu_gtr ?_ | refine pu_geq ?_ | refine pu_add ?_ | refine pu_sub ?_ | refine pu_mul ?_ | refine pu_neg ?_ | refine fa_at ?_ | refine nl_ptr ?_ | refine ex20 ?_ | refine ex21 ?_ | refine ex30 ?_ | refine ex31 ?_ | refine ex32 ?_ | refine ln_rule ?_ | refine lnT_rule ?_ | refine pu_and ?_ | refine pu_or ?_ | refine pu_xor ?_ | refine pu_seq ?_ | refine pu_sne ?_)
        refine cnd (fun hle2 => ?_) (fun _ => ?_)
        · rw [bs_size, bs_size] at hle2
          have hle2 : (nb m).length ≤ (nb n).length := by simp at hle2; omega
          repeat (first | refine pu_not ?_ | refine pu_eql ?_ | refine pu_neq ?_ | refine pu_lss ?_ | refine pu_leq ?_ | refine pu_gtr ?_ | refine pu_geq ?_ | refine pu_add ?_ | refine pu_sub ?_ | refine pu_mul ?_ | refine pu_neg ?_ | refine fa_at ?_ | refine nl_ptr ?_ | refine ex20 ?_ | refine ex21 ?_ | refine ex30 ?_ | refine ex31 ?_ | refine ex32 ?_ | refine ln_rule ?_ | refine lnT_rule ?_ | refine pu_and ?_ | refine pu_or ?_ | refine pu_xor ?_ | refine pu_seq ?_ | refine pu_sne ?_)
          rw [bs_size]
          refine pu_cutS (by omega) (by rw [bs_size]; omega) ?_
          rw [Int.toNat_natCast, bs_extract]
          repeat (first | refine pu_not ?_ | refine pu_eql ?_ | refine pu_neq ?_ | refine pu_lss ?_ | refine pu_leq ?_ | refine pu_gtr ?_ | refine pu_geq ?_ | refine pu_add ?_ | refine pu_sub ?_ | refine pu_mul ?_ | refine pu_neg ?_ | refine fa_at ?_ | refine nl_ptr ?_ | refine ex20 ?_ | refine ex21 ?_ | refine ex30 ?_ | refine ex31 ?_ | refine ex32 ?_ | refine ln_rule ?_ | refine lnT_rule ?_ | refine pu_and ?_ | refine pu_or ?_ | refine pu_xor ?_ | refine pu_seq ?_ | refine pu_sne ?_)
          refine cnd_f ?_ ?_
          · rw [bytes_eq]
            simp only [decide_eq_false_iff_not]
            rw [bs_inj ((nb_byt n).take _) (nb_byt m)]
            exact fun he => hne (nb_prefix hm hn he)
          · refine bs_rule hA [] (by kernel_rfl) (fun b10 w10 h10 => ?_)
            refine text_spec h10 (by omega) (fun S a w11 h11 ho => ?_)
            refine app1 (A := S) (S := [(b10, cel [] T.t_uint8)]) (z := v8 0) (bytes := 1) (by simpa using h11) (Own.mk (n := 0) (cap := 0) (xs := []) (Nat.le_refl _) (Nat.zero_le _) rfl rfl) ho.sl (fun y hy => List.mem_append_left _ (List.mem_append_left _ hy)) (by simp [plainV]) und_slb info_u8 rfl (by simp [maxLen]; omega) (by simp; omega) (fun S2 p w12 h12 ho12 => ?_)
            have h12 := h12.sub ((List.sublist_append_right S S2).append (List.Sublist.refl _))
            refine text_spec h12 (by omega) (fun S3 a3 w13 h13 ho13 => ?_)
            refine app1 (A := S3) (S := S2) (z := v8 0) (bytes := 1) (by simpa using h13) ho12 ho13.sl (fun y hy => List.mem_append_left _ (List.mem_append_left _ hy)) (by simp [plainV]) und_slb info_u8 rfl (by simp [maxLen]; omega) (by simp; omega) (fun S4 q w14 h14 ho14 => ?_)
            have h14 := h14.sub ((List.sublist_append_right S3 S4).append (List.Sublist.refl _))
            have hq : Sl S4 q (bv (tx (tb s) ++ tx (tb t))) := by simpa using ho14.sl
            have hq : Sl (S4 ++ (Sn ++ (Sm ++ H))) q (bv (tx (tb s) ++ tx (tb t))) := hq.mono fun x hx => List.mem_append_left _ hx
            refine readText_spec (l := tx (tb s) ++ tx (tb t)) h14 hq htb (by simp; omega) (fun w15 h15 => ?_)
            rw [rt_tx (by rw [tb_len]; omega)]
            repeat (first | refine pu_not ?_ | refine pu_eql ?_ | refine pu_neq ?_ | refine pu_lss ?_ | refine pu_leq ?_ | refine pu_gtr ?_ | refine pu_geq ?_ | refine pu_add ?_ | refine pu_sub ?_ | refine pu_mul ?_ | refine pu_neg ?_ | refine fa_at ?_ | refine nl_ptr ?_ | refine ex20 ?_ | refine ex21 ?_ | refine ex30 ?_ | refine ex31 ?_ | refine ex32 ?_ | refine ln_rule ?_ | refine lnT_rule ?_ | refine pu_and ?_ | refine pu_or ?_ | refine pu_xor ?_ | refine pu_seq ?_ | refine pu_sne ?_)
            refine onum_spec ?_
            repeat (first | refine pu_not ?_ | refine pu_eql ?_ | refine pu_neq ?_ | refine pu_lss ?_ | refine pu_leq ?_ | refine pu_gtr ?_ | refine pu_geq ?_ | refine pu_add ?_ | refine pu_sub ?_ | refine pu_mul ?_ | refine pu_neg ?_ | refine fa_at ?_ | refine nl_ptr ?_ | refine ex20 ?_ | refine ex21 ?_ | refine ex30 ?_ | refine ex31 ?_ | refine ex32 ?_ | refine ln_rule ?_ | refine lnT_rule ?_ | refine pu_and ?_ | refine pu_or ?_ | refine pu_xor ?_ | refine pu_seq ?_ | refine pu_sne ?_)
            refine cnd_f rfl ?_
            repeat (first | refine pu_not ?_ | refine pu_eql ?_ | refine pu_neq ?_ | refine pu_lss ?_ | refine pu_leq ?_ | refine pu_gtr ?_ | refine pu_geq ?_ | refine pu_add ?_ | refine pu_sub ?_ | refine pu_mul ?_ | refine pu_neg ?_ | refine fa_at ?_ | refine nl_ptr ?_ | refine ex20 ?_ | refine ex21 ?_ | refine ex30 ?_ | refine ex31 ?_ | refine ex32 ?_ | refine ln_rule ?_ | refine lnT_rule ?_ | refine pu_and ?_ | refine pu_or ?_ | refine pu_xor ?_ | refine pu_seq ?_ | refine pu_sne ?_)
            refine cnd_f (sneF (bs_tb s)) ?_
            repeat (first | refine pu_not ?_ | refine pu_eql ?_ | refine pu_neq ?_ | refine pu_lss ?_ | refine pu_leq ?_ | refine pu_gtr ?_ | refine pu_geq ?_ | refine pu_add ?_ | refine pu_sub ?_ | refine pu_mul ?_ | refine pu_neg ?_ | refine fa_at ?_ | refine nl_ptr ?_ | refine ex20 ?_ | refine ex21 ?_ | refine ex30 ?_ | refine ex31 ?_ | refine ex32 ?_ | refine ln_rule ?_ | refine lnT_rule ?_ | refine pu_and ?_ | refine pu_or ?_ | refine pu_xor ?_ | refine pu_seq ?_ | refine pu_sne ?_)
            refine cnd_f (by simp) ?_
            refine sl_ln hq ?_
            rw [List.length_map]
            repeat (first | refine pu_not ?_ | refine pu_eql ?_ | refine pu_neq ?_ | refine pu_lss ?_ | refine pu_leq ?_ | refine pu_gtr ?_ | refine pu_geq ?_ | refine pu_add ?_ | refine pu_sub ?_ | refine pu_mul ?_ | refine pu_neg ?_ | refine fa_at ?_ | refine nl_ptr ?_ | refine ex20 ?_ | refine ex21 ?_ | refine ex30 ?_ | refine ex31 ?_ | refine ex32 ?_ | refine ln_rule ?_ | refine lnT_rule ?_ | refine pu_and ?_ | refine pu_or ?_ | refine pu_xor ?_ | refine pu_seq ?_ | refine pu_sne ?_)
            refine cnd_f (by simp; omega) ?_
            refine cutL hq (by omega) (by simp; omega) (fun c hc => ?_)
            rw [Int.toNat_natCast]
            have hq2 := sl_cut (l := (tx (tb s)).length) (h := (bv (tx (tb s) ++ tx (tb t))).length) (m := c) hq (by simp) (Nat.le_refl _) hc
            rw [List.take_length, ← List.map_drop, List.drop_left' rfl] at hq2
            refine readText_spec (l := tx (tb t)) h15 hq2 ((nb_byt _).app (tb_byt t)) (by omega) (fun w16 h16 => ?_)
            have e16 := rt_tx (s := tb t) (by rw [tb_len]; omega) []
            rw [List.append_nil] at e16
            rw [e16]
            repeat (first | refine pu_not ?_ | refine pu_eql ?_ | refine pu_neq ?_ | refine pu_lss ?_ | refine pu_leq ?_ | refine pu_gtr ?_ | refine pu_geq ?_ | refine pu_add ?_ | refine pu_sub ?_ | refine pu_mul ?_ | refine pu_neg ?_ | refine fa_at ?_ | refine nl_ptr ?_ | refine ex20 ?_ | refine ex21 ?_ | refine ex30 ?_ | refine ex31 ?_ | refine ex32 ?_ | refine ln_rule ?_ | refine lnT_rule ?_ | refine pu_and ?_ | refine pu_or ?_ | refine pu_xor ?_ | refine pu_seq ?_ | refine pu_sne ?_)
            refine onum_spec ?_
            repeat (first | refine pu_not ?_ | refine pu_eql ?_ | refine pu_neq ?_ | refine pu_lss ?_ | refine pu_leq ?_ | refine pu_gtr ?_ | refine pu_geq ?_ | refine pu_add ?_ | refine pu_sub ?_ | refine pu_mul ?_ | refine pu_neg ?_ | refine fa_at ?_ | refine nl_ptr ?_ | refine ex20 ?_ | refine ex21 ?_ | refine ex30 ?_ | refine ex31 ?_ | refine ex32 ?_ | refine ln_rule ?_ | refine lnT_rule ?_ | refine pu_and ?_ | refine pu_or ?_ | refine pu_xor ?_ | refine pu_seq ?_ | refine pu_sne ?_)
            refine cnd_t rfl ?_
            repeat (first | refine pu_not ?_ | refine pu_eql ?_ | refine pu_neq ?_ | refine pu_lss ?_ | refine pu_leq ?_ | refine pu_gtr ?_ | refine pu_geq ?_ | refine pu_add ?_ | refine pu_sub ?_ | refine pu_mul ?_ | refine pu_neg ?_ | refine fa_at ?_ | refine nl_ptr ?_ | refine ex20 ?_ | refine ex21 ?_ | refine ex30 ?_ | refine ex31 ?_ | refine ex32 ?_ | refine ln_rule ?_ | refine lnT_rule ?_ | refine pu_and ?_ | refine pu_or ?_ | refine pu_xor ?_ | refine pu_seq ?_ | refine pu_sne ?_)
            refine cnd_t (seqT' (bs_tb t)) ?_
            repeat (first | refine pu_not ?_ | refine pu_eql ?_ | refine pu_neq ?_ | refine pu_lss ?_ | refine pu_leq ?_ | refine pu_gtr ?_ | refine pu_geq ?_ | refine pu_add ?_ | refine pu_sub ?_ | refine pu_mul ?_ | refine pu_neg ?_ | refine fa_at ?_ | refine nl_ptr ?_ | refine ex20 ?_ | refine ex21 ?_ | refine ex30 ?_ | refine ex31 ?_ | refine ex32 ?_ | refine ln_rule ?_ | refine lnT_rule ?_ | refine pu_and ?_ | refine pu_or ?_ | refine pu_xor ?_ | refine pu_seq ?_ | refine pu_sne ?_)
            refine sl_ln hq ?_
            rw [List.length_map]
            dsimp only
            repeat (first | refine pu_not ?_ | refine pu_eql ?_ | refine pu_neq ?_ | refine pu_lss ?_ | refine pu_leq ?_ | refine pu_gtr ?_ | refine pu_geq ?_ | refine pu_add ?_ | refine pu_sub ?_ | refine pu_mul ?_ | refine pu_neg ?_ | refine fa_at ?_ | refine nl_ptr ?_ | refine ex20 ?_ | refine ex21 ?_ | refine ex30 ?_ | refine ex31 ?_ | refine ex32 ?_ | refine ln_rule ?_ | refine lnT_rule ?_ | refine pu_and ?_ | refine pu_or ?_ | refine pu_xor ?_ | refine pu_seq ?_ | refine pu_sne ?_)
            rw [wrap64_in (by omega) (by omega)]
            refine cnd_t (by simp) ?_
            exact oworks_spec h16 (fun w' h' => k w' ((((h'.sub (List.sublist_append_right _ _)).sub (List.sublist_append_right _ _)).sub (List.sublist_append_right _ _))))
        · refine bs_rule hA [] (by kernel_rfl) (fun b10 w10 h10 => ?_)
          refine text_spec h10 (by omega) (fun S a w11 h11 ho => ?_)
          refine app1 (A := S) (S := [(b10, cel [] T.t_uint8)]) (z := v8 0) (bytes := 1) (by simpa using h11) (Own.mk (n := 0) (cap := 0) (xs := []) (Nat.le_refl _) (Nat.zero_le _) rfl rfl) ho.sl (fun y hy => List.mem_append_left _ (List.mem_append_left _ hy)) (by simp [plainV]) und_slb info_u8 rfl (by simp [maxLen]; omega) (by simp; omega) (fun S2 p w12 h12 ho12 => ?_)
          have h12 := h12.sub ((List.sublist_append_right S S2).append (List.Sublist.refl _))
          refine text_spec h12 (by omega) (fun S3 a3 w13 h13 ho13 => ?_)
          refine app1 (A := S3) (S := S2) (z := v8 0) (bytes := 1) (by simpa using h13) ho12 ho13.sl (fun y hy => List.mem_append_left _ (List.mem_append_left _ hy)) (by simp [plainV]) und_slb info_u8 rfl (by simp [maxLen]; omega) (by simp; omega) (fun S4 q w14 h14 ho14 => ?_)
          have h14 := h14.sub ((List.sublist_append_right S3 S4).append (List.Sublist.refl _))
          have hq : Sl S4 q (bv (tx (tb s) ++ tx (tb t))) := by simpa using ho14.sl
          have hq : Sl (S4 ++ (Sn ++ (Sm ++ H))) q (bv (tx (tb s) ++ tx (tb t))) := hq.mono fun x hx => List.mem_append_left _ hx
          refine readText_spec (l := tx (tb s) ++ tx (tb t)) h14 hq htb (by simp; omega) (fun w15 h15 => ?_)
          rw [rt_tx (by rw [tb_len]; omega)]
          repeat (first | refine pu_not ?_ | refine pu_eql ?_ | refine pu_neq ?_ | refine pu_lss ?_ | refine pu_leq ?_ | refine pu_gtr ?_ | refine pu_geq ?_ | refine pu_add ?_ | refine pu_sub ?_ | refine pu_mul ?_ | refine pu_neg ?_ | refine fa_at ?_ | refine nl_ptr ?_ | refine ex20 ?_ | refine ex21 ?_ | refine ex30 ?_ | refine ex31 ?_ | refine ex32 ?_ | refine ln_rule ?_ | refine lnT_rule ?_ | refine pu_and ?_ | refine pu_or ?_ | refine pu_xor ?_ | refine pu_seq ?_ | refine pu_sne ?_)
          refine onum_spec ?_
          repeat (first | refine pu_not ?_ | refine pu_eql ?_ | refine pu_neq ?_ | refine pu_lss ?_ | refine pu_leq ?_ | refine pu_gtr ?_ | refine pu_geq ?_ | refine pu_add ?_ | refine pu_sub ?_ | refine pu_mul ?_ | refine pu_neg ?_ | refine fa_at ?_ | refine nl_ptr ?_ | refine ex20 ?_ | refine ex21 ?_ | refine ex30 ?_ | refine ex31 ?_ | refine ex32 ?_ | refine ln_rule ?_ | refine lnT_rule ?_ | refine pu_and ?_ | refine pu_or ?_ | refine pu_xor ?_ | refine pu_seq ?_ | refine pu_sne ?_)
          refine cnd_f rfl ?_
          repeat (first | refine pu_not ?_ | refine pu_eql ?_ | refine pu_neq ?_ | refine pu_lss ?_ | refine pu_leq ?_ | refine pu_gtr ?_ | refine pu_geq ?_ | refine pu_add ?_ | refine pu_sub ?_ | refine pu_mul ?_ | refine pu_neg ?_ | refine fa_at ?_ | refine nl_ptr ?_ | refine ex20 ?_ | refine ex21 ?_ | refine ex30 ?_ | refine ex31 ?_ | refine ex32 ?_ | refine ln_rule ?_ | refine lnT_rule ?_ | refine pu_and ?_ | refine pu_or ?_ | refine pu_xor ?_ | refine pu_seq ?_ | refine pu_sne ?_)
          refine cnd_f (sneF (bs_tb s)) ?_
          repeat (first | refine pu_not ?_ | refine pu_eql ?_ | refine pu_neq ?_ | refine pu_lss ?_ | refine pu_leq ?_ | refine pu_gtr ?_ | refine pu_geq ?_ | refine pu_add ?_ | refine pu_sub ?_ | refine pu_mul ?_ | refine pu_neg ?_ | refine fa_at ?_ | refine nl_ptr ?_ | refine ex20 ?_ | refine ex21 ?_ | refine ex30 ?_ | refine ex31 ?_ | refine ex32 ?_ | refine ln_rule ?_ | refine lnT_rule ?_ | refine pu_and ?_ | refine pu_or ?_ | refine pu_xor ?_ | refine pu_seq ?_ | refine pu_sne ?_)
          refine cnd_f (by simp) ?_
          refine sl_ln hq ?_
          rw [List.length_map]
          repeat (first | refine pu_not ?_ | refine pu_eql ?_ | refine pu_neq ?_ | refine pu_lss ?_ | refine pu_leq ?_ | refine pu_gtr ?_ | refine pu_geq ?_ | refine pu_add ?_ | refine pu_sub ?_ | refine pu_mul ?_ | refine pu_neg ?_ | refine fa_at ?_ | refine nl_ptr ?_ | refine ex20 ?_ | refine ex21 ?_ | refine ex30 ?_ | refine ex31 ?_ | refine ex32 ?_ | refine ln_rule ?_ | refine lnT_rule ?_ | refine pu_and ?_ | refine pu_or ?_ | refine pu_xor ?_ | refine pu_seq ?_ | refine pu_sne ?_)
          refine cnd_f (by simp; omega) ?_
          refine cutL hq (by omega) (by simp; omega) (fun c hc => ?_)
          rw [Int.toNat_natCast]
          have hq2 := sl_cut (l := (tx (tb s)).length) (h := (bv (tx (tb s) ++ tx (tb t))).length) (m := c) hq (by simp) (Nat.le_refl _) hc
          rw [List.take_length, ← List.map_drop, List.drop_left' rfl] at hq2
          refine readText_spec (l := tx (tb t)) h15 hq2 ((nb_byt _).app (tb_byt t)) (by omega) (fun w16 h16 => ?_)
          have e16 := rt_tx (s := tb t) (by rw [tb_len]; omega) []
          rw [List.append_nil] at e16
          rw [e16]
          repeat (first | refine pu_not ?_ | refine pu_eql ?_ | refine pu_neq ?_ | refine pu_lss ?_ | refine pu_leq ?_ | refine pu_gtr ?_ | refine pu_geq ?_ | refine pu_add ?_ | refine pu_sub ?_ | refine pu_mul ?_ | refine pu_neg ?_ | refine fa_at ?_ | refine nl_ptr ?_ | refine ex20 ?_ | refine ex21 ?_ | refine ex30 ?_ | refine ex31 ?_ | refine ex32 ?_ | refine ln_rule ?_ | refine lnT_rule ?_ | refine pu_and ?_ | refine pu_or ?_ | refine pu_xor ?_ | refine pu_seq ?_ | refine pu_sne ?_)
          refine onum_spec ?_
          repeat (first | refine pu_not ?_ | refine pu_eql ?_ | refine pu_neq ?_ | refine pu_lss ?_ | refine pu_leq ?_ | refine pu_gtr ?_ | refine pu_geq ?_ | refine pu_add ?_ | refine pu_sub ?_ | refine pu_mul ?_ | refine pu_neg ?_ | refine fa_at ?_ | refine nl_ptr ?_ | refine ex20 ?_ | refine ex21 ?_ | refine ex30 ?_ | refine ex31 ?_ | refine ex32 ?_ | refine ln_rule ?_ | refine lnT_rule ?_ | refine pu_and ?_ | refine pu_or ?_ | refine pu_xor ?_ | refine pu_seq ?_ | refine pu_sne ?_)
          refine cnd_t rfl ?_
          repeat (first | refine pu_not ?_ | refine pu_eql ?_ | refine pu_neq ?_ | refine pu_lss ?_ | refine pu_leq ?_ | refine pu_gtr ?_ | refine pu_geq ?_ | refine pu_add ?_ | refine pu_sub ?_ | refine pu_mul ?_ | refine pu_neg ?_ | refine fa_at ?_ | refine nl_ptr ?_ | refine ex20 ?_ | refine ex21 ?_ | refine ex30 ?_ | refine ex31 ?_ | refine ex32 ?_ | refine ln_rule ?_ | refine lnT_rule ?_ | refine pu_and ?_ | refine pu_or ?_ | refine pu_xor ?_ | refine pu_seq ?_ | refine pu_sne ?_)
          refine cnd_t (seqT' (bs_tb t)) ?_
          repeat (first | refine pu_not ?_ | refine pu_eql ?_ | refine pu_neq ?_ | refine pu_lss ?_ | refine pu_leq ?_ | refine pu_gtr ?_ | refine pu_geq ?_ | refine pu_add ?_ | refine pu_sub ?_ | refine pu_mul ?_ | refine pu_neg ?_ | refine fa_at ?_ | refine nl_ptr ?_ | refine ex20 ?_ | refine ex21 ?_ | refine ex30 ?_ | refine ex31 ?_ | refine ex32 ?_ | refine ln_rule ?_ | refine lnT_rule ?_ | refine pu_and ?_ | refine pu_or ?_ | refine pu_xor ?_ | refine pu_seq ?_ | refine pu_sne ?_)
          refine sl_ln hq ?_
          rw [List.length_map]
          dsimp only
          repeat (first | refine pu_not ?_ | refine pu_eql ?_ | refine pu_neq ?_ | refine pu_lss ?_ | refine pu_leq ?_ | refine pu_gtr ?_ | refine pu_geq ?_ | refine pu_add ?_ | refine pu_sub ?_ | refine pu_mul ?_ | refine pu_neg ?_ | refine fa_at ?_ | refine nl_ptr ?_ | refine ex20 ?_ | refine ex21 ?_ | refine ex30 ?_ | refine ex31 ?_ | refine ex32 ?_ | refine ln_rule ?_ | refine lnT_rule ?_ | refine pu_and ?_ | refine pu_or ?_ | refine pu_xor ?_ | refine pu_seq ?_ | refine pu_sne ?_)
          rw [wrap64_in (by omega) (by omega)]
          refine cnd_t (by simp) ?_
          exact oworks_spec h16 (fun w' h' => k w' ((((h'.sub (List.sublist_append_right _ _)).sub (List.sublist_append_right _ _)).sub (List.sublist_append_right _ _))))
      · refine bs_rule hA [] (by kernel_rfl) (fun b10 w10 h10 => ?_)
        refine text_spec h10 (by omega) (fun S a w11 h11 ho => ?_)
        refine app1 (A := S) (S := [(b10, cel [] T.t_uint8)]) (z := v8 0) (bytes := 1) (by simpa using h11) (Own.mk (n := 0) (cap := 0) (xs := []) (Nat.le_refl _) (Nat.zero_le _) rfl rfl) ho.sl (fun y hy => List.mem_append_left _ (List.mem_append_left _ hy)) (by simp [plainV]) und_slb info_u8 rfl (by simp [maxLen]; omega) (by simp; omega) (fun S2 p w12 h12 ho12 => ?_)
        have h12 := h12.sub ((List.sublist_append_right S S2).append (List.Sublist.refl _))
        refine text_spec h12 (by omega) (fun S3 a3 w13 h13 ho13 => ?_)
        refine app1 (A := S3) (S := S2) (z := v8 0) (bytes := 1) (by simpa using h13) ho12 ho13.sl (fun y hy => List.mem_append_left _ (List.mem_append_left _ hy)) (by simp [plainV]) und_slb info_u8 rfl (by simp [maxLen]; omega) (by simp; omega) (fun S4 q w14 h14 ho14 => ?_)
        have h14 := h14.sub ((List.sublist_append_right S3 S4).append (List.Sublist.refl _))
        have hq : Sl S4 q (bv (tx (tb s) ++ tx (tb t))) := by simpa using ho14.sl
        have hq : Sl (S4 ++ (Sn ++ (Sm ++ H))) q (bv (tx (tb s) ++ tx (tb t))) := hq.mono fun x hx => List.mem_append_left _ hx
        refine readText_spec (l := tx (tb s) ++ tx (tb t)) h14 hq htb (by simp; omega) (fun w15 h15 => ?_)
        rw [rt_tx (by rw [tb_len]; omega)]
        repeat (first | refine pu_not ?_ | refine pu_eql ?_ | refine pu_neq ?_ | refine pu_lss ?_ | refine pu_leq ?_ | refine pu_gtr ?_ | refine pu_geq ?_ | refine pu_add ?_ | refine pu_sub ?_ | refine pu_mul ?_ | refine pu_neg ?_ | refine fa_at ?_ | refine nl_ptr ?_ | refine ex20 ?_ | refine ex21 ?_ | refine ex30 ?_ | refine ex31 ?_ | refine ex32 ?_ | refine ln_rule ?_ | refine lnT_rule ?_ | refine pu_and ?_ | refine pu_or ?_ | refine pu_xor ?_ | refine pu_seq ?_ | refine pu_sne ?_)
        refine onum_spec ?_
        repeat (first | refine pu_not ?_ | refine pu_eql ?_ | refine pu_neq ?_ | refine pu_lss ?_ | refine pu_leq ?_ | refine pu_gtr ?_ | refine pu_geq ?_ | refine pu_add ?_ | refine pu_sub ?_ | refine pu_mul ?_ | refine pu_neg ?_ | refine fa_at ?_ | refine nl_ptr ?_ | refine ex20 ?_ | refine ex21 ?_ | refine ex30 ?_ | refine ex31 ?_ | refine ex32 ?_ | refine ln_rule ?_ | refine lnT_rule ?_ | refine pu_and ?_ | refine pu_or ?_ | refine pu_xor ?_ | refine pu_seq ?_ | refine pu_sne ?_)
        refine cnd_f rfl ?_
        repeat (first | refine pu_not ?_ | refine pu_eql ?_ | refine pu_neq ?_ | refine pu_lss ?_ | refine pu_leq ?_ | refine pu_gtr ?_ | refine pu_geq ?_ | refine pu_add ?_ | refine pu_sub ?_ | refine pu_mul ?_ | refine pu_neg ?_ | refine fa_at ?_ | refine nl_ptr ?_ | refine ex20 ?_ | refine ex21 ?_ | refine ex30 ?_ | refine ex31 ?_ | refine ex32 ?_ | refine ln_rule ?_ | refine lnT_rule ?_ | refine pu_and ?_ | refine pu_or ?_ | refine pu_xor ?_ | refine pu_seq ?_ | refine pu_sne ?_)
        refine cnd_f (sneF (bs_tb s)) ?_
        repeat (first | refine pu_not ?_ | refine pu_eql ?_ | refine pu_neq ?_ | refine pu_lss ?_ | refine pu_leq ?_ | refine pu_gtr ?_ | refine pu_geq ?_ | refine pu_add ?_ | refine pu_sub ?_ | refine pu_mul ?_ | refine pu_neg ?_ | refine fa_at ?_ | refine nl_ptr ?_ | refine ex20 ?_ | refine ex21 ?_ | refine ex30 ?_ | refine ex31 ?_ | refine ex32 ?_ | refine ln_rule ?_ | refine lnT_rule ?_ | refine pu_and ?_ | refine pu_or ?_ | refine pu_xor ?_ | refine pu_seq ?_ | refine pu_sne ?_)
        refine cnd_f (by simp) ?_
        refine sl_ln hq ?_
        rw [List.length_map]
        repeat (first | refine pu_not ?_ | refine pu_eql ?_ | refine pu_neq ?_ | refine pu_lss ?_ | refine pu_leq ?_ | refine pu_gtr ?_ | refine pu_geq ?_ | refine pu_add ?_ | refine pu_sub ?_ | refine pu_mul ?_ | refine pu_neg ?_ | refine fa_at ?_ | refine nl_ptr ?_ | refine ex20 ?_ | refine ex21 ?_ | refine ex30 ?_ | refine ex31 ?_ | refine ex32 ?_ | refine ln_rule ?_ | refine lnT_rule ?_ | refine pu_and ?_ | refine pu_or ?_ | refine pu_xor ?_ | refine pu_seq ?_ | refine pu_sne ?_)
        refine cnd_f (by simp; omega) ?_
        refine cutL hq (by omega) (by simp; omega) (fun c hc => ?_)
        rw [Int.toNat_natCast]
        have hq2 := sl_cut (l := (tx (tb s)).length) (h := (bv (tx (tb s) ++ tx (tb t))).length) (m := c) hq (by simp) (Nat.le_refl _) hc
        rw [List.take_length, ← List.map_drop, List.drop_left' rfl] at hq2
        refine readText_spec (l := tx (tb t)) h15 hq2 ((nb_byt _).app (tb_byt t)) (by omega) (fun w16 h16 => ?_)
        have e16 := rt_tx (s := tb t) (by rw [tb_len]; omega) []
        rw [List.append_nil] at e16
        rw [e16]
        repeat (first | refine pu_not ?_ | refine pu_eql ?_ | refine pu_neq ?_ | refine pu_lss ?_ | refine pu_leq ?_ | refine pu_gtr ?_ | refine pu_geq ?_ | refine pu_add ?_ | refine pu_sub ?_ | refine pu_mul ?_ | refine pu_neg ?_ | refine fa_at ?_ | refine nl_ptr ?_ | refine ex20 ?_ | refine ex21 ?_ | refine ex30 ?_ | refine ex31 ?_ | refine ex32 ?_ | refine ln_rule ?_ | refine lnT_rule ?_ | refine pu_and ?_ | refine pu_or ?_ | refine pu_xor ?_ | refine pu_seq ?_ | refine pu_sne ?_)
        refine onum_spec ?_
        repeat (first | refine pu_not ?_ | refine pu_eql ?_ | refine pu_neq ?_ | refine pu_lss ?_ | refine pu_leq ?_ | refine pu_gtr ?_ | refine pu_geq ?_ | refine pu_add ?_ | refine pu_sub ?_ | refine pu_mul ?_ | refine pu_neg ?_ | refine fa_at ?_ | refine nl_ptr ?_ | refine ex20 ?_ | refine ex21 ?_ | refine ex30 ?_ | refine ex31 ?_ | refine ex32 ?_ | refine ln_rule ?_ | refine lnT_rule ?_ | refine pu_and ?_ | refine pu_or ?_ | refine pu_xor ?_ | refine pu_seq ?_ | refine pu_sne ?_)
        refine cnd_t rfl ?_
        repeat (first | refine pu_not ?_ | refine pu_eql ?_ | refine pu_neq ?_ | refine pu_lss ?_ | refine pu_leq ?_ | refine pu_gtr ?_ | refine pu_geq ?_ | refine pu_add ?_ | refine pu_sub ?_ | refine pu_mul ?_ | refine pu_neg ?_ | refine fa_at ?_ | refine nl_ptr ?_ | refine ex20 ?_ | refine ex21 ?_ | refine ex30 ?_ | refine ex31 ?_ | refine ex32 ?_ | refine ln_rule ?_ | refine lnT_rule ?_ | refine pu_and ?_ | refine pu_or ?_ | refine pu_xor ?_ | refine pu_seq ?_ | refine pu_sne ?_)
        refine cnd_t (seqT' (bs_tb t)) ?_
        repeat (first | refine pu_not ?_ | refine pu_eql ?_ | refine pu_neq ?_ | refine pu_lss ?_ | refine pu_leq ?_ | refine pu_gtr ?_ | refine pu_geq ?_ | refine pu_add ?_ | refine pu_sub ?_ | refine pu_mul ?_ | refine pu_neg ?_ | refine fa_at ?_ | refine nl_ptr ?_ | refine ex20 ?_ | refine ex21 ?_ | refine ex30 ?_ | refine ex31 ?_ | refine ex32 ?_ | refine ln_rule ?_ | refine lnT_rule ?_ | refine pu_and ?_ | refine pu_or ?_ | refine pu_xor ?_ | refine pu_seq ?_ | refine pu_sne ?_)
        refine sl_ln hq ?_
        rw [List.length_map]
        dsimp only
        repeat (first | refine pu_not ?_ | refine pu_eql ?_ | refine pu_neq ?_ | refine pu_lss ?_ | refine pu_leq ?_ | refine pu_gtr ?_ | refine pu_geq ?_ | refine pu_add ?_ | refine pu_sub ?_ | refine pu_mul ?_ | refine pu_neg ?_ | refine fa_at ?_ | refine nl_ptr ?_ | refine ex20 ?_ | refine ex21 ?_ | refine ex30 ?_ | refine ex31 ?_ | refine ex32 ?_ | refine ln_rule ?_ | refine lnT_rule ?_ | refine pu_and ?_ | refine pu_or ?_ | refine pu_xor ?_ | refine pu_seq ?_ | refine pu_sne ?_)
        rw [wrap64_in (by omega) (by omega)]
        refine cnd_t (by simp) ?_
        exact oworks_spec h16 (fun w' h' => k w' ((((h'.sub (List.sublist_append_right _ _)).sub (List.sublist_append_right _ _)).sub (List.sublist_append_right _ _))))
    · refine strOf h4 hn' ?_
      refine strOf h4 hm' ?_
      repeat (first | refine pu_not ?_ | refine pu_eql ?_ | refine pu_neq ?_ | refine pu_lss ?_ | refine pu_leq ?_ | refine pu_gtr ?_ | refine pu_geq ?_ | refine pu_add ?_ | refine pu_sub ?_ | refine pu_mul ?_ | refine pu_neg ?_ | refine fa_at ?_ | refine nl_ptr ?_ | refine ex20 ?_ | refine ex21 ?_ | refine ex30 ?_ | refine ex31 ?_ | refine ex32 ?_ | refine ln_rule ?_ | refine lnT_rule ?_ | refine pu_and ?_ | refine pu_or ?_ | refine pu_xor ?_ | refine pu_seq ?_ | refine pu_sne ?_)
      refine pu_bneq und_bool ?_
      refine cnd_f ?_ ?_
      · rw [bytes_eq]
        by_cases he : m = n
        · subst he; simp
        · have : ¬ bs (nb m) = bs (nb n) := fun h => he (hinj.1 h)
          simp only [this, decide_false, bne_eq_false_iff_eq, ibeq]
          have : ¬ (m : Int) = n := by omega
          simp [this]
      repeat (first | refine pu_not ?_ | refine pu_eql ?_ | refine pu_neq ?_ | refine pu_lss ?_ | refine pu_leq ?_ | refine pu_gtr ?_ | refine pu_geq ?_ | refine pu_add ?_ | refine pu_sub ?_ | refine pu_mul ?_ | refine pu_neg ?_ | refine fa_at ?_ | refine nl_ptr ?_ | refine ex20 ?_ | refine ex21 ?_ | refine ex30 ?_ | refine ex31 ?_ | refine ex32 ?_ | refine ln_rule ?_ | refine lnT_rule ?_ | refine pu_and ?_ | refine pu_or ?_ | refine pu_xor ?_ | refine pu_seq ?_ | refine pu_sne ?_)
      refine cnd (fun hne => ?_) (fun heq => ?_)
      · have hne : m ≠ n := by rintro rfl; simp at hne
        repeat (first | refine pu_not ?_ | refine pu_eql ?_ | refine pu_neq ?_ | refine pu_lss ?_ | refine pu_leq ?_ | refine pu_gtr ?_ | refine pu_geq ?_ | refine pu_add ?_ | refine pu_sub ?_ | refine pu_mul ?_ | refine pu_neg ?_ | refine fa_at ?_ | refine nl_ptr ?_ | refine ex20 ?_ | refine ex21 ?_ | refine ex30 ?_ | refine ex31 ?_ | refine ex32 ?_ | refine ln_rule ?_ | refine lnT_rule ?_ | refine pu_and ?_ | refine pu_or ?_ | refine pu_xor ?_ | refine pu_seq ?_ | refine pu_sne ?_)
        refine cnd (fun hle2 => ?_) (fun _ => ?_)
        · rw [bs_size, bs_size] at hle2
          have hle2 : (nb m).length ≤ (nb n).length := by simp at hle2; omega
          repeat (first | refine pu_not ?_ | refine pu_eql ?_ | refine pu_neq ?_ | refine pu_lss ?_ | refine pu_leq ?_ | refine pu_gtr ?_ | refine pu_geq ?_ | refine pu_add ?_ | refine pu_sub ?_ | refine pu_mul ?_ | refine pu_neg ?_ | refine fa_at ?_ | refine nl_ptr ?_ | refine ex20 ?_ | refine ex21 ?_ | refine ex30 ?_ | refine ex31 ?_ | refine ex32 ?_ | refine ln_rule ?_ | refine lnT_rule ?_ | refine pu_and ?_ | refine pu_or ?_ | refine pu_xor ?_ | refine pu_seq ?_ | refine pu_sne ?_)
          rw [bs_size]
          refine pu_cutS (by omega) (by rw [bs_size]; omega) ?_
          rw [Int.toNat_natCast, bs_extract]
          repeat (first | refine pu_not ?_ | refine pu_eql ?_ | refine pu_neq ?_ | refine pu_lss ?_ | refine pu_leq ?_ | refine pu_gtr ?_ | refine pu_geq ?_ | refine pu_add ?_ | refine pu_sub ?_ | refine pu_mul ?_ | refine pu_neg ?_ | refine fa_at ?_ | refine nl_ptr ?_ | refine ex20 ?_ | refine ex21 ?_ | refine ex30 ?_ | refine ex31 ?_ | refine ex32 ?_ | refine ln_rule ?_ | refine lnT_rule ?_ | refine pu_and ?_ | refine pu_or ?_ | refine pu_xor ?_ | refine pu_seq ?_ | refine pu_sne ?_)
          refine cnd_f ?_ ?_
          · rw [bytes_eq]
            simp only [decide_eq_false_iff_not]
            rw [bs_inj ((nb_byt n).take _) (nb_byt m)]
            exact fun he => hne (nb_prefix hm hn he)
          · refine bs_rule hA [] (by kernel_rfl) (fun b10 w10 h10 => ?_)
            refine text_spec h10 (by omega) (fun S a w11 h11 ho => ?_)
            refine app1 (A := S) (S := [(b10, cel [] T.t_uint8)]) (z := v8 0) (bytes := 1) (by simpa using h11) (Own.mk (n := 0) (cap := 0) (xs := []) (Nat.le_refl _) (Nat.zero_le _) rfl rfl) ho.sl (fun y hy => List.mem_append_left _ (List.mem_append_left _ hy)) (by simp [plainV]) und_slb info_u8 rfl (by simp [maxLen]; omega) (by simp; omega) (fun S2 p w12 h12 ho12 => ?_)
            have h12 := h12.sub ((List.sublist_append_right S S2).append (List.Sublist.refl _))
            refine text_spec h12 (by omega) (fun S3 a3 w13 h13 ho13 => ?_)
            refine app1 (A := S3) (S := S2) (z := v8 0) (bytes := 1) (by simpa using h13) ho12 ho13.sl (fun y hy => List.mem_append_left _ (List.mem_append_left _ hy)) (by simp [plainV]) und_slb info_u8 rfl (by simp [maxLen]; omega) (by simp; omega) (fun S4 q w14 h14 ho14 => ?_)
            have h14 := h14.sub ((List.sublist_append_right S3 S4).append (List.Sublist.refl _))
            have hq : Sl S4 q (bv (tx (tb s) ++ tx (tb t))) := by simpa using ho14.sl
            have hq : Sl (S4 ++ (Sn ++ (Sm ++ H))) q (bv (tx (tb s) ++ tx (tb t))) := hq.mono fun x hx => List.mem_append_left _ hx
            refine readText_spec (l := tx (tb s) ++ tx (tb t)) h14 hq htb (by simp; omega) (fun w15 h15 => ?_)
            rw [rt_tx (by rw [tb_len]; omega)]
            repeat (first | refine pu_not ?_ | refine pu_eql ?_ | refine pu_neq ?_ | refine pu_lss ?_ | refine pu_leq ?_ | refine pu_gtr ?_ | refine pu_geq ?_ | refine pu_add ?_ | refine pu_sub ?_ | refine pu_mul ?_ | refine pu_neg ?_ | refine fa_at ?_ | refine nl_ptr ?_ | refine ex20 ?_ | refine ex21 ?_ | refine ex30 ?_ | refine ex31 ?_ | refine ex32 ?_ | refine ln_rule ?_ | refine lnT_rule ?_ | refine pu_and ?_ | refine pu_or ?_ | refine pu_xor ?_ | refine pu_seq ?_ | refine pu_sne ?_)
            refine onum_spec ?_
            repeat (first | refine pu_not ?_ | refine pu_eql ?_ | refine pu_neq ?_ | refine pu_lss ?_ | refine pu_leq ?_ | refine pu_gtr ?_ | refine pu_geq ?_ | refine pu_add ?_ | refine pu_sub ?_ | refine pu_mul ?_ | refine pu_neg ?_ | refine fa_at ?_ | refine nl_ptr ?_ | refine ex20 ?_ | refine ex21 ?_ | refine ex30 ?_ | refine ex31 ?_ | refine ex32 ?_ | refine ln_rule ?_ | refine lnT_rule ?_ | refine pu_and ?_ | refine pu_or ?_ | refine pu_xor ?_ | refine pu_seq ?_ | refine pu_sne ?_)
            refine cnd_f rfl ?_
            repeat (first | refine pu_not ?_ | refine pu_eql ?_ | refine pu_neq ?_ | refine pu_lss ?_ | refine pu_leq ?_ | refine pu_gtr ?_ | refine pu_geq ?_ | refine pu_add ?_ | refine pu_sub ?_ | refine pu_mul ?_ | refine pu_neg ?_ | refine fa_at ?_ | refine nl_ptr ?_ | refine ex20 ?_ | refine ex21 ?_ | refine ex30 ?_ | refine ex31 ?_ | refine ex32 ?_ | refine ln_rule ?_ | refine lnT_rule ?_ | refine pu_and ?_ | refine pu_or ?_ | refine pu_xor ?_ | refine pu_seq ?_ | refine pu_sne ?_)
            refine cnd_f (sneF (bs_tb s)) ?_
            repeat (first | refine pu_not ?_ | refine pu_eql ?_ | refine pu_neq ?_ | refine pu_lss ?_ | refine pu_leq ?_ | refine pu_gtr ?_ | refine pu_geq ?_ | refine pu_add ?_ | refine pu_sub ?_ | refine pu_mul ?_ | refine pu_neg ?_ | refine fa_at ?_ | refine nl_ptr ?_ | refine ex20 ?_ | refine ex21 ?_ | refine ex30 ?_ | refine ex31 ?_ | refine ex32 ?_ | refine ln_rule ?_ | refine lnT_rule ?_ | refine pu_and ?_ | refine pu_or ?_ | refine pu_xor ?_ | refine pu_seq ?_ | refine pu_sne ?_)
            refine cnd_f (by simp) ?_
            refine sl_ln hq ?_
            rw [List.length_map]
            repeat (first | refine pu_not ?_ | refine pu_eql ?_ | refine pu_neq ?_ | refine pu_lss ?_ | refine pu_leq ?_ | refine pu_gtr ?_ | refine pu_geq ?_ | refine pu_add ?_ | refine pu_sub ?_ | refine pu_mul ?_ | refine pu_neg ?_ | refine fa_at ?_ | refine nl_ptr ?_ | refine ex20 ?_ | refine ex21 ?_ | refine ex30 ?_ | refine ex31 ?_ | refine ex32 ?_ | refine ln_rule ?_ | refine lnT_rule ?_ | refine pu_and ?_ | refine pu_or ?_ | refine pu_xor ?_ | refine pu_seq ?_ | refine pu_sne ?_)
            refine cnd_f (by simp; omega) ?_
            refine cutL hq (by omega) (by simp; omega) (fun c hc => ?_)
            rw [Int.toNat_natCast]
            have hq2 := sl_cut (l := (tx (tb s)).length) (h := (bv (tx (tb s) ++ tx (tb t))).length) (m := c) hq (by simp) (Nat.le_refl _) hc
            rw [List.take_length, ← List.map_drop, List.drop_left' rfl] at hq2
            refine readText_spec (l := tx (tb t)) h15 hq2 ((nb_byt _).app (tb_byt t)) (by omega) (fun w16 h16 => ?_)
            have e16 := rt_tx (s := tb t) (by rw [tb_len]; omega) []
            rw [List.append_nil] at e16
            rw [e16]
            repeat (first | refine pu_not ?_ | refine pu_eql ?_ | refine pu_neq ?_ | refine pu_lss ?_ | refine pu_leq ?_ | refine pu_gtr ?_ | refine pu_geq ?_ | refine pu_add ?_ | refine pu_sub ?_ | refine pu_mul ?_ | refine pu_neg ?_ | refine fa_at ?_ | refine nl_ptr ?_ | refine ex20 ?_ | refine ex21 ?_ | refine ex30 ?_ | refine ex31 ?_ | refine ex32 ?_ | refine ln_rule ?_ | refine lnT_rule ?_ | refine pu_and ?_ | refine pu_or ?_ | refine pu_xor ?_ | refine pu_seq ?_ | refine pu_sne ?_)
            refine onum_spec ?_
            repeat (first | refine pu_not ?_ | refine pu_eql ?_ | refine pu_neq ?_ | refine pu_lss ?_ | refine pu_leq ?_ | refine pu_gtr ?_ | refine pu_geq ?_ | refine pu_add ?_ | refine pu_sub ?_ | refine pu_mul ?_ | refine pu_neg ?_ | refine fa_at ?_ | refine nl_ptr ?_ | refine ex20 ?_ | refine ex21 ?_ | refine ex30 ?_ | refine ex31 ?_ | refine ex32 ?_ | refine ln_rule ?_ | refine lnT_rule ?_ | refine pu_and ?_ | refine pu_or ?_ | refine pu_xor ?_ | refine pu_seq ?_ | refine pu_sne ?_)
            refine cnd_t rfl ?_
            repeat (first | refine pu_not ?_ | refine pu_eql ?_ | refine pu_neq ?_ | refine pu_lss ?_ | refine pu_leq ?_ | refine pu_gtr ?_ | refine pu_geq ?_ | refine pu_add ?_ | refine pu_sub ?_ | refine pu_mul ?_ | refine pu_neg ?_ | refine fa_at ?_ | refine nl_ptr ?_ | refine ex20 ?_ | refine ex21 ?_ | refine ex30 ?_ | refine ex31 ?_ | refine ex32 ?_ | refine ln_rule ?_ | refine lnT_rule ?_ | refine pu_and ?_ | refine pu_or ?_ | refine pu_xor ?_ | refine pu_seq ?_ | refine pu_sne ?_)
            refine cnd_t (seqT' (bs_tb t)) ?_
            repeat (first | refine pu_not ?_ | refine pu_eql ?_ | refine pu_neq ?_ | refine pu_lss ?_ | refine pu_leq ?_ | refine pu_gtr ?_ | refine pu_geq ?_ | refine pu_add ?_ | refine pu_sub ?_ | refine pu_mul ?_ | refine pu_neg ?_ | refine fa_at ?_ | refine nl_ptr ?_ | refine ex20 ?_ | refine ex21 ?_ | refine ex30 ?_ | refine ex31 ?_ | refine ex32 ?_ | refine ln_rule ?_ | refine lnT_rule ?_ | refine pu_and ?_ | refine pu_or ?_ | refine pu_xor ?_ | refine pu_seq ?_ | refine pu_sne ?_)
            refine sl_ln hq ?_
            rw [List.length_map]
            dsimp only
            repeat (first | refine pu_not ?_ | refine pu_eql ?_ | refine pu_neq ?_ | refine pu_lss ?_ | refine pu_leq ?_ | refine pu_gtr ?_ | refine pu_geq ?_ | refine pu_add ?_ | refine pu_sub ?_ | refine pu_mul ?_ | refine pu_neg ?_ | refine fa_at ?_ | refine nl_ptr ?_ | refine ex20 ?_ | refine ex21 ?_ | refine ex30 ?_ | refine ex31 ?_ | refine ex32 ?_ | refine ln_rule ?_ | refine lnT_rule ?_ | refine pu_and ?_ | refine pu_or ?_ | refine pu_xor ?_ | refine pu_seq ?_ | refine pu_sne ?_)
            rw [wrap64_in (by omega) (by omega)]
            refine cnd_t (by simp) ?_
            exact oworks_spec h16 (fun w' h' => k w' ((((h'.sub (List.sublist_append_right _ _)).sub (List.sublist_append_right _ _)).sub (List.sublist_append_right _ _))))
        · refine bs_rule hA [] (by kernel_rfl) (fun b10 w10 h10 => ?_)
          refine text_spec h10 (by omega) (fun S a w11 h11 ho => ?_)
          refine app1 (A := S) (S := [(b10, cel [] T.t_uint8)]) (z := v8 0) (bytes := 1) (by simpa using h11) (Own.mk (n := 0) (cap := 0) (xs := []) (Nat.le_refl _) (Nat.zero_le _) rfl rfl) ho.sl (fun y hy => List.mem_append_left _ (List.mem_append_left _ hy)) (by simp [plainV]) und_slb info_u8 rfl (by simp [maxLen]; omega) (by simp; omega) (fun S2 p w12 h12 ho12 => ?_)
          have h12 := h12.sub ((List.sublist_append_right S S2).append (List.Sublist.refl _))
          refine text_spec h12 (by omega) (fun S3 a3 w13 h13 ho13 => ?_)
          refine app1 (A := S3) (S := S2) (z := v8 0) (bytes := 1) (by simpa using h13) ho12 ho13.sl (fun y hy => List.mem_append_left _ (List.mem_append_left _ hy)) (by simp [plainV]) und_slb info_u8 rfl (by simp [maxLen]; omega) (by simp; omega) (fun S4 q w14 h14 ho14 => ?_)
          have h14 := h14.sub ((List.sublist_append_right S3 S4).append (List.Sublist.refl _))
          have hq : Sl S4 q (bv (tx (tb s) ++ tx (tb t))) := by simpa using ho14.sl
          have hq : Sl (S4 ++ (Sn ++ (Sm ++ H))) q (bv (tx (tb s) ++ tx (tb t))) := hq.mono fun x hx => List.mem_append_left _ hx
          refine readText_spec (l := tx (tb s) ++ tx (tb t)) h14 hq htb (by simp; omega) (fun w15 h15 => ?_)
          rw [rt_tx (by rw [tb_len]; omega)]
          repeat (first | refine pu_not ?_ | refine pu_eql ?_ | refine pu_neq ?_ | refine pu_lss ?_ | refine pu_leq ?_ | refine pu_gtr ?_ | refine pu_geq ?_ | refine pu_add ?_ | refine pu_sub ?_ | refine pu_mul ?_ | refine pu_neg ?_ | refine fa_at ?_ | refine nl_ptr ?_ | refine ex20 ?_ | refine ex21 ?_ | refine ex30 ?_ | refine ex31 ?_ | refine ex32 ?_ | refine ln_rule ?_ | refine lnT_rule ?_ | refine pu_and ?_ | refine pu_or ?_ | refine pu_xor ?_ | refine pu_seq ?_ | refine pu_sne ?_)
          refine onum_spec ?_
          repeat (first | refine pu_not ?_ | refine pu_eql ?_ | refine pu_neq ?_ | refine pu_lss ?_ | refine pu_leq ?_ | refine pu_gtr ?_ | refine pu_geq ?_ | refine pu_add ?_ | refine pu_sub ?_ | refine pu_mul ?_ | refine pu_neg ?_ | refine fa_at ?_ | refine nl_ptr ?_ | refine ex20 ?_ | refine ex21 ?_ | refine ex30 ?_ | refine ex31 ?_ | refine ex32 ?_ | refine ln_rule ?_ | refine lnT_rule ?_ | refine pu_and ?_ | refine pu_or ?_ | refine pu_xor ?_ | refine pu_seq ?_ | refine pu_sne ?_)
          refine cnd_f rfl ?_
          repeat (first | refine pu_not ?_ | refine pu_eql ?_ | refine pu_neq ?_ | refine pu_lss ?_ | refine pu_leq ?_ | refine pu_gtr ?_ | refine pu_geq ?_ | refine pu_add ?_ | refine pu_sub ?_ | refine pu_mul ?_ | refine pu_neg ?_ | refine fa_at ?_ | refine nl_ptr ?_ | refine ex20 ?_ | refine ex21 ?_ | refine ex30 ?_ | refine ex31 ?_ | refine ex32 ?_ | refine ln_rule ?_ | refine lnT_rule ?_ | refine pu_and ?_ | refine pu_or ?_ | refine pu_xor ?_ | refine pu_seq ?_ | refine pu_sne ?_)
          refine cnd_f (sneF (bs_tb s)) ?_
          repeat (first | refine pu_not ?_ | refine pu_eql ?_ | refine pu_neq ?_ | refine pu_lss ?_ | refine pu_leq ?_ | refine pu_gtr ?_ | refine pu_geq ?_ | refine pu_add ?_ | refine pu_sub ?_ | refine pu_mul ?_ | refine pu_neg ?_ | refine fa_at ?_ | refine nl_ptr ?_ | refine ex20 ?_ | refine ex21 ?_ | refine ex30 ?_ | refine ex31 ?_ | refine ex32 ?_ | refine ln_rule ?_ | refine lnT_rule ?_ | refine pu_and ?_ | refine pu_or ?_ | refine pu_xor ?_ | refine pu_seq ?_ | refine pu_sne ?_)
          refine cnd_f (by simp) ?_
          refine sl_ln hq ?_
          rw [List.length_map]
          repeat (first | refine pu_not ?_ | refine pu_eql ?_ | refine pu_neq ?_ | refine pu_lss ?_ | refine pu_leq ?_ | refine pu_gtr ?_ | refine pu_geq ?_ | refine pu_add ?_ | refine pu_sub ?_ | refine pu_mul ?_ | refine pu_neg ?_ | refine fa_at ?_ | refine nl_ptr ?_ | refine ex20 ?_ | refine ex21 ?_ | refine ex30 ?_ | refine ex31 ?_ | refine ex32 ?_ | refine ln_rule ?_ | refine lnT_rule ?_ | refine pu_and ?_ | refine pu_or ?_ | refine pu_xor ?_ | refine pu_seq ?_ | refine pu_sne ?_)
          refine cnd_f (by simp; omega) ?_
          refine cutL hq (by omega) (by simp; omega) (fun c hc => ?_)
          rw [Int.toNat_natCast]
          have hq2 := sl_cut (l := (tx (tb s)).length) (h := (bv (tx (tb s) ++ tx (tb t))).length) (m := c) hq (by simp) (Nat.le_refl _) hc
          rw [List.take_length, ← List.map_drop, List.drop_left' rfl] at hq2
          refine readText_spec (l := tx (tb t)) h15 hq2 ((nb_byt _).app (tb_byt t)) (by omega) (fun w16 h16 => ?_)
          have e16 := rt_tx (s := tb t) (by rw [tb_len]; omega) []
          rw [List.append_nil] at e16
          rw [e16]
          repeat (first | refine pu_not ?_ | refine pu_eql ?_ | refine pu_neq ?_ | refine pu_lss ?_ | refine pu_leq ?_ | refine pu_gtr ?_ | refine pu_geq ?_ | refine pu_add ?_ | refine pu_sub ?_ | refine pu_mul ?_ | refine pu_neg ?_ | refine fa_at ?_ | refine nl_ptr ?_ | refine ex20 ?_ | refine ex21 ?_ | refine ex30 ?_ | refine ex31 ?_ | refine ex32 ?_ | refine ln_rule ?_ | refine lnT_rule ?_ | refine pu_and ?_ | refine pu_or ?_ | refine pu_xor ?_ | refine pu_seq ?_ | refine pu_sne ?_)
          refine onum_spec ?_
          repeat (first | refine pu_not ?_ | refine pu_eql ?_ | refine pu_neq ?_ | refine pu_lss ?_ | refine pu_leq ?_ | refine pu_gtr ?_ | refine pu_geq ?_ | refine pu_add ?_ | refine pu_sub ?_ | refine pu_mul ?_ | refine pu_neg ?_ | refine fa_at ?_ | refine nl_ptr ?_ | refine ex20 ?_ | refine ex21 ?_ | refine ex30 ?_ | refine ex31 ?_ | refine ex32 ?_ | refine ln_rule ?_ | refine lnT_rule ?_ | refine pu_and ?_ | refine pu_or ?_ | refine pu_xor ?_ | refine pu_seq ?_ | refine pu_sne ?_)
          refine cnd_t rfl ?_
          repeat (first | refine pu_not ?_ | refine pu_eql ?_ | refine pu_neq ?_ | refine pu_lss ?_ | refine pu_leq ?_ | refine pu_gtr ?_ | refine pu_geq ?_ | refine pu_add ?_ | refine pu_sub ?_ | refine pu_mul ?_ | refine pu_neg ?_ | refine fa_at ?_ | refine nl_ptr ?_ | refine ex20 ?_ | refine ex21 ?_ | refine ex30 ?_ | refine ex31 ?_ | refine ex32 ?_ | refine ln_rule ?_ | refine lnT_rule ?_ | refine pu_and ?_ | refine pu_or ?_ | refine pu_xor ?_ | refine pu_seq ?_ | refine pu_sne ?_)
          refine cnd_t (seqT' (bs_tb t)) ?_
          repeat (first | refine pu_not ?_ | refine pu_eql ?_ | refine pu_neq ?_ | refine pu_lss ?_ | refine pu_leq ?_ | refine pu_gtr ?_ | refine pu_geq ?_ | refine pu_add ?_ | refine pu_sub ?_ | refine pu_mul ?_ | refine pu_neg ?_ | refine fa_at ?_ | refine nl_ptr ?_ | refine ex20 ?_ | refine ex21 ?_ | refine ex30 ?_ | refine ex31 ?_ | refine ex32 ?_ | refine ln_rule ?_ | refine lnT_rule ?_ | refine pu_and ?_ | refine pu_or ?_ | refine pu_xor ?_ | refine pu_seq ?_ | refine pu_sne ?_)
          refine sl_ln hq ?_
          rw [List.length_map]
          dsimp only
          repeat (first | refine pu_not ?_ | refine pu_eql ?_ | refine pu_neq ?_ | refine pu_lss ?_ | refine pu_leq ?_ | refine pu_gtr ?_ | refine pu_geq ?_ | refine pu_add ?_ | refine pu_sub ?_ | refine pu_mul ?_ | refine pu_neg ?_ | refine fa_at ?_ | refine nl_ptr ?_ | refine ex20 ?_ | refine ex21 ?_ | refine ex30 ?_ | refine ex31 ?_ | refine ex32 ?_ | refine ln_rule ?_ | refine lnT_rule ?_ | refine pu_and ?_ | refine pu_or ?_ | refine pu_xor ?_ | refine pu_seq ?_ | refine pu_sne ?_)
          rw [wrap64_in (by omega) (by omega)]
          refine cnd_t (by simp) ?_
          exact oworks_spec h16 (fun w' h' => k w' ((((h'.sub (List.sublist_append_right _ _)).sub (List.sublist_append_right _ _)).sub (List.sublist_append_right _ _))))
      · refine bs_rule hA [] (by kernel_rfl) (fun b10 w10 h10 => ?_)
        refine text_spec h10 (by omega) (fun S a w11 h11 ho => ?_)
        refine app1 (A := S) (S := [(b10, cel [] T.t_uint8)]) (z := v8 0) (bytes := 1) (by simpa using h11) (Own.mk (n := 0) (cap := 0) (xs := []) (Nat.le_refl _) (Nat.zero_le _) rfl rfl) ho.sl (fun y hy => List.mem_append_left _ (List.mem_append_left _ hy)) (by simp [plainV]) und_slb info_u8 rfl (by simp [maxLen]; omega) (by simp; omega) (fun S2 p w12 h12 ho12 => ?_)
        have h12 := h12.sub ((List.sublist_append_right S S2).append (List.Sublist.refl _))
        refine text_spec h12 (by omega) (fun S3 a3 w13 h13 ho13 => ?_)
        refine app1 (A := S3) (S := S2) (z := v8 0) (bytes := 1) (by simpa using h13) ho12 ho13.sl (fun y hy => List.mem_append_left _ (List.mem_append_left _ hy)) (by simp [plainV]) und_slb info_u8 rfl (by simp [maxLen]; omega) (by simp; omega) (fun S4 q w14 h14 ho14 => ?_)
        have h14 := h14.sub ((List.sublist_append_right S3 S4).append (List.Sublist.refl _))
        have hq : Sl S4 q (bv (tx (tb s) ++ tx (tb t))) := by simpa using ho14.sl
        have hq : Sl (S4 ++ (Sn ++ (Sm ++ H))) q (bv (tx (tb s) ++ tx (tb t))) := hq.mono fun x hx => List.mem_append_left _ hx
        refine readText_spec (l := tx (tb s) ++ tx (tb t)) h14 hq htb (by simp; omega) (fun w15 h15 => ?_)
        rw [rt_tx (by rw [tb_len]; omega)]
        repeat (first | refine pu_not ?_ | refine pu_eql ?_ | refine pu_neq ?_ | refine pu_lss ?_ | refine pu_leq ?_ | refine pu_gtr ?_ | refine pu_geq ?_ | refine pu_add ?_ | refine pu_sub ?_ | refine pu_mul ?_ | refine pu_neg ?_ | refine fa_at ?_ | refine nl_ptr ?_ | refine ex20 ?_ | refine ex21 ?_ | refine ex30 ?_ | refine ex31 ?_ | refine ex32 ?_ | refine ln_rule ?_ | refine lnT_rule ?_ | refine pu_and ?_ | refine pu_or ?_ | refine pu_xor ?_ | refine pu_seq ?_ | refine pu_sne ?_)
        refine onum_spec ?_
        repeat (first | refine pu_not ?_ | refine pu_eql ?_ | refine pu_neq ?_ | refine pu_lss ?_ | refine pu_leq ?_ | refine pu_gtr ?_ | refine pu_geq ?_ | refine pu_add ?_ | refine pu_sub ?_ | refine pu_mul ?_ | refine pu_neg ?_ | refine fa_at ?_ | refine nl_ptr ?_ | refine ex20 ?_ | refine ex21 ?_ | refine ex30 ?_ | refine ex31 ?_ | refine ex32 ?_ | refine ln_rule ?_ | refine lnT_rule ?_ | refine pu_and ?_ | refine pu_or ?_ | refine pu_xor ?_ | refine pu_seq ?_ | refine pu_sne ?_)
        refine cnd_f rfl ?_
        repeat (first | refine pu_not ?_ | refine pu_eql ?_ | refine pu_neq ?_ | refine pu_lss ?_ | refine pu_leq ?_ | refine pu_gtr ?_ | refine pu_geq ?_ | refine pu_add ?_ | refine pu_sub ?_ | refine pu_mul ?_ | refine pu_neg ?_ | refine fa_at ?_ | refine nl_ptr ?_ | refine ex20 ?_ | refine ex21 ?_ | refine ex30 ?_ | refine ex31 ?_ | refine ex32 ?_ | refine ln_rule ?_ | refine lnT_rule ?_ | refine pu_and ?_ | refine pu_or ?_ | refine pu_xor ?_ | refine pu_seq ?_ | refine pu_sne ?_)
        refine cnd_f (sneF (bs_tb s)) ?_
        repeat (first | refine pu_not ?_ | refine pu_eql ?_ | refine pu_neq ?_ | refine pu_lss ?_ | refine pu_leq ?_ | refine pu_gtr ?_ | refine pu_geq ?_ | refine pu_add ?_ | refine pu_sub ?_ | refine pu_mul ?_ | refine pu_neg ?_ | refine fa_at ?_ | refine nl_ptr ?_ | refine ex20 ?_ | refine ex21 ?_ | refine ex30 ?_ | refine ex31 ?_ | refine ex32 ?_ | refine ln_rule ?_ | refine lnT_rule ?_ | refine pu_and ?_ | refine pu_or ?_ | refine pu_xor ?_ | refine pu_seq ?_ | refine pu_sne ?_)
        refine cnd_f (by simp) ?_
        refine sl_ln hq ?_
        rw [List.length_map]
        repeat (first | refine pu_not ?_ | refine pu_eql ?_ | refine pu_neq ?_ | refine pu_lss ?_ | refine pu_leq ?_ | refine pu_gtr ?_ | refine pu_geq ?_ | refine pu_add ?_ | refine pu_sub ?_ | refine pu_mul ?_ | refine pu_neg ?_ | refine fa_at ?_ | refine nl_ptr ?_ | refine ex20 ?_ | refine ex21 ?_ | refine ex30 ?_ | refine ex31 ?_ | refine ex32 ?_ | refine ln_rule ?_ | refine lnT_rule ?_ | refine pu_and ?_ | refine pu_or ?_ | refine pu_xor ?_ | refine pu_seq ?_ | refine pu_sne ?_)
        refine cnd_f (by simp; omega) ?_
        refine cutL hq (by omega) (by simp; omega) (fun c hc => ?_)
        rw [Int.toNat_natCast]
        have hq2 := sl_cut (l := (tx (tb s)).length) (h := (bv (tx (tb s) ++ tx (tb t))).length) (m := c) hq (by simp) (Nat.le_refl _) hc
        rw [List.take_length, ← List.map_drop, List.drop_left' rfl] at hq2
        refine readText_spec (l := tx (tb t)) h15 hq2 ((nb_byt _).app (tb_byt t)) (by omega) (fun w16 h16 => ?_)
        have e16 := rt_tx (s := tb t) (by rw [tb_len]; omega) []
        rw [List.append_nil] at e16
        rw [e16]
        repeat (first | refine pu_not ?_ | refine pu_eql ?_ | refine pu_neq ?_ | refine pu_lss ?_ | refine pu_leq ?_ | refine pu_gtr ?_ | refine pu_geq ?_ | refine pu_add ?_ | refine pu_sub ?_ | refine pu_mul ?_ | refine pu_neg ?_ | refine fa_at ?_ | refine nl_ptr ?_ | refine ex20 ?_ | refine ex21 ?_ | refine ex30 ?_ | refine ex31 ?_ | refine ex32 ?_ | refine ln_rule ?_ | refine lnT_rule ?_ | refine pu_and ?_ | refine pu_or ?_ | refine pu_xor ?_ | refine pu_seq ?_ | refine pu_sne ?_)
        refine onum_spec ?_
        repeat (first | refine pu_not ?_ | refine pu_eql ?_ | refine pu_neq ?_ | refine pu_lss ?_ | refine pu_leq ?_ | refine pu_gtr ?_ | refine pu_geq ?_ | refine pu_add ?_ | refine pu_sub ?_ | refine pu_mul ?_ | refine pu_neg ?_ | refine fa_at ?_ | refine nl_ptr ?_ | refine ex20 ?_ | refine ex21 ?_ | refine ex30 ?_ | refine ex31 ?_ | refine ex32 ?_ | refine ln_rule ?_ | refine lnT_rule ?_ | refine pu_and ?_ | refine pu_or ?_ | refine pu_xor ?_ | refine pu_seq ?_ | refine pu_sne ?_)
        refine cnd_t rfl ?_
        repeat (first | refine pu_not ?_ | refine pu_eql ?_ | refine pu_neq ?_ | refine pu_lss ?_ | refine pu_leq ?_ | refine pu_gtr ?_ | refine pu_geq ?_ | refine pu_add ?_ | refine pu_sub ?_ | refine pu_mul ?_ | refine pu_neg ?_ | refine fa_at ?_ | refine nl_ptr ?_ | refine ex20 ?_ | refine ex21 ?_ | refine ex30 ?_ | refine ex31 ?_ | refine ex32 ?_ | refine ln_rule ?_ | refine lnT_rule ?_ | refine pu_and ?_ | refine pu_or ?_ | refine pu_xor ?_ | refine pu_seq ?_ | refine pu_sne ?_)
        refine cnd_t (seqT' (bs_tb t)) ?_
        repeat (first | refine pu_not ?_ | refine pu_eql ?_ | refine pu_neq ?_ | refine pu_lss ?_ | refine pu_leq ?_ | refine pu_gtr ?_ | refine pu_geq ?_ | refine pu_add ?_ | refine pu_sub ?_ | refine pu_mul ?_ | refine pu_neg ?_ | refine fa_at ?_ | refine nl_ptr ?_ | refine ex20 ?_ | refine ex21 ?_ | refine ex30 ?_ | refine ex31 ?_ | refine ex32 ?_ | refine ln_rule ?_ | refine lnT_rule ?_ | refine pu_and ?_ | refine pu_or ?_ | refine pu_xor ?_ | refine pu_seq ?_ | refine pu_sne ?_)
        refine sl_ln hq ?_
        rw [List.length_map]
        dsimp only
        repeat (first | refine pu_not ?_ | refine pu_eql ?_ | refine pu_neq ?_ | refine pu_lss ?_ | refine pu_leq ?_ | refine pu_gtr ?_ | refine pu_geq ?_ | refine pu_add ?_ | refine pu_sub ?_ | refine pu_mul ?_ | refine pu_neg ?_ | refine fa_at ?_ | refine nl_ptr ?_ | refine ex20 ?_ | refine ex21 ?_ | refine ex30 ?_ | refine ex31 ?_ | refine ex32 ?_ | refine ln_rule ?_ | refine lnT_rule ?_ | refine pu_and ?_ | refine pu_or ?_ | refine pu_xor ?_ | refine pu_seq ?_ | refine pu_sne ?_)
        rw [wrap64_in (by omega) (by omega)]
        refine cnd_t (by simp) ?_
        exact oworks_spec h16 (fun w' h' => k w' ((((h'.sub (List.sublist_append_right _ _)).sub (List.sublist_append_right _ _)).sub (List.sublist_append_right _ _))))
end
end Go.Proofs.Ytplobehejancpaa
