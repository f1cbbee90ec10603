/- Contracts of package octet and its reference, second part. -/
import Derived.Test.YtplobehejancpaaVoB
set_option linter.unusedVariables false
set_option linter.unusedSimpArgs false
namespace Go.Proofs.Ytplobehejancpaa
open Go Go.RowKit Vc Oc
attribute [local irreducible] binV Op.unary convert nlW faW ldS ldW ixS ixA ixV ixT exW lnS lnT pu stW alW opW opU bsW mkW

section
variable {B w : World} {H : Hp} {K : Value → World → Prop} {PK : List PanicEntry → World → Prop}
theorem lit8 (n : Nat) : (Value.int .u8 (n : Int)) = v8 n := rfl
theorem Own.nn {S : Hp} {e : TypeId} {v : Value} {n size : Nat} {xs : List Value} (ho : Vc.Own S e size v n xs) (hn : 0 < n) : v ≠ .slice none 0 0 := by
  obtain ⟨hl, ⟨rfl, rfl, rfl⟩ | ⟨g, cap, l, rfl, rfl, hc, hm, hlen, hx⟩⟩ := ho
  · omega
  · intro h; cases h

/-! ### Number -/
theorem number_spec {n : Nat} (h : Ow B w H) (hn : n < 18446744073709551616) (k : ∀ S v w', Ow B w' (S ++ H) → Vc.Own S T.t_uint8 1 v (nb n).length (bv (nb n)) → K v w') : callW PG N.octet_Number [v64 n] K PK w := by
  refine octet_Number.ok ?_
  unfold octet_Number.C
  refine ⟨fun l' w => ∃ (m : Nat) (pre : List Nat) (S : Hp) (v : Value), l' = [v64 m, v] ∧ m < 18446744073709551616 ∧ pre ++ nb m = nb n ∧ Vc.Own S T.t_uint8 1 v pre.length (bv pre) ∧ Ow B w (S ++ H),
    fun l' _ => match l' with | [.int _ j, _] => j.toNat | _ => 0, ⟨n, [], [], _, rfl, hn, rfl, own_none _ _, h⟩, ?_⟩
  rintro l' w2 ⟨m, pre, S, v, rfl, hm, hp, ho, h2⟩ j
  have hnl := nb_len 9 n (by have : (128 : Nat) ^ (9 + 1) = 1180591620717411303424 := by decide
                             omega)
  have hpl := congrArg List.length hp
  rw [List.length_append] at hpl
  have hmp := nb_pos m
  repeat (first | refine pu_not ?_ | refine pu_eql ?_ | refine pu_neq ?_ | refine pu_lss ?_ | refine pu_leq ?_ | refine pu_gtr ?_ | refine pu_geq ?_ | refine pu_add ?_ | refine pu_sub ?_ | refine pu_mul ?_ | refine pu_neg ?_ | refine fa_at ?_ | refine nl_ptr ?_ | refine ex20 ?_ | refine ex21 ?_ | refine ex30 ?_ | refine ex31 ?_ | refine ex32 ?_ | refine ln_rule ?_ | refine lnT_rule ?_ | refine pu_and ?_ | refine pu_or ?_ | refine pu_xor ?_ | refine pu_seq ?_ | refine pu_sne ?_)
  refine cnd (fun hge => ?_) (fun hlt => ?_)
  · have hge : ¬ m < 128 := by simp at hge; omega
    refine cvt_u8 ?_
    refine pu_or ?_
    rw [or128 _ (by omega)]
    have e1 : m % 256 % 128 + 128 = m % 128 + 128 := by omega
    rw [e1]
    refine bs_rule h2 [v8 (m % 128 + 128)] (by kernel_rfl) (fun b3 w3 h3 => ?_)
    refine app1 (A := [_]) (z := v8 0) (bytes := 1) h3 ho (sl_here (b := b3) (l := [v8 (m % 128 + 128)]) (e := T.t_uint8) (.head _)) (fun y hy => hy) rfl und_slb info_u8 rfl (by simp [maxLen]; omega) (by simp; omega) (fun S' v' w4 h4 ho' => ?_)
    refine shr7 ?_
    refine ⟨⟨m / 128, pre ++ [m % 128 + 128], S', v', rfl, by omega, ?_, ?_, h4.drop⟩, by simp; omega⟩
    · rw [← hp, nb_big hge]; simp
    · simpa using ho'
  · have hlt : m < 128 := by simp at hlt; omega
    refine cvt_u8 ?_
    rw [Nat.mod_eq_of_lt (by omega)]
    refine bs_rule h2 [v8 m] (by kernel_rfl) (fun b3 w3 h3 => ?_)
    refine app1 (A := [_]) (z := v8 0) (bytes := 1) h3 ho (sl_here (b := b3) (l := [v8 m]) (e := T.t_uint8) (.head _)) (fun y hy => hy) rfl und_slb info_u8 rfl (by simp [maxLen]; omega) (by simp; omega) (fun S' v' w4 h4 ho' => ?_)
    refine k S' v' _ h4.drop ?_
    rw [← hp, nb_small hlt]
    simpa using ho'
theorem rnumber_spec : ∀ (n : Nat) {H : Hp} {w : World} {K : Value → World → Prop} (h : Ow B w H) (hn : n < 18446744073709551616) (k : ∀ S v w', Ow B w' (S ++ H) → Vc.Own S T.t_uint8 1 v (nb n).length (bv (nb n)) → K v w'), callW PG N.linesmanref01_Number [v64 n] K PK w := by
  intro n
  induction n using Nat.strongRecOn with
  | _ n ih =>
    intro H w K h hn k
    have hnl := nb_len 9 n (by have : (128 : Nat) ^ (9 + 1) = 1180591620717411303424 := by decide
                               omega)
    refine linesmanref01_Number.ok ?_
    unfold linesmanref01_Number.C
    repeat (first | refine pu_not ?_ | refine pu_eql ?_ | refine pu_neq ?_ | refine pu_lss ?_ | refine pu_leq ?_ | refine pu_gtr ?_ | refine pu_geq ?_ | refine pu_add ?_ | refine pu_sub ?_ | refine pu_mul ?_ | refine pu_neg ?_ | refine fa_at ?_ | refine nl_ptr ?_ | refine ex20 ?_ | refine ex21 ?_ | refine ex30 ?_ | refine ex31 ?_ | refine ex32 ?_ | refine ln_rule ?_ | refine lnT_rule ?_ | refine pu_and ?_ | refine pu_or ?_ | refine pu_xor ?_ | refine pu_seq ?_ | refine pu_sne ?_)
    refine cnd (fun hlt => ?_) (fun hge => ?_)
    · have hlt : n < 128 := by simp at hlt; omega
      refine cvt_u8 ?_
      rw [Nat.mod_eq_of_lt (by omega)]
      refine bs_rule h [v8 n] (by kernel_rfl) (fun b1 w1 h1 => ?_)
      refine k [(b1, cel [v8 n] T.t_uint8)] _ _ h1 ?_
      rw [nb_small hlt]
      exact Own.mk (Nat.le_refl _) (by simp [maxLen]) rfl rfl
    · have hge : ¬ n < 128 := by simp at hge; omega
      refine pu_rem (by omega) ?_
      refine pu_add ?_
      have e1 : IntKind.u64.wrap ((n : Int).tmod 128 + 128) = ((n % 128 + 128 : Nat) : Int) := by
        rw [Int.tmod_eq_emod_of_nonneg (by omega), wrapu64]; omega
      rw [e1]
      refine cvt_u8 ?_
      rw [Nat.mod_eq_of_lt (by omega)]
      refine bs_rule h [v8 (n % 128 + 128)] (by kernel_rfl) (fun b1 w1 h1 => ?_)
      refine pu_quo (by omega) ?_
      have e2 : IntKind.u64.wrap ((n : Int).tdiv 128) = ((n / 128 : Nat) : Int) := by
        rw [Int.tdiv_eq_ediv_of_nonneg (by omega), wrapu64]; omega
      rw [e2]
      refine ih (n / 128) (by omega) h1 (by omega) (fun S v w2 h2 ho => ?_)
      have e3 : (nb n).length = (nb (n / 128)).length + 1 := by rw [nb_big hge]; simp
      have ho1 : Vc.Own [(b1, cel [v8 (n % 128 + 128)] T.t_uint8)] T.t_uint8 1 (.slice (some ⟨b1, 0, none⟩) 1 1) 1 [v8 (n % 128 + 128)] := Own.mk (Nat.le_refl _) (by simp [maxLen]) rfl rfl
      have h2 : Ow B w2 (S ++ [(b1, cel [v8 (n % 128 + 128)] T.t_uint8)] ++ H) := by simpa using h2
      refine app1 (z := v8 0) (bytes := 1) h2 ho1 ho.sl (fun y hy => List.mem_append_left _ (List.mem_append_left _ hy)) (by simp [plainV]) und_slb info_u8 rfl (by simp [maxLen]; omega) (by simp; omega) (fun S' v' w3 h3 ho' => ?_)
      refine k S' v' _ ?_ ?_
      · rw [List.append_assoc] at h3
        exact h3.sub (List.sublist_append_right _ _)
      · rw [nb_big hge]
        simpa [Nat.add_comm] using ho'

/-! ### A reader -/
abbrev rdO (s : Value) (at' : Nat) : Obj := cel [s, vI at'] T.t_octet_reader
theorem has_spec {b at' n : Nat} {s : Value} {l : List Nat} (h : Ow B w H) (hm : (b, rdO s at') ∈ H) (hs : Sl H s (bv l)) (ha : at' ≤ l.length) (hl : l.length < 2 ^ 62) (k : ∀ w', Ow B w' H → K (vB (decide (n ≤ l.length - at'))) w') :
    callW PG N.octet_left_has [ptr b, v64 n] K PK w := by
  refine octet_left_has.ok ?_
  unfold octet_left_has.C
  refine ⟨fun w => Ow B w H, h.drew, ?_⟩
  repeat (first | refine pu_not ?_ | refine pu_eql ?_ | refine pu_neq ?_ | refine pu_lss ?_ | refine pu_leq ?_ | refine pu_gtr ?_ | refine pu_geq ?_ | refine pu_add ?_ | refine pu_sub ?_ | refine pu_mul ?_ | refine pu_neg ?_ | refine fa_at ?_ | refine nl_ptr ?_ | refine ex20 ?_ | refine ex21 ?_ | refine ex30 ?_ | refine ex31 ?_ | refine ex32 ?_ | refine ln_rule ?_ | refine lnT_rule ?_ | refine pu_and ?_ | refine pu_or ?_ | refine pu_xor ?_ | refine pu_seq ?_ | refine pu_sne ?_)
  refine lds_here (l := [s, vI at']) (fun w h => h) hm rfl ?_
  refine sl_ln hs ?_
  rw [List.length_map]
  repeat (first | refine pu_not ?_ | refine pu_eql ?_ | refine pu_neq ?_ | refine pu_lss ?_ | refine pu_leq ?_ | refine pu_gtr ?_ | refine pu_geq ?_ | refine pu_add ?_ | refine pu_sub ?_ | refine pu_mul ?_ | refine pu_neg ?_ | refine fa_at ?_ | refine nl_ptr ?_ | refine ex20 ?_ | refine ex21 ?_ | refine ex30 ?_ | refine ex31 ?_ | refine ex32 ?_ | refine ln_rule ?_ | refine lnT_rule ?_ | refine pu_and ?_ | refine pu_or ?_ | refine pu_xor ?_ | refine pu_seq ?_ | refine pu_sne ?_)
  refine lds_here (l := [s, vI at']) (fun w h => h) hm rfl ?_
  repeat (first | refine pu_not ?_ | refine pu_eql ?_ | refine pu_neq ?_ | refine pu_lss ?_ | refine pu_leq ?_ | refine pu_gtr ?_ | refine pu_geq ?_ | refine pu_add ?_ | refine pu_sub ?_ | refine pu_mul ?_ | refine pu_neg ?_ | refine fa_at ?_ | refine nl_ptr ?_ | refine ex20 ?_ | refine ex21 ?_ | refine ex30 ?_ | refine ex31 ?_ | refine ex32 ?_ | refine ln_rule ?_ | refine lnT_rule ?_ | refine pu_and ?_ | refine pu_or ?_ | refine pu_xor ?_ | refine pu_seq ?_ | refine pu_sne ?_)
  rw [wrap64_in (by omega) (by omega)]
  refine cvt_iu (by omega) (by omega) ?_
  repeat (first | refine pu_not ?_ | refine pu_eql ?_ | refine pu_neq ?_ | refine pu_lss ?_ | refine pu_leq ?_ | refine pu_gtr ?_ | refine pu_geq ?_ | refine pu_add ?_ | refine pu_sub ?_ | refine pu_mul ?_ | refine pu_neg ?_ | refine fa_at ?_ | refine nl_ptr ?_ | refine ex20 ?_ | refine ex21 ?_ | refine ex30 ?_ | refine ex31 ?_ | refine ex32 ?_ | refine ln_rule ?_ | refine lnT_rule ?_ | refine pu_and ?_ | refine pu_or ?_ | refine pu_xor ?_ | refine pu_seq ?_ | refine pu_sne ?_)
  have e : decide ((n : Int) ≤ (((l.length : Int) - (at' : Int)).toNat : Int)) = decide (n ≤ l.length - at') := by
    congr 1
    simp only [eq_iff_iff]
    omega
  rw [e]
  exact k _ h.drew
theorem Sl.cap {s : Value} {xs : List Value} (hs : Sl H s xs) : ∃ a c, s = .slice a xs.length c ∧ xs.length ≤ c := by
  obtain ⟨a, c, he, hc, _⟩ := hs
  exact ⟨a, c, he, hc⟩
section
variable {X : Hp} {s : Value} {xs : List Value} {KK : Value → Prop} {l h m : Int}
theorem cutLHM (hs : Sl X s xs) (h0 : 0 ≤ l) (h1 : l ≤ h) (h2 : h ≤ m) (h3 : m ≤ xs.length) (k : KK (cut s l.toNat h.toNat m.toNat)) : pu PG (Instr.sliceAt T.t_sl_uint8 s (some (vI l)) (some (vI h)) (some (vI m))) KK := by
  obtain ⟨a, c, rfl, hc⟩ := Sl.cap hs
  exact pu_cutLHM und_slb one_u8 h0 h1 h2 (by omega) k
theorem cutLH (hs : Sl X s xs) (h0 : 0 ≤ l) (h1 : l ≤ h) (h3 : h ≤ xs.length) (k : ∀ c : Nat, h ≤ c → KK (cut s l.toNat h.toNat c)) : pu PG (Instr.sliceAt T.t_sl_uint8 s (some (vI l)) (some (vI h)) none) KK := by
  obtain ⟨a, c, rfl, hc⟩ := Sl.cap hs
  exact pu_cutLH und_slb one_u8 h0 h1 (by omega) (k c (by omega))
theorem cutH (hs : Sl X s xs) (h0 : 0 ≤ h) (h3 : h ≤ xs.length) (k : ∀ c : Nat, h ≤ c → KK (cut s 0 h.toNat c)) : pu PG (Instr.sliceAt T.t_sl_uint8 s none (some (vI h)) none) KK := by
  obtain ⟨a, c, rfl, hc⟩ := Sl.cap hs
  exact pu_cutH und_slb one_u8 h0 (by omega) (k c (by omega))
theorem cutL (hs : Sl X s xs) (h0 : 0 ≤ l) (h1 : l ≤ xs.length) (k : ∀ c : Nat, xs.length ≤ c → KK (cut s l.toNat xs.length c)) : pu PG (Instr.sliceAt T.t_sl_uint8 s (some (vI l)) none none) KK := by
  obtain ⟨a, c, rfl, hc⟩ := Sl.cap hs
  exact pu_cutL und_slb one_u8 h0 h1 (k c hc)
theorem bldLeft (hs : Sl X s xs) (k : KK (.agg #[s, vI 0])) : pu PG (Instr.build T.t_octet_left #[(0, s)]) KK := by
  obtain ⟨a, c, rfl, hc⟩ := Sl.cap hs
  clear hs hc
  generalize xs.length = n at *
  exact pu_build [.slice a n c, vI 0] (by kernel_rfl) k
theorem bldReader (hs : Sl X s xs) (k : KK (.agg #[s, vI 0])) : pu PG (Instr.build T.t_octet_reader #[(0, .agg #[s, vI 0])]) KK := by
  obtain ⟨a, c, rfl, hc⟩ := Sl.cap hs
  clear hs hc
  generalize xs.length = n at *
  exact pu_build [.slice a n c, vI 0] (by kernel_rfl) k
end
theorem take_spec {A C X0 : Hp} {b at' n : Nat} {s : Value} {l : List Nat} (h : Ow B w (A ++ (b, rdO s at') :: C)) (hs : Sl X0 s (bv l)) (ha : at' + n ≤ l.length) (hl : l.length < 2 ^ 62)
    (k : ∀ w', Ow B w' (A ++ (b, rdO s (at' + n)) :: C) → K (cut s at' (at' + n) (at' + n)) w') : callW PG N.octet_left_take [ptr b, vI n] K PK w := by
  refine octet_left_take.ok ?_
  unfold octet_left_take.C
  have hm : (b, rdO s at') ∈ A ++ (b, rdO s at') :: C := List.mem_append_right _ (.head _)
  refine ⟨fun w => Ow B w (A ++ (b, rdO s at') :: C), h.drew, ?_⟩
  repeat (first | refine pu_not ?_ | refine pu_eql ?_ | refine pu_neq ?_ | refine pu_lss ?_ | refine pu_leq ?_ | refine pu_gtr ?_ | refine pu_geq ?_ | refine pu_add ?_ | refine pu_sub ?_ | refine pu_mul ?_ | refine pu_neg ?_ | refine fa_at ?_ | refine nl_ptr ?_ | refine ex20 ?_ | refine ex21 ?_ | refine ex30 ?_ | refine ex31 ?_ | refine ex32 ?_ | refine ln_rule ?_ | refine lnT_rule ?_ | refine pu_and ?_ | refine pu_or ?_ | refine pu_xor ?_ | refine pu_seq ?_ | refine pu_sne ?_)
  refine lds_here (l := [s, vI at']) (fun w h => h) hm rfl ?_
  repeat (first | refine pu_not ?_ | refine pu_eql ?_ | refine pu_neq ?_ | refine pu_lss ?_ | refine pu_leq ?_ | refine pu_gtr ?_ | refine pu_geq ?_ | refine pu_add ?_ | refine pu_sub ?_ | refine pu_mul ?_ | refine pu_neg ?_ | refine fa_at ?_ | refine nl_ptr ?_ | refine ex20 ?_ | refine ex21 ?_ | refine ex30 ?_ | refine ex31 ?_ | refine ex32 ?_ | refine ln_rule ?_ | refine lnT_rule ?_ | refine pu_and ?_ | refine pu_or ?_ | refine pu_xor ?_ | refine pu_seq ?_ | refine pu_sne ?_)
  refine lds_here (l := [s, vI at']) (fun w h => h) hm rfl ?_
  repeat (first | refine pu_not ?_ | refine pu_eql ?_ | refine pu_neq ?_ | refine pu_lss ?_ | refine pu_leq ?_ | refine pu_gtr ?_ | refine pu_geq ?_ | refine pu_add ?_ | refine pu_sub ?_ | refine pu_mul ?_ | refine pu_neg ?_ | refine fa_at ?_ | refine nl_ptr ?_ | refine ex20 ?_ | refine ex21 ?_ | refine ex30 ?_ | refine ex31 ?_ | refine ex32 ?_ | refine ln_rule ?_ | refine lnT_rule ?_ | refine pu_and ?_ | refine pu_or ?_ | refine pu_xor ?_ | refine pu_seq ?_ | refine pu_sne ?_)
  refine lds_here (l := [s, vI at']) (fun w h => h) hm rfl ?_
  repeat (first | refine pu_not ?_ | refine pu_eql ?_ | refine pu_neq ?_ | refine pu_lss ?_ | refine pu_leq ?_ | refine pu_gtr ?_ | refine pu_geq ?_ | refine pu_add ?_ | refine pu_sub ?_ | refine pu_mul ?_ | refine pu_neg ?_ | refine fa_at ?_ | refine nl_ptr ?_ | refine ex20 ?_ | refine ex21 ?_ | refine ex30 ?_ | refine ex31 ?_ | refine ex32 ?_ | refine ln_rule ?_ | refine lnT_rule ?_ | refine pu_and ?_ | refine pu_or ?_ | refine pu_xor ?_ | refine pu_seq ?_ | refine pu_sne ?_)
  rw [wrap64_in (by omega) (by omega)]
  repeat (first | refine pu_not ?_ | refine pu_eql ?_ | refine pu_neq ?_ | refine pu_lss ?_ | refine pu_leq ?_ | refine pu_gtr ?_ | refine pu_geq ?_ | refine pu_add ?_ | refine pu_sub ?_ | refine pu_mul ?_ | refine pu_neg ?_ | refine fa_at ?_ | refine nl_ptr ?_ | refine ex20 ?_ | refine ex21 ?_ | refine ex30 ?_ | refine ex31 ?_ | refine ex32 ?_ | refine ln_rule ?_ | refine lnT_rule ?_ | refine pu_and ?_ | refine pu_or ?_ | refine pu_xor ?_ | refine pu_seq ?_ | refine pu_sne ?_)
  refine lds_here (l := [s, vI at']) (fun w h => h) hm rfl ?_
  repeat (first | refine pu_not ?_ | refine pu_eql ?_ | refine pu_neq ?_ | refine pu_lss ?_ | refine pu_leq ?_ | refine pu_gtr ?_ | refine pu_geq ?_ | refine pu_add ?_ | refine pu_sub ?_ | refine pu_mul ?_ | refine pu_neg ?_ | refine fa_at ?_ | refine nl_ptr ?_ | refine ex20 ?_ | refine ex21 ?_ | refine ex30 ?_ | refine ex31 ?_ | refine ex32 ?_ | refine ln_rule ?_ | refine lnT_rule ?_ | refine pu_and ?_ | refine pu_or ?_ | refine pu_xor ?_ | refine pu_seq ?_ | refine pu_sne ?_)
  rw [wrap64_in (by omega) (by omega)]
  refine cutLHM hs (by omega) (by omega) (by omega) (by simp; omega) ?_
  repeat (first | refine pu_not ?_ | refine pu_eql ?_ | refine pu_neq ?_ | refine pu_lss ?_ | refine pu_leq ?_ | refine pu_gtr ?_ | refine pu_geq ?_ | refine pu_add ?_ | refine pu_sub ?_ | refine pu_mul ?_ | refine pu_neg ?_ | refine fa_at ?_ | refine nl_ptr ?_ | refine ex20 ?_ | refine ex21 ?_ | refine ex30 ?_ | refine ex31 ?_ | refine ex32 ?_ | refine ln_rule ?_ | refine lnT_rule ?_ | refine pu_and ?_ | refine pu_or ?_ | refine pu_xor ?_ | refine pu_seq ?_ | refine pu_sne ?_)
  refine ld_here (l := [s, vI at']) h.drew hm rfl ?_
  repeat (first | refine pu_not ?_ | refine pu_eql ?_ | refine pu_neq ?_ | refine pu_lss ?_ | refine pu_leq ?_ | refine pu_gtr ?_ | refine pu_geq ?_ | refine pu_add ?_ | refine pu_sub ?_ | refine pu_mul ?_ | refine pu_neg ?_ | refine fa_at ?_ | refine nl_ptr ?_ | refine ex20 ?_ | refine ex21 ?_ | refine ex30 ?_ | refine ex31 ?_ | refine ex32 ?_ | refine ln_rule ?_ | refine lnT_rule ?_ | refine pu_and ?_ | refine pu_or ?_ | refine pu_xor ?_ | refine pu_seq ?_ | refine pu_sne ?_)
  rw [wrap64_in (by omega) (by omega)]
  refine st1_here h.drew rfl rfl (by simp) (fun w2 h2 => ?_)
  have e1 : ((at' : Int)).toNat = at' := Int.toNat_natCast _
  have e2 : ((at' : Int) + (n : Int)).toNat = at' + n := by omega
  rw [e1, e2]
  refine k _ ?_
  have e3 : [s, vI at'].set (0 + 0 + 1) (vI ((at' : Int) + (n : Int))) = [s, vI ((at' + n : Nat) : Int)] := by simp
  have h2 : Ow B w2 (A ++ (b, cel ([s, vI at'].set (0 + 0 + 1) (vI ((at' : Int) + (n : Int)))) T.t_octet_reader) :: C) := h2
  rw [e3] at h2
  exact h2
/-- What is read, and where the reader is then. -/
theorem rnumb_spec {A C X0 : Hp} {b : Nat} {s : Value} {l : List Nat} (h : Ow B w (A ++ (b, rdO s 0) :: C)) (hs : Sl X0 s (bv l)) (hX : ∀ x, x ∈ X0 → x ∈ A ++ C) (hb : Byt l) (hl : l.length < 2 ^ 62)
    (k : ∀ q w', Ow B w' (A ++ (b, rdO s q) :: C) → ((rn l 0 0).2.2 = 0 → q = (rn l 0 0).2.1) → K (.tuple #[v64 (rn l 0 0).1, vI (rn l 0 0).2.2]) w') : callW PG N.octet_reader_number [ptr b] K PK w := by
  generalize hr0 : rn l 0 0 = r0 at k
  refine octet_reader_number.ok ?_
  unfold octet_reader_number.C
  have hmem : ∀ q, ∀ x, x ∈ X0 → x ∈ A ++ (b, rdO s q) :: C := fun q x hx => by
    rcases List.mem_append.1 (hX x hx) with h1 | h1
    · exact List.mem_append_left _ h1
    · exact List.mem_append_right _ (.tail _ h1)
  refine ⟨fun l' w => ∃ i n : Nat, l' = [v64 n, vI i] ∧ i ≤ l.length ∧ i ≤ 9 ∧ n < 128 ^ i ∧ rn (l.drop i) i n = r0 ∧ Ow B w (A ++ (b, rdO s i) :: C),
    fun l' _ => match l' with | [_, .int _ j] => l.length - j.toNat | _ => 0, ⟨0, 0, rfl, Nat.zero_le _, by omega, by simp, hr0, h⟩, ?_⟩
  rintro l' w2 ⟨i, n, rfl, hi, hi9, hn, hrn, h2⟩ j
  repeat (first | refine pu_not ?_ | refine pu_eql ?_ | refine pu_neq ?_ | refine pu_lss ?_ | refine pu_leq ?_ | refine pu_gtr ?_ | refine pu_geq ?_ | refine pu_add ?_ | refine pu_sub ?_ | refine pu_mul ?_ | refine pu_neg ?_ | refine fa_at ?_ | refine nl_ptr ?_ | refine ex20 ?_ | refine ex21 ?_ | refine ex30 ?_ | refine ex31 ?_ | refine ex32 ?_ | refine ln_rule ?_ | refine lnT_rule ?_ | refine pu_and ?_ | refine pu_or ?_ | refine pu_xor ?_ | refine pu_seq ?_ | refine pu_sne ?_)
  refine has_spec (n := 1) h2 (List.mem_append_right _ (.head _)) (hs.mono (hmem i)) hi hl (fun w3 h3 => ?_)
  refine cnd (fun hlt => ?_) (fun hlt => ?_)
  · have hlt : i < l.length := by simp at hlt; omega
    repeat (first | refine pu_not ?_ | refine pu_eql ?_ | refine pu_neq ?_ | refine pu_lss ?_ | refine pu_leq ?_ | refine pu_gtr ?_ | refine pu_geq ?_ | refine pu_add ?_ | refine pu_sub ?_ | refine pu_mul ?_ | refine pu_neg ?_ | refine fa_at ?_ | refine nl_ptr ?_ | refine ex20 ?_ | refine ex21 ?_ | refine ex30 ?_ | refine ex31 ?_ | refine ex32 ?_ | refine ln_rule ?_ | refine lnT_rule ?_ | refine pu_and ?_ | refine pu_or ?_ | refine pu_xor ?_ | refine pu_seq ?_ | refine pu_sne ?_)
    refine take_spec (n := 1) h3 hs (by omega) hl (fun w4 h4 => ?_)
    have hs2 := sl_cut (l := i) (h := i + 1) (m := i + 1) hs (by omega) (by simp; omega) (Nat.le_refl _)
    have hat : l[i]? = some (l.getD i 0) := by simp [List.getD, hlt]
    have hc := hb.at hat
    have hdr : l.drop i = l.getD i 0 :: l.drop (i + 1) := by
      obtain ⟨q2, q3⟩ := List.getElem?_eq_some_iff.1 hat
      rw [List.drop_eq_getElem_cons q2, q3]
    rw [hdr] at hrn
    refine sl_ld (v := v8 (l.getD i 0)) h4 (hs2.mono (hmem _)) (by omega) (by simp [List.getElem?_take, hlt, List.getD]) ?_
    generalize l.getD i 0 = c at *
    unfold rn at hrn
    repeat (first | refine pu_not ?_ | refine pu_eql ?_ | refine pu_neq ?_ | refine pu_lss ?_ | refine pu_leq ?_ | refine pu_gtr ?_ | refine pu_geq ?_ | refine pu_add ?_ | refine pu_sub ?_ | refine pu_mul ?_ | refine pu_neg ?_ | refine fa_at ?_ | refine nl_ptr ?_ | refine ex20 ?_ | refine ex21 ?_ | refine ex30 ?_ | refine ex31 ?_ | refine ex32 ?_ | refine ln_rule ?_ | refine lnT_rule ?_ | refine pu_and ?_ | refine pu_or ?_ | refine pu_xor ?_ | refine pu_seq ?_ | refine pu_sne ?_)
    refine cnd (fun h0 => ?_) (fun h0 => ?_)
    · simp at h0
      repeat (first | refine pu_not ?_ | refine pu_eql ?_ | refine pu_neq ?_ | refine pu_lss ?_ | refine pu_leq ?_ | refine pu_gtr ?_ | refine pu_geq ?_ | refine pu_add ?_ | refine pu_sub ?_ | refine pu_mul ?_ | refine pu_neg ?_ | refine fa_at ?_ | refine nl_ptr ?_ | refine ex20 ?_ | refine ex21 ?_ | refine ex30 ?_ | refine ex31 ?_ | refine ex32 ?_ | refine ln_rule ?_ | refine lnT_rule ?_ | refine pu_and ?_ | refine pu_or ?_ | refine pu_xor ?_ | refine pu_seq ?_ | refine pu_sne ?_)
      refine cnd (fun hz => ?_) (fun hz => ?_)
      · simp at hz
        have hbad : (0 < i ∧ c = 0) ∨ (i = 9 ∧ 1 < c) := by omega
        rw [if_pos hbad] at hrn
        have hk := k (i + 1) _ h4
        rw [← hrn] at hk
        exact hk (fun he => absurd he (by simp))
      · simp at hz
        repeat (first | refine pu_not ?_ | refine pu_eql ?_ | refine pu_neq ?_ | refine pu_lss ?_ | refine pu_leq ?_ | refine pu_gtr ?_ | refine pu_geq ?_ | refine pu_add ?_ | refine pu_sub ?_ | refine pu_mul ?_ | refine pu_neg ?_ | refine fa_at ?_ | refine nl_ptr ?_ | refine ex20 ?_ | refine ex21 ?_ | refine ex30 ?_ | refine ex31 ?_ | refine ex32 ?_ | refine ln_rule ?_ | refine lnT_rule ?_ | refine pu_and ?_ | refine pu_or ?_ | refine pu_xor ?_ | refine pu_seq ?_ | refine pu_sne ?_)
        refine cnd (fun h9 => ?_) (fun h9 => ?_)
        · simp at h9
          repeat (first | refine pu_not ?_ | refine pu_eql ?_ | refine pu_neq ?_ | refine pu_lss ?_ | refine pu_leq ?_ | refine pu_gtr ?_ | refine pu_geq ?_ | refine pu_add ?_ | refine pu_sub ?_ | refine pu_mul ?_ | refine pu_neg ?_ | refine fa_at ?_ | refine nl_ptr ?_ | refine ex20 ?_ | refine ex21 ?_ | refine ex30 ?_ | refine ex31 ?_ | refine ex32 ?_ | refine ln_rule ?_ | refine lnT_rule ?_ | refine pu_and ?_ | refine pu_or ?_ | refine pu_xor ?_ | refine pu_seq ?_ | refine pu_sne ?_)
          refine cnd (fun hg => ?_) (fun hg => ?_)
          · simp at hg
            have hbad : (0 < i ∧ c = 0) ∨ (i = 9 ∧ 1 < c) := by omega
            rw [if_pos hbad] at hrn
            have hk := k (i + 1) _ h4
            rw [← hrn] at hk
            exact hk (fun he => absurd he (by simp))
          · simp at hg
            have hno : ¬ ((0 < i ∧ c = 0) ∨ (i = 9 ∧ 1 < c)) := by omega
            rw [if_neg hno] at hrn
            refine pu_andNot128 hc ?_
            refine cvt_u64 (by omega) ?_
            repeat (first | refine pu_not ?_ | refine pu_eql ?_ | refine pu_neq ?_ | refine pu_lss ?_ | refine pu_leq ?_ | refine pu_gtr ?_ | refine pu_geq ?_ | refine pu_add ?_ | refine pu_sub ?_ | refine pu_mul ?_ | refine pu_neg ?_ | refine fa_at ?_ | refine nl_ptr ?_ | refine ex20 ?_ | refine ex21 ?_ | refine ex30 ?_ | refine ex31 ?_ | refine ex32 ?_ | refine ln_rule ?_ | refine lnT_rule ?_ | refine pu_and ?_ | refine pu_or ?_ | refine pu_xor ?_ | refine pu_seq ?_ | refine pu_sne ?_)
            rw [wrap64_in (by omega) (by omega)]
            have hp9 := pow_le9 hi9
            have hval : n + c % 128 * 128 ^ i < 18446744073709551616 := by
              by_cases h9 : i = 9
              · subst h9
                rw [pow9] at hn ⊢
                omega
              · have hp := pow_le8 (i := i) (by omega)
                have : c % 128 * 128 ^ i ≤ 127 * 128 ^ i := Nat.mul_le_mul_right _ (by omega)
                omega
            refine shl_nat (k := 7 * i) (by rw [pw7]; omega) (by omega) ?_
            refine or_nat (by rw [pw7]; exact hn) (by rw [pw7, show (2 : Nat) ^ 64 = 18446744073709551616 from rfl]; omega) ?_
            rw [pw7]
            repeat (first | refine pu_not ?_ | refine pu_eql ?_ | refine pu_neq ?_ | refine pu_lss ?_ | refine pu_leq ?_ | refine pu_gtr ?_ | refine pu_geq ?_ | refine pu_add ?_ | refine pu_sub ?_ | refine pu_mul ?_ | refine pu_neg ?_ | refine fa_at ?_ | refine nl_ptr ?_ | refine ex20 ?_ | refine ex21 ?_ | refine ex30 ?_ | refine ex31 ?_ | refine ex32 ?_ | refine ln_rule ?_ | refine lnT_rule ?_ | refine pu_and ?_ | refine pu_or ?_ | refine pu_xor ?_ | refine pu_seq ?_ | refine pu_sne ?_)
            refine cnd (fun hsm => ?_) (fun hsm => ?_)
            · have hsm : c < 128 := by simp at hsm; omega
              rw [if_pos hsm] at hrn
              have hk := k (i + 1) _ h4
              rw [← hrn] at hk
              exact hk (fun _ => rfl)
            · have hsm : ¬ c < 128 := by simp at hsm; omega
              rw [if_neg hsm] at hrn
              repeat (first | refine pu_not ?_ | refine pu_eql ?_ | refine pu_neq ?_ | refine pu_lss ?_ | refine pu_leq ?_ | refine pu_gtr ?_ | refine pu_geq ?_ | refine pu_add ?_ | refine pu_sub ?_ | refine pu_mul ?_ | refine pu_neg ?_ | refine fa_at ?_ | refine nl_ptr ?_ | refine ex20 ?_ | refine ex21 ?_ | refine ex30 ?_ | refine ex31 ?_ | refine ex32 ?_ | refine ln_rule ?_ | refine lnT_rule ?_ | refine pu_and ?_ | refine pu_or ?_ | refine pu_xor ?_ | refine pu_seq ?_ | refine pu_sne ?_)
              rw [wrap64_in (by omega) (by omega)]
              have hi8 : i ≤ 8 := by omega
              refine ⟨⟨i + 1, n + c % 128 * 128 ^ i, rfl, hlt, by omega, ?_, hrn, h4⟩, by simp; omega⟩
              rw [Nat.pow_succ]
              have : c % 128 * 128 ^ i ≤ 127 * 128 ^ i := Nat.mul_le_mul_right _ (by omega)
              omega
        · simp at h9
          have hno : ¬ ((0 < i ∧ c = 0) ∨ (i = 9 ∧ 1 < c)) := by omega
          rw [if_neg hno] at hrn
          refine pu_andNot128 hc ?_
          refine cvt_u64 (by omega) ?_
          repeat (first | refine pu_not ?_ | refine pu_eql ?_ | refine pu_neq ?_ | refine pu_lss ?_ | refine pu_leq ?_ | refine pu_gtr ?_ | refine pu_geq ?_ | refine pu_add ?_ | refine pu_sub ?_ | refine pu_mul ?_ | refine pu_neg ?_ | refine fa_at ?_ | refine nl_ptr ?_ | refine ex20 ?_ | refine ex21 ?_ | refine ex30 ?_ | refine ex31 ?_ | refine ex32 ?_ | refine ln_rule ?_ | refine lnT_rule ?_ | refine pu_and ?_ | refine pu_or ?_ | refine pu_xor ?_ | refine pu_seq ?_ | refine pu_sne ?_)
          rw [wrap64_in (by omega) (by omega)]
          have hp9 := pow_le9 hi9
          have hval : n + c % 128 * 128 ^ i < 18446744073709551616 := by
            by_cases h9 : i = 9
            · subst h9
              rw [pow9] at hn ⊢
              omega
            · have hp := pow_le8 (i := i) (by omega)
              have : c % 128 * 128 ^ i ≤ 127 * 128 ^ i := Nat.mul_le_mul_right _ (by omega)
              omega
          refine shl_nat (k := 7 * i) (by rw [pw7]; omega) (by omega) ?_
          refine or_nat (by rw [pw7]; exact hn) (by rw [pw7, show (2 : Nat) ^ 64 = 18446744073709551616 from rfl]; omega) ?_
          rw [pw7]
          repeat (first | refine pu_not ?_ | refine pu_eql ?_ | refine pu_neq ?_ | refine pu_lss ?_ | refine pu_leq ?_ | refine pu_gtr ?_ | refine pu_geq ?_ | refine pu_add ?_ | refine pu_sub ?_ | refine pu_mul ?_ | refine pu_neg ?_ | refine fa_at ?_ | refine nl_ptr ?_ | refine ex20 ?_ | refine ex21 ?_ | refine ex30 ?_ | refine ex31 ?_ | refine ex32 ?_ | refine ln_rule ?_ | refine lnT_rule ?_ | refine pu_and ?_ | refine pu_or ?_ | refine pu_xor ?_ | refine pu_seq ?_ | refine pu_sne ?_)
          refine cnd (fun hsm => ?_) (fun hsm => ?_)
          · have hsm : c < 128 := by simp at hsm; omega
            rw [if_pos hsm] at hrn
            have hk := k (i + 1) _ h4
            rw [← hrn] at hk
            exact hk (fun _ => rfl)
          · have hsm : ¬ c < 128 := by simp at hsm; omega
            rw [if_neg hsm] at hrn
            repeat (first | refine pu_not ?_ | refine pu_eql ?_ | refine pu_neq ?_ | refine pu_lss ?_ | refine pu_leq ?_ | refine pu_gtr ?_ | refine pu_geq ?_ | refine pu_add ?_ | refine pu_sub ?_ | refine pu_mul ?_ | refine pu_neg ?_ | refine fa_at ?_ | refine nl_ptr ?_ | refine ex20 ?_ | refine ex21 ?_ | refine ex30 ?_ | refine ex31 ?_ | refine ex32 ?_ | refine ln_rule ?_ | refine lnT_rule ?_ | refine pu_and ?_ | refine pu_or ?_ | refine pu_xor ?_ | refine pu_seq ?_ | refine pu_sne ?_)
            rw [wrap64_in (by omega) (by omega)]
            have hi8 : i ≤ 8 := by omega
            refine ⟨⟨i + 1, n + c % 128 * 128 ^ i, rfl, hlt, by omega, ?_, hrn, h4⟩, by simp; omega⟩
            rw [Nat.pow_succ]
            have : c % 128 * 128 ^ i ≤ 127 * 128 ^ i := Nat.mul_le_mul_right _ (by omega)
            omega
    · simp at h0
      repeat (first | refine pu_not ?_ | refine pu_eql ?_ | refine pu_neq ?_ | refine pu_lss ?_ | refine pu_leq ?_ | refine pu_gtr ?_ | refine pu_geq ?_ | refine pu_add ?_ | refine pu_sub ?_ | refine pu_mul ?_ | refine pu_neg ?_ | refine fa_at ?_ | refine nl_ptr ?_ | refine ex20 ?_ | refine ex21 ?_ | refine ex30 ?_ | refine ex31 ?_ | refine ex32 ?_ | refine ln_rule ?_ | refine lnT_rule ?_ | refine pu_and ?_ | refine pu_or ?_ | refine pu_xor ?_ | refine pu_seq ?_ | refine pu_sne ?_)
      refine cnd (fun h9 => ?_) (fun h9 => ?_)
      · simp at h9
        exfalso; omega
      · simp at h9
        have hno : ¬ ((0 < i ∧ c = 0) ∨ (i = 9 ∧ 1 < c)) := by omega
        rw [if_neg hno] at hrn
        refine pu_andNot128 hc ?_
        refine cvt_u64 (by omega) ?_
        repeat (first | refine pu_not ?_ | refine pu_eql ?_ | refine pu_neq ?_ | refine pu_lss ?_ | refine pu_leq ?_ | refine pu_gtr ?_ | refine pu_geq ?_ | refine pu_add ?_ | refine pu_sub ?_ | refine pu_mul ?_ | refine pu_neg ?_ | refine fa_at ?_ | refine nl_ptr ?_ | refine ex20 ?_ | refine ex21 ?_ | refine ex30 ?_ | refine ex31 ?_ | refine ex32 ?_ | refine ln_rule ?_ | refine lnT_rule ?_ | refine pu_and ?_ | refine pu_or ?_ | refine pu_xor ?_ | refine pu_seq ?_ | refine pu_sne ?_)
        rw [wrap64_in (by omega) (by omega)]
        have hp9 := pow_le9 hi9
        have hval : n + c % 128 * 128 ^ i < 18446744073709551616 := by
          by_cases h9 : i = 9
          · subst h9
            rw [pow9] at hn ⊢
            omega
          · have hp := pow_le8 (i := i) (by omega)
            have : c % 128 * 128 ^ i ≤ 127 * 128 ^ i := Nat.mul_le_mul_right _ (by omega)
            omega
        refine shl_nat (k := 7 * i) (by rw [pw7]; omega) (by omega) ?_
        refine or_nat (by rw [pw7]; exact hn) (by rw [pw7, show (2 : Nat) ^ 64 = 18446744073709551616 from rfl]; omega) ?_
        rw [pw7]
        repeat (first | refine pu_not ?_ | refine pu_eql ?_ | refine pu_neq ?_ | refine pu_lss ?_ | refine pu_leq ?_ | refine pu_gtr ?_ | refine pu_geq ?_ | refine pu_add ?_ | refine pu_sub ?_ | refine pu_mul ?_ | refine pu_neg ?_ | refine fa_at ?_ | refine nl_ptr ?_ | refine ex20 ?_ | refine ex21 ?_ | refine ex30 ?_ | refine ex31 ?_ | refine ex32 ?_ | refine ln_rule ?_ | refine lnT_rule ?_ | refine pu_and ?_ | refine pu_or ?_ | refine pu_xor ?_ | refine pu_seq ?_ | refine pu_sne ?_)
        refine cnd (fun hsm => ?_) (fun hsm => ?_)
        · have hsm : c < 128 := by simp at hsm; omega
          rw [if_pos hsm] at hrn
          have hk := k (i + 1) _ h4
          rw [← hrn] at hk
          exact hk (fun _ => rfl)
        · have hsm : ¬ c < 128 := by simp at hsm; omega
          rw [if_neg hsm] at hrn
          repeat (first | refine pu_not ?_ | refine pu_eql ?_ | refine pu_neq ?_ | refine pu_lss ?_ | refine pu_leq ?_ | refine pu_gtr ?_ | refine pu_geq ?_ | refine pu_add ?_ | refine pu_sub ?_ | refine pu_mul ?_ | refine pu_neg ?_ | refine fa_at ?_ | refine nl_ptr ?_ | refine ex20 ?_ | refine ex21 ?_ | refine ex30 ?_ | refine ex31 ?_ | refine ex32 ?_ | refine ln_rule ?_ | refine lnT_rule ?_ | refine pu_and ?_ | refine pu_or ?_ | refine pu_xor ?_ | refine pu_seq ?_ | refine pu_sne ?_)
          rw [wrap64_in (by omega) (by omega)]
          have hi8 : i ≤ 8 := by omega
          refine ⟨⟨i + 1, n + c % 128 * 128 ^ i, rfl, hlt, by omega, ?_, hrn, h4⟩, by simp; omega⟩
          rw [Nat.pow_succ]
          have : c % 128 * 128 ^ i ≤ 127 * 128 ^ i := Nat.mul_le_mul_right _ (by omega)
          omega
  · have hlt : i = l.length := by simp at hlt; omega
    subst hlt
    rw [List.drop_length] at hrn
    have hk := k l.length _ h3
    rw [← hrn] at hk
    exact hk (fun he => absurd he (by simp [rn]))
theorem readNumber_spec {s : Value} {l : List Nat} (h : Ow B w H) (hs : Sl H s (bv l)) (hb : Byt l) (hl : l.length < 2 ^ 62)
    (k : ∀ w', Ow B w' H → K (.tuple #[v64 (rn l 0 0).1, vI (rn l 0 0).2.1, vI (rn l 0 0).2.2]) w') : callW PG N.octet_ReadNumber [s] K PK w := by
  have hz := rn_err l 0 0
  refine octet_ReadNumber.ok ?_
  unfold octet_ReadNumber.C
  refine octet_read_uint64.ok ?_
  unfold octet_read_uint64.C
  refine bldLeft hs ?_
  refine bldReader hs ?_
  refine al_rule h (l := [s, vI 0]) rfl (fun b w1 h1 => ?_)
  refine callV_fn octet_reader_number.okf ?_
  refine rnumb_spec (A := []) h1 hs (fun x hx => hx) hb hl (fun q w2 h2 hq => ?_)
  repeat (first | refine pu_not ?_ | refine pu_eql ?_ | refine pu_neq ?_ | refine pu_lss ?_ | refine pu_leq ?_ | refine pu_gtr ?_ | refine pu_geq ?_ | refine pu_add ?_ | refine pu_sub ?_ | refine pu_mul ?_ | refine pu_neg ?_ | refine fa_at ?_ | refine nl_ptr ?_ | refine ex20 ?_ | refine ex21 ?_ | refine ex30 ?_ | refine ex31 ?_ | refine ex32 ?_ | refine ln_rule ?_ | refine lnT_rule ?_ | refine pu_and ?_ | refine pu_or ?_ | refine pu_xor ?_ | refine pu_seq ?_ | refine pu_sne ?_)
  rcases hz with hz | hz | hz
  · refine cnd_f (by rw [hz]; rfl) ?_
    refine ⟨fun w => Ow B w ((b, rdO s q) :: H), h2.drew, ?_⟩
    repeat (first | refine pu_not ?_ | refine pu_eql ?_ | refine pu_neq ?_ | refine pu_lss ?_ | refine pu_leq ?_ | refine pu_gtr ?_ | refine pu_geq ?_ | refine pu_add ?_ | refine pu_sub ?_ | refine pu_mul ?_ | refine pu_neg ?_ | refine fa_at ?_ | refine nl_ptr ?_ | refine ex20 ?_ | refine ex21 ?_ | refine ex30 ?_ | refine ex31 ?_ | refine ex32 ?_ | refine ln_rule ?_ | refine lnT_rule ?_ | refine pu_and ?_ | refine pu_or ?_ | refine pu_xor ?_ | refine pu_seq ?_ | refine pu_sne ?_)
    refine lds_here (l := [s, vI q]) (fun w h => h) (.head _) rfl ?_
    repeat (first | refine pu_not ?_ | refine pu_eql ?_ | refine pu_neq ?_ | refine pu_lss ?_ | refine pu_leq ?_ | refine pu_gtr ?_ | refine pu_geq ?_ | refine pu_add ?_ | refine pu_sub ?_ | refine pu_mul ?_ | refine pu_neg ?_ | refine fa_at ?_ | refine nl_ptr ?_ | refine ex20 ?_ | refine ex21 ?_ | refine ex30 ?_ | refine ex31 ?_ | refine ex32 ?_ | refine ln_rule ?_ | refine lnT_rule ?_ | refine pu_and ?_ | refine pu_or ?_ | refine pu_xor ?_ | refine pu_seq ?_ | refine pu_sne ?_)
    rw [hq hz]
    rw [hz] at k
    exact k _ h2.drew.drop
  · rw [hz]
    rw [hz] at k
    refine cnd_t rfl ?_
    repeat (first | refine pu_not ?_ | refine pu_eql ?_ | refine pu_neq ?_ | refine pu_lss ?_ | refine pu_leq ?_ | refine pu_gtr ?_ | refine pu_geq ?_ | refine pu_add ?_ | refine pu_sub ?_ | refine pu_mul ?_ | refine pu_neg ?_ | refine fa_at ?_ | refine nl_ptr ?_ | refine ex20 ?_ | refine ex21 ?_ | refine ex30 ?_ | refine ex31 ?_ | refine ex32 ?_ | refine ln_rule ?_ | refine lnT_rule ?_ | refine pu_and ?_ | refine pu_or ?_ | refine pu_xor ?_ | refine pu_seq ?_ | refine pu_sne ?_)
    exact k _ h2.drop
  · rw [hz]
    rw [hz] at k
    refine cnd_t rfl ?_
    repeat (first | refine pu_not ?_ | refine pu_eql ?_ | refine pu_neq ?_ | refine pu_lss ?_ | refine pu_leq ?_ | refine pu_gtr ?_ | refine pu_geq ?_ | refine pu_add ?_ | refine pu_sub ?_ | refine pu_mul ?_ | refine pu_neg ?_ | refine fa_at ?_ | refine nl_ptr ?_ | refine ex20 ?_ | refine ex21 ?_ | refine ex30 ?_ | refine ex31 ?_ | refine ex32 ?_ | refine ln_rule ?_ | refine lnT_rule ?_ | refine pu_and ?_ | refine pu_or ?_ | refine pu_xor ?_ | refine pu_seq ?_ | refine pu_sne ?_)
    exact k _ h2.drop

/-! ### Texts -/
theorem text_spec {s : ByteArray} (h : Ow B w H) (hsz : s.size < 1000000) (k : ∀ S v w', Ow B w' (S ++ H) → Vc.Own S T.t_uint8 1 v (tx (tb s)).length (bv (tx (tb s))) → K v w') : callW PG N.octet_Text [.string s] K PK w := by
  refine octet_Text.ok ?_
  unfold octet_Text.C
  repeat (first | refine pu_not ?_ | refine pu_eql ?_ | refine pu_neq ?_ | refine pu_lss ?_ | refine pu_leq ?_ | refine pu_gtr ?_ | refine pu_geq ?_ | refine pu_add ?_ | refine pu_sub ?_ | refine pu_mul ?_ | refine pu_neg ?_ | refine fa_at ?_ | refine nl_ptr ?_ | refine ex20 ?_ | refine ex21 ?_ | refine ex30 ?_ | refine ex31 ?_ | refine ex32 ?_ | refine ln_rule ?_ | refine lnT_rule ?_ | refine pu_and ?_ | refine pu_or ?_ | refine pu_xor ?_ | refine pu_seq ?_ | refine pu_sne ?_)
  refine cvt_iu (by omega) (by omega) ?_
  rw [Int.toNat_natCast]
  have hnl := nb_len 9 s.size (by have : (128 : Nat) ^ (9 + 1) = 1180591620717411303424 := by decide
                                  omega)
  refine number_spec h (by omega) (fun S v w2 h2 ho => ?_)
  refine app_str (A := []) h2 ho (Own.nn ho (nb_pos _)) und_slb und_str info_u8 (by omega) (fun S' v' w3 h3 ho' => ?_)
  refine k S' v' _ h3 ?_
  simpa [tx, tb_len] using ho'
theorem rtext_spec {s : ByteArray} (h : Ow B w H) (hsz : s.size < 1000000) (k : ∀ S v w', Ow B w' (S ++ H) → Vc.Own S T.t_uint8 1 v (tx (tb s)).length (bv (tx (tb s))) → K v w') : callW PG N.linesmanref01_Text [.string s] K PK w := by
  refine linesmanref01_Text.ok ?_
  unfold linesmanref01_Text.C
  repeat (first | refine pu_not ?_ | refine pu_eql ?_ | refine pu_neq ?_ | refine pu_lss ?_ | refine pu_leq ?_ | refine pu_gtr ?_ | refine pu_geq ?_ | refine pu_add ?_ | refine pu_sub ?_ | refine pu_mul ?_ | refine pu_neg ?_ | refine fa_at ?_ | refine nl_ptr ?_ | refine ex20 ?_ | refine ex21 ?_ | refine ex30 ?_ | refine ex31 ?_ | refine ex32 ?_ | refine ln_rule ?_ | refine lnT_rule ?_ | refine pu_and ?_ | refine pu_or ?_ | refine pu_xor ?_ | refine pu_seq ?_ | refine pu_sne ?_)
  refine cvt_iu (by omega) (by omega) ?_
  rw [Int.toNat_natCast]
  have hnl := nb_len 9 s.size (by have : (128 : Nat) ^ (9 + 1) = 1180591620717411303424 := by decide
                                  omega)
  refine rnumber_spec _ h (by omega) (fun S v w2 h2 ho => ?_)
  refine app_str (A := []) h2 ho (Own.nn ho (nb_pos _)) und_slb und_str info_u8 (by omega) (fun S' v' w3 h3 ho' => ?_)
  refine k S' v' _ h3 ?_
  simpa [tx, tb_len] using ho'
theorem readText_spec {s : Value} {l : List Nat} (h : Ow B w H) (hs : Sl H s (bv l)) (hb : Byt l) (hl : l.length < 2 ^ 62)
    (k : ∀ w', Ow B w' H → K (.tuple #[.string (bs (rt l).1), vI (rt l).2.1, vI (rt l).2.2]) w') : callW PG N.octet_ReadText [s] K PK w := by
  have hz := rn_err l 0 0
  obtain ⟨hr1, hr2, _⟩ := rn_zero l hb
  refine octet_ReadText.ok ?_
  unfold octet_ReadText.C
  refine octet_read_string.ok ?_
  unfold octet_read_string.C
  refine bldLeft hs ?_
  refine bldReader hs ?_
  refine al_rule h (l := [s, vI 0]) rfl (fun b w1 h1 => ?_)
  refine callV_fn octet_reader_text.okf ?_
  refine octet_reader_text.ok ?_
  unfold octet_reader_text.C
  refine rnumb_spec (A := []) h1 hs (fun x hx => hx) hb hl (fun q w2 h2 hq => ?_)
  repeat (first | refine pu_not ?_ | refine pu_eql ?_ | refine pu_neq ?_ | refine pu_lss ?_ | refine pu_leq ?_ | refine pu_gtr ?_ | refine pu_geq ?_ | refine pu_add ?_ | refine pu_sub ?_ | refine pu_mul ?_ | refine pu_neg ?_ | refine fa_at ?_ | refine nl_ptr ?_ | refine ex20 ?_ | refine ex21 ?_ | refine ex30 ?_ | refine ex31 ?_ | refine ex32 ?_ | refine ln_rule ?_ | refine lnT_rule ?_ | refine pu_and ?_ | refine pu_or ?_ | refine pu_xor ?_ | refine pu_seq ?_ | refine pu_sne ?_)
  rcases hz with hz | hz | hz
  · have hq := hq hz
    subst hq
    have ert : rt l = if (rn l 0 0).1 > l.length - (rn l 0 0).2.1 then ([], 0, 110) else ((l.drop (rn l 0 0).2.1).take (rn l 0 0).1, (rn l 0 0).2.1 + (rn l 0 0).1, 0) := by
      unfold rt
      rw [if_neg (by rw [hz]; simp)]
    generalize (rn l 0 0).1 = n at *
    generalize (rn l 0 0).2.1 = m at *
    refine cnd_f (by rw [hz]; rfl) ?_
    repeat (first | refine pu_not ?_ | refine pu_eql ?_ | refine pu_neq ?_ | refine pu_lss ?_ | refine pu_leq ?_ | refine pu_gtr ?_ | refine pu_geq ?_ | refine pu_add ?_ | refine pu_sub ?_ | refine pu_mul ?_ | refine pu_neg ?_ | refine fa_at ?_ | refine nl_ptr ?_ | refine ex20 ?_ | refine ex21 ?_ | refine ex30 ?_ | refine ex31 ?_ | refine ex32 ?_ | refine ln_rule ?_ | refine lnT_rule ?_ | refine pu_and ?_ | refine pu_or ?_ | refine pu_xor ?_ | refine pu_seq ?_ | refine pu_sne ?_)
    refine has_spec h2 (.head _) hs.cons (by omega) hl (fun w3 h3 => ?_)
    repeat (first | refine pu_not ?_ | refine pu_eql ?_ | refine pu_neq ?_ | refine pu_lss ?_ | refine pu_leq ?_ | refine pu_gtr ?_ | refine pu_geq ?_ | refine pu_add ?_ | refine pu_sub ?_ | refine pu_mul ?_ | refine pu_neg ?_ | refine fa_at ?_ | refine nl_ptr ?_ | refine ex20 ?_ | refine ex21 ?_ | refine ex30 ?_ | refine ex31 ?_ | refine ex32 ?_ | refine ln_rule ?_ | refine lnT_rule ?_ | refine pu_and ?_ | refine pu_or ?_ | refine pu_xor ?_ | refine pu_seq ?_ | refine pu_sne ?_)
    refine cnd (fun hlt => ?_) (fun hge => ?_)
    · rw [ert, if_pos (by simp at hlt; omega)] at k
      repeat (first | refine pu_not ?_ | refine pu_eql ?_ | refine pu_neq ?_ | refine pu_lss ?_ | refine pu_leq ?_ | refine pu_gtr ?_ | refine pu_geq ?_ | refine pu_add ?_ | refine pu_sub ?_ | refine pu_mul ?_ | refine pu_neg ?_ | refine fa_at ?_ | refine nl_ptr ?_ | refine ex20 ?_ | refine ex21 ?_ | refine ex30 ?_ | refine ex31 ?_ | refine ex32 ?_ | refine ln_rule ?_ | refine lnT_rule ?_ | refine pu_and ?_ | refine pu_or ?_ | refine pu_xor ?_ | refine pu_seq ?_ | refine pu_sne ?_)
      refine cnd_t rfl ?_
      repeat (first | refine pu_not ?_ | refine pu_eql ?_ | refine pu_neq ?_ | refine pu_lss ?_ | refine pu_leq ?_ | refine pu_gtr ?_ | refine pu_geq ?_ | refine pu_add ?_ | refine pu_sub ?_ | refine pu_mul ?_ | refine pu_neg ?_ | refine fa_at ?_ | refine nl_ptr ?_ | refine ex20 ?_ | refine ex21 ?_ | refine ex30 ?_ | refine ex31 ?_ | refine ex32 ?_ | refine ln_rule ?_ | refine lnT_rule ?_ | refine pu_and ?_ | refine pu_or ?_ | refine pu_xor ?_ | refine pu_seq ?_ | refine pu_sne ?_)
      exact k _ h3.drop
    · have hge : n ≤ l.length - m := by simpa using hge
      rw [ert, if_neg (by omega)] at k
      repeat (first | refine pu_not ?_ | refine pu_eql ?_ | refine pu_neq ?_ | refine pu_lss ?_ | refine pu_leq ?_ | refine pu_gtr ?_ | refine pu_geq ?_ | refine pu_add ?_ | refine pu_sub ?_ | refine pu_mul ?_ | refine pu_neg ?_ | refine fa_at ?_ | refine nl_ptr ?_ | refine ex20 ?_ | refine ex21 ?_ | refine ex30 ?_ | refine ex31 ?_ | refine ex32 ?_ | refine ln_rule ?_ | refine lnT_rule ?_ | refine pu_and ?_ | refine pu_or ?_ | refine pu_xor ?_ | refine pu_seq ?_ | refine pu_sne ?_)
      refine cvt_ui (by omega) ?_
      refine take_spec (A := []) h3 hs (by omega) hl (fun w4 h4 => ?_)
      have hs2 := sl_cut (l := m) (h := m + n) (m := m + n) hs (by omega) (by simp; omega) (Nat.le_refl _)
      have e1 : ((bv l).take (m + n)).drop m = bv ((l.drop m).take n) := by
        unfold bv
        rw [← List.map_take, ← List.map_drop, List.drop_take, Nat.add_sub_cancel_left]
      rw [e1] at hs2
      refine cv_b2s h4 hs2.cons und_slb und_str und_u8 ?_
      repeat (first | refine pu_not ?_ | refine pu_eql ?_ | refine pu_neq ?_ | refine pu_lss ?_ | refine pu_leq ?_ | refine pu_gtr ?_ | refine pu_geq ?_ | refine pu_add ?_ | refine pu_sub ?_ | refine pu_mul ?_ | refine pu_neg ?_ | refine fa_at ?_ | refine nl_ptr ?_ | refine ex20 ?_ | refine ex21 ?_ | refine ex30 ?_ | refine ex31 ?_ | refine ex32 ?_ | refine ln_rule ?_ | refine lnT_rule ?_ | refine pu_and ?_ | refine pu_or ?_ | refine pu_xor ?_ | refine pu_seq ?_ | refine pu_sne ?_)
      refine cnd_f rfl ?_
      refine ⟨fun w => Ow B w ((b, rdO s (m + n)) :: H), h4.drew, ?_⟩
      repeat (first | refine pu_not ?_ | refine pu_eql ?_ | refine pu_neq ?_ | refine pu_lss ?_ | refine pu_leq ?_ | refine pu_gtr ?_ | refine pu_geq ?_ | refine pu_add ?_ | refine pu_sub ?_ | refine pu_mul ?_ | refine pu_neg ?_ | refine fa_at ?_ | refine nl_ptr ?_ | refine ex20 ?_ | refine ex21 ?_ | refine ex30 ?_ | refine ex31 ?_ | refine ex32 ?_ | refine ln_rule ?_ | refine lnT_rule ?_ | refine pu_and ?_ | refine pu_or ?_ | refine pu_xor ?_ | refine pu_seq ?_ | refine pu_sne ?_)
      refine lds_here (l := [s, vI ((m + n : Nat) : Int)]) (fun w h => h) (.head _) rfl ?_
      repeat (first | refine pu_not ?_ | refine pu_eql ?_ | refine pu_neq ?_ | refine pu_lss ?_ | refine pu_leq ?_ | refine pu_gtr ?_ | refine pu_geq ?_ | refine pu_add ?_ | refine pu_sub ?_ | refine pu_mul ?_ | refine pu_neg ?_ | refine fa_at ?_ | refine nl_ptr ?_ | refine ex20 ?_ | refine ex21 ?_ | refine ex30 ?_ | refine ex31 ?_ | refine ex32 ?_ | refine ln_rule ?_ | refine lnT_rule ?_ | refine pu_and ?_ | refine pu_or ?_ | refine pu_xor ?_ | refine pu_seq ?_ | refine pu_sne ?_)
      exact k _ h4.drew.drop
  · have ert : rt l = ([], 0, 110) := by unfold rt; rw [if_pos (by rw [hz]; simp), hz]
    rw [ert] at k
    rw [hz]
    refine cnd_t rfl ?_
    repeat (first | refine pu_not ?_ | refine pu_eql ?_ | refine pu_neq ?_ | refine pu_lss ?_ | refine pu_leq ?_ | refine pu_gtr ?_ | refine pu_geq ?_ | refine pu_add ?_ | refine pu_sub ?_ | refine pu_mul ?_ | refine pu_neg ?_ | refine fa_at ?_ | refine nl_ptr ?_ | refine ex20 ?_ | refine ex21 ?_ | refine ex30 ?_ | refine ex31 ?_ | refine ex32 ?_ | refine ln_rule ?_ | refine lnT_rule ?_ | refine pu_and ?_ | refine pu_or ?_ | refine pu_xor ?_ | refine pu_seq ?_ | refine pu_sne ?_)
    refine cnd_t rfl ?_
    repeat (first | refine pu_not ?_ | refine pu_eql ?_ | refine pu_neq ?_ | refine pu_lss ?_ | refine pu_leq ?_ | refine pu_gtr ?_ | refine pu_geq ?_ | refine pu_add ?_ | refine pu_sub ?_ | refine pu_mul ?_ | refine pu_neg ?_ | refine fa_at ?_ | refine nl_ptr ?_ | refine ex20 ?_ | refine ex21 ?_ | refine ex30 ?_ | refine ex31 ?_ | refine ex32 ?_ | refine ln_rule ?_ | refine lnT_rule ?_ | refine pu_and ?_ | refine pu_or ?_ | refine pu_xor ?_ | refine pu_seq ?_ | refine pu_sne ?_)
    exact k _ h2.drop
  · have ert : rt l = ([], 0, 111) := by unfold rt; rw [if_pos (by rw [hz]; simp), hz]
    rw [ert] at k
    rw [hz]
    refine cnd_t rfl ?_
    repeat (first | refine pu_not ?_ | refine pu_eql ?_ | refine pu_neq ?_ | refine pu_lss ?_ | refine pu_leq ?_ | refine pu_gtr ?_ | refine pu_geq ?_ | refine pu_add ?_ | refine pu_sub ?_ | refine pu_mul ?_ | refine pu_neg ?_ | refine fa_at ?_ | refine nl_ptr ?_ | refine ex20 ?_ | refine ex21 ?_ | refine ex30 ?_ | refine ex31 ?_ | refine ex32 ?_ | refine ln_rule ?_ | refine lnT_rule ?_ | refine pu_and ?_ | refine pu_or ?_ | refine pu_xor ?_ | refine pu_seq ?_ | refine pu_sne ?_)
    refine cnd_t rfl ?_
    repeat (first | refine pu_not ?_ | refine pu_eql ?_ | refine pu_neq ?_ | refine pu_lss ?_ | refine pu_leq ?_ | refine pu_gtr ?_ | refine pu_geq ?_ | refine pu_add ?_ | refine pu_sub ?_ | refine pu_mul ?_ | refine pu_neg ?_ | refine fa_at ?_ | refine nl_ptr ?_ | refine ex20 ?_ | refine ex21 ?_ | refine ex30 ?_ | refine ex31 ?_ | refine ex32 ?_ | refine ln_rule ?_ | refine lnT_rule ?_ | refine pu_and ?_ | refine pu_or ?_ | refine pu_xor ?_ | refine pu_seq ?_ | refine pu_sne ?_)
    exact k _ h2.drop
end
end Go.Proofs.Ytplobehejancpaa
