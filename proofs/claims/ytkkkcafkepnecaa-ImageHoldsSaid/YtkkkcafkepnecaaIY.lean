/- The law ImageHolds. -/
import Derived.Test.YtkkkcafkepnecaaIL
import Derived.Test.YtkkkcafkepnecaaHD
import Derived.Test.YtkkkcafkepnecaaJY

set_option linter.unusedVariables false
set_option linter.unusedSimpArgs false
set_option linter.unnecessarySimpa false
namespace Go.Proofs.Ytkkkcafkepnecaa.Im
open Go Go.RowKit Vc Oc Dg
attribute [local irreducible] binV Op.unary convert nlW faW ldS ldW ixS ixA ixV ixT exW lnS lnT pu stW alW opW opU bsW mkW

section
variable {B w : World} {H : Hp} {K : Value → World → Prop} {PK : List PanicEntry → World → Prop}
theorem fs_imm {X : Hp} {v : Value} {fs : List Fun} (h : fsIn X v fs) : ∀ f ∈ fs, immOk f.code := fun f hf => by
  obtain ⟨ps, e1, _, e3⟩ := h
  rw [← e1] at hf
  obtain ⟨q, hq, rfl⟩ := List.mem_map.1 hf
  exact (e3 q hq).2
theorem und_uint : PG.underlying T.t_uint = some (.int .u64) := by kernel_rfl
theorem xor_ne {c m : Nat} (hm : m ≠ 0) : c ^^^ m ≠ c := fun h => hm (xor_cancel (m := c) (by rw [h, Nat.xor_zero]))
theorem holds_law {v0 v1 : Value} (g0 : FitV PG H T.t_api_Program v0) (g1 : FitV PG H T.t_int v1) (h : Ow B w H) (k : ∀ w', Ow B w' H → K (vB true) w') : callW PG N.linesmanlaw10_ImageHolds [v0, v1] K PK w := by
  obtain ⟨p, v, rfl, hv⟩ := prog_of g0
  obtain ⟨bit, rfl, hw⟩ := g1.int und_int
  obtain ⟨hb0, hb1⟩ := wf_i64 hw
  refine linesmanlaw10_ImageHolds.ok ?_
  unfold linesmanlaw10_ImageHolds.C
  refine al_rule h (l := p.cells v) rfl (fun b2 w1 h1 => ?_)
  refine ldn_here h1 (.head _) (vs := p.cells v) rfl rfl ?_
  refine few_spec hv (fun x hx => .tail _ hx) h1 (fun r w2 h2 hr => ?_)
  repeat (first | refine pu_not ?_ | refine pu_eql ?_ | refine pu_neq ?_ | refine pu_lss ?_ | refine pu_leq ?_ | refine pu_gtr ?_ | refine pu_geq ?_ | refine pu_add ?_ | refine pu_sub ?_ | refine pu_mul ?_ | refine pu_neg ?_ | refine fa_at ?_ | refine nl_ptr ?_ | refine ex20 ?_ | refine ex21 ?_ | refine ex30 ?_ | refine ex31 ?_ | refine ex32 ?_ | refine ln_rule ?_ | refine lnT_rule ?_ | refine pu_and ?_ | refine pu_or ?_ | refine pu_xor ?_ | refine pu_seq ?_ | refine pu_sne ?_)
  refine cnd (fun hq => ?_) (fun hq => ?_)
  · exact works_spec h2 (fun w3 h3 => k _ h3.drop)
  have hr := hr (by simpa using hq)
  refine ldn_here h2 (.head _) (vs := p.cells v) rfl rfl ?_
  refine encode_spec hv (fun x hx => .tail _ hx) (by omega) h2 (fun S1 o1 w3 h3 ho1 => ?_)
  repeat (first | refine pu_not ?_ | refine pu_eql ?_ | refine pu_neq ?_ | refine pu_lss ?_ | refine pu_leq ?_ | refine pu_gtr ?_ | refine pu_geq ?_ | refine pu_add ?_ | refine pu_sub ?_ | refine pu_mul ?_ | refine pu_neg ?_ | refine fa_at ?_ | refine nl_ptr ?_ | refine ex20 ?_ | refine ex21 ?_ | refine ex30 ?_ | refine ex31 ?_ | refine ex32 ?_ | refine ln_rule ?_ | refine lnT_rule ?_ | refine pu_and ?_ | refine pu_or ?_ | refine pu_xor ?_ | refine pu_seq ?_ | refine pu_sne ?_)
  refine num10 ?_
  repeat (first | refine pu_not ?_ | refine pu_eql ?_ | refine pu_neq ?_ | refine pu_lss ?_ | refine pu_leq ?_ | refine pu_gtr ?_ | refine pu_geq ?_ | refine pu_add ?_ | refine pu_sub ?_ | refine pu_mul ?_ | refine pu_neg ?_ | refine fa_at ?_ | refine nl_ptr ?_ | refine ex20 ?_ | refine ex21 ?_ | refine ex30 ?_ | refine ex31 ?_ | refine ex32 ?_ | refine ln_rule ?_ | refine lnT_rule ?_ | refine pu_and ?_ | refine pu_or ?_ | refine pu_xor ?_ | refine pu_seq ?_ | refine pu_sne ?_)
  have s1 : Sl (S1 ++ (b2, pgO p v) :: H) o1 (bv (encR p).1) := (Vc.Own.sl ho1).mono fun x hx => List.mem_append_left _ hx
  have hdone : ∀ w', Ow B w' (S1 ++ (b2, pgO p v) :: H) → Ow B w' H := fun w' h' => h'.sub (((List.Sublist.refl H).cons _).trans (List.sublist_append_right _ _))
  by_cases hk : okP' p = true
  case neg =>
    have e : encR p = ([], 2) := if_neg hk
    rw [e] at s1 ⊢
    refine cnd_t rfl ?_
    refine sl_ln s1 ?_
    repeat (first | refine pu_not ?_ | refine pu_eql ?_ | refine pu_neq ?_ | refine pu_lss ?_ | refine pu_leq ?_ | refine pu_gtr ?_ | refine pu_geq ?_ | refine pu_add ?_ | refine pu_sub ?_ | refine pu_mul ?_ | refine pu_neg ?_ | refine fa_at ?_ | refine nl_ptr ?_ | refine ex20 ?_ | refine ex21 ?_ | refine ex30 ?_ | refine ex31 ?_ | refine ex32 ?_ | refine ln_rule ?_ | refine lnT_rule ?_ | refine pu_and ?_ | refine pu_or ?_ | refine pu_xor ?_ | refine pu_seq ?_ | refine pu_sne ?_)
    refine cnd_t rfl ?_
    exact works_spec h3 (fun w4 h4 => k _ (hdone _ h4))
  have e : encR p = (encB p, 0) := if_pos hk
  rw [e] at s1 ⊢
  have hel := enc_len hk
  have hpos : 8 ≤ (encB p).length := by simp [encB, fx_len]
  have hbl : (bv (encB p)).length = (encB p).length := by simp
  have s1 : Sl (S1 ++ (b2, pgO p v) :: H) o1 (bv (encB p)) := s1
  refine cnd_f rfl ?_
  refine sl_ln s1 ?_
  rw [hbl]
  repeat (first | refine pu_not ?_ | refine pu_eql ?_ | refine pu_neq ?_ | refine pu_lss ?_ | refine pu_leq ?_ | refine pu_gtr ?_ | refine pu_geq ?_ | refine pu_add ?_ | refine pu_sub ?_ | refine pu_mul ?_ | refine pu_neg ?_ | refine fa_at ?_ | refine nl_ptr ?_ | refine ex20 ?_ | refine ex21 ?_ | refine ex30 ?_ | refine ex31 ?_ | refine ex32 ?_ | refine ln_rule ?_ | refine lnT_rule ?_ | refine pu_and ?_ | refine pu_or ?_ | refine pu_xor ?_ | refine pu_seq ?_ | refine pu_sne ?_)
  refine cnd_f (by rw [ibeq]; exact decide_eq_false (by omega)) ?_
  repeat (first | refine pu_not ?_ | refine pu_eql ?_ | refine pu_neq ?_ | refine pu_lss ?_ | refine pu_leq ?_ | refine pu_gtr ?_ | refine pu_geq ?_ | refine pu_add ?_ | refine pu_sub ?_ | refine pu_mul ?_ | refine pu_neg ?_ | refine fa_at ?_ | refine nl_ptr ?_ | refine ex20 ?_ | refine ex21 ?_ | refine ex30 ?_ | refine ex31 ?_ | refine ex32 ?_ | refine ln_rule ?_ | refine lnT_rule ?_ | refine pu_and ?_ | refine pu_or ?_ | refine pu_xor ?_ | refine pu_seq ?_ | refine pu_sne ?_)
  refine cnd (fun hq => ?_) (fun hq => ?_)
  · exact works_spec h3 (fun w4 h4 => k _ (hdone _ h4))
  have hq0 : 0 ≤ bit := by simpa using hq
  obtain ⟨n, rfl⟩ : ∃ n : Nat, bit = n := ⟨bit.toNat, by omega⟩
  have hdiv : IntKind.i64.wrap ((n : Int).tdiv 8) = ((n / 8 : Nat) : Int) := by
    have : (n : Int).tdiv 8 = ((n / 8 : Nat) : Int) := rfl
    rw [this]; exact wrap64_in (by omega) (by omega)
  refine pu_quo (by decide) ?_
  rw [hdiv]
  refine sl_ln s1 ?_
  rw [hbl]
  repeat (first | refine pu_not ?_ | refine pu_eql ?_ | refine pu_neq ?_ | refine pu_lss ?_ | refine pu_leq ?_ | refine pu_gtr ?_ | refine pu_geq ?_ | refine pu_add ?_ | refine pu_sub ?_ | refine pu_mul ?_ | refine pu_neg ?_ | refine fa_at ?_ | refine nl_ptr ?_ | refine ex20 ?_ | refine ex21 ?_ | refine ex30 ?_ | refine ex31 ?_ | refine ex32 ?_ | refine ln_rule ?_ | refine lnT_rule ?_ | refine pu_and ?_ | refine pu_or ?_ | refine pu_xor ?_ | refine pu_seq ?_ | refine pu_sne ?_)
  refine cnd (fun hq => ?_) (fun hq => ?_)
  · exact works_spec h3 (fun w4 h4 => k _ (hdone _ h4))
  have hlt : n / 8 < (encB p).length := by have := of_decide_eq_false hq; omega
  generalize hG : S1 ++ (b2, pgO p v) :: H = G at *
  refine bs_rule h3 [] (by kernel_rfl) (fun b1 w4 h4 => ?_)
  refine app1 (A := []) (S := [(b1, cel [] T.t_uint8)]) (z := v8 0) (bytes := 1) h4 (Own.mk (n := 0) (cap := 0) (xs := []) (Nat.le_refl _) (Nat.zero_le _) rfl rfl) s1 (fun y hy => .tail _ hy) (by simp [plainV]) und_slb info_u8 rfl (by rw [hbl]; simp only [maxLen]; omega) (by rw [hbl]; omega) (fun S c w5 h5 ho => ?_)
  simp only [List.nil_append, Nat.zero_add, List.length_map] at ho h5
  refine pu_quo (by decide) ?_
  rw [hdiv]
  refine pu_quo (by decide) ?_
  rw [hdiv]
  have hat : (encB p)[n / 8]? = some ((encB p).getD (n / 8) 0) := by simp [List.getD, hlt]
  have hd : (encB p).getD (n / 8) 0 < 256 := (enc_byt hk).at hat
  have hsplit : encB p = (encB p).take (n / 8) ++ (encB p).getD (n / 8) 0 :: (encB p).drop (n / 8 + 1) := by
    obtain ⟨hi2, hdi⟩ := List.getElem?_eq_some_iff.1 hat
    rw [← hdi, ← List.drop_eq_getElem_cons hi2, List.take_append_drop]
  generalize (encB p).getD (n / 8) 0 = d at *
  have hat2 : (bv (encB p))[((n / 8 : Nat) : Int).toNat]? = some (v8 d) := by rw [Int.toNat_natCast, List.getElem?_map, hat]; rfl
  refine sl_ld h5 ((Vc.Own.sl ho).mono fun x hx => List.mem_append_left _ hx) (by omega) hat2 ?_
  refine pu_rem (by decide) ?_
  have hmod : (n : Int).tmod 8 = ((n % 8 : Nat) : Int) := rfl
  rw [hmod]
  refine cvt (by kernel_rfl) und_uint (m := ((n % 8 : Nat) : Int)) (by rw [wrapu64]; omega) ?_
  refine pu_shl (by omega) ?_
  have hm8 : n % 8 < 8 := Nat.mod_lt _ (by decide)
  have hsh : IntKind.u8.wrap (1 * 2 ^ min ((n % 8 : Nat) : Int).toNat IntKind.u8.bits) = ((2 ^ (n % 8) : Nat) : Int) := by
    rw [Int.toNat_natCast]
    obtain h | h | h | h | h | h | h | h : n % 8 = 0 ∨ n % 8 = 1 ∨ n % 8 = 2 ∨ n % 8 = 3 ∨ n % 8 = 4 ∨ n % 8 = 5 ∨ n % 8 = 6 ∨ n % 8 = 7 := by omega
    all_goals rw [h]; decide
  rw [hsh]
  have h2p : 2 ^ (n % 8) < 256 := Nat.lt_of_lt_of_le (Nat.pow_lt_pow_right (by decide) hm8) (by decide)
  have h2n : 2 ^ (n % 8) ≠ 0 := Nat.pos_iff_ne_zero.1 (Nat.pow_pos (by decide))
  generalize 2 ^ (n % 8) = m at h2p h2n ⊢
  refine Im.x8 hd h2p ?_
  have hx8 := xor_lt8 hd h2p
  have hne : d ^^^ m ≠ d := xor_ne h2n
  generalize d ^^^ m = d' at hx8 hne ⊢
  refine own_set (A := []) h5 ho (by omega) (by omega) rfl rfl (fun S w6 h6 ho => ?_)
  rw [Int.toNat_natCast, ← List.map_set] at ho
  have hset : (encB p).set (n / 8) d' = (encB p).take (n / 8) ++ d' :: (encB p).drop (n / 8 + 1) := by
    rw [List.set_eq_take_append_cons_drop, if_pos hlt]
  rw [hset] at ho
  have hbad := decR_bad hk hsplit hne hx8
  have hlen' : ((encB p).take (n / 8) ++ d' :: (encB p).drop (n / 8 + 1)).length = (encB p).length := by rw [← hset, List.length_set]
  have hby' : Byt ((encB p).take (n / 8) ++ d' :: (encB p).drop (n / 8 + 1)) := byt_app (byt_take (enc_byt hk) _) (fun x hx => by
    rcases List.mem_cons.1 hx with rfl | hx
    · exact hx8
    · exact enc_byt hk x (List.mem_of_mem_drop hx))
  generalize hl' : (encB p).take (n / 8) ++ d' :: (encB p).drop (n / 8 + 1) = l' at *
  have h6 : Ow B w6 (S ++ G) := h6
  have s2 : Sl (S ++ G) c (bv l') := (Vc.Own.sl ho).mono fun x hx => List.mem_append_left _ hx
  have s1 : Sl (S ++ G) o1 (bv (encB p)) := s1.mono fun x hx => List.mem_append_right _ hx
  refine decode_spec s2 (fun x hx => hx) hby' (by omega) h6 (fun F v' w7 hF him h7 => ?_)
  obtain ⟨a1, a2, a3, hv'⟩ := cp_sl hF
  repeat (first | refine pu_not ?_ | refine pu_eql ?_ | refine pu_neq ?_ | refine pu_lss ?_ | refine pu_leq ?_ | refine pu_gtr ?_ | refine pu_geq ?_ | refine pu_add ?_ | refine pu_sub ?_ | refine pu_mul ?_ | refine pu_neg ?_ | refine fa_at ?_ | refine nl_ptr ?_ | refine ex20 ?_ | refine ex21 ?_ | refine ex30 ?_ | refine ex31 ?_ | refine ex32 ?_ | refine ln_rule ?_ | refine lnT_rule ?_ | refine pu_and ?_ | refine pu_or ?_ | refine pu_xor ?_ | refine pu_seq ?_ | refine pu_sne ?_)
  refine al_rule h7 (l := p0.cells nilS) (by kernel_rfl) (fun b8 w8 h8 => ?_)
  refine st_here (A := []) h8 ((decR l').1.cells v') rfl rfl (cells_plain _ (by rw [hv']; rfl)) (by simp [Pr.cells]) (fun w9 h9 => ?_)
  have h9 : Ow B w9 (S ++ G) := h9.sub ((List.sublist_append_right F _).cons _)
  refine is_spec s1 (fun x hx => hx) (enc_byt hk) (by omega) h9 (fun w10 h10 => ?_)
  rw [decR_enc (fs_imm hv) hk]
  refine cnd_t rfl ?_
  refine is_spec s2 (fun x hx => hx) hby' (by omega) h10 (fun w11 h11 => ?_)
  have hfin : ∀ w', Ow B w' (S ++ G) → Ow B w' H := fun w' h' => hdone _ (h'.sub (List.sublist_append_right _ _))
  generalize (decR l').2 = e' at hbad ⊢
  have he0 : decide (e' = 0) = false := by rcases hbad with rfl | rfl <;> rfl
  rw [he0]
  repeat (first | refine pu_not ?_ | refine pu_eql ?_ | refine pu_neq ?_ | refine pu_lss ?_ | refine pu_leq ?_ | refine pu_gtr ?_ | refine pu_geq ?_ | refine pu_add ?_ | refine pu_sub ?_ | refine pu_mul ?_ | refine pu_neg ?_ | refine fa_at ?_ | refine nl_ptr ?_ | refine ex20 ?_ | refine ex21 ?_ | refine ex30 ?_ | refine ex31 ?_ | refine ex32 ?_ | refine ln_rule ?_ | refine lnT_rule ?_ | refine pu_and ?_ | refine pu_or ?_ | refine pu_xor ?_ | refine pu_seq ?_ | refine pu_sne ?_)
  refine cnd_t rfl ?_
  refine num10 ?_
  repeat (first | refine pu_not ?_ | refine pu_eql ?_ | refine pu_neq ?_ | refine pu_lss ?_ | refine pu_leq ?_ | refine pu_gtr ?_ | refine pu_geq ?_ | refine pu_add ?_ | refine pu_sub ?_ | refine pu_mul ?_ | refine pu_neg ?_ | refine fa_at ?_ | refine nl_ptr ?_ | refine ex20 ?_ | refine ex21 ?_ | refine ex30 ?_ | refine ex31 ?_ | refine ex32 ?_ | refine ln_rule ?_ | refine lnT_rule ?_ | refine pu_and ?_ | refine pu_or ?_ | refine pu_xor ?_ | refine pu_seq ?_ | refine pu_sne ?_)
  rcases hbad with rfl | rfl
  · refine cnd_t rfl ?_
    exact works_spec h11 (fun w12 h12 => k _ (hfin _ h12))
  · refine cnd_f rfl ?_
    refine num10 ?_
    repeat (first | refine pu_not ?_ | refine pu_eql ?_ | refine pu_neq ?_ | refine pu_lss ?_ | refine pu_leq ?_ | refine pu_gtr ?_ | refine pu_geq ?_ | refine pu_add ?_ | refine pu_sub ?_ | refine pu_mul ?_ | refine pu_neg ?_ | refine fa_at ?_ | refine nl_ptr ?_ | refine ex20 ?_ | refine ex21 ?_ | refine ex30 ?_ | refine ex31 ?_ | refine ex32 ?_ | refine ln_rule ?_ | refine lnT_rule ?_ | refine pu_and ?_ | refine pu_or ?_ | refine pu_xor ?_ | refine pu_seq ?_ | refine pu_sne ?_)
    refine cnd_t rfl ?_
    exact works_spec h11 (fun w12 h12 => k _ (hfin _ h12))
end
end Go.Proofs.Ytkkkcafkepnecaa.Im
namespace Go.Proofs.Ytkkkcafkepnecaa
open Go Go.RowKit Vc
theorem ImageHolds.law {B w : World} {H : Hp} {K : Value → World → Prop} {PK : List PanicEntry → World → Prop} {v0 v1 : Value} (g0 : FitV PG H T.t_api_Program v0) (g1 : FitV PG H T.t_int v1) (h : Ow B w H) (k : ∀ w', Ow B w' H → K (vB true) w') : callW PG N.linesmanlaw10_ImageHolds [v0, v1] K PK w :=
  Im.holds_law g0 g1 h k
end Go.Proofs.Ytkkkcafkepnecaa

