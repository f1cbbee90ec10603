/- Tick; the chapter's rows; the laws VectorTells, VectorTicks. -/
import Derived.Test.YtobanjfpoeinhaaVvE
set_option linter.unusedVariables false
set_option linter.unusedSimpArgs false
namespace Go.Proofs.Ytobanjfpoeinhaa
open Go Go.RowKit Vc Vx
attribute [local irreducible] binV Op.unary convert nlW faW ldS ldW ixS ixA ixV ixT exW lnS lnT pu stW alW opW opU bsW mkW

section
variable {B w : World} {H : Hp} {K : Value → World → Prop} {PK : List PanicEntry → World → Prop}
theorem epo_cases {l : List Nat} {id : Int} : (epo l id).2 ≠ 0 ∨ (0 ≤ id ∧ (epo l id).2 = 0 ∧ (epo l id).1 < 18446744073709551616) := by
  unfold epo pack
  split
  · split
    · rename_i h
      exact .inr ⟨h.1, rfl, by dsimp only; omega⟩
    · exact .inl (by simp)
  · exact .inl (by simp)
theorem next_cases {e f : Nat} (he : e < 18446744073709551616) : (next e f).2 ≠ 0 ∨ ((next e f).2 = 0 ∧ (next e f).1 < 18446744073709551616) := by
  unfold next
  split
  · split
    · exact .inl (by simp)
    · exact .inr ⟨rfl, by dsimp only; omega⟩
  · exact .inl (by simp)
theorem pad_succ {l : List Nat} {n : Nat} (h : l.length ≤ n) : l ++ List.replicate (n + 1 - l.length) 0 = (l ++ List.replicate (n - l.length) 0) ++ [0] := by
  rw [show n + 1 - l.length = (n - l.length) + 1 by omega, List.replicate_succ', List.append_assoc]
theorem tick_spec {s : Value} {l : List Nat} {id : Int} {f : Nat} {X0 : Hp} (h : Ow B w H) (hs : Cl X0 s l) (hX : ∀ x, x ∈ X0 → x ∈ H) (hq : Qd l) (hl : l.length < 1000) (hid : id < 1000) (hf : f < 18446744073709551616)
    (k : ∀ S v w', Ow B w' (S ++ H) → Cl S v (tick l id f).1 → K (.tuple #[v, vI (tick l id f).2]) w') : callW PG N.vector_Tick [s, vI id, v64 f] K PK w := by
  have nl : ∀ {Y : Hp}, Cl Y (.slice none 0 0) [] := ⟨none, 0, rfl, Nat.le_refl _, by simp⟩
  refine vector_Tick.ok ?_
  unfold vector_Tick.C
  refine epoch_spec h (hs.mono hX) hq (by omega) (by omega) (fun w1 h1 => ?_)
  repeat (first | refine pu_not ?_ | refine pu_eql ?_ | refine pu_neq ?_ | refine pu_lss ?_ | refine pu_leq ?_ | refine pu_gtr ?_ | refine pu_geq ?_ | refine pu_add ?_ | refine pu_sub ?_ | refine pu_mul ?_ | refine pu_neg ?_ | refine fa_at ?_ | refine nl_ptr ?_ | refine ex20 ?_ | refine ex21 ?_ | refine ex30 ?_ | refine ex31 ?_ | refine ex32 ?_ | refine ln_rule ?_ | refine lnT_rule ?_ | refine pu_and ?_ | refine pu_or ?_ | refine pu_xor ?_ | refine pu_seq ?_ | refine pu_sne ?_)
  rcases @epo_cases l id with he | ⟨h0, he, hlt⟩
  · refine cnd_t (by simpa using he) ?_
    have e : tick l id f = ([], (epo l id).2) := by unfold tick; rw [if_pos he]
    rw [e] at k
    exact k [] _ _ h1 nl
  · refine cnd_f (by rw [he]; rfl) ?_
    refine next_spec h1 hlt hf (fun w2 h2 => ?_)
    repeat (first | refine pu_not ?_ | refine pu_eql ?_ | refine pu_neq ?_ | refine pu_lss ?_ | refine pu_leq ?_ | refine pu_gtr ?_ | refine pu_geq ?_ | refine pu_add ?_ | refine pu_sub ?_ | refine pu_mul ?_ | refine pu_neg ?_ | refine fa_at ?_ | refine nl_ptr ?_ | refine ex20 ?_ | refine ex21 ?_ | refine ex30 ?_ | refine ex31 ?_ | refine ex32 ?_ | refine ln_rule ?_ | refine lnT_rule ?_ | refine pu_and ?_ | refine pu_or ?_ | refine pu_xor ?_ | refine pu_seq ?_ | refine pu_sne ?_)
    rcases @next_cases _ f hlt with hn | ⟨hn, hnl⟩
    · refine cnd_t (by simpa using hn) ?_
      have e : tick l id f = ([], (next (epo l id).1 f).2) := by unfold tick; rw [if_neg (by rw [he]; simp), if_pos hn]
      rw [e] at k
      exact k [] _ _ h2 nl
    · refine cnd_f (by rw [hn]; rfl) ?_
      have et : tick l id f = (trim ((pad l id.toNat).set id.toNat ((next (epo l id).1 f).1 % 281474976710656)), 0) := by unfold tick; rw [if_neg (by rw [he]; simp), if_neg (by rw [hn]; simp)]
      rw [et] at k
      generalize (next (epo l id).1 f).1 = nx at *
      refine clone_spec h2 hs hX (by omega) (fun S v w3 h3 ho => ?_)
      refine ⟨fun l' w => ∃ (n : Nat) (S : Hp) (v : Value), l' = [v] ∧ l.length ≤ n ∧ n ≤ max l.length (id.toNat + 1) ∧ Vc.Own S T.t_uint64 1 v n (qv (l ++ List.replicate (n - l.length) 0)) ∧ Ow B w (S ++ H), fun l' _ => match l' with | [.slice _ n _] => max l.length (id.toNat + 1) - n | _ => 0, ⟨l.length, S, v, rfl, Nat.le_refl _, by omega, by simpa using ho, h3⟩, ?_⟩
      clear h3 ho
      rintro l' w4 ⟨n, S, v, rfl, hn1, hn2, ho, h4⟩ j
      obtain ⟨va, vc, hve⟩ := ho.len
      have hvl : (qv (l ++ List.replicate (n - l.length) 0)).length = n := by simp; omega
      refine sl_ln ho.sl ?_
      rw [hvl]
      repeat (first | refine pu_not ?_ | refine pu_eql ?_ | refine pu_neq ?_ | refine pu_lss ?_ | refine pu_leq ?_ | refine pu_gtr ?_ | refine pu_geq ?_ | refine pu_add ?_ | refine pu_sub ?_ | refine pu_mul ?_ | refine pu_neg ?_ | refine fa_at ?_ | refine nl_ptr ?_ | refine ex20 ?_ | refine ex21 ?_ | refine ex30 ?_ | refine ex31 ?_ | refine ex32 ?_ | refine ln_rule ?_ | refine lnT_rule ?_ | refine pu_and ?_ | refine pu_or ?_ | refine pu_xor ?_ | refine pu_seq ?_ | refine pu_sne ?_)
      refine cnd (fun hle => ?_) (fun hgt => ?_)
      · have hle : n ≤ id.toNat := by simp at hle; omega
        refine bs_rule h4 [v64 0] (by kernel_rfl) (fun b5 w5 h5 => ?_)
        refine app1 (A := [_]) (z := v64 0) (bytes := 8) h5 ho (sl_here (b := b5) (l := [v64 0]) (e := T.t_uint64) (.head _)) (fun y hy => hy) rfl und_clk info_u64 rfl (by simp [maxLen]; omega) (by simp; omega) (fun S' v' w6 h6 ho' => ?_)
        obtain ⟨va', vc', hve'⟩ := ho'.len
        refine ⟨⟨n + 1, S', v', rfl, by omega, by omega, ?_, h6.drop⟩, ?_⟩
        · rw [pad_succ hn1]
          simpa [qv] using ho'
        · show (match [v'] with | [.slice _ n _] => max l.length (id.toNat + 1) - n | _ => 0) < (match [v] with | [.slice _ n _] => max l.length (id.toNat + 1) - n | _ => 0)
          rw [hve, hve']
          show max l.length (id.toNat + 1) - (n + [v64 0].length) < max l.length (id.toNat + 1) - n
          simp only [List.length_cons, List.length_nil]
          omega
      · have hgt : id.toNat < n := by simp at hgt; omega
        obtain rfl : n = max l.length (id.toNat + 1) := by omega
        have hpd : l ++ List.replicate (max l.length (id.toNat + 1) - l.length) 0 = pad l id.toNat := by
          unfold pad
          congr 2
          omega
        rw [hpd] at ho
        refine parts_spec h4 hnl (fun w5 h5 => ?_)
        repeat (first | refine pu_not ?_ | refine pu_eql ?_ | refine pu_neq ?_ | refine pu_lss ?_ | refine pu_leq ?_ | refine pu_gtr ?_ | refine pu_geq ?_ | refine pu_add ?_ | refine pu_sub ?_ | refine pu_mul ?_ | refine pu_neg ?_ | refine fa_at ?_ | refine nl_ptr ?_ | refine ex20 ?_ | refine ex21 ?_ | refine ex30 ?_ | refine ex31 ?_ | refine ex32 ?_ | refine ln_rule ?_ | refine lnT_rule ?_ | refine pu_and ?_ | refine pu_or ?_ | refine pu_xor ?_ | refine pu_seq ?_ | refine pu_sne ?_)
        refine own_set (A := []) h5 ho h0 (by omega) rfl rfl (fun S6 w6 h6 ho6 => ?_)
        rw [← List.map_set] at ho6
        have hpl := pad_len l id.toNat
        refine trim_spec h6 ho6.sl (fun x hx => List.mem_append_left _ hx) (by rw [List.length_set, hpl]; omega) (fun S7 v7 w7 h7 hv7 => ?_)
        refine k S7 v7 w7 ?_ hv7
        exact h7.sub ((List.Sublist.refl S7).append (List.sublist_append_right _ _))
theorem rtick_spec {s : Value} {l : List Nat} {id : Int} {f : Nat} {X0 : Hp} (h : Ow B w H) (hs : Cl X0 s l) (hX : ∀ x, x ∈ X0 → x ∈ H) (hq : Qd l) (hl : l.length < 1000) (hid : id < 1000) (hf : f < 18446744073709551616)
    (k : ∀ S v w', Ow B w' (S ++ H) → Cl S v (tick l id f).1 → K (.tuple #[v, vI (tick l id f).2]) w') : callW PG N.linesmanref04_Tick [s, vI id, v64 f] K PK w := by
  have nl : ∀ {Y : Hp}, Cl Y (.slice none 0 0) [] := ⟨none, 0, rfl, Nat.le_refl _, by simp⟩
  refine linesmanref04_Tick.ok ?_
  unfold linesmanref04_Tick.C
  refine repoch_spec h (hs.mono hX) hq (by omega) (by omega) (fun w1 h1 => ?_)
  repeat (first | refine pu_not ?_ | refine pu_eql ?_ | refine pu_neq ?_ | refine pu_lss ?_ | refine pu_leq ?_ | refine pu_gtr ?_ | refine pu_geq ?_ | refine pu_add ?_ | refine pu_sub ?_ | refine pu_mul ?_ | refine pu_neg ?_ | refine fa_at ?_ | refine nl_ptr ?_ | refine ex20 ?_ | refine ex21 ?_ | refine ex30 ?_ | refine ex31 ?_ | refine ex32 ?_ | refine ln_rule ?_ | refine lnT_rule ?_ | refine pu_and ?_ | refine pu_or ?_ | refine pu_xor ?_ | refine pu_seq ?_ | refine pu_sne ?_)
  rcases @epo_cases l id with he | ⟨h0, he, hlt⟩
  · refine cnd_t (by simpa using he) ?_
    have e : tick l id f = ([], (epo l id).2) := by unfold tick; rw [if_pos he]
    rw [e] at k
    exact k [] _ _ h1 nl
  · refine cnd_f (by rw [he]; rfl) ?_
    refine rnext_spec hlt hf ?_
    repeat (first | refine pu_not ?_ | refine pu_eql ?_ | refine pu_neq ?_ | refine pu_lss ?_ | refine pu_leq ?_ | refine pu_gtr ?_ | refine pu_geq ?_ | refine pu_add ?_ | refine pu_sub ?_ | refine pu_mul ?_ | refine pu_neg ?_ | refine fa_at ?_ | refine nl_ptr ?_ | refine ex20 ?_ | refine ex21 ?_ | refine ex30 ?_ | refine ex31 ?_ | refine ex32 ?_ | refine ln_rule ?_ | refine lnT_rule ?_ | refine pu_and ?_ | refine pu_or ?_ | refine pu_xor ?_ | refine pu_seq ?_ | refine pu_sne ?_)
    rcases @next_cases _ f hlt with hn | ⟨hn, hnl⟩
    · refine cnd_t (by simpa using hn) ?_
      have e : tick l id f = ([], (next (epo l id).1 f).2) := by unfold tick; rw [if_neg (by rw [he]; simp), if_pos hn]
      rw [e] at k
      exact k [] _ _ h1 nl
    · refine cnd_f (by rw [hn]; rfl) ?_
      have et : tick l id f = (trim ((pad l id.toNat).set id.toNat ((next (epo l id).1 f).1 % 281474976710656)), 0) := by unfold tick; rw [if_neg (by rw [he]; simp), if_neg (by rw [hn]; simp)]
      rw [et] at k
      generalize (next (epo l id).1 f).1 = nx at *
      refine app1 (A := []) (S := []) (z := v64 0) (bytes := 8) h1 (own_none _ _) hs (fun y hy => hX y hy) (by simp [plainV]) und_clk info_u64 rfl (by simp [maxLen]; omega) (by simp; omega) (fun S v w3 h3 ho => ?_)
      simp only [List.nil_append, Nat.zero_add, List.length_map] at ho h3
      refine ⟨fun l' w => ∃ (n : Nat) (S : Hp) (v : Value), l' = [v] ∧ l.length ≤ n ∧ n ≤ max l.length (id.toNat + 1) ∧ Vc.Own S T.t_uint64 1 v n (qv (l ++ List.replicate (n - l.length) 0)) ∧ Ow B w (S ++ H), fun l' _ => match l' with | [.slice _ n _] => max l.length (id.toNat + 1) - n | _ => 0, ⟨l.length, S, v, rfl, Nat.le_refl _, by omega, by simpa using ho, h3⟩, ?_⟩
      clear h3 ho
      rintro l' w4 ⟨n, S, v, rfl, hn1, hn2, ho, h4⟩ j
      obtain ⟨va, vc, hve⟩ := ho.len
      have hvl : (qv (l ++ List.replicate (n - l.length) 0)).length = n := by simp; omega
      refine sl_ln ho.sl ?_
      rw [hvl]
      repeat (first | refine pu_not ?_ | refine pu_eql ?_ | refine pu_neq ?_ | refine pu_lss ?_ | refine pu_leq ?_ | refine pu_gtr ?_ | refine pu_geq ?_ | refine pu_add ?_ | refine pu_sub ?_ | refine pu_mul ?_ | refine pu_neg ?_ | refine fa_at ?_ | refine nl_ptr ?_ | refine ex20 ?_ | refine ex21 ?_ | refine ex30 ?_ | refine ex31 ?_ | refine ex32 ?_ | refine ln_rule ?_ | refine lnT_rule ?_ | refine pu_and ?_ | refine pu_or ?_ | refine pu_xor ?_ | refine pu_seq ?_ | refine pu_sne ?_)
      refine cnd (fun hle => ?_) (fun hgt => ?_)
      · have hle : n ≤ id.toNat := by simp at hle; omega
        refine bs_rule h4 [v64 0] (by kernel_rfl) (fun b5 w5 h5 => ?_)
        refine app1 (A := [_]) (z := v64 0) (bytes := 8) h5 ho (sl_here (b := b5) (l := [v64 0]) (e := T.t_uint64) (.head _)) (fun y hy => hy) rfl und_clk info_u64 rfl (by simp [maxLen]; omega) (by simp; omega) (fun S' v' w6 h6 ho' => ?_)
        obtain ⟨va', vc', hve'⟩ := ho'.len
        refine ⟨⟨n + 1, S', v', rfl, by omega, by omega, ?_, h6.drop⟩, ?_⟩
        · rw [pad_succ hn1]
          simpa [qv] using ho'
        · show (match [v'] with | [.slice _ n _] => max l.length (id.toNat + 1) - n | _ => 0) < (match [v] with | [.slice _ n _] => max l.length (id.toNat + 1) - n | _ => 0)
          rw [hve, hve']
          show max l.length (id.toNat + 1) - (n + [v64 0].length) < max l.length (id.toNat + 1) - n
          simp only [List.length_cons, List.length_nil]
          omega
      · have hgt : id.toNat < n := by simp at hgt; omega
        obtain rfl : n = max l.length (id.toNat + 1) := by omega
        have hpd : l ++ List.replicate (max l.length (id.toNat + 1) - l.length) 0 = pad l id.toNat := by
          unfold pad
          congr 2
          omega
        rw [hpd] at ho
        refine rparts_spec hnl ?_
        repeat (first | refine pu_not ?_ | refine pu_eql ?_ | refine pu_neq ?_ | refine pu_lss ?_ | refine pu_leq ?_ | refine pu_gtr ?_ | refine pu_geq ?_ | refine pu_add ?_ | refine pu_sub ?_ | refine pu_mul ?_ | refine pu_neg ?_ | refine fa_at ?_ | refine nl_ptr ?_ | refine ex20 ?_ | refine ex21 ?_ | refine ex30 ?_ | refine ex31 ?_ | refine ex32 ?_ | refine ln_rule ?_ | refine lnT_rule ?_ | refine pu_and ?_ | refine pu_or ?_ | refine pu_xor ?_ | refine pu_seq ?_ | refine pu_sne ?_)
        refine own_set (A := []) h4 ho h0 (by omega) rfl rfl (fun S6 w6 h6 ho6 => ?_)
        rw [← List.map_set] at ho6
        have hpl := pad_len l id.toNat
        refine rtrim_spec h6 ho6.sl (fun x hx => List.mem_append_left _ hx) (by rw [List.length_set, hpl]; omega) (fun S7 v7 w7 h7 hv7 => ?_)
        refine k S7 v7 w7 ?_ hv7
        exact h7.sub ((List.Sublist.refl S7).append (List.sublist_append_right _ _))
theorem drp {S : Hp} (h : Ow B w (S ++ H)) : Ow B w H := h.sub (List.sublist_append_right _ _)
theorem lit {b : Nat} {l : List Nat} {Y : Hp} : Cl ((b, cel (qv l) T.t_uint64) :: Y) (.slice (some ⟨b, 0, none⟩) (qv l).length (qv l).length) l := sl_here (l := qv l) (.head _)
theorem vworks_spec (h : Ow B w H) (k : ∀ w', Ow B w' H → K (vB true) w') : callW PG N.linesmanlaw04_works [] K PK w := by
  refine linesmanlaw04_works.ok ?_
  unfold linesmanlaw04_works.C
  refine bs_rule h (qv [1, 5]) (by kernel_rfl) (fun b1 w1 h1 => ?_)
  refine bs_rule h1 (qv [3]) (by kernel_rfl) (fun b2 w2 h2 => ?_)
  refine bs_rule h2 (qv [0, 0, 2, 0]) (by kernel_rfl) (fun b3 w3 h3 => ?_)
  have l1 : Cl ((b3, cel (qv [0, 0, 2, 0]) T.t_uint64) :: (b2, cel (qv [3]) T.t_uint64) :: (b1, cel (qv [1, 5]) T.t_uint64) :: H) (.slice (some ⟨b1, 0, none⟩) 2 2) [1, 5] := sl_here (l := qv [1, 5]) (.tail _ (.tail _ (.head _)))
  have l2 : Cl ((b3, cel (qv [0, 0, 2, 0]) T.t_uint64) :: (b2, cel (qv [3]) T.t_uint64) :: (b1, cel (qv [1, 5]) T.t_uint64) :: H) (.slice (some ⟨b2, 0, none⟩) 1 1) [3] := sl_here (l := qv [3]) (.tail _ (.head _))
  have l3 : Cl ((b3, cel (qv [0, 0, 2, 0]) T.t_uint64) :: (b2, cel (qv [3]) T.t_uint64) :: (b1, cel (qv [1, 5]) T.t_uint64) :: H) (.slice (some ⟨b3, 0, none⟩) 4 4) [0, 0, 2, 0] := sl_here (l := qv [0, 0, 2, 0]) (.head _)
  refine bs_rule h3 [.slice (some ⟨b1, 0, none⟩) 2 2, .slice (some ⟨b2, 0, none⟩) 1 1, .slice (some ⟨b3, 0, none⟩) 4 4] (bsw3 l1 l2 l3) (fun b4 w4 h4 => ?_)
  have hW : Wr _ (.slice (some ⟨b4, 0, none⟩) 3 3) [[1, 5], [3], [0, 0, 2, 0]] := ⟨_, sl_here (l := [.slice (some ⟨b1, 0, none⟩) 2 2, .slice (some ⟨b2, 0, none⟩) 1 1, .slice (some ⟨b3, 0, none⟩) 4 4]) (e := T.t_api_Clock) (.head _), ⟨l1.cons, by simp [Qd]⟩, ⟨l2.cons, by simp [Qd]⟩, ⟨l3.cons, by simp [Qd]⟩, trivial⟩
  refine join_spec h4 hW (fun y hy => hy) (by simp) (by simp) (fun S5 v5 w5 h5 hv5 => ?_)
  have e5 : joins [[1, 5], [3], [0, 0, 2, 0]] = [3, 5, 2] := by decide
  rw [e5] at hv5
  have h5 : Ow B w5 (S5 ++ H) := h5.sub ((List.Sublist.refl S5).append (.cons _ (.cons _ (.cons _ (.cons _ (.refl _))))))
  refine bs_rule h5 (qv [1]) (by kernel_rfl) (fun b6 w6 h6 => ?_)
  refine tick_spec (l := [1]) (id := 2) (f := 9) h6 lit (fun y hy => hy) (by simp [Qd]) (by simp) (by omega) (by omega) (fun S7 v7 w7 h7 hv7 => ?_)
  have e7 : tick [1] 2 9 = ([1, 0, 1], 0) := by decide +kernel
  rw [e7] at hv7 ⊢
  have h7 : Ow B w7 (S7 ++ (S5 ++ H)) := h7.sub ((List.Sublist.refl S7).append (.cons _ (.refl _)))
  repeat (first | refine pu_not ?_ | refine pu_eql ?_ | refine pu_neq ?_ | refine pu_lss ?_ | refine pu_leq ?_ | refine pu_gtr ?_ | refine pu_geq ?_ | refine pu_add ?_ | refine pu_sub ?_ | refine pu_mul ?_ | refine pu_neg ?_ | refine fa_at ?_ | refine nl_ptr ?_ | refine ex20 ?_ | refine ex21 ?_ | refine ex30 ?_ | refine ex31 ?_ | refine ex32 ?_ | refine ln_rule ?_ | refine lnT_rule ?_ | refine pu_and ?_ | refine pu_or ?_ | refine pu_xor ?_ | refine pu_seq ?_ | refine pu_sne ?_)
  refine bs_rule h7 (qv [1]) (by kernel_rfl) (fun b8 w8 h8 => ?_)
  refine tick_spec (l := [1]) (id := 0) (f := 1) h8 lit (fun y hy => hy) (by simp [Qd]) (by simp) (by omega) (by omega) (fun S9 v9 w9 h9 hv9 => ?_)
  have e9 : tick [1] 0 1 = ([], 130) := by decide +kernel
  rw [e9]
  have h9 : Ow B w9 (S7 ++ (S5 ++ H)) := (drp h9).drop
  repeat (first | refine pu_not ?_ | refine pu_eql ?_ | refine pu_neq ?_ | refine pu_lss ?_ | refine pu_leq ?_ | refine pu_gtr ?_ | refine pu_geq ?_ | refine pu_add ?_ | refine pu_sub ?_ | refine pu_mul ?_ | refine pu_neg ?_ | refine fa_at ?_ | refine nl_ptr ?_ | refine ex20 ?_ | refine ex21 ?_ | refine ex30 ?_ | refine ex31 ?_ | refine ex32 ?_ | refine ln_rule ?_ | refine lnT_rule ?_ | refine pu_and ?_ | refine pu_or ?_ | refine pu_xor ?_ | refine pu_seq ?_ | refine pu_sne ?_)
  refine rpack_spec (id := 1) (c := 5) (by omega) (by omega) ?_
  repeat (first | refine pu_not ?_ | refine pu_eql ?_ | refine pu_neq ?_ | refine pu_lss ?_ | refine pu_leq ?_ | refine pu_gtr ?_ | refine pu_geq ?_ | refine pu_add ?_ | refine pu_sub ?_ | refine pu_mul ?_ | refine pu_neg ?_ | refine fa_at ?_ | refine nl_ptr ?_ | refine ex20 ?_ | refine ex21 ?_ | refine ex30 ?_ | refine ex31 ?_ | refine ex32 ?_ | refine ln_rule ?_ | refine lnT_rule ?_ | refine pu_and ?_ | refine pu_or ?_ | refine pu_xor ?_ | refine pu_seq ?_ | refine pu_sne ?_)
  refine rpack_spec (id := 2) (c := 1) (by omega) (by omega) ?_
  repeat (first | refine pu_not ?_ | refine pu_eql ?_ | refine pu_neq ?_ | refine pu_lss ?_ | refine pu_leq ?_ | refine pu_gtr ?_ | refine pu_geq ?_ | refine pu_add ?_ | refine pu_sub ?_ | refine pu_mul ?_ | refine pu_neg ?_ | refine fa_at ?_ | refine nl_ptr ?_ | refine ex20 ?_ | refine ex21 ?_ | refine ex30 ?_ | refine ex31 ?_ | refine ex32 ?_ | refine ln_rule ?_ | refine lnT_rule ?_ | refine pu_and ?_ | refine pu_or ?_ | refine pu_xor ?_ | refine pu_seq ?_ | refine pu_sne ?_)
  refine bs_rule h9 (qv [3, 5, 2]) (by kernel_rfl) (fun b10 w10 h10 => ?_)
  have hv5' : Cl ((b10, cel (qv [3, 5, 2]) T.t_uint64) :: (S7 ++ (S5 ++ H))) v5 [3, 5, 2] := hv5.mono fun x hx => .tail _ (List.mem_append_right _ (List.mem_append_left _ hx))
  refine equal_spec h10 hv5' lit (by simp) (fun w11 h11 => ?_)
  refine cnd_t (by simp) ?_
  have h11 := h11.drop
  refine bs_rule h11 (qv [1, 0, 0]) (by kernel_rfl) (fun b12 w12 h12 => ?_)
  refine trim_spec (xs := [1, 0, 0]) h12 lit (fun y hy => hy) (by simp) (fun S13 v13 w13 h13 hv13 => ?_)
  have e13 : trim [1, 0, 0] = [1] := by decide
  rw [e13] at hv13
  have h13 : Ow B w13 (S13 ++ (S7 ++ (S5 ++ H))) := h13.sub ((List.Sublist.refl S13).append (.cons _ (.refl _)))
  refine bs_rule h13 (qv [1]) (by kernel_rfl) (fun b14 w14 h14 => ?_)
  refine equal_spec h14 (hv13.mono fun x hx => .tail _ (List.mem_append_left _ hx)) lit (by simp) (fun w15 h15 => ?_)
  refine cnd_t (by simp) ?_
  have h15 := drp h15.drop
  refine bs_rule h15 (qv [1, 5]) (by kernel_rfl) (fun b16 w16 h16 => ?_)
  refine bs_rule h16 (qv [1, 6]) (by kernel_rfl) (fun b17 w17 h17 => ?_)
  refine stands_spec h17 (a := [1, 5]) (b := [1, 6]) (sl_here (l := qv [1, 5]) (.tail _ (.head _))) lit (by simp) (by simp) (fun w18 h18 => ?_)
  have e18 : stands [1, 5] [1, 6] = 2 := by decide
  rw [e18]
  repeat (first | refine pu_not ?_ | refine pu_eql ?_ | refine pu_neq ?_ | refine pu_lss ?_ | refine pu_leq ?_ | refine pu_gtr ?_ | refine pu_geq ?_ | refine pu_add ?_ | refine pu_sub ?_ | refine pu_mul ?_ | refine pu_neg ?_ | refine fa_at ?_ | refine nl_ptr ?_ | refine ex20 ?_ | refine ex21 ?_ | refine ex30 ?_ | refine ex31 ?_ | refine ex32 ?_ | refine ln_rule ?_ | refine lnT_rule ?_ | refine pu_and ?_ | refine pu_or ?_ | refine pu_xor ?_ | refine pu_seq ?_ | refine pu_sne ?_)
  refine cnd_t rfl ?_
  have h18 := h18.drop.drop
  refine bs_rule h18 (qv [1]) (by kernel_rfl) (fun b19 w19 h19 => ?_)
  refine bs_rule h19 (qv [0, 1]) (by kernel_rfl) (fun b20 w20 h20 => ?_)
  refine stands_spec h20 (a := [1]) (b := [0, 1]) (sl_here (l := qv [1]) (.tail _ (.head _))) lit (by simp) (by simp) (fun w21 h21 => ?_)
  have e21 : stands [1] [0, 1] = 4 := by decide
  rw [e21]
  repeat (first | refine pu_not ?_ | refine pu_eql ?_ | refine pu_neq ?_ | refine pu_lss ?_ | refine pu_leq ?_ | refine pu_gtr ?_ | refine pu_geq ?_ | refine pu_add ?_ | refine pu_sub ?_ | refine pu_mul ?_ | refine pu_neg ?_ | refine fa_at ?_ | refine nl_ptr ?_ | refine ex20 ?_ | refine ex21 ?_ | refine ex30 ?_ | refine ex31 ?_ | refine ex32 ?_ | refine ln_rule ?_ | refine lnT_rule ?_ | refine pu_and ?_ | refine pu_or ?_ | refine pu_xor ?_ | refine pu_seq ?_ | refine pu_sne ?_)
  refine cnd_t rfl ?_
  have h21 := h21.drop.drop
  refine bs_rule h21 (qv [1, 5]) (by kernel_rfl) (fun b22 w22 h22 => ?_)
  refine has_spec (l := [1, 5]) h22 lit (by decide) (fun w23 h23 => ?_)
  refine cnd_t (by decide +kernel) ?_
  have h23 := h23.drop
  refine bs_rule h23 (qv [1, 5]) (by kernel_rfl) (fun b24 w24 h24 => ?_)
  refine has_spec (l := [1, 5]) h24 lit (by decide) (fun w25 h25 => ?_)
  repeat (first | refine pu_not ?_ | refine pu_eql ?_ | refine pu_neq ?_ | refine pu_lss ?_ | refine pu_leq ?_ | refine pu_gtr ?_ | refine pu_geq ?_ | refine pu_add ?_ | refine pu_sub ?_ | refine pu_mul ?_ | refine pu_neg ?_ | refine fa_at ?_ | refine nl_ptr ?_ | refine ex20 ?_ | refine ex21 ?_ | refine ex30 ?_ | refine ex31 ?_ | refine ex32 ?_ | refine ln_rule ?_ | refine lnT_rule ?_ | refine pu_and ?_ | refine pu_or ?_ | refine pu_xor ?_ | refine pu_seq ?_ | refine pu_sne ?_)
  refine cnd_t (by decide +kernel) ?_
  have h25 := h25.drop
  refine bs_rule h25 (qv [1, 0, 1]) (by kernel_rfl) (fun b26 w26 h26 => ?_)
  refine equal_spec h26 (hv7.mono fun x hx => .tail _ (List.mem_append_left _ hx)) lit (by simp) (fun w27 h27 => ?_)
  refine cnd_t (by simp) ?_
  refine vnum_spec ?_
  repeat (first | refine pu_not ?_ | refine pu_eql ?_ | refine pu_neq ?_ | refine pu_lss ?_ | refine pu_leq ?_ | refine pu_gtr ?_ | refine pu_geq ?_ | refine pu_add ?_ | refine pu_sub ?_ | refine pu_mul ?_ | refine pu_neg ?_ | refine fa_at ?_ | refine nl_ptr ?_ | refine ex20 ?_ | refine ex21 ?_ | refine ex30 ?_ | refine ex31 ?_ | refine ex32 ?_ | refine ln_rule ?_ | refine lnT_rule ?_ | refine pu_and ?_ | refine pu_or ?_ | refine pu_xor ?_ | refine pu_seq ?_ | refine pu_sne ?_)
  refine cnd_t rfl ?_
  refine vnum_spec ?_
  repeat (first | refine pu_not ?_ | refine pu_eql ?_ | refine pu_neq ?_ | refine pu_lss ?_ | refine pu_leq ?_ | refine pu_gtr ?_ | refine pu_geq ?_ | refine pu_add ?_ | refine pu_sub ?_ | refine pu_mul ?_ | refine pu_neg ?_ | refine fa_at ?_ | refine nl_ptr ?_ | refine ex20 ?_ | refine ex21 ?_ | refine ex30 ?_ | refine ex31 ?_ | refine ex32 ?_ | refine ln_rule ?_ | refine lnT_rule ?_ | refine pu_and ?_ | refine pu_or ?_ | refine pu_xor ?_ | refine pu_seq ?_ | refine pu_sne ?_)
  exact k _ (drp (drp h27.drop))

theorem clk_of {v : Value} (g : FitV PG H T.t_api_Clock v) : ∃ l : List Nat, Cl H v l ∧ Qd l := by
  obtain ⟨xs, h1, h2, h3⟩ := g.ints (e := T.t_uint64) (k := .u64) und_clk und_u64 (by kernel_rfl)
  have hn : ∀ x ∈ xs, 0 ≤ x ∧ x < 18446744073709551616 := fun x hx => wf_u64 (h3 x hx)
  have e : xs.map (Value.int .u64 ·) = qv (xs.map Int.toNat) := by
    unfold qv
    rw [List.map_map]
    refine List.map_congr_left fun x hx => ?_
    have := (hn x hx).1
    simp [v64, Int.toNat_of_nonneg this]
  rw [e] at h1
  refine ⟨_, h1, fun x hx => ?_⟩
  obtain ⟨y, hy, rfl⟩ := List.mem_map.1 hx
  have := hn y hy
  omega
theorem u64_of {t : TypeId} {v : Value} (ht : PG.underlying t = some (.int .u64)) (g : FitV PG H t v) : ∃ n : Nat, v = v64 n ∧ n < 18446744073709551616 := by
  obtain ⟨n, rfl, hw⟩ := g.int ht
  have := wf_u64 hw
  refine ⟨n.toNat, ?_, by omega⟩
  rw [v64, Int.toNat_of_nonneg this.1]
theorem und_ep : PG.underlying T.t_api_Epoch = some (.int .u64) := by kernel_rfl
theorem Sl.max_len {v : Value} {l : List Nat} (g : FitV PG H T.t_api_Clock v) : True := trivial
theorem VectorTells.law {v0 v1 v2 : Value} (g0 : FitV PG H T.t_api_Clock v0) (g1 : FitV PG H T.t_int v1) (g2 : FitV PG H T.t_api_Epoch v2) (h : Ow B w H) (k : ∀ w', Ow B w' H → K (vB true) w') : callW PG N.linesmanlaw04_VectorTells [v0, v1, v2] K PK w := by
  obtain ⟨l, hl, hq⟩ := clk_of g0
  obtain ⟨id, rfl, hidw⟩ := g1.int und_int
  obtain ⟨x, rfl, hx⟩ := u64_of und_ep g2
  have hid := (wf_i64 hidw).2
  clear g0 g1 g2 hidw
  refine linesmanlaw04_VectorTells.ok ?_
  unfold linesmanlaw04_VectorTells.C
  refine bs_rule h [v0] (bsw1 hl) (fun b w1 h1 => ?_)
  refine few_spec (ls := [l]) h1 ⟨_, sl_here (l := [v0]) (.head _), ⟨hl.cons, hq⟩, trivial⟩ (by simp) (fun w2 h2 => ?_)
  have h2 := h2.drop
  repeat (first | refine pu_not ?_ | refine pu_eql ?_ | refine pu_neq ?_ | refine pu_lss ?_ | refine pu_leq ?_ | refine pu_gtr ?_ | refine pu_geq ?_ | refine pu_add ?_ | refine pu_sub ?_ | refine pu_mul ?_ | refine pu_neg ?_ | refine fa_at ?_ | refine nl_ptr ?_ | refine ex20 ?_ | refine ex21 ?_ | refine ex30 ?_ | refine ex31 ?_ | refine ex32 ?_ | refine ln_rule ?_ | refine lnT_rule ?_ | refine pu_and ?_ | refine pu_or ?_ | refine pu_xor ?_ | refine pu_seq ?_ | refine pu_sne ?_)
  refine cnd (fun _ => vworks_spec h2 k) (fun hf => ?_)
  have hf : l.length ≤ 40 := by simpa using hf
  refine epoch_spec h2 hl hq (by omega) hid (fun w3 h3 => ?_)
  repeat (first | refine pu_not ?_ | refine pu_eql ?_ | refine pu_neq ?_ | refine pu_lss ?_ | refine pu_leq ?_ | refine pu_gtr ?_ | refine pu_geq ?_ | refine pu_add ?_ | refine pu_sub ?_ | refine pu_mul ?_ | refine pu_neg ?_ | refine fa_at ?_ | refine nl_ptr ?_ | refine ex20 ?_ | refine ex21 ?_ | refine ex30 ?_ | refine ex31 ?_ | refine ex32 ?_ | refine ln_rule ?_ | refine lnT_rule ?_ | refine pu_and ?_ | refine pu_or ?_ | refine pu_xor ?_ | refine pu_seq ?_ | refine pu_sne ?_)
  refine repoch_spec h3 hl hq (by omega) hid (fun w4 h4 => ?_)
  repeat (first | refine pu_not ?_ | refine pu_eql ?_ | refine pu_neq ?_ | refine pu_lss ?_ | refine pu_leq ?_ | refine pu_gtr ?_ | refine pu_geq ?_ | refine pu_add ?_ | refine pu_sub ?_ | refine pu_mul ?_ | refine pu_neg ?_ | refine fa_at ?_ | refine nl_ptr ?_ | refine ex20 ?_ | refine ex21 ?_ | refine ex30 ?_ | refine ex31 ?_ | refine ex32 ?_ | refine ln_rule ?_ | refine lnT_rule ?_ | refine pu_and ?_ | refine pu_or ?_ | refine pu_xor ?_ | refine pu_seq ?_ | refine pu_sne ?_)
  refine check_spec h4 hl (by omega) (fun w5 h5 => ?_)
  refine vnum_spec ?_
  repeat (first | refine pu_not ?_ | refine pu_eql ?_ | refine pu_neq ?_ | refine pu_lss ?_ | refine pu_leq ?_ | refine pu_gtr ?_ | refine pu_geq ?_ | refine pu_add ?_ | refine pu_sub ?_ | refine pu_mul ?_ | refine pu_neg ?_ | refine fa_at ?_ | refine nl_ptr ?_ | refine ex20 ?_ | refine ex21 ?_ | refine ex30 ?_ | refine ex31 ?_ | refine ex32 ?_ | refine ln_rule ?_ | refine lnT_rule ?_ | refine pu_and ?_ | refine pu_or ?_ | refine pu_xor ?_ | refine pu_seq ?_ | refine pu_sne ?_)
  refine rright_spec h5 hl (by omega) (fun w6 h6 => ?_)
  refine pu_beql und_bool ?_
  by_cases hr : right l = true
  · rw [if_pos hr, hr]
    refine cnd_t rfl ?_
    refine rright_spec h6 hl (by omega) (fun w7 h7 => ?_)
    refine cnd_t hr ?_
    refine trim_spec h7 hl (fun y hy => hy) (by omega) (fun S8 v8 w8 h8 hv8 => ?_)
    refine rtrim_spec h8 hl (fun y hy => List.mem_append_right _ hy) (by omega) (fun S9 v9 w9 h9 hv9 => ?_)
    refine equal_spec h9 (hv8.mono fun y hy => List.mem_append_right _ (List.mem_append_left _ hy)) (hv9.mono fun y hy => List.mem_append_left _ hy) (by have := trim_len l; omega) (fun w10 h10 => ?_)
    refine cnd_t (by simp) ?_
    have h10 := drp (drp h10)
    refine get_spec h10 hl (fun w11 h11 => ?_)
    refine rget_spec h11 hl ?_
    repeat (first | refine pu_not ?_ | refine pu_eql ?_ | refine pu_neq ?_ | refine pu_lss ?_ | refine pu_leq ?_ | refine pu_gtr ?_ | refine pu_geq ?_ | refine pu_add ?_ | refine pu_sub ?_ | refine pu_mul ?_ | refine pu_neg ?_ | refine fa_at ?_ | refine nl_ptr ?_ | refine ex20 ?_ | refine ex21 ?_ | refine ex30 ?_ | refine ex31 ?_ | refine ex32 ?_ | refine ln_rule ?_ | refine lnT_rule ?_ | refine pu_and ?_ | refine pu_or ?_ | refine pu_xor ?_ | refine pu_seq ?_ | refine pu_sne ?_)
    refine cnd_t (by simp) ?_
    repeat (first | refine pu_not ?_ | refine pu_eql ?_ | refine pu_neq ?_ | refine pu_lss ?_ | refine pu_leq ?_ | refine pu_gtr ?_ | refine pu_geq ?_ | refine pu_add ?_ | refine pu_sub ?_ | refine pu_mul ?_ | refine pu_neg ?_ | refine fa_at ?_ | refine nl_ptr ?_ | refine ex20 ?_ | refine ex21 ?_ | refine ex30 ?_ | refine ex31 ?_ | refine ex32 ?_ | refine ln_rule ?_ | refine lnT_rule ?_ | refine pu_and ?_ | refine pu_or ?_ | refine pu_xor ?_ | refine pu_seq ?_ | refine pu_sne ?_)
    refine cnd_t (by simp) ?_
    refine vnum_spec ?_
    repeat (first | refine pu_not ?_ | refine pu_eql ?_ | refine pu_neq ?_ | refine pu_lss ?_ | refine pu_leq ?_ | refine pu_gtr ?_ | refine pu_geq ?_ | refine pu_add ?_ | refine pu_sub ?_ | refine pu_mul ?_ | refine pu_neg ?_ | refine fa_at ?_ | refine nl_ptr ?_ | refine ex20 ?_ | refine ex21 ?_ | refine ex30 ?_ | refine ex31 ?_ | refine ex32 ?_ | refine ln_rule ?_ | refine lnT_rule ?_ | refine pu_and ?_ | refine pu_or ?_ | refine pu_xor ?_ | refine pu_seq ?_ | refine pu_sne ?_)
    refine cnd_t (by simp) ?_
    refine has_spec h11 hl hx (fun w12 h12 => ?_)
    refine rhas_spec h12 hl hx ?_
    refine pu_beql und_bool ?_
    refine cnd_t (by simp) ?_
    exact vworks_spec h12 k
  · rw [if_neg hr]
    have hr : right l = false := by simpa using hr
    rw [hr]
    refine cnd_t rfl ?_
    refine rright_spec h6 hl (by omega) (fun w7 h7 => ?_)
    refine cnd_f hr ?_
    refine check_spec h7 hl (by omega) (fun w7 h7 => ?_)
    rw [if_neg (by rw [hr]; simp)]
    refine vnum_spec ?_
    repeat (first | refine pu_not ?_ | refine pu_eql ?_ | refine pu_neq ?_ | refine pu_lss ?_ | refine pu_leq ?_ | refine pu_gtr ?_ | refine pu_geq ?_ | refine pu_add ?_ | refine pu_sub ?_ | refine pu_mul ?_ | refine pu_neg ?_ | refine fa_at ?_ | refine nl_ptr ?_ | refine ex20 ?_ | refine ex21 ?_ | refine ex30 ?_ | refine ex31 ?_ | refine ex32 ?_ | refine ln_rule ?_ | refine lnT_rule ?_ | refine pu_and ?_ | refine pu_or ?_ | refine pu_xor ?_ | refine pu_seq ?_ | refine pu_sne ?_)
    refine cnd_t rfl ?_
    refine trim_spec h7 hl (fun y hy => hy) (by omega) (fun S8 v8 w8 h8 hv8 => ?_)
    refine rtrim_spec h8 hl (fun y hy => List.mem_append_right _ hy) (by omega) (fun S9 v9 w9 h9 hv9 => ?_)
    refine equal_spec h9 (hv8.mono fun y hy => List.mem_append_right _ (List.mem_append_left _ hy)) (hv9.mono fun y hy => List.mem_append_left _ hy) (by have := trim_len l; omega) (fun w10 h10 => ?_)
    refine cnd_t (by simp) ?_
    have h10 := drp (drp h10)
    refine get_spec h10 hl (fun w11 h11 => ?_)
    refine rget_spec h11 hl ?_
    repeat (first | refine pu_not ?_ | refine pu_eql ?_ | refine pu_neq ?_ | refine pu_lss ?_ | refine pu_leq ?_ | refine pu_gtr ?_ | refine pu_geq ?_ | refine pu_add ?_ | refine pu_sub ?_ | refine pu_mul ?_ | refine pu_neg ?_ | refine fa_at ?_ | refine nl_ptr ?_ | refine ex20 ?_ | refine ex21 ?_ | refine ex30 ?_ | refine ex31 ?_ | refine ex32 ?_ | refine ln_rule ?_ | refine lnT_rule ?_ | refine pu_and ?_ | refine pu_or ?_ | refine pu_xor ?_ | refine pu_seq ?_ | refine pu_sne ?_)
    refine cnd_t (by simp) ?_
    repeat (first | refine pu_not ?_ | refine pu_eql ?_ | refine pu_neq ?_ | refine pu_lss ?_ | refine pu_leq ?_ | refine pu_gtr ?_ | refine pu_geq ?_ | refine pu_add ?_ | refine pu_sub ?_ | refine pu_mul ?_ | refine pu_neg ?_ | refine fa_at ?_ | refine nl_ptr ?_ | refine ex20 ?_ | refine ex21 ?_ | refine ex30 ?_ | refine ex31 ?_ | refine ex32 ?_ | refine ln_rule ?_ | refine lnT_rule ?_ | refine pu_and ?_ | refine pu_or ?_ | refine pu_xor ?_ | refine pu_seq ?_ | refine pu_sne ?_)
    refine cnd_t (by simp) ?_
    refine vnum_spec ?_
    repeat (first | refine pu_not ?_ | refine pu_eql ?_ | refine pu_neq ?_ | refine pu_lss ?_ | refine pu_leq ?_ | refine pu_gtr ?_ | refine pu_geq ?_ | refine pu_add ?_ | refine pu_sub ?_ | refine pu_mul ?_ | refine pu_neg ?_ | refine fa_at ?_ | refine nl_ptr ?_ | refine ex20 ?_ | refine ex21 ?_ | refine ex30 ?_ | refine ex31 ?_ | refine ex32 ?_ | refine ln_rule ?_ | refine lnT_rule ?_ | refine pu_and ?_ | refine pu_or ?_ | refine pu_xor ?_ | refine pu_seq ?_ | refine pu_sne ?_)
    refine cnd_t (by simp) ?_
    refine has_spec h11 hl hx (fun w12 h12 => ?_)
    refine rhas_spec h12 hl hx ?_
    refine pu_beql und_bool ?_
    refine cnd_t (by simp) ?_
    exact vworks_spec h12 k
theorem VectorTicks.law {v0 v1 v2 : Value} (g0 : FitV PG H T.t_api_Clock v0) (g1 : FitV PG H T.t_int v1) (g2 : FitV PG H T.t_uint64 v2) (h : Ow B w H) (k : ∀ w', Ow B w' H → K (vB true) w') : callW PG N.linesmanlaw04_VectorTicks [v0, v1, v2] K PK w := by
  obtain ⟨l, hl, hq⟩ := clk_of g0
  obtain ⟨id, rfl, hidw⟩ := g1.int und_int
  obtain ⟨f, rfl, hf0⟩ := u64_of und_u64 g2
  clear g0 g1 g2 hidw
  refine linesmanlaw04_VectorTicks.ok ?_
  unfold linesmanlaw04_VectorTicks.C
  refine bs_rule h [v0] (bsw1 hl) (fun b w1 h1 => ?_)
  refine few_spec (ls := [l]) h1 ⟨_, sl_here (l := [v0]) (.head _), ⟨hl.cons, hq⟩, trivial⟩ (by simp) (fun w2 h2 => ?_)
  have h2 := h2.drop
  repeat (first | refine pu_not ?_ | refine pu_eql ?_ | refine pu_neq ?_ | refine pu_lss ?_ | refine pu_leq ?_ | refine pu_gtr ?_ | refine pu_geq ?_ | refine pu_add ?_ | refine pu_sub ?_ | refine pu_mul ?_ | refine pu_neg ?_ | refine fa_at ?_ | refine nl_ptr ?_ | refine ex20 ?_ | refine ex21 ?_ | refine ex30 ?_ | refine ex31 ?_ | refine ex32 ?_ | refine ln_rule ?_ | refine lnT_rule ?_ | refine pu_and ?_ | refine pu_or ?_ | refine pu_xor ?_ | refine pu_seq ?_ | refine pu_sne ?_)
  refine cnd (fun _ => vworks_spec h2 k) (fun hf => ?_)
  have hf : l.length ≤ 40 := by simpa using hf
  repeat (first | refine pu_not ?_ | refine pu_eql ?_ | refine pu_neq ?_ | refine pu_lss ?_ | refine pu_leq ?_ | refine pu_gtr ?_ | refine pu_geq ?_ | refine pu_add ?_ | refine pu_sub ?_ | refine pu_mul ?_ | refine pu_neg ?_ | refine fa_at ?_ | refine nl_ptr ?_ | refine ex20 ?_ | refine ex21 ?_ | refine ex30 ?_ | refine ex31 ?_ | refine ex32 ?_ | refine ln_rule ?_ | refine lnT_rule ?_ | refine pu_and ?_ | refine pu_or ?_ | refine pu_xor ?_ | refine pu_seq ?_ | refine pu_sne ?_)
  refine cnd (fun _ => vworks_spec h2 k) (fun hid => ?_)
  have hid : id ≤ 70 := by simp at hid; omega
  refine bs_rule h2 [] (by kernel_rfl) (fun b3 w3 h3 => ?_)
  refine app1 (A := []) (S := [(b3, cel [] T.t_uint64)]) (z := v64 0) (bytes := 8) h3 (Own.mk (n := 0) (cap := 0) (xs := []) (Nat.le_refl _) (Nat.zero_le _) rfl rfl) hl (fun y hy => .tail _ hy) (by simp [plainV]) und_clk info_u64 rfl (by simp [maxLen]; omega) (by simp; omega) (fun S p w4 h4 ho => ?_)
  refine bs_rule h4 [v64 77] (by kernel_rfl) (fun b5 w5 h5 => ?_)
  refine app1 (A := [_]) (z := v64 0) (bytes := 8) h5 ho (sl_here (b := b5) (l := [v64 77]) (e := T.t_uint64) (.head _)) (fun y hy => hy) rfl und_clk info_u64 rfl (by simp [maxLen]; omega) (by simp; omega) (fun S2 q w6 h6 ho6 => ?_)
  have h6 : Ow B w6 (S2 ++ H) := by
    have h6 : Ow B w6 ((b5, cel [v64 77] T.t_uint64) :: (S2 ++ ([] ++ H))) := by simpa using h6
    exact h6.drop
  have hqs : Sl S2 q (qv (l ++ [77])) := by simpa [qv] using ho6.sl
  refine sl_ln hl ?_
  rw [List.length_map]
  refine cutH2 hqs (by omega) (by simp; omega) (fun c hc => ?_)
  have hc : l.length + 1 ≤ c := by simpa using hc
  rw [Int.toNat_natCast]
  have hb0 := sl_cut (l := 0) (h := l.length) (m := c) hqs (by omega) (by simp) (by omega)
  have hb : Cl S2 (cut q 0 l.length c) l := by
    rw [List.drop_zero, ← List.map_take, List.take_left' rfl] at hb0
    exact hb0
  refine tick_spec h6 hb (fun y hy => List.mem_append_left _ hy) hq (by omega) (by omega) hf0 (fun S7 v7 w7 h7 hv7 => ?_)
  repeat (first | refine pu_not ?_ | refine pu_eql ?_ | refine pu_neq ?_ | refine pu_lss ?_ | refine pu_leq ?_ | refine pu_gtr ?_ | refine pu_geq ?_ | refine pu_add ?_ | refine pu_sub ?_ | refine pu_mul ?_ | refine pu_neg ?_ | refine fa_at ?_ | refine nl_ptr ?_ | refine ex20 ?_ | refine ex21 ?_ | refine ex30 ?_ | refine ex31 ?_ | refine ex32 ?_ | refine ln_rule ?_ | refine lnT_rule ?_ | refine pu_and ?_ | refine pu_or ?_ | refine pu_xor ?_ | refine pu_seq ?_ | refine pu_sne ?_)
  refine rtick_spec h7 hl (fun y hy => List.mem_append_right _ (List.mem_append_right _ hy)) hq (by omega) (by omega) hf0 (fun S8 v8 w8 h8 hv8 => ?_)
  repeat (first | refine pu_not ?_ | refine pu_eql ?_ | refine pu_neq ?_ | refine pu_lss ?_ | refine pu_leq ?_ | refine pu_gtr ?_ | refine pu_geq ?_ | refine pu_add ?_ | refine pu_sub ?_ | refine pu_mul ?_ | refine pu_neg ?_ | refine fa_at ?_ | refine nl_ptr ?_ | refine ex20 ?_ | refine ex21 ?_ | refine ex30 ?_ | refine ex31 ?_ | refine ex32 ?_ | refine ln_rule ?_ | refine lnT_rule ?_ | refine pu_and ?_ | refine pu_or ?_ | refine pu_xor ?_ | refine pu_seq ?_ | refine pu_sne ?_)
  have htl : (tick l id f).1.length < 2 ^ 62 := by
    unfold tick
    split
    · simp
    · split
      · simp
      · have := trim_len ((pad l id.toNat).set id.toNat ((next (epo l id).1 f).1 % 281474976710656))
        rw [List.length_set, pad_len] at this
        dsimp only
        omega
  refine equal_spec h8 (hv7.mono fun y hy => List.mem_append_right _ (List.mem_append_left _ hy)) (hv8.mono fun y hy => List.mem_append_left _ hy) htl (fun w9 h9 => ?_)
  refine cnd_t (by simp) ?_
  refine vnum_spec ?_
  repeat (first | refine pu_not ?_ | refine pu_eql ?_ | refine pu_neq ?_ | refine pu_lss ?_ | refine pu_leq ?_ | refine pu_gtr ?_ | refine pu_geq ?_ | refine pu_add ?_ | refine pu_sub ?_ | refine pu_mul ?_ | refine pu_neg ?_ | refine fa_at ?_ | refine nl_ptr ?_ | refine ex20 ?_ | refine ex21 ?_ | refine ex30 ?_ | refine ex31 ?_ | refine ex32 ?_ | refine ln_rule ?_ | refine lnT_rule ?_ | refine pu_and ?_ | refine pu_or ?_ | refine pu_xor ?_ | refine pu_seq ?_ | refine pu_sne ?_)
  refine cnd_t (by simp) ?_
  have h9 := drp (drp h9)
  refine equal_spec h9 (hb.mono fun y hy => List.mem_append_left _ hy) (hl.mono fun y hy => List.mem_append_right _ hy) (by omega) (fun w10 h10 => ?_)
  refine cnd_t (by simp) ?_
  refine sl_ln hl ?_
  rw [List.length_map]
  repeat (first | refine pu_not ?_ | refine pu_eql ?_ | refine pu_neq ?_ | refine pu_lss ?_ | refine pu_leq ?_ | refine pu_gtr ?_ | refine pu_geq ?_ | refine pu_add ?_ | refine pu_sub ?_ | refine pu_mul ?_ | refine pu_neg ?_ | refine fa_at ?_ | refine nl_ptr ?_ | refine ex20 ?_ | refine ex21 ?_ | refine ex30 ?_ | refine ex31 ?_ | refine ex32 ?_ | refine ln_rule ?_ | refine lnT_rule ?_ | refine pu_and ?_ | refine pu_or ?_ | refine pu_xor ?_ | refine pu_seq ?_ | refine pu_sne ?_)
  rw [wrap64_in (by omega) (by omega)]
  refine recut hqs (by simp) (by simpa using hc) (fun u hu => ?_)
  refine sl_ln hl ?_
  rw [List.length_map]
  refine sl_ld (v := v64 77) h10 (hu.mono fun y hy => List.mem_append_left _ hy) (by omega) (by rw [Int.toNat_natCast, List.getElem?_take, if_pos (by omega)]; simp [qv]) ?_
  repeat (first | refine pu_not ?_ | refine pu_eql ?_ | refine pu_neq ?_ | refine pu_lss ?_ | refine pu_leq ?_ | refine pu_gtr ?_ | refine pu_geq ?_ | refine pu_add ?_ | refine pu_sub ?_ | refine pu_mul ?_ | refine pu_neg ?_ | refine fa_at ?_ | refine nl_ptr ?_ | refine ex20 ?_ | refine ex21 ?_ | refine ex30 ?_ | refine ex31 ?_ | refine ex32 ?_ | refine ln_rule ?_ | refine lnT_rule ?_ | refine pu_and ?_ | refine pu_or ?_ | refine pu_xor ?_ | refine pu_seq ?_ | refine pu_sne ?_)
  refine cnd_t rfl ?_
  exact vworks_spec (drp h10) k
end
end Go.Proofs.Ytobanjfpoeinhaa
