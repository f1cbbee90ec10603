/- Names of kinds; lists of Ops. -/
import Derived.Test.YtkkkcafkepnecaaGreatVpA
import Derived.Test.YtkkkcafkepnecaaGreatVcS
set_option linter.unusedVariables false
set_option linter.unusedSimpArgs false
namespace Go.Proofs.YtkkkcafkepnecaaGreat
open Go Go.RowKit Vc
attribute [local irreducible] binV Op.unary convert nlW faW ldS ldW ixS ixA ixV ixT exW lnS lnT pu stW alW opW opU bsW mkW

section
variable {B w : World} {H : Hp} {K : Value → World → Prop} {PK : List PanicEntry → World → Prop}
/-! ### Names -/
def namesL : List ByteArray := [bs [97, 100, 100], bs [115, 117, 98], bs [109, 117, 108], bs [100, 105, 118], bs [109, 111, 100], bs [97, 110, 100], bs [111, 114], bs [120, 111, 114], bs [115, 104, 108], bs [115, 104, 114],
  bs [108, 101, 115, 115], bs [101, 113, 117, 97, 108]]
def nm (i : Nat) : ByteArray := namesL.getD i ByteArray.empty
theorem nm_at {i : Nat} (hi : i < 12) : (namesL.map Value.string)[i]? = some (.string (nm i)) := by
  have : i < namesL.length := hi
  simp [nm, List.getD, this]
def everyL : List (List Value) := (List.range 12).map fun (i : Nat) => [vI ((i : Int) + 1), .string (nm i)]
theorem every_at {i : Nat} (hi : i < 12) : everyL[i]? = some [vI ((i : Int) + 1), .string (nm i)] := by simp [everyL, hi]
theorem every_of {i : Nat} {args : List Value} (h : everyL[i]? = some args) : i < 12 ∧ args = [vI ((i : Int) + 1), .string (nm i)] := by
  simp only [everyL, List.getElem?_map, Option.map_eq_some_iff] at h
  obtain ⟨j, hj, rfl⟩ := h
  obtain ⟨hlt, rfl⟩ := List.getElem?_eq_some_iff.1 hj
  simp at hlt
  simp [hlt]
theorem every_len : everyL.length = 12 := rfl
theorem every_two : ∀ args ∈ everyL, args.length = 2 := by
  intro args h
  simp only [everyL, List.mem_map] at h
  obtain ⟨i, _, rfl⟩ := h
  rfl
theorem names_spec (h : Ow B w H) (k : ∀ w', Ow B w' H → K (.agg (namesL.map Value.string).toArray) w') : callW PG N.arith_names [] K PK w := by
  refine arith_names.ok ?_
  unfold arith_names.C
  refine al_rule h (l := List.replicate 12 (.string ByteArray.empty)) (by kernel_rfl) (fun b w1 h1 => ?_)
  refine pu_build (namesL.map Value.string) (by kernel_rfl) ?_
  refine st_here (A := []) h1 (namesL.map Value.string) rfl rfl rfl (by simp) (fun w2 h2 => ?_)
  refine ldn_here h2 (.head _) (vs := namesL.map Value.string) rfl rfl ?_
  exact k _ h2.drop
theorem every_seq : Seq PG B H (fnc N.arith_every_1 #[]) everyL := by
  refine Seq.fn arith_every_1.okf ?_
  intro y J Z K PK w X hy hw j0 hr he
  refine arith_every_1.ok ?_
  unfold arith_every_1.C
  refine names_spec hw (fun w1 h1 => ?_)
  refine ⟨fun l w => ∃ (i : Nat) (X : Hp), l = [vI i] ∧ i ≤ 12 ∧ J i X ∧ Ow B w (X ++ H), fun l _ => match l with | [.int _ n] => 12 - n.toNat | _ => 0, ⟨0, X, rfl, by omega, j0, h1⟩, ?_⟩
  rintro l w2 ⟨i, X, rfl, hi, hj, h2⟩ j1
  repeat (first | refine pu_not ?_ | refine pu_eql ?_ | refine pu_neq ?_ | refine pu_lss ?_ | refine pu_leq ?_ | refine pu_gtr ?_ | refine pu_geq ?_ | refine pu_add ?_ | refine pu_sub ?_ | refine pu_mul ?_ | refine pu_neg ?_ | refine fa_at ?_ | refine nl_ptr ?_ | refine ex20 ?_ | refine ex21 ?_ | refine ex30 ?_ | refine ex31 ?_ | refine ex32 ?_ | refine ln_rule ?_ | refine lnT_rule ?_ | refine pu_and ?_ | refine pu_or ?_ | refine pu_xor ?_ | refine pu_seq ?_ | refine pu_sne ?_)
  refine cnd (fun hlt => ?_) (fun hlt => ?_)
  · have hlt : i < 12 := by simp at hlt; omega
    refine ixV_rule (by omega) (by simp; omega) (by rw [Int.toNat_natCast]; exact nm_at hlt) ?_
    repeat (first | refine pu_not ?_ | refine pu_eql ?_ | refine pu_neq ?_ | refine pu_lss ?_ | refine pu_leq ?_ | refine pu_gtr ?_ | refine pu_geq ?_ | refine pu_add ?_ | refine pu_sub ?_ | refine pu_mul ?_ | refine pu_neg ?_ | refine fa_at ?_ | refine nl_ptr ?_ | refine ex20 ?_ | refine ex21 ?_ | refine ex30 ?_ | refine ex31 ?_ | refine ex32 ?_ | refine ln_rule ?_ | refine lnT_rule ?_ | refine pu_and ?_ | refine pu_or ?_ | refine pu_xor ?_ | refine pu_seq ?_ | refine pu_sne ?_)
    rw [wrap64_in (by omega) (by omega)]
    refine hr i _ X H _ _ w2 (every_at hlt) hj (fun x hx => hx) h2 (fun X' w3 h3 hj3 => ?_) (fun X' w3 h3 hz3 => ?_)
    · repeat (first | refine pu_not ?_ | refine pu_eql ?_ | refine pu_neq ?_ | refine pu_lss ?_ | refine pu_leq ?_ | refine pu_gtr ?_ | refine pu_geq ?_ | refine pu_add ?_ | refine pu_sub ?_ | refine pu_mul ?_ | refine pu_neg ?_ | refine fa_at ?_ | refine nl_ptr ?_ | refine ex20 ?_ | refine ex21 ?_ | refine ex30 ?_ | refine ex31 ?_ | refine ex32 ?_ | refine ln_rule ?_ | refine lnT_rule ?_ | refine pu_and ?_ | refine pu_or ?_ | refine pu_xor ?_ | refine pu_seq ?_ | refine pu_sne ?_)
      refine cnd_f rfl ?_
      repeat (first | refine pu_not ?_ | refine pu_eql ?_ | refine pu_neq ?_ | refine pu_lss ?_ | refine pu_leq ?_ | refine pu_gtr ?_ | refine pu_geq ?_ | refine pu_add ?_ | refine pu_sub ?_ | refine pu_mul ?_ | refine pu_neg ?_ | refine fa_at ?_ | refine nl_ptr ?_ | refine ex20 ?_ | refine ex21 ?_ | refine ex30 ?_ | refine ex31 ?_ | refine ex32 ?_ | refine ln_rule ?_ | refine lnT_rule ?_ | refine pu_and ?_ | refine pu_or ?_ | refine pu_xor ?_ | refine pu_seq ?_ | refine pu_sne ?_)
      rw [wrap64_in (by omega) (by omega)]
      exact ⟨⟨i + 1, X', rfl, hlt, hj3, h3⟩, by simp; omega⟩
    · repeat (first | refine pu_not ?_ | refine pu_eql ?_ | refine pu_neq ?_ | refine pu_lss ?_ | refine pu_leq ?_ | refine pu_gtr ?_ | refine pu_geq ?_ | refine pu_add ?_ | refine pu_sub ?_ | refine pu_mul ?_ | refine pu_neg ?_ | refine fa_at ?_ | refine nl_ptr ?_ | refine ex20 ?_ | refine ex21 ?_ | refine ex30 ?_ | refine ex31 ?_ | refine ex32 ?_ | refine ln_rule ?_ | refine lnT_rule ?_ | refine pu_and ?_ | refine pu_or ?_ | refine pu_xor ?_ | refine pu_seq ?_ | refine pu_sne ?_)
      refine cnd_t rfl ?_
      exact he _ X' w3 h3 (.inr hz3)
  · obtain rfl : i = 12 := by simp at hlt; omega
    exact he _ X w2 h2 (.inl hj)
theorem every_spec (h : Ow B w H) (k : K (fnc N.arith_every_1 #[]) w) : callW PG N.arith_every [] K PK w := by
  refine arith_every.ok ?_
  unfold arith_every.C
  exact k
def nameOf (k : Int) : ByteArray × Int := if 1 ≤ k ∧ k ≤ 12 then (nm (k - 1).toNat, 0) else (ByteArray.empty, 2)
theorem name_spec {i : Int} (h : Ow B w H) (k : ∀ w', Ow B w' H → K (.tuple #[.string (nameOf i).1, vI (nameOf i).2]) w') : callW PG N.arith_Name [vI i] K PK w := by
  refine arith_Name.ok ?_
  unfold arith_Name.C
  refine al_rule h (l := [vI i]) rfl (fun b1 w1 h1 => ?_)
  refine al_rule h1 (l := [.string ByteArray.empty]) (by kernel_rfl) (fun b2 w2 h2 => ?_)
  refine al_rule h2 (l := [vI 0]) (by kernel_rfl) (fun b3 w3 h3 => ?_)
  refine every_spec h3 ?_
  refine range_fn (X := [(b3, cel [vI 0] T.t_api_Errno), (b2, cel [.string ByteArray.empty] T.t_string), (b1, cel [vI i] T.t_api_Arith)]) (H := H) (A := arith_Name.note) (fuel := 400) mixed every_seq (by simp) every_two h3
    (fun n Y => Y = [(b3, cel [vI 0] T.t_api_Errno), (b2, cel [.string ByteArray.empty] T.t_string), (b1, cel [vI i] T.t_api_Arith)] ∧ ¬ (1 ≤ i ∧ i ≤ n))
    (fun j Y => j = .ret ∧ Y = [(b3, cel [vI 0] T.t_api_Errno), (b2, cel [.string (nameOf i).1] T.t_string), (b1, cel [vI i] T.t_api_Arith)] ∧ (nameOf i).2 = 0) ⟨rfl, by omega⟩ ?_ ?_ ?_
  · rintro l r n args Y F R w4 hL ⟨rfl, hn⟩ hF h4 k1 k2 u
    obtain ⟨hlt, rfl⟩ := every_of hL
    refine Eq.mpr (arith_Name.Rd0_eq l R _ _ _ _ _ w4 u) ?_
    unfold arith_Name.Rd0
    refine rbeg h4 (fun w5 h5 => ?_)
    refine ld_here h5 (.tail _ (.tail _ (.tail _ (.head _)))) rfl ?_
    repeat (first | refine pu_not ?_ | refine pu_eql ?_ | refine pu_neq ?_ | refine pu_lss ?_ | refine pu_leq ?_ | refine pu_gtr ?_ | refine pu_geq ?_ | refine pu_add ?_ | refine pu_sub ?_ | refine pu_mul ?_ | refine pu_neg ?_ | refine fa_at ?_ | refine nl_ptr ?_ | refine ex20 ?_ | refine ex21 ?_ | refine ex30 ?_ | refine ex31 ?_ | refine ex32 ?_ | refine ln_rule ?_ | refine lnT_rule ?_ | refine pu_and ?_ | refine pu_or ?_ | refine pu_xor ?_ | refine pu_seq ?_ | refine pu_sne ?_)
    refine cnd (fun heq => ?_) (fun heq => ?_)
    · have heq : (n : Int) + 1 = i := by simpa using heq
      have e : nameOf i = (nm n, 0) := by
        unfold nameOf
        rw [if_pos (by omega)]
        congr 2; omega
      refine st1_here (A := [_, _]) h5 rfl rfl (by simp) (fun w6 h6 => ?_)
      refine st1_here (A := [_]) h6 rfl rfl (by simp) (fun w7 h7 => ?_)
      refine rend_stop h7 (fun w8 h8 => ?_)
      exact k2 _ _ w8 ⟨rfl, rfl, by rw [e]⟩ (by rw [e]; exact h8)
    · have heq : ¬ (n : Int) + 1 = i := by simpa using heq
      exact rend_go h5 (fun w6 h6 => k1 _ w6 ⟨rfl, by omega⟩ h6)
  · rintro b Y w4 ⟨rfl, hn⟩ h4
    rw [every_len] at hn
    have e : nameOf i = (ByteArray.empty, 2) := by
      unfold nameOf
      rw [if_neg (by omega)]
    refine st1_here (A := [_, _]) h4 rfl rfl (by simp) (fun w6 h6 => ?_)
    refine st1_here (A := [_]) h6 rfl rfl (by simp) (fun w7 h7 => ?_)
    refine lv_ret h7 (fun w8 h8 => ?_)
    refine ld_here h8 (.tail _ (.head _)) rfl ?_
    refine ld_here h8 (.head _) rfl ?_
    have := k w8 h8.drop.drop.drop
    rw [e] at this
    exact this
  · rintro b j Y w4 ⟨rfl, rfl, he⟩ h4
    refine lv_ret h4 (fun w8 h8 => ?_)
    refine ld_here h8 (.tail _ (.head _)) rfl ?_
    refine ld_here h8 (.head _) rfl ?_
    have := k w8 h8.drop.drop.drop
    rw [he] at this
    exact this

theorem iv_at {xs : List Int} {i : Nat} (h : i < xs.length) : (xs.map vI)[i]? = some (vI xs[i]) := by simp [h]
/-- Is it one of some? -/
theorem index_spec {s : Value} {xs : List Int} {x : Int} (h : Ow B w H) (hs : Sl H s (xs.map vI)) (hlen : xs.length < 1000) (k : ∀ w' (i : Int), (0 ≤ i ↔ x ∈ xs) → Ow B w' H → K (vI i) w') : callW PG N.slices_Index_sl_api_Op_api_Op [s, vI x] K PK w := by
  refine slices_Index_sl_api_Op_api_Op.ok ?_
  unfold slices_Index_sl_api_Op_api_Op.C
  refine sl_ln hs ?_
  rw [List.length_map]
  refine ⟨fun l w => ∃ i : Nat, l = [vI i] ∧ i ≤ xs.length ∧ (∀ (j : Nat) y, j < i → xs[j]? = some y → y ≠ x) ∧ Ow B w H, fun l _ => match l with | [.int _ n] => xs.length - n.toNat | _ => 0, ⟨0, rfl, Nat.zero_le _, fun j y hj => absurd hj (by omega), h⟩, ?_⟩
  rintro l w1 ⟨i, rfl, hi, hno, h1⟩ j
  repeat (first | refine pu_not ?_ | refine pu_eql ?_ | refine pu_neq ?_ | refine pu_lss ?_ | refine pu_leq ?_ | refine pu_gtr ?_ | refine pu_geq ?_ | refine pu_add ?_ | refine pu_sub ?_ | refine pu_mul ?_ | refine pu_neg ?_ | refine fa_at ?_ | refine nl_ptr ?_ | refine ex20 ?_ | refine ex21 ?_ | refine ex30 ?_ | refine ex31 ?_ | refine ex32 ?_ | refine ln_rule ?_ | refine lnT_rule ?_ | refine pu_and ?_ | refine pu_or ?_ | refine pu_xor ?_ | refine pu_seq ?_ | refine pu_sne ?_)
  refine cnd (fun hlt => ?_) (fun hlt => ?_)
  · have hlt : i < xs.length := by simpa using hlt
    refine sl_ld h1 hs (by omega) (by rw [Int.toNat_natCast]; exact iv_at hlt) ?_
    repeat (first | refine pu_not ?_ | refine pu_eql ?_ | refine pu_neq ?_ | refine pu_lss ?_ | refine pu_leq ?_ | refine pu_gtr ?_ | refine pu_geq ?_ | refine pu_add ?_ | refine pu_sub ?_ | refine pu_mul ?_ | refine pu_neg ?_ | refine fa_at ?_ | refine nl_ptr ?_ | refine ex20 ?_ | refine ex21 ?_ | refine ex30 ?_ | refine ex31 ?_ | refine ex32 ?_ | refine ln_rule ?_ | refine lnT_rule ?_ | refine pu_and ?_ | refine pu_or ?_ | refine pu_xor ?_ | refine pu_seq ?_ | refine pu_sne ?_)
    refine cnd (fun hp => ?_) (fun hp => ?_)
    · have hp : x = xs[i] := by simpa using hp
      exact k _ _ ⟨fun _ => by rw [hp]; exact List.getElem_mem hlt, fun _ => by omega⟩ h1
    · have hp : ¬ x = xs[i] := by simpa using hp
      repeat (first | refine pu_not ?_ | refine pu_eql ?_ | refine pu_neq ?_ | refine pu_lss ?_ | refine pu_leq ?_ | refine pu_gtr ?_ | refine pu_geq ?_ | refine pu_add ?_ | refine pu_sub ?_ | refine pu_mul ?_ | refine pu_neg ?_ | refine fa_at ?_ | refine nl_ptr ?_ | refine ex20 ?_ | refine ex21 ?_ | refine ex30 ?_ | refine ex31 ?_ | refine ex32 ?_ | refine ln_rule ?_ | refine lnT_rule ?_ | refine pu_and ?_ | refine pu_or ?_ | refine pu_xor ?_ | refine pu_seq ?_ | refine pu_sne ?_)
      rw [wrap64_in (by omega) (by omega)]
      refine ⟨⟨i + 1, rfl, hlt, fun j y hj hx => ?_, h1⟩, by simp; omega⟩
      rcases Nat.lt_succ_iff_lt_or_eq.1 hj with hj | rfl
      · exact hno j y hj hx
      · rw [List.getElem?_eq_getElem hlt] at hx; cases hx; exact fun h => hp h.symm
  · obtain rfl : i = xs.length := by simp at hlt; omega
    refine k _ _ ⟨fun h => by omega, fun hm => ?_⟩ h1
    obtain ⟨j, hj, rfl⟩ := List.getElem_of_mem hm
    exact absurd rfl (hno j _ hj (List.getElem?_eq_getElem hj))
theorem among_spec {s : Value} {xs : List Int} {x : Int} (h : Ow B w H) (hs : Sl H s (xs.map vI)) (hlen : xs.length < 1000) (k : ∀ w', Ow B w' H → K (vB (decide (x ∈ xs))) w') : callW PG N.instr_among_api_Op [vI x, s] K PK w := by
  refine instr_among_api_Op.ok ?_
  unfold instr_among_api_Op.C
  refine slices_Contains_sl_api_Op_api_Op.ok ?_
  unfold slices_Contains_sl_api_Op_api_Op.C
  refine index_spec h hs hlen (fun w1 i hi h1 => ?_)
  refine pu_geq ?_
  have : decide (i ≥ 0) = decide (x ∈ xs) := by simp only [decide_eq_decide]; exact hi
  rw [this]
  exact k _ h1
end
end Go.Proofs.YtkkkcafkepnecaaGreat
