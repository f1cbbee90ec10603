/- Instructions: their bytes, and back. -/
import Derived.Test.YtkkkcafkepnecaaGreatZD
import Derived.Test.YtkkkcafkepnecaaGreatZC
import Derived.Test.YtkkkcafkepnecaaGreatIB
import Derived.Test.YtkkkcafkepnecaaGreatJE

set_option linter.unusedVariables false
set_option linter.unusedSimpArgs false
set_option linter.unnecessarySimpa false
namespace Go.Proofs.YtkkkcafkepnecaaGreat.Im
open Go Go.RowKit Vc Oc Dg
attribute [local irreducible] binV Op.unary convert nlW faW ldS ldW ixS ixA ixV ixT exW lnS lnT pu stW alW opW opU bsW mkW

section
variable {B w : World} {H : Hp} {K : Value → World → Prop} {PK : List PanicEntry → World → Prop}
/-- How wide a part is. -/
def pw : Pk → Nat
  | .i _ => 4
  | _ => 1
theorem pw_cell (p : Pk) : p.cells[0]? = some (vI (pw p)) := by cases p <;> rfl
theorem pw_pos (p : Pk) : 1 ≤ pw p ∧ pw p ≤ 4 := by cases p <;> simp [pw]
theorem pw_right (p : Pk) : right (pw p) = true := by cases p <;> rfl
def partB (i : Ins) (p : Pk) : List Nat := fx (p.get i).toNat (pw p)
theorem partB_len (i : Ins) (p : Pk) : (partB i p).length = pw p := fx_len _ _
def insB (i : Ins) : List Nat := i.op.toNat :: (nmd i.op).flatMap (partB i)
theorem part_lt {i : Ins} (hi : i.Sm) (p : Pk) : (p.get i).toNat < 256 ^ pw p := by
  obtain ⟨⟨a0, a1⟩, ⟨b0, b1⟩, ⟨c0, c1⟩, ⟨d0, d1⟩⟩ := hi
  cases p <;> simp only [Pk.get, pw] <;> omega
theorem fxR_part {i : Ins} (hi : i.Sm) (p : Pk) : fxR (p.get i).toNat (pw p) = (partB i p, 0) := by
  unfold fxR
  rw [if_neg (by rw [pw_right]; simp), Int.toNat_natCast, if_pos (part_lt hi p)]; rfl
theorem parts_len (i : Ins) : ∀ l : List Pk, (l.flatMap (partB i)).length ≤ 4 * l.length
  | [] => by simp
  | p :: l => by
    have := parts_len i l
    have := pw_pos p
    rw [List.flatMap_cons, List.length_append, partB_len, List.length_cons]; omega
theorem insB_len (i : Ins) : (insB i).length ≤ 17 := by
  have := parts_len i (nmd i.op)
  have := nmd_len i.op
  simp only [insB, List.length_cons]; omega
theorem insB_pos (i : Ins) : 1 ≤ (insB i).length := by simp [insB]
theorem ok_op {i : Ins} (h : okI i = true) : 1 ≤ i.op ∧ i.op ≤ 19 := by
  unfold okI at h
  simp only [Bool.and_eq_true, decide_eq_true_eq] at h
  exact ⟨h.1.1.1, h.1.1.2.1⟩
theorem byt_app {a b : List Nat} (ha : Byt a) (hb : Byt b) : Byt (a ++ b) := fun x hx => (List.mem_append.1 hx).elim (ha x) (hb x)
theorem byt_of_app {a b : List Nat} (h : Byt (a ++ b)) : Byt a ∧ Byt b := ⟨fun x hx => h x (List.mem_append_left _ hx), fun x hx => h x (List.mem_append_right _ hx)⟩
theorem parts_byt (i : Ins) : ∀ l : List Pk, Byt (l.flatMap (partB i))
  | [] => fun x hx => by simp at hx
  | p :: l => by rw [List.flatMap_cons]; exact byt_app (fx_byt _ _) (parts_byt i l)
theorem insB_byt {i : Ins} (h : okI i = true) : Byt (insB i) := by
  have := ok_op h
  intro x hx
  rcases List.mem_cons.1 hx with rfl | hx
  · omega
  · exact parts_byt i _ x hx
theorem prow_len (l : List Pk) : (prow l).length = l.length := by simp [prow]

theorem bytes_spec {i : Ins} (hu : 0 ≤ i.imm ∧ i.imm < 4294967296) (hk : okI i = true) (h : Ow B w H) (k : ∀ S v w', Ow B w' (S ++ H) → Vc.Own S T.t_uint8 1 v (insB i).length (bv (insB i)) → K (.tuple #[v, vI 0]) w') : callW PG N.instr_Bytes [.agg i.cells.toArray] K PK w := by
  refine instr_Bytes.ok ?_
  unfold instr_Bytes.C
  have hsm := ok_sm hu hk
  have hop := ok_op hk
  refine al_rule h (l := i.cells) rfl (fun b w1 h1 => ?_)
  refine ldn_here h1 (.head _) (vs := i.cells) rfl rfl ?_
  refine icheck_spec hu h1 (fun w2 h2 => ?_)
  rw [if_pos hk]
  repeat (first | refine pu_not ?_ | refine pu_eql ?_ | refine pu_neq ?_ | refine pu_lss ?_ | refine pu_leq ?_ | refine pu_gtr ?_ | refine pu_geq ?_ | refine pu_add ?_ | refine pu_sub ?_ | refine fa_at ?_ | refine nl_ptr ?_ | refine ex20 ?_ | refine ex21 ?_ | refine ex30 ?_ | refine ex31 ?_ | refine ex32 ?_ | refine ln_rule ?_ | refine pu_seq ?_ | refine pu_sne ?_)
  refine cnd_f rfl ?_
  repeat (first | refine pu_not ?_ | refine pu_eql ?_ | refine pu_neq ?_ | refine pu_lss ?_ | refine pu_leq ?_ | refine pu_gtr ?_ | refine pu_geq ?_ | refine pu_add ?_ | refine pu_sub ?_ | refine fa_at ?_ | refine nl_ptr ?_ | refine ex20 ?_ | refine ex21 ?_ | refine ex30 ?_ | refine ex31 ?_ | refine ex32 ?_ | refine ln_rule ?_ | refine pu_seq ?_ | refine pu_sne ?_)
  refine ld_here h2 (.head _) (v := vI i.op) rfl ?_
  refine cvt (by kernel_rfl) und_u8 (m := (i.op.toNat : Int)) (by rw [wrapu8]; omega) ?_
  refine bs_rule h2 [v8 i.op.toNat] (by kernel_rfl) (fun b1 w3 h3 => ?_)
  repeat (first | refine pu_not ?_ | refine pu_eql ?_ | refine pu_neq ?_ | refine pu_lss ?_ | refine pu_leq ?_ | refine pu_gtr ?_ | refine pu_geq ?_ | refine pu_add ?_ | refine pu_sub ?_ | refine fa_at ?_ | refine nl_ptr ?_ | refine ex20 ?_ | refine ex21 ?_ | refine ex30 ?_ | refine ex31 ?_ | refine ex32 ?_ | refine ln_rule ?_ | refine pu_seq ?_ | refine pu_sne ?_)
  refine ld_here h3 (.tail _ (.head _)) (v := vI i.op) rfl ?_
  refine named_spec h3 (fun S v w4 h4 hs => ?_)
  have hl4 := nmd_len i.op
  refine sls_ln hs ?_
  rw [prow_len]
  refine ⟨fun l w => ∃ (n : Nat) (v1 : Value) (S1 : Hp), l = [v1, vI n] ∧ n ≤ (nmd i.op).length ∧ Ow B w (S ++ (S1 ++ (b, iO i) :: H)) ∧
      Vc.Own S1 T.t_uint8 1 v1 (i.op.toNat :: ((nmd i.op).take n).flatMap (partB i)).length (bv (i.op.toNat :: ((nmd i.op).take n).flatMap (partB i))),
    fun l _ => match l with | [_, .int _ q] => (nmd i.op).length - q.toNat | _ => 0, ⟨0, _, [(b1, cel [v8 i.op.toNat] T.t_uint8)], rfl, Nat.zero_le _, h4, Own.mk (Nat.le_refl _) (by simp [maxLen]) rfl rfl⟩, ?_⟩
  clear h4 h3 h2 h1
  rintro l w5 ⟨n, v1, S1, rfl, hn, h5, ho⟩ j
  simp only [gv, List.getD_cons_zero, List.getD_cons_succ]
  repeat (first | refine pu_not ?_ | refine pu_eql ?_ | refine pu_neq ?_ | refine pu_lss ?_ | refine pu_leq ?_ | refine pu_gtr ?_ | refine pu_geq ?_ | refine pu_add ?_ | refine pu_sub ?_ | refine fa_at ?_ | refine nl_ptr ?_ | refine ex20 ?_ | refine ex21 ?_ | refine ex30 ?_ | refine ex31 ?_ | refine ex32 ?_ | refine ln_rule ?_ | refine pu_seq ?_ | refine pu_sne ?_)
  refine cnd (fun hlt => ?_) (fun hlt => ?_)
  · have hlt : n < (nmd i.op).length := by simpa using hlt
    refine sls_ld h5 (hs.mono fun x hx => List.mem_append_left _ hx) (by omega) (by rw [Int.toNat_natCast]; exact pk_at hlt) ?_
    have htk : (nmd i.op).take (n + 1) = (nmd i.op).take n ++ [(nmd i.op)[n]] := by rw [List.take_add_one, List.getElem?_eq_getElem hlt]; rfl
    generalize (nmd i.op)[n] = p at htk
    refine al_rule h5 (l := zpart) (by kernel_rfl) (fun b3 w6 h6 => ?_)
    refine st_here (A := []) h6 p.cells rfl (by cases p <;> rfl) (pk_plain _) (by simp) (fun w7 h7 => ?_)
    simp only [List.take_zero, List.nil_append, Nat.zero_add, List.drop_succ_cons, List.drop_zero, List.drop_nil, List.append_nil] at h7
    refine ⟨fun w => Ow B w ((b3, cel p.cells T.t_instr_part) :: (S ++ (S1 ++ (b, iO i) :: H))), h7.drew, ?_⟩
    repeat (first | refine pu_not ?_ | refine pu_eql ?_ | refine pu_neq ?_ | refine pu_lss ?_ | refine pu_leq ?_ | refine pu_gtr ?_ | refine pu_geq ?_ | refine pu_add ?_ | refine pu_sub ?_ | refine fa_at ?_ | refine nl_ptr ?_ | refine ex20 ?_ | refine ex21 ?_ | refine ex30 ?_ | refine ex31 ?_ | refine ex32 ?_ | refine ln_rule ?_ | refine pu_seq ?_ | refine pu_sne ?_)
    refine lds_here (fun w h => h) (.head _) (v := fnc p.fg #[]) (by cases p <;> rfl) ?_
    refine ldsn_here (fun w h => h) (.tail _ (List.mem_append_right _ (List.mem_append_right _ (.head _)))) (vs := i.cells) rfl rfl ?_
    repeat (first | refine pu_not ?_ | refine pu_eql ?_ | refine pu_neq ?_ | refine pu_lss ?_ | refine pu_leq ?_ | refine pu_gtr ?_ | refine pu_geq ?_ | refine pu_add ?_ | refine pu_sub ?_ | refine fa_at ?_ | refine nl_ptr ?_ | refine ex20 ?_ | refine ex21 ?_ | refine ex30 ?_ | refine ex31 ?_ | refine ex32 ?_ | refine ln_rule ?_ | refine pu_seq ?_ | refine pu_sne ?_)
    refine lds_here (fun w h => h) (.head _) (v := vI (pw p)) (pw_cell p) ?_
    refine get_pf hsm p [] _ _ _ h7.drew (fun w8 h8 => ?_)
    refine ⟨h8, ?_⟩
    have hg := get_small hsm p
    have eg : (Value.int .u64 (p.get i)) = v64 (p.get i).toNat := by
      show Value.int .u64 (p.get i) = Value.int .u64 ((p.get i).toNat : Int)
      rw [Int.toNat_of_nonneg hg.1]
    rw [eg]
    refine fixed_spec h8 (by omega) (fun Sf vf w9 h9 hof => ?_)
    rw [fxR_part hsm] at hof ⊢
    repeat (first | refine pu_not ?_ | refine pu_eql ?_ | refine pu_neq ?_ | refine pu_lss ?_ | refine pu_leq ?_ | refine pu_gtr ?_ | refine pu_geq ?_ | refine pu_add ?_ | refine pu_sub ?_ | refine fa_at ?_ | refine nl_ptr ?_ | refine ex20 ?_ | refine ex21 ?_ | refine ex30 ?_ | refine ex31 ?_ | refine ex32 ?_ | refine ln_rule ?_ | refine pu_seq ?_ | refine pu_sne ?_)
    have hpl := parts_len i ((nmd i.op).take n)
    have htl : ((nmd i.op).take n).length ≤ 4 := by rw [List.length_take]; omega
    have hb4 := pw_pos p
    refine app1 (A := Sf ++ (b3, cel p.cells T.t_instr_part) :: S) (C := (b, iO i) :: H) (z := v8 0) (bytes := 1) (by simpa using h9) ho hof.sl (fun y hy => List.mem_append_left _ (List.mem_append_left _ (List.mem_append_left _ hy))) (by simp [plainV]) und_slb info_u8 rfl
      (by simp only [List.length_cons, List.length_map, partB_len, maxLen]; omega) (by simp only [List.length_cons, List.length_map, partB_len]; omega) (fun S' v' w10 h10 ho' => ?_)
    repeat (first | refine pu_not ?_ | refine pu_eql ?_ | refine pu_neq ?_ | refine pu_lss ?_ | refine pu_leq ?_ | refine pu_gtr ?_ | refine pu_geq ?_ | refine pu_add ?_ | refine pu_sub ?_ | refine fa_at ?_ | refine nl_ptr ?_ | refine ex20 ?_ | refine ex21 ?_ | refine ex30 ?_ | refine ex31 ?_ | refine ex32 ?_ | refine ln_rule ?_ | refine pu_seq ?_ | refine pu_sne ?_)
    rw [wrap64_in (by omega) (by omega)]
    refine ⟨⟨n + 1, v', S', rfl, hlt, ?_, ?_⟩, by simp; omega⟩
    · exact h10.sub (by simpa using ((List.Sublist.refl (S ++ (S' ++ (b, iO i) :: H))).cons _).trans (List.sublist_append_right Sf _))
    · have e1 : i.op.toNat :: ((nmd i.op).take n ++ [p]).flatMap (partB i) = (i.op.toNat :: ((nmd i.op).take n).flatMap (partB i)) ++ partB i p := by simp
      rw [htk, e1, List.length_append, ← bv_app]
      rw [List.length_map] at ho'
      exact ho'
  · obtain rfl : n = (nmd i.op).length := by simp at hlt; omega
    rw [List.take_length] at ho
    exact k S1 v1 _ (h5.sub (((List.Sublist.refl S1).append ((List.Sublist.refl H).cons _)).trans (List.sublist_append_right S _))) ho
end
end Go.Proofs.YtkkkcafkepnecaaGreat.Im

