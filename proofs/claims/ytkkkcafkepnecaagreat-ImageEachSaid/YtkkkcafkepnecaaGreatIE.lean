/- Instructions: their bytes, and back. -/
import Derived.Test.YtkkkcafkepnecaaGreatZD
import Derived.Test.YtkkkcafkepnecaaGreatZC
import Derived.Test.YtkkkcafkepnecaaGreatIB
import Derived.Test.YtkkkcafkepnecaaGreatJE

set_option linter.unusedVariables false
set_option linter.unusedSimpArgs false
set_option linter.unnecessarySimpa false
namespace Go.Proofs.YtkkkcafkepnecaaGreat.Im
open Go Go.RowKit Vc Oc Dg
attribute [local irreducible] binV Op.unary convert nlW faW ldS ldW ixS ixA ixV ixT exW lnS lnT pu stW alW opW opU bsW mkW

section
variable {B w : World} {H : Hp} {K : Value → World → Prop} {PK : List PanicEntry → World → Prop}
/-- How wide a part is. -/
def pw : Pk → Nat
  | .i _ => 4
  | _ => 1
theorem pw_cell (p : Pk) : p.cells[0]? = some (vI (pw p)) := by cases p <;> rfl
theorem pw_pos (p : Pk) : 1 ≤ pw p ∧ pw p ≤ 4 := by cases p <;> simp [pw]
theorem pw_right (p : Pk) : right (pw p) = true := by cases p <;> rfl
def partB (i : Ins) (p : Pk) : List Nat := fx (p.get i).toNat (pw p)
theorem partB_len (i : Ins) (p : Pk) : (partB i p).length = pw p := fx_len _ _
def insB (i : Ins) : List Nat := i.op.toNat :: (nmd i.op).flatMap (partB i)
theorem part_lt {i : Ins} (hi : i.Sm) (p : Pk) : (p.get i).toNat < 256 ^ pw p := by
  obtain ⟨⟨a0, a1⟩, ⟨b0, b1⟩, ⟨c0, c1⟩, ⟨d0, d1⟩⟩ := hi
  cases p <;> simp only [Pk.get, pw] <;> omega
theorem fxR_part {i : Ins} (hi : i.Sm) (p : Pk) : fxR (p.get i).toNat (pw p) = (partB i p, 0) := by
  unfold fxR
  rw [if_neg (by rw [pw_right]; simp), Int.toNat_natCast, if_pos (part_lt hi p)]; rfl
theorem parts_len (i : Ins) : ∀ l : List Pk, (l.flatMap (partB i)).length ≤ 4 * l.length
  | [] => by simp
  | p :: l => by
    have := parts_len i l
    have := pw_pos p
    rw [List.flatMap_cons, List.length_append, partB_len, List.length_cons]; omega
theorem insB_len (i : Ins) : (insB i).length ≤ 17 := by
  have := parts_len i (nmd i.op)
  have := nmd_len i.op
  simp only [insB, List.length_cons]; omega
theorem insB_pos (i : Ins) : 1 ≤ (insB i).length := by simp [insB]
theorem ok_op {i : Ins} (h : okI i = true) : 1 ≤ i.op ∧ i.op ≤ 19 := by
  unfold okI at h
  simp only [Bool.and_eq_true, decide_eq_true_eq] at h
  exact ⟨h.1.1.1, h.1.1.2.1⟩
theorem byt_app {a b : List Nat} (ha : Byt a) (hb : Byt b) : Byt (a ++ b) := fun x hx => (List.mem_append.1 hx).elim (ha x) (hb x)
theorem parts_byt (i : Ins) : ∀ l : List Pk, Byt (l.flatMap (partB i))
  | [] => fun x hx => by simp at hx
  | p :: l => by rw [List.flatMap_cons]; exact byt_app (fx_byt _ _) (parts_byt i l)
theorem insB_byt {i : Ins} (h : okI i = true) : Byt (insB i) := by
  have := ok_op h
  intro x hx
  rcases List.mem_cons.1 hx with rfl | hx
  · omega
  · exact parts_byt i _ x hx
theorem prow_len (l : List Pk) : (prow l).length = l.length := by simp [prow]

theorem bytes_spec {i : Ins} (hu : 0 ≤ i.imm ∧ i.imm < 4294967296) (hk : okI i = true) (h : Ow B w H) (k : ∀ S v w', Ow B w' (S ++ H) → Vc.Own S T.t_uint8 1 v (insB i).length (bv (insB i)) → K (.tuple #[v, vI 0]) w') : callW PG N.instr_Bytes [.agg i.cells.toArray] K PK w := by
  refine instr_Bytes.ok ?_
  unfold instr_Bytes.C
  have hsm := ok_sm hu hk
  have hop := ok_op hk
  refine al_rule h (l := i.cells) rfl (fun b w1 h1 => ?_)
  refine ldn_here h1 (.head _) (vs := i.cells) rfl rfl ?_
  refine icheck_spec hu h1 (fun w2 h2 => ?_)
  rw [if_pos hk]
  repeat (first | refine pu_not ?_ | refine pu_eql ?_ | refine pu_neq ?_ | refine pu_lss ?_ | refine pu_leq ?_ | refine pu_gtr ?_ | refine pu_geq ?_ | refine pu_add ?_ | refine pu_sub ?_ | refine fa_at ?_ | refine nl_ptr ?_ | refine ex20 ?_ | refine ex21 ?_ | refine ex30 ?_ | refine ex31 ?_ | refine ex32 ?_ | refine ln_rule ?_ | refine pu_seq ?_ | refine pu_sne ?_)
  refine cnd_f rfl ?_
  repeat (first | refine pu_not ?_ | refine pu_eql ?_ | refine pu_neq ?_ | refine pu_lss ?_ | refine pu_leq ?_ | refine pu_gtr ?_ | refine pu_geq ?_ | refine pu_add ?_ | refine pu_sub ?_ | refine fa_at ?_ | refine nl_ptr ?_ | refine ex20 ?_ | refine ex21 ?_ | refine ex30 ?_ | refine ex31 ?_ | refine ex32 ?_ | refine ln_rule ?_ | refine pu_seq ?_ | refine pu_sne ?_)
  refine ld_here h2 (.head _) (v := vI i.op) rfl ?_
  refine cvt (by kernel_rfl) und_u8 (m := (i.op.toNat : Int)) (by rw [wrapu8]; omega) ?_
  refine bs_rule h2 [v8 i.op.toNat] (by kernel_rfl) (fun b1 w3 h3 => ?_)
  repeat (first | refine pu_not ?_ | refine pu_eql ?_ | refine pu_neq ?_ | refine pu_lss ?_ | refine pu_leq ?_ | refine pu_gtr ?_ | refine pu_geq ?_ | refine pu_add ?_ | refine pu_sub ?_ | refine fa_at ?_ | refine nl_ptr ?_ | refine ex20 ?_ | refine ex21 ?_ | refine ex30 ?_ | refine ex31 ?_ | refine ex32 ?_ | refine ln_rule ?_ | refine pu_seq ?_ | refine pu_sne ?_)
  refine ld_here h3 (.tail _ (.head _)) (v := vI i.op) rfl ?_
  refine named_spec h3 (fun S v w4 h4 hs => ?_)
  have hl4 := nmd_len i.op
  refine sls_ln hs ?_
  rw [prow_len]
  refine ⟨fun l w => ∃ (n : Nat) (v1 : Value) (S1 : Hp), l = [v1, vI n] ∧ n ≤ (nmd i.op).length ∧ Ow B w (S ++ (S1 ++ (b, iO i) :: H)) ∧
      Vc.Own S1 T.t_uint8 1 v1 (i.op.toNat :: ((nmd i.op).take n).flatMap (partB i)).length (bv (i.op.toNat :: ((nmd i.op).take n).flatMap (partB i))),
    fun l _ => match l with | [_, .int _ q] => (nmd i.op).length - q.toNat | _ => 0, ⟨0, _, [(b1, cel [v8 i.op.toNat] T.t_uint8)], rfl, Nat.zero_le _, h4, Own.mk (Nat.le_refl _) (by simp [maxLen]) rfl rfl⟩, ?_⟩
  clear h4 h3 h2 h1
  rintro l w5 ⟨n, v1, S1, rfl, hn, h5, ho⟩ j
  simp only [gv, List.getD_cons_zero, List.getD_cons_succ]
  repeat (first | refine pu_not ?_ | refine pu_eql ?_ | refine pu_neq ?_ | refine pu_lss ?_ | refine pu_leq ?_ | refine pu_gtr ?_ | refine pu_geq ?_ | refine pu_add ?_ | refine pu_sub ?_ | refine fa_at ?_ | refine nl_ptr ?_ | refine ex20 ?_ | refine ex21 ?_ | refine ex30 ?_ | refine ex31 ?_ | refine ex32 ?_ | refine ln_rule ?_ | refine pu_seq ?_ | refine pu_sne ?_)
  refine cnd (fun hlt => ?_) (fun hlt => ?_)
  · have hlt : n < (nmd i.op).length := by simpa using hlt
    refine sls_ld h5 (hs.mono fun x hx => List.mem_append_left _ hx) (by omega) (by rw [Int.toNat_natCast]; exact pk_at hlt) ?_
    have htk : (nmd i.op).take (n + 1) = (nmd i.op).take n ++ [(nmd i.op)[n]] := by rw [List.take_add_one, List.getElem?_eq_getElem hlt]; rfl
    generalize (nmd i.op)[n] = p at htk
    refine al_rule h5 (l := zpart) (by kernel_rfl) (fun b3 w6 h6 => ?_)
    refine st_here (A := []) h6 p.cells rfl (by cases p <;> rfl) (pk_plain _) (by simp) (fun w7 h7 => ?_)
    simp only [List.take_zero, List.nil_append, Nat.zero_add, List.drop_succ_cons, List.drop_zero, List.drop_nil, List.append_nil] at h7
    refine ⟨fun w => Ow B w ((b3, cel p.cells T.t_instr_part) :: (S ++ (S1 ++ (b, iO i) :: H))), h7.drew, ?_⟩
    repeat (first | refine pu_not ?_ | refine pu_eql ?_ | refine pu_neq ?_ | refine pu_lss ?_ | refine pu_leq ?_ | refine pu_gtr ?_ | refine pu_geq ?_ | refine pu_add ?_ | refine pu_sub ?_ | refine fa_at ?_ | refine nl_ptr ?_ | refine ex20 ?_ | refine ex21 ?_ | refine ex30 ?_ | refine ex31 ?_ | refine ex32 ?_ | refine ln_rule ?_ | refine pu_seq ?_ | refine pu_sne ?_)
    refine lds_here (fun w h => h) (.head _) (v := fnc p.fg #[]) (by cases p <;> rfl) ?_
    refine ldsn_here (fun w h => h) (.tail _ (List.mem_append_right _ (List.mem_append_right _ (.head _)))) (vs := i.cells) rfl rfl ?_
    repeat (first | refine pu_not ?_ | refine pu_eql ?_ | refine pu_neq ?_ | refine pu_lss ?_ | refine pu_leq ?_ | refine pu_gtr ?_ | refine pu_geq ?_ | refine pu_add ?_ | refine pu_sub ?_ | refine fa_at ?_ | refine nl_ptr ?_ | refine ex20 ?_ | refine ex21 ?_ | refine ex30 ?_ | refine ex31 ?_ | refine ex32 ?_ | refine ln_rule ?_ | refine pu_seq ?_ | refine pu_sne ?_)
    refine lds_here (fun w h => h) (.head _) (v := vI (pw p)) (pw_cell p) ?_
    refine get_pf hsm p [] _ _ _ h7.drew (fun w8 h8 => ?_)
    refine ⟨h8, ?_⟩
    have hg := get_small hsm p
    have eg : (Value.int .u64 (p.get i)) = v64 (p.get i).toNat := by
      show Value.int .u64 (p.get i) = Value.int .u64 ((p.get i).toNat : Int)
      rw [Int.toNat_of_nonneg hg.1]
    rw [eg]
    refine fixed_spec h8 (by omega) (fun Sf vf w9 h9 hof => ?_)
    rw [fxR_part hsm] at hof ⊢
    repeat (first | refine pu_not ?_ | refine pu_eql ?_ | refine pu_neq ?_ | refine pu_lss ?_ | refine pu_leq ?_ | refine pu_gtr ?_ | refine pu_geq ?_ | refine pu_add ?_ | refine pu_sub ?_ | refine fa_at ?_ | refine nl_ptr ?_ | refine ex20 ?_ | refine ex21 ?_ | refine ex30 ?_ | refine ex31 ?_ | refine ex32 ?_ | refine ln_rule ?_ | refine pu_seq ?_ | refine pu_sne ?_)
    have hpl := parts_len i ((nmd i.op).take n)
    have htl : ((nmd i.op).take n).length ≤ 4 := by rw [List.length_take]; omega
    have hb4 := pw_pos p
    refine app1 (A := Sf ++ (b3, cel p.cells T.t_instr_part) :: S) (C := (b, iO i) :: H) (z := v8 0) (bytes := 1) (by simpa using h9) ho hof.sl (fun y hy => List.mem_append_left _ (List.mem_append_left _ (List.mem_append_left _ hy))) (by simp [plainV]) und_slb info_u8 rfl
      (by simp only [List.length_cons, List.length_map, partB_len, maxLen]; omega) (by simp only [List.length_cons, List.length_map, partB_len]; omega) (fun S' v' w10 h10 ho' => ?_)
    repeat (first | refine pu_not ?_ | refine pu_eql ?_ | refine pu_neq ?_ | refine pu_lss ?_ | refine pu_leq ?_ | refine pu_gtr ?_ | refine pu_geq ?_ | refine pu_add ?_ | refine pu_sub ?_ | refine fa_at ?_ | refine nl_ptr ?_ | refine ex20 ?_ | refine ex21 ?_ | refine ex30 ?_ | refine ex31 ?_ | refine ex32 ?_ | refine ln_rule ?_ | refine pu_seq ?_ | refine pu_sne ?_)
    rw [wrap64_in (by omega) (by omega)]
    refine ⟨⟨n + 1, v', S', rfl, hlt, ?_, ?_⟩, by simp; omega⟩
    · exact h10.sub (by simpa using ((List.Sublist.refl (S ++ (S' ++ (b, iO i) :: H))).cons _).trans (List.sublist_append_right Sf _))
    · have e1 : i.op.toNat :: ((nmd i.op).take n ++ [p]).flatMap (partB i) = (i.op.toNat :: ((nmd i.op).take n).flatMap (partB i)) ++ partB i p := by simp
      rw [htk, e1, List.length_append, ← bv_app]
      rw [List.length_map] at ho'
      exact ho'
  · obtain rfl : n = (nmd i.op).length := by simp at hlt; omega
    rw [List.take_length] at ho
    exact k S1 v1 _ (h5.sub (((List.Sublist.refl S1).append ((List.Sublist.refl H).cons _)).trans (List.sublist_append_right S _))) ho
end
end Go.Proofs.YtkkkcafkepnecaaGreat.Im

/-! Instructions: read. -/
set_option linter.unusedVariables false
set_option linter.unusedSimpArgs false
set_option linter.unnecessarySimpa false
namespace Go.Proofs.YtkkkcafkepnecaaGreat.Im
open Go Go.RowKit Vc Oc Dg
attribute [local irreducible] binV Op.unary convert nlW faW ldS ldW ixS ixA ixV ixT exW lnS lnT pu stW alW opW opU bsW mkW

section
variable {B w : World} {H : Hp} {K : Value → World → Prop} {PK : List PanicEntry → World → Prop}
theorem imust_t {x : Value} (k : K (.tuple #[]) w) : callW PG N.instr_must [vB true, x] K PK w := by
  refine instr_must.ok ?_
  unfold instr_must.C
  repeat (first | refine pu_not ?_ | refine pu_eql ?_ | refine pu_neq ?_ | refine pu_lss ?_ | refine pu_leq ?_ | refine pu_gtr ?_ | refine pu_geq ?_ | refine pu_add ?_ | refine pu_sub ?_ | refine fa_at ?_ | refine nl_ptr ?_ | refine ex20 ?_ | refine ex21 ?_ | refine ex30 ?_ | refine ex31 ?_ | refine ex32 ?_ | refine ln_rule ?_ | refine pu_seq ?_ | refine pu_sne ?_)
  exact cnd_f rfl k
theorem imust_f {e : Int} (k : PK (pan e) w) : callW PG N.instr_must [vB false, vI e] K PK w := by
  refine instr_must.ok ?_
  unfold instr_must.C
  repeat (first | refine pu_not ?_ | refine pu_eql ?_ | refine pu_neq ?_ | refine pu_lss ?_ | refine pu_leq ?_ | refine pu_gtr ?_ | refine pu_geq ?_ | refine pu_add ?_ | refine pu_sub ?_ | refine fa_at ?_ | refine nl_ptr ?_ | refine ex20 ?_ | refine ex21 ?_ | refine ex30 ?_ | refine ex31 ?_ | refine ex32 ?_ | refine ln_rule ?_ | refine pu_seq ?_ | refine pu_sne ?_)
  exact cnd_t rfl k
/-- A reader's row. -/
abbrev irO (s : Value) (a : Nat) : Obj := cel [s, vI a] T.t_instr_reader
theorem ileft_spec {s : Value} {l : List Nat} {a wd : Nat} {X : Hp} (hs : Sl X s (bv l)) (hl : l.length < 2 ^ 60) (ha : a < 2 ^ 60) (hw : wd < 2 ^ 60) (h : Ow B w H) (k : ∀ w', Ow B w' H → K (vB (decide (a + wd ≤ l.length))) w') : callW PG N.instr_tape_left [.agg #[s], vI a, vI wd] K PK w := by
  refine instr_tape_left.ok ?_
  unfold instr_tape_left.C
  obtain ⟨p, c, rfl, hc⟩ := Sl.cap hs
  refine al_rule h (l := [.slice p (bv l).length c]) rfl (fun b w1 h1 => ?_)
  repeat (first | refine pu_not ?_ | refine pu_eql ?_ | refine pu_neq ?_ | refine pu_lss ?_ | refine pu_leq ?_ | refine pu_gtr ?_ | refine pu_geq ?_ | refine pu_add ?_ | refine pu_sub ?_ | refine fa_at ?_ | refine nl_ptr ?_ | refine ex20 ?_ | refine ex21 ?_ | refine ex30 ?_ | refine ex31 ?_ | refine ex32 ?_ | refine ln_rule ?_ | refine pu_seq ?_ | refine pu_sne ?_)
  refine ld_here h1 (.head _) (v := .slice p (bv l).length c) rfl ?_
  repeat (first | refine pu_not ?_ | refine pu_eql ?_ | refine pu_neq ?_ | refine pu_lss ?_ | refine pu_leq ?_ | refine pu_gtr ?_ | refine pu_geq ?_ | refine pu_add ?_ | refine pu_sub ?_ | refine fa_at ?_ | refine nl_ptr ?_ | refine ex20 ?_ | refine ex21 ?_ | refine ex30 ?_ | refine ex31 ?_ | refine ex32 ?_ | refine ln_rule ?_ | refine pu_seq ?_ | refine pu_sne ?_)
  have hb : (bv l).length = l.length := by simp
  rw [wrap64_in (by omega) (by omega)]
  have e : decide (((bv l).length : Int) - a ≥ wd) = decide (a + wd ≤ l.length) := by
    rw [hb]; congr 1; apply propext; omega
  rw [e]
  exact k _ h1.drop
theorem bv_drop (l : List Nat) (a : Nat) : ((bv l).take l.length).drop a = bv (l.drop a) := by
  rw [List.take_of_length_le (by simp), ← List.map_drop]
theorem byt_drop {l : List Nat} (hb : Byt l) (a : Nat) : Byt (l.drop a) := fun x hx => hb x (List.mem_of_mem_drop hx)
theorem byt_take {l : List Nat} (hb : Byt l) (a : Nat) : Byt (l.take a) := fun x hx => hb x (List.mem_of_mem_take hx)
/-- The next number. -/
theorem inum_spec {A C X : Hp} {b : Nat} {s : Value} {l : List Nat} {a wd : Nat} (hs : Sl X s (bv l)) (hX : ∀ x, x ∈ X → x ∈ A ++ C) (hb : Byt l) (hl : l.length < 2 ^ 60) (ha : a ≤ l.length) (hw : right wd = true) (h : Ow B w (A ++ (b, irO s a) :: C))
    (k : ∀ w', a + wd ≤ l.length → Ow B w' (A ++ (b, irO s (a + wd)) :: C) → K (v64 (val ((l.drop a).take wd))) w') (pk : ∀ w', ¬ (a + wd ≤ l.length) → Ow B w' (A ++ (b, irO s a) :: C) → PK (pan 110) w') : callW PG N.instr_reader_number [ptr b, vI wd] K PK w := by
  refine instr_reader_number.ok ?_
  unfold instr_reader_number.C
  have hw8 : wd ≤ 8 := by rcases right_cases hw with h | h | h | h <;> omega
  refine ⟨fun w => Ow B w (A ++ (b, irO s a) :: C), h.drew, ?_⟩
  repeat (first | refine pu_not ?_ | refine pu_eql ?_ | refine pu_neq ?_ | refine pu_lss ?_ | refine pu_leq ?_ | refine pu_gtr ?_ | refine pu_geq ?_ | refine pu_add ?_ | refine pu_sub ?_ | refine fa_at ?_ | refine nl_ptr ?_ | refine ex20 ?_ | refine ex21 ?_ | refine ex30 ?_ | refine ex31 ?_ | refine ex32 ?_ | refine ln_rule ?_ | refine pu_seq ?_ | refine pu_sne ?_)
  refine ldsn_here (fun w h => h) (List.mem_append_right _ (.head _)) (vs := [s]) rfl rfl ?_
  repeat (first | refine pu_not ?_ | refine pu_eql ?_ | refine pu_neq ?_ | refine pu_lss ?_ | refine pu_leq ?_ | refine pu_gtr ?_ | refine pu_geq ?_ | refine pu_add ?_ | refine pu_sub ?_ | refine fa_at ?_ | refine nl_ptr ?_ | refine ex20 ?_ | refine ex21 ?_ | refine ex30 ?_ | refine ex31 ?_ | refine ex32 ?_ | refine ln_rule ?_ | refine pu_seq ?_ | refine pu_sne ?_)
  refine lds_here (fun w h => h) (List.mem_append_right _ (.head _)) (v := vI a) rfl ?_
  refine ileft_spec hs hl (by omega) (by omega) h.drew (fun w1 h1 => ?_)
  by_cases hlt : a + wd ≤ l.length
  · rw [decide_eq_true hlt]
    refine imust_t ?_
    refine ⟨fun w => Ow B w (A ++ (b, irO s a) :: C), h1.drew, ?_⟩
    repeat (first | refine pu_not ?_ | refine pu_eql ?_ | refine pu_neq ?_ | refine pu_lss ?_ | refine pu_leq ?_ | refine pu_gtr ?_ | refine pu_geq ?_ | refine pu_add ?_ | refine pu_sub ?_ | refine fa_at ?_ | refine nl_ptr ?_ | refine ex20 ?_ | refine ex21 ?_ | refine ex30 ?_ | refine ex31 ?_ | refine ex32 ?_ | refine ln_rule ?_ | refine pu_seq ?_ | refine pu_sne ?_)
    refine lds_here (fun w h => h) (List.mem_append_right _ (.head _)) (v := s) rfl ?_
    repeat (first | refine pu_not ?_ | refine pu_eql ?_ | refine pu_neq ?_ | refine pu_lss ?_ | refine pu_leq ?_ | refine pu_gtr ?_ | refine pu_geq ?_ | refine pu_add ?_ | refine pu_sub ?_ | refine fa_at ?_ | refine nl_ptr ?_ | refine ex20 ?_ | refine ex21 ?_ | refine ex30 ?_ | refine ex31 ?_ | refine ex32 ?_ | refine ln_rule ?_ | refine pu_seq ?_ | refine pu_sne ?_)
    refine lds_here (fun w h => h) (List.mem_append_right _ (.head _)) (v := vI a) rfl ?_
    refine cutL hs (by omega) (by simp; omega) (fun c hc => ?_)
    have hs' : Sl (A ++ (b, irO s a) :: C) s (bv l) := hs.mono fun x hx => (List.mem_append.1 (hX x hx)).elim (fun h => List.mem_append_left _ h) (fun h => List.mem_append_right _ (.tail _ h))
    have hcut := sl_cut (l := a) (h := l.length) (m := c) hs' ha (by simp) (by simpa using hc)
    rw [bv_drop] at hcut
    have hn : (bv l).length = l.length := by simp
    rw [Int.toNat_natCast, hn]
    refine readFixed_spec h1.drew hcut (byt_drop hb a) (by rw [List.length_drop]; omega) (fun w2 h2 => ?_)
    have e : rfR (l.drop a) wd = (val ((l.drop a).take wd), 0) := by
      unfold rfR
      rw [if_neg (by rw [hw]; simp), Int.toNat_natCast, if_neg (by rw [List.length_drop]; omega)]
    rw [e]
    repeat (first | refine pu_not ?_ | refine pu_eql ?_ | refine pu_neq ?_ | refine pu_lss ?_ | refine pu_leq ?_ | refine pu_gtr ?_ | refine pu_geq ?_ | refine pu_add ?_ | refine pu_sub ?_ | refine fa_at ?_ | refine nl_ptr ?_ | refine ex20 ?_ | refine ex21 ?_ | refine ex30 ?_ | refine ex31 ?_ | refine ex32 ?_ | refine ln_rule ?_ | refine pu_seq ?_ | refine pu_sne ?_)
    refine ld_here h2 (List.mem_append_right _ (.head _)) (v := vI a) rfl ?_
    repeat (first | refine pu_not ?_ | refine pu_eql ?_ | refine pu_neq ?_ | refine pu_lss ?_ | refine pu_leq ?_ | refine pu_gtr ?_ | refine pu_geq ?_ | refine pu_add ?_ | refine pu_sub ?_ | refine fa_at ?_ | refine nl_ptr ?_ | refine ex20 ?_ | refine ex21 ?_ | refine ex30 ?_ | refine ex31 ?_ | refine ex32 ?_ | refine ln_rule ?_ | refine pu_seq ?_ | refine pu_sne ?_)
    rw [wrap64_in (by omega) (by omega)]
    refine st1_here h2 rfl rfl (by simp) (fun w3 h3 => ?_)
    exact k _ hlt h3
  · rw [decide_eq_false hlt]
    exact imust_f fun s => pk _ hlt h1
/-- An instruction's parts, read. -/
def rdP (l : List Nat) : List Pk → Ins → Nat → Option (Ins × Nat)
  | [], x, a => some (x, a)
  | p :: ps, x, a => if a + pw p ≤ l.length then rdP l ps (p.put x (val ((l.drop a).take (pw p)) : Nat)) (a + pw p) else none
/-- An instruction, how many bytes, an error. -/
def insR (l : List Nat) : Ins × Nat × Int :=
  if ¬ (1 ≤ l.length) then (bare 0, 0, 110) else
  if ¬ (1 ≤ val (l.take 1) ∧ val (l.take 1) ≤ 19) then (bare 0, 0, 180) else
  match rdP l (nmd (val (l.take 1) : Nat)) (bare (val (l.take 1) : Nat)) 1 with
  | none => (bare 0, 0, 110)
  | some (x, a) => if okI x = true then (x, a, 0) else (bare 0, 0, 180)
abbrev erO (e : Int) : Obj := cel [vI e] T.t_api_Errno
abbrev inO (e : Int) : Obj := cel [vI e] T.t_int
theorem iread_pan {b2 b4 b6 : Nat} {x : Ins} {m e : Int} {A : Hp} {Y : Ending → World → Prop} (h : Ow B w (A ++ (b6, erO 0) :: (b4, inO m) :: (b2, iO x) :: H)) (k : ∀ w', Ow B w' H → K (.tuple #[.agg (bare 0).cells.toArray, vI 0, vI e]) w') :
    LvW PG (dfr N.instr_caught [ptr b6, .func (.func N.instr_Read_1) #[] #[ptr b2, ptr b4]] :: []) (.panicking (pan e)) w (endV (fun w => ldW (some 5) (ptr b2) w fun t75 => ldW none (ptr b4) w fun t76 => ldW none (ptr b6) w fun t77 => K (.tuple #[t75, t76, t77]) w) Y) := by
  refine instr_lv_pan (B := B) (A := A) (C := (b4, inO 0) :: (b2, iO (bare 0)) :: H) (u := vI 0) (fun K' hK => ?_) (fun w1 h1 => ?_)
  · refine callV_fn instr_Read_1.okf (instr_Read_1.ok ?_)
    unfold instr_Read_1.C
    refine pu_build (bare 0).cells (by kernel_rfl) ?_
    have h1 : Ow B w ((A ++ (b6, erO 0) :: [(b4, inO m)]) ++ (b2, iO x) :: H) := by simpa using h
    refine st_here h1 (bare 0).cells rfl rfl (ins_plain _) (by simp [Ins.cells]) (fun w2 h2 => ?_)
    have e3 : x.cells.take 0 ++ (bare 0).cells ++ x.cells.drop (0 + 5) = (bare 0).cells := rfl
    rw [e3] at h2
    have h3 : Ow B w2 ((A ++ [(b6, erO 0)]) ++ (b4, inO m) :: (b2, iO (bare 0)) :: H) := by simpa using h2
    refine st1_here h3 rfl rfl (by simp) (fun w3 h4 => ?_)
    exact hK _ _ (by simpa using h4)
  · refine ldn_here h1 (List.mem_append_right _ (.tail _ (.tail _ (.head _)))) (vs := (bare 0).cells) rfl rfl ?_
    refine ld_here h1 (List.mem_append_right _ (.tail _ (.head _))) (v := vI 0) rfl ?_
    refine ld_here h1 (List.mem_append_right _ (.head _)) (v := vI e) rfl ?_
    exact k _ (h1.sub ((((List.Sublist.refl H).cons _).cons _).cons _ |>.trans (List.sublist_append_right A _)))
theorem imm_put {p : Pk} {x : Ins} {v : Int} (hx : 0 ≤ x.imm ∧ x.imm < 4294967296) (h0 : 0 ≤ v) (h1 : v < 4294967296) : 0 ≤ (p.put x v).imm ∧ (p.put x v).imm < 4294967296 := by
  cases p <;> first | exact hx | exact ⟨h0, h1⟩
theorem val_small {l : List Nat} (hb : Byt l) {n : Nat} (hn : n ≤ 4) (a : Nat) : val ((l.drop a).take n) < 4294967296 := by
  have h1 := val_lt _ (byt_take (byt_drop hb a) n)
  have h2 : ((l.drop a).take n).length ≤ 4 := by rw [List.length_take]; omega
  have h3 : 256 ^ ((l.drop a).take n).length ≤ 256 ^ 4 := Nat.pow_le_pow_right (by omega) h2
  omega
theorem iread_spec {X : Hp} {s : Value} {l : List Nat} (hs : Sl X s (bv l)) (hX : ∀ x, x ∈ X → x ∈ H) (hb : Byt l) (hl : l.length < 2 ^ 60) (h : Ow B w H)
    (k : ∀ w', Ow B w' H → K (.tuple #[.agg (insR l).1.cells.toArray, vI (insR l).2.1, vI (insR l).2.2]) w') : callW PG N.instr_Read [s] K PK w := by
  refine instr_Read.ok ?_
  unfold instr_Read.C
  obtain ⟨ad, cp, rfl, hcp⟩ := Sl.cap hs
  generalize hsv : Value.slice ad (bv l).length cp = s at *
  refine al_rule h (l := (bare 0).cells) (by kernel_rfl) (fun b2 w1 h1 => ?_)
  refine al_rule h1 (l := [vI 0]) (by kernel_rfl) (fun b4 w2 h2 => ?_)
  refine al_rule h2 (l := [vI 0]) (by kernel_rfl) (fun b6 w3 h3 => ?_)
  refine pu_build [s] (by subst hsv; kernel_rfl) ?_
  refine pu_build [s, vI 0] (by subst hsv; kernel_rfl) ?_
  refine al_rule h3 (l := [s, vI 0]) rfl (fun b12 w4 h4 => ?_)
  have two : ∀ (Y : Hp) (o : Ins) x, x ∈ X → x ∈ Y ++ ((b6, erO 0) :: (b4, inO 0) :: (b2, iO o) :: H) := fun Y o x hx => List.mem_append_right _ (.tail _ (.tail _ (.tail _ (hX x hx))))
  refine inum_spec (A := []) (a := 0) (wd := 1) hs (two [] _) hb hl (Nat.zero_le _) rfl h4 (fun w5 hlt h5 => ?_) (fun w5 hlt h5 => ?_)
  case refine_2 =>
    have e : insR l = (bare 0, 0, 110) := by unfold insR; rw [if_pos (by omega)]
    rw [e] at k
    exact iread_pan (A := [_]) h5 k
  have hl1 : 1 ≤ l.length := by omega
  simp only [List.drop_zero, Nat.zero_add, List.nil_append] at h5 ⊢
  have hv1 : val (l.take 1) < 4294967296 := val_small hb (n := 1) (by omega) 0
  refine cvt (by kernel_rfl) und_op (m := (val (l.take 1) : Int)) (by rw [wrap64_in (by omega) (by omega)]) ?_
  generalize hop : val (l.take 1) = op at *
  repeat (first | refine pu_not ?_ | refine pu_eql ?_ | refine pu_neq ?_ | refine pu_lss ?_ | refine pu_leq ?_ | refine pu_gtr ?_ | refine pu_geq ?_ | refine pu_add ?_ | refine pu_sub ?_ | refine fa_at ?_ | refine nl_ptr ?_ | refine ex20 ?_ | refine ex21 ?_ | refine ex30 ?_ | refine ex31 ?_ | refine ex32 ?_ | refine ln_rule ?_ | refine pu_seq ?_ | refine pu_sne ?_)
  refine st1_here (A := [(b12, irO s 1), (b6, erO 0), (b4, inO 0)]) h5 rfl rfl (by simp [Ins.cells, bare]) (fun w6 h6 => ?_)
  have h6 : Ow B w6 ((b12, irO s 1) :: (b6, erO 0) :: (b4, inO 0) :: (b2, iO (bare op)) :: H) := h6
  repeat (first | refine pu_not ?_ | refine pu_eql ?_ | refine pu_neq ?_ | refine pu_lss ?_ | refine pu_leq ?_ | refine pu_gtr ?_ | refine pu_geq ?_ | refine pu_add ?_ | refine pu_sub ?_ | refine fa_at ?_ | refine nl_ptr ?_ | refine ex20 ?_ | refine ex21 ?_ | refine ex30 ?_ | refine ex31 ?_ | refine ex32 ?_ | refine ln_rule ?_ | refine pu_seq ?_ | refine pu_sne ?_)
  refine ld_here h6 (.tail _ (.tail _ (.tail _ (.head _)))) (v := vI op) rfl ?_
  refine instr_is.ok ?_
  unfold instr_is.C
  repeat (first | refine pu_not ?_ | refine pu_eql ?_ | refine pu_neq ?_ | refine pu_lss ?_ | refine pu_leq ?_ | refine pu_gtr ?_ | refine pu_geq ?_ | refine pu_add ?_ | refine pu_sub ?_ | refine fa_at ?_ | refine nl_ptr ?_ | refine ex20 ?_ | refine ex21 ?_ | refine ex30 ?_ | refine ex31 ?_ | refine ex32 ?_ | refine ln_rule ?_ | refine pu_seq ?_ | refine pu_sne ?_)
  have isop : ∀ KK : Value → World → Prop, KK (vB (decide (1 ≤ op ∧ op ≤ 19))) w6 → condV (vB (decide ((op : Int) ≥ 1))) (pu PG (binV .leq T.t_api_Op true (vI op) (.int .i64 19)) fun t4 => KK t4 w6) (KK (.bool false) w6) := fun KK kk => by
    refine cnd (fun hq => ?_) (fun hq => ?_)
    · refine pu_leq ?_
      have : decide ((op : Int) ≤ 19) = decide (1 ≤ op ∧ op ≤ 19) := by simp at hq; congr 1; apply propext; omega
      rw [this]; exact kk
    · have : decide (1 ≤ op ∧ op ≤ 19) = false := by simp at hq; simp; omega
      rw [this] at kk; exact kk
  refine isop (fun v w => callW PG N.instr_must [v, vI 180] _ _ w) ?_
  by_cases hok : 1 ≤ op ∧ op ≤ 19
  case neg =>
    rw [decide_eq_false hok]
    have e : insR l = (bare 0, 0, 180) := by unfold insR; rw [if_neg (by omega), hop, if_pos hok]
    rw [e] at k
    exact imust_f (iread_pan (A := [_]) h6 k)
  rw [decide_eq_true hok]
  refine imust_t ?_
  have hR : insR l = match rdP l (nmd op) (bare op) 1 with
      | none => (bare 0, 0, 110)
      | some (x, a) => if okI x = true then (x, a, 0) else (bare 0, 0, 180) := by
    unfold insR; rw [if_neg (by omega), hop, if_neg (by simpa using hok)]
  clear isop
  repeat (first | refine pu_not ?_ | refine pu_eql ?_ | refine pu_neq ?_ | refine pu_lss ?_ | refine pu_leq ?_ | refine pu_gtr ?_ | refine pu_geq ?_ | refine pu_add ?_ | refine pu_sub ?_ | refine fa_at ?_ | refine nl_ptr ?_ | refine ex20 ?_ | refine ex21 ?_ | refine ex30 ?_ | refine ex31 ?_ | refine ex32 ?_ | refine ln_rule ?_ | refine pu_seq ?_ | refine pu_sne ?_)
  refine ld_here h6 (.tail _ (.tail _ (.tail _ (.head _)))) (v := vI op) rfl ?_
  refine named_spec h6 (fun S v w7 h7 hsv7 => ?_)
  refine sls_ln hsv7 ?_
  rw [prow_len]
  have hl4 := nmd_len op
  generalize hps : nmd (op : Int) = ps at *
  refine ⟨fun l' w => ∃ (n : Nat) (x : Ins) (a : Nat), l' = [vI n] ∧ n ≤ ps.length ∧ a ≤ l.length ∧ (0 ≤ x.imm ∧ x.imm < 4294967296) ∧ rdP l ps (bare op) 1 = rdP l (ps.drop n) x a ∧ Ow B w (S ++ (b12, irO s a) :: (b6, erO 0) :: (b4, inO 0) :: (b2, iO x) :: H),
    fun l' _ => match l' with | [.int _ q] => ps.length - q.toNat | _ => 0, ⟨0, bare op, 1, rfl, Nat.zero_le _, hl1, by simp [bare], rfl, h7⟩, ?_⟩
  clear h7 h6 h5 h4 h3 h2 h1
  rintro l' w8 ⟨n, x, a, rfl, hn, ha, hxi, hrd, h8⟩ j
  simp only [gv, List.getD_cons_zero, List.getD_cons_succ]
  repeat (first | refine pu_not ?_ | refine pu_eql ?_ | refine pu_neq ?_ | refine pu_lss ?_ | refine pu_leq ?_ | refine pu_gtr ?_ | refine pu_geq ?_ | refine pu_add ?_ | refine pu_sub ?_ | refine fa_at ?_ | refine nl_ptr ?_ | refine ex20 ?_ | refine ex21 ?_ | refine ex30 ?_ | refine ex31 ?_ | refine ex32 ?_ | refine ln_rule ?_ | refine pu_seq ?_ | refine pu_sne ?_)
  refine cnd (fun hlt => ?_) (fun hlt => ?_)
  · have hlt : n < ps.length := by simpa using hlt
    refine sls_ld h8 (hsv7.mono fun x hx => List.mem_append_left _ hx) (by omega) (by rw [Int.toNat_natCast]; exact pk_at hlt) ?_
    rw [List.drop_eq_getElem_cons hlt] at hrd
    generalize ps[n] = p at hrd
    refine al_rule h8 (l := zpart) (by kernel_rfl) (fun b3 w9 h9 => ?_)
    refine st_here (A := []) h9 p.cells rfl (by cases p <;> rfl) (pk_plain _) (by simp) (fun w10 h10 => ?_)
    simp only [List.take_zero, List.nil_append, Nat.zero_add, List.drop_succ_cons, List.drop_zero, List.drop_nil, List.append_nil] at h10
    refine ⟨fun w => Ow B w [(b3, cel p.cells T.t_instr_part)], h10.drew.sub (List.Sublist.cons_cons _ (List.nil_sublist _)), ?_⟩
    repeat (first | refine pu_not ?_ | refine pu_eql ?_ | refine pu_neq ?_ | refine pu_lss ?_ | refine pu_leq ?_ | refine pu_gtr ?_ | refine pu_geq ?_ | refine pu_add ?_ | refine pu_sub ?_ | refine fa_at ?_ | refine nl_ptr ?_ | refine ex20 ?_ | refine ex21 ?_ | refine ex30 ?_ | refine ex31 ?_ | refine ex32 ?_ | refine ln_rule ?_ | refine pu_seq ?_ | refine pu_sne ?_)
    refine lds_here (fun w h => h) (.head _) (v := fnc p.fp #[]) (by cases p <;> rfl) ?_
    repeat (first | refine pu_not ?_ | refine pu_eql ?_ | refine pu_neq ?_ | refine pu_lss ?_ | refine pu_leq ?_ | refine pu_gtr ?_ | refine pu_geq ?_ | refine pu_add ?_ | refine pu_sub ?_ | refine fa_at ?_ | refine nl_ptr ?_ | refine ex20 ?_ | refine ex21 ?_ | refine ex30 ?_ | refine ex31 ?_ | refine ex32 ?_ | refine ln_rule ?_ | refine pu_seq ?_ | refine pu_sne ?_)
    refine lds_here (fun w h => h) (.head _) (v := vI (pw p)) (pw_cell p) ?_
    refine inum_spec (A := (b3, cel p.cells T.t_instr_part) :: S) hs (two _ _) hb hl ha (pw_right p) h10.drew (fun w11 hlt2 h11 => ?_) (fun w11 hlt2 h11 => ?_)
    · refine ⟨h11.sub (List.Sublist.cons_cons _ (List.nil_sublist _)), ?_⟩
      have hvs := val_small hb (pw_pos p).2 a
      have h11 : Ow B w11 (((b3, cel p.cells T.t_instr_part) :: S ++ [(b12, irO s (a + pw p)), (b6, erO 0), (b4, inO 0)]) ++ (b2, iO x) :: H) := by simpa using h11
      refine put_call (v := ((val ((l.drop a).take (pw p)) : Nat) : Int)) p (by omega) (by omega) h11 (fun w12 r h12 => ?_)
      repeat (first | refine pu_not ?_ | refine pu_eql ?_ | refine pu_neq ?_ | refine pu_lss ?_ | refine pu_leq ?_ | refine pu_gtr ?_ | refine pu_geq ?_ | refine pu_add ?_ | refine pu_sub ?_ | refine fa_at ?_ | refine nl_ptr ?_ | refine ex20 ?_ | refine ex21 ?_ | refine ex30 ?_ | refine ex31 ?_ | refine ex32 ?_ | refine ln_rule ?_ | refine pu_seq ?_ | refine pu_sne ?_)
      rw [wrap64_in (by omega) (by omega)]
      refine ⟨⟨n + 1, p.put x ((val ((l.drop a).take (pw p)) : Nat) : Int), a + pw p, rfl, hlt, hlt2, imm_put hxi (by omega) (by omega), ?_, ?_⟩, by simp; omega⟩
      · rw [hrd]
        conv => lhs; unfold rdP
        rw [if_pos hlt2]
      · have := h12.drop; simpa using this
    · intro s'
      have e : insR l = (bare 0, 0, 110) := by
        rw [hR, hrd]; unfold rdP; rw [if_neg hlt2]
      rw [e] at k
      refine iread_pan (A := ((b3, cel p.cells T.t_instr_part) :: S) ++ [(b12, irO s a)]) (by simpa using h11) k
  · obtain rfl : n = ps.length := by simp at hlt; omega
    rw [List.drop_length] at hrd
    have e : rdP l [] x a = some (x, a) := rfl
    rw [hrd, e] at hR
    simp only at hR
    refine ldn_here h8 (List.mem_append_right _ (.tail _ (.tail _ (.tail _ (.head _))))) (vs := x.cells) rfl rfl ?_
    refine Go.Proofs.YtkkkcafkepnecaaGreat.right_spec hxi h8 (fun w9 h9 => ?_)
    by_cases hx : okI x = true
    · rw [if_pos hx] at hR
      rw [hR] at k
      rw [hx]
      refine imust_t ?_
      refine ⟨fun w => Ow B w (S ++ (b12, irO s a) :: (b6, erO 0) :: (b4, inO 0) :: (b2, iO x) :: H), h9.drew, ?_⟩
      refine ldsn_here (fun w h => h) (List.mem_append_right _ (.tail _ (.tail _ (.tail _ (.head _))))) (vs := x.cells) rfl rfl ?_
      repeat (first | refine pu_not ?_ | refine pu_eql ?_ | refine pu_neq ?_ | refine pu_lss ?_ | refine pu_leq ?_ | refine pu_gtr ?_ | refine pu_geq ?_ | refine pu_add ?_ | refine pu_sub ?_ | refine fa_at ?_ | refine nl_ptr ?_ | refine ex20 ?_ | refine ex21 ?_ | refine ex30 ?_ | refine ex31 ?_ | refine ex32 ?_ | refine ln_rule ?_ | refine pu_seq ?_ | refine pu_sne ?_)
      refine lds_here (fun w h => h) (List.mem_append_right _ (.head _)) (v := vI a) rfl ?_
      have h10 : Ow B w9.drew ((S ++ [(b12, irO s a), (b6, erO 0), (b4, inO 0)]) ++ (b2, iO x) :: H) := by simpa using h9.drew
      refine st_here h10 x.cells rfl rfl (ins_plain _) (by simp [Ins.cells]) (fun w11 h11 => ?_)
      have e3 : x.cells.take 0 ++ x.cells ++ x.cells.drop (0 + 5) = x.cells := rfl
      rw [e3] at h11
      have h11 : Ow B w11 ((S ++ [(b12, irO s a), (b6, erO 0)]) ++ (b4, inO 0) :: (b2, iO x) :: H) := by simpa using h11
      refine st1_here h11 rfl rfl (by simp) (fun w12 h12 => ?_)
      have h12 : Ow B w12 ((S ++ [(b12, irO s a)]) ++ (b6, erO 0) :: (b4, inO a) :: (b2, iO x) :: H) := by simpa using h12
      refine st1_here h12 rfl rfl (by simp) (fun w13 h13 => ?_)
      have h13 : Ow B w13 ((S ++ [(b12, irO s a)]) ++ (b6, erO 0) :: (b4, inO a) :: (b2, iO x) :: H) := by simpa using h13
      refine instr_lv_ret ?_
      refine ldn_here h13 (List.mem_append_right _ (.tail _ (.tail _ (.head _)))) (vs := x.cells) rfl rfl ?_
      refine ld_here h13 (List.mem_append_right _ (.tail _ (.head _))) (v := vI a) rfl ?_
      refine ld_here h13 (List.mem_append_right _ (.head _)) (v := vI 0) rfl ?_
      exact k _ (h13.sub ((((List.Sublist.refl H).cons _).cons _).cons _ |>.trans (List.sublist_append_right _ _)))
    · have hx : okI x = false := by simpa using hx
      rw [hx] at hR ⊢
      simp only [if_neg Bool.false_ne_true] at hR
      rw [hR] at k
      exact imust_f (iread_pan (A := S ++ [(b12, irO s a)]) (by simpa using h9) k)
end
end Go.Proofs.YtkkkcafkepnecaaGreat.Im

/-! Images: what is read, piece by piece. -/
set_option linter.unusedVariables false
set_option linter.unusedSimpArgs false
set_option linter.unnecessarySimpa false
namespace Go.Proofs.YtkkkcafkepnecaaGreat.Im
open Go Go.RowKit Vc Oc Dg
attribute [local irreducible] binV Op.unary convert nlW faW ldS ldW ixS ixA ixV ixT exW lnS lnT pu stW alW opW opU bsW mkW

section
variable {B w : World} {H : Hp} {K : Value → World → Prop} {PK : List PanicEntry → World → Prop}
theorem must_t {x : Value} (k : K (.tuple #[]) w) : callW PG N.image_must [vB true, x] K PK w := by
  refine image_must.ok ?_
  unfold image_must.C
  repeat (first | refine pu_not ?_ | refine pu_eql ?_ | refine pu_neq ?_ | refine pu_lss ?_ | refine pu_leq ?_ | refine pu_gtr ?_ | refine pu_geq ?_ | refine pu_add ?_ | refine pu_sub ?_ | refine fa_at ?_ | refine nl_ptr ?_ | refine ex20 ?_ | refine ex21 ?_ | refine ex30 ?_ | refine ex31 ?_ | refine ex32 ?_ | refine ln_rule ?_ | refine pu_seq ?_ | refine pu_sne ?_)
  exact cnd_f rfl k
theorem must_f {e : Int} (k : PK (pan e) w) : callW PG N.image_must [vB false, vI e] K PK w := by
  refine image_must.ok ?_
  unfold image_must.C
  repeat (first | refine pu_not ?_ | refine pu_eql ?_ | refine pu_neq ?_ | refine pu_lss ?_ | refine pu_leq ?_ | refine pu_gtr ?_ | refine pu_geq ?_ | refine pu_add ?_ | refine pu_sub ?_ | refine fa_at ?_ | refine nl_ptr ?_ | refine ex20 ?_ | refine ex21 ?_ | refine ex30 ?_ | refine ex31 ?_ | refine ex32 ?_ | refine ln_rule ?_ | refine pu_seq ?_ | refine pu_sne ?_)
  exact cnd_t rfl k
theorem begins_spec (h : Ow B w H) (k : ∀ w', Ow B w' H → K (.agg #[v8 108, v8 105, v8 110, v8 101]) w') : callW PG N.image_begins [] K PK w := by
  refine image_begins.ok ?_
  unfold image_begins.C
  refine al_rule h (l := [v8 0, v8 0, v8 0, v8 0]) (by kernel_rfl) (fun b w1 h1 => ?_)
  refine pu_build [v8 108, v8 105, v8 110, v8 101] (by kernel_rfl) ?_
  refine st_here (A := []) h1 [v8 108, v8 105, v8 110, v8 101] rfl rfl rfl (by simp) (fun w2 h2 => ?_)
  simp only [List.take_zero, List.nil_append, Nat.zero_add, List.drop_succ_cons, List.drop_zero, List.drop_nil, List.append_nil] at h2
  refine ldn_here h2 (.head _) (vs := [v8 108, v8 105, v8 110, v8 101]) rfl rfl ?_
  exact k _ h2.drop
/-- A reader's row. -/
abbrev rO (s : Value) (a : Nat) : Obj := cel [s, vI a] T.t_image_reader
theorem from_spec {X : Hp} {s : Value} {l : List Nat} {a : Nat} (hs : Sl X s (bv l)) (ha : a ≤ l.length) (h : Ow B w H) (k : ∀ w', Ow B w' H → K (cut s a l.length l.length) w') : callW PG N.image_tape_from [.agg #[s], vI a] K PK w := by
  refine image_tape_from.ok ?_
  unfold image_tape_from.C
  obtain ⟨p, c, hse, hc⟩ := Sl.cap hs
  have hcs : (Value.agg #[s]).cells = [s].toArray := by subst hse; rfl
  refine al_rule h (l := [s]) hcs (fun b w1 h1 => ?_)
  repeat (first | refine pu_not ?_ | refine pu_eql ?_ | refine pu_neq ?_ | refine pu_lss ?_ | refine pu_leq ?_ | refine pu_gtr ?_ | refine pu_geq ?_ | refine pu_add ?_ | refine pu_sub ?_ | refine fa_at ?_ | refine nl_ptr ?_ | refine ex20 ?_ | refine ex21 ?_ | refine ex30 ?_ | refine ex31 ?_ | refine ex32 ?_ | refine ln_rule ?_ | refine pu_seq ?_ | refine pu_sne ?_)
  refine ld_here h1 (.head _) (v := s) rfl ?_
  repeat (first | refine pu_not ?_ | refine pu_eql ?_ | refine pu_neq ?_ | refine pu_lss ?_ | refine pu_leq ?_ | refine pu_gtr ?_ | refine pu_geq ?_ | refine pu_add ?_ | refine pu_sub ?_ | refine fa_at ?_ | refine nl_ptr ?_ | refine ex20 ?_ | refine ex21 ?_ | refine ex30 ?_ | refine ex31 ?_ | refine ex32 ?_ | refine ln_rule ?_ | refine pu_seq ?_ | refine pu_sne ?_)
  refine ld_here h1 (.head _) (v := s) rfl ?_
  refine sl_ln hs ?_
  repeat (first | refine pu_not ?_ | refine pu_eql ?_ | refine pu_neq ?_ | refine pu_lss ?_ | refine pu_leq ?_ | refine pu_gtr ?_ | refine pu_geq ?_ | refine pu_add ?_ | refine pu_sub ?_ | refine fa_at ?_ | refine nl_ptr ?_ | refine ex20 ?_ | refine ex21 ?_ | refine ex30 ?_ | refine ex31 ?_ | refine ex32 ?_ | refine ln_rule ?_ | refine pu_seq ?_ | refine pu_sne ?_)
  refine ld_here h1 (.head _) (v := s) rfl ?_
  refine sl_ln hs ?_
  have hb : (bv l).length = l.length := by simp
  refine cutLHM hs (by omega) (by omega) (by omega) (by omega) ?_
  rw [Int.toNat_natCast, Int.toNat_natCast, hb]
  exact k _ h1.drop
theorem sl_from {X : Hp} {s : Value} {l : List Nat} {a : Nat} (hs : Sl X s (bv l)) (ha : a ≤ l.length) : Sl X (cut s a l.length l.length) (bv (l.drop a)) := by
  have := sl_cut (l := a) (h := l.length) (m := l.length) hs ha (by simp) (Nat.le_refl _)
  rwa [bv_drop] at this
/-- The next number. -/
theorem rnum_spec {A C X : Hp} {b : Nat} {s : Value} {l : List Nat} {a wd : Nat} (hs : Sl X s (bv l)) (hX : ∀ x, x ∈ X → x ∈ A ++ C) (hb : Byt l) (hl : l.length < 2 ^ 60) (ha : a ≤ l.length) (hw : right wd = true) (h : Ow B w (A ++ (b, rO s a) :: C))
    (k : ∀ w', a + wd ≤ l.length → Ow B w' (A ++ (b, rO s (a + wd)) :: C) → K (v64 (val ((l.drop a).take wd))) w') (pk : ∀ w', ¬ (a + wd ≤ l.length) → Ow B w' (A ++ (b, rO s a) :: C) → PK (pan 110) w') : callW PG N.image_reader_number [ptr b, vI wd] K PK w := by
  refine image_reader_number.ok ?_
  unfold image_reader_number.C
  have hw8 : wd ≤ 8 := by rcases right_cases hw with h | h | h | h <;> omega
  refine ⟨fun w => Ow B w (A ++ (b, rO s a) :: C), h.drew, ?_⟩
  repeat (first | refine pu_not ?_ | refine pu_eql ?_ | refine pu_neq ?_ | refine pu_lss ?_ | refine pu_leq ?_ | refine pu_gtr ?_ | refine pu_geq ?_ | refine pu_add ?_ | refine pu_sub ?_ | refine fa_at ?_ | refine nl_ptr ?_ | refine ex20 ?_ | refine ex21 ?_ | refine ex30 ?_ | refine ex31 ?_ | refine ex32 ?_ | refine ln_rule ?_ | refine pu_seq ?_ | refine pu_sne ?_)
  refine ldsn_here (fun w h => h) (List.mem_append_right _ (.head _)) (vs := [s]) rfl rfl ?_
  repeat (first | refine pu_not ?_ | refine pu_eql ?_ | refine pu_neq ?_ | refine pu_lss ?_ | refine pu_leq ?_ | refine pu_gtr ?_ | refine pu_geq ?_ | refine pu_add ?_ | refine pu_sub ?_ | refine fa_at ?_ | refine nl_ptr ?_ | refine ex20 ?_ | refine ex21 ?_ | refine ex30 ?_ | refine ex31 ?_ | refine ex32 ?_ | refine ln_rule ?_ | refine pu_seq ?_ | refine pu_sne ?_)
  refine lds_here (fun w h => h) (List.mem_append_right _ (.head _)) (v := vI a) rfl ?_
  refine from_spec hs ha h.drew (fun w1 h1 => ?_)
  have hs' : Sl (A ++ (b, rO s a) :: C) s (bv l) := hs.mono fun x hx => (List.mem_append.1 (hX x hx)).elim (fun h => List.mem_append_left _ h) (fun h => List.mem_append_right _ (.tail _ h))
  refine readFixed_spec h1 (sl_from hs' ha) (byt_drop hb a) (by rw [List.length_drop]; omega) (fun w2 h2 => ?_)
  by_cases hlt : a + wd ≤ l.length
  · have e : rfR (l.drop a) wd = (val ((l.drop a).take wd), 0) := by
      unfold rfR
      rw [if_neg (by rw [hw]; simp), Int.toNat_natCast, if_neg (by rw [List.length_drop]; omega)]
    rw [e]
    repeat (first | refine pu_not ?_ | refine pu_eql ?_ | refine pu_neq ?_ | refine pu_lss ?_ | refine pu_leq ?_ | refine pu_gtr ?_ | refine pu_geq ?_ | refine pu_add ?_ | refine pu_sub ?_ | refine fa_at ?_ | refine nl_ptr ?_ | refine ex20 ?_ | refine ex21 ?_ | refine ex30 ?_ | refine ex31 ?_ | refine ex32 ?_ | refine ln_rule ?_ | refine pu_seq ?_ | refine pu_sne ?_)
    refine must_t ?_
    repeat (first | refine pu_not ?_ | refine pu_eql ?_ | refine pu_neq ?_ | refine pu_lss ?_ | refine pu_leq ?_ | refine pu_gtr ?_ | refine pu_geq ?_ | refine pu_add ?_ | refine pu_sub ?_ | refine fa_at ?_ | refine nl_ptr ?_ | refine ex20 ?_ | refine ex21 ?_ | refine ex30 ?_ | refine ex31 ?_ | refine ex32 ?_ | refine ln_rule ?_ | refine pu_seq ?_ | refine pu_sne ?_)
    refine ld_here h2 (List.mem_append_right _ (.head _)) (v := vI a) rfl ?_
    repeat (first | refine pu_not ?_ | refine pu_eql ?_ | refine pu_neq ?_ | refine pu_lss ?_ | refine pu_leq ?_ | refine pu_gtr ?_ | refine pu_geq ?_ | refine pu_add ?_ | refine pu_sub ?_ | refine fa_at ?_ | refine nl_ptr ?_ | refine ex20 ?_ | refine ex21 ?_ | refine ex30 ?_ | refine ex31 ?_ | refine ex32 ?_ | refine ln_rule ?_ | refine pu_seq ?_ | refine pu_sne ?_)
    rw [wrap64_in (by omega) (by omega)]
    refine st1_here h2 rfl rfl (by simp) (fun w3 h3 => ?_)
    exact k _ hlt h3
  · have e : rfR (l.drop a) wd = (0, 110) := by
      unfold rfR
      rw [if_neg (by rw [hw]; simp), Int.toNat_natCast, if_pos (by rw [List.length_drop]; omega)]
    rw [e]
    repeat (first | refine pu_not ?_ | refine pu_eql ?_ | refine pu_neq ?_ | refine pu_lss ?_ | refine pu_leq ?_ | refine pu_gtr ?_ | refine pu_geq ?_ | refine pu_add ?_ | refine pu_sub ?_ | refine fa_at ?_ | refine nl_ptr ?_ | refine ex20 ?_ | refine ex21 ?_ | refine ex30 ?_ | refine ex31 ?_ | refine ex32 ?_ | refine ln_rule ?_ | refine pu_seq ?_ | refine pu_sne ?_)
    exact must_f (pk _ hlt h2)
theorem val8 {l : List Nat} (hb : Byt l) (a : Nat) : val ((l.drop a).take 1) < 256 := by
  have h1 := val_lt _ (byt_take (byt_drop hb a) 1)
  have h2 : ((l.drop a).take 1).length ≤ 1 := by rw [List.length_take]; omega
  have h3 : 256 ^ ((l.drop a).take 1).length ≤ 256 ^ 1 := Nat.pow_le_pow_right (by omega) h2
  omega
theorem rbyte_spec {A C X : Hp} {b : Nat} {s : Value} {l : List Nat} {a : Nat} (hs : Sl X s (bv l)) (hX : ∀ x, x ∈ X → x ∈ A ++ C) (hb : Byt l) (hl : l.length < 2 ^ 60) (ha : a ≤ l.length) (h : Ow B w (A ++ (b, rO s a) :: C))
    (k : ∀ w', a + 1 ≤ l.length → Ow B w' (A ++ (b, rO s (a + 1)) :: C) → K (vI (val ((l.drop a).take 1))) w') (pk : ∀ w', ¬ (a + 1 ≤ l.length) → Ow B w' (A ++ (b, rO s a) :: C) → PK (pan 110) w') : callW PG N.image_reader_byte [ptr b] K PK w := by
  refine image_reader_byte.ok ?_
  unfold image_reader_byte.C
  refine rnum_spec (wd := 1) hs hX hb hl ha rfl h (fun w1 hlt h1 => ?_) (fun w1 hlt h1 => pk _ hlt h1)
  have := val8 hb a
  refine cvt_ui (by omega) ?_
  exact k _ hlt h1
theorem rdP_le {l : List Nat} : ∀ {ps : List Pk} {x : Ins} {a : Nat} {y : Ins} {m : Nat}, rdP l ps x a = some (y, m) → a ≤ l.length → m ≤ l.length ∧ a ≤ m
  | [], x, a, y, m, h, ha => by
    simp only [rdP, Option.some.injEq, Prod.mk.injEq] at h
    omega
  | p :: ps, x, a, y, m, h, ha => by
    unfold rdP at h
    split at h
    · rename_i hlt
      have := rdP_le h hlt
      omega
    · cases h
/-- What an instruction that is read is. -/
theorem insR_cases (l : List Nat) : ((insR l).2.2 = 0 ∧ okI (insR l).1 = true ∧ 1 ≤ (insR l).2.1 ∧ (insR l).2.1 ≤ l.length) ∨ insR l = (bare 0, 0, 110) ∨ insR l = (bare 0, 0, 180) := by
  unfold insR
  split
  · exact .inr (.inl rfl)
  · rename_i h1
    split
    · exact .inr (.inr rfl)
    · split
      · exact .inr (.inl rfl)
      · rename_i x a he
        split
        · rename_i hk
          have := rdP_le he (by omega)
          exact .inl ⟨rfl, hk, this.2, this.1⟩
        · exact .inr (.inr rfl)
theorem rdP_imm {l : List Nat} (hb : Byt l) : ∀ {ps : List Pk} {x : Ins} {a : Nat} {y : Ins} {m : Nat}, rdP l ps x a = some (y, m) → 0 ≤ x.imm ∧ x.imm < 4294967296 → 0 ≤ y.imm ∧ y.imm < 4294967296
  | [], x, a, y, m, h, hx => by
    simp only [rdP, Option.some.injEq, Prod.mk.injEq] at h
    rw [← h.1]; exact hx
  | p :: ps, x, a, y, m, h, hx => by
    unfold rdP at h
    split at h
    · have := val_small hb (pw_pos p).2 a
      exact rdP_imm hb h (imm_put hx (by omega) (by omega))
    · cases h
theorem insR_imm {l : List Nat} (hb : Byt l) : 0 ≤ (insR l).1.imm ∧ (insR l).1.imm < 4294967296 := by
  unfold insR
  split
  · simp [bare]
  · split
    · simp [bare]
    · split
      · simp [bare]
      · rename_i x a he
        split
        · exact rdP_imm hb he (by simp [bare])
        · simp [bare]
/-- The next instruction. -/
theorem rins_spec {A C X : Hp} {b : Nat} {s : Value} {l : List Nat} {a : Nat} (hs : Sl X s (bv l)) (hX : ∀ x, x ∈ X → x ∈ A ++ C) (hb : Byt l) (hl : l.length < 2 ^ 60) (ha : a ≤ l.length) (h : Ow B w (A ++ (b, rO s a) :: C))
    (k : ∀ w', (insR (l.drop a)).2.2 = 0 → Ow B w' (A ++ (b, rO s (a + (insR (l.drop a)).2.1)) :: C) → K (.agg (insR (l.drop a)).1.cells.toArray) w')
    (pk : ∀ w' e, (insR (l.drop a) = (bare 0, 0, 110) ∧ e = 110 ∨ insR (l.drop a) = (bare 0, 0, 180) ∧ e = 200) → Ow B w' (A ++ (b, rO s a) :: C) → PK (pan e) w') : callW PG N.image_reader_ins [ptr b] K PK w := by
  refine image_reader_ins.ok ?_
  unfold image_reader_ins.C
  refine al_rule h (l := (bare 0).cells) (by kernel_rfl) (fun b2 w1 h1 => ?_)
  have hsY : ∀ Y : Hp, Sl (Y ++ (A ++ (b, rO s a) :: C)) s (bv l) := fun Y => hs.mono fun x hx => List.mem_append_right _ ((List.mem_append.1 (hX x hx)).elim (fun h => List.mem_append_left _ h) (fun h => List.mem_append_right _ (.tail _ h)))
  have hcut : ∀ Y : Hp, Sl (Y ++ (A ++ (b, rO s a) :: C)) (cut s a l.length l.length) (bv (l.drop a)) := fun Y => sl_from (hsY Y) ha
  have hld : (l.drop a).length < 2 ^ 60 := by rw [List.length_drop]; omega
  have hca := insR_cases (l.drop a)
  generalize hins : insR (l.drop a) = r at *
  obtain ⟨x, m, e⟩ := r
  simp only at k hca pk
  have hm : m ≤ l.length - a := by
    rcases hca with ⟨_, _, _, h4⟩ | h4 | h4
    · rw [List.length_drop] at h4; exact h4
    · cases h4; omega
    · cases h4; omega
  refine ⟨fun w => Ow B w (A ++ (b, rO s a) :: C), h1.drew.drop, ?_⟩
  repeat (first | refine pu_not ?_ | refine pu_eql ?_ | refine pu_neq ?_ | refine pu_lss ?_ | refine pu_leq ?_ | refine pu_gtr ?_ | refine pu_geq ?_ | refine pu_add ?_ | refine pu_sub ?_ | refine fa_at ?_ | refine nl_ptr ?_ | refine ex20 ?_ | refine ex21 ?_ | refine ex30 ?_ | refine ex31 ?_ | refine ex32 ?_ | refine ln_rule ?_ | refine pu_seq ?_ | refine pu_sne ?_)
  refine ldsn_here (fun w h => h) (List.mem_append_right _ (.head _)) (vs := [s]) rfl rfl ?_
  repeat (first | refine pu_not ?_ | refine pu_eql ?_ | refine pu_neq ?_ | refine pu_lss ?_ | refine pu_leq ?_ | refine pu_gtr ?_ | refine pu_geq ?_ | refine pu_add ?_ | refine pu_sub ?_ | refine fa_at ?_ | refine nl_ptr ?_ | refine ex20 ?_ | refine ex21 ?_ | refine ex30 ?_ | refine ex31 ?_ | refine ex32 ?_ | refine ln_rule ?_ | refine pu_seq ?_ | refine pu_sne ?_)
  refine lds_here (fun w h => h) (List.mem_append_right _ (.head _)) (v := vI a) rfl ?_
  refine ⟨?_, ?_⟩
  · refine from_spec hs ha h1.drew (fun w2 h2 => ?_)
    refine ⟨?_, ?_⟩
    · refine iread_spec (hcut [_]) (fun x hx => hx) (byt_drop hb a) hld h2 (fun w3 h3 => ?_)
      rw [hins]
      dsimp only
      repeat (first | refine pu_not ?_ | refine pu_eql ?_ | refine pu_neq ?_ | refine pu_lss ?_ | refine pu_leq ?_ | refine pu_gtr ?_ | refine pu_geq ?_ | refine pu_add ?_ | refine pu_sub ?_ | refine fa_at ?_ | refine nl_ptr ?_ | refine ex20 ?_ | refine ex21 ?_ | refine ex30 ?_ | refine ex31 ?_ | refine ex32 ?_ | refine ln_rule ?_ | refine pu_seq ?_ | refine pu_sne ?_)
      refine al_rule h3 (l := (bare 0).cells) (by kernel_rfl) (fun b4 w4 h4 => ?_)
      refine ⟨h4.drop.drop, ?_⟩
      refine st_here (A := []) h4 x.cells rfl rfl (ins_plain _) (by simp [Ins.cells, bare]) (fun w5 h5 => ?_)
      have e3 : (bare 0).cells.take 0 ++ x.cells ++ (bare 0).cells.drop (0 + 5) = x.cells := rfl
      rw [e3] at h5
      repeat (first | refine pu_not ?_ | refine pu_eql ?_ | refine pu_neq ?_ | refine pu_lss ?_ | refine pu_leq ?_ | refine pu_gtr ?_ | refine pu_geq ?_ | refine pu_add ?_ | refine pu_sub ?_ | refine fa_at ?_ | refine nl_ptr ?_ | refine ex20 ?_ | refine ex21 ?_ | refine ex30 ?_ | refine ex31 ?_ | refine ex32 ?_ | refine ln_rule ?_ | refine pu_seq ?_ | refine pu_sne ?_)
      by_cases h180 : e = 180
      · subst h180
        refine must_f ?_
        rcases hca with ⟨h0, _⟩ | h0 | h0
        · simp at h0
        · cases h0
        · first | exact pk _ _ (.inr ⟨h0, rfl⟩) h5.drop.drop | exact fun _ => pk _ _ (.inr ⟨h0, rfl⟩) h5.drop.drop
      · have hne : (e != 180) = true := by simpa using h180
        rw [hne]
        refine must_t ?_
        repeat (first | refine pu_not ?_ | refine pu_eql ?_ | refine pu_neq ?_ | refine pu_lss ?_ | refine pu_leq ?_ | refine pu_gtr ?_ | refine pu_geq ?_ | refine pu_add ?_ | refine pu_sub ?_ | refine fa_at ?_ | refine nl_ptr ?_ | refine ex20 ?_ | refine ex21 ?_ | refine ex30 ?_ | refine ex31 ?_ | refine ex32 ?_ | refine ln_rule ?_ | refine pu_seq ?_ | refine pu_sne ?_)
        by_cases h0 : e = 0
        · subst h0
          refine must_t ?_
          have h6 : Ow B w5 ([(b4, iO x), (b2, iO (bare 0))] ++ A ++ (b, rO s a) :: C) := by simpa using h5
          repeat (first | refine pu_not ?_ | refine pu_eql ?_ | refine pu_neq ?_ | refine pu_lss ?_ | refine pu_leq ?_ | refine pu_gtr ?_ | refine pu_geq ?_ | refine pu_add ?_ | refine pu_sub ?_ | refine fa_at ?_ | refine nl_ptr ?_ | refine ex20 ?_ | refine ex21 ?_ | refine ex30 ?_ | refine ex31 ?_ | refine ex32 ?_ | refine ln_rule ?_ | refine pu_seq ?_ | refine pu_sne ?_)
          refine ld_here h6 (List.mem_append_right _ (.head _)) (v := vI a) rfl ?_
          repeat (first | refine pu_not ?_ | refine pu_eql ?_ | refine pu_neq ?_ | refine pu_lss ?_ | refine pu_leq ?_ | refine pu_gtr ?_ | refine pu_geq ?_ | refine pu_add ?_ | refine pu_sub ?_ | refine fa_at ?_ | refine nl_ptr ?_ | refine ex20 ?_ | refine ex21 ?_ | refine ex30 ?_ | refine ex31 ?_ | refine ex32 ?_ | refine ln_rule ?_ | refine pu_seq ?_ | refine pu_sne ?_)
          rw [wrap64_in (by omega) (by omega)]
          refine st1_here h6 rfl rfl (by simp) (fun w7 h7 => ?_)
          have h7 : Ow B w7 ([(b4, iO x), (b2, iO (bare 0))] ++ A ++ (b, rO s (a + m)) :: C) := h7
          refine ldn_here h7 (.head _) (vs := x.cells) rfl rfl ?_
          have h8 : Ow B w7 ([(b4, iO x)] ++ (b2, iO (bare 0)) :: (A ++ (b, rO s (a + m)) :: C)) := by simpa using h7
          refine st_here h8 x.cells rfl rfl (ins_plain _) (by simp [Ins.cells, bare]) (fun w9 h9 => ?_)
          rw [e3] at h9
          refine ldn_here h9 (.tail _ (.head _)) (vs := x.cells) rfl rfl ?_
          exact k _ rfl (Ow.drop (Ow.drop h9))
        · rcases hca with ⟨h1, _⟩ | h1 | h1
          · exact absurd h1 h0
          · cases h1
            refine must_f ?_
            first | exact pk _ _ (.inl ⟨rfl, rfl⟩) h5.drop.drop | exact fun _ => pk _ _ (.inl ⟨rfl, rfl⟩) h5.drop.drop
          · cases h1; exact absurd rfl h180
    · refine al_rule h2 (l := (bare 0).cells) (by kernel_rfl) (fun b4 w3 h3 => ?_)
      refine ⟨h3.drop.drop, ?_⟩
      refine iread_spec (hcut [_, _]) (fun x hx => hx) (byt_drop hb a) hld h3 (fun w4 h4 => ?_)
      rw [hins]
      dsimp only
      repeat (first | refine pu_not ?_ | refine pu_eql ?_ | refine pu_neq ?_ | refine pu_lss ?_ | refine pu_leq ?_ | refine pu_gtr ?_ | refine pu_geq ?_ | refine pu_add ?_ | refine pu_sub ?_ | refine fa_at ?_ | refine nl_ptr ?_ | refine ex20 ?_ | refine ex21 ?_ | refine ex30 ?_ | refine ex31 ?_ | refine ex32 ?_ | refine ln_rule ?_ | refine pu_seq ?_ | refine pu_sne ?_)
      refine st_here (A := []) h4 x.cells rfl rfl (ins_plain _) (by simp [Ins.cells, bare]) (fun w5 h5 => ?_)
      have e3 : (bare 0).cells.take 0 ++ x.cells ++ (bare 0).cells.drop (0 + 5) = x.cells := rfl
      rw [e3] at h5
      repeat (first | refine pu_not ?_ | refine pu_eql ?_ | refine pu_neq ?_ | refine pu_lss ?_ | refine pu_leq ?_ | refine pu_gtr ?_ | refine pu_geq ?_ | refine pu_add ?_ | refine pu_sub ?_ | refine fa_at ?_ | refine nl_ptr ?_ | refine ex20 ?_ | refine ex21 ?_ | refine ex30 ?_ | refine ex31 ?_ | refine ex32 ?_ | refine ln_rule ?_ | refine pu_seq ?_ | refine pu_sne ?_)
      by_cases h180 : e = 180
      · subst h180
        refine must_f ?_
        rcases hca with ⟨h0, _⟩ | h0 | h0
        · simp at h0
        · cases h0
        · first | exact pk _ _ (.inr ⟨h0, rfl⟩) h5.drop.drop | exact fun _ => pk _ _ (.inr ⟨h0, rfl⟩) h5.drop.drop
      · have hne : (e != 180) = true := by simpa using h180
        rw [hne]
        refine must_t ?_
        repeat (first | refine pu_not ?_ | refine pu_eql ?_ | refine pu_neq ?_ | refine pu_lss ?_ | refine pu_leq ?_ | refine pu_gtr ?_ | refine pu_geq ?_ | refine pu_add ?_ | refine pu_sub ?_ | refine fa_at ?_ | refine nl_ptr ?_ | refine ex20 ?_ | refine ex21 ?_ | refine ex30 ?_ | refine ex31 ?_ | refine ex32 ?_ | refine ln_rule ?_ | refine pu_seq ?_ | refine pu_sne ?_)
        by_cases h0 : e = 0
        · subst h0
          refine must_t ?_
          have h6 : Ow B w5 ([(b4, iO x), (b2, iO (bare 0))] ++ A ++ (b, rO s a) :: C) := by simpa using h5
          repeat (first | refine pu_not ?_ | refine pu_eql ?_ | refine pu_neq ?_ | refine pu_lss ?_ | refine pu_leq ?_ | refine pu_gtr ?_ | refine pu_geq ?_ | refine pu_add ?_ | refine pu_sub ?_ | refine fa_at ?_ | refine nl_ptr ?_ | refine ex20 ?_ | refine ex21 ?_ | refine ex30 ?_ | refine ex31 ?_ | refine ex32 ?_ | refine ln_rule ?_ | refine pu_seq ?_ | refine pu_sne ?_)
          refine ld_here h6 (List.mem_append_right _ (.head _)) (v := vI a) rfl ?_
          repeat (first | refine pu_not ?_ | refine pu_eql ?_ | refine pu_neq ?_ | refine pu_lss ?_ | refine pu_leq ?_ | refine pu_gtr ?_ | refine pu_geq ?_ | refine pu_add ?_ | refine pu_sub ?_ | refine fa_at ?_ | refine nl_ptr ?_ | refine ex20 ?_ | refine ex21 ?_ | refine ex30 ?_ | refine ex31 ?_ | refine ex32 ?_ | refine ln_rule ?_ | refine pu_seq ?_ | refine pu_sne ?_)
          rw [wrap64_in (by omega) (by omega)]
          refine st1_here h6 rfl rfl (by simp) (fun w7 h7 => ?_)
          have h7 : Ow B w7 ([(b4, iO x), (b2, iO (bare 0))] ++ A ++ (b, rO s (a + m)) :: C) := h7
          refine ldn_here h7 (.head _) (vs := x.cells) rfl rfl ?_
          have h8 : Ow B w7 ([(b4, iO x)] ++ (b2, iO (bare 0)) :: (A ++ (b, rO s (a + m)) :: C)) := by simpa using h7
          refine st_here h8 x.cells rfl rfl (ins_plain _) (by simp [Ins.cells, bare]) (fun w9 h9 => ?_)
          rw [e3] at h9
          refine ldn_here h9 (.tail _ (.head _)) (vs := x.cells) rfl rfl ?_
          exact k _ rfl (Ow.drop (Ow.drop h9))
        · rcases hca with ⟨h1, _⟩ | h1 | h1
          · exact absurd h1 h0
          · cases h1
            refine must_f ?_
            first | exact pk _ _ (.inl ⟨rfl, rfl⟩) h5.drop.drop | exact fun _ => pk _ _ (.inl ⟨rfl, rfl⟩) h5.drop.drop
          · cases h1; exact absurd rfl h180
  · refine al_rule h1.drew (l := (bare 0).cells) (by kernel_rfl) (fun b4 w2 h2 => ?_)
    refine ⟨h2.drop.drop, ?_⟩
    refine from_spec hs ha h2 (fun w3 h3 => ?_)
    refine iread_spec (hcut [_, _]) (fun x hx => hx) (byt_drop hb a) hld h3 (fun w4 h4 => ?_)
    rw [hins]
    dsimp only
    repeat (first | refine pu_not ?_ | refine pu_eql ?_ | refine pu_neq ?_ | refine pu_lss ?_ | refine pu_leq ?_ | refine pu_gtr ?_ | refine pu_geq ?_ | refine pu_add ?_ | refine pu_sub ?_ | refine fa_at ?_ | refine nl_ptr ?_ | refine ex20 ?_ | refine ex21 ?_ | refine ex30 ?_ | refine ex31 ?_ | refine ex32 ?_ | refine ln_rule ?_ | refine pu_seq ?_ | refine pu_sne ?_)
    refine st_here (A := []) h4 x.cells rfl rfl (ins_plain _) (by simp [Ins.cells, bare]) (fun w5 h5 => ?_)
    have e3 : (bare 0).cells.take 0 ++ x.cells ++ (bare 0).cells.drop (0 + 5) = x.cells := rfl
    rw [e3] at h5
    repeat (first | refine pu_not ?_ | refine pu_eql ?_ | refine pu_neq ?_ | refine pu_lss ?_ | refine pu_leq ?_ | refine pu_gtr ?_ | refine pu_geq ?_ | refine pu_add ?_ | refine pu_sub ?_ | refine fa_at ?_ | refine nl_ptr ?_ | refine ex20 ?_ | refine ex21 ?_ | refine ex30 ?_ | refine ex31 ?_ | refine ex32 ?_ | refine ln_rule ?_ | refine pu_seq ?_ | refine pu_sne ?_)
    by_cases h180 : e = 180
    · subst h180
      refine must_f ?_
      rcases hca with ⟨h0, _⟩ | h0 | h0
      · simp at h0
      · cases h0
      · first | exact pk _ _ (.inr ⟨h0, rfl⟩) h5.drop.drop | exact fun _ => pk _ _ (.inr ⟨h0, rfl⟩) h5.drop.drop
    · have hne : (e != 180) = true := by simpa using h180
      rw [hne]
      refine must_t ?_
      repeat (first | refine pu_not ?_ | refine pu_eql ?_ | refine pu_neq ?_ | refine pu_lss ?_ | refine pu_leq ?_ | refine pu_gtr ?_ | refine pu_geq ?_ | refine pu_add ?_ | refine pu_sub ?_ | refine fa_at ?_ | refine nl_ptr ?_ | refine ex20 ?_ | refine ex21 ?_ | refine ex30 ?_ | refine ex31 ?_ | refine ex32 ?_ | refine ln_rule ?_ | refine pu_seq ?_ | refine pu_sne ?_)
      by_cases h0 : e = 0
      · subst h0
        refine must_t ?_
        have h6 : Ow B w5 ([(b4, iO x), (b2, iO (bare 0))] ++ A ++ (b, rO s a) :: C) := by simpa using h5
        repeat (first | refine pu_not ?_ | refine pu_eql ?_ | refine pu_neq ?_ | refine pu_lss ?_ | refine pu_leq ?_ | refine pu_gtr ?_ | refine pu_geq ?_ | refine pu_add ?_ | refine pu_sub ?_ | refine fa_at ?_ | refine nl_ptr ?_ | refine ex20 ?_ | refine ex21 ?_ | refine ex30 ?_ | refine ex31 ?_ | refine ex32 ?_ | refine ln_rule ?_ | refine pu_seq ?_ | refine pu_sne ?_)
        refine ld_here h6 (List.mem_append_right _ (.head _)) (v := vI a) rfl ?_
        repeat (first | refine pu_not ?_ | refine pu_eql ?_ | refine pu_neq ?_ | refine pu_lss ?_ | refine pu_leq ?_ | refine pu_gtr ?_ | refine pu_geq ?_ | refine pu_add ?_ | refine pu_sub ?_ | refine fa_at ?_ | refine nl_ptr ?_ | refine ex20 ?_ | refine ex21 ?_ | refine ex30 ?_ | refine ex31 ?_ | refine ex32 ?_ | refine ln_rule ?_ | refine pu_seq ?_ | refine pu_sne ?_)
        rw [wrap64_in (by omega) (by omega)]
        refine st1_here h6 rfl rfl (by simp) (fun w7 h7 => ?_)
        have h7 : Ow B w7 ([(b4, iO x), (b2, iO (bare 0))] ++ A ++ (b, rO s (a + m)) :: C) := h7
        refine ldn_here h7 (.head _) (vs := x.cells) rfl rfl ?_
        have h8 : Ow B w7 ([(b4, iO x)] ++ (b2, iO (bare 0)) :: (A ++ (b, rO s (a + m)) :: C)) := by simpa using h7
        refine st_here h8 x.cells rfl rfl (ins_plain _) (by simp [Ins.cells, bare]) (fun w9 h9 => ?_)
        rw [e3] at h9
        refine ldn_here h9 (.tail _ (.head _)) (vs := x.cells) rfl rfl ?_
        exact k _ rfl (Ow.drop (Ow.drop h9))
      · rcases hca with ⟨h1, _⟩ | h1 | h1
        · exact absurd h1 h0
        · cases h1
          refine must_f ?_
          first | exact pk _ _ (.inl ⟨rfl, rfl⟩) h5.drop.drop | exact fun _ => pk _ _ (.inl ⟨rfl, rfl⟩) h5.drop.drop
        · cases h1; exact absurd rfl h180
end
end Go.Proofs.YtkkkcafkepnecaaGreat.Im

