/- Images: the document's reading of an instruction. -/
import Derived.Test.YtkkkcafkepnecaaGreatIO

set_option linter.unusedVariables false
set_option linter.unusedSimpArgs false
set_option linter.unnecessarySimpa false
namespace Go.Proofs.YtkkkcafkepnecaaGreat.Im
open Go Go.RowKit Vc Oc Dg
attribute [local irreducible] binV Op.unary convert nlW faW ldS ldW ixS ixA ixV ixT exW lnS lnT pu stW alW opW opU bsW mkW

section
variable {B w : World} {A H C X : Hp} {K KW : Value → World → Prop} {KU : World → Prop} {KK : Value → Prop} {PK : List PanicEntry → World → Prop} {s v : Value} {l : List Nat} {b n : Nat} {x : Ins}
theorem val_at {l : List Nat} {n : Nat} (h : n < l.length) : val ((l.drop n).take 1) = l.getD n 0 := by
  rw [List.drop_eq_getElem_cons h, List.take_succ_cons, List.take_zero, List.getD_eq_getElem?_getD, List.getElem?_eq_getElem h]
  show l[n] + 256 * 0 = l[n]
  omega
/-- Which cell a register stands in. -/
def pj : Pk → Nat
  | .a => 1
  | .b => 2
  | .c => 3
  | .n => 3
  | .i _ => 4
theorem rd_pk (p : Pk) (hp : pw p = 1) (hxi : 0 ≤ x.imm ∧ x.imm < 4294967296) {j : Nat} (hj : j = pj p) {i0 : Value} (hi : i0 = vI n) (hs : Sl X s (bv l)) (hX : ∀ y, y ∈ X → y ∈ A ++ (b, iO x) :: C) (hn : n < l.length) (hb : Byt l) (hl : l.length < 2 ^ 60) (h : Ow B w (A ++ (b, iO x) :: C))
    (k : ∀ w', (0 ≤ (p.put x (val ((l.drop n).take 1) : Nat)).imm ∧ (p.put x (val ((l.drop n).take 1) : Nat)).imm < 4294967296) → Ow B w' (A ++ (b, iO (p.put x (val ((l.drop n).take 1) : Nat))) :: C) → KW (vI (n + 1 : Nat)) w') :
    ixS 1 s i0 fun t63 => ldW none t63 w fun t64 => pu PG (convert T.t_uint8 T.t_int t64) fun t65 => faW j (ptr b) fun t66 => stW 1 t66 t65 (fun w67 => pu PG (binV .add T.t_int true i0 (.int .i64 1)) fun t68 => KW t68 w67) w := by
  subst hi
  have hv : (bv l)[(n : Int).toNat]? = some (v8 (val ((l.drop n).take 1))) := by rw [val_at hn, Int.toNat_natCast]; exact bv_at hn
  refine sl_ld h (hs.mono hX) (by omega) hv ?_
  have h8 := val8 hb n
  generalize val ((l.drop n).take 1) = m at k hv h8
  refine cvt (by kernel_rfl) und_int (m := (m : Int)) (by rw [wrap64_in (by omega) (by omega)]) ?_
  refine fa_at ?_
  refine st1_here h rfl rfl (by subst hj; cases p <;> simp [Ins.cells, pj]) (fun w1 h1 => ?_)
  refine pu_add ?_
  rw [wrapN (by omega)]
  refine k _ (imm_put hxi (by omega) (by omega)) ?_
  have e : x.cells.set (0 + j) (vI m) = (p.put x m).cells := by
    subst hj
    cases p with
    | i m => simp [pw] at hp
    | _ => rfl
  rw [e] at h1
  exact h1
theorem rd_imm {mk : List Nat} {i0 : Value} (hi : i0 = vI n) (hs : Sl X s (bv l)) (hX : ∀ y, y ∈ X → y ∈ A ++ (b, iO x) :: C) (hn : n + 4 ≤ l.length) (hb : Byt l) (hl : l.length < 2 ^ 60) (h : Ow B w (A ++ (b, iO x) :: C))
    (k : ∀ w', (0 ≤ ((Pk.i mk).put x (val ((l.drop n).take 4) : Nat)).imm ∧ ((Pk.i mk).put x (val ((l.drop n).take 4) : Nat)).imm < 4294967296) → Ow B w' (A ++ (b, iO ((Pk.i mk).put x (val ((l.drop n).take 4) : Nat))) :: C) → KU w') :
    pu PG (Instr.sliceAt T.t_sl_uint8 s (some i0) none none) fun t98 => callW PG N.linesmanref01_ReadFixed [t98, (.int .i64 4)] (fun t99 w100 => exW 0 t99 fun t101 => exW 1 t99 fun t102 => pu PG (convert T.t_uint64 T.t_uint32 t101) fun t103 => faW 4 (ptr b) fun t104 => stW 1 t104 t103 KU w100) PK w := by
  subst hi
  refine cutL hs (by omega) (by simp; omega) (fun c hc => ?_)
  have hs' := hs.mono hX
  have hcut := sl_cut (l := n) (h := l.length) (m := c) hs' (by omega) (by simp) (by simpa using hc)
  rw [bv_drop] at hcut
  have hbl : (bv l).length = l.length := by simp
  rw [Int.toNat_natCast, hbl]
  refine rreadFixed_spec (x := 4) h hcut (byt_drop hb n) (by rw [List.length_drop]; omega) (fun w2 h2 => ?_)
  have e : rfR (l.drop n) 4 = (val ((l.drop n).take 4), 0) := by
    unfold rfR
    rw [if_neg (by decide), if_neg (by rw [List.length_drop]; show ¬ _ < 4; omega)]; rfl
  rw [e]
  have h4 := val_small hb (n := 4) (by omega) n
  generalize val ((l.drop n).take 4) = m at k h4
  repeat (first | refine pu_not ?_ | refine pu_eql ?_ | refine pu_neq ?_ | refine pu_lss ?_ | refine pu_leq ?_ | refine pu_gtr ?_ | refine pu_geq ?_ | refine pu_add ?_ | refine pu_sub ?_ | refine fa_at ?_ | refine nl_ptr ?_ | refine ex20 ?_ | refine ex21 ?_ | refine ex30 ?_ | refine ex31 ?_ | refine ex32 ?_ | refine ln_rule ?_ | refine pu_seq ?_ | refine pu_sne ?_)
  refine cvt (by kernel_rfl) und_u32 (m := (m : Int)) (by rw [wrapu32]; omega) ?_
  refine fa_at ?_
  refine st1_here h2 rfl rfl (by simp [Ins.cells]) (fun w1 h1 => ?_)
  exact k _ ⟨by show (0 : Int) ≤ (m : Int); omega, by show (m : Int) < _; omega⟩ h1
theorem rdP_none : ∀ (ps : List Pk) (x : Ins) (a : Nat), a ≤ l.length → ¬ (a + (ps.map pw).sum ≤ l.length) → rdP l ps x a = none
  | [], x, a, ha, h => by simp at h; omega
  | p :: ps, x, a, ha, h => by
    simp only [List.map_cons, List.sum_cons] at h
    unfold rdP
    split
    · exact rdP_none ps _ _ (by omega) (by omega)
    · rfl
theorem rdP_step {p : Pk} {ps : List Pk} {a : Nat} (h : a + pw p ≤ l.length) : rdP l (p :: ps) x a = rdP l ps (p.put x (val ((l.drop a).take (pw p)) : Nat)) (a + pw p) := by
  conv => lhs; unfold rdP
  rw [if_pos h]
theorem insB_sum (i : Ins) : (insB i).length = 1 + ((nmd i.op).map pw).sum := by
  unfold insB
  rw [List.length_cons]
  have : ∀ l : List Pk, (l.flatMap (partB i)).length = (l.map pw).sum := fun l => by
    induction l with
    | nil => rfl
    | cons p l ih => simp [List.flatMap_cons, partB_len, ih]
  rw [this]; omega
theorem rd_tail {b2 m : Nat} {Z : List Value} {Y : Hp} (hZ : Z.length = 5) (hxi : 0 ≤ x.imm ∧ x.imm < 4294967296) (h : Ow B w (A ++ (b, iO x) :: (Y ++ (b2, cel Z T.t_api_Ins) :: H)))
    (k0 : okI x = false → ∀ w', Ow B w' H → K (.tuple #[.agg (bare 0).cells.toArray, vI 0, vI 180]) w') (k1 : okI x = true → ∀ w', Ow B w' H → K (.tuple #[.agg x.cells.toArray, vI m, vI 0]) w') :
    ldW (some 5) (ptr b) w fun t126 => callW PG N.linesmanref08_Right [t126] (fun t127 w128 => pu PG (Op.unary .not t127) fun t129 => condV t129 (pu PG (Instr.build T.t_api_Ins #[]) fun t131 => stW 5 (ptr b2) t131 (fun w132 => ldW (some 5) (ptr b2) w132 fun t133 => K (.tuple #[t133, (.int .i64 0), (.int .i64 180)]) w132) w128)
      (ldW (some 5) (ptr b) w128 fun t135 => stW 5 (ptr b2) t135 (fun w136 => ldW (some 5) (ptr b2) w136 fun t137 => K (.tuple #[t137, vI m, (.int .i64 0)]) w136) w128)) PK w := by
  refine ldn_here h (List.mem_append_right _ (.head _)) (vs := x.cells) rfl rfl ?_
  refine right08_spec hxi h (fun w1 h1 => ?_)
  have hsub : ∀ {w : World} {c : List Value}, Ow B w ((A ++ (b, iO x) :: Y) ++ (b2, cel c T.t_api_Ins) :: H) → Ow B w H := fun h => h.sub (((List.Sublist.refl H).cons _).trans (List.sublist_append_right _ _))
  have h2 : Ow B w1 ((A ++ (b, iO x) :: Y) ++ (b2, cel Z T.t_api_Ins) :: H) := by simpa using h1
  have hz0 : ∀ c : Ins, Z.take 0 ++ c.cells ++ Z.drop (0 + 5) = c.cells := fun c => by
    rw [Nat.zero_add, List.drop_eq_nil_of_le (by omega)]; simp
  repeat (first | refine pu_not ?_ | refine pu_eql ?_ | refine pu_neq ?_ | refine pu_lss ?_ | refine pu_leq ?_ | refine pu_gtr ?_ | refine pu_geq ?_ | refine pu_add ?_ | refine pu_sub ?_ | refine fa_at ?_ | refine nl_ptr ?_ | refine ex20 ?_ | refine ex21 ?_ | refine ex30 ?_ | refine ex31 ?_ | refine ex32 ?_ | refine ln_rule ?_ | refine pu_seq ?_ | refine pu_sne ?_)
  refine cnd (fun hq => ?_) (fun hq => ?_)
  · have hq : okI x = false := by simpa using hq
    refine pu_build (bare 0).cells (by kernel_rfl) ?_
    refine st_here h2 (bare 0).cells rfl rfl (ins_plain _) (by simp [hZ]) (fun w3 h3 => ?_)
    rw [hz0] at h3
    refine ldn_here h3 (List.mem_append_right _ (.head _)) (vs := (bare 0).cells) rfl rfl ?_
    exact k0 hq _ (hsub h3)
  · have hq : okI x = true := by simpa using hq
    refine ldn_here h1 (List.mem_append_right _ (.head _)) (vs := x.cells) rfl rfl ?_
    refine st_here h2 x.cells rfl rfl (ins_plain _) (by simp [hZ]) (fun w3 h3 => ?_)
    rw [hz0] at h3
    refine ldn_here h3 (List.mem_append_right _ (.head _)) (vs := x.cells) rfl rfl ?_
    exact k1 hq _ (hsub h3)
end
end Go.Proofs.YtkkkcafkepnecaaGreat.Im

