/- Locks: what the document tells; Copy; Taken. -/
import Derived.Test.YtaifohjgamhhnaaVdI
set_option linter.unusedVariables false
set_option linter.unusedSimpArgs false
namespace Go.Proofs.Ytaifohjgamhhnaa
open Go Go.RowKit Vc Vd
attribute [local irreducible] binV Op.unary convert nlW faW ldS ldW ixS ixA ixV ixT exW lnS lnT pu stW alW opW opU bsW mkW

section
variable {B w : World} {H X F : Hp} {K : Value → World → Prop} {PK : List PanicEntry → World → Prop} {KK : Value → Prop} {L : List Lk} {m b : Nat} {i y : Int} {s : Value}
theorem gk_out (h : ¬ (0 ≤ i ∧ i < L.length)) (h0 : 0 ≤ i) : gk L i = emp := by
  unfold gk
  rw [List.getD_eq_getElem?_getD, List.getElem?_eq_none (by omega)]; rfl
theorem refWriter_spec (h : Ow B w H) (hr : rl X s L) (hX : ∀ x, x ∈ X → x ∈ H) (hw : Wf m L) (k : ∀ w', Ow B w' H → K (.tuple #[vI (if 0 ≤ i ∧ 0 < (gk L i).wr then (gk L i).wr - 1 else 0), vB (decide (0 ≤ i ∧ 0 < (gk L i).wr))]) w') :
    callW PG N.linesmanref14_Locks_Writer [.agg #[s], vI i] K PK w := by
  refine linesmanref14_Locks_Writer.ok ?_
  unfold linesmanref14_Locks_Writer.C
  refine al_rule h (l := [s]) rfl (fun b1 w1 h1 => ?_)
  repeat (first | refine pu_not ?_ | refine pu_eql ?_ | refine pu_neq ?_ | refine pu_lss ?_ | refine pu_leq ?_ | refine pu_gtr ?_ | refine pu_geq ?_ | refine pu_add ?_ | refine pu_sub ?_ | refine pu_mul ?_ | refine pu_neg ?_ | refine fa_at ?_ | refine nl_ptr ?_ | refine ex20 ?_ | refine ex21 ?_ | refine ex30 ?_ | refine ex31 ?_ | refine ex32 ?_ | refine ln_rule ?_ | refine lnT_rule ?_ | refine pu_and ?_ | refine pu_or ?_ | refine pu_xor ?_ | refine pu_seq ?_ | refine pu_sne ?_)
  refine cnd (fun h0 => ?_) (fun h0 => ?_)
  · have e : ¬ (0 ≤ i ∧ 0 < (gk L i).wr) := by simp at h0; omega
    rw [if_neg e, decide_eq_false e] at k
    exact k _ h1.drop
  have h0 : 0 ≤ i := by simp at h0; omega
  repeat (first | refine pu_not ?_ | refine pu_eql ?_ | refine pu_neq ?_ | refine pu_lss ?_ | refine pu_leq ?_ | refine pu_gtr ?_ | refine pu_geq ?_ | refine pu_add ?_ | refine pu_sub ?_ | refine pu_mul ?_ | refine pu_neg ?_ | refine fa_at ?_ | refine nl_ptr ?_ | refine ex20 ?_ | refine ex21 ?_ | refine ex30 ?_ | refine ex31 ?_ | refine ex32 ?_ | refine ln_rule ?_ | refine lnT_rule ?_ | refine pu_and ?_ | refine pu_or ?_ | refine pu_xor ?_ | refine pu_seq ?_ | refine pu_sne ?_)
  refine ld_here h1 (.head _) rfl ?_
  refine rl.ln hr ?_
  repeat (first | refine pu_not ?_ | refine pu_eql ?_ | refine pu_neq ?_ | refine pu_lss ?_ | refine pu_leq ?_ | refine pu_gtr ?_ | refine pu_geq ?_ | refine pu_add ?_ | refine pu_sub ?_ | refine pu_mul ?_ | refine pu_neg ?_ | refine fa_at ?_ | refine nl_ptr ?_ | refine ex20 ?_ | refine ex21 ?_ | refine ex30 ?_ | refine ex31 ?_ | refine ex32 ?_ | refine ln_rule ?_ | refine lnT_rule ?_ | refine pu_and ?_ | refine pu_or ?_ | refine pu_xor ?_ | refine pu_seq ?_ | refine pu_sne ?_)
  refine cnd (fun h2 => ?_) (fun h2 => ?_)
  · have e : ¬ (0 ≤ i ∧ 0 < (gk L i).wr) := by
      rw [gk_out (by simp at h2; omega) h0]
      simp [emp]
    rw [if_neg e, decide_eq_false e] at k
    exact k _ h1.drop
  have h3 : i < L.length := by simp at h2; omega
  have hks := hw.ks _ (lk_mem h0 h3)
  obtain ⟨ps, v, p1, p2, p3, p4, p5⟩ := rl.at hr h0 h3
  have hp2 : Sls ((b1, cel [s] T.t_linesmanref14_Locks) :: H) s 2 (rows ps) := Sls.mono p2 fun x hx => .tail _ (hX x hx)
  repeat (first | refine pu_not ?_ | refine pu_eql ?_ | refine pu_neq ?_ | refine pu_lss ?_ | refine pu_leq ?_ | refine pu_gtr ?_ | refine pu_geq ?_ | refine pu_add ?_ | refine pu_sub ?_ | refine pu_mul ?_ | refine pu_neg ?_ | refine fa_at ?_ | refine nl_ptr ?_ | refine ex20 ?_ | refine ex21 ?_ | refine ex30 ?_ | refine ex31 ?_ | refine ex32 ?_ | refine ln_rule ?_ | refine lnT_rule ?_ | refine pu_and ?_ | refine pu_or ?_ | refine pu_xor ?_ | refine pu_seq ?_ | refine pu_sne ?_)
  refine ld_here h1 (.head _) rfl ?_
  refine sls_fld h1 hp2 h0 p4 (v := vI (gk L i).wr) rfl ?_
  repeat (first | refine pu_not ?_ | refine pu_eql ?_ | refine pu_neq ?_ | refine pu_lss ?_ | refine pu_leq ?_ | refine pu_gtr ?_ | refine pu_geq ?_ | refine pu_add ?_ | refine pu_sub ?_ | refine pu_mul ?_ | refine pu_neg ?_ | refine fa_at ?_ | refine nl_ptr ?_ | refine ex20 ?_ | refine ex21 ?_ | refine ex30 ?_ | refine ex31 ?_ | refine ex32 ?_ | refine ln_rule ?_ | refine lnT_rule ?_ | refine pu_and ?_ | refine pu_or ?_ | refine pu_xor ?_ | refine pu_seq ?_ | refine pu_sne ?_)
  refine cnd (fun h4 => ?_) (fun h4 => ?_)
  · have e : ¬ (0 ≤ i ∧ 0 < (gk L i).wr) := by simp at h4; omega
    rw [if_neg e, decide_eq_false e] at k
    exact k _ h1.drop
  · have e : 0 ≤ i ∧ 0 < (gk L i).wr := by simp at h4; omega
    rw [if_pos e, decide_eq_true e] at k
    repeat (first | refine pu_not ?_ | refine pu_eql ?_ | refine pu_neq ?_ | refine pu_lss ?_ | refine pu_leq ?_ | refine pu_gtr ?_ | refine pu_geq ?_ | refine pu_add ?_ | refine pu_sub ?_ | refine pu_mul ?_ | refine pu_neg ?_ | refine fa_at ?_ | refine nl_ptr ?_ | refine ex20 ?_ | refine ex21 ?_ | refine ex30 ?_ | refine ex31 ?_ | refine ex32 ?_ | refine ln_rule ?_ | refine lnT_rule ?_ | refine pu_and ?_ | refine pu_or ?_ | refine pu_xor ?_ | refine pu_seq ?_ | refine pu_sne ?_)
    refine ld_here h1 (.head _) rfl ?_
    refine sls_fld h1 hp2 h0 p4 (v := vI (gk L i).wr) rfl ?_
    repeat (first | refine pu_not ?_ | refine pu_eql ?_ | refine pu_neq ?_ | refine pu_lss ?_ | refine pu_leq ?_ | refine pu_gtr ?_ | refine pu_geq ?_ | refine pu_add ?_ | refine pu_sub ?_ | refine pu_mul ?_ | refine pu_neg ?_ | refine fa_at ?_ | refine nl_ptr ?_ | refine ex20 ?_ | refine ex21 ?_ | refine ex30 ?_ | refine ex31 ?_ | refine ex32 ?_ | refine ln_rule ?_ | refine lnT_rule ?_ | refine pu_and ?_ | refine pu_or ?_ | refine pu_xor ?_ | refine pu_seq ?_ | refine pu_sne ?_)
    rw [wrap64_in (by omega) (by omega)]
    exact k _ h1.drop
theorem refReaders_spec (h : Ow B w H) (hr : rl X s L) (hX : ∀ x, x ∈ X → x ∈ H) (k : ∀ v w', Sl X v (iv (if 0 ≤ i then (gk L i).rd else [])) → Ow B w' H → K v w') :
    callW PG N.linesmanref14_Locks_Readers [.agg #[s], vI i] K PK w := by
  refine linesmanref14_Locks_Readers.ok ?_
  unfold linesmanref14_Locks_Readers.C
  refine al_rule h (l := [s]) rfl (fun b1 w1 h1 => ?_)
  repeat (first | refine pu_not ?_ | refine pu_eql ?_ | refine pu_neq ?_ | refine pu_lss ?_ | refine pu_leq ?_ | refine pu_gtr ?_ | refine pu_geq ?_ | refine pu_add ?_ | refine pu_sub ?_ | refine pu_mul ?_ | refine pu_neg ?_ | refine fa_at ?_ | refine nl_ptr ?_ | refine ex20 ?_ | refine ex21 ?_ | refine ex30 ?_ | refine ex31 ?_ | refine ex32 ?_ | refine ln_rule ?_ | refine lnT_rule ?_ | refine pu_and ?_ | refine pu_or ?_ | refine pu_xor ?_ | refine pu_seq ?_ | refine pu_sne ?_)
  refine cnd (fun h0 => ?_) (fun h0 => ?_)
  · have e : ¬ 0 ≤ i := by simp at h0; omega
    rw [if_neg e] at k
    exact k _ _ (sl_nil _ _ rfl) h1.drop
  have h0 : 0 ≤ i := by simp at h0; omega
  rw [if_pos h0] at k
  repeat (first | refine pu_not ?_ | refine pu_eql ?_ | refine pu_neq ?_ | refine pu_lss ?_ | refine pu_leq ?_ | refine pu_gtr ?_ | refine pu_geq ?_ | refine pu_add ?_ | refine pu_sub ?_ | refine pu_mul ?_ | refine pu_neg ?_ | refine fa_at ?_ | refine nl_ptr ?_ | refine ex20 ?_ | refine ex21 ?_ | refine ex30 ?_ | refine ex31 ?_ | refine ex32 ?_ | refine ln_rule ?_ | refine lnT_rule ?_ | refine pu_and ?_ | refine pu_or ?_ | refine pu_xor ?_ | refine pu_seq ?_ | refine pu_sne ?_)
  refine ld_here h1 (.head _) rfl ?_
  refine rl.ln hr ?_
  repeat (first | refine pu_not ?_ | refine pu_eql ?_ | refine pu_neq ?_ | refine pu_lss ?_ | refine pu_leq ?_ | refine pu_gtr ?_ | refine pu_geq ?_ | refine pu_add ?_ | refine pu_sub ?_ | refine pu_mul ?_ | refine pu_neg ?_ | refine fa_at ?_ | refine nl_ptr ?_ | refine ex20 ?_ | refine ex21 ?_ | refine ex30 ?_ | refine ex31 ?_ | refine ex32 ?_ | refine ln_rule ?_ | refine lnT_rule ?_ | refine pu_and ?_ | refine pu_or ?_ | refine pu_xor ?_ | refine pu_seq ?_ | refine pu_sne ?_)
  refine cnd (fun h2 => ?_) (fun h2 => ?_)
  · have e : gk L i = emp := gk_out (by simp at h2; omega) h0
    rw [e] at k
    exact k _ _ (sl_nil _ _ rfl) h1.drop
  have h3 : i < L.length := by simp at h2; omega
  obtain ⟨ps, v, p1, p2, p3, p4, p5⟩ := rl.at hr h0 h3
  have hp2 : Sls ((b1, cel [s] T.t_linesmanref14_Locks) :: H) s 2 (rows ps) := Sls.mono p2 fun x hx => .tail _ (hX x hx)
  repeat (first | refine pu_not ?_ | refine pu_eql ?_ | refine pu_neq ?_ | refine pu_lss ?_ | refine pu_leq ?_ | refine pu_gtr ?_ | refine pu_geq ?_ | refine pu_add ?_ | refine pu_sub ?_ | refine pu_mul ?_ | refine pu_neg ?_ | refine fa_at ?_ | refine nl_ptr ?_ | refine ex20 ?_ | refine ex21 ?_ | refine ex30 ?_ | refine ex31 ?_ | refine ex32 ?_ | refine ln_rule ?_ | refine lnT_rule ?_ | refine pu_and ?_ | refine pu_or ?_ | refine pu_xor ?_ | refine pu_seq ?_ | refine pu_sne ?_)
  refine ld_here h1 (.head _) rfl ?_
  refine sls_fld h1 hp2 h0 p4 (v := v) rfl ?_
  exact k _ _ p5 h1.drop
def tkn (k : Lk) : Bool := decide (0 < k.wr ∨ k.rd ≠ [])
/-- The numbers of those that are taken, up to n. -/
def takes (L : List Lk) (n : Nat) : List Int := ((List.range n).filter fun i : Nat => tkn (gk L i)).map fun i : Nat => (i : Int)
theorem takes_succ (L : List Lk) (n : Nat) : takes L (n + 1) = takes L n ++ (if tkn (gk L n) = true then [(n : Int)] else []) := by
  unfold takes
  rw [List.range_succ, List.filter_append, List.map_append]
  congr 1
  by_cases h : tkn (gk L n) = true <;> simp [h]
theorem takes_len (L : List Lk) (n : Nat) : (takes L n).length ≤ n := by
  unfold takes
  rw [List.length_map]
  exact Nat.le_trans (List.length_filter_le _ _) (by simp)
theorem takes_out (L : List Lk) : ∀ n : Nat, takes L (L.length + n) = takes L L.length
  | 0 => rfl
  | n + 1 => by
    rw [← Nat.add_assoc, takes_succ, takes_out L n, gk_out (by omega) (by omega), if_neg (by simp [tkn, emp]), List.append_nil]
theorem takes_at {L : List Lk} {i : Nat} (hp : tkn (gk L i) = true) : ∀ {n : Nat}, i < n → (takes L n)[(takes L i).length]? = some (i : Int)
  | 0, h => absurd h (by omega)
  | n + 1, h => by
    rw [takes_succ]
    rcases Nat.lt_succ_iff_lt_or_eq.1 h with h | rfl
    · have := takes_at hp h
      rw [List.getElem?_append_left (List.getElem?_eq_some_iff.1 this).1]
      exact this
    · rw [if_pos hp, List.getElem?_append_right (Nat.le_refl _)]
      simp
theorem refTaken_spec (h : Ow B w H) (hr : rl X s L) (hX : ∀ x, x ∈ X → x ∈ H) (hw : Wf m L) (k : ∀ S s' w', Ow B w' (S ++ H) → Sl S s' (iv (takes L L.length)) → K s' w') : callW PG N.linesmanref14_Locks_Taken [.agg #[s]] K PK w := by
  refine linesmanref14_Locks_Taken.ok ?_
  unfold linesmanref14_Locks_Taken.C
  have hlen := hw.len
  refine al_rule h (l := [s]) rfl (fun b1 w1 h1 => ?_)
  refine ⟨fun l w => ∃ (i : Nat) (S : Hp) (v : Value), l = [v, vI i] ∧ i ≤ L.length ∧ Vc.Own S T.t_int 1 v (takes L i).length (iv (takes L i)) ∧ Ow B w (S ++ (b1, cel [s] T.t_linesmanref14_Locks) :: H),
    fun l _ => match l with | [_, .int _ n] => L.length - n.toNat | _ => 0, ⟨0, [], _, rfl, Nat.zero_le _, own_none _ _, h1⟩, ?_⟩
  rintro l w2 ⟨i, S, v, rfl, hi, ho, h2⟩ j
  repeat (first | refine pu_not ?_ | refine pu_eql ?_ | refine pu_neq ?_ | refine pu_lss ?_ | refine pu_leq ?_ | refine pu_gtr ?_ | refine pu_geq ?_ | refine pu_add ?_ | refine pu_sub ?_ | refine pu_mul ?_ | refine pu_neg ?_ | refine fa_at ?_ | refine nl_ptr ?_ | refine ex20 ?_ | refine ex21 ?_ | refine ex30 ?_ | refine ex31 ?_ | refine ex32 ?_ | refine ln_rule ?_ | refine lnT_rule ?_ | refine pu_and ?_ | refine pu_or ?_ | refine pu_xor ?_ | refine pu_seq ?_ | refine pu_sne ?_)
  refine ld_here h2 (List.mem_append_right _ (.head _)) rfl ?_
  refine rl.ln hr ?_
  repeat (first | refine pu_not ?_ | refine pu_eql ?_ | refine pu_neq ?_ | refine pu_lss ?_ | refine pu_leq ?_ | refine pu_gtr ?_ | refine pu_geq ?_ | refine pu_add ?_ | refine pu_sub ?_ | refine pu_mul ?_ | refine pu_neg ?_ | refine fa_at ?_ | refine nl_ptr ?_ | refine ex20 ?_ | refine ex21 ?_ | refine ex30 ?_ | refine ex31 ?_ | refine ex32 ?_ | refine ln_rule ?_ | refine lnT_rule ?_ | refine pu_and ?_ | refine pu_or ?_ | refine pu_xor ?_ | refine pu_seq ?_ | refine pu_sne ?_)
  refine cnd (fun hlt => ?_) (fun hlt => ?_)
  · have hlt : i < L.length := by simpa using hlt
    have hks := hw.ks _ (lk_mem (i := (i : Int)) (by omega) (by omega))
    obtain ⟨ps, v1, p1, p2, p3, p4, p5⟩ := rl.at hr (i := (i : Int)) (by omega) (by omega)
    have hp2 : Sls (S ++ (b1, cel [s] T.t_linesmanref14_Locks) :: H) s 2 (rows ps) := Sls.mono p2 fun x hx => List.mem_append_right _ (.tail _ (hX x hx))
    have hon := takes_succ L i
    have hol := takes_len L i
    repeat (first | refine pu_not ?_ | refine pu_eql ?_ | refine pu_neq ?_ | refine pu_lss ?_ | refine pu_leq ?_ | refine pu_gtr ?_ | refine pu_geq ?_ | refine pu_add ?_ | refine pu_sub ?_ | refine pu_mul ?_ | refine pu_neg ?_ | refine fa_at ?_ | refine nl_ptr ?_ | refine ex20 ?_ | refine ex21 ?_ | refine ex30 ?_ | refine ex31 ?_ | refine ex32 ?_ | refine ln_rule ?_ | refine lnT_rule ?_ | refine pu_and ?_ | refine pu_or ?_ | refine pu_xor ?_ | refine pu_seq ?_ | refine pu_sne ?_)
    refine ld_here h2 (List.mem_append_right _ (.head _)) rfl ?_
    refine sls_fld h2 hp2 (by omega) p4 (v := vI (gk L i).wr) rfl ?_
    repeat (first | refine pu_not ?_ | refine pu_eql ?_ | refine pu_neq ?_ | refine pu_lss ?_ | refine pu_leq ?_ | refine pu_gtr ?_ | refine pu_geq ?_ | refine pu_add ?_ | refine pu_sub ?_ | refine pu_mul ?_ | refine pu_neg ?_ | refine fa_at ?_ | refine nl_ptr ?_ | refine ex20 ?_ | refine ex21 ?_ | refine ex30 ?_ | refine ex31 ?_ | refine ex32 ?_ | refine ln_rule ?_ | refine lnT_rule ?_ | refine pu_and ?_ | refine pu_or ?_ | refine pu_xor ?_ | refine pu_seq ?_ | refine pu_sne ?_)
    refine cnd (fun hq => ?_) (fun hq => ?_)
    · have hp : tkn (gk L i) = true := by simp at hq; simp [tkn, hq]
      rw [if_pos hp] at hon
      refine bs_rule h2 [vI i] (by kernel_rfl) (fun b2 w3 h3 => ?_)
      refine app1 (A := [_]) (z := vI 0) (bytes := 8) h3 ho (sl_here (b := b2) (l := [vI i]) (e := T.t_int) (.head _)) (fun y hy => hy) rfl und_sli info_int rfl (by simp [maxLen]; omega) (by simp; omega) (fun S' v' w4 h4 ho' => ?_)
      repeat (first | refine pu_not ?_ | refine pu_eql ?_ | refine pu_neq ?_ | refine pu_lss ?_ | refine pu_leq ?_ | refine pu_gtr ?_ | refine pu_geq ?_ | refine pu_add ?_ | refine pu_sub ?_ | refine pu_mul ?_ | refine pu_neg ?_ | refine fa_at ?_ | refine nl_ptr ?_ | refine ex20 ?_ | refine ex21 ?_ | refine ex30 ?_ | refine ex31 ?_ | refine ex32 ?_ | refine ln_rule ?_ | refine lnT_rule ?_ | refine pu_and ?_ | refine pu_or ?_ | refine pu_xor ?_ | refine pu_seq ?_ | refine pu_sne ?_)
      rw [wrap64_in (by omega) (by omega)]
      refine ⟨⟨i + 1, S', v', rfl, hlt, ?_, h4.drop⟩, by simp; omega⟩
      rw [hon]
      simpa using ho'
    · repeat (first | refine pu_not ?_ | refine pu_eql ?_ | refine pu_neq ?_ | refine pu_lss ?_ | refine pu_leq ?_ | refine pu_gtr ?_ | refine pu_geq ?_ | refine pu_add ?_ | refine pu_sub ?_ | refine pu_mul ?_ | refine pu_neg ?_ | refine fa_at ?_ | refine nl_ptr ?_ | refine ex20 ?_ | refine ex21 ?_ | refine ex30 ?_ | refine ex31 ?_ | refine ex32 ?_ | refine ln_rule ?_ | refine lnT_rule ?_ | refine pu_and ?_ | refine pu_or ?_ | refine pu_xor ?_ | refine pu_seq ?_ | refine pu_sne ?_)
      refine ld_here h2 (List.mem_append_right _ (.head _)) rfl ?_
      refine sls_fld h2 hp2 (by omega) p4 (v := v1) rfl ?_
      refine sl_ln p5 ?_
      rw [List.length_map]
      refine len_pos _ ?_
      refine cnd (fun hd => ?_) (fun hd => ?_)
      · have hp : tkn (gk L i) = true := by simp [List.length_pos_iff] at hd; simp [tkn, hd]
        rw [if_pos hp] at hon
        refine bs_rule h2 [vI i] (by kernel_rfl) (fun b2 w3 h3 => ?_)
        refine app1 (A := [_]) (z := vI 0) (bytes := 8) h3 ho (sl_here (b := b2) (l := [vI i]) (e := T.t_int) (.head _)) (fun y hy => hy) rfl und_sli info_int rfl (by simp [maxLen]; omega) (by simp; omega) (fun S' v' w4 h4 ho' => ?_)
        repeat (first | refine pu_not ?_ | refine pu_eql ?_ | refine pu_neq ?_ | refine pu_lss ?_ | refine pu_leq ?_ | refine pu_gtr ?_ | refine pu_geq ?_ | refine pu_add ?_ | refine pu_sub ?_ | refine pu_mul ?_ | refine pu_neg ?_ | refine fa_at ?_ | refine nl_ptr ?_ | refine ex20 ?_ | refine ex21 ?_ | refine ex30 ?_ | refine ex31 ?_ | refine ex32 ?_ | refine ln_rule ?_ | refine lnT_rule ?_ | refine pu_and ?_ | refine pu_or ?_ | refine pu_xor ?_ | refine pu_seq ?_ | refine pu_sne ?_)
        rw [wrap64_in (by omega) (by omega)]
        refine ⟨⟨i + 1, S', v', rfl, hlt, ?_, h4.drop⟩, by simp; omega⟩
        rw [hon]
        simpa using ho'
      · have hp : ¬ tkn (gk L i) = true := by simp at hq hd; simp [tkn, hd]; omega
        rw [if_neg hp, List.append_nil] at hon
        repeat (first | refine pu_not ?_ | refine pu_eql ?_ | refine pu_neq ?_ | refine pu_lss ?_ | refine pu_leq ?_ | refine pu_gtr ?_ | refine pu_geq ?_ | refine pu_add ?_ | refine pu_sub ?_ | refine pu_mul ?_ | refine pu_neg ?_ | refine fa_at ?_ | refine nl_ptr ?_ | refine ex20 ?_ | refine ex21 ?_ | refine ex30 ?_ | refine ex31 ?_ | refine ex32 ?_ | refine ln_rule ?_ | refine lnT_rule ?_ | refine pu_and ?_ | refine pu_or ?_ | refine pu_xor ?_ | refine pu_seq ?_ | refine pu_sne ?_)
        rw [wrap64_in (by omega) (by omega)]
        exact ⟨⟨i + 1, S, v, rfl, hlt, by rw [hon]; exact ho, h2⟩, by simp; omega⟩
  · obtain rfl : i = L.length := by simp at hlt; omega
    exact k S v _ (h2.sub ((List.Sublist.refl S).append (.cons _ (.refl _)))) ho.sl
theorem refNew_spec {many : Int} (h : Ow B w H) (kbad : ¬ (0 ≤ many ∧ many ≤ 64) → ∀ w', Ow B w' H → K (.tuple #[.agg #[.slice none 0 0], vI 2]) w')
    (k : 0 ≤ many → many ≤ 64 → ∀ X s w', rl X s (List.replicate many.toNat emp) → Ow B w' (X ++ H) → K (.tuple #[.agg #[s], vI 0]) w') : callW PG N.linesmanref14_New [vI many] K PK w := by
  refine linesmanref14_New.ok ?_
  unfold linesmanref14_New.C
  refine al_rule h (l := [.slice none 0 0]) (by kernel_rfl) (fun b1 w1 h1 => ?_)
  repeat (first | refine pu_not ?_ | refine pu_eql ?_ | refine pu_neq ?_ | refine pu_lss ?_ | refine pu_leq ?_ | refine pu_gtr ?_ | refine pu_geq ?_ | refine pu_add ?_ | refine pu_sub ?_ | refine pu_mul ?_ | refine pu_neg ?_ | refine fa_at ?_ | refine nl_ptr ?_ | refine ex20 ?_ | refine ex21 ?_ | refine ex30 ?_ | refine ex31 ?_ | refine ex32 ?_ | refine ln_rule ?_ | refine lnT_rule ?_ | refine pu_and ?_ | refine pu_or ?_ | refine pu_xor ?_ | refine pu_seq ?_ | refine pu_sne ?_)
  refine cnd (fun hlt => ?_) (fun hge => ?_)
  · refine pu_build [.slice none 0 0] (by kernel_rfl) ?_
    refine st1s (A := []) h1 rfl (fun w2 h2 => ?_)
    refine ld1 h2 (.head _) ?_
    exact kbad (by simp at hlt; omega) _ h2.drop
  repeat (first | refine pu_not ?_ | refine pu_eql ?_ | refine pu_neq ?_ | refine pu_lss ?_ | refine pu_leq ?_ | refine pu_gtr ?_ | refine pu_geq ?_ | refine pu_add ?_ | refine pu_sub ?_ | refine pu_mul ?_ | refine pu_neg ?_ | refine fa_at ?_ | refine nl_ptr ?_ | refine ex20 ?_ | refine ex21 ?_ | refine ex30 ?_ | refine ex31 ?_ | refine ex32 ?_ | refine ln_rule ?_ | refine lnT_rule ?_ | refine pu_and ?_ | refine pu_or ?_ | refine pu_xor ?_ | refine pu_seq ?_ | refine pu_sne ?_)
  refine cnd (fun hgt => ?_) (fun hle => ?_)
  · refine pu_build [.slice none 0 0] (by kernel_rfl) ?_
    refine st1s (A := []) h1 rfl (fun w2 h2 => ?_)
    refine ld1 h2 (.head _) ?_
    exact kbad (by simp at hgt; omega) _ h2.drop
  have h0 : 0 ≤ many := by simp at hge; omega
  have h1' : many ≤ 64 := by simp at hle; omega
  obtain ⟨n, rfl⟩ : ∃ n : Nat, many = n := ⟨many.toNat, by omega⟩
  refine mkW_rule (n := n) (m := n) (z := .agg #[.slice none 0 0, vI 0]) h1 (by kernel_rfl) rfl rfl (Nat.le_refl _) (by omega) (by omega) (fun b2 w2 h2 => ?_)
  refine pu_build [.slice (some ⟨b2, 0, none⟩) n n] (by kernel_rfl) ?_
  refine st1s (A := [_]) h2 rfl (fun w3 h3 => ?_)
  refine ld1 h3 (.tail _ (.head _)) ?_
  have hrow : rows (List.replicate n (Value.slice none 0 0, emp)) = List.replicate n [.slice none 0 0, vI 0] := by simp [rows, emp]
  have hfl : ∀ n : Nat, (List.range (n * 2)).map (fun x => (Value.agg #[.slice none 0 0, vI 0]).cells[x % (Value.agg #[.slice none 0 0, vI 0]).cells.size]!) = (List.replicate n [Value.slice none 0 0, vI 0]).flatten := by
    intro n
    induction n with
    | zero => rfl
    | succ n ih =>
      rw [show (n + 1) * 2 = n * 2 + 1 + 1 by omega, List.range_succ, List.range_succ, List.map_append, List.map_append, ih, List.replicate_succ', List.flatten_append]
      have a1 : (n * 2) % 2 = 0 := by omega
      have a2 : (n * 2 + 1) % 2 = 1 := by omega
      simp [Value.cells, a1, a2]
  refine k h0 h1' [(b2, cel _ T.t_linesmanref14_Lock)] _ _ ⟨List.replicate n (.slice none 0 0, emp), ?_, ?_, ?_⟩ (h3.sub (.cons_cons _ (.cons _ (.refl _))))
  · simp
  · refine own_sls (e := T.t_linesmanref14_Lock) (rows_two _) ?_
    rw [hrow, List.length_replicate]
    refine Own.mk (Nat.le_refl _) (by simp [maxLen]; omega) (by simp) ?_
    rw [List.take_of_length_le (by simp)]
    exact hfl n
  · intro p hp
    obtain ⟨_, rfl⟩ := List.mem_replicate.1 hp
    exact sl_nil _ _ rfl
end
end Go.Proofs.Ytaifohjgamhhnaa
