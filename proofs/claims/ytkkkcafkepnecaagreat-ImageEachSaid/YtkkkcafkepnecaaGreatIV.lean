/- Images: the document's reading of a program, walked. -/
import Derived.Test.YtkkkcafkepnecaaGreatIT
import Derived.Test.YtkkkcafkepnecaaGreatZS
import Derived.Test.YtkkkcafkepnecaaGreatJV

set_option linter.unusedVariables false
set_option linter.unusedSimpArgs false
set_option linter.unnecessarySimpa false
namespace Go.Proofs.YtkkkcafkepnecaaGreat.Im
open Go Go.RowKit Vc Oc Dg
attribute [local irreducible] binV Op.unary convert nlW faW ldS ldW ixS ixA ixV ixT exW lnS lnT pu stW alW opW opU bsW mkW

section
variable {B w : World} {H C X Y : Hp} {K KW : Value → World → Prop} {KK : Value → Prop} {PK : List PanicEntry → World → Prop} {s : Value} {l : List Nat} {a : Nat} {e : Int}
theorem st_ins {k : List Ins → Nat → Out} {n : Nat} {acc : List Ins} (h : St l a 0 (fun a => rcode l k (n + 1) a acc)) : St l (riN l a 0).1 (riN l a 0).2.1 (fun b => rcode l k n b (acc ++ [(riN l a 0).2.2])) := by
  have h : progR l = andE (rins l a) fun q => rcode l k n q.2 (acc ++ [q.1]) := st_ok h
  have er : riN l a 0 = (a + (insR (l.drop a)).2.1, eI (insR (l.drop a)).2.2, (insR (l.drop a)).1) := by unfold riN; rw [if_neg (by simp)]
  simp only [er]
  unfold rins at h
  rcases insR_cases (l.drop a) with ⟨h0, _⟩ | h0 | h0
  · rw [if_pos h0, andE_ok] at h
    rw [h0]
    exact .inl ⟨rfl, h⟩
  · rw [h0] at h ⊢
    exact .inr ⟨by show (110 : Int) ≠ 0; decide, h⟩
  · rw [h0] at h ⊢
    exact .inr ⟨by show (200 : Int) ≠ 0; decide, h⟩
theorem riN_le (ha : a ≤ l.length) : (riN l a 0).1 ≤ l.length := by
  unfold riN
  rw [if_neg (by simp)]
  show a + (insR (l.drop a)).2.1 ≤ l.length
  rcases insR_cases (l.drop a) with ⟨_, _, _, h4⟩ | h4 | h4
  · rw [List.length_drop] at h4; omega
  · rw [h4]; simpa using ha
  · rw [h4]; simpa using ha
theorem riN_imm (hb : Byt l) : 0 ≤ (riN l a 0).2.2.imm ∧ (riN l a 0).2.2.imm < 4294967296 := by
  unfold riN
  rw [if_neg (by simp)]
  exact insR_imm (byt_drop hb a)
abbrev z4 : List Value := [.slice none 0 0, vI 0, vI 0]
theorem refprog_spec (hs : Sl X s (bv l)) (hX : ∀ y, y ∈ X → y ∈ H) (hb : Byt l) (hl : l.length ≤ 800000) (h : Ow B w H)
    (k1 : ∀ F v p n w', progR l = .ok (p, n) → CpP F v p.fs → (∀ f ∈ p.fs, immOk f.code) → Ow B w' (F ++ H) → K (.tuple #[.agg (rdC s n 0).toArray, .agg (p.cells v).toArray]) w')
    (k2 : ∀ n e w', progR l = .error e → e ≠ 0 → Ow B w' H → K (.tuple #[.agg (rdC s n e).toArray, .agg (p0.cells nilS).toArray]) w') : callW PG N.linesmanref10_Reader_program [.agg (rdC s 0 0).toArray] K PK w := by
  refine linesmanref10_Reader_program.ok ?_
  unfold linesmanref10_Reader_program.C
  have hl60 : l.length < 2 ^ 60 := by omega
  have hac : (Value.agg (rdC s 0 0).toArray).cells = (rdC s 0 0).toArray := rfl
  refine al_rule h (l := rdC s 0 0) hac (fun b2 w1 h1 => ?_)
  refine al_rule h1 (l := z4) (by kernel_rfl) (fun b4 w2 h2 => ?_)
  refine al_rule h2 (l := p0.cells nilS) (by kernel_rfl) (fun b6 w3 h3 => ?_)
  refine al_rule h3 (l := p0.cells nilS) (by kernel_rfl) (fun b9 w4 h4 => ?_)
  have h4 : Ow B w4 (([] ++ [(b9, cel (p0.cells nilS) T.t_api_Program), (b6, cel (p0.cells nilS) T.t_api_Program), (b4, cel z4 T.t_linesmanref10_Reader)]) ++ (b2, rdO s 0 0) :: H) := h4
  have m2 : ∀ {Y : Hp} {c : List Value}, (b2, cel c T.t_linesmanref10_Reader) ∈ Y ++ (b2, cel c T.t_linesmanref10_Reader) :: H := List.mem_append_right _ (.head _)
  have hfail : ∀ {Y : Hp} {o9 : Obj} {w : World} {n : Nat} {e : Int}, progR l = .error e → e ≠ 0 → Ow B w ((Y ++ [(b9, o9), (b6, cel (p0.cells nilS) T.t_api_Program), (b4, cel z4 T.t_linesmanref10_Reader)]) ++ (b2, rdO s n e) :: H) →
      ldW (some 3) (ptr b2) w fun t182 => pu PG (Instr.build T.t_api_Program #[]) fun t183 => stW 3 (ptr b4) t182 (fun w184 => stW 4 (ptr b6) t183 (fun w185 => ldW (some 3) (ptr b4) w185 fun t186 => ldW (some 4) (ptr b6) w185 fun t187 => K (.tuple #[t186, t187]) w185) w184) w :=
    fun {Y o9 w n e} hP he h => rp_fail (Y := Y ++ [(b9, o9)]) hs rfl rfl (by simpa using h) (fun w' h' => k2 n e w' hP he h')
  refine ⟨fun l' w => ∃ (i a : Nat) (e : Int), l' = [vI i] ∧ i ≤ 4 ∧ a ≤ l.length ∧ St l a e (fun a => rmag l (rbody l) (magic.drop i) a) ∧
      Ow B w (([] ++ [(b9, cel (p0.cells nilS) T.t_api_Program), (b6, cel (p0.cells nilS) T.t_api_Program), (b4, cel z4 T.t_linesmanref10_Reader)]) ++ (b2, rdO s a e) :: H),
    fun l' _ => match l' with | [.int _ q] => 4 - q.toNat | _ => 0, ⟨0, 0, 0, rfl, by omega, by omega, .inl ⟨rfl, rfl⟩, h4⟩, ?_⟩
  clear h4 h3 h2 h1 h
  rintro l' w5 ⟨i, a, e, rfl, hi, ha, hS, h5⟩ j
  simp only [gv, List.getD_cons_zero, List.getD_cons_succ]
  repeat (first | refine pu_not ?_ | refine pu_eql ?_ | refine pu_neq ?_ | refine pu_lss ?_ | refine pu_leq ?_ | refine pu_gtr ?_ | refine pu_geq ?_ | refine pu_add ?_ | refine pu_sub ?_ | refine fa_at ?_ | refine nl_ptr ?_ | refine ex20 ?_ | refine ex21 ?_ | refine ex30 ?_ | refine ex31 ?_ | refine ex32 ?_ | refine ln_rule ?_ | refine pu_seq ?_ | refine pu_sne ?_)
  refine cnd (fun hlt => ?_) (fun hlt => ?_)
  · have hlt : i < 4 := by have := of_decide_eq_true hlt; omega
    have hml : i < magic.length := hlt
    have hc : magic[i]? = some magic[i] := List.getElem?_eq_getElem hml
    have hc256 : magic[i] < 256 := (by decide : ∀ x ∈ magic, x < 256) _ (List.getElem_mem hml)
    rw [List.drop_eq_getElem_cons hml] at hS
    generalize magic[i] = c at hc hS hc256
    refine rnum_step (wd := 1) (F' := fun v a => if v = c then rmag l (rbody l) (magic.drop (i + 1)) a else .error 200) hs hX hb hl60 ha rfl (by omega) h5 hS (fun a' e' v' w6 hS' ha' hv' h6 => ?_)
    repeat (first | refine pu_not ?_ | refine pu_eql ?_ | refine pu_neq ?_ | refine pu_lss ?_ | refine pu_leq ?_ | refine pu_gtr ?_ | refine pu_geq ?_ | refine pu_add ?_ | refine pu_sub ?_ | refine fa_at ?_ | refine nl_ptr ?_ | refine ex20 ?_ | refine ex21 ?_ | refine ex30 ?_ | refine ex31 ?_ | refine ex32 ?_ | refine ln_rule ?_ | refine pu_seq ?_ | refine pu_sne ?_)
    refine ld_here h6 m2 (v := vI e') rfl ?_
    repeat (first | refine pu_not ?_ | refine pu_eql ?_ | refine pu_neq ?_ | refine pu_lss ?_ | refine pu_leq ?_ | refine pu_gtr ?_ | refine pu_geq ?_ | refine pu_add ?_ | refine pu_sub ?_ | refine fa_at ?_ | refine nl_ptr ?_ | refine ex20 ?_ | refine ex21 ?_ | refine ex30 ?_ | refine ex31 ?_ | refine ex32 ?_ | refine ln_rule ?_ | refine pu_seq ?_ | refine pu_sne ?_)
    have go : ∀ w, Ow B w (([] ++ [(b9, cel (p0.cells nilS) T.t_api_Program), (b6, cel (p0.cells nilS) T.t_api_Program), (b4, cel z4 T.t_linesmanref10_Reader)]) ++ (b2, rdO s a' e') :: H) → St l a' e' (fun a => rmag l (rbody l) (magic.drop (i + 1)) a) →
        (∃ (i_1 a : Nat) (e : Int), [vI ((i + 1 : Nat) : Int)] = [vI i_1] ∧ i_1 ≤ 4 ∧ a ≤ l.length ∧ St l a e (fun a => rmag l (rbody l) (magic.drop i_1) a) ∧
          Ow B w (([] ++ [(b9, cel (p0.cells nilS) T.t_api_Program), (b6, cel (p0.cells nilS) T.t_api_Program), (b4, cel z4 T.t_linesmanref10_Reader)]) ++ (b2, rdO s a e) :: H)) := fun w h hS => ⟨i + 1, a', e', rfl, by omega, ha', hS, h⟩
    refine cnd (fun hq => ?_) (fun hq => ?_)
    · have hq : e' = 0 := by simpa using hq
      subst hq
      refine cvt (by kernel_rfl) und_u8 (m := (v' : Int)) (by rw [wrapu8]; omega) ?_
      refine ixT_at (l := [108, 105, 110, 101]) (show ∀ x ∈ [108, 105, 110, 101], x < 256 by decide) (show magic[i]? = some c from hc) ?_
      have hP := st_ok hS'
      repeat (first | refine pu_not ?_ | refine pu_eql ?_ | refine pu_neq ?_ | refine pu_lss ?_ | refine pu_leq ?_ | refine pu_gtr ?_ | refine pu_geq ?_ | refine pu_add ?_ | refine pu_sub ?_ | refine fa_at ?_ | refine nl_ptr ?_ | refine ex20 ?_ | refine ex21 ?_ | refine ex30 ?_ | refine ex31 ?_ | refine ex32 ?_ | refine ln_rule ?_ | refine pu_seq ?_ | refine pu_sne ?_)
      refine cnd (fun hq => ?_) (fun hq => ?_)
      · have hq : ¬ v' = c := by
          have hq : ¬ (v' : Int) = (c : Int) := by simpa using hq
          omega
        rw [if_neg hq] at hP
        repeat (first | refine pu_not ?_ | refine pu_eql ?_ | refine pu_neq ?_ | refine pu_lss ?_ | refine pu_leq ?_ | refine pu_gtr ?_ | refine pu_geq ?_ | refine pu_add ?_ | refine pu_sub ?_ | refine fa_at ?_ | refine nl_ptr ?_ | refine ex20 ?_ | refine ex21 ?_ | refine ex30 ?_ | refine ex31 ?_ | refine ex32 ?_ | refine ln_rule ?_ | refine pu_seq ?_ | refine pu_sne ?_)
        refine st1_here h6 rfl rfl (by simp [rdC]) (fun w7 h7 => ?_)
        repeat (first | refine pu_not ?_ | refine pu_eql ?_ | refine pu_neq ?_ | refine pu_lss ?_ | refine pu_leq ?_ | refine pu_gtr ?_ | refine pu_geq ?_ | refine pu_add ?_ | refine pu_sub ?_ | refine fa_at ?_ | refine nl_ptr ?_ | refine ex20 ?_ | refine ex21 ?_ | refine ex30 ?_ | refine ex31 ?_ | refine ex32 ?_ | refine ln_rule ?_ | refine pu_seq ?_ | refine pu_sne ?_)
        rw [wrapN (by omega)]
        exact ⟨⟨i + 1, a', 200, rfl, by omega, ha', .inr ⟨by decide, hP⟩, h7⟩, by simp; omega⟩
      · have hq : v' = c := by
          have hq : (v' : Int) = (c : Int) := by simpa using hq
          omega
        rw [if_pos hq] at hP
        repeat (first | refine pu_not ?_ | refine pu_eql ?_ | refine pu_neq ?_ | refine pu_lss ?_ | refine pu_leq ?_ | refine pu_gtr ?_ | refine pu_geq ?_ | refine pu_add ?_ | refine pu_sub ?_ | refine fa_at ?_ | refine nl_ptr ?_ | refine ex20 ?_ | refine ex21 ?_ | refine ex30 ?_ | refine ex31 ?_ | refine ex32 ?_ | refine ln_rule ?_ | refine pu_seq ?_ | refine pu_sne ?_)
        rw [wrapN (by omega)]
        exact ⟨go _ h6 (.inl ⟨rfl, hP⟩), by simp; omega⟩
    · have hq : e' ≠ 0 := by simpa using hq
      repeat (first | refine pu_not ?_ | refine pu_eql ?_ | refine pu_neq ?_ | refine pu_lss ?_ | refine pu_leq ?_ | refine pu_gtr ?_ | refine pu_geq ?_ | refine pu_add ?_ | refine pu_sub ?_ | refine fa_at ?_ | refine nl_ptr ?_ | refine ex20 ?_ | refine ex21 ?_ | refine ex30 ?_ | refine ex31 ?_ | refine ex32 ?_ | refine ln_rule ?_ | refine pu_seq ?_ | refine pu_sne ?_)
      rw [wrapN (by omega)]
      exact ⟨go _ h6 (st_ne hS' hq), by simp; omega⟩
  · obtain rfl : i = 4 := by simp at hlt; omega
    have hS : St l a e (rbody l) := hS
    rw [rbody_eq] at hS
    clear hlt hi
    refine rnum_step (wd := 1) (F' := F1 l) hs hX hb hl60 ha rfl (by omega) h5 hS (fun a e mu w5 hS ha _ h5 => ?_)
    repeat (first | refine pu_not ?_ | refine pu_eql ?_ | refine pu_neq ?_ | refine pu_lss ?_ | refine pu_leq ?_ | refine pu_gtr ?_ | refine pu_geq ?_ | refine pu_add ?_ | refine pu_sub ?_ | refine fa_at ?_ | refine nl_ptr ?_ | refine ex20 ?_ | refine ex21 ?_ | refine ex30 ?_ | refine ex31 ?_ | refine ex32 ?_ | refine ln_rule ?_ | refine pu_seq ?_ | refine pu_sne ?_)
    have h5 : Ow B w5 ([] ++ (b9, cel (p0.cells nilS) T.t_api_Program) :: ([(b6, cel (p0.cells nilS) T.t_api_Program), (b4, cel z4 T.t_linesmanref10_Reader)] ++ (b2, rdO s a e) :: H)) := h5
    refine st1_here h5 rfl rfl (by simp [Pr.cells]) (fun w5 h5 => ?_)
    have h5 : Ow B w5 (([] ++ [(b9, prO nilS mu 0 0), (b6, cel (p0.cells nilS) T.t_api_Program), (b4, cel z4 T.t_linesmanref10_Reader)]) ++ (b2, rdO s a e) :: H) := h5
    refine rnum_step (wd := 1) (F' := F2 l mu) hs hX hb hl60 ha rfl (by omega) h5 hS (fun a e rw_ w5 hS ha _ h5 => ?_)
    repeat (first | refine pu_not ?_ | refine pu_eql ?_ | refine pu_neq ?_ | refine pu_lss ?_ | refine pu_leq ?_ | refine pu_gtr ?_ | refine pu_geq ?_ | refine pu_add ?_ | refine pu_sub ?_ | refine fa_at ?_ | refine nl_ptr ?_ | refine ex20 ?_ | refine ex21 ?_ | refine ex30 ?_ | refine ex31 ?_ | refine ex32 ?_ | refine ln_rule ?_ | refine pu_seq ?_ | refine pu_sne ?_)
    have h5 : Ow B w5 ([] ++ (b9, prO nilS mu 0 0) :: ([(b6, cel (p0.cells nilS) T.t_api_Program), (b4, cel z4 T.t_linesmanref10_Reader)] ++ (b2, rdO s a e) :: H)) := h5
    refine st1_here h5 rfl rfl (by simp) (fun w5 h5 => ?_)
    have h5 : Ow B w5 (([] ++ [(b9, prO nilS mu rw_ 0), (b6, cel (p0.cells nilS) T.t_api_Program), (b4, cel z4 T.t_linesmanref10_Reader)]) ++ (b2, rdO s a e) :: H) := h5
    refine rnum_step (wd := 1) (F' := F3 l mu rw_) hs hX hb hl60 ha rfl (by omega) h5 hS (fun a e gr w5 hS ha _ h5 => ?_)
    repeat (first | refine pu_not ?_ | refine pu_eql ?_ | refine pu_neq ?_ | refine pu_lss ?_ | refine pu_leq ?_ | refine pu_gtr ?_ | refine pu_geq ?_ | refine pu_add ?_ | refine pu_sub ?_ | refine fa_at ?_ | refine nl_ptr ?_ | refine ex20 ?_ | refine ex21 ?_ | refine ex30 ?_ | refine ex31 ?_ | refine ex32 ?_ | refine ln_rule ?_ | refine pu_seq ?_ | refine pu_sne ?_)
    have h5 : Ow B w5 ([] ++ (b9, prO nilS mu rw_ 0) :: ([(b6, cel (p0.cells nilS) T.t_api_Program), (b4, cel z4 T.t_linesmanref10_Reader)] ++ (b2, rdO s a e) :: H)) := h5
    refine st1_here h5 rfl rfl (by simp) (fun w5 h5 => ?_)
    have h5 : Ow B w5 (([] ++ [(b9, prO nilS mu rw_ gr), (b6, cel (p0.cells nilS) T.t_api_Program), (b4, cel z4 T.t_linesmanref10_Reader)]) ++ (b2, rdO s a e) :: H) := h5
    refine rnum_step (wd := 1) (F' := fun n a => rfuns l (fin l mu rw_ gr) n a []) hs hX hb hl60 ha rfl (by omega) h5 hS (fun a0 e0 many w5 hS ha0 hmany h5 => ?_)
    refine ⟨fun l' w => ∃ (j a : Nat) (e : Int) (es : List CE) (acc : List Fun) (Sf : Hp) (v : Value), l' = [vI j] ∧ j ≤ many ∧ a ≤ l.length ∧ es.map CE.f = acc ∧ acc.length = j ∧ (∀ e ∈ es, e.ok) ∧ (∀ f ∈ acc, immOk f.code) ∧
        Vc.Own Sf T.t_api_Func 2 v (crows es).length (crows es).flatten ∧ St l a e (fun a => rfuns l (fin l mu rw_ gr) (many - j) a acc) ∧
        Ow B w (((Sf ++ cfoot es) ++ [(b9, prO v mu rw_ gr), (b6, cel (p0.cells nilS) T.t_api_Program), (b4, cel z4 T.t_linesmanref10_Reader)]) ++ (b2, rdO s a e) :: H),
      fun l' _ => match l' with | [.int _ q] => many - q.toNat | _ => 0, ⟨0, a0, e0, [], [], [], .slice none 0 0, rfl, Nat.zero_le _, ha0, rfl, rfl, by simp, by simp, own_none _ _, hS, h5⟩, ?_⟩
    clear h5 hS ha0 ha
    rintro l' w6 ⟨j, a1, e1, es, acc, Sf, v, rfl, hj, ha1, hes, hacc, hok, himm, hof, hS, h6⟩ jj
    simp only [gv, List.getD_cons_zero, List.getD_cons_succ]
    have hesl : es.length = j := by rw [← hacc, ← hes, List.length_map]
    have hcl : (crows es).length = j := by simp [crows, hesl]
    have hF : CpP (Sf ++ cfoot es) v acc := ⟨Sf, es, hes, hok, hof, rfl⟩
    obtain ⟨g1, g2, hg⟩ := hof.len
    -- the end, in error
    repeat (first | refine pu_not ?_ | refine pu_eql ?_ | refine pu_neq ?_ | refine pu_lss ?_ | refine pu_leq ?_ | refine pu_gtr ?_ | refine pu_geq ?_ | refine pu_add ?_ | refine pu_sub ?_ | refine fa_at ?_ | refine nl_ptr ?_ | refine ex20 ?_ | refine ex21 ?_ | refine ex30 ?_ | refine ex31 ?_ | refine ex32 ?_ | refine ln_rule ?_ | refine pu_seq ?_ | refine pu_sne ?_)
    refine cnd (fun hlt => ?_) (fun hlt => ?_)
    · have hlt : j < many := by simpa using hlt
      repeat (first | refine pu_not ?_ | refine pu_eql ?_ | refine pu_neq ?_ | refine pu_lss ?_ | refine pu_leq ?_ | refine pu_gtr ?_ | refine pu_geq ?_ | refine pu_add ?_ | refine pu_sub ?_ | refine fa_at ?_ | refine nl_ptr ?_ | refine ex20 ?_ | refine ex21 ?_ | refine ex30 ?_ | refine ex31 ?_ | refine ex32 ?_ | refine ln_rule ?_ | refine pu_seq ?_ | refine pu_sne ?_)
      refine ld_here h6 m2 (v := vI e1) rfl ?_
      repeat (first | refine pu_not ?_ | refine pu_eql ?_ | refine pu_neq ?_ | refine pu_lss ?_ | refine pu_leq ?_ | refine pu_gtr ?_ | refine pu_geq ?_ | refine pu_add ?_ | refine pu_sub ?_ | refine fa_at ?_ | refine nl_ptr ?_ | refine ex20 ?_ | refine ex21 ?_ | refine ex30 ?_ | refine ex31 ?_ | refine ex32 ?_ | refine ln_rule ?_ | refine pu_seq ?_ | refine pu_sne ?_)
      refine cnd (fun hq => ?_) (fun hq => ?_)
      case' refine_2 =>
        have he : e1 ≠ 0 := by simpa using hq
        repeat (first | refine pu_not ?_ | refine pu_eql ?_ | refine pu_neq ?_ | refine pu_lss ?_ | refine pu_leq ?_ | refine pu_gtr ?_ | refine pu_geq ?_ | refine pu_add ?_ | refine pu_sub ?_ | refine fa_at ?_ | refine nl_ptr ?_ | refine ex20 ?_ | refine ex21 ?_ | refine ex30 ?_ | refine ex31 ?_ | refine ex32 ?_ | refine ln_rule ?_ | refine pu_seq ?_ | refine pu_sne ?_)
        refine ld_here h6 m2 (v := vI a1) rfl ?_
        repeat (first | refine pu_not ?_ | refine pu_eql ?_ | refine pu_neq ?_ | refine pu_lss ?_ | refine pu_leq ?_ | refine pu_gtr ?_ | refine pu_geq ?_ | refine pu_add ?_ | refine pu_sub ?_ | refine fa_at ?_ | refine nl_ptr ?_ | refine ex20 ?_ | refine ex21 ?_ | refine ex30 ?_ | refine ex31 ?_ | refine ex32 ?_ | refine ln_rule ?_ | refine pu_seq ?_ | refine pu_sne ?_)
        refine ld_here h6 m2 (v := vI e1) rfl ?_
        repeat (first | refine pu_not ?_ | refine pu_eql ?_ | refine pu_neq ?_ | refine pu_lss ?_ | refine pu_leq ?_ | refine pu_gtr ?_ | refine pu_geq ?_ | refine pu_add ?_ | refine pu_sub ?_ | refine fa_at ?_ | refine nl_ptr ?_ | refine ex20 ?_ | refine ex21 ?_ | refine ex30 ?_ | refine ex31 ?_ | refine ex32 ?_ | refine ln_rule ?_ | refine pu_seq ?_ | refine pu_sne ?_)
        refine cnd_f (by rw [ibeq]; exact decide_eq_false he) ?_
        repeat (first | refine pu_not ?_ | refine pu_eql ?_ | refine pu_neq ?_ | refine pu_lss ?_ | refine pu_leq ?_ | refine pu_gtr ?_ | refine pu_geq ?_ | refine pu_add ?_ | refine pu_sub ?_ | refine fa_at ?_ | refine nl_ptr ?_ | refine ex20 ?_ | refine ex21 ?_ | refine ex30 ?_ | refine ex31 ?_ | refine ex32 ?_ | refine ln_rule ?_ | refine pu_seq ?_ | refine pu_sne ?_)
        refine ld_here h6 m2 (v := vI e1) rfl ?_
        repeat (first | refine pu_not ?_ | refine pu_eql ?_ | refine pu_neq ?_ | refine pu_lss ?_ | refine pu_leq ?_ | refine pu_gtr ?_ | refine pu_geq ?_ | refine pu_add ?_ | refine pu_sub ?_ | refine fa_at ?_ | refine nl_ptr ?_ | refine ex20 ?_ | refine ex21 ?_ | refine ex30 ?_ | refine ex31 ?_ | refine ex32 ?_ | refine ln_rule ?_ | refine pu_seq ?_ | refine pu_sne ?_)
        refine cnd_t (by simpa using he) ?_
        exact hfail (st_err hS he) he h6
      have hq : e1 = 0 := by simpa using hq
      subst hq
      obtain ⟨d, hd⟩ : ∃ d, many - j = d + 1 := ⟨many - j - 1, by omega⟩
      rw [hd] at hS
      refine rnum_step (wd := 1) (F' := fun r a => andE (num l a 2) fun m => rcode l (fun c a' => rfuns l (fin l mu rw_ gr) d a' (acc ++ [(⟨(r : Int), c⟩ : Fun)])) m (a + 2) []) hs hX hb hl60 ha1 rfl (by omega) h6 hS (fun a2 e2 r w7 hS ha2 _ h7 => ?_)
      refine rnum_step (wd := 2) (F' := fun m a => rcode l (fun c a' => rfuns l (fin l mu rw_ gr) d a' (acc ++ [(⟨(r : Int), c⟩ : Fun)])) m a []) hs hX hb hl60 ha2 rfl (by omega) h7 hS (fun a3 e3 m w8 hS ha3 hm h8 => ?_)
      refine pu_build [vI r, .slice none 0 0] (by kernel_rfl) ?_
      refine al_rule h8 (l := [vI 0, .slice none 0 0]) (by kernel_rfl) (fun b52 w9 h9 => ?_)
      refine st_here (A := []) h9 [vI r, .slice none 0 0] rfl rfl rfl (by simp) (fun w10 h10 => ?_)
      simp only [List.take_zero, List.nil_append, Nat.zero_add, List.drop_succ_cons, List.drop_zero, List.drop_nil, List.append_nil] at h10
      have h10 : Ow B w10 (([] ++ (b52, fnO r (.slice none 0 0)) :: ((Sf ++ cfoot es) ++ [(b9, prO v mu rw_ gr), (b6, cel (p0.cells nilS) T.t_api_Program), (b4, cel z4 T.t_linesmanref10_Reader)])) ++ (b2, rdO s a3 e3) :: H) := h10
      refine ⟨fun l' w => ∃ (i a' : Nat) (e' : Int) (code : List Ins) (Sc : Hp) (c : Value), l' = [vI i] ∧ i ≤ m ∧ a' ≤ l.length ∧ code.length = i ∧ immOk code ∧
          Vc.Own Sc T.t_api_Ins 5 c (icode code).length (icode code).flatten ∧ St l a' e' (fun a' => rcode l (fun c a' => rfuns l (fin l mu rw_ gr) d a' (acc ++ [⟨r, c⟩])) (m - i) a' code) ∧
          Ow B w ((Sc ++ (b52, fnO r c) :: ((Sf ++ cfoot es) ++ [(b9, prO v mu rw_ gr), (b6, cel (p0.cells nilS) T.t_api_Program), (b4, cel z4 T.t_linesmanref10_Reader)])) ++ (b2, rdO s a' e') :: H),
        fun l' _ => match l' with | [.int _ q] => m - q.toNat | _ => 0, ⟨0, a3, e3, [], [], .slice none 0 0, rfl, Nat.zero_le _, ha3, rfl, by simp [immOk], own_none _ _, hS, h10⟩, ?_⟩
      clear h10 h9 h8 h7 h6 hS
      rintro l' w11 ⟨i, a', e', code, Sc, c, rfl, hi, ha', hcode, hic, hoc, hS, h11⟩ jj
      simp only [gv, List.getD_cons_zero, List.getD_cons_succ]
      have hil : (icode code).length = i := by simp [icode, hcode]
      obtain ⟨q1, q2, hqc⟩ := hoc.len
      -- a function is done
      have hfun : St l a' e' (fun a => rfuns l (fin l mu rw_ gr) d a (acc ++ [⟨r, code⟩])) → ∀ KN : Value → World → Prop, (∀ w' (v' : Value) (Sf' : Hp), Vc.Own Sf' T.t_api_Func 2 v' (crows (es ++ [⟨Sc, c, ⟨r, code⟩⟩])).length (crows (es ++ [⟨Sc, c, ⟨r, code⟩⟩])).flatten →
            Ow B w' (((Sf' ++ cfoot (es ++ [⟨Sc, c, ⟨r, code⟩⟩])) ++ [(b9, prO v' mu rw_ gr), (b6, cel (p0.cells nilS) T.t_api_Program), (b4, cel z4 T.t_linesmanref10_Reader)]) ++ (b2, rdO s a' e') :: H) → KN (vI (j + 1 : Nat)) w') →
          faW 0 (ptr b9) fun t141 => ldW none t141 w11 fun t142 => ldW (some 2) (ptr b52) w11 fun t143 => bsW T.t_api_Func 1 (bsC PG T.t_api_Func 1 [(0, t143)]) (fun t144 w145 => opW PG (Builtin.append_ #[T.t_sl_api_Func, T.t_sl_api_Func] T.t_sl_api_Func #[t142, t144]) (fun t146 w147 => faW 0 (ptr b9) fun t148 => stW 1 t148 t146 (fun w149 => pu PG (binV .add T.t_int true (vI j) (.int .i64 1)) fun t159 => KN t159 w149) w147) w145) w11 := fun _ KN kn => by
        repeat (first | refine pu_not ?_ | refine pu_eql ?_ | refine pu_neq ?_ | refine pu_lss ?_ | refine pu_leq ?_ | refine pu_gtr ?_ | refine pu_geq ?_ | refine pu_add ?_ | refine pu_sub ?_ | refine fa_at ?_ | refine nl_ptr ?_ | refine ex20 ?_ | refine ex21 ?_ | refine ex30 ?_ | refine ex31 ?_ | refine ex32 ?_ | refine ln_rule ?_ | refine pu_seq ?_ | refine pu_sne ?_)
        refine ld_here h11 (List.mem_append_left _ (List.mem_append_right _ (.tail _ (List.mem_append_right _ (.head _))))) (v := v) rfl ?_
        refine ldn_here h11 (List.mem_append_left _ (List.mem_append_right _ (.head _))) (vs := [vI r, c]) rfl rfl ?_
        refine bs_rule h11 [vI r, c] (by rw [hqc]; kernel_rfl) (fun b83 w12 h12 => ?_)
        obtain ⟨ii, i1, i2, i3, i4⟩ := info_of info_func
        have h12 : Ow B w12 (((b83, cel [vI r, c] T.t_api_Func) :: (Sc ++ [(b52, fnO r c)])) ++ Sf ++ (cfoot es ++ [(b9, prO v mu rw_ gr), (b6, cel (p0.cells nilS) T.t_api_Program), (b4, cel z4 T.t_linesmanref10_Reader)] ++ (b2, rdO s a' e') :: H)) := by simpa using h12
        refine app_rule (m := 1) h12 hof (src_here (b := b83) (l := [vI r, c]) (e := T.t_api_Func) (len := 1) (size := 2) (.head _) rfl) (fun y hy => hy) (by rw [hqc]; rfl) und_slfunc i1 i2 i3 i4 rfl (by omega) (by rw [hcl]; simp only [maxLen]; omega) (by rw [hcl]; omega) (fun S' v' w13 h13 ho' => ?_)
        obtain ⟨p1, p2, hp⟩ := ho'.len
        repeat (first | refine pu_not ?_ | refine pu_eql ?_ | refine pu_neq ?_ | refine pu_lss ?_ | refine pu_leq ?_ | refine pu_gtr ?_ | refine pu_geq ?_ | refine pu_add ?_ | refine pu_sub ?_ | refine fa_at ?_ | refine nl_ptr ?_ | refine ex20 ?_ | refine ex21 ?_ | refine ex30 ?_ | refine ex31 ?_ | refine ex32 ?_ | refine ln_rule ?_ | refine pu_seq ?_ | refine pu_sne ?_)
        have h13 : Ow B w13 (((b83, cel [vI r, c] T.t_api_Func) :: (Sc ++ ([(b52, fnO r c)] ++ (S' ++ cfoot es)))) ++ (b9, prO v mu rw_ gr) :: ([(b6, cel (p0.cells nilS) T.t_api_Program), (b4, cel z4 T.t_linesmanref10_Reader)] ++ (b2, rdO s a' e') :: H)) := by simpa using h13
        refine st1_here h13 (by rw [hp]; rfl) (by rw [hp]; rfl) (by simp) (fun w14 h14 => ?_)
        have h14 : Ow B w14 (((b83, cel [vI r, c] T.t_api_Func) :: (Sc ++ ([(b52, fnO r c)] ++ (S' ++ cfoot es)))) ++ (b9, prO v' mu rw_ gr) :: ([(b6, cel (p0.cells nilS) T.t_api_Program), (b4, cel z4 T.t_linesmanref10_Reader)] ++ (b2, rdO s a' e') :: H)) := h14
        repeat (first | refine pu_not ?_ | refine pu_eql ?_ | refine pu_neq ?_ | refine pu_lss ?_ | refine pu_leq ?_ | refine pu_gtr ?_ | refine pu_geq ?_ | refine pu_add ?_ | refine pu_sub ?_ | refine fa_at ?_ | refine nl_ptr ?_ | refine ex20 ?_ | refine ex21 ?_ | refine ex30 ?_ | refine ex31 ?_ | refine ex32 ?_ | refine ln_rule ?_ | refine pu_seq ?_ | refine pu_sne ?_)
        rw [wrapN (by omega)]
        refine kn w14 v' S' ?_ ?_
        · have e1 : (crows (es ++ [⟨Sc, c, ⟨r, code⟩⟩])).length = (crows es).length + 1 := by simp [crows]
          have e2 : (crows (es ++ [⟨Sc, c, ⟨r, code⟩⟩])).flatten = (crows es).flatten ++ [vI r, c] := by simp [crows, crow]
          rw [e1, e2]; exact ho'
        · have hcf : cfoot (es ++ [⟨Sc, c, ⟨r, code⟩⟩]) = cfoot es ++ Sc := by simp [cfoot]
          rw [hcf]
          have h15 : Ow B w14 (Sc ++ ((S' ++ cfoot es) ++ ((b9, prO v' mu rw_ gr) :: (b6, cel (p0.cells nilS) T.t_api_Program) :: (b4, cel z4 T.t_linesmanref10_Reader) :: (b2, rdO s a' e') :: H))) := h14.sub (by
            have : (Sc ++ ((S' ++ cfoot es) ++ ((b9, prO v' mu rw_ gr) :: (b6, cel (p0.cells nilS) T.t_api_Program) :: (b4, cel z4 T.t_linesmanref10_Reader) :: (b2, rdO s a' e') :: H))).Sublist ((b83, cel [vI r, c] T.t_api_Func) :: (Sc ++ ((b52, fnO r c) :: ((S' ++ cfoot es) ++ ((b9, prO v' mu rw_ gr) :: (b6, cel (p0.cells nilS) T.t_api_Program) :: (b4, cel z4 T.t_linesmanref10_Reader) :: (b2, rdO s a' e') :: H))))) :=
              .cons _ ((List.Sublist.refl Sc).append (.cons _ (.refl _)))
            simpa using this)
          have h16 := h15.perm (List.perm_append_comm_assoc Sc (S' ++ cfoot es) _)
          simpa using h16
      have hnew : St l a' e' (fun a => rfuns l (fin l mu rw_ gr) d a (acc ++ [⟨r, code⟩])) → ∀ w' (v' : Value) (Sf' : Hp), Vc.Own Sf' T.t_api_Func 2 v' (crows (es ++ [⟨Sc, c, ⟨r, code⟩⟩])).length (crows (es ++ [⟨Sc, c, ⟨r, code⟩⟩])).flatten →
            Ow B w' (((Sf' ++ cfoot (es ++ [⟨Sc, c, ⟨r, code⟩⟩])) ++ [(b9, prO v' mu rw_ gr), (b6, cel (p0.cells nilS) T.t_api_Program), (b4, cel z4 T.t_linesmanref10_Reader)]) ++ (b2, rdO s a' e') :: H) →
          (∃ (j_1 a : Nat) (e : Int) (es : List CE) (acc : List Fun) (Sf : Hp) (v : Value), [vI ((j + 1 : Nat) : Int)] = [vI j_1] ∧ j_1 ≤ many ∧ a ≤ l.length ∧ es.map CE.f = acc ∧ acc.length = j_1 ∧ (∀ e ∈ es, e.ok) ∧ (∀ f ∈ acc, immOk f.code) ∧
            Vc.Own Sf T.t_api_Func 2 v (crows es).length (crows es).flatten ∧ St l a e (fun a => rfuns l (fin l mu rw_ gr) (many - j_1) a acc) ∧
            Ow B w' (((Sf ++ cfoot es) ++ [(b9, prO v mu rw_ gr), (b6, cel (p0.cells nilS) T.t_api_Program), (b4, cel z4 T.t_linesmanref10_Reader)]) ++ (b2, rdO s a e) :: H)) ∧ _root_.True := fun hS w' v' Sf' ho' h' => by
        refine ⟨⟨j + 1, a', e', es ++ [⟨Sc, c, ⟨r, code⟩⟩], acc ++ [⟨r, code⟩], Sf', v', rfl, hlt, ha', by rw [List.map_append, hes]; rfl, by simp [hacc], ?_, ?_, ho', ?_, h'⟩, trivial⟩
        · intro e he
          rcases List.mem_append.1 he with he | he
          · exact hok e he
          · rw [List.mem_singleton.1 he]; exact hoc
        · intro e he
          rcases List.mem_append.1 he with he | he
          · exact himm e he
          · rw [List.mem_singleton.1 he]; exact hic
        · have : many - (j + 1) = d := by omega
          rw [this]; exact hS
      repeat (first | refine pu_not ?_ | refine pu_eql ?_ | refine pu_neq ?_ | refine pu_lss ?_ | refine pu_leq ?_ | refine pu_gtr ?_ | refine pu_geq ?_ | refine pu_add ?_ | refine pu_sub ?_ | refine fa_at ?_ | refine nl_ptr ?_ | refine ex20 ?_ | refine ex21 ?_ | refine ex30 ?_ | refine ex31 ?_ | refine ex32 ?_ | refine ln_rule ?_ | refine pu_seq ?_ | refine pu_sne ?_)
      refine cnd (fun hlt2 => ?_) (fun hlt2 => ?_)
      · have hlt2 : i < m := by simpa using hlt2
        repeat (first | refine pu_not ?_ | refine pu_eql ?_ | refine pu_neq ?_ | refine pu_lss ?_ | refine pu_leq ?_ | refine pu_gtr ?_ | refine pu_geq ?_ | refine pu_add ?_ | refine pu_sub ?_ | refine fa_at ?_ | refine nl_ptr ?_ | refine ex20 ?_ | refine ex21 ?_ | refine ex30 ?_ | refine ex31 ?_ | refine ex32 ?_ | refine ln_rule ?_ | refine pu_seq ?_ | refine pu_sne ?_)
        refine ld_here h11 m2 (v := vI e') rfl ?_
        repeat (first | refine pu_not ?_ | refine pu_eql ?_ | refine pu_neq ?_ | refine pu_lss ?_ | refine pu_leq ?_ | refine pu_gtr ?_ | refine pu_geq ?_ | refine pu_add ?_ | refine pu_sub ?_ | refine fa_at ?_ | refine nl_ptr ?_ | refine ex20 ?_ | refine ex21 ?_ | refine ex30 ?_ | refine ex31 ?_ | refine ex32 ?_ | refine ln_rule ?_ | refine pu_seq ?_ | refine pu_sne ?_)
        refine cnd (fun hq => ?_) (fun hq => ?_)
        case' refine_2 =>
          have he : e' ≠ 0 := by simpa using hq
          refine hfun (st_ne hS he) (fun t w => _) (fun w' v' Sf' ho' h' => ?_)
          exact ⟨(hnew (st_ne hS he) w' v' Sf' ho' h').1, by simp; omega⟩
        have hq : e' = 0 := by simpa using hq
        subst hq
        obtain ⟨d2, hd2⟩ : ∃ d2, m - i = d2 + 1 := ⟨m - i - 1, by omega⟩
        rw [hd2] at hS
        refine al_rule h11 (l := (bare 0).cells) (by kernel_rfl) (fun b121 w12 h12 => ?_)
        refine ldn_here h12 (.tail _ m2) (vs := rdC s a' 0) rfl rfl ?_
        refine refins_spec hs (fun y hy => .tail _ (List.mem_append_right _ (.tail _ (hX y hy)))) hb hl60 ha' h12 (fun w13 h13 => ?_)
        have hS2 := st_ins hS
        have hle2 := riN_le (l := l) ha'
        have him := riN_imm (a := a') hb
        generalize riN l a' 0 = rr at hS2 hle2 him ⊢
        obtain ⟨a4, e4, x⟩ := rr
        simp only at hS2 hle2 him ⊢
        repeat (first | refine pu_not ?_ | refine pu_eql ?_ | refine pu_neq ?_ | refine pu_lss ?_ | refine pu_leq ?_ | refine pu_gtr ?_ | refine pu_geq ?_ | refine pu_add ?_ | refine pu_sub ?_ | refine fa_at ?_ | refine nl_ptr ?_ | refine ex20 ?_ | refine ex21 ?_ | refine ex30 ?_ | refine ex31 ?_ | refine ex32 ?_ | refine ln_rule ?_ | refine pu_seq ?_ | refine pu_sne ?_)
        have h13 : Ow B w13 (((b121, iO (bare 0)) :: (Sc ++ (b52, fnO r c) :: ((Sf ++ cfoot es) ++ [(b9, prO v mu rw_ gr), (b6, cel (p0.cells nilS) T.t_api_Program), (b4, cel z4 T.t_linesmanref10_Reader)]))) ++ (b2, rdO s a' 0) :: H) := h13
        refine st_here h13 (rdC s a4 e4) rfl rfl (rd_plain hs) (by simp [rdC]) (fun w14 h14 => ?_)
        have e3' : (rdC s a' 0).take 0 ++ rdC s a4 e4 ++ (rdC s a' 0).drop (0 + 3) = rdC s a4 e4 := rfl
        rw [e3'] at h14
        have h14 : Ow B w14 ([] ++ (b121, iO (bare 0)) :: ((Sc ++ (b52, fnO r c) :: ((Sf ++ cfoot es) ++ [(b9, prO v mu rw_ gr), (b6, cel (p0.cells nilS) T.t_api_Program), (b4, cel z4 T.t_linesmanref10_Reader)])) ++ (b2, rdO s a4 e4) :: H)) := h14
        refine st_here h14 x.cells rfl rfl (ins_plain _) (by simp [Ins.cells]) (fun w15 h15 => ?_)
        have e5' : (bare 0).cells.take 0 ++ x.cells ++ (bare 0).cells.drop (0 + 5) = x.cells := rfl
        rw [e5'] at h15
        repeat (first | refine pu_not ?_ | refine pu_eql ?_ | refine pu_neq ?_ | refine pu_lss ?_ | refine pu_leq ?_ | refine pu_gtr ?_ | refine pu_geq ?_ | refine pu_add ?_ | refine pu_sub ?_ | refine fa_at ?_ | refine nl_ptr ?_ | refine ex20 ?_ | refine ex21 ?_ | refine ex30 ?_ | refine ex31 ?_ | refine ex32 ?_ | refine ln_rule ?_ | refine pu_seq ?_ | refine pu_sne ?_)
        refine ld_here h15 (.tail _ (List.mem_append_left _ (List.mem_append_right _ (.head _)))) (v := c) rfl ?_
        refine ldn_here h15 (.head _) (vs := x.cells) rfl rfl ?_
        refine bs_rule h15 x.cells (by kernel_rfl) (fun b72 w16 h16 => ?_)
        obtain ⟨ii, i1, i2, i3, i4⟩ := info_of info_ins
        have h16 : Ow B w16 ([(b72, cel x.cells T.t_api_Ins), (b121, iO x)] ++ Sc ++ ((b52, fnO r c) :: ((Sf ++ cfoot es) ++ [(b9, prO v mu rw_ gr), (b6, cel (p0.cells nilS) T.t_api_Program), (b4, cel z4 T.t_linesmanref10_Reader)]) ++ (b2, rdO s a4 e4) :: H)) := by simpa using h16
        refine app_rule (m := 1) h16 hoc (src_here (b := b72) (l := x.cells) (e := T.t_api_Ins) (len := 1) (size := 5) (.head _) rfl) (fun y hy => hy) (ins_plain _) und_slins i1 i2 i3 i4 rfl (by omega) (by rw [hil]; simp only [maxLen]; omega) (by rw [hil]; omega) (fun S' v' w17 h17 ho' => ?_)
        obtain ⟨q1, q2, hq⟩ := ho'.len
        repeat (first | refine pu_not ?_ | refine pu_eql ?_ | refine pu_neq ?_ | refine pu_lss ?_ | refine pu_leq ?_ | refine pu_gtr ?_ | refine pu_geq ?_ | refine pu_add ?_ | refine pu_sub ?_ | refine fa_at ?_ | refine nl_ptr ?_ | refine ex20 ?_ | refine ex21 ?_ | refine ex30 ?_ | refine ex31 ?_ | refine ex32 ?_ | refine ln_rule ?_ | refine pu_seq ?_ | refine pu_sne ?_)
        have h17 : Ow B w17 (([(b72, cel x.cells T.t_api_Ins), (b121, iO x)] ++ S') ++ (b52, fnO r c) :: (((Sf ++ cfoot es) ++ [(b9, prO v mu rw_ gr), (b6, cel (p0.cells nilS) T.t_api_Program), (b4, cel z4 T.t_linesmanref10_Reader)]) ++ (b2, rdO s a4 e4) :: H)) := by simpa using h17
        refine st1_here h17 (by rw [hq]; rfl) (by rw [hq]; rfl) (by simp) (fun w18 h18 => ?_)
        have h18 : Ow B w18 (([(b72, cel x.cells T.t_api_Ins), (b121, iO x)] ++ S') ++ (b52, fnO r v') :: (((Sf ++ cfoot es) ++ [(b9, prO v mu rw_ gr), (b6, cel (p0.cells nilS) T.t_api_Program), (b4, cel z4 T.t_linesmanref10_Reader)]) ++ (b2, rdO s a4 e4) :: H)) := h18
        repeat (first | refine pu_not ?_ | refine pu_eql ?_ | refine pu_neq ?_ | refine pu_lss ?_ | refine pu_leq ?_ | refine pu_gtr ?_ | refine pu_geq ?_ | refine pu_add ?_ | refine pu_sub ?_ | refine fa_at ?_ | refine nl_ptr ?_ | refine ex20 ?_ | refine ex21 ?_ | refine ex30 ?_ | refine ex31 ?_ | refine ex32 ?_ | refine ln_rule ?_ | refine pu_seq ?_ | refine pu_sne ?_)
        rw [wrapN (by omega)]
        refine ⟨⟨i + 1, a4, e4, code ++ [x], S', v', rfl, hlt2, hle2, by simp [hcode], ?_, ?_, ?_, ?_⟩, by simp; omega⟩
        · intro y hy
          rcases List.mem_append.1 hy with hy | hy
          · exact hic y hy
          · rw [List.mem_singleton.1 hy]; exact him
        · have e1 : (icode (code ++ [x])).length = (icode code).length + 1 := by simp [icode]
          have e2 : (icode (code ++ [x])).flatten = (icode code).flatten ++ x.cells := by simp [icode]
          rw [e1, e2]; exact ho'
        · have : m - (i + 1) = d2 := by omega
          rw [this]; exact hS2
        · have : Ow B w18 ((b72, cel x.cells T.t_api_Ins) :: (b121, iO x) :: ((S' ++ (b52, fnO r v') :: ((Sf ++ cfoot es) ++ [(b9, prO v mu rw_ gr), (b6, cel (p0.cells nilS) T.t_api_Program), (b4, cel z4 T.t_linesmanref10_Reader)])) ++ (b2, rdO s a4 e4) :: H)) := by simpa using h18
          exact this.drop.drop
      · obtain rfl : i = m := by simp at hlt2; omega
        rw [Nat.sub_self] at hS
        have hS : St l a' e' (fun a => rfuns l (fin l mu rw_ gr) d a (acc ++ [⟨r, code⟩])) := hS
        refine hfun hS (fun t w => _) (fun w' v' Sf' ho' h' => ?_)
        exact ⟨(hnew hS w' v' Sf' ho' h').1, by simp; omega⟩
    · obtain rfl : j = many := by simp at hlt; omega
      rw [Nat.sub_self] at hS
      by_cases he : e1 = 0
      case neg =>
        repeat (first | refine pu_not ?_ | refine pu_eql ?_ | refine pu_neq ?_ | refine pu_lss ?_ | refine pu_leq ?_ | refine pu_gtr ?_ | refine pu_geq ?_ | refine pu_add ?_ | refine pu_sub ?_ | refine fa_at ?_ | refine nl_ptr ?_ | refine ex20 ?_ | refine ex21 ?_ | refine ex30 ?_ | refine ex31 ?_ | refine ex32 ?_ | refine ln_rule ?_ | refine pu_seq ?_ | refine pu_sne ?_)
        refine ld_here h6 m2 (v := vI a1) rfl ?_
        repeat (first | refine pu_not ?_ | refine pu_eql ?_ | refine pu_neq ?_ | refine pu_lss ?_ | refine pu_leq ?_ | refine pu_gtr ?_ | refine pu_geq ?_ | refine pu_add ?_ | refine pu_sub ?_ | refine fa_at ?_ | refine nl_ptr ?_ | refine ex20 ?_ | refine ex21 ?_ | refine ex30 ?_ | refine ex31 ?_ | refine ex32 ?_ | refine ln_rule ?_ | refine pu_seq ?_ | refine pu_sne ?_)
        refine ld_here h6 m2 (v := vI e1) rfl ?_
        repeat (first | refine pu_not ?_ | refine pu_eql ?_ | refine pu_neq ?_ | refine pu_lss ?_ | refine pu_leq ?_ | refine pu_gtr ?_ | refine pu_geq ?_ | refine pu_add ?_ | refine pu_sub ?_ | refine fa_at ?_ | refine nl_ptr ?_ | refine ex20 ?_ | refine ex21 ?_ | refine ex30 ?_ | refine ex31 ?_ | refine ex32 ?_ | refine ln_rule ?_ | refine pu_seq ?_ | refine pu_sne ?_)
        refine cnd_f (by rw [ibeq]; exact decide_eq_false he) ?_
        repeat (first | refine pu_not ?_ | refine pu_eql ?_ | refine pu_neq ?_ | refine pu_lss ?_ | refine pu_leq ?_ | refine pu_gtr ?_ | refine pu_geq ?_ | refine pu_add ?_ | refine pu_sub ?_ | refine fa_at ?_ | refine nl_ptr ?_ | refine ex20 ?_ | refine ex21 ?_ | refine ex30 ?_ | refine ex31 ?_ | refine ex32 ?_ | refine ln_rule ?_ | refine pu_seq ?_ | refine pu_sne ?_)
        refine ld_here h6 m2 (v := vI e1) rfl ?_
        repeat (first | refine pu_not ?_ | refine pu_eql ?_ | refine pu_neq ?_ | refine pu_lss ?_ | refine pu_leq ?_ | refine pu_gtr ?_ | refine pu_geq ?_ | refine pu_add ?_ | refine pu_sub ?_ | refine fa_at ?_ | refine nl_ptr ?_ | refine ex20 ?_ | refine ex21 ?_ | refine ex30 ?_ | refine ex31 ?_ | refine ex32 ?_ | refine ln_rule ?_ | refine pu_seq ?_ | refine pu_sne ?_)
        refine cnd_t (by simpa using he) ?_
        exact hfail (st_err hS he) he h6
      subst he
      have hP : progR l = fin l mu rw_ gr acc a1 := st_ok hS
      unfold fin at hP
      repeat (first | refine pu_not ?_ | refine pu_eql ?_ | refine pu_neq ?_ | refine pu_lss ?_ | refine pu_leq ?_ | refine pu_gtr ?_ | refine pu_geq ?_ | refine pu_add ?_ | refine pu_sub ?_ | refine fa_at ?_ | refine nl_ptr ?_ | refine ex20 ?_ | refine ex21 ?_ | refine ex30 ?_ | refine ex31 ?_ | refine ex32 ?_ | refine ln_rule ?_ | refine pu_seq ?_ | refine pu_sne ?_)
      refine ld_here h6 m2 (v := vI a1) rfl ?_
      repeat (first | refine pu_not ?_ | refine pu_eql ?_ | refine pu_neq ?_ | refine pu_lss ?_ | refine pu_leq ?_ | refine pu_gtr ?_ | refine pu_geq ?_ | refine pu_add ?_ | refine pu_sub ?_ | refine fa_at ?_ | refine nl_ptr ?_ | refine ex20 ?_ | refine ex21 ?_ | refine ex30 ?_ | refine ex31 ?_ | refine ex32 ?_ | refine ln_rule ?_ | refine pu_seq ?_ | refine pu_sne ?_)
      refine ld_here h6 m2 (v := vI 0) rfl ?_
      repeat (first | refine pu_not ?_ | refine pu_eql ?_ | refine pu_neq ?_ | refine pu_lss ?_ | refine pu_leq ?_ | refine pu_gtr ?_ | refine pu_geq ?_ | refine pu_add ?_ | refine pu_sub ?_ | refine fa_at ?_ | refine nl_ptr ?_ | refine ex20 ?_ | refine ex21 ?_ | refine ex30 ?_ | refine ex31 ?_ | refine ex32 ?_ | refine ln_rule ?_ | refine pu_seq ?_ | refine pu_sne ?_)
      refine cnd_t rfl ?_
      repeat (first | refine pu_not ?_ | refine pu_eql ?_ | refine pu_neq ?_ | refine pu_lss ?_ | refine pu_leq ?_ | refine pu_gtr ?_ | refine pu_geq ?_ | refine pu_add ?_ | refine pu_sub ?_ | refine fa_at ?_ | refine nl_ptr ?_ | refine ex20 ?_ | refine ex21 ?_ | refine ex30 ?_ | refine ex31 ?_ | refine ex32 ?_ | refine ln_rule ?_ | refine pu_seq ?_ | refine pu_sne ?_)
      refine ld_here h6 m2 (v := s) rfl ?_
      refine sl_ln hs ?_
      have hbl : (bv l).length = l.length := by simp
      rw [hbl]
      repeat (first | refine pu_not ?_ | refine pu_eql ?_ | refine pu_neq ?_ | refine pu_lss ?_ | refine pu_leq ?_ | refine pu_gtr ?_ | refine pu_geq ?_ | refine pu_add ?_ | refine pu_sub ?_ | refine fa_at ?_ | refine nl_ptr ?_ | refine ex20 ?_ | refine ex21 ?_ | refine ex30 ?_ | refine ex31 ?_ | refine ex32 ?_ | refine ln_rule ?_ | refine pu_seq ?_ | refine pu_sne ?_)
      rw [wrap64_in (by omega) (by omega)]
      refine cnd (fun hq => ?_) (fun hq => ?_)
      · have hq := of_decide_eq_true hq
        rw [num_er (by omega), andE_er] at hP
        repeat (first | refine pu_not ?_ | refine pu_eql ?_ | refine pu_neq ?_ | refine pu_lss ?_ | refine pu_leq ?_ | refine pu_gtr ?_ | refine pu_geq ?_ | refine pu_add ?_ | refine pu_sub ?_ | refine fa_at ?_ | refine nl_ptr ?_ | refine ex20 ?_ | refine ex21 ?_ | refine ex30 ?_ | refine ex31 ?_ | refine ex32 ?_ | refine ln_rule ?_ | refine pu_seq ?_ | refine pu_sne ?_)
        refine st1_here h6 rfl rfl (by simp [rdC]) (fun w7 h7 => ?_)
        repeat (first | refine pu_not ?_ | refine pu_eql ?_ | refine pu_neq ?_ | refine pu_lss ?_ | refine pu_leq ?_ | refine pu_gtr ?_ | refine pu_geq ?_ | refine pu_add ?_ | refine pu_sub ?_ | refine fa_at ?_ | refine nl_ptr ?_ | refine ex20 ?_ | refine ex21 ?_ | refine ex30 ?_ | refine ex31 ?_ | refine ex32 ?_ | refine ln_rule ?_ | refine pu_seq ?_ | refine pu_sne ?_)
        have h7 : Ow B w7 (((Sf ++ cfoot es) ++ [(b9, prO v mu rw_ gr), (b6, cel (p0.cells nilS) T.t_api_Program), (b4, cel z4 T.t_linesmanref10_Reader)]) ++ (b2, rdO s a1 110) :: H) := h7
        refine ld_here h7 m2 (v := vI 110) rfl ?_
        repeat (first | refine pu_not ?_ | refine pu_eql ?_ | refine pu_neq ?_ | refine pu_lss ?_ | refine pu_leq ?_ | refine pu_gtr ?_ | refine pu_geq ?_ | refine pu_add ?_ | refine pu_sub ?_ | refine fa_at ?_ | refine nl_ptr ?_ | refine ex20 ?_ | refine ex21 ?_ | refine ex30 ?_ | refine ex31 ?_ | refine ex32 ?_ | refine ln_rule ?_ | refine pu_seq ?_ | refine pu_sne ?_)
        refine cnd_t rfl ?_
        exact hfail hP (by decide) h7
      have hq := of_decide_eq_false hq
      have hle : a1 + 8 ≤ l.length := by omega
      rw [num_ok hle, andE_ok] at hP
      repeat (first | refine pu_not ?_ | refine pu_eql ?_ | refine pu_neq ?_ | refine pu_lss ?_ | refine pu_leq ?_ | refine pu_gtr ?_ | refine pu_geq ?_ | refine pu_add ?_ | refine pu_sub ?_ | refine fa_at ?_ | refine nl_ptr ?_ | refine ex20 ?_ | refine ex21 ?_ | refine ex30 ?_ | refine ex31 ?_ | refine ex32 ?_ | refine ln_rule ?_ | refine pu_seq ?_ | refine pu_sne ?_)
      refine ld_here h6 m2 (v := vI 0) rfl ?_
      repeat (first | refine pu_not ?_ | refine pu_eql ?_ | refine pu_neq ?_ | refine pu_lss ?_ | refine pu_leq ?_ | refine pu_gtr ?_ | refine pu_geq ?_ | refine pu_add ?_ | refine pu_sub ?_ | refine fa_at ?_ | refine nl_ptr ?_ | refine ex20 ?_ | refine ex21 ?_ | refine ex30 ?_ | refine ex31 ?_ | refine ex32 ?_ | refine ln_rule ?_ | refine pu_seq ?_ | refine pu_sne ?_)
      refine cnd_f rfl ?_
      repeat (first | refine pu_not ?_ | refine pu_eql ?_ | refine pu_neq ?_ | refine pu_lss ?_ | refine pu_leq ?_ | refine pu_gtr ?_ | refine pu_geq ?_ | refine pu_add ?_ | refine pu_sub ?_ | refine fa_at ?_ | refine nl_ptr ?_ | refine ex20 ?_ | refine ex21 ?_ | refine ex30 ?_ | refine ex31 ?_ | refine ex32 ?_ | refine ln_rule ?_ | refine pu_seq ?_ | refine pu_sne ?_)
      rw [wrap64_in (by omega) (by omega)]
      refine st1_here h6 rfl rfl (by simp [rdC]) (fun w7 h7 => ?_)
      have h7 : Ow B w7 (((Sf ++ cfoot es) ++ [(b9, prO v mu rw_ gr), (b6, cel (p0.cells nilS) T.t_api_Program), (b4, cel z4 T.t_linesmanref10_Reader)]) ++ (b2, rdO s (a1 + 8) 0) :: H) := h7
      generalize hG : ((Sf ++ cfoot es) ++ [(b9, prO v mu rw_ gr), (b6, cel (p0.cells nilS) T.t_api_Program), (b4, cel z4 T.t_linesmanref10_Reader)]) ++ (b2, rdO s (a1 + 8) 0) :: H = G at h7
      have g2 : (b2, rdO s (a1 + 8) 0) ∈ G := by rw [← hG]; exact m2
      have g9 : (b9, prO v mu rw_ gr) ∈ G := by rw [← hG]; exact List.mem_append_left _ (List.mem_append_right _ (.head _))
      have gX : ∀ y, y ∈ X → y ∈ G := fun y hy => by rw [← hG]; exact List.mem_append_right _ (.tail _ (hX y hy))
      have gF : ∀ y, y ∈ Sf ++ cfoot es → y ∈ G := fun y hy => by rw [← hG]; exact List.mem_append_left _ (List.mem_append_left _ hy)
      refine ⟨fun w => Ow B w G, h7.drew, ?_⟩
      repeat (first | refine pu_not ?_ | refine pu_eql ?_ | refine pu_neq ?_ | refine pu_lss ?_ | refine pu_leq ?_ | refine pu_gtr ?_ | refine pu_geq ?_ | refine pu_add ?_ | refine pu_sub ?_ | refine fa_at ?_ | refine nl_ptr ?_ | refine ex20 ?_ | refine ex21 ?_ | refine ex30 ?_ | refine ex31 ?_ | refine ex32 ?_ | refine ln_rule ?_ | refine pu_seq ?_ | refine pu_sne ?_)
      refine lds_here (fun w h => h) g2 (v := s) rfl ?_
      refine cutH hs (by omega) (by simp; omega) (fun c1 hc1 => ?_)
      have hcut1 := sl_cut (l := 0) (h := a1) (m := c1) (hs.mono gX) (by omega) (by simp; omega) (by omega)
      rw [List.drop_zero, ← List.map_take] at hcut1
      rw [Int.toNat_natCast]
      generalize cut s 0 a1 c1 = cv1 at hcut1 ⊢
      repeat (first | refine pu_not ?_ | refine pu_eql ?_ | refine pu_neq ?_ | refine pu_lss ?_ | refine pu_leq ?_ | refine pu_gtr ?_ | refine pu_geq ?_ | refine pu_add ?_ | refine pu_sub ?_ | refine fa_at ?_ | refine nl_ptr ?_ | refine ex20 ?_ | refine ex21 ?_ | refine ex30 ?_ | refine ex31 ?_ | refine ex32 ?_ | refine ln_rule ?_ | refine pu_seq ?_ | refine pu_sne ?_)
      refine lds_here (fun w h => h) g2 (v := s) rfl ?_
      repeat (first | refine pu_not ?_ | refine pu_eql ?_ | refine pu_neq ?_ | refine pu_lss ?_ | refine pu_leq ?_ | refine pu_gtr ?_ | refine pu_geq ?_ | refine pu_add ?_ | refine pu_sub ?_ | refine fa_at ?_ | refine nl_ptr ?_ | refine ex20 ?_ | refine ex21 ?_ | refine ex30 ?_ | refine ex31 ?_ | refine ex32 ?_ | refine ln_rule ?_ | refine pu_seq ?_ | refine pu_sne ?_)
      refine lds_here (fun w h => h) g2 (v := vI ((a1 + 8 : Nat) : Int)) rfl ?_
      refine cutH hs (by omega) (by simp; omega) (fun c2 hc2 => ?_)
      have hcut2 := sl_cut (l := 0) (h := a1 + 8) (m := c2) (hs.mono gX) (by omega) (by simp; omega) (by omega)
      rw [List.drop_zero, ← List.map_take] at hcut2
      rw [Int.toNat_natCast]
      generalize cut s 0 (a1 + 8) c2 = cv2 at hcut2 ⊢
      have hsum8 : val (fx (sum (l.take a1)) 8) = sum (l.take a1) := val_fx _ _ (Nat.lt_of_lt_of_eq (sum_lt (byt_take hb a1)) (by decide))
      have htk : l.take (a1 + 8) = l.take a1 ++ (l.drop a1).take 8 := by rw [List.take_add]
      have hiff : (l.take a1 ++ fx (sum (l.take a1)) 8 = l.take (a1 + 8)) ↔ val ((l.drop a1).take 8) = sum (l.take a1) := by
        rw [htk]
        constructor
        · intro hh
          rw [← List.append_cancel_left hh, hsum8]
        · intro hh
          rw [val_inj (fx_byt _ _) (byt_take (byt_drop hb a1) 8) (by rw [fx_len, List.length_take, List.length_drop]; omega) (by rw [hsum8, hh])]
      have hby1 : Byt (l.take a1 ++ fx (sum (l.take a1)) 8) := byt_app (byt_take hb _) (fx_byt _ _)
      have hstr : ((bs (l.take a1 ++ fx (sum (l.take a1)) 8)).toList == (bs (l.take (a1 + 8))).toList) = decide (val ((l.drop a1).take 8) = sum (l.take a1)) := by
        rw [bytes_eq]
        congr 1
        apply propext
        rw [bs_inj hby1 (byt_take hb _), hiff]
      generalize val ((l.drop a1).take 8) = sv at hP hstr
      have hl1 : (l.take a1).length ≤ 900000 := by rw [List.length_take]; omega
      have hsub : ∀ {S : Hp} {w : World}, Ow B w (S ++ G) → Ow B w G := fun h => h.sub (List.sublist_append_right _ _)
      refine ⟨?_, ?_⟩
      · refine sealed_spec hcut1 (fun x hx => hx) (byt_take hb _) hl1 h7.drew (fun S o w8 h8 ho => ?_)
        refine ⟨hsub h8, ?_⟩
        have hos : Sl (S ++ G) o (bv (l.take a1 ++ fx (sum (l.take a1)) 8)) := (Vc.Own.sl ho).mono fun x hx => List.mem_append_left _ hx
        have hc2 : Sl (S ++ G) cv2 (bv (l.take (a1 + 8))) := hcut2.mono fun x hx => List.mem_append_right _ hx
        have hT := hsub h8
        refine ⟨?_, ?_⟩
        · refine strOf h8 hos ?_
          refine ⟨hsub h8, ?_⟩
          refine strOf h8 hc2 ?_
          refine ⟨hT, ?_⟩
          repeat (first | refine pu_not ?_ | refine pu_eql ?_ | refine pu_neq ?_ | refine pu_lss ?_ | refine pu_leq ?_ | refine pu_gtr ?_ | refine pu_geq ?_ | refine pu_add ?_ | refine pu_sub ?_ | refine fa_at ?_ | refine nl_ptr ?_ | refine ex20 ?_ | refine ex21 ?_ | refine ex30 ?_ | refine ex31 ?_ | refine ex32 ?_ | refine ln_rule ?_ | refine pu_seq ?_ | refine pu_sne ?_)
          rw [hstr]
          refine cnd (fun hq => ?_) (fun hq => ?_)
          · have hq : ¬ sv = sum (l.take a1) := by simpa using hq
            rw [if_neg (fun hh => hq hh.1)] at hP
            rw [← hG] at hT
            repeat (first | refine pu_not ?_ | refine pu_eql ?_ | refine pu_neq ?_ | refine pu_lss ?_ | refine pu_leq ?_ | refine pu_gtr ?_ | refine pu_geq ?_ | refine pu_add ?_ | refine pu_sub ?_ | refine fa_at ?_ | refine nl_ptr ?_ | refine ex20 ?_ | refine ex21 ?_ | refine ex30 ?_ | refine ex31 ?_ | refine ex32 ?_ | refine ln_rule ?_ | refine pu_seq ?_ | refine pu_sne ?_)
            refine st1_here hT rfl rfl (by simp [rdC]) (fun w9 h9 => ?_)
            exact hfail hP (by decide) h9
          · have hq : sv = sum (l.take a1) := by simpa using hq
            refine ldsn_here (fun w h => h) g9 (vs := Pr.cells ⟨acc, mu, rw_, gr⟩ v) rfl rfl ?_
            refine right09_spec (p := ⟨acc, mu, rw_, gr⟩) (v := v) (X := Sf ++ cfoot es) (hF.ins himm) gF hT (fun w10 h10 => ?_)
            refine ⟨h10, ?_⟩
            by_cases hk : okP' ⟨acc, mu, rw_, gr⟩ = true
            · rw [hk]
              rw [if_pos ⟨hq, hk⟩] at hP
              repeat (first | refine pu_not ?_ | refine pu_eql ?_ | refine pu_neq ?_ | refine pu_lss ?_ | refine pu_leq ?_ | refine pu_gtr ?_ | refine pu_geq ?_ | refine pu_add ?_ | refine pu_sub ?_ | refine fa_at ?_ | refine nl_ptr ?_ | refine ex20 ?_ | refine ex21 ?_ | refine ex30 ?_ | refine ex31 ?_ | refine ex32 ?_ | refine ln_rule ?_ | refine pu_seq ?_ | refine pu_sne ?_)
              refine cnd_f rfl ?_
              rw [← hG] at h10
              have hh9 : ∀ {o4 : Obj} {w : World}, Ow B w (((Sf ++ cfoot es) ++ [(b9, prO v mu rw_ gr), (b6, cel (p0.cells nilS) T.t_api_Program)]) ++ (b4, o4) :: (b2, rdO s (a1 + 8) 0) :: H) → Ow B w [(b9, prO v mu rw_ gr)] := fun h => h.sub (by
                rw [List.append_assoc, List.append_assoc]
                exact (List.Sublist.cons_cons _ (List.nil_sublist _)).trans (List.sublist_append_right _ _) |>.trans (List.sublist_append_right _ _))
              have h10 : Ow B w10.drew (((Sf ++ cfoot es) ++ [(b9, prO v mu rw_ gr), (b6, cel (p0.cells nilS) T.t_api_Program)]) ++ (b4, cel z4 T.t_linesmanref10_Reader) :: (b2, rdO s (a1 + 8) 0) :: H) := by simpa using h10.drew
              refine ⟨fun w => Ow B w [(b9, prO v mu rw_ gr)], hh9 h10, ?_⟩
              refine ldn_here h10 (List.mem_append_right _ (.tail _ (.head _))) (vs := rdC s (a1 + 8) 0) rfl rfl ?_
              refine ldsn_here (fun w h => h) (.head _) (vs := Pr.cells ⟨acc, mu, rw_, gr⟩ v) rfl rfl ?_
              refine st_here h10 (rdC s (a1 + 8) 0) rfl rfl (rd_plain hs) (by simp) (fun w11 h11 => ?_)
              refine ⟨hh9 h11, ?_⟩
              have h11 : Ow B w11 (((Sf ++ cfoot es) ++ [(b9, prO v mu rw_ gr)]) ++ (b6, cel (p0.cells nilS) T.t_api_Program) :: (b4, rdO s (a1 + 8) 0) :: (b2, rdO s (a1 + 8) 0) :: H) := by simpa using h11
              refine st_here h11 (Pr.cells ⟨acc, mu, rw_, gr⟩ v) rfl rfl (by rw [hg]; rfl) (by simp [Pr.cells]) (fun w12 h12 => ?_)
              refine ldn_here h12 (List.mem_append_right _ (.tail _ (.head _))) (vs := rdC s (a1 + 8) 0) rfl rfl ?_
              refine ldn_here h12 (List.mem_append_right _ (.head _)) (vs := Pr.cells ⟨acc, mu, rw_, gr⟩ v) rfl rfl ?_
              refine k1 (Sf ++ cfoot es) v ⟨acc, mu, rw_, gr⟩ (a1 + 8) _ hP hF himm (h12.sub ?_)
              rw [List.append_assoc (Sf ++ cfoot es) [(b9, prO v mu rw_ gr)]]
              exact (List.Sublist.refl (Sf ++ cfoot es)).append (List.Sublist.cons _ (.cons _ (.cons _ (.cons _ (.refl H)))))
            · rw [if_neg (fun hh => hk hh.2)] at hP
              have hk : okP' ⟨acc, mu, rw_, gr⟩ = false := by simpa using hk
              rw [hk]
              rw [← hG] at h10
              repeat (first | refine pu_not ?_ | refine pu_eql ?_ | refine pu_neq ?_ | refine pu_lss ?_ | refine pu_leq ?_ | refine pu_gtr ?_ | refine pu_geq ?_ | refine pu_add ?_ | refine pu_sub ?_ | refine fa_at ?_ | refine nl_ptr ?_ | refine ex20 ?_ | refine ex21 ?_ | refine ex30 ?_ | refine ex31 ?_ | refine ex32 ?_ | refine ln_rule ?_ | refine pu_seq ?_ | refine pu_sne ?_)
              refine cnd_t rfl ?_
              repeat (first | refine pu_not ?_ | refine pu_eql ?_ | refine pu_neq ?_ | refine pu_lss ?_ | refine pu_leq ?_ | refine pu_gtr ?_ | refine pu_geq ?_ | refine pu_add ?_ | refine pu_sub ?_ | refine fa_at ?_ | refine nl_ptr ?_ | refine ex20 ?_ | refine ex21 ?_ | refine ex30 ?_ | refine ex31 ?_ | refine ex32 ?_ | refine ln_rule ?_ | refine pu_seq ?_ | refine pu_sne ?_)
              refine st1_here h10 rfl rfl (by simp [rdC]) (fun w9 h9 => ?_)
              exact hfail hP (by decide) h9
        · refine strOf h8 hc2 ?_
          refine ⟨hsub h8, ?_⟩
          refine strOf h8 hos ?_
          refine ⟨hT, ?_⟩
          repeat (first | refine pu_not ?_ | refine pu_eql ?_ | refine pu_neq ?_ | refine pu_lss ?_ | refine pu_leq ?_ | refine pu_gtr ?_ | refine pu_geq ?_ | refine pu_add ?_ | refine pu_sub ?_ | refine fa_at ?_ | refine nl_ptr ?_ | refine ex20 ?_ | refine ex21 ?_ | refine ex30 ?_ | refine ex31 ?_ | refine ex32 ?_ | refine ln_rule ?_ | refine pu_seq ?_ | refine pu_sne ?_)
          rw [hstr]
          refine cnd (fun hq => ?_) (fun hq => ?_)
          · have hq : ¬ sv = sum (l.take a1) := by simpa using hq
            rw [if_neg (fun hh => hq hh.1)] at hP
            rw [← hG] at hT
            repeat (first | refine pu_not ?_ | refine pu_eql ?_ | refine pu_neq ?_ | refine pu_lss ?_ | refine pu_leq ?_ | refine pu_gtr ?_ | refine pu_geq ?_ | refine pu_add ?_ | refine pu_sub ?_ | refine fa_at ?_ | refine nl_ptr ?_ | refine ex20 ?_ | refine ex21 ?_ | refine ex30 ?_ | refine ex31 ?_ | refine ex32 ?_ | refine ln_rule ?_ | refine pu_seq ?_ | refine pu_sne ?_)
            refine st1_here hT rfl rfl (by simp [rdC]) (fun w9 h9 => ?_)
            exact hfail hP (by decide) h9
          · have hq : sv = sum (l.take a1) := by simpa using hq
            refine ldsn_here (fun w h => h) g9 (vs := Pr.cells ⟨acc, mu, rw_, gr⟩ v) rfl rfl ?_
            refine right09_spec (p := ⟨acc, mu, rw_, gr⟩) (v := v) (X := Sf ++ cfoot es) (hF.ins himm) gF hT (fun w10 h10 => ?_)
            refine ⟨h10, ?_⟩
            by_cases hk : okP' ⟨acc, mu, rw_, gr⟩ = true
            · rw [hk]
              rw [if_pos ⟨hq, hk⟩] at hP
              repeat (first | refine pu_not ?_ | refine pu_eql ?_ | refine pu_neq ?_ | refine pu_lss ?_ | refine pu_leq ?_ | refine pu_gtr ?_ | refine pu_geq ?_ | refine pu_add ?_ | refine pu_sub ?_ | refine fa_at ?_ | refine nl_ptr ?_ | refine ex20 ?_ | refine ex21 ?_ | refine ex30 ?_ | refine ex31 ?_ | refine ex32 ?_ | refine ln_rule ?_ | refine pu_seq ?_ | refine pu_sne ?_)
              refine cnd_f rfl ?_
              rw [← hG] at h10
              have hh9 : ∀ {o4 : Obj} {w : World}, Ow B w (((Sf ++ cfoot es) ++ [(b9, prO v mu rw_ gr), (b6, cel (p0.cells nilS) T.t_api_Program)]) ++ (b4, o4) :: (b2, rdO s (a1 + 8) 0) :: H) → Ow B w [(b9, prO v mu rw_ gr)] := fun h => h.sub (by
                rw [List.append_assoc, List.append_assoc]
                exact (List.Sublist.cons_cons _ (List.nil_sublist _)).trans (List.sublist_append_right _ _) |>.trans (List.sublist_append_right _ _))
              have h10 : Ow B w10.drew (((Sf ++ cfoot es) ++ [(b9, prO v mu rw_ gr), (b6, cel (p0.cells nilS) T.t_api_Program)]) ++ (b4, cel z4 T.t_linesmanref10_Reader) :: (b2, rdO s (a1 + 8) 0) :: H) := by simpa using h10.drew
              refine ⟨fun w => Ow B w [(b9, prO v mu rw_ gr)], hh9 h10, ?_⟩
              refine ldn_here h10 (List.mem_append_right _ (.tail _ (.head _))) (vs := rdC s (a1 + 8) 0) rfl rfl ?_
              refine ldsn_here (fun w h => h) (.head _) (vs := Pr.cells ⟨acc, mu, rw_, gr⟩ v) rfl rfl ?_
              refine st_here h10 (rdC s (a1 + 8) 0) rfl rfl (rd_plain hs) (by simp) (fun w11 h11 => ?_)
              refine ⟨hh9 h11, ?_⟩
              have h11 : Ow B w11 (((Sf ++ cfoot es) ++ [(b9, prO v mu rw_ gr)]) ++ (b6, cel (p0.cells nilS) T.t_api_Program) :: (b4, rdO s (a1 + 8) 0) :: (b2, rdO s (a1 + 8) 0) :: H) := by simpa using h11
              refine st_here h11 (Pr.cells ⟨acc, mu, rw_, gr⟩ v) rfl rfl (by rw [hg]; rfl) (by simp [Pr.cells]) (fun w12 h12 => ?_)
              refine ldn_here h12 (List.mem_append_right _ (.tail _ (.head _))) (vs := rdC s (a1 + 8) 0) rfl rfl ?_
              refine ldn_here h12 (List.mem_append_right _ (.head _)) (vs := Pr.cells ⟨acc, mu, rw_, gr⟩ v) rfl rfl ?_
              refine k1 (Sf ++ cfoot es) v ⟨acc, mu, rw_, gr⟩ (a1 + 8) _ hP hF himm (h12.sub ?_)
              rw [List.append_assoc (Sf ++ cfoot es) [(b9, prO v mu rw_ gr)]]
              exact (List.Sublist.refl (Sf ++ cfoot es)).append (List.Sublist.cons _ (.cons _ (.cons _ (.cons _ (.refl H)))))
            · rw [if_neg (fun hh => hk hh.2)] at hP
              have hk : okP' ⟨acc, mu, rw_, gr⟩ = false := by simpa using hk
              rw [hk]
              rw [← hG] at h10
              repeat (first | refine pu_not ?_ | refine pu_eql ?_ | refine pu_neq ?_ | refine pu_lss ?_ | refine pu_leq ?_ | refine pu_gtr ?_ | refine pu_geq ?_ | refine pu_add ?_ | refine pu_sub ?_ | refine fa_at ?_ | refine nl_ptr ?_ | refine ex20 ?_ | refine ex21 ?_ | refine ex30 ?_ | refine ex31 ?_ | refine ex32 ?_ | refine ln_rule ?_ | refine pu_seq ?_ | refine pu_sne ?_)
              refine cnd_t rfl ?_
              repeat (first | refine pu_not ?_ | refine pu_eql ?_ | refine pu_neq ?_ | refine pu_lss ?_ | refine pu_leq ?_ | refine pu_gtr ?_ | refine pu_geq ?_ | refine pu_add ?_ | refine pu_sub ?_ | refine fa_at ?_ | refine nl_ptr ?_ | refine ex20 ?_ | refine ex21 ?_ | refine ex30 ?_ | refine ex31 ?_ | refine ex32 ?_ | refine ln_rule ?_ | refine pu_seq ?_ | refine pu_sne ?_)
              refine st1_here h10 rfl rfl (by simp [rdC]) (fun w9 h9 => ?_)
              exact hfail hP (by decide) h9
      · refine strOf h7.drew hcut2 ?_
        refine ⟨h7.drew, ?_⟩
        refine sealed_spec hcut1 (fun x hx => hx) (byt_take hb _) hl1 h7.drew (fun S o w8 h8 ho => ?_)
        refine ⟨hsub h8, ?_⟩
        have hos : Sl (S ++ G) o (bv (l.take a1 ++ fx (sum (l.take a1)) 8)) := (Vc.Own.sl ho).mono fun x hx => List.mem_append_left _ hx
        have hT := hsub h8
        refine strOf h8 hos ?_
        refine ⟨hT, ?_⟩
        repeat (first | refine pu_not ?_ | refine pu_eql ?_ | refine pu_neq ?_ | refine pu_lss ?_ | refine pu_leq ?_ | refine pu_gtr ?_ | refine pu_geq ?_ | refine pu_add ?_ | refine pu_sub ?_ | refine fa_at ?_ | refine nl_ptr ?_ | refine ex20 ?_ | refine ex21 ?_ | refine ex30 ?_ | refine ex31 ?_ | refine ex32 ?_ | refine ln_rule ?_ | refine pu_seq ?_ | refine pu_sne ?_)
        rw [hstr]
        refine cnd (fun hq => ?_) (fun hq => ?_)
        · have hq : ¬ sv = sum (l.take a1) := by simpa using hq
          rw [if_neg (fun hh => hq hh.1)] at hP
          rw [← hG] at hT
          repeat (first | refine pu_not ?_ | refine pu_eql ?_ | refine pu_neq ?_ | refine pu_lss ?_ | refine pu_leq ?_ | refine pu_gtr ?_ | refine pu_geq ?_ | refine pu_add ?_ | refine pu_sub ?_ | refine fa_at ?_ | refine nl_ptr ?_ | refine ex20 ?_ | refine ex21 ?_ | refine ex30 ?_ | refine ex31 ?_ | refine ex32 ?_ | refine ln_rule ?_ | refine pu_seq ?_ | refine pu_sne ?_)
          refine st1_here hT rfl rfl (by simp [rdC]) (fun w9 h9 => ?_)
          exact hfail hP (by decide) h9
        · have hq : sv = sum (l.take a1) := by simpa using hq
          refine ldsn_here (fun w h => h) g9 (vs := Pr.cells ⟨acc, mu, rw_, gr⟩ v) rfl rfl ?_
          refine right09_spec (p := ⟨acc, mu, rw_, gr⟩) (v := v) (X := Sf ++ cfoot es) (hF.ins himm) gF hT (fun w10 h10 => ?_)
          refine ⟨h10, ?_⟩
          by_cases hk : okP' ⟨acc, mu, rw_, gr⟩ = true
          · rw [hk]
            rw [if_pos ⟨hq, hk⟩] at hP
            repeat (first | refine pu_not ?_ | refine pu_eql ?_ | refine pu_neq ?_ | refine pu_lss ?_ | refine pu_leq ?_ | refine pu_gtr ?_ | refine pu_geq ?_ | refine pu_add ?_ | refine pu_sub ?_ | refine fa_at ?_ | refine nl_ptr ?_ | refine ex20 ?_ | refine ex21 ?_ | refine ex30 ?_ | refine ex31 ?_ | refine ex32 ?_ | refine ln_rule ?_ | refine pu_seq ?_ | refine pu_sne ?_)
            refine cnd_f rfl ?_
            rw [← hG] at h10
            have hh9 : ∀ {o4 : Obj} {w : World}, Ow B w (((Sf ++ cfoot es) ++ [(b9, prO v mu rw_ gr), (b6, cel (p0.cells nilS) T.t_api_Program)]) ++ (b4, o4) :: (b2, rdO s (a1 + 8) 0) :: H) → Ow B w [(b9, prO v mu rw_ gr)] := fun h => h.sub (by
              rw [List.append_assoc, List.append_assoc]
              exact (List.Sublist.cons_cons _ (List.nil_sublist _)).trans (List.sublist_append_right _ _) |>.trans (List.sublist_append_right _ _))
            have h10 : Ow B w10.drew (((Sf ++ cfoot es) ++ [(b9, prO v mu rw_ gr), (b6, cel (p0.cells nilS) T.t_api_Program)]) ++ (b4, cel z4 T.t_linesmanref10_Reader) :: (b2, rdO s (a1 + 8) 0) :: H) := by simpa using h10.drew
            refine ⟨fun w => Ow B w [(b9, prO v mu rw_ gr)], hh9 h10, ?_⟩
            refine ldn_here h10 (List.mem_append_right _ (.tail _ (.head _))) (vs := rdC s (a1 + 8) 0) rfl rfl ?_
            refine ldsn_here (fun w h => h) (.head _) (vs := Pr.cells ⟨acc, mu, rw_, gr⟩ v) rfl rfl ?_
            refine st_here h10 (rdC s (a1 + 8) 0) rfl rfl (rd_plain hs) (by simp) (fun w11 h11 => ?_)
            refine ⟨hh9 h11, ?_⟩
            have h11 : Ow B w11 (((Sf ++ cfoot es) ++ [(b9, prO v mu rw_ gr)]) ++ (b6, cel (p0.cells nilS) T.t_api_Program) :: (b4, rdO s (a1 + 8) 0) :: (b2, rdO s (a1 + 8) 0) :: H) := by simpa using h11
            refine st_here h11 (Pr.cells ⟨acc, mu, rw_, gr⟩ v) rfl rfl (by rw [hg]; rfl) (by simp [Pr.cells]) (fun w12 h12 => ?_)
            refine ldn_here h12 (List.mem_append_right _ (.tail _ (.head _))) (vs := rdC s (a1 + 8) 0) rfl rfl ?_
            refine ldn_here h12 (List.mem_append_right _ (.head _)) (vs := Pr.cells ⟨acc, mu, rw_, gr⟩ v) rfl rfl ?_
            refine k1 (Sf ++ cfoot es) v ⟨acc, mu, rw_, gr⟩ (a1 + 8) _ hP hF himm (h12.sub ?_)
            rw [List.append_assoc (Sf ++ cfoot es) [(b9, prO v mu rw_ gr)]]
            exact (List.Sublist.refl (Sf ++ cfoot es)).append (List.Sublist.cons _ (.cons _ (.cons _ (.cons _ (.refl H)))))
          · rw [if_neg (fun hh => hk hh.2)] at hP
            have hk : okP' ⟨acc, mu, rw_, gr⟩ = false := by simpa using hk
            rw [hk]
            rw [← hG] at h10
            repeat (first | refine pu_not ?_ | refine pu_eql ?_ | refine pu_neq ?_ | refine pu_lss ?_ | refine pu_leq ?_ | refine pu_gtr ?_ | refine pu_geq ?_ | refine pu_add ?_ | refine pu_sub ?_ | refine fa_at ?_ | refine nl_ptr ?_ | refine ex20 ?_ | refine ex21 ?_ | refine ex30 ?_ | refine ex31 ?_ | refine ex32 ?_ | refine ln_rule ?_ | refine pu_seq ?_ | refine pu_sne ?_)
            refine cnd_t rfl ?_
            repeat (first | refine pu_not ?_ | refine pu_eql ?_ | refine pu_neq ?_ | refine pu_lss ?_ | refine pu_leq ?_ | refine pu_gtr ?_ | refine pu_geq ?_ | refine pu_add ?_ | refine pu_sub ?_ | refine fa_at ?_ | refine nl_ptr ?_ | refine ex20 ?_ | refine ex21 ?_ | refine ex30 ?_ | refine ex31 ?_ | refine ex32 ?_ | refine ln_rule ?_ | refine pu_seq ?_ | refine pu_sne ?_)
            refine st1_here h10 rfl rfl (by simp [rdC]) (fun w9 h9 => ?_)
            exact hfail hP (by decide) h9
end
end Go.Proofs.YtkkkcafkepnecaaGreat.Im

