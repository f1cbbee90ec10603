/- Images: the document's reader, piece by piece. -/
import Derived.Test.YtkkkcafkepnecaaGreatIS
import Derived.Test.YtkkkcafkepnecaaGreatIP
import Derived.Test.YtkkkcafkepnecaaGreatJT

set_option linter.unusedVariables false
set_option linter.unusedSimpArgs false
set_option linter.unnecessarySimpa false
namespace Go.Proofs.YtkkkcafkepnecaaGreat.Im
open Go Go.RowKit Vc Oc Dg
attribute [local irreducible] binV Op.unary convert nlW faW ldS ldW ixS ixA ixV ixT exW lnS lnT pu stW alW opW opU bsW mkW

section
variable {B w : World} {H C X : Hp} {K KW : Value → World → Prop} {KK : Value → Prop} {PK : List PanicEntry → World → Prop} {s : Value} {l : List Nat} {a : Nat} {e : Int}
/-- The document's reader. -/
def rdC (s : Value) (a : Nat) (e : Int) : List Value := [s, vI a, vI e]
def rnN (l : List Nat) (wd a : Nat) (e : Int) : Nat × Int × Nat := if e ≠ 0 then (a, e, 0) else if a + wd ≤ l.length then (a + wd, 0, val ((l.drop a).take wd)) else (a, 110, 0)
abbrev rdO (s : Value) (a : Nat) (e : Int) : Obj := cel (rdC s a e) T.t_linesmanref10_Reader
theorem sl_pc {v : Value} {xs : List Value} (h : Sl X v xs) : v.cells = #[v] ∧ plainV v = true := by
  obtain ⟨p, c, rfl, _⟩ := Sl.cap h
  exact ⟨rfl, rfl⟩
theorem rd_plain (hs : Sl X s (bv l)) : (rdC s a e).all plainV = true := by simp only [rdC, List.all_cons, (sl_pc hs).2]; rfl
theorem rd_cp {b b4 : Nat} {Z c : List Value} {Y A : Hp} (hZ : Z.length = 3) (hc : c.length = 3) (hp : c.all plainV = true) (h : Ow B w (A ++ (b4, cel Z T.t_linesmanref10_Reader) :: (Y ++ (b, cel c T.t_linesmanref10_Reader) :: H)))
    (k : ∀ w', Ow B w' (A ++ (b4, cel c T.t_linesmanref10_Reader) :: (Y ++ (b, cel c T.t_linesmanref10_Reader) :: H)) → KW (.agg c.toArray) w') :
    ldW (some 3) (ptr b) w fun t => stW 3 (ptr b4) t (fun w => ldW (some 3) (ptr b4) w fun t' => KW t' w) w := by
  refine ldn_here h (List.mem_append_right _ (.tail _ (List.mem_append_right _ (.head _)))) (vs := c) (by rw [List.drop_zero, List.take_of_length_le (by omega)]) hc ?_
  refine st_here h c rfl hc hp (by omega) (fun w1 h1 => ?_)
  have e3 : Z.take 0 ++ c ++ Z.drop (0 + 3) = c := by rw [List.drop_eq_nil_of_le (by omega)]; simp
  rw [e3] at h1
  refine ldn_here h1 (List.mem_append_right _ (.head _)) (vs := c) (by rw [List.drop_zero, List.take_of_length_le (by omega)]) hc ?_
  exact k _ h1
theorem refnum_spec {wd : Nat} (hs : Sl X s (bv l)) (hX : ∀ y, y ∈ X → y ∈ H) (hb : Byt l) (hl : l.length < 2 ^ 60) (ha : a ≤ l.length) (hw : right wd = true) (hw4 : wd ≤ 4) (h : Ow B w H)
    (k : ∀ w', Ow B w' H → K (.tuple #[.agg (rdC s (rnN l wd a e).1 (rnN l wd a e).2.1).toArray, vI (rnN l wd a e).2.2]) w') : callW PG N.linesmanref10_Reader_number [.agg (rdC s a e).toArray, vI wd] K PK w := by
  refine linesmanref10_Reader_number.ok ?_
  unfold linesmanref10_Reader_number.C
  obtain ⟨hsc, hsp⟩ := sl_pc hs
  have hac : (Value.agg (rdC s a e).toArray).cells = (rdC s a e).toArray := rfl
  refine al_rule h (l := rdC s a e) hac (fun b2 w1 h1 => ?_)
  refine al_rule h1 (l := [.slice none 0 0, vI 0, vI 0]) (by kernel_rfl) (fun b4 w2 h2 => ?_)
  have h2 : Ow B w2 ([] ++ (b4, cel [.slice none 0 0, vI 0, vI 0] T.t_linesmanref10_Reader) :: ([] ++ (b2, rdO s a e) :: H)) := h2
  have m2 : ∀ {Z : List Value} {c : List Value}, (b2, cel c T.t_linesmanref10_Reader) ∈ ([] ++ (b4, cel Z T.t_linesmanref10_Reader) :: ([] ++ (b2, cel c T.t_linesmanref10_Reader) :: H) : Hp) := .tail _ (.head _)
  have fin : ∀ {w : World} {c Z : List Value}, Ow B w ([] ++ (b4, cel Z T.t_linesmanref10_Reader) :: ([] ++ (b2, cel c T.t_linesmanref10_Reader) :: H)) → Ow B w H := fun h => h.drop.drop
  repeat (first | refine pu_not ?_ | refine pu_eql ?_ | refine pu_neq ?_ | refine pu_lss ?_ | refine pu_leq ?_ | refine pu_gtr ?_ | refine pu_geq ?_ | refine pu_add ?_ | refine pu_sub ?_ | refine fa_at ?_ | refine nl_ptr ?_ | refine ex20 ?_ | refine ex21 ?_ | refine ex30 ?_ | refine ex31 ?_ | refine ex32 ?_ | refine ln_rule ?_ | refine pu_seq ?_ | refine pu_sne ?_)
  refine ld_here h2 m2 (v := vI e) rfl ?_
  repeat (first | refine pu_not ?_ | refine pu_eql ?_ | refine pu_neq ?_ | refine pu_lss ?_ | refine pu_leq ?_ | refine pu_gtr ?_ | refine pu_geq ?_ | refine pu_add ?_ | refine pu_sub ?_ | refine fa_at ?_ | refine nl_ptr ?_ | refine ex20 ?_ | refine ex21 ?_ | refine ex30 ?_ | refine ex31 ?_ | refine ex32 ?_ | refine ln_rule ?_ | refine pu_seq ?_ | refine pu_sne ?_)
  refine cnd (fun hq => ?_) (fun hq => ?_)
  · have hq : e ≠ 0 := by simpa using hq
    have er : rnN l wd a e = (a, e, 0) := if_pos hq
    rw [er] at k
    refine rd_cp rfl rfl (rd_plain hs) h2 (fun w3 h3 => ?_)
    exact k _ (fin h3)
  have hq : e = 0 := by simpa using hq
  subst hq
  repeat (first | refine pu_not ?_ | refine pu_eql ?_ | refine pu_neq ?_ | refine pu_lss ?_ | refine pu_leq ?_ | refine pu_gtr ?_ | refine pu_geq ?_ | refine pu_add ?_ | refine pu_sub ?_ | refine fa_at ?_ | refine nl_ptr ?_ | refine ex20 ?_ | refine ex21 ?_ | refine ex30 ?_ | refine ex31 ?_ | refine ex32 ?_ | refine ln_rule ?_ | refine pu_seq ?_ | refine pu_sne ?_)
  refine ld_here h2 m2 (v := s) rfl ?_
  refine sl_ln hs ?_
  have hbl : (bv l).length = l.length := by simp
  rw [hbl]
  repeat (first | refine pu_not ?_ | refine pu_eql ?_ | refine pu_neq ?_ | refine pu_lss ?_ | refine pu_leq ?_ | refine pu_gtr ?_ | refine pu_geq ?_ | refine pu_add ?_ | refine pu_sub ?_ | refine fa_at ?_ | refine nl_ptr ?_ | refine ex20 ?_ | refine ex21 ?_ | refine ex30 ?_ | refine ex31 ?_ | refine ex32 ?_ | refine ln_rule ?_ | refine pu_seq ?_ | refine pu_sne ?_)
  refine ld_here h2 m2 (v := vI a) rfl ?_
  repeat (first | refine pu_not ?_ | refine pu_eql ?_ | refine pu_neq ?_ | refine pu_lss ?_ | refine pu_leq ?_ | refine pu_gtr ?_ | refine pu_geq ?_ | refine pu_add ?_ | refine pu_sub ?_ | refine fa_at ?_ | refine nl_ptr ?_ | refine ex20 ?_ | refine ex21 ?_ | refine ex30 ?_ | refine ex31 ?_ | refine ex32 ?_ | refine ln_rule ?_ | refine pu_seq ?_ | refine pu_sne ?_)
  rw [wrap64_in (by omega) (by omega)]
  refine cnd (fun hq => ?_) (fun hq => ?_)
  · have hq := of_decide_eq_true hq
    have er : rnN l wd a 0 = (a, 110, 0) := by unfold rnN; rw [if_neg (by simp), if_neg (by omega)]
    rw [er] at k
    repeat (first | refine pu_not ?_ | refine pu_eql ?_ | refine pu_neq ?_ | refine pu_lss ?_ | refine pu_leq ?_ | refine pu_gtr ?_ | refine pu_geq ?_ | refine pu_add ?_ | refine pu_sub ?_ | refine fa_at ?_ | refine nl_ptr ?_ | refine ex20 ?_ | refine ex21 ?_ | refine ex30 ?_ | refine ex31 ?_ | refine ex32 ?_ | refine ln_rule ?_ | refine pu_seq ?_ | refine pu_sne ?_)
    refine st1_here (A := [(b4, cel [.slice none 0 0, vI 0, vI 0] T.t_linesmanref10_Reader)]) h2 rfl rfl (by simp [rdC]) (fun w3 h3 => ?_)
    have h3 : Ow B w3 ([] ++ (b4, cel [.slice none 0 0, vI 0, vI 0] T.t_linesmanref10_Reader) :: ([] ++ (b2, rdO s a 110) :: H)) := h3
    refine rd_cp rfl rfl (rd_plain hs) h3 (fun w4 h4 => ?_)
    exact k _ (fin h4)
  · have hq := of_decide_eq_false hq
    have hle : a + wd ≤ l.length := by omega
    have er : rnN l wd a 0 = (a + wd, 0, val ((l.drop a).take wd)) := by unfold rnN; rw [if_neg (by simp), if_pos hle]
    rw [er] at k
    repeat (first | refine pu_not ?_ | refine pu_eql ?_ | refine pu_neq ?_ | refine pu_lss ?_ | refine pu_leq ?_ | refine pu_gtr ?_ | refine pu_geq ?_ | refine pu_add ?_ | refine pu_sub ?_ | refine fa_at ?_ | refine nl_ptr ?_ | refine ex20 ?_ | refine ex21 ?_ | refine ex30 ?_ | refine ex31 ?_ | refine ex32 ?_ | refine ln_rule ?_ | refine pu_seq ?_ | refine pu_sne ?_)
    refine ld_here h2 m2 (v := s) rfl ?_
    repeat (first | refine pu_not ?_ | refine pu_eql ?_ | refine pu_neq ?_ | refine pu_lss ?_ | refine pu_leq ?_ | refine pu_gtr ?_ | refine pu_geq ?_ | refine pu_add ?_ | refine pu_sub ?_ | refine fa_at ?_ | refine nl_ptr ?_ | refine ex20 ?_ | refine ex21 ?_ | refine ex30 ?_ | refine ex31 ?_ | refine ex32 ?_ | refine ln_rule ?_ | refine pu_seq ?_ | refine pu_sne ?_)
    refine ld_here h2 m2 (v := vI a) rfl ?_
    refine cutL hs (by omega) (by simp; omega) (fun c hc => ?_)
    have hs' : Sl ([] ++ (b4, cel [.slice none 0 0, vI 0, vI 0] T.t_linesmanref10_Reader) :: ([] ++ (b2, rdO s a 0) :: H)) s (bv l) := hs.mono fun x hx => .tail _ (.tail _ (hX x hx))
    have hcut := sl_cut (l := a) (h := l.length) (m := c) hs' ha (by simp) (by simpa using hc)
    rw [bv_drop] at hcut
    rw [Int.toNat_natCast, hbl]
    refine rreadFixed_spec h2 hcut (byt_drop hb a) (by rw [List.length_drop]; omega) (fun w3 h3 => ?_)
    have e5 : rfR (l.drop a) wd = (val ((l.drop a).take wd), 0) := by
      unfold rfR
      rw [if_neg (by rw [hw]; simp), Int.toNat_natCast, if_neg (by rw [List.length_drop]; omega)]
    rw [e5]
    have hvs := val_small hb hw4 a
    repeat (first | refine pu_not ?_ | refine pu_eql ?_ | refine pu_neq ?_ | refine pu_lss ?_ | refine pu_leq ?_ | refine pu_gtr ?_ | refine pu_geq ?_ | refine pu_add ?_ | refine pu_sub ?_ | refine fa_at ?_ | refine nl_ptr ?_ | refine ex20 ?_ | refine ex21 ?_ | refine ex30 ?_ | refine ex31 ?_ | refine ex32 ?_ | refine ln_rule ?_ | refine pu_seq ?_ | refine pu_sne ?_)
    refine ld_here h3 m2 (v := vI a) rfl ?_
    repeat (first | refine pu_not ?_ | refine pu_eql ?_ | refine pu_neq ?_ | refine pu_lss ?_ | refine pu_leq ?_ | refine pu_gtr ?_ | refine pu_geq ?_ | refine pu_add ?_ | refine pu_sub ?_ | refine fa_at ?_ | refine nl_ptr ?_ | refine ex20 ?_ | refine ex21 ?_ | refine ex30 ?_ | refine ex31 ?_ | refine ex32 ?_ | refine ln_rule ?_ | refine pu_seq ?_ | refine pu_sne ?_)
    rw [wrap64_in (by omega) (by omega)]
    refine st1_here (A := [(b4, cel [.slice none 0 0, vI 0, vI 0] T.t_linesmanref10_Reader)]) h3 rfl rfl (by simp [rdC]) (fun w4 h4 => ?_)
    have h4 : Ow B w4 ([] ++ (b4, cel [.slice none 0 0, vI 0, vI 0] T.t_linesmanref10_Reader) :: ([] ++ (b2, rdO s (a + wd) 0) :: H)) := h4
    refine ldn_here h4 m2 (vs := rdC s (a + wd) 0) rfl rfl ?_
    refine cvt_ui (by omega) ?_
    refine st_here (A := []) h4 (rdC s (a + wd) 0) rfl rfl (rd_plain hs) (by simp) (fun w5 h5 => ?_)
    refine ldn_here h5 (.head _) (vs := rdC s (a + wd) 0) rfl rfl ?_
    exact k _ h5.drop.drop
/-- What is told of an error in an instruction. -/
def eI (n : Int) : Int := if n = 0 then 0 else if n = 110 then 110 else 200
def riN (l : List Nat) (a : Nat) (e : Int) : Nat × Int × Ins := if e ≠ 0 then (a, e, bare 0) else (a + (insR (l.drop a)).2.1, eI (insR (l.drop a)).2.2, (insR (l.drop a)).1)
theorem refins_spec (hs : Sl X s (bv l)) (hX : ∀ y, y ∈ X → y ∈ H) (hb : Byt l) (hl : l.length < 2 ^ 60) (ha : a ≤ l.length) (h : Ow B w H)
    (k : ∀ w', Ow B w' H → K (.tuple #[.agg (rdC s (riN l a e).1 (riN l a e).2.1).toArray, .agg (riN l a e).2.2.cells.toArray]) w') : callW PG N.linesmanref10_Reader_ins [.agg (rdC s a e).toArray] K PK w := by
  refine linesmanref10_Reader_ins.ok ?_
  unfold linesmanref10_Reader_ins.C
  obtain ⟨hsc, hsp⟩ := sl_pc hs
  have hac : (Value.agg (rdC s a e).toArray).cells = (rdC s a e).toArray := rfl
  refine al_rule h (l := rdC s a e) hac (fun b2 w1 h1 => ?_)
  refine al_rule h1 (l := [.slice none 0 0, vI 0, vI 0]) (by kernel_rfl) (fun b4 w2 h2 => ?_)
  refine al_rule h2 (l := (bare 0).cells) (by kernel_rfl) (fun b6 w3 h3 => ?_)
  have h3 : Ow B w3 ([(b6, iO (bare 0))] ++ (b4, cel [.slice none 0 0, vI 0, vI 0] T.t_linesmanref10_Reader) :: ([] ++ (b2, rdO s a e) :: H)) := h3
  have m2 : ∀ {Y : Hp} {c : List Value} {o4 o6 : Obj}, (b2, cel c T.t_linesmanref10_Reader) ∈ Y ++ ((b6, o6) :: (b4, o4) :: (b2, cel c T.t_linesmanref10_Reader) :: H) := List.mem_append_right _ (.tail _ (.tail _ (.head _)))
  repeat (first | refine pu_not ?_ | refine pu_eql ?_ | refine pu_neq ?_ | refine pu_lss ?_ | refine pu_leq ?_ | refine pu_gtr ?_ | refine pu_geq ?_ | refine pu_add ?_ | refine pu_sub ?_ | refine fa_at ?_ | refine nl_ptr ?_ | refine ex20 ?_ | refine ex21 ?_ | refine ex30 ?_ | refine ex31 ?_ | refine ex32 ?_ | refine ln_rule ?_ | refine pu_seq ?_ | refine pu_sne ?_)
  refine ld_here h3 (m2 (Y := [])) (v := vI e) rfl ?_
  repeat (first | refine pu_not ?_ | refine pu_eql ?_ | refine pu_neq ?_ | refine pu_lss ?_ | refine pu_leq ?_ | refine pu_gtr ?_ | refine pu_geq ?_ | refine pu_add ?_ | refine pu_sub ?_ | refine fa_at ?_ | refine nl_ptr ?_ | refine ex20 ?_ | refine ex21 ?_ | refine ex30 ?_ | refine ex31 ?_ | refine ex32 ?_ | refine ln_rule ?_ | refine pu_seq ?_ | refine pu_sne ?_)
  refine cnd (fun hq => ?_) (fun hq => ?_)
  · have hq : e ≠ 0 := by simpa using hq
    have er : riN l a e = (a, e, bare 0) := if_pos hq
    rw [er] at k
    refine ldn_here h3 (m2 (Y := [])) (vs := rdC s a e) rfl rfl ?_
    refine pu_build (bare 0).cells (by kernel_rfl) ?_
    refine st_here h3 (rdC s a e) rfl rfl (rd_plain hs) (by simp) (fun w4 h4 => ?_)
    refine st_here (A := []) h4 (bare 0).cells rfl rfl (ins_plain _) (by simp [Ins.cells]) (fun w5 h5 => ?_)
    refine ldn_here h5 (.tail _ (.head _)) (vs := rdC s a e) rfl rfl ?_
    refine ldn_here h5 (.head _) (vs := (bare 0).cells) rfl rfl ?_
    exact k _ h5.drop.drop.drop
  have hq : e = 0 := by simpa using hq
  subst hq
  repeat (first | refine pu_not ?_ | refine pu_eql ?_ | refine pu_neq ?_ | refine pu_lss ?_ | refine pu_leq ?_ | refine pu_gtr ?_ | refine pu_geq ?_ | refine pu_add ?_ | refine pu_sub ?_ | refine fa_at ?_ | refine nl_ptr ?_ | refine ex20 ?_ | refine ex21 ?_ | refine ex30 ?_ | refine ex31 ?_ | refine ex32 ?_ | refine ln_rule ?_ | refine pu_seq ?_ | refine pu_sne ?_)
  refine ld_here h3 (m2 (Y := [])) (v := s) rfl ?_
  repeat (first | refine pu_not ?_ | refine pu_eql ?_ | refine pu_neq ?_ | refine pu_lss ?_ | refine pu_leq ?_ | refine pu_gtr ?_ | refine pu_geq ?_ | refine pu_add ?_ | refine pu_sub ?_ | refine fa_at ?_ | refine nl_ptr ?_ | refine ex20 ?_ | refine ex21 ?_ | refine ex30 ?_ | refine ex31 ?_ | refine ex32 ?_ | refine ln_rule ?_ | refine pu_seq ?_ | refine pu_sne ?_)
  refine ld_here h3 (m2 (Y := [])) (v := vI a) rfl ?_
  have hbl : (bv l).length = l.length := by simp
  refine cutL hs (by omega) (by simp; omega) (fun c hc => ?_)
  have hs' : Sl ([(b6, iO (bare 0))] ++ (b4, cel [.slice none 0 0, vI 0, vI 0] T.t_linesmanref10_Reader) :: ([] ++ (b2, rdO s a 0) :: H)) s (bv l) := hs.mono fun x hx => .tail _ (.tail _ (.tail _ (hX x hx)))
  have hcut := sl_cut (l := a) (h := l.length) (m := c) hs' ha (by simp) (by simpa using hc)
  rw [bv_drop] at hcut
  rw [Int.toNat_natCast, hbl]
  refine read08_spec hcut (fun x hx => hx) (byt_drop hb a) (by rw [List.length_drop]; omega) h3 (fun w4 h4 => ?_)
  have er : riN l a 0 = (a + (insR (l.drop a)).2.1, eI (insR (l.drop a)).2.2, (insR (l.drop a)).1) := by unfold riN; rw [if_neg (by simp)]
  rw [er] at k
  have hca := insR_cases (l.drop a)
  have hml : (insR (l.drop a)).2.1 ≤ l.length - a := by
    rcases hca with ⟨_, _, _, h4⟩ | h4 | h4
    · rw [List.length_drop] at h4; exact h4
    · rw [h4]; simp
    · rw [h4]; simp
  have hen : (insR (l.drop a)).2.2 = 0 ∨ (insR (l.drop a)).2.2 = 110 ∨ (insR (l.drop a)).2.2 = 180 := by
    rcases hca with ⟨h0, _⟩ | h4 | h4
    · exact .inl h0
    · rw [h4]; exact .inr (.inl rfl)
    · rw [h4]; exact .inr (.inr rfl)
  generalize (insR (l.drop a)).2.1 = m at k hml ⊢
  generalize (insR (l.drop a)).2.2 = n at k hen ⊢
  generalize (insR (l.drop a)).1 = x at k ⊢
  repeat (first | refine pu_not ?_ | refine pu_eql ?_ | refine pu_neq ?_ | refine pu_lss ?_ | refine pu_leq ?_ | refine pu_gtr ?_ | refine pu_geq ?_ | refine pu_add ?_ | refine pu_sub ?_ | refine fa_at ?_ | refine nl_ptr ?_ | refine ex20 ?_ | refine ex21 ?_ | refine ex30 ?_ | refine ex31 ?_ | refine ex32 ?_ | refine ln_rule ?_ | refine pu_seq ?_ | refine pu_sne ?_)
  refine al_rule h4 (l := (bare 0).cells) (by kernel_rfl) (fun b31 w5 h5 => ?_)
  refine st_here (A := []) h5 x.cells rfl rfl (ins_plain _) (by simp [Ins.cells]) (fun w6 h6 => ?_)
  have e3 : (bare 0).cells.take 0 ++ x.cells ++ (bare 0).cells.drop (0 + 5) = x.cells := rfl
  rw [e3] at h6
  have h6 : Ow B w6 ([(b31, iO x), (b6, iO (bare 0)), (b4, cel [.slice none 0 0, vI 0, vI 0] T.t_linesmanref10_Reader)] ++ (b2, rdO s a 0) :: H) := h6
  repeat (first | refine pu_not ?_ | refine pu_eql ?_ | refine pu_neq ?_ | refine pu_lss ?_ | refine pu_leq ?_ | refine pu_gtr ?_ | refine pu_geq ?_ | refine pu_add ?_ | refine pu_sub ?_ | refine fa_at ?_ | refine nl_ptr ?_ | refine ex20 ?_ | refine ex21 ?_ | refine ex30 ?_ | refine ex31 ?_ | refine ex32 ?_ | refine ln_rule ?_ | refine pu_seq ?_ | refine pu_sne ?_)
  rcases hen with rfl | rfl | rfl
  · refine cnd_f rfl ?_
    repeat (first | refine pu_not ?_ | refine pu_eql ?_ | refine pu_neq ?_ | refine pu_lss ?_ | refine pu_leq ?_ | refine pu_gtr ?_ | refine pu_geq ?_ | refine pu_add ?_ | refine pu_sub ?_ | refine fa_at ?_ | refine nl_ptr ?_ | refine ex20 ?_ | refine ex21 ?_ | refine ex30 ?_ | refine ex31 ?_ | refine ex32 ?_ | refine ln_rule ?_ | refine pu_seq ?_ | refine pu_sne ?_)
    refine cnd_f rfl ?_
    repeat (first | refine pu_not ?_ | refine pu_eql ?_ | refine pu_neq ?_ | refine pu_lss ?_ | refine pu_leq ?_ | refine pu_gtr ?_ | refine pu_geq ?_ | refine pu_add ?_ | refine pu_sub ?_ | refine fa_at ?_ | refine nl_ptr ?_ | refine ex20 ?_ | refine ex21 ?_ | refine ex30 ?_ | refine ex31 ?_ | refine ex32 ?_ | refine ln_rule ?_ | refine pu_seq ?_ | refine pu_sne ?_)
    refine ld_here h6 (m2 (Y := [_])) (v := vI a) rfl ?_
    repeat (first | refine pu_not ?_ | refine pu_eql ?_ | refine pu_neq ?_ | refine pu_lss ?_ | refine pu_leq ?_ | refine pu_gtr ?_ | refine pu_geq ?_ | refine pu_add ?_ | refine pu_sub ?_ | refine fa_at ?_ | refine nl_ptr ?_ | refine ex20 ?_ | refine ex21 ?_ | refine ex30 ?_ | refine ex31 ?_ | refine ex32 ?_ | refine ln_rule ?_ | refine pu_seq ?_ | refine pu_sne ?_)
    rw [wrap64_in (by omega) (by omega)]
    refine st1_here h6 rfl rfl (by simp [rdC]) (fun w7 h7 => ?_)
    have h7 : Ow B w7 ([(b31, iO x), (b6, iO (bare 0)), (b4, cel [.slice none 0 0, vI 0, vI 0] T.t_linesmanref10_Reader)] ++ (b2, rdO s (a + m) (eI 0)) :: H) := h7
    refine ⟨fun w => Ow B w [(b31, iO x)], h7.drew.sub (List.Sublist.cons_cons _ (List.nil_sublist _)), ?_⟩
    refine ldn_here h7.drew (m2 (Y := [_])) (vs := rdC s (a + m) (eI 0)) rfl rfl ?_
    refine ldsn_here (fun w h => h) (.head _) (vs := x.cells) rfl rfl ?_
    have h8 : Ow B w7.drew ([(b31, iO x), (b6, iO (bare 0))] ++ (b4, cel [.slice none 0 0, vI 0, vI 0] T.t_linesmanref10_Reader) :: (b2, rdO s (a + m) (eI 0)) :: H) := h7.drew
    refine st_here h8 (rdC s (a + m) (eI 0)) rfl rfl (rd_plain hs) (by simp) (fun w9 h9 => ?_)
    refine ⟨h9.sub (List.Sublist.cons_cons _ (List.nil_sublist _)), ?_⟩
    have h9 : Ow B w9 ([(b31, iO x)] ++ (b6, iO (bare 0)) :: (b4, rdO s (a + m) (eI 0)) :: (b2, rdO s (a + m) (eI 0)) :: H) := h9
    refine st_here h9 x.cells rfl rfl (ins_plain _) (by simp [Ins.cells]) (fun w10 h10 => ?_)
    rw [e3] at h10
    refine ldn_here h10 (.tail _ (.tail _ (.head _))) (vs := rdC s (a + m) (eI 0)) rfl rfl ?_
    refine ldn_here h10 (.tail _ (.head _)) (vs := x.cells) rfl rfl ?_
    exact k _ (Ow.drop (Ow.drop (Ow.drop (Ow.drop h10))))
  · refine cnd_t rfl ?_
    repeat (first | refine pu_not ?_ | refine pu_eql ?_ | refine pu_neq ?_ | refine pu_lss ?_ | refine pu_leq ?_ | refine pu_gtr ?_ | refine pu_geq ?_ | refine pu_add ?_ | refine pu_sub ?_ | refine fa_at ?_ | refine nl_ptr ?_ | refine ex20 ?_ | refine ex21 ?_ | refine ex30 ?_ | refine ex31 ?_ | refine ex32 ?_ | refine ln_rule ?_ | refine pu_seq ?_ | refine pu_sne ?_)
    refine st1_here h6 rfl rfl (by simp [rdC]) (fun w6 h6 => ?_)
    have h6 : Ow B w6 ([(b31, iO x), (b6, iO (bare 0)), (b4, cel [.slice none 0 0, vI 0, vI 0] T.t_linesmanref10_Reader)] ++ (b2, rdO s a (eI 110)) :: H) := h6
    repeat (first | refine pu_not ?_ | refine pu_eql ?_ | refine pu_neq ?_ | refine pu_lss ?_ | refine pu_leq ?_ | refine pu_gtr ?_ | refine pu_geq ?_ | refine pu_add ?_ | refine pu_sub ?_ | refine fa_at ?_ | refine nl_ptr ?_ | refine ex20 ?_ | refine ex21 ?_ | refine ex30 ?_ | refine ex31 ?_ | refine ex32 ?_ | refine ln_rule ?_ | refine pu_seq ?_ | refine pu_sne ?_)
    refine ld_here h6 (m2 (Y := [_])) (v := vI a) rfl ?_
    repeat (first | refine pu_not ?_ | refine pu_eql ?_ | refine pu_neq ?_ | refine pu_lss ?_ | refine pu_leq ?_ | refine pu_gtr ?_ | refine pu_geq ?_ | refine pu_add ?_ | refine pu_sub ?_ | refine fa_at ?_ | refine nl_ptr ?_ | refine ex20 ?_ | refine ex21 ?_ | refine ex30 ?_ | refine ex31 ?_ | refine ex32 ?_ | refine ln_rule ?_ | refine pu_seq ?_ | refine pu_sne ?_)
    rw [wrap64_in (by omega) (by omega)]
    refine st1_here h6 rfl rfl (by simp [rdC]) (fun w7 h7 => ?_)
    have h7 : Ow B w7 ([(b31, iO x), (b6, iO (bare 0)), (b4, cel [.slice none 0 0, vI 0, vI 0] T.t_linesmanref10_Reader)] ++ (b2, rdO s (a + m) (eI 110)) :: H) := h7
    refine ⟨fun w => Ow B w [(b31, iO x)], h7.drew.sub (List.Sublist.cons_cons _ (List.nil_sublist _)), ?_⟩
    refine ldn_here h7.drew (m2 (Y := [_])) (vs := rdC s (a + m) (eI 110)) rfl rfl ?_
    refine ldsn_here (fun w h => h) (.head _) (vs := x.cells) rfl rfl ?_
    have h8 : Ow B w7.drew ([(b31, iO x), (b6, iO (bare 0))] ++ (b4, cel [.slice none 0 0, vI 0, vI 0] T.t_linesmanref10_Reader) :: (b2, rdO s (a + m) (eI 110)) :: H) := h7.drew
    refine st_here h8 (rdC s (a + m) (eI 110)) rfl rfl (rd_plain hs) (by simp) (fun w9 h9 => ?_)
    refine ⟨h9.sub (List.Sublist.cons_cons _ (List.nil_sublist _)), ?_⟩
    have h9 : Ow B w9 ([(b31, iO x)] ++ (b6, iO (bare 0)) :: (b4, rdO s (a + m) (eI 110)) :: (b2, rdO s (a + m) (eI 110)) :: H) := h9
    refine st_here h9 x.cells rfl rfl (ins_plain _) (by simp [Ins.cells]) (fun w10 h10 => ?_)
    rw [e3] at h10
    refine ldn_here h10 (.tail _ (.tail _ (.head _))) (vs := rdC s (a + m) (eI 110)) rfl rfl ?_
    refine ldn_here h10 (.tail _ (.head _)) (vs := x.cells) rfl rfl ?_
    exact k _ (Ow.drop (Ow.drop (Ow.drop (Ow.drop h10))))
  · refine cnd_f rfl ?_
    repeat (first | refine pu_not ?_ | refine pu_eql ?_ | refine pu_neq ?_ | refine pu_lss ?_ | refine pu_leq ?_ | refine pu_gtr ?_ | refine pu_geq ?_ | refine pu_add ?_ | refine pu_sub ?_ | refine fa_at ?_ | refine nl_ptr ?_ | refine ex20 ?_ | refine ex21 ?_ | refine ex30 ?_ | refine ex31 ?_ | refine ex32 ?_ | refine ln_rule ?_ | refine pu_seq ?_ | refine pu_sne ?_)
    refine cnd_t rfl ?_
    repeat (first | refine pu_not ?_ | refine pu_eql ?_ | refine pu_neq ?_ | refine pu_lss ?_ | refine pu_leq ?_ | refine pu_gtr ?_ | refine pu_geq ?_ | refine pu_add ?_ | refine pu_sub ?_ | refine fa_at ?_ | refine nl_ptr ?_ | refine ex20 ?_ | refine ex21 ?_ | refine ex30 ?_ | refine ex31 ?_ | refine ex32 ?_ | refine ln_rule ?_ | refine pu_seq ?_ | refine pu_sne ?_)
    refine st1_here h6 rfl rfl (by simp [rdC]) (fun w6 h6 => ?_)
    have h6 : Ow B w6 ([(b31, iO x), (b6, iO (bare 0)), (b4, cel [.slice none 0 0, vI 0, vI 0] T.t_linesmanref10_Reader)] ++ (b2, rdO s a (eI 180)) :: H) := h6
    repeat (first | refine pu_not ?_ | refine pu_eql ?_ | refine pu_neq ?_ | refine pu_lss ?_ | refine pu_leq ?_ | refine pu_gtr ?_ | refine pu_geq ?_ | refine pu_add ?_ | refine pu_sub ?_ | refine fa_at ?_ | refine nl_ptr ?_ | refine ex20 ?_ | refine ex21 ?_ | refine ex30 ?_ | refine ex31 ?_ | refine ex32 ?_ | refine ln_rule ?_ | refine pu_seq ?_ | refine pu_sne ?_)
    refine ld_here h6 (m2 (Y := [_])) (v := vI a) rfl ?_
    repeat (first | refine pu_not ?_ | refine pu_eql ?_ | refine pu_neq ?_ | refine pu_lss ?_ | refine pu_leq ?_ | refine pu_gtr ?_ | refine pu_geq ?_ | refine pu_add ?_ | refine pu_sub ?_ | refine fa_at ?_ | refine nl_ptr ?_ | refine ex20 ?_ | refine ex21 ?_ | refine ex30 ?_ | refine ex31 ?_ | refine ex32 ?_ | refine ln_rule ?_ | refine pu_seq ?_ | refine pu_sne ?_)
    rw [wrap64_in (by omega) (by omega)]
    refine st1_here h6 rfl rfl (by simp [rdC]) (fun w7 h7 => ?_)
    have h7 : Ow B w7 ([(b31, iO x), (b6, iO (bare 0)), (b4, cel [.slice none 0 0, vI 0, vI 0] T.t_linesmanref10_Reader)] ++ (b2, rdO s (a + m) (eI 180)) :: H) := h7
    refine ⟨fun w => Ow B w [(b31, iO x)], h7.drew.sub (List.Sublist.cons_cons _ (List.nil_sublist _)), ?_⟩
    refine ldn_here h7.drew (m2 (Y := [_])) (vs := rdC s (a + m) (eI 180)) rfl rfl ?_
    refine ldsn_here (fun w h => h) (.head _) (vs := x.cells) rfl rfl ?_
    have h8 : Ow B w7.drew ([(b31, iO x), (b6, iO (bare 0))] ++ (b4, cel [.slice none 0 0, vI 0, vI 0] T.t_linesmanref10_Reader) :: (b2, rdO s (a + m) (eI 180)) :: H) := h7.drew
    refine st_here h8 (rdC s (a + m) (eI 180)) rfl rfl (rd_plain hs) (by simp) (fun w9 h9 => ?_)
    refine ⟨h9.sub (List.Sublist.cons_cons _ (List.nil_sublist _)), ?_⟩
    have h9 : Ow B w9 ([(b31, iO x)] ++ (b6, iO (bare 0)) :: (b4, rdO s (a + m) (eI 180)) :: (b2, rdO s (a + m) (eI 180)) :: H) := h9
    refine st_here h9 x.cells rfl rfl (ins_plain _) (by simp [Ins.cells]) (fun w10 h10 => ?_)
    rw [e3] at h10
    refine ldn_here h10 (.tail _ (.tail _ (.head _))) (vs := rdC s (a + m) (eI 180)) rfl rfl ?_
    refine ldn_here h10 (.tail _ (.head _)) (vs := x.cells) rfl rfl ?_
    exact k _ (Ow.drop (Ow.drop (Ow.drop (Ow.drop h10))))
end
end Go.Proofs.YtkkkcafkepnecaaGreat.Im

/-! Images: the document's reading of a program. -/
set_option linter.unusedVariables false
set_option linter.unusedSimpArgs false
set_option linter.unnecessarySimpa false
namespace Go.Proofs.YtkkkcafkepnecaaGreat.Im
open Go Go.RowKit Vc Oc Dg
attribute [local irreducible] binV Op.unary convert nlW faW ldS ldW ixS ixA ixV ixT exW lnS lnT pu stW alW opW opU bsW mkW

section
variable {B w : World} {H C X Y : Hp} {K KW : Value → World → Prop} {KK : Value → Prop} {PK : List PanicEntry → World → Prop} {s : Value} {l : List Nat} {a : Nat} {e : Int}
/-- What is still to be read; or an error. -/
def St (l : List Nat) (a : Nat) (e : Int) (F : Nat → Out) : Prop := (e = 0 ∧ progR l = F a) ∨ (e ≠ 0 ∧ progR l = .error e)
theorem st_num {wd : Nat} {F' : Nat → Nat → Out} (h : St l a e (fun a => andE (num l a wd) fun v => F' v (a + wd))) : St l (rnN l wd a e).1 (rnN l wd a e).2.1 (F' (rnN l wd a e).2.2) := by
  rcases h with ⟨rfl, h⟩ | ⟨he, h⟩
  · unfold rnN
    rw [if_neg (by simp)]
    by_cases hl : a + wd ≤ l.length
    · rw [if_pos hl]
      have h : progR l = andE (num l a wd) fun v => F' v (a + wd) := h
      rw [num_ok hl, andE_ok] at h
      exact .inl ⟨rfl, h⟩
    · rw [if_neg hl]
      have h : progR l = andE (num l a wd) fun v => F' v (a + wd) := h
      rw [num_er hl, andE_er] at h
      exact .inr ⟨by show (110 : Int) ≠ 0; decide, h⟩
  · unfold rnN
    rw [if_pos he]
    exact .inr ⟨he, h⟩
theorem rnN_le {wd : Nat} (ha : a ≤ l.length) : (rnN l wd a e).1 ≤ l.length := by
  unfold rnN
  split
  · exact ha
  · split
    · assumption
    · exact ha
theorem rnum_step {b2 wd : Nat} {F' : Nat → Nat → Out} (hs : Sl X s (bv l)) (hX : ∀ y, y ∈ X → y ∈ H) (hb : Byt l) (hl : l.length < 2 ^ 60) (ha : a ≤ l.length) (hw : right wd = true) (hw4 : wd ≤ 2) (h : Ow B w (Y ++ (b2, rdO s a e) :: H))
    (hS : St l a e (fun a => andE (num l a wd) fun v => F' v (a + wd)))
    (k : ∀ a' e' v' w', St l a' e' (F' v') → a' ≤ l.length → v' < 256 ^ wd → Ow B w' (Y ++ (b2, rdO s a' e') :: H) → KW (vI (v' : Nat)) w') :
    ldW (some 3) (ptr b2) w fun t23 => callW PG N.linesmanref10_Reader_number [t23, vI wd] (fun t24 w25 => exW 0 t24 fun t26 => exW 1 t24 fun t27 => stW 3 (ptr b2) t26 (fun w28 => KW t27 w28) w25) PK w := by
  refine ldn_here h (List.mem_append_right _ (.head _)) (vs := rdC s a e) rfl rfl ?_
  refine refnum_spec hs (fun y hy => List.mem_append_right _ (.tail _ (hX y hy))) hb hl ha hw (by omega) h (fun w1 h1 => ?_)
  have hle := rnN_le (wd := wd) (e := e) ha
  have hv : (rnN l wd a e).2.2 < 256 ^ wd := by
    have hp : 0 < 256 ^ wd := Nat.pow_pos (by decide)
    unfold rnN
    split
    · exact hp
    · split
      · have h1 := val_lt _ (byt_take (byt_drop hb a) wd)
        have h2 : ((l.drop a).take wd).length ≤ wd := by rw [List.length_take]; omega
        exact Nat.lt_of_lt_of_le h1 (Nat.pow_le_pow_right (by decide) h2)
      · exact hp
  have hS' := st_num hS
  generalize rnN l wd a e = r at hle hv hS' ⊢
  repeat (first | refine pu_not ?_ | refine pu_eql ?_ | refine pu_neq ?_ | refine pu_lss ?_ | refine pu_leq ?_ | refine pu_gtr ?_ | refine pu_geq ?_ | refine pu_add ?_ | refine pu_sub ?_ | refine fa_at ?_ | refine nl_ptr ?_ | refine ex20 ?_ | refine ex21 ?_ | refine ex30 ?_ | refine ex31 ?_ | refine ex32 ?_ | refine ln_rule ?_ | refine pu_seq ?_ | refine pu_sne ?_)
  refine st_here h1 (rdC s r.1 r.2.1) rfl rfl (rd_plain hs) (by simp [rdC]) (fun w2 h2 => ?_)
  have e3 : (rdC s a e).take 0 ++ rdC s r.1 r.2.1 ++ (rdC s a e).drop (0 + 3) = rdC s r.1 r.2.1 := rfl
  rw [e3] at h2
  exact k _ _ _ _ hS' hle hv h2
/-- It is none. -/
theorem rp_fail {b2 b4 b6 : Nat} {c6 c4 : List Value} (hs : Sl X s (bv l)) (h6 : c6.length = 4) (h4 : c4.length = 3) (h : Ow B w (Y ++ (b6, cel c6 T.t_api_Program) :: (b4, cel c4 T.t_linesmanref10_Reader) :: (b2, rdO s a e) :: H))
    (k : ∀ w', Ow B w' H → K (.tuple #[.agg (rdC s a e).toArray, .agg (p0.cells nilS).toArray]) w') :
    ldW (some 3) (ptr b2) w fun t182 => pu PG (Instr.build T.t_api_Program #[]) fun t183 => stW 3 (ptr b4) t182 (fun w184 => stW 4 (ptr b6) t183 (fun w185 => ldW (some 3) (ptr b4) w185 fun t186 => ldW (some 4) (ptr b6) w185 fun t187 => K (.tuple #[t186, t187]) w185) w184) w := by
  refine ldn_here h (List.mem_append_right _ (.tail _ (.tail _ (.head _)))) (vs := rdC s a e) rfl rfl ?_
  refine pu_build (p0.cells nilS) (by kernel_rfl) ?_
  have h : Ow B w ((Y ++ [(b6, cel c6 T.t_api_Program)]) ++ (b4, cel c4 T.t_linesmanref10_Reader) :: (b2, rdO s a e) :: H) := by simpa using h
  refine st_here h (rdC s a e) rfl rfl (rd_plain hs) (by omega) (fun w1 h1 => ?_)
  have e4 : c4.take 0 ++ rdC s a e ++ c4.drop (0 + 3) = rdC s a e := by rw [List.drop_eq_nil_of_le (by omega)]; simp
  rw [e4] at h1
  have h1 : Ow B w1 (Y ++ (b6, cel c6 T.t_api_Program) :: (b4, rdO s a e) :: (b2, rdO s a e) :: H) := by simpa using h1
  refine st_here h1 (p0.cells nilS) rfl rfl rfl (by omega) (fun w2 h2 => ?_)
  have e6 : c6.take 0 ++ p0.cells nilS ++ c6.drop (0 + 4) = p0.cells nilS := by rw [List.drop_eq_nil_of_le (by omega)]; simp
  rw [e6] at h2
  refine ldn_here h2 (List.mem_append_right _ (.tail _ (.head _))) (vs := rdC s a e) rfl rfl ?_
  refine ldn_here h2 (List.mem_append_right _ (.head _)) (vs := p0.cells nilS) rfl rfl ?_
  exact k _ (h2.sub ((((List.Sublist.refl H).cons _).cons _).cons _ |>.trans (List.sublist_append_right _ _)))
def F3 (l : List Nat) (mu rw gr : Nat) (a : Nat) : Out := andE (num l a 1) fun n => rfuns l (fin l mu rw gr) n (a + 1) []
def F2 (l : List Nat) (mu rw : Nat) (a : Nat) : Out := andE (num l a 1) fun gr => F3 l mu rw gr (a + 1)
def F1 (l : List Nat) (mu : Nat) (a : Nat) : Out := andE (num l a 1) fun rw => F2 l mu rw (a + 1)
theorem rbody_eq : rbody l = fun a => andE (num l a 1) fun mu => F1 l mu (a + 1) := rfl
theorem st_ne {F G : Nat → Out} (h : St l a e F) (he : e ≠ 0) : St l a e G := by
  rcases h with ⟨h, _⟩ | h
  · exact absurd h he
  · exact .inr h
theorem st_err {F : Nat → Out} (h : St l a e F) (he : e ≠ 0) : progR l = .error e := by
  rcases h with ⟨h, _⟩ | h
  · exact absurd h he
  · exact h.2
theorem st_ok {F : Nat → Out} (h : St l a 0 F) : progR l = F a := by
  rcases h with ⟨_, h⟩ | h
  · exact h
  · exact absurd rfl h.1
end
end Go.Proofs.YtkkkcafkepnecaaGreat.Im

