/- Images: what is read, piece by piece. -/
import Derived.Test.YtkkkcafkepnecaaGreatIF
import Derived.Test.YtkkkcafkepnecaaGreatJG

set_option linter.unusedVariables false
set_option linter.unusedSimpArgs false
set_option linter.unnecessarySimpa false
namespace Go.Proofs.YtkkkcafkepnecaaGreat.Im
open Go Go.RowKit Vc Oc Dg
attribute [local irreducible] binV Op.unary convert nlW faW ldS ldW ixS ixA ixV ixT exW lnS lnT pu stW alW opW opU bsW mkW

section
variable {B w : World} {H : Hp} {K : Value → World → Prop} {PK : List PanicEntry → World → Prop}
theorem must_t {x : Value} (k : K (.tuple #[]) w) : callW PG N.image_must [vB true, x] K PK w := by
  refine image_must.ok ?_
  unfold image_must.C
  repeat (first | refine pu_not ?_ | refine pu_eql ?_ | refine pu_neq ?_ | refine pu_lss ?_ | refine pu_leq ?_ | refine pu_gtr ?_ | refine pu_geq ?_ | refine pu_add ?_ | refine pu_sub ?_ | refine fa_at ?_ | refine nl_ptr ?_ | refine ex20 ?_ | refine ex21 ?_ | refine ex30 ?_ | refine ex31 ?_ | refine ex32 ?_ | refine ln_rule ?_ | refine pu_seq ?_ | refine pu_sne ?_)
  exact cnd_f rfl k
theorem must_f {e : Int} (k : PK (pan e) w) : callW PG N.image_must [vB false, vI e] K PK w := by
  refine image_must.ok ?_
  unfold image_must.C
  repeat (first | refine pu_not ?_ | refine pu_eql ?_ | refine pu_neq ?_ | refine pu_lss ?_ | refine pu_leq ?_ | refine pu_gtr ?_ | refine pu_geq ?_ | refine pu_add ?_ | refine pu_sub ?_ | refine fa_at ?_ | refine nl_ptr ?_ | refine ex20 ?_ | refine ex21 ?_ | refine ex30 ?_ | refine ex31 ?_ | refine ex32 ?_ | refine ln_rule ?_ | refine pu_seq ?_ | refine pu_sne ?_)
  exact cnd_t rfl k
theorem begins_spec (h : Ow B w H) (k : ∀ w', Ow B w' H → K (.agg #[v8 108, v8 105, v8 110, v8 101]) w') : callW PG N.image_begins [] K PK w := by
  refine image_begins.ok ?_
  unfold image_begins.C
  refine al_rule h (l := [v8 0, v8 0, v8 0, v8 0]) (by kernel_rfl) (fun b w1 h1 => ?_)
  refine pu_build [v8 108, v8 105, v8 110, v8 101] (by kernel_rfl) ?_
  refine st_here (A := []) h1 [v8 108, v8 105, v8 110, v8 101] rfl rfl rfl (by simp) (fun w2 h2 => ?_)
  simp only [List.take_zero, List.nil_append, Nat.zero_add, List.drop_succ_cons, List.drop_zero, List.drop_nil, List.append_nil] at h2
  refine ldn_here h2 (.head _) (vs := [v8 108, v8 105, v8 110, v8 101]) rfl rfl ?_
  exact k _ h2.drop
/-- A reader's row. -/
abbrev rO (s : Value) (a : Nat) : Obj := cel [s, vI a] T.t_image_reader
theorem from_spec {X : Hp} {s : Value} {l : List Nat} {a : Nat} (hs : Sl X s (bv l)) (ha : a ≤ l.length) (h : Ow B w H) (k : ∀ w', Ow B w' H → K (cut s a l.length l.length) w') : callW PG N.image_tape_from [.agg #[s], vI a] K PK w := by
  refine image_tape_from.ok ?_
  unfold image_tape_from.C
  obtain ⟨p, c, hse, hc⟩ := Sl.cap hs
  have hcs : (Value.agg #[s]).cells = [s].toArray := by subst hse; rfl
  refine al_rule h (l := [s]) hcs (fun b w1 h1 => ?_)
  repeat (first | refine pu_not ?_ | refine pu_eql ?_ | refine pu_neq ?_ | refine pu_lss ?_ | refine pu_leq ?_ | refine pu_gtr ?_ | refine pu_geq ?_ | refine pu_add ?_ | refine pu_sub ?_ | refine fa_at ?_ | refine nl_ptr ?_ | refine ex20 ?_ | refine ex21 ?_ | refine ex30 ?_ | refine ex31 ?_ | refine ex32 ?_ | refine ln_rule ?_ | refine pu_seq ?_ | refine pu_sne ?_)
  refine ld_here h1 (.head _) (v := s) rfl ?_
  repeat (first | refine pu_not ?_ | refine pu_eql ?_ | refine pu_neq ?_ | refine pu_lss ?_ | refine pu_leq ?_ | refine pu_gtr ?_ | refine pu_geq ?_ | refine pu_add ?_ | refine pu_sub ?_ | refine fa_at ?_ | refine nl_ptr ?_ | refine ex20 ?_ | refine ex21 ?_ | refine ex30 ?_ | refine ex31 ?_ | refine ex32 ?_ | refine ln_rule ?_ | refine pu_seq ?_ | refine pu_sne ?_)
  refine ld_here h1 (.head _) (v := s) rfl ?_
  refine sl_ln hs ?_
  repeat (first | refine pu_not ?_ | refine pu_eql ?_ | refine pu_neq ?_ | refine pu_lss ?_ | refine pu_leq ?_ | refine pu_gtr ?_ | refine pu_geq ?_ | refine pu_add ?_ | refine pu_sub ?_ | refine fa_at ?_ | refine nl_ptr ?_ | refine ex20 ?_ | refine ex21 ?_ | refine ex30 ?_ | refine ex31 ?_ | refine ex32 ?_ | refine ln_rule ?_ | refine pu_seq ?_ | refine pu_sne ?_)
  refine ld_here h1 (.head _) (v := s) rfl ?_
  refine sl_ln hs ?_
  have hb : (bv l).length = l.length := by simp
  refine cutLHM hs (by omega) (by omega) (by omega) (by omega) ?_
  rw [Int.toNat_natCast, Int.toNat_natCast, hb]
  exact k _ h1.drop
theorem sl_from {X : Hp} {s : Value} {l : List Nat} {a : Nat} (hs : Sl X s (bv l)) (ha : a ≤ l.length) : Sl X (cut s a l.length l.length) (bv (l.drop a)) := by
  have := sl_cut (l := a) (h := l.length) (m := l.length) hs ha (by simp) (Nat.le_refl _)
  rwa [bv_drop] at this
/-- The next number. -/
theorem rnum_spec {A C X : Hp} {b : Nat} {s : Value} {l : List Nat} {a wd : Nat} (hs : Sl X s (bv l)) (hX : ∀ x, x ∈ X → x ∈ A ++ C) (hb : Byt l) (hl : l.length < 2 ^ 60) (ha : a ≤ l.length) (hw : right wd = true) (h : Ow B w (A ++ (b, rO s a) :: C))
    (k : ∀ w', a + wd ≤ l.length → Ow B w' (A ++ (b, rO s (a + wd)) :: C) → K (v64 (val ((l.drop a).take wd))) w') (pk : ∀ w', ¬ (a + wd ≤ l.length) → Ow B w' (A ++ (b, rO s a) :: C) → PK (pan 110) w') : callW PG N.image_reader_number [ptr b, vI wd] K PK w := by
  refine image_reader_number.ok ?_
  unfold image_reader_number.C
  have hw8 : wd ≤ 8 := by rcases right_cases hw with h | h | h | h <;> omega
  refine ⟨fun w => Ow B w (A ++ (b, rO s a) :: C), h.drew, ?_⟩
  repeat (first | refine pu_not ?_ | refine pu_eql ?_ | refine pu_neq ?_ | refine pu_lss ?_ | refine pu_leq ?_ | refine pu_gtr ?_ | refine pu_geq ?_ | refine pu_add ?_ | refine pu_sub ?_ | refine fa_at ?_ | refine nl_ptr ?_ | refine ex20 ?_ | refine ex21 ?_ | refine ex30 ?_ | refine ex31 ?_ | refine ex32 ?_ | refine ln_rule ?_ | refine pu_seq ?_ | refine pu_sne ?_)
  refine ldsn_here (fun w h => h) (List.mem_append_right _ (.head _)) (vs := [s]) rfl rfl ?_
  repeat (first | refine pu_not ?_ | refine pu_eql ?_ | refine pu_neq ?_ | refine pu_lss ?_ | refine pu_leq ?_ | refine pu_gtr ?_ | refine pu_geq ?_ | refine pu_add ?_ | refine pu_sub ?_ | refine fa_at ?_ | refine nl_ptr ?_ | refine ex20 ?_ | refine ex21 ?_ | refine ex30 ?_ | refine ex31 ?_ | refine ex32 ?_ | refine ln_rule ?_ | refine pu_seq ?_ | refine pu_sne ?_)
  refine lds_here (fun w h => h) (List.mem_append_right _ (.head _)) (v := vI a) rfl ?_
  refine from_spec hs ha h.drew (fun w1 h1 => ?_)
  have hs' : Sl (A ++ (b, rO s a) :: C) s (bv l) := hs.mono fun x hx => (List.mem_append.1 (hX x hx)).elim (fun h => List.mem_append_left _ h) (fun h => List.mem_append_right _ (.tail _ h))
  refine readFixed_spec h1 (sl_from hs' ha) (byt_drop hb a) (by rw [List.length_drop]; omega) (fun w2 h2 => ?_)
  by_cases hlt : a + wd ≤ l.length
  · have e : rfR (l.drop a) wd = (val ((l.drop a).take wd), 0) := by
      unfold rfR
      rw [if_neg (by rw [hw]; simp), Int.toNat_natCast, if_neg (by rw [List.length_drop]; omega)]
    rw [e]
    repeat (first | refine pu_not ?_ | refine pu_eql ?_ | refine pu_neq ?_ | refine pu_lss ?_ | refine pu_leq ?_ | refine pu_gtr ?_ | refine pu_geq ?_ | refine pu_add ?_ | refine pu_sub ?_ | refine fa_at ?_ | refine nl_ptr ?_ | refine ex20 ?_ | refine ex21 ?_ | refine ex30 ?_ | refine ex31 ?_ | refine ex32 ?_ | refine ln_rule ?_ | refine pu_seq ?_ | refine pu_sne ?_)
    refine must_t ?_
    repeat (first | refine pu_not ?_ | refine pu_eql ?_ | refine pu_neq ?_ | refine pu_lss ?_ | refine pu_leq ?_ | refine pu_gtr ?_ | refine pu_geq ?_ | refine pu_add ?_ | refine pu_sub ?_ | refine fa_at ?_ | refine nl_ptr ?_ | refine ex20 ?_ | refine ex21 ?_ | refine ex30 ?_ | refine ex31 ?_ | refine ex32 ?_ | refine ln_rule ?_ | refine pu_seq ?_ | refine pu_sne ?_)
    refine ld_here h2 (List.mem_append_right _ (.head _)) (v := vI a) rfl ?_
    repeat (first | refine pu_not ?_ | refine pu_eql ?_ | refine pu_neq ?_ | refine pu_lss ?_ | refine pu_leq ?_ | refine pu_gtr ?_ | refine pu_geq ?_ | refine pu_add ?_ | refine pu_sub ?_ | refine fa_at ?_ | refine nl_ptr ?_ | refine ex20 ?_ | refine ex21 ?_ | refine ex30 ?_ | refine ex31 ?_ | refine ex32 ?_ | refine ln_rule ?_ | refine pu_seq ?_ | refine pu_sne ?_)
    rw [wrap64_in (by omega) (by omega)]
    refine st1_here h2 rfl rfl (by simp) (fun w3 h3 => ?_)
    exact k _ hlt h3
  · have e : rfR (l.drop a) wd = (0, 110) := by
      unfold rfR
      rw [if_neg (by rw [hw]; simp), Int.toNat_natCast, if_pos (by rw [List.length_drop]; omega)]
    rw [e]
    repeat (first | refine pu_not ?_ | refine pu_eql ?_ | refine pu_neq ?_ | refine pu_lss ?_ | refine pu_leq ?_ | refine pu_gtr ?_ | refine pu_geq ?_ | refine pu_add ?_ | refine pu_sub ?_ | refine fa_at ?_ | refine nl_ptr ?_ | refine ex20 ?_ | refine ex21 ?_ | refine ex30 ?_ | refine ex31 ?_ | refine ex32 ?_ | refine ln_rule ?_ | refine pu_seq ?_ | refine pu_sne ?_)
    exact must_f (pk _ hlt h2)
theorem val8 {l : List Nat} (hb : Byt l) (a : Nat) : val ((l.drop a).take 1) < 256 := by
  have h1 := val_lt _ (byt_take (byt_drop hb a) 1)
  have h2 : ((l.drop a).take 1).length ≤ 1 := by rw [List.length_take]; omega
  have h3 : 256 ^ ((l.drop a).take 1).length ≤ 256 ^ 1 := Nat.pow_le_pow_right (by omega) h2
  omega
theorem rbyte_spec {A C X : Hp} {b : Nat} {s : Value} {l : List Nat} {a : Nat} (hs : Sl X s (bv l)) (hX : ∀ x, x ∈ X → x ∈ A ++ C) (hb : Byt l) (hl : l.length < 2 ^ 60) (ha : a ≤ l.length) (h : Ow B w (A ++ (b, rO s a) :: C))
    (k : ∀ w', a + 1 ≤ l.length → Ow B w' (A ++ (b, rO s (a + 1)) :: C) → K (vI (val ((l.drop a).take 1))) w') (pk : ∀ w', ¬ (a + 1 ≤ l.length) → Ow B w' (A ++ (b, rO s a) :: C) → PK (pan 110) w') : callW PG N.image_reader_byte [ptr b] K PK w := by
  refine image_reader_byte.ok ?_
  unfold image_reader_byte.C
  refine rnum_spec (wd := 1) hs hX hb hl ha rfl h (fun w1 hlt h1 => ?_) (fun w1 hlt h1 => pk _ hlt h1)
  have := val8 hb a
  refine cvt_ui (by omega) ?_
  exact k _ hlt h1
theorem rdP_le {l : List Nat} : ∀ {ps : List Pk} {x : Ins} {a : Nat} {y : Ins} {m : Nat}, rdP l ps x a = some (y, m) → a ≤ l.length → m ≤ l.length ∧ a ≤ m
  | [], x, a, y, m, h, ha => by
    simp only [rdP, Option.some.injEq, Prod.mk.injEq] at h
    omega
  | p :: ps, x, a, y, m, h, ha => by
    unfold rdP at h
    split at h
    · rename_i hlt
      have := rdP_le h hlt
      omega
    · cases h
/-- What an instruction that is read is. -/
theorem insR_cases (l : List Nat) : ((insR l).2.2 = 0 ∧ okI (insR l).1 = true ∧ 1 ≤ (insR l).2.1 ∧ (insR l).2.1 ≤ l.length) ∨ insR l = (bare 0, 0, 110) ∨ insR l = (bare 0, 0, 180) := by
  unfold insR
  split
  · exact .inr (.inl rfl)
  · rename_i h1
    split
    · exact .inr (.inr rfl)
    · split
      · exact .inr (.inl rfl)
      · rename_i x a he
        split
        · rename_i hk
          have := rdP_le he (by omega)
          exact .inl ⟨rfl, hk, this.2, this.1⟩
        · exact .inr (.inr rfl)
theorem rdP_imm {l : List Nat} (hb : Byt l) : ∀ {ps : List Pk} {x : Ins} {a : Nat} {y : Ins} {m : Nat}, rdP l ps x a = some (y, m) → 0 ≤ x.imm ∧ x.imm < 4294967296 → 0 ≤ y.imm ∧ y.imm < 4294967296
  | [], x, a, y, m, h, hx => by
    simp only [rdP, Option.some.injEq, Prod.mk.injEq] at h
    rw [← h.1]; exact hx
  | p :: ps, x, a, y, m, h, hx => by
    unfold rdP at h
    split at h
    · have := val_small hb (pw_pos p).2 a
      exact rdP_imm hb h (imm_put hx (by omega) (by omega))
    · cases h
theorem insR_imm {l : List Nat} (hb : Byt l) : 0 ≤ (insR l).1.imm ∧ (insR l).1.imm < 4294967296 := by
  unfold insR
  split
  · simp [bare]
  · split
    · simp [bare]
    · split
      · simp [bare]
      · rename_i x a he
        split
        · exact rdP_imm hb he (by simp [bare])
        · simp [bare]
/-- The next instruction. -/
theorem rins_spec {A C X : Hp} {b : Nat} {s : Value} {l : List Nat} {a : Nat} (hs : Sl X s (bv l)) (hX : ∀ x, x ∈ X → x ∈ A ++ C) (hb : Byt l) (hl : l.length < 2 ^ 60) (ha : a ≤ l.length) (h : Ow B w (A ++ (b, rO s a) :: C))
    (k : ∀ w', (insR (l.drop a)).2.2 = 0 → Ow B w' (A ++ (b, rO s (a + (insR (l.drop a)).2.1)) :: C) → K (.agg (insR (l.drop a)).1.cells.toArray) w')
    (pk : ∀ w' e, (insR (l.drop a) = (bare 0, 0, 110) ∧ e = 110 ∨ insR (l.drop a) = (bare 0, 0, 180) ∧ e = 200) → Ow B w' (A ++ (b, rO s a) :: C) → PK (pan e) w') : callW PG N.image_reader_ins [ptr b] K PK w := by
  refine image_reader_ins.ok ?_
  unfold image_reader_ins.C
  refine al_rule h (l := (bare 0).cells) (by kernel_rfl) (fun b2 w1 h1 => ?_)
  have hsY : ∀ Y : Hp, Sl (Y ++ (A ++ (b, rO s a) :: C)) s (bv l) := fun Y => hs.mono fun x hx => List.mem_append_right _ ((List.mem_append.1 (hX x hx)).elim (fun h => List.mem_append_left _ h) (fun h => List.mem_append_right _ (.tail _ h)))
  have hcut : ∀ Y : Hp, Sl (Y ++ (A ++ (b, rO s a) :: C)) (cut s a l.length l.length) (bv (l.drop a)) := fun Y => sl_from (hsY Y) ha
  have hld : (l.drop a).length < 2 ^ 60 := by rw [List.length_drop]; omega
  have hca := insR_cases (l.drop a)
  generalize hins : insR (l.drop a) = r at *
  obtain ⟨x, m, e⟩ := r
  simp only at k hca pk
  have hm : m ≤ l.length - a := by
    rcases hca with ⟨_, _, _, h4⟩ | h4 | h4
    · rw [List.length_drop] at h4; exact h4
    · cases h4; omega
    · cases h4; omega
  refine ⟨fun w => Ow B w (A ++ (b, rO s a) :: C), h1.drew.drop, ?_⟩
  repeat (first | refine pu_not ?_ | refine pu_eql ?_ | refine pu_neq ?_ | refine pu_lss ?_ | refine pu_leq ?_ | refine pu_gtr ?_ | refine pu_geq ?_ | refine pu_add ?_ | refine pu_sub ?_ | refine fa_at ?_ | refine nl_ptr ?_ | refine ex20 ?_ | refine ex21 ?_ | refine ex30 ?_ | refine ex31 ?_ | refine ex32 ?_ | refine ln_rule ?_ | refine pu_seq ?_ | refine pu_sne ?_)
  refine ldsn_here (fun w h => h) (List.mem_append_right _ (.head _)) (vs := [s]) rfl rfl ?_
  repeat (first | refine pu_not ?_ | refine pu_eql ?_ | refine pu_neq ?_ | refine pu_lss ?_ | refine pu_leq ?_ | refine pu_gtr ?_ | refine pu_geq ?_ | refine pu_add ?_ | refine pu_sub ?_ | refine fa_at ?_ | refine nl_ptr ?_ | refine ex20 ?_ | refine ex21 ?_ | refine ex30 ?_ | refine ex31 ?_ | refine ex32 ?_ | refine ln_rule ?_ | refine pu_seq ?_ | refine pu_sne ?_)
  refine lds_here (fun w h => h) (List.mem_append_right _ (.head _)) (v := vI a) rfl ?_
  refine ⟨?_, ?_⟩
  · refine from_spec hs ha h1.drew (fun w2 h2 => ?_)
    refine ⟨?_, ?_⟩
    · refine iread_spec (hcut [_]) (fun x hx => hx) (byt_drop hb a) hld h2 (fun w3 h3 => ?_)
      rw [hins]
      dsimp only
      repeat (first | refine pu_not ?_ | refine pu_eql ?_ | refine pu_neq ?_ | refine pu_lss ?_ | refine pu_leq ?_ | refine pu_gtr ?_ | refine pu_geq ?_ | refine pu_add ?_ | refine pu_sub ?_ | refine fa_at ?_ | refine nl_ptr ?_ | refine ex20 ?_ | refine ex21 ?_ | refine ex30 ?_ | refine ex31 ?_ | refine ex32 ?_ | refine ln_rule ?_ | refine pu_seq ?_ | refine pu_sne ?_)
      refine al_rule h3 (l := (bare 0).cells) (by kernel_rfl) (fun b4 w4 h4 => ?_)
      refine ⟨h4.drop.drop, ?_⟩
      refine st_here (A := []) h4 x.cells rfl rfl (ins_plain _) (by simp [Ins.cells, bare]) (fun w5 h5 => ?_)
      have e3 : (bare 0).cells.take 0 ++ x.cells ++ (bare 0).cells.drop (0 + 5) = x.cells := rfl
      rw [e3] at h5
      repeat (first | refine pu_not ?_ | refine pu_eql ?_ | refine pu_neq ?_ | refine pu_lss ?_ | refine pu_leq ?_ | refine pu_gtr ?_ | refine pu_geq ?_ | refine pu_add ?_ | refine pu_sub ?_ | refine fa_at ?_ | refine nl_ptr ?_ | refine ex20 ?_ | refine ex21 ?_ | refine ex30 ?_ | refine ex31 ?_ | refine ex32 ?_ | refine ln_rule ?_ | refine pu_seq ?_ | refine pu_sne ?_)
      by_cases h180 : e = 180
      · subst h180
        refine must_f ?_
        rcases hca with ⟨h0, _⟩ | h0 | h0
        · simp at h0
        · cases h0
        · first | exact pk _ _ (.inr ⟨h0, rfl⟩) h5.drop.drop | exact fun _ => pk _ _ (.inr ⟨h0, rfl⟩) h5.drop.drop
      · have hne : (e != 180) = true := by simpa using h180
        rw [hne]
        refine must_t ?_
        repeat (first | refine pu_not ?_ | refine pu_eql ?_ | refine pu_neq ?_ | refine pu_lss ?_ | refine pu_leq ?_ | refine pu_gtr ?_ | refine pu_geq ?_ | refine pu_add ?_ | refine pu_sub ?_ | refine fa_at ?_ | refine nl_ptr ?_ | refine ex20 ?_ | refine ex21 ?_ | refine ex30 ?_ | refine ex31 ?_ | refine ex32 ?_ | refine ln_rule ?_ | refine pu_seq ?_ | refine pu_sne ?_)
        by_cases h0 : e = 0
        · subst h0
          refine must_t ?_
          have h6 : Ow B w5 ([(b4, iO x), (b2, iO (bare 0))] ++ A ++ (b, rO s a) :: C) := by simpa using h5
          repeat (first | refine pu_not ?_ | refine pu_eql ?_ | refine pu_neq ?_ | refine pu_lss ?_ | refine pu_leq ?_ | refine pu_gtr ?_ | refine pu_geq ?_ | refine pu_add ?_ | refine pu_sub ?_ | refine fa_at ?_ | refine nl_ptr ?_ | refine ex20 ?_ | refine ex21 ?_ | refine ex30 ?_ | refine ex31 ?_ | refine ex32 ?_ | refine ln_rule ?_ | refine pu_seq ?_ | refine pu_sne ?_)
          refine ld_here h6 (List.mem_append_right _ (.head _)) (v := vI a) rfl ?_
          repeat (first | refine pu_not ?_ | refine pu_eql ?_ | refine pu_neq ?_ | refine pu_lss ?_ | refine pu_leq ?_ | refine pu_gtr ?_ | refine pu_geq ?_ | refine pu_add ?_ | refine pu_sub ?_ | refine fa_at ?_ | refine nl_ptr ?_ | refine ex20 ?_ | refine ex21 ?_ | refine ex30 ?_ | refine ex31 ?_ | refine ex32 ?_ | refine ln_rule ?_ | refine pu_seq ?_ | refine pu_sne ?_)
          rw [wrap64_in (by omega) (by omega)]
          refine st1_here h6 rfl rfl (by simp) (fun w7 h7 => ?_)
          have h7 : Ow B w7 ([(b4, iO x), (b2, iO (bare 0))] ++ A ++ (b, rO s (a + m)) :: C) := h7
          refine ldn_here h7 (.head _) (vs := x.cells) rfl rfl ?_
          have h8 : Ow B w7 ([(b4, iO x)] ++ (b2, iO (bare 0)) :: (A ++ (b, rO s (a + m)) :: C)) := by simpa using h7
          refine st_here h8 x.cells rfl rfl (ins_plain _) (by simp [Ins.cells, bare]) (fun w9 h9 => ?_)
          rw [e3] at h9
          refine ldn_here h9 (.tail _ (.head _)) (vs := x.cells) rfl rfl ?_
          exact k _ rfl (Ow.drop (Ow.drop h9))
        · rcases hca with ⟨h1, _⟩ | h1 | h1
          · exact absurd h1 h0
          · cases h1
            refine must_f ?_
            first | exact pk _ _ (.inl ⟨rfl, rfl⟩) h5.drop.drop | exact fun _ => pk _ _ (.inl ⟨rfl, rfl⟩) h5.drop.drop
          · cases h1; exact absurd rfl h180
    · refine al_rule h2 (l := (bare 0).cells) (by kernel_rfl) (fun b4 w3 h3 => ?_)
      refine ⟨h3.drop.drop, ?_⟩
      refine iread_spec (hcut [_, _]) (fun x hx => hx) (byt_drop hb a) hld h3 (fun w4 h4 => ?_)
      rw [hins]
      dsimp only
      repeat (first | refine pu_not ?_ | refine pu_eql ?_ | refine pu_neq ?_ | refine pu_lss ?_ | refine pu_leq ?_ | refine pu_gtr ?_ | refine pu_geq ?_ | refine pu_add ?_ | refine pu_sub ?_ | refine fa_at ?_ | refine nl_ptr ?_ | refine ex20 ?_ | refine ex21 ?_ | refine ex30 ?_ | refine ex31 ?_ | refine ex32 ?_ | refine ln_rule ?_ | refine pu_seq ?_ | refine pu_sne ?_)
      refine st_here (A := []) h4 x.cells rfl rfl (ins_plain _) (by simp [Ins.cells, bare]) (fun w5 h5 => ?_)
      have e3 : (bare 0).cells.take 0 ++ x.cells ++ (bare 0).cells.drop (0 + 5) = x.cells := rfl
      rw [e3] at h5
      repeat (first | refine pu_not ?_ | refine pu_eql ?_ | refine pu_neq ?_ | refine pu_lss ?_ | refine pu_leq ?_ | refine pu_gtr ?_ | refine pu_geq ?_ | refine pu_add ?_ | refine pu_sub ?_ | refine fa_at ?_ | refine nl_ptr ?_ | refine ex20 ?_ | refine ex21 ?_ | refine ex30 ?_ | refine ex31 ?_ | refine ex32 ?_ | refine ln_rule ?_ | refine pu_seq ?_ | refine pu_sne ?_)
      by_cases h180 : e = 180
      · subst h180
        refine must_f ?_
        rcases hca with ⟨h0, _⟩ | h0 | h0
        · simp at h0
        · cases h0
        · first | exact pk _ _ (.inr ⟨h0, rfl⟩) h5.drop.drop | exact fun _ => pk _ _ (.inr ⟨h0, rfl⟩) h5.drop.drop
      · have hne : (e != 180) = true := by simpa using h180
        rw [hne]
        refine must_t ?_
        repeat (first | refine pu_not ?_ | refine pu_eql ?_ | refine pu_neq ?_ | refine pu_lss ?_ | refine pu_leq ?_ | refine pu_gtr ?_ | refine pu_geq ?_ | refine pu_add ?_ | refine pu_sub ?_ | refine fa_at ?_ | refine nl_ptr ?_ | refine ex20 ?_ | refine ex21 ?_ | refine ex30 ?_ | refine ex31 ?_ | refine ex32 ?_ | refine ln_rule ?_ | refine pu_seq ?_ | refine pu_sne ?_)
        by_cases h0 : e = 0
        · subst h0
          refine must_t ?_
          have h6 : Ow B w5 ([(b4, iO x), (b2, iO (bare 0))] ++ A ++ (b, rO s a) :: C) := by simpa using h5
          repeat (first | refine pu_not ?_ | refine pu_eql ?_ | refine pu_neq ?_ | refine pu_lss ?_ | refine pu_leq ?_ | refine pu_gtr ?_ | refine pu_geq ?_ | refine pu_add ?_ | refine pu_sub ?_ | refine fa_at ?_ | refine nl_ptr ?_ | refine ex20 ?_ | refine ex21 ?_ | refine ex30 ?_ | refine ex31 ?_ | refine ex32 ?_ | refine ln_rule ?_ | refine pu_seq ?_ | refine pu_sne ?_)
          refine ld_here h6 (List.mem_append_right _ (.head _)) (v := vI a) rfl ?_
          repeat (first | refine pu_not ?_ | refine pu_eql ?_ | refine pu_neq ?_ | refine pu_lss ?_ | refine pu_leq ?_ | refine pu_gtr ?_ | refine pu_geq ?_ | refine pu_add ?_ | refine pu_sub ?_ | refine fa_at ?_ | refine nl_ptr ?_ | refine ex20 ?_ | refine ex21 ?_ | refine ex30 ?_ | refine ex31 ?_ | refine ex32 ?_ | refine ln_rule ?_ | refine pu_seq ?_ | refine pu_sne ?_)
          rw [wrap64_in (by omega) (by omega)]
          refine st1_here h6 rfl rfl (by simp) (fun w7 h7 => ?_)
          have h7 : Ow B w7 ([(b4, iO x), (b2, iO (bare 0))] ++ A ++ (b, rO s (a + m)) :: C) := h7
          refine ldn_here h7 (.head _) (vs := x.cells) rfl rfl ?_
          have h8 : Ow B w7 ([(b4, iO x)] ++ (b2, iO (bare 0)) :: (A ++ (b, rO s (a + m)) :: C)) := by simpa using h7
          refine st_here h8 x.cells rfl rfl (ins_plain _) (by simp [Ins.cells, bare]) (fun w9 h9 => ?_)
          rw [e3] at h9
          refine ldn_here h9 (.tail _ (.head _)) (vs := x.cells) rfl rfl ?_
          exact k _ rfl (Ow.drop (Ow.drop h9))
        · rcases hca with ⟨h1, _⟩ | h1 | h1
          · exact absurd h1 h0
          · cases h1
            refine must_f ?_
            first | exact pk _ _ (.inl ⟨rfl, rfl⟩) h5.drop.drop | exact fun _ => pk _ _ (.inl ⟨rfl, rfl⟩) h5.drop.drop
          · cases h1; exact absurd rfl h180
  · refine al_rule h1.drew (l := (bare 0).cells) (by kernel_rfl) (fun b4 w2 h2 => ?_)
    refine ⟨h2.drop.drop, ?_⟩
    refine from_spec hs ha h2 (fun w3 h3 => ?_)
    refine iread_spec (hcut [_, _]) (fun x hx => hx) (byt_drop hb a) hld h3 (fun w4 h4 => ?_)
    rw [hins]
    dsimp only
    repeat (first | refine pu_not ?_ | refine pu_eql ?_ | refine pu_neq ?_ | refine pu_lss ?_ | refine pu_leq ?_ | refine pu_gtr ?_ | refine pu_geq ?_ | refine pu_add ?_ | refine pu_sub ?_ | refine fa_at ?_ | refine nl_ptr ?_ | refine ex20 ?_ | refine ex21 ?_ | refine ex30 ?_ | refine ex31 ?_ | refine ex32 ?_ | refine ln_rule ?_ | refine pu_seq ?_ | refine pu_sne ?_)
    refine st_here (A := []) h4 x.cells rfl rfl (ins_plain _) (by simp [Ins.cells, bare]) (fun w5 h5 => ?_)
    have e3 : (bare 0).cells.take 0 ++ x.cells ++ (bare 0).cells.drop (0 + 5) = x.cells := rfl
    rw [e3] at h5
    repeat (first | refine pu_not ?_ | refine pu_eql ?_ | refine pu_neq ?_ | refine pu_lss ?_ | refine pu_leq ?_ | refine pu_gtr ?_ | refine pu_geq ?_ | refine pu_add ?_ | refine pu_sub ?_ | refine fa_at ?_ | refine nl_ptr ?_ | refine ex20 ?_ | refine ex21 ?_ | refine ex30 ?_ | refine ex31 ?_ | refine ex32 ?_ | refine ln_rule ?_ | refine pu_seq ?_ | refine pu_sne ?_)
    by_cases h180 : e = 180
    · subst h180
      refine must_f ?_
      rcases hca with ⟨h0, _⟩ | h0 | h0
      · simp at h0
      · cases h0
      · first | exact pk _ _ (.inr ⟨h0, rfl⟩) h5.drop.drop | exact fun _ => pk _ _ (.inr ⟨h0, rfl⟩) h5.drop.drop
    · have hne : (e != 180) = true := by simpa using h180
      rw [hne]
      refine must_t ?_
      repeat (first | refine pu_not ?_ | refine pu_eql ?_ | refine pu_neq ?_ | refine pu_lss ?_ | refine pu_leq ?_ | refine pu_gtr ?_ | refine pu_geq ?_ | refine pu_add ?_ | refine pu_sub ?_ | refine fa_at ?_ | refine nl_ptr ?_ | refine ex20 ?_ | refine ex21 ?_ | refine ex30 ?_ | refine ex31 ?_ | refine ex32 ?_ | refine ln_rule ?_ | refine pu_seq ?_ | refine pu_sne ?_)
      by_cases h0 : e = 0
      · subst h0
        refine must_t ?_
        have h6 : Ow B w5 ([(b4, iO x), (b2, iO (bare 0))] ++ A ++ (b, rO s a) :: C) := by simpa using h5
        repeat (first | refine pu_not ?_ | refine pu_eql ?_ | refine pu_neq ?_ | refine pu_lss ?_ | refine pu_leq ?_ | refine pu_gtr ?_ | refine pu_geq ?_ | refine pu_add ?_ | refine pu_sub ?_ | refine fa_at ?_ | refine nl_ptr ?_ | refine ex20 ?_ | refine ex21 ?_ | refine ex30 ?_ | refine ex31 ?_ | refine ex32 ?_ | refine ln_rule ?_ | refine pu_seq ?_ | refine pu_sne ?_)
        refine ld_here h6 (List.mem_append_right _ (.head _)) (v := vI a) rfl ?_
        repeat (first | refine pu_not ?_ | refine pu_eql ?_ | refine pu_neq ?_ | refine pu_lss ?_ | refine pu_leq ?_ | refine pu_gtr ?_ | refine pu_geq ?_ | refine pu_add ?_ | refine pu_sub ?_ | refine fa_at ?_ | refine nl_ptr ?_ | refine ex20 ?_ | refine ex21 ?_ | refine ex30 ?_ | refine ex31 ?_ | refine ex32 ?_ | refine ln_rule ?_ | refine pu_seq ?_ | refine pu_sne ?_)
        rw [wrap64_in (by omega) (by omega)]
        refine st1_here h6 rfl rfl (by simp) (fun w7 h7 => ?_)
        have h7 : Ow B w7 ([(b4, iO x), (b2, iO (bare 0))] ++ A ++ (b, rO s (a + m)) :: C) := h7
        refine ldn_here h7 (.head _) (vs := x.cells) rfl rfl ?_
        have h8 : Ow B w7 ([(b4, iO x)] ++ (b2, iO (bare 0)) :: (A ++ (b, rO s (a + m)) :: C)) := by simpa using h7
        refine st_here h8 x.cells rfl rfl (ins_plain _) (by simp [Ins.cells, bare]) (fun w9 h9 => ?_)
        rw [e3] at h9
        refine ldn_here h9 (.tail _ (.head _)) (vs := x.cells) rfl rfl ?_
        exact k _ rfl (Ow.drop (Ow.drop h9))
      · rcases hca with ⟨h1, _⟩ | h1 | h1
        · exact absurd h1 h0
        · cases h1
          refine must_f ?_
          first | exact pk _ _ (.inl ⟨rfl, rfl⟩) h5.drop.drop | exact fun _ => pk _ _ (.inl ⟨rfl, rfl⟩) h5.drop.drop
        · cases h1; exact absurd rfl h180
end
end Go.Proofs.YtkkkcafkepnecaaGreat.Im

