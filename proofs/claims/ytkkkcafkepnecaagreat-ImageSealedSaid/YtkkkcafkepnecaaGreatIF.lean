/- Instructions: read. -/
import Derived.Test.YtkkkcafkepnecaaGreatIE
import Derived.Test.YtkkkcafkepnecaaGreatJF

set_option linter.unusedVariables false
set_option linter.unusedSimpArgs false
set_option linter.unnecessarySimpa false
namespace Go.Proofs.YtkkkcafkepnecaaGreat.Im
open Go Go.RowKit Vc Oc Dg
attribute [local irreducible] binV Op.unary convert nlW faW ldS ldW ixS ixA ixV ixT exW lnS lnT pu stW alW opW opU bsW mkW

section
variable {B w : World} {H : Hp} {K : Value → World → Prop} {PK : List PanicEntry → World → Prop}
theorem imust_t {x : Value} (k : K (.tuple #[]) w) : callW PG N.instr_must [vB true, x] K PK w := by
  refine instr_must.ok ?_
  unfold instr_must.C
  repeat (first | refine pu_not ?_ | refine pu_eql ?_ | refine pu_neq ?_ | refine pu_lss ?_ | refine pu_leq ?_ | refine pu_gtr ?_ | refine pu_geq ?_ | refine pu_add ?_ | refine pu_sub ?_ | refine fa_at ?_ | refine nl_ptr ?_ | refine ex20 ?_ | refine ex21 ?_ | refine ex30 ?_ | refine ex31 ?_ | refine ex32 ?_ | refine ln_rule ?_ | refine pu_seq ?_ | refine pu_sne ?_)
  exact cnd_f rfl k
theorem imust_f {e : Int} (k : PK (pan e) w) : callW PG N.instr_must [vB false, vI e] K PK w := by
  refine instr_must.ok ?_
  unfold instr_must.C
  repeat (first | refine pu_not ?_ | refine pu_eql ?_ | refine pu_neq ?_ | refine pu_lss ?_ | refine pu_leq ?_ | refine pu_gtr ?_ | refine pu_geq ?_ | refine pu_add ?_ | refine pu_sub ?_ | refine fa_at ?_ | refine nl_ptr ?_ | refine ex20 ?_ | refine ex21 ?_ | refine ex30 ?_ | refine ex31 ?_ | refine ex32 ?_ | refine ln_rule ?_ | refine pu_seq ?_ | refine pu_sne ?_)
  exact cnd_t rfl k
/-- A reader's row. -/
abbrev irO (s : Value) (a : Nat) : Obj := cel [s, vI a] T.t_instr_reader
theorem ileft_spec {s : Value} {l : List Nat} {a wd : Nat} {X : Hp} (hs : Sl X s (bv l)) (hl : l.length < 2 ^ 60) (ha : a < 2 ^ 60) (hw : wd < 2 ^ 60) (h : Ow B w H) (k : ∀ w', Ow B w' H → K (vB (decide (a + wd ≤ l.length))) w') : callW PG N.instr_tape_left [.agg #[s], vI a, vI wd] K PK w := by
  refine instr_tape_left.ok ?_
  unfold instr_tape_left.C
  obtain ⟨p, c, rfl, hc⟩ := Sl.cap hs
  refine al_rule h (l := [.slice p (bv l).length c]) rfl (fun b w1 h1 => ?_)
  repeat (first | refine pu_not ?_ | refine pu_eql ?_ | refine pu_neq ?_ | refine pu_lss ?_ | refine pu_leq ?_ | refine pu_gtr ?_ | refine pu_geq ?_ | refine pu_add ?_ | refine pu_sub ?_ | refine fa_at ?_ | refine nl_ptr ?_ | refine ex20 ?_ | refine ex21 ?_ | refine ex30 ?_ | refine ex31 ?_ | refine ex32 ?_ | refine ln_rule ?_ | refine pu_seq ?_ | refine pu_sne ?_)
  refine ld_here h1 (.head _) (v := .slice p (bv l).length c) rfl ?_
  repeat (first | refine pu_not ?_ | refine pu_eql ?_ | refine pu_neq ?_ | refine pu_lss ?_ | refine pu_leq ?_ | refine pu_gtr ?_ | refine pu_geq ?_ | refine pu_add ?_ | refine pu_sub ?_ | refine fa_at ?_ | refine nl_ptr ?_ | refine ex20 ?_ | refine ex21 ?_ | refine ex30 ?_ | refine ex31 ?_ | refine ex32 ?_ | refine ln_rule ?_ | refine pu_seq ?_ | refine pu_sne ?_)
  have hb : (bv l).length = l.length := by simp
  rw [wrap64_in (by omega) (by omega)]
  have e : decide (((bv l).length : Int) - a ≥ wd) = decide (a + wd ≤ l.length) := by
    rw [hb]; congr 1; apply propext; omega
  rw [e]
  exact k _ h1.drop
theorem bv_drop (l : List Nat) (a : Nat) : ((bv l).take l.length).drop a = bv (l.drop a) := by
  rw [List.take_of_length_le (by simp), ← List.map_drop]
theorem byt_drop {l : List Nat} (hb : Byt l) (a : Nat) : Byt (l.drop a) := fun x hx => hb x (List.mem_of_mem_drop hx)
theorem byt_take {l : List Nat} (hb : Byt l) (a : Nat) : Byt (l.take a) := fun x hx => hb x (List.mem_of_mem_take hx)
/-- The next number. -/
theorem inum_spec {A C X : Hp} {b : Nat} {s : Value} {l : List Nat} {a wd : Nat} (hs : Sl X s (bv l)) (hX : ∀ x, x ∈ X → x ∈ A ++ C) (hb : Byt l) (hl : l.length < 2 ^ 60) (ha : a ≤ l.length) (hw : right wd = true) (h : Ow B w (A ++ (b, irO s a) :: C))
    (k : ∀ w', a + wd ≤ l.length → Ow B w' (A ++ (b, irO s (a + wd)) :: C) → K (v64 (val ((l.drop a).take wd))) w') (pk : ∀ w', ¬ (a + wd ≤ l.length) → Ow B w' (A ++ (b, irO s a) :: C) → PK (pan 110) w') : callW PG N.instr_reader_number [ptr b, vI wd] K PK w := by
  refine instr_reader_number.ok ?_
  unfold instr_reader_number.C
  have hw8 : wd ≤ 8 := by rcases right_cases hw with h | h | h | h <;> omega
  refine ⟨fun w => Ow B w (A ++ (b, irO s a) :: C), h.drew, ?_⟩
  repeat (first | refine pu_not ?_ | refine pu_eql ?_ | refine pu_neq ?_ | refine pu_lss ?_ | refine pu_leq ?_ | refine pu_gtr ?_ | refine pu_geq ?_ | refine pu_add ?_ | refine pu_sub ?_ | refine fa_at ?_ | refine nl_ptr ?_ | refine ex20 ?_ | refine ex21 ?_ | refine ex30 ?_ | refine ex31 ?_ | refine ex32 ?_ | refine ln_rule ?_ | refine pu_seq ?_ | refine pu_sne ?_)
  refine ldsn_here (fun w h => h) (List.mem_append_right _ (.head _)) (vs := [s]) rfl rfl ?_
  repeat (first | refine pu_not ?_ | refine pu_eql ?_ | refine pu_neq ?_ | refine pu_lss ?_ | refine pu_leq ?_ | refine pu_gtr ?_ | refine pu_geq ?_ | refine pu_add ?_ | refine pu_sub ?_ | refine fa_at ?_ | refine nl_ptr ?_ | refine ex20 ?_ | refine ex21 ?_ | refine ex30 ?_ | refine ex31 ?_ | refine ex32 ?_ | refine ln_rule ?_ | refine pu_seq ?_ | refine pu_sne ?_)
  refine lds_here (fun w h => h) (List.mem_append_right _ (.head _)) (v := vI a) rfl ?_
  refine ileft_spec hs hl (by omega) (by omega) h.drew (fun w1 h1 => ?_)
  by_cases hlt : a + wd ≤ l.length
  · rw [decide_eq_true hlt]
    refine imust_t ?_
    refine ⟨fun w => Ow B w (A ++ (b, irO s a) :: C), h1.drew, ?_⟩
    repeat (first | refine pu_not ?_ | refine pu_eql ?_ | refine pu_neq ?_ | refine pu_lss ?_ | refine pu_leq ?_ | refine pu_gtr ?_ | refine pu_geq ?_ | refine pu_add ?_ | refine pu_sub ?_ | refine fa_at ?_ | refine nl_ptr ?_ | refine ex20 ?_ | refine ex21 ?_ | refine ex30 ?_ | refine ex31 ?_ | refine ex32 ?_ | refine ln_rule ?_ | refine pu_seq ?_ | refine pu_sne ?_)
    refine lds_here (fun w h => h) (List.mem_append_right _ (.head _)) (v := s) rfl ?_
    repeat (first | refine pu_not ?_ | refine pu_eql ?_ | refine pu_neq ?_ | refine pu_lss ?_ | refine pu_leq ?_ | refine pu_gtr ?_ | refine pu_geq ?_ | refine pu_add ?_ | refine pu_sub ?_ | refine fa_at ?_ | refine nl_ptr ?_ | refine ex20 ?_ | refine ex21 ?_ | refine ex30 ?_ | refine ex31 ?_ | refine ex32 ?_ | refine ln_rule ?_ | refine pu_seq ?_ | refine pu_sne ?_)
    refine lds_here (fun w h => h) (List.mem_append_right _ (.head _)) (v := vI a) rfl ?_
    refine cutL hs (by omega) (by simp; omega) (fun c hc => ?_)
    have hs' : Sl (A ++ (b, irO s a) :: C) s (bv l) := hs.mono fun x hx => (List.mem_append.1 (hX x hx)).elim (fun h => List.mem_append_left _ h) (fun h => List.mem_append_right _ (.tail _ h))
    have hcut := sl_cut (l := a) (h := l.length) (m := c) hs' ha (by simp) (by simpa using hc)
    rw [bv_drop] at hcut
    have hn : (bv l).length = l.length := by simp
    rw [Int.toNat_natCast, hn]
    refine readFixed_spec h1.drew hcut (byt_drop hb a) (by rw [List.length_drop]; omega) (fun w2 h2 => ?_)
    have e : rfR (l.drop a) wd = (val ((l.drop a).take wd), 0) := by
      unfold rfR
      rw [if_neg (by rw [hw]; simp), Int.toNat_natCast, if_neg (by rw [List.length_drop]; omega)]
    rw [e]
    repeat (first | refine pu_not ?_ | refine pu_eql ?_ | refine pu_neq ?_ | refine pu_lss ?_ | refine pu_leq ?_ | refine pu_gtr ?_ | refine pu_geq ?_ | refine pu_add ?_ | refine pu_sub ?_ | refine fa_at ?_ | refine nl_ptr ?_ | refine ex20 ?_ | refine ex21 ?_ | refine ex30 ?_ | refine ex31 ?_ | refine ex32 ?_ | refine ln_rule ?_ | refine pu_seq ?_ | refine pu_sne ?_)
    refine ld_here h2 (List.mem_append_right _ (.head _)) (v := vI a) rfl ?_
    repeat (first | refine pu_not ?_ | refine pu_eql ?_ | refine pu_neq ?_ | refine pu_lss ?_ | refine pu_leq ?_ | refine pu_gtr ?_ | refine pu_geq ?_ | refine pu_add ?_ | refine pu_sub ?_ | refine fa_at ?_ | refine nl_ptr ?_ | refine ex20 ?_ | refine ex21 ?_ | refine ex30 ?_ | refine ex31 ?_ | refine ex32 ?_ | refine ln_rule ?_ | refine pu_seq ?_ | refine pu_sne ?_)
    rw [wrap64_in (by omega) (by omega)]
    refine st1_here h2 rfl rfl (by simp) (fun w3 h3 => ?_)
    exact k _ hlt h3
  · rw [decide_eq_false hlt]
    exact imust_f fun s => pk _ hlt h1
/-- An instruction's parts, read. -/
def rdP (l : List Nat) : List Pk → Ins → Nat → Option (Ins × Nat)
  | [], x, a => some (x, a)
  | p :: ps, x, a => if a + pw p ≤ l.length then rdP l ps (p.put x (val ((l.drop a).take (pw p)) : Nat)) (a + pw p) else none
/-- An instruction, how many bytes, an error. -/
def insR (l : List Nat) : Ins × Nat × Int :=
  if ¬ (1 ≤ l.length) then (bare 0, 0, 110) else
  if ¬ (1 ≤ val (l.take 1) ∧ val (l.take 1) ≤ 19) then (bare 0, 0, 180) else
  match rdP l (nmd (val (l.take 1) : Nat)) (bare (val (l.take 1) : Nat)) 1 with
  | none => (bare 0, 0, 110)
  | some (x, a) => if okI x = true then (x, a, 0) else (bare 0, 0, 180)
abbrev erO (e : Int) : Obj := cel [vI e] T.t_api_Errno
abbrev inO (e : Int) : Obj := cel [vI e] T.t_int
theorem iread_pan {b2 b4 b6 : Nat} {x : Ins} {m e : Int} {A : Hp} {Y : Ending → World → Prop} (h : Ow B w (A ++ (b6, erO 0) :: (b4, inO m) :: (b2, iO x) :: H)) (k : ∀ w', Ow B w' H → K (.tuple #[.agg (bare 0).cells.toArray, vI 0, vI e]) w') :
    LvW PG (dfr N.instr_caught [ptr b6, .func (.func N.instr_Read_1) #[] #[ptr b2, ptr b4]] :: []) (.panicking (pan e)) w (endV (fun w => ldW (some 5) (ptr b2) w fun t75 => ldW none (ptr b4) w fun t76 => ldW none (ptr b6) w fun t77 => K (.tuple #[t75, t76, t77]) w) Y) := by
  refine instr_lv_pan (B := B) (A := A) (C := (b4, inO 0) :: (b2, iO (bare 0)) :: H) (u := vI 0) (fun K' hK => ?_) (fun w1 h1 => ?_)
  · refine callV_fn instr_Read_1.okf (instr_Read_1.ok ?_)
    unfold instr_Read_1.C
    refine pu_build (bare 0).cells (by kernel_rfl) ?_
    have h1 : Ow B w ((A ++ (b6, erO 0) :: [(b4, inO m)]) ++ (b2, iO x) :: H) := by simpa using h
    refine st_here h1 (bare 0).cells rfl rfl (ins_plain _) (by simp [Ins.cells]) (fun w2 h2 => ?_)
    have e3 : x.cells.take 0 ++ (bare 0).cells ++ x.cells.drop (0 + 5) = (bare 0).cells := rfl
    rw [e3] at h2
    have h3 : Ow B w2 ((A ++ [(b6, erO 0)]) ++ (b4, inO m) :: (b2, iO (bare 0)) :: H) := by simpa using h2
    refine st1_here h3 rfl rfl (by simp) (fun w3 h4 => ?_)
    exact hK _ _ (by simpa using h4)
  · refine ldn_here h1 (List.mem_append_right _ (.tail _ (.tail _ (.head _)))) (vs := (bare 0).cells) rfl rfl ?_
    refine ld_here h1 (List.mem_append_right _ (.tail _ (.head _))) (v := vI 0) rfl ?_
    refine ld_here h1 (List.mem_append_right _ (.head _)) (v := vI e) rfl ?_
    exact k _ (h1.sub ((((List.Sublist.refl H).cons _).cons _).cons _ |>.trans (List.sublist_append_right A _)))
theorem imm_put {p : Pk} {x : Ins} {v : Int} (hx : 0 ≤ x.imm ∧ x.imm < 4294967296) (h0 : 0 ≤ v) (h1 : v < 4294967296) : 0 ≤ (p.put x v).imm ∧ (p.put x v).imm < 4294967296 := by
  cases p <;> first | exact hx | exact ⟨h0, h1⟩
theorem val_small {l : List Nat} (hb : Byt l) {n : Nat} (hn : n ≤ 4) (a : Nat) : val ((l.drop a).take n) < 4294967296 := by
  have h1 := val_lt _ (byt_take (byt_drop hb a) n)
  have h2 : ((l.drop a).take n).length ≤ 4 := by rw [List.length_take]; omega
  have h3 : 256 ^ ((l.drop a).take n).length ≤ 256 ^ 4 := Nat.pow_le_pow_right (by omega) h2
  omega
theorem iread_spec {X : Hp} {s : Value} {l : List Nat} (hs : Sl X s (bv l)) (hX : ∀ x, x ∈ X → x ∈ H) (hb : Byt l) (hl : l.length < 2 ^ 60) (h : Ow B w H)
    (k : ∀ w', Ow B w' H → K (.tuple #[.agg (insR l).1.cells.toArray, vI (insR l).2.1, vI (insR l).2.2]) w') : callW PG N.instr_Read [s] K PK w := by
  refine instr_Read.ok ?_
  unfold instr_Read.C
  obtain ⟨ad, cp, rfl, hcp⟩ := Sl.cap hs
  generalize hsv : Value.slice ad (bv l).length cp = s at *
  refine al_rule h (l := (bare 0).cells) (by kernel_rfl) (fun b2 w1 h1 => ?_)
  refine al_rule h1 (l := [vI 0]) (by kernel_rfl) (fun b4 w2 h2 => ?_)
  refine al_rule h2 (l := [vI 0]) (by kernel_rfl) (fun b6 w3 h3 => ?_)
  refine pu_build [s] (by subst hsv; kernel_rfl) ?_
  refine pu_build [s, vI 0] (by subst hsv; kernel_rfl) ?_
  refine al_rule h3 (l := [s, vI 0]) rfl (fun b12 w4 h4 => ?_)
  have two : ∀ (Y : Hp) (o : Ins) x, x ∈ X → x ∈ Y ++ ((b6, erO 0) :: (b4, inO 0) :: (b2, iO o) :: H) := fun Y o x hx => List.mem_append_right _ (.tail _ (.tail _ (.tail _ (hX x hx))))
  refine inum_spec (A := []) (a := 0) (wd := 1) hs (two [] _) hb hl (Nat.zero_le _) rfl h4 (fun w5 hlt h5 => ?_) (fun w5 hlt h5 => ?_)
  case refine_2 =>
    have e : insR l = (bare 0, 0, 110) := by unfold insR; rw [if_pos (by omega)]
    rw [e] at k
    exact iread_pan (A := [_]) h5 k
  have hl1 : 1 ≤ l.length := by omega
  simp only [List.drop_zero, Nat.zero_add, List.nil_append] at h5 ⊢
  have hv1 : val (l.take 1) < 4294967296 := val_small hb (n := 1) (by omega) 0
  refine cvt (by kernel_rfl) und_op (m := (val (l.take 1) : Int)) (by rw [wrap64_in (by omega) (by omega)]) ?_
  generalize hop : val (l.take 1) = op at *
  repeat (first | refine pu_not ?_ | refine pu_eql ?_ | refine pu_neq ?_ | refine pu_lss ?_ | refine pu_leq ?_ | refine pu_gtr ?_ | refine pu_geq ?_ | refine pu_add ?_ | refine pu_sub ?_ | refine fa_at ?_ | refine nl_ptr ?_ | refine ex20 ?_ | refine ex21 ?_ | refine ex30 ?_ | refine ex31 ?_ | refine ex32 ?_ | refine ln_rule ?_ | refine pu_seq ?_ | refine pu_sne ?_)
  refine st1_here (A := [(b12, irO s 1), (b6, erO 0), (b4, inO 0)]) h5 rfl rfl (by simp [Ins.cells, bare]) (fun w6 h6 => ?_)
  have h6 : Ow B w6 ((b12, irO s 1) :: (b6, erO 0) :: (b4, inO 0) :: (b2, iO (bare op)) :: H) := h6
  repeat (first | refine pu_not ?_ | refine pu_eql ?_ | refine pu_neq ?_ | refine pu_lss ?_ | refine pu_leq ?_ | refine pu_gtr ?_ | refine pu_geq ?_ | refine pu_add ?_ | refine pu_sub ?_ | refine fa_at ?_ | refine nl_ptr ?_ | refine ex20 ?_ | refine ex21 ?_ | refine ex30 ?_ | refine ex31 ?_ | refine ex32 ?_ | refine ln_rule ?_ | refine pu_seq ?_ | refine pu_sne ?_)
  refine ld_here h6 (.tail _ (.tail _ (.tail _ (.head _)))) (v := vI op) rfl ?_
  refine instr_is.ok ?_
  unfold instr_is.C
  repeat (first | refine pu_not ?_ | refine pu_eql ?_ | refine pu_neq ?_ | refine pu_lss ?_ | refine pu_leq ?_ | refine pu_gtr ?_ | refine pu_geq ?_ | refine pu_add ?_ | refine pu_sub ?_ | refine fa_at ?_ | refine nl_ptr ?_ | refine ex20 ?_ | refine ex21 ?_ | refine ex30 ?_ | refine ex31 ?_ | refine ex32 ?_ | refine ln_rule ?_ | refine pu_seq ?_ | refine pu_sne ?_)
  have isop : ∀ KK : Value → World → Prop, KK (vB (decide (1 ≤ op ∧ op ≤ 19))) w6 → condV (vB (decide ((op : Int) ≥ 1))) (pu PG (binV .leq T.t_api_Op true (vI op) (.int .i64 19)) fun t4 => KK t4 w6) (KK (.bool false) w6) := fun KK kk => by
    refine cnd (fun hq => ?_) (fun hq => ?_)
    · refine pu_leq ?_
      have : decide ((op : Int) ≤ 19) = decide (1 ≤ op ∧ op ≤ 19) := by simp at hq; congr 1; apply propext; omega
      rw [this]; exact kk
    · have : decide (1 ≤ op ∧ op ≤ 19) = false := by simp at hq; simp; omega
      rw [this] at kk; exact kk
  refine isop (fun v w => callW PG N.instr_must [v, vI 180] _ _ w) ?_
  by_cases hok : 1 ≤ op ∧ op ≤ 19
  case neg =>
    rw [decide_eq_false hok]
    have e : insR l = (bare 0, 0, 180) := by unfold insR; rw [if_neg (by omega), hop, if_pos hok]
    rw [e] at k
    exact imust_f (iread_pan (A := [_]) h6 k)
  rw [decide_eq_true hok]
  refine imust_t ?_
  have hR : insR l = match rdP l (nmd op) (bare op) 1 with
      | none => (bare 0, 0, 110)
      | some (x, a) => if okI x = true then (x, a, 0) else (bare 0, 0, 180) := by
    unfold insR; rw [if_neg (by omega), hop, if_neg (by simpa using hok)]
  clear isop
  repeat (first | refine pu_not ?_ | refine pu_eql ?_ | refine pu_neq ?_ | refine pu_lss ?_ | refine pu_leq ?_ | refine pu_gtr ?_ | refine pu_geq ?_ | refine pu_add ?_ | refine pu_sub ?_ | refine fa_at ?_ | refine nl_ptr ?_ | refine ex20 ?_ | refine ex21 ?_ | refine ex30 ?_ | refine ex31 ?_ | refine ex32 ?_ | refine ln_rule ?_ | refine pu_seq ?_ | refine pu_sne ?_)
  refine ld_here h6 (.tail _ (.tail _ (.tail _ (.head _)))) (v := vI op) rfl ?_
  refine named_spec h6 (fun S v w7 h7 hsv7 => ?_)
  refine sls_ln hsv7 ?_
  rw [prow_len]
  have hl4 := nmd_len op
  generalize hps : nmd (op : Int) = ps at *
  refine ⟨fun l' w => ∃ (n : Nat) (x : Ins) (a : Nat), l' = [vI n] ∧ n ≤ ps.length ∧ a ≤ l.length ∧ (0 ≤ x.imm ∧ x.imm < 4294967296) ∧ rdP l ps (bare op) 1 = rdP l (ps.drop n) x a ∧ Ow B w (S ++ (b12, irO s a) :: (b6, erO 0) :: (b4, inO 0) :: (b2, iO x) :: H),
    fun l' _ => match l' with | [.int _ q] => ps.length - q.toNat | _ => 0, ⟨0, bare op, 1, rfl, Nat.zero_le _, hl1, by simp [bare], rfl, h7⟩, ?_⟩
  clear h7 h6 h5 h4 h3 h2 h1
  rintro l' w8 ⟨n, x, a, rfl, hn, ha, hxi, hrd, h8⟩ j
  simp only [gv, List.getD_cons_zero, List.getD_cons_succ]
  repeat (first | refine pu_not ?_ | refine pu_eql ?_ | refine pu_neq ?_ | refine pu_lss ?_ | refine pu_leq ?_ | refine pu_gtr ?_ | refine pu_geq ?_ | refine pu_add ?_ | refine pu_sub ?_ | refine fa_at ?_ | refine nl_ptr ?_ | refine ex20 ?_ | refine ex21 ?_ | refine ex30 ?_ | refine ex31 ?_ | refine ex32 ?_ | refine ln_rule ?_ | refine pu_seq ?_ | refine pu_sne ?_)
  refine cnd (fun hlt => ?_) (fun hlt => ?_)
  · have hlt : n < ps.length := by simpa using hlt
    refine sls_ld h8 (hsv7.mono fun x hx => List.mem_append_left _ hx) (by omega) (by rw [Int.toNat_natCast]; exact pk_at hlt) ?_
    rw [List.drop_eq_getElem_cons hlt] at hrd
    generalize ps[n] = p at hrd
    refine al_rule h8 (l := zpart) (by kernel_rfl) (fun b3 w9 h9 => ?_)
    refine st_here (A := []) h9 p.cells rfl (by cases p <;> rfl) (pk_plain _) (by simp) (fun w10 h10 => ?_)
    simp only [List.take_zero, List.nil_append, Nat.zero_add, List.drop_succ_cons, List.drop_zero, List.drop_nil, List.append_nil] at h10
    refine ⟨fun w => Ow B w [(b3, cel p.cells T.t_instr_part)], h10.drew.sub (List.Sublist.cons_cons _ (List.nil_sublist _)), ?_⟩
    repeat (first | refine pu_not ?_ | refine pu_eql ?_ | refine pu_neq ?_ | refine pu_lss ?_ | refine pu_leq ?_ | refine pu_gtr ?_ | refine pu_geq ?_ | refine pu_add ?_ | refine pu_sub ?_ | refine fa_at ?_ | refine nl_ptr ?_ | refine ex20 ?_ | refine ex21 ?_ | refine ex30 ?_ | refine ex31 ?_ | refine ex32 ?_ | refine ln_rule ?_ | refine pu_seq ?_ | refine pu_sne ?_)
    refine lds_here (fun w h => h) (.head _) (v := fnc p.fp #[]) (by cases p <;> rfl) ?_
    repeat (first | refine pu_not ?_ | refine pu_eql ?_ | refine pu_neq ?_ | refine pu_lss ?_ | refine pu_leq ?_ | refine pu_gtr ?_ | refine pu_geq ?_ | refine pu_add ?_ | refine pu_sub ?_ | refine fa_at ?_ | refine nl_ptr ?_ | refine ex20 ?_ | refine ex21 ?_ | refine ex30 ?_ | refine ex31 ?_ | refine ex32 ?_ | refine ln_rule ?_ | refine pu_seq ?_ | refine pu_sne ?_)
    refine lds_here (fun w h => h) (.head _) (v := vI (pw p)) (pw_cell p) ?_
    refine inum_spec (A := (b3, cel p.cells T.t_instr_part) :: S) hs (two _ _) hb hl ha (pw_right p) h10.drew (fun w11 hlt2 h11 => ?_) (fun w11 hlt2 h11 => ?_)
    · refine ⟨h11.sub (List.Sublist.cons_cons _ (List.nil_sublist _)), ?_⟩
      have hvs := val_small hb (pw_pos p).2 a
      have h11 : Ow B w11 (((b3, cel p.cells T.t_instr_part) :: S ++ [(b12, irO s (a + pw p)), (b6, erO 0), (b4, inO 0)]) ++ (b2, iO x) :: H) := by simpa using h11
      refine put_call (v := ((val ((l.drop a).take (pw p)) : Nat) : Int)) p (by omega) (by omega) h11 (fun w12 r h12 => ?_)
      repeat (first | refine pu_not ?_ | refine pu_eql ?_ | refine pu_neq ?_ | refine pu_lss ?_ | refine pu_leq ?_ | refine pu_gtr ?_ | refine pu_geq ?_ | refine pu_add ?_ | refine pu_sub ?_ | refine fa_at ?_ | refine nl_ptr ?_ | refine ex20 ?_ | refine ex21 ?_ | refine ex30 ?_ | refine ex31 ?_ | refine ex32 ?_ | refine ln_rule ?_ | refine pu_seq ?_ | refine pu_sne ?_)
      rw [wrap64_in (by omega) (by omega)]
      refine ⟨⟨n + 1, p.put x ((val ((l.drop a).take (pw p)) : Nat) : Int), a + pw p, rfl, hlt, hlt2, imm_put hxi (by omega) (by omega), ?_, ?_⟩, by simp; omega⟩
      · rw [hrd]
        conv => lhs; unfold rdP
        rw [if_pos hlt2]
      · have := h12.drop; simpa using this
    · intro s'
      have e : insR l = (bare 0, 0, 110) := by
        rw [hR, hrd]; unfold rdP; rw [if_neg hlt2]
      rw [e] at k
      refine iread_pan (A := ((b3, cel p.cells T.t_instr_part) :: S) ++ [(b12, irO s a)]) (by simpa using h11) k
  · obtain rfl : n = ps.length := by simp at hlt; omega
    rw [List.drop_length] at hrd
    have e : rdP l [] x a = some (x, a) := rfl
    rw [hrd, e] at hR
    simp only at hR
    refine ldn_here h8 (List.mem_append_right _ (.tail _ (.tail _ (.tail _ (.head _))))) (vs := x.cells) rfl rfl ?_
    refine Go.Proofs.YtkkkcafkepnecaaGreat.right_spec hxi h8 (fun w9 h9 => ?_)
    by_cases hx : okI x = true
    · rw [if_pos hx] at hR
      rw [hR] at k
      rw [hx]
      refine imust_t ?_
      refine ⟨fun w => Ow B w (S ++ (b12, irO s a) :: (b6, erO 0) :: (b4, inO 0) :: (b2, iO x) :: H), h9.drew, ?_⟩
      refine ldsn_here (fun w h => h) (List.mem_append_right _ (.tail _ (.tail _ (.tail _ (.head _))))) (vs := x.cells) rfl rfl ?_
      repeat (first | refine pu_not ?_ | refine pu_eql ?_ | refine pu_neq ?_ | refine pu_lss ?_ | refine pu_leq ?_ | refine pu_gtr ?_ | refine pu_geq ?_ | refine pu_add ?_ | refine pu_sub ?_ | refine fa_at ?_ | refine nl_ptr ?_ | refine ex20 ?_ | refine ex21 ?_ | refine ex30 ?_ | refine ex31 ?_ | refine ex32 ?_ | refine ln_rule ?_ | refine pu_seq ?_ | refine pu_sne ?_)
      refine lds_here (fun w h => h) (List.mem_append_right _ (.head _)) (v := vI a) rfl ?_
      have h10 : Ow B w9.drew ((S ++ [(b12, irO s a), (b6, erO 0), (b4, inO 0)]) ++ (b2, iO x) :: H) := by simpa using h9.drew
      refine st_here h10 x.cells rfl rfl (ins_plain _) (by simp [Ins.cells]) (fun w11 h11 => ?_)
      have e3 : x.cells.take 0 ++ x.cells ++ x.cells.drop (0 + 5) = x.cells := rfl
      rw [e3] at h11
      have h11 : Ow B w11 ((S ++ [(b12, irO s a), (b6, erO 0)]) ++ (b4, inO 0) :: (b2, iO x) :: H) := by simpa using h11
      refine st1_here h11 rfl rfl (by simp) (fun w12 h12 => ?_)
      have h12 : Ow B w12 ((S ++ [(b12, irO s a)]) ++ (b6, erO 0) :: (b4, inO a) :: (b2, iO x) :: H) := by simpa using h12
      refine st1_here h12 rfl rfl (by simp) (fun w13 h13 => ?_)
      have h13 : Ow B w13 ((S ++ [(b12, irO s a)]) ++ (b6, erO 0) :: (b4, inO a) :: (b2, iO x) :: H) := by simpa using h13
      refine instr_lv_ret ?_
      refine ldn_here h13 (List.mem_append_right _ (.tail _ (.tail _ (.head _)))) (vs := x.cells) rfl rfl ?_
      refine ld_here h13 (List.mem_append_right _ (.tail _ (.head _))) (v := vI a) rfl ?_
      refine ld_here h13 (List.mem_append_right _ (.head _)) (v := vI 0) rfl ?_
      exact k _ (h13.sub ((((List.Sublist.refl H).cons _).cons _).cons _ |>.trans (List.sublist_append_right _ _)))
    · have hx : okI x = false := by simpa using hx
      rw [hx] at hR ⊢
      simp only [if_neg Bool.false_ne_true] at hR
      rw [hR] at k
      exact imust_f (iread_pan (A := S ++ [(b12, irO s a)]) (by simpa using h9) k)
end
end Go.Proofs.YtkkkcafkepnecaaGreat.Im

