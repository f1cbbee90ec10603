/- Images: the document's reading of an instruction, Op by Op (printed by a program of this session, read08.py). -/
import Derived.Test.YtkkkcafkepnecaaGreatIR
import Derived.Test.YtkkkcafkepnecaaGreatJS

set_option linter.unusedVariables false
set_option linter.unusedSimpArgs false
set_option linter.unnecessarySimpa false
namespace Go.Proofs.YtkkkcafkepnecaaGreat.Im
open Go Go.RowKit Vc Oc Dg
attribute [local irreducible] binV Op.unary convert nlW faW ldS ldW ixS ixA ixV ixT exW lnS lnT pu stW alW opW opU bsW mkW

section
variable {B w : World} {H X : Hp} {K : Value → World → Prop} {PK : List PanicEntry → World → Prop} {s : Value} {l : List Nat}
theorem read08_spec (hs : Sl X s (bv l)) (hX : ∀ y, y ∈ X → y ∈ H) (hb : Byt l) (hl : l.length < 2 ^ 60) (h : Ow B w H)
    (k : ∀ w', Ow B w' H → K (.tuple #[.agg (insR l).1.cells.toArray, vI (insR l).2.1, vI (insR l).2.2]) w') : callW PG N.linesmanref08_Read [s] K PK w := by
  refine linesmanref08_Read.ok ?_
  unfold linesmanref08_Read.C
  have hbl : (bv l).length = l.length := by simp
  refine al_rule h (l := (bare 0).cells) (by kernel_rfl) (fun b2 w1 h1 => ?_)
  have bad : ∀ (e : Int) (w : World) (Y : Hp), Ow B w (Y ++ (b2, iO (bare 0)) :: H) → insR l = (bare 0, 0, e) → pu PG (Instr.build T.t_api_Ins #[]) fun t9 => stW 5 (ptr b2) t9 (fun w10 => ldW (some 5) (ptr b2) w10 fun t11 => K (.tuple #[t11, (.int .i64 0), vI e]) w10) w := fun e w Y h he => by
    rw [he] at k
    refine pu_build (bare 0).cells (by kernel_rfl) ?_
    refine st_here h (bare 0).cells rfl rfl (ins_plain _) (by simp [Ins.cells]) (fun w3 h3 => ?_)
    have e3 : (bare 0).cells.take 0 ++ (bare 0).cells ++ (bare 0).cells.drop (0 + 5) = (bare 0).cells := rfl
    rw [e3] at h3
    refine ldn_here h3 (List.mem_append_right _ (.head _)) (vs := (bare 0).cells) rfl rfl ?_
    exact k _ (h3.sub (((List.Sublist.refl H).cons _).trans (List.sublist_append_right _ _)))
  refine sl_ln hs ?_
  rw [hbl]
  repeat (first | refine pu_not ?_ | refine pu_eql ?_ | refine pu_neq ?_ | refine pu_lss ?_ | refine pu_leq ?_ | refine pu_gtr ?_ | refine pu_geq ?_ | refine pu_add ?_ | refine pu_sub ?_ | refine fa_at ?_ | refine nl_ptr ?_ | refine ex20 ?_ | refine ex21 ?_ | refine ex30 ?_ | refine ex31 ?_ | refine ex32 ?_ | refine ln_rule ?_ | refine pu_seq ?_ | refine pu_sne ?_)
  refine cnd (fun hq => ?_) (fun hq => ?_)
  · have hq : l.length = 0 := by simpa using hq
    exact bad 110 _ [] h1 (by unfold insR; rw [if_pos (by omega)])
  have h1l : 1 ≤ l.length := by
    have : ¬ l.length = 0 := by simpa using hq
    omega
  clear hq
  have hv0 : (bv l)[(0 : Int).toNat]? = some (v8 (val (l.take 1))) := by
    have := val_at (l := l) (n := 0) (by omega)
    rw [List.drop_zero] at this
    rw [this]; exact bv_at (by omega)
  refine sl_ld h1 (hs.mono fun x hx => .tail _ (hX x hx)) (by omega) hv0 ?_
  have h256 : val (l.take 1) < 256 := by have := val8 hb 0; rwa [List.drop_zero] at this
  generalize hop : val (l.take 1) = op at *
  refine cvt (by kernel_rfl) und_int (m := (op : Int)) (by rw [wrap64_in (by omega) (by omega)]) ?_
  have h180 : ¬ (1 ≤ op ∧ op ≤ 19) → insR l = (bare 0, 0, 180) := fun hn => by unfold insR; rw [if_neg (by omega), hop, if_pos hn]
  repeat (first | refine pu_not ?_ | refine pu_eql ?_ | refine pu_neq ?_ | refine pu_lss ?_ | refine pu_leq ?_ | refine pu_gtr ?_ | refine pu_geq ?_ | refine pu_add ?_ | refine pu_sub ?_ | refine fa_at ?_ | refine nl_ptr ?_ | refine ex20 ?_ | refine ex21 ?_ | refine ex30 ?_ | refine ex31 ?_ | refine ex32 ?_ | refine ln_rule ?_ | refine pu_seq ?_ | refine pu_sne ?_)
  refine cnd (fun hq => ?_) (fun hq => ?_)
  · exact bad 180 _ [] h1 (h180 (by have := of_decide_eq_true hq; omega))
  have hq1 : 1 ≤ op := by have := of_decide_eq_false hq; omega
  clear hq
  repeat (first | refine pu_not ?_ | refine pu_eql ?_ | refine pu_neq ?_ | refine pu_lss ?_ | refine pu_leq ?_ | refine pu_gtr ?_ | refine pu_geq ?_ | refine pu_add ?_ | refine pu_sub ?_ | refine fa_at ?_ | refine nl_ptr ?_ | refine ex20 ?_ | refine ex21 ?_ | refine ex30 ?_ | refine ex31 ?_ | refine ex32 ?_ | refine ln_rule ?_ | refine pu_seq ?_ | refine pu_sne ?_)
  refine cnd (fun hq => ?_) (fun hq => ?_)
  · exact bad 180 _ [] h1 (h180 (by have := of_decide_eq_true hq; omega))
  have hq2 : op ≤ 19 := by have := of_decide_eq_false hq; omega
  clear hq h180 hv0
  have hR : insR l = match rdP l (nmd op) (bare op) 1 with
      | none => (bare 0, 0, 110)
      | some (x, a) => if okI x = true then (x, a, 0) else (bare 0, 0, 180) := by
    unfold insR; rw [if_neg (by omega), hop, if_neg (by omega)]; rfl
  refine pu_build (bare op).cells (by kernel_rfl) ?_
  refine al_rule h1 (l := (bare 0).cells) (by kernel_rfl) (fun b30 w2 h2 => ?_)
  refine st_here (A := []) h2 (bare op).cells rfl rfl (ins_plain _) (by simp [Ins.cells, bare]) (fun w3 h3 => ?_)
  have e3 : (bare 0).cells.take 0 ++ (bare op).cells ++ (bare 0).cells.drop (0 + 5) = (bare op).cells := rfl
  rw [e3] at h3
  have h3 : Ow B w3 ((b30, iO (bare op)) :: (b2, iO (bare 0)) :: H) := h3
  refine ldn_here h3 (.head _) (vs := (bare op).cells) rfl rfl ?_
  have hsm : (bare op).Sm := ⟨⟨Int.le_refl 0, by show (0 : Int) < 16; decide⟩, ⟨Int.le_refl 0, by show (0 : Int) < 16; decide⟩, ⟨Int.le_refl 0, by show (0 : Int) ≤ 16; decide⟩, ⟨Int.le_refl 0, by show (0 : Int) < 4294967296; decide⟩⟩
  refine bytes08_spec (i := bare op) (by show (1 : Int) ≤ op ∧ (op : Int) ≤ 19; omega) hsm h3 (fun S vb w h ho => ?_)
  refine sl_ln (Vc.Own.sl ho) ?_
  rw [List.length_map]
  refine sl_ln hs ?_
  rw [hbl]
  have hms := insB_sum (bare op)
  have hbo : (bare (op : Int)).op = op := rfl
  rw [hbo] at hms
  repeat (first | refine pu_not ?_ | refine pu_eql ?_ | refine pu_neq ?_ | refine pu_lss ?_ | refine pu_leq ?_ | refine pu_gtr ?_ | refine pu_geq ?_ | refine pu_add ?_ | refine pu_sub ?_ | refine fa_at ?_ | refine nl_ptr ?_ | refine ex20 ?_ | refine ex21 ?_ | refine ex30 ?_ | refine ex31 ?_ | refine ex32 ?_ | refine ln_rule ?_ | refine pu_seq ?_ | refine pu_sne ?_)
  refine cnd (fun hq => ?_) (fun hq => ?_)
  · have hq := of_decide_eq_true hq
    refine bad 110 _ (S ++ [(b30, iO (bare op))]) (by simpa using h) ?_
    rw [hR, rdP_none _ _ _ h1l (by omega)]
  have hq := of_decide_eq_false hq
  have hml : 1 + ((nmd op).map pw).sum ≤ l.length := by omega
  clear hq bad h3 h2 h1
  have hXx : ∀ (x : Ins) y, y ∈ X → y ∈ S ++ (b30, iO x) :: (b2, iO (bare 0)) :: H := fun x y hy => List.mem_append_right _ (.tail _ (.tail _ (hX y hy)))
  have hxi : 0 ≤ (bare (op : Int)).imm ∧ (bare (op : Int)).imm < 4294967296 := hsm.4
  rw [hms]
  clear hms ho hsm h256 hbo
  obtain rfl | rfl | rfl | rfl | rfl | rfl | rfl | rfl | rfl | rfl | rfl | rfl | rfl | rfl | rfl | rfl | rfl | rfl | rfl : op = 1 ∨ op = 2 ∨ op = 3 ∨ op = 4 ∨ op = 5 ∨ op = 6 ∨ op = 7 ∨ op = 8 ∨ op = 9 ∨ op = 10 ∨ op = 11 ∨ op = 12 ∨ op = 13 ∨ op = 14 ∨ op = 15 ∨ op = 16 ∨ op = 17 ∨ op = 18 ∨ op = 19 := by omega
  · have hn : nmd ((1 : Nat) : Int) = [.a, .i []] := rfl
    rw [hn] at hR hml
    have hl2 : 6 ≤ l.length := hml
    have hms : 1 + ((nmd ((1 : Nat) : Int)).map pw).sum = 6 := rfl
    rw [hms]
    refine in08_spec (op := ((1 : Nat) : Int)) (c := 97) (by decide) h (fun w h => ?_)
    refine cnd_t (by decide) ?_
    refine rd_pk (n := 1) .a rfl hxi rfl rfl hs (hXx _) (by omega) hb hl h (fun w hxi h => ?_)
    refine in08_spec (op := ((1 : Nat) : Int)) (c := 98) (by decide) h (fun w h => ?_)
    refine cnd_f (by decide) ?_
    refine in08_spec (op := ((1 : Nat) : Int)) (c := 110) (by decide) h (fun w h => ?_)
    refine cnd_f (by decide) ?_
    refine in08_spec (op := ((1 : Nat) : Int)) (c := 107) (by decide) h (fun w h => ?_)
    refine cnd_f (by decide) ?_
    refine in08_spec (op := ((1 : Nat) : Int)) (c := 105) (by decide) h (fun w h => ?_)
    refine cnd_t (by decide) ?_
    refine rd_imm (n := 1+1) (mk := []) rfl hs (hXx _) (by omega) hb hl h (fun w hxi h => ?_)
    rw [rdP_step (by simp only [pw]; omega), rdP_step (by simp only [pw]; omega)] at hR
    refine rd_tail (m := 6) (Y := []) (Z := (bare 0).cells) rfl hxi h (fun hk w h => ?_) (fun hk w h => ?_)
    · have e : insR l = (bare 0, 0, 180) := by rw [hR]; exact if_neg (fun hh => Bool.false_ne_true (hk.symm.trans hh))
      rw [e] at k; exact k _ h
    · have e := hR.trans (if_pos hk)
      rw [e] at k; exact k _ h
  · have hn : nmd ((2 : Nat) : Int) = [.a, .b] := rfl
    rw [hn] at hR hml
    have hl2 : 3 ≤ l.length := hml
    have hms : 1 + ((nmd ((2 : Nat) : Int)).map pw).sum = 3 := rfl
    rw [hms]
    refine in08_spec (op := ((2 : Nat) : Int)) (c := 97) (by decide) h (fun w h => ?_)
    refine cnd_t (by decide) ?_
    refine rd_pk (n := 1) .a rfl hxi rfl rfl hs (hXx _) (by omega) hb hl h (fun w hxi h => ?_)
    refine in08_spec (op := ((2 : Nat) : Int)) (c := 98) (by decide) h (fun w h => ?_)
    refine cnd_t (by decide) ?_
    refine rd_pk (n := 1+1) .b rfl hxi rfl rfl hs (hXx _) (by omega) hb hl h (fun w hxi h => ?_)
    refine in08_spec (op := ((2 : Nat) : Int)) (c := 110) (by decide) h (fun w h => ?_)
    refine cnd_f (by decide) ?_
    refine in08_spec (op := ((2 : Nat) : Int)) (c := 107) (by decide) h (fun w h => ?_)
    refine cnd_f (by decide) ?_
    refine in08_spec (op := ((2 : Nat) : Int)) (c := 105) (by decide) h (fun w h => ?_)
    refine cnd_f (by decide) ?_
    refine in08_spec (op := ((2 : Nat) : Int)) (c := 102) (by decide) h (fun w h => ?_)
    refine cnd_f (by decide) ?_
    refine in08_spec (op := ((2 : Nat) : Int)) (c := 107) (by decide) h (fun w h => ?_)
    refine cnd_f (by decide) ?_
    rw [rdP_step (by simp only [pw]; omega), rdP_step (by simp only [pw]; omega)] at hR
    refine rd_tail (m := 3) (Y := []) (Z := (bare 0).cells) rfl hxi h (fun hk w h => ?_) (fun hk w h => ?_)
    · have e : insR l = (bare 0, 0, 180) := by rw [hR]; exact if_neg (fun hh => Bool.false_ne_true (hk.symm.trans hh))
      rw [e] at k; exact k _ h
    · have e := hR.trans (if_pos hk)
      rw [e] at k; exact k _ h
  · have hn : nmd ((3 : Nat) : Int) = [.a, .b, .c, .i [45]] := rfl
    rw [hn] at hR hml
    have hl2 : 8 ≤ l.length := hml
    have hms : 1 + ((nmd ((3 : Nat) : Int)).map pw).sum = 8 := rfl
    rw [hms]
    refine in08_spec (op := ((3 : Nat) : Int)) (c := 97) (by decide) h (fun w h => ?_)
    refine cnd_t (by decide) ?_
    refine rd_pk (n := 1) .a rfl hxi rfl rfl hs (hXx _) (by omega) hb hl h (fun w hxi h => ?_)
    refine in08_spec (op := ((3 : Nat) : Int)) (c := 98) (by decide) h (fun w h => ?_)
    refine cnd_t (by decide) ?_
    refine rd_pk (n := 1+1) .b rfl hxi rfl rfl hs (hXx _) (by omega) hb hl h (fun w hxi h => ?_)
    refine in08_spec (op := ((3 : Nat) : Int)) (c := 110) (by decide) h (fun w h => ?_)
    refine cnd_f (by decide) ?_
    refine in08_spec (op := ((3 : Nat) : Int)) (c := 107) (by decide) h (fun w h => ?_)
    refine cnd_t (by decide) ?_
    refine rd_pk (n := 1+1+1) .c rfl hxi rfl rfl hs (hXx _) (by omega) hb hl h (fun w hxi h => ?_)
    refine in08_spec (op := ((3 : Nat) : Int)) (c := 105) (by decide) h (fun w h => ?_)
    refine cnd_f (by decide) ?_
    refine in08_spec (op := ((3 : Nat) : Int)) (c := 102) (by decide) h (fun w h => ?_)
    refine cnd_f (by decide) ?_
    refine in08_spec (op := ((3 : Nat) : Int)) (c := 107) (by decide) h (fun w h => ?_)
    refine cnd_t (by decide) ?_
    refine rd_imm (n := 1+1+1+1) (mk := [45]) rfl hs (hXx _) (by omega) hb hl h (fun w hxi h => ?_)
    rw [rdP_step (by simp only [pw]; omega), rdP_step (by simp only [pw]; omega), rdP_step (by simp only [pw]; omega), rdP_step (by simp only [pw]; omega)] at hR
    refine rd_tail (m := 8) (Y := []) (Z := (bare 0).cells) rfl hxi h (fun hk w h => ?_) (fun hk w h => ?_)
    · have e : insR l = (bare 0, 0, 180) := by rw [hR]; exact if_neg (fun hh => Bool.false_ne_true (hk.symm.trans hh))
      rw [e] at k; exact k _ h
    · have e := hR.trans (if_pos hk)
      rw [e] at k; exact k _ h
  · have hn : nmd ((4 : Nat) : Int) = [.i []] := rfl
    rw [hn] at hR hml
    have hl2 : 5 ≤ l.length := hml
    have hms : 1 + ((nmd ((4 : Nat) : Int)).map pw).sum = 5 := rfl
    rw [hms]
    refine in08_spec (op := ((4 : Nat) : Int)) (c := 97) (by decide) h (fun w h => ?_)
    refine cnd_f (by decide) ?_
    refine in08_spec (op := ((4 : Nat) : Int)) (c := 98) (by decide) h (fun w h => ?_)
    refine cnd_f (by decide) ?_
    refine in08_spec (op := ((4 : Nat) : Int)) (c := 110) (by decide) h (fun w h => ?_)
    refine cnd_f (by decide) ?_
    refine in08_spec (op := ((4 : Nat) : Int)) (c := 107) (by decide) h (fun w h => ?_)
    refine cnd_f (by decide) ?_
    refine in08_spec (op := ((4 : Nat) : Int)) (c := 105) (by decide) h (fun w h => ?_)
    refine cnd_t (by decide) ?_
    refine rd_imm (n := 1) (mk := []) rfl hs (hXx _) (by omega) hb hl h (fun w hxi h => ?_)
    rw [rdP_step (by simp only [pw]; omega)] at hR
    refine rd_tail (m := 5) (Y := []) (Z := (bare 0).cells) rfl hxi h (fun hk w h => ?_) (fun hk w h => ?_)
    · have e : insR l = (bare 0, 0, 180) := by rw [hR]; exact if_neg (fun hh => Bool.false_ne_true (hk.symm.trans hh))
      rw [e] at k; exact k _ h
    · have e := hR.trans (if_pos hk)
      rw [e] at k; exact k _ h
  · have hn : nmd ((5 : Nat) : Int) = [.a, .i []] := rfl
    rw [hn] at hR hml
    have hl2 : 6 ≤ l.length := hml
    have hms : 1 + ((nmd ((5 : Nat) : Int)).map pw).sum = 6 := rfl
    rw [hms]
    refine in08_spec (op := ((5 : Nat) : Int)) (c := 97) (by decide) h (fun w h => ?_)
    refine cnd_t (by decide) ?_
    refine rd_pk (n := 1) .a rfl hxi rfl rfl hs (hXx _) (by omega) hb hl h (fun w hxi h => ?_)
    refine in08_spec (op := ((5 : Nat) : Int)) (c := 98) (by decide) h (fun w h => ?_)
    refine cnd_f (by decide) ?_
    refine in08_spec (op := ((5 : Nat) : Int)) (c := 110) (by decide) h (fun w h => ?_)
    refine cnd_f (by decide) ?_
    refine in08_spec (op := ((5 : Nat) : Int)) (c := 107) (by decide) h (fun w h => ?_)
    refine cnd_f (by decide) ?_
    refine in08_spec (op := ((5 : Nat) : Int)) (c := 105) (by decide) h (fun w h => ?_)
    refine cnd_t (by decide) ?_
    refine rd_imm (n := 1+1) (mk := []) rfl hs (hXx _) (by omega) hb hl h (fun w hxi h => ?_)
    rw [rdP_step (by simp only [pw]; omega), rdP_step (by simp only [pw]; omega)] at hR
    refine rd_tail (m := 6) (Y := []) (Z := (bare 0).cells) rfl hxi h (fun hk w h => ?_) (fun hk w h => ?_)
    · have e : insR l = (bare 0, 0, 180) := by rw [hR]; exact if_neg (fun hh => Bool.false_ne_true (hk.symm.trans hh))
      rw [e] at k; exact k _ h
    · have e := hR.trans (if_pos hk)
      rw [e] at k; exact k _ h
  · have hn : nmd ((6 : Nat) : Int) = [.a, .b] := rfl
    rw [hn] at hR hml
    have hl2 : 3 ≤ l.length := hml
    have hms : 1 + ((nmd ((6 : Nat) : Int)).map pw).sum = 3 := rfl
    rw [hms]
    refine in08_spec (op := ((6 : Nat) : Int)) (c := 97) (by decide) h (fun w h => ?_)
    refine cnd_t (by decide) ?_
    refine rd_pk (n := 1) .a rfl hxi rfl rfl hs (hXx _) (by omega) hb hl h (fun w hxi h => ?_)
    refine in08_spec (op := ((6 : Nat) : Int)) (c := 98) (by decide) h (fun w h => ?_)
    refine cnd_t (by decide) ?_
    refine rd_pk (n := 1+1) .b rfl hxi rfl rfl hs (hXx _) (by omega) hb hl h (fun w hxi h => ?_)
    refine in08_spec (op := ((6 : Nat) : Int)) (c := 110) (by decide) h (fun w h => ?_)
    refine cnd_f (by decide) ?_
    refine in08_spec (op := ((6 : Nat) : Int)) (c := 107) (by decide) h (fun w h => ?_)
    refine cnd_f (by decide) ?_
    refine in08_spec (op := ((6 : Nat) : Int)) (c := 105) (by decide) h (fun w h => ?_)
    refine cnd_f (by decide) ?_
    refine in08_spec (op := ((6 : Nat) : Int)) (c := 102) (by decide) h (fun w h => ?_)
    refine cnd_f (by decide) ?_
    refine in08_spec (op := ((6 : Nat) : Int)) (c := 107) (by decide) h (fun w h => ?_)
    refine cnd_f (by decide) ?_
    rw [rdP_step (by simp only [pw]; omega), rdP_step (by simp only [pw]; omega)] at hR
    refine rd_tail (m := 3) (Y := []) (Z := (bare 0).cells) rfl hxi h (fun hk w h => ?_) (fun hk w h => ?_)
    · have e : insR l = (bare 0, 0, 180) := by rw [hR]; exact if_neg (fun hh => Bool.false_ne_true (hk.symm.trans hh))
      rw [e] at k; exact k _ h
    · have e := hR.trans (if_pos hk)
      rw [e] at k; exact k _ h
  · have hn : nmd ((7 : Nat) : Int) = [.a, .b] := rfl
    rw [hn] at hR hml
    have hl2 : 3 ≤ l.length := hml
    have hms : 1 + ((nmd ((7 : Nat) : Int)).map pw).sum = 3 := rfl
    rw [hms]
    refine in08_spec (op := ((7 : Nat) : Int)) (c := 97) (by decide) h (fun w h => ?_)
    refine cnd_t (by decide) ?_
    refine rd_pk (n := 1) .a rfl hxi rfl rfl hs (hXx _) (by omega) hb hl h (fun w hxi h => ?_)
    refine in08_spec (op := ((7 : Nat) : Int)) (c := 98) (by decide) h (fun w h => ?_)
    refine cnd_t (by decide) ?_
    refine rd_pk (n := 1+1) .b rfl hxi rfl rfl hs (hXx _) (by omega) hb hl h (fun w hxi h => ?_)
    refine in08_spec (op := ((7 : Nat) : Int)) (c := 110) (by decide) h (fun w h => ?_)
    refine cnd_f (by decide) ?_
    refine in08_spec (op := ((7 : Nat) : Int)) (c := 107) (by decide) h (fun w h => ?_)
    refine cnd_f (by decide) ?_
    refine in08_spec (op := ((7 : Nat) : Int)) (c := 105) (by decide) h (fun w h => ?_)
    refine cnd_f (by decide) ?_
    refine in08_spec (op := ((7 : Nat) : Int)) (c := 102) (by decide) h (fun w h => ?_)
    refine cnd_f (by decide) ?_
    refine in08_spec (op := ((7 : Nat) : Int)) (c := 107) (by decide) h (fun w h => ?_)
    refine cnd_f (by decide) ?_
    rw [rdP_step (by simp only [pw]; omega), rdP_step (by simp only [pw]; omega)] at hR
    refine rd_tail (m := 3) (Y := []) (Z := (bare 0).cells) rfl hxi h (fun hk w h => ?_) (fun hk w h => ?_)
    · have e : insR l = (bare 0, 0, 180) := by rw [hR]; exact if_neg (fun hh => Bool.false_ne_true (hk.symm.trans hh))
      rw [e] at k; exact k _ h
    · have e := hR.trans (if_pos hk)
      rw [e] at k; exact k _ h
  · have hn : nmd ((8 : Nat) : Int) = [.a, .b, .n, .i [102]] := rfl
    rw [hn] at hR hml
    have hl2 : 8 ≤ l.length := hml
    have hms : 1 + ((nmd ((8 : Nat) : Int)).map pw).sum = 8 := rfl
    rw [hms]
    refine in08_spec (op := ((8 : Nat) : Int)) (c := 97) (by decide) h (fun w h => ?_)
    refine cnd_t (by decide) ?_
    refine rd_pk (n := 1) .a rfl hxi rfl rfl hs (hXx _) (by omega) hb hl h (fun w hxi h => ?_)
    refine in08_spec (op := ((8 : Nat) : Int)) (c := 98) (by decide) h (fun w h => ?_)
    refine cnd_t (by decide) ?_
    refine rd_pk (n := 1+1) .b rfl hxi rfl rfl hs (hXx _) (by omega) hb hl h (fun w hxi h => ?_)
    refine in08_spec (op := ((8 : Nat) : Int)) (c := 110) (by decide) h (fun w h => ?_)
    refine cnd_t (by decide) ?_
    refine rd_pk (n := 1+1+1) .n rfl hxi rfl rfl hs (hXx _) (by omega) hb hl h (fun w hxi h => ?_)
    refine in08_spec (op := ((8 : Nat) : Int)) (c := 105) (by decide) h (fun w h => ?_)
    refine cnd_f (by decide) ?_
    refine in08_spec (op := ((8 : Nat) : Int)) (c := 102) (by decide) h (fun w h => ?_)
    refine cnd_t (by decide) ?_
    refine rd_imm (n := 1+1+1+1) (mk := [102]) rfl hs (hXx _) (by omega) hb hl h (fun w hxi h => ?_)
    rw [rdP_step (by simp only [pw]; omega), rdP_step (by simp only [pw]; omega), rdP_step (by simp only [pw]; omega), rdP_step (by simp only [pw]; omega)] at hR
    refine rd_tail (m := 8) (Y := []) (Z := (bare 0).cells) rfl hxi h (fun hk w h => ?_) (fun hk w h => ?_)
    · have e : insR l = (bare 0, 0, 180) := by rw [hR]; exact if_neg (fun hh => Bool.false_ne_true (hk.symm.trans hh))
      rw [e] at k; exact k _ h
    · have e := hR.trans (if_pos hk)
      rw [e] at k; exact k _ h
  · have hn : nmd ((9 : Nat) : Int) = [.a] := rfl
    rw [hn] at hR hml
    have hl2 : 2 ≤ l.length := hml
    have hms : 1 + ((nmd ((9 : Nat) : Int)).map pw).sum = 2 := rfl
    rw [hms]
    refine in08_spec (op := ((9 : Nat) : Int)) (c := 97) (by decide) h (fun w h => ?_)
    refine cnd_t (by decide) ?_
    refine rd_pk (n := 1) .a rfl hxi rfl rfl hs (hXx _) (by omega) hb hl h (fun w hxi h => ?_)
    refine in08_spec (op := ((9 : Nat) : Int)) (c := 98) (by decide) h (fun w h => ?_)
    refine cnd_f (by decide) ?_
    refine in08_spec (op := ((9 : Nat) : Int)) (c := 110) (by decide) h (fun w h => ?_)
    refine cnd_f (by decide) ?_
    refine in08_spec (op := ((9 : Nat) : Int)) (c := 107) (by decide) h (fun w h => ?_)
    refine cnd_f (by decide) ?_
    refine in08_spec (op := ((9 : Nat) : Int)) (c := 105) (by decide) h (fun w h => ?_)
    refine cnd_f (by decide) ?_
    refine in08_spec (op := ((9 : Nat) : Int)) (c := 102) (by decide) h (fun w h => ?_)
    refine cnd_f (by decide) ?_
    refine in08_spec (op := ((9 : Nat) : Int)) (c := 107) (by decide) h (fun w h => ?_)
    refine cnd_f (by decide) ?_
    rw [rdP_step (by simp only [pw]; omega)] at hR
    refine rd_tail (m := 2) (Y := []) (Z := (bare 0).cells) rfl hxi h (fun hk w h => ?_) (fun hk w h => ?_)
    · have e : insR l = (bare 0, 0, 180) := by rw [hR]; exact if_neg (fun hh => Bool.false_ne_true (hk.symm.trans hh))
      rw [e] at k; exact k _ h
    · have e := hR.trans (if_pos hk)
      rw [e] at k; exact k _ h
  · have hn : nmd ((10 : Nat) : Int) = [.b, .n, .i [102]] := rfl
    rw [hn] at hR hml
    have hl2 : 7 ≤ l.length := hml
    have hms : 1 + ((nmd ((10 : Nat) : Int)).map pw).sum = 7 := rfl
    rw [hms]
    refine in08_spec (op := ((10 : Nat) : Int)) (c := 97) (by decide) h (fun w h => ?_)
    refine cnd_f (by decide) ?_
    refine in08_spec (op := ((10 : Nat) : Int)) (c := 98) (by decide) h (fun w h => ?_)
    refine cnd_t (by decide) ?_
    refine rd_pk (n := 1) .b rfl hxi rfl rfl hs (hXx _) (by omega) hb hl h (fun w hxi h => ?_)
    refine in08_spec (op := ((10 : Nat) : Int)) (c := 110) (by decide) h (fun w h => ?_)
    refine cnd_t (by decide) ?_
    refine rd_pk (n := 1+1) .n rfl hxi rfl rfl hs (hXx _) (by omega) hb hl h (fun w hxi h => ?_)
    refine in08_spec (op := ((10 : Nat) : Int)) (c := 105) (by decide) h (fun w h => ?_)
    refine cnd_f (by decide) ?_
    refine in08_spec (op := ((10 : Nat) : Int)) (c := 102) (by decide) h (fun w h => ?_)
    refine cnd_t (by decide) ?_
    refine rd_imm (n := 1+1+1) (mk := [102]) rfl hs (hXx _) (by omega) hb hl h (fun w hxi h => ?_)
    rw [rdP_step (by simp only [pw]; omega), rdP_step (by simp only [pw]; omega), rdP_step (by simp only [pw]; omega)] at hR
    refine rd_tail (m := 7) (Y := []) (Z := (bare 0).cells) rfl hxi h (fun hk w h => ?_) (fun hk w h => ?_)
    · have e : insR l = (bare 0, 0, 180) := by rw [hR]; exact if_neg (fun hh => Bool.false_ne_true (hk.symm.trans hh))
      rw [e] at k; exact k _ h
    · have e := hR.trans (if_pos hk)
      rw [e] at k; exact k _ h
  · have hn : nmd ((11 : Nat) : Int) = [.a] := rfl
    rw [hn] at hR hml
    have hl2 : 2 ≤ l.length := hml
    have hms : 1 + ((nmd ((11 : Nat) : Int)).map pw).sum = 2 := rfl
    rw [hms]
    refine in08_spec (op := ((11 : Nat) : Int)) (c := 97) (by decide) h (fun w h => ?_)
    refine cnd_t (by decide) ?_
    refine rd_pk (n := 1) .a rfl hxi rfl rfl hs (hXx _) (by omega) hb hl h (fun w hxi h => ?_)
    refine in08_spec (op := ((11 : Nat) : Int)) (c := 98) (by decide) h (fun w h => ?_)
    refine cnd_f (by decide) ?_
    refine in08_spec (op := ((11 : Nat) : Int)) (c := 110) (by decide) h (fun w h => ?_)
    refine cnd_f (by decide) ?_
    refine in08_spec (op := ((11 : Nat) : Int)) (c := 107) (by decide) h (fun w h => ?_)
    refine cnd_f (by decide) ?_
    refine in08_spec (op := ((11 : Nat) : Int)) (c := 105) (by decide) h (fun w h => ?_)
    refine cnd_f (by decide) ?_
    refine in08_spec (op := ((11 : Nat) : Int)) (c := 102) (by decide) h (fun w h => ?_)
    refine cnd_f (by decide) ?_
    refine in08_spec (op := ((11 : Nat) : Int)) (c := 107) (by decide) h (fun w h => ?_)
    refine cnd_f (by decide) ?_
    rw [rdP_step (by simp only [pw]; omega)] at hR
    refine rd_tail (m := 2) (Y := []) (Z := (bare 0).cells) rfl hxi h (fun hk w h => ?_) (fun hk w h => ?_)
    · have e : insR l = (bare 0, 0, 180) := by rw [hR]; exact if_neg (fun hh => Bool.false_ne_true (hk.symm.trans hh))
      rw [e] at k; exact k _ h
    · have e := hR.trans (if_pos hk)
      rw [e] at k; exact k _ h
  · have hn : nmd ((12 : Nat) : Int) = [.a] := rfl
    rw [hn] at hR hml
    have hl2 : 2 ≤ l.length := hml
    have hms : 1 + ((nmd ((12 : Nat) : Int)).map pw).sum = 2 := rfl
    rw [hms]
    refine in08_spec (op := ((12 : Nat) : Int)) (c := 97) (by decide) h (fun w h => ?_)
    refine cnd_t (by decide) ?_
    refine rd_pk (n := 1) .a rfl hxi rfl rfl hs (hXx _) (by omega) hb hl h (fun w hxi h => ?_)
    refine in08_spec (op := ((12 : Nat) : Int)) (c := 98) (by decide) h (fun w h => ?_)
    refine cnd_f (by decide) ?_
    refine in08_spec (op := ((12 : Nat) : Int)) (c := 110) (by decide) h (fun w h => ?_)
    refine cnd_f (by decide) ?_
    refine in08_spec (op := ((12 : Nat) : Int)) (c := 107) (by decide) h (fun w h => ?_)
    refine cnd_f (by decide) ?_
    refine in08_spec (op := ((12 : Nat) : Int)) (c := 105) (by decide) h (fun w h => ?_)
    refine cnd_f (by decide) ?_
    refine in08_spec (op := ((12 : Nat) : Int)) (c := 102) (by decide) h (fun w h => ?_)
    refine cnd_f (by decide) ?_
    refine in08_spec (op := ((12 : Nat) : Int)) (c := 107) (by decide) h (fun w h => ?_)
    refine cnd_f (by decide) ?_
    rw [rdP_step (by simp only [pw]; omega)] at hR
    refine rd_tail (m := 2) (Y := []) (Z := (bare 0).cells) rfl hxi h (fun hk w h => ?_) (fun hk w h => ?_)
    · have e : insR l = (bare 0, 0, 180) := by rw [hR]; exact if_neg (fun hh => Bool.false_ne_true (hk.symm.trans hh))
      rw [e] at k; exact k _ h
    · have e := hR.trans (if_pos hk)
      rw [e] at k; exact k _ h
  · have hn : nmd ((13 : Nat) : Int) = [.a] := rfl
    rw [hn] at hR hml
    have hl2 : 2 ≤ l.length := hml
    have hms : 1 + ((nmd ((13 : Nat) : Int)).map pw).sum = 2 := rfl
    rw [hms]
    refine in08_spec (op := ((13 : Nat) : Int)) (c := 97) (by decide) h (fun w h => ?_)
    refine cnd_t (by decide) ?_
    refine rd_pk (n := 1) .a rfl hxi rfl rfl hs (hXx _) (by omega) hb hl h (fun w hxi h => ?_)
    refine in08_spec (op := ((13 : Nat) : Int)) (c := 98) (by decide) h (fun w h => ?_)
    refine cnd_f (by decide) ?_
    refine in08_spec (op := ((13 : Nat) : Int)) (c := 110) (by decide) h (fun w h => ?_)
    refine cnd_f (by decide) ?_
    refine in08_spec (op := ((13 : Nat) : Int)) (c := 107) (by decide) h (fun w h => ?_)
    refine cnd_f (by decide) ?_
    refine in08_spec (op := ((13 : Nat) : Int)) (c := 105) (by decide) h (fun w h => ?_)
    refine cnd_f (by decide) ?_
    refine in08_spec (op := ((13 : Nat) : Int)) (c := 102) (by decide) h (fun w h => ?_)
    refine cnd_f (by decide) ?_
    refine in08_spec (op := ((13 : Nat) : Int)) (c := 107) (by decide) h (fun w h => ?_)
    refine cnd_f (by decide) ?_
    rw [rdP_step (by simp only [pw]; omega)] at hR
    refine rd_tail (m := 2) (Y := []) (Z := (bare 0).cells) rfl hxi h (fun hk w h => ?_) (fun hk w h => ?_)
    · have e : insR l = (bare 0, 0, 180) := by rw [hR]; exact if_neg (fun hh => Bool.false_ne_true (hk.symm.trans hh))
      rw [e] at k; exact k _ h
    · have e := hR.trans (if_pos hk)
      rw [e] at k; exact k _ h
  · have hn : nmd ((14 : Nat) : Int) = [.a] := rfl
    rw [hn] at hR hml
    have hl2 : 2 ≤ l.length := hml
    have hms : 1 + ((nmd ((14 : Nat) : Int)).map pw).sum = 2 := rfl
    rw [hms]
    refine in08_spec (op := ((14 : Nat) : Int)) (c := 97) (by decide) h (fun w h => ?_)
    refine cnd_t (by decide) ?_
    refine rd_pk (n := 1) .a rfl hxi rfl rfl hs (hXx _) (by omega) hb hl h (fun w hxi h => ?_)
    refine in08_spec (op := ((14 : Nat) : Int)) (c := 98) (by decide) h (fun w h => ?_)
    refine cnd_f (by decide) ?_
    refine in08_spec (op := ((14 : Nat) : Int)) (c := 110) (by decide) h (fun w h => ?_)
    refine cnd_f (by decide) ?_
    refine in08_spec (op := ((14 : Nat) : Int)) (c := 107) (by decide) h (fun w h => ?_)
    refine cnd_f (by decide) ?_
    refine in08_spec (op := ((14 : Nat) : Int)) (c := 105) (by decide) h (fun w h => ?_)
    refine cnd_f (by decide) ?_
    refine in08_spec (op := ((14 : Nat) : Int)) (c := 102) (by decide) h (fun w h => ?_)
    refine cnd_f (by decide) ?_
    refine in08_spec (op := ((14 : Nat) : Int)) (c := 107) (by decide) h (fun w h => ?_)
    refine cnd_f (by decide) ?_
    rw [rdP_step (by simp only [pw]; omega)] at hR
    refine rd_tail (m := 2) (Y := []) (Z := (bare 0).cells) rfl hxi h (fun hk w h => ?_) (fun hk w h => ?_)
    · have e : insR l = (bare 0, 0, 180) := by rw [hR]; exact if_neg (fun hh => Bool.false_ne_true (hk.symm.trans hh))
      rw [e] at k; exact k _ h
    · have e := hR.trans (if_pos hk)
      rw [e] at k; exact k _ h
  · have hn : nmd ((15 : Nat) : Int) = [.a] := rfl
    rw [hn] at hR hml
    have hl2 : 2 ≤ l.length := hml
    have hms : 1 + ((nmd ((15 : Nat) : Int)).map pw).sum = 2 := rfl
    rw [hms]
    refine in08_spec (op := ((15 : Nat) : Int)) (c := 97) (by decide) h (fun w h => ?_)
    refine cnd_t (by decide) ?_
    refine rd_pk (n := 1) .a rfl hxi rfl rfl hs (hXx _) (by omega) hb hl h (fun w hxi h => ?_)
    refine in08_spec (op := ((15 : Nat) : Int)) (c := 98) (by decide) h (fun w h => ?_)
    refine cnd_f (by decide) ?_
    refine in08_spec (op := ((15 : Nat) : Int)) (c := 110) (by decide) h (fun w h => ?_)
    refine cnd_f (by decide) ?_
    refine in08_spec (op := ((15 : Nat) : Int)) (c := 107) (by decide) h (fun w h => ?_)
    refine cnd_f (by decide) ?_
    refine in08_spec (op := ((15 : Nat) : Int)) (c := 105) (by decide) h (fun w h => ?_)
    refine cnd_f (by decide) ?_
    refine in08_spec (op := ((15 : Nat) : Int)) (c := 102) (by decide) h (fun w h => ?_)
    refine cnd_f (by decide) ?_
    refine in08_spec (op := ((15 : Nat) : Int)) (c := 107) (by decide) h (fun w h => ?_)
    refine cnd_f (by decide) ?_
    rw [rdP_step (by simp only [pw]; omega)] at hR
    refine rd_tail (m := 2) (Y := []) (Z := (bare 0).cells) rfl hxi h (fun hk w h => ?_) (fun hk w h => ?_)
    · have e : insR l = (bare 0, 0, 180) := by rw [hR]; exact if_neg (fun hh => Bool.false_ne_true (hk.symm.trans hh))
      rw [e] at k; exact k _ h
    · have e := hR.trans (if_pos hk)
      rw [e] at k; exact k _ h
  · have hn : nmd ((16 : Nat) : Int) = [.a] := rfl
    rw [hn] at hR hml
    have hl2 : 2 ≤ l.length := hml
    have hms : 1 + ((nmd ((16 : Nat) : Int)).map pw).sum = 2 := rfl
    rw [hms]
    refine in08_spec (op := ((16 : Nat) : Int)) (c := 97) (by decide) h (fun w h => ?_)
    refine cnd_t (by decide) ?_
    refine rd_pk (n := 1) .a rfl hxi rfl rfl hs (hXx _) (by omega) hb hl h (fun w hxi h => ?_)
    refine in08_spec (op := ((16 : Nat) : Int)) (c := 98) (by decide) h (fun w h => ?_)
    refine cnd_f (by decide) ?_
    refine in08_spec (op := ((16 : Nat) : Int)) (c := 110) (by decide) h (fun w h => ?_)
    refine cnd_f (by decide) ?_
    refine in08_spec (op := ((16 : Nat) : Int)) (c := 107) (by decide) h (fun w h => ?_)
    refine cnd_f (by decide) ?_
    refine in08_spec (op := ((16 : Nat) : Int)) (c := 105) (by decide) h (fun w h => ?_)
    refine cnd_f (by decide) ?_
    refine in08_spec (op := ((16 : Nat) : Int)) (c := 102) (by decide) h (fun w h => ?_)
    refine cnd_f (by decide) ?_
    refine in08_spec (op := ((16 : Nat) : Int)) (c := 107) (by decide) h (fun w h => ?_)
    refine cnd_f (by decide) ?_
    rw [rdP_step (by simp only [pw]; omega)] at hR
    refine rd_tail (m := 2) (Y := []) (Z := (bare 0).cells) rfl hxi h (fun hk w h => ?_) (fun hk w h => ?_)
    · have e : insR l = (bare 0, 0, 180) := by rw [hR]; exact if_neg (fun hh => Bool.false_ne_true (hk.symm.trans hh))
      rw [e] at k; exact k _ h
    · have e := hR.trans (if_pos hk)
      rw [e] at k; exact k _ h
  · have hn : nmd ((17 : Nat) : Int) = [.a, .b] := rfl
    rw [hn] at hR hml
    have hl2 : 3 ≤ l.length := hml
    have hms : 1 + ((nmd ((17 : Nat) : Int)).map pw).sum = 3 := rfl
    rw [hms]
    refine in08_spec (op := ((17 : Nat) : Int)) (c := 97) (by decide) h (fun w h => ?_)
    refine cnd_t (by decide) ?_
    refine rd_pk (n := 1) .a rfl hxi rfl rfl hs (hXx _) (by omega) hb hl h (fun w hxi h => ?_)
    refine in08_spec (op := ((17 : Nat) : Int)) (c := 98) (by decide) h (fun w h => ?_)
    refine cnd_t (by decide) ?_
    refine rd_pk (n := 1+1) .b rfl hxi rfl rfl hs (hXx _) (by omega) hb hl h (fun w hxi h => ?_)
    refine in08_spec (op := ((17 : Nat) : Int)) (c := 110) (by decide) h (fun w h => ?_)
    refine cnd_f (by decide) ?_
    refine in08_spec (op := ((17 : Nat) : Int)) (c := 107) (by decide) h (fun w h => ?_)
    refine cnd_f (by decide) ?_
    refine in08_spec (op := ((17 : Nat) : Int)) (c := 105) (by decide) h (fun w h => ?_)
    refine cnd_f (by decide) ?_
    refine in08_spec (op := ((17 : Nat) : Int)) (c := 102) (by decide) h (fun w h => ?_)
    refine cnd_f (by decide) ?_
    refine in08_spec (op := ((17 : Nat) : Int)) (c := 107) (by decide) h (fun w h => ?_)
    refine cnd_f (by decide) ?_
    rw [rdP_step (by simp only [pw]; omega), rdP_step (by simp only [pw]; omega)] at hR
    refine rd_tail (m := 3) (Y := []) (Z := (bare 0).cells) rfl hxi h (fun hk w h => ?_) (fun hk w h => ?_)
    · have e : insR l = (bare 0, 0, 180) := by rw [hR]; exact if_neg (fun hh => Bool.false_ne_true (hk.symm.trans hh))
      rw [e] at k; exact k _ h
    · have e := hR.trans (if_pos hk)
      rw [e] at k; exact k _ h
  · have hn : nmd ((18 : Nat) : Int) = [.a] := rfl
    rw [hn] at hR hml
    have hl2 : 2 ≤ l.length := hml
    have hms : 1 + ((nmd ((18 : Nat) : Int)).map pw).sum = 2 := rfl
    rw [hms]
    refine in08_spec (op := ((18 : Nat) : Int)) (c := 97) (by decide) h (fun w h => ?_)
    refine cnd_t (by decide) ?_
    refine rd_pk (n := 1) .a rfl hxi rfl rfl hs (hXx _) (by omega) hb hl h (fun w hxi h => ?_)
    refine in08_spec (op := ((18 : Nat) : Int)) (c := 98) (by decide) h (fun w h => ?_)
    refine cnd_f (by decide) ?_
    refine in08_spec (op := ((18 : Nat) : Int)) (c := 110) (by decide) h (fun w h => ?_)
    refine cnd_f (by decide) ?_
    refine in08_spec (op := ((18 : Nat) : Int)) (c := 107) (by decide) h (fun w h => ?_)
    refine cnd_f (by decide) ?_
    refine in08_spec (op := ((18 : Nat) : Int)) (c := 105) (by decide) h (fun w h => ?_)
    refine cnd_f (by decide) ?_
    refine in08_spec (op := ((18 : Nat) : Int)) (c := 102) (by decide) h (fun w h => ?_)
    refine cnd_f (by decide) ?_
    refine in08_spec (op := ((18 : Nat) : Int)) (c := 107) (by decide) h (fun w h => ?_)
    refine cnd_f (by decide) ?_
    rw [rdP_step (by simp only [pw]; omega)] at hR
    refine rd_tail (m := 2) (Y := []) (Z := (bare 0).cells) rfl hxi h (fun hk w h => ?_) (fun hk w h => ?_)
    · have e : insR l = (bare 0, 0, 180) := by rw [hR]; exact if_neg (fun hh => Bool.false_ne_true (hk.symm.trans hh))
      rw [e] at k; exact k _ h
    · have e := hR.trans (if_pos hk)
      rw [e] at k; exact k _ h
  · have hn : nmd ((19 : Nat) : Int) = [] := rfl
    rw [hn] at hR hml
    have hl2 : 1 ≤ l.length := hml
    have hms : 1 + ((nmd ((19 : Nat) : Int)).map pw).sum = 1 := rfl
    rw [hms]
    refine in08_spec (op := ((19 : Nat) : Int)) (c := 97) (by decide) h (fun w h => ?_)
    refine cnd_f (by decide) ?_
    refine in08_spec (op := ((19 : Nat) : Int)) (c := 98) (by decide) h (fun w h => ?_)
    refine cnd_f (by decide) ?_
    refine in08_spec (op := ((19 : Nat) : Int)) (c := 110) (by decide) h (fun w h => ?_)
    refine cnd_f (by decide) ?_
    refine in08_spec (op := ((19 : Nat) : Int)) (c := 107) (by decide) h (fun w h => ?_)
    refine cnd_f (by decide) ?_
    refine in08_spec (op := ((19 : Nat) : Int)) (c := 105) (by decide) h (fun w h => ?_)
    refine cnd_f (by decide) ?_
    refine in08_spec (op := ((19 : Nat) : Int)) (c := 102) (by decide) h (fun w h => ?_)
    refine cnd_f (by decide) ?_
    refine in08_spec (op := ((19 : Nat) : Int)) (c := 107) (by decide) h (fun w h => ?_)
    refine cnd_f (by decide) ?_
    refine rd_tail (m := 1) (Y := []) (Z := (bare 0).cells) rfl hxi h (fun hk w h => ?_) (fun hk w h => ?_)
    · have e : insR l = (bare 0, 0, 180) := by rw [hR]; exact if_neg (fun hh => Bool.false_ne_true (hk.symm.trans hh))
      rw [e] at k; exact k _ h
    · have e := hR.trans (if_pos hk)
      rw [e] at k; exact k _ h
end
end Go.Proofs.YtkkkcafkepnecaaGreat.Im

