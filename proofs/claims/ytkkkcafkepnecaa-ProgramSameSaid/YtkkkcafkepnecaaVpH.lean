/- Programs: the chapter's rows; arguments; the law ProgramAt. -/
import Derived.Test.YtkkkcafkepnecaaVpG
set_option linter.unusedVariables false
set_option linter.unusedSimpArgs false
namespace Go.Proofs.Ytkkkcafkepnecaa
open Go Go.RowKit Vc
attribute [local irreducible] binV Op.unary convert nlW faW ldS ldW ixS ixA ixV ixT exW lnS lnT pu stW alW opW opU bsW mkW

section
variable {B w : World} {H X : Hp} {K : Value → World → Prop} {PK : List PanicEntry → World → Prop} {KK : Value → Prop} {v : Value} {p : Pr}
theorem num_spec {v : Value} (h : Ow B w H) (k : ∀ w', Ow B w' H → K v w') : callW PG N.linesmanlaw09_num [v] K PK w := by
  refine linesmanlaw09_num.ok ?_
  unfold linesmanlaw09_num.C
  exact k _ h
abbrev one (regs : Int) (code : List Ins) : Pr := ⟨[⟨regs, code⟩], 0, 0, 0⟩
theorem of_spec {c : Value} {regs : Int} {code : List Ins} (hc : Sls X c 5 (icode code)) (hm : immOk code) (hX : ∀ x, x ∈ X → x ∈ H) (h : Ow B w H) (k : ∀ S v w', fsIn (S ++ X) v [⟨regs, code⟩] → Ow B w' (S ++ H) → K (.agg ((one regs code).cells v).toArray) w') : callW PG N.linesmanlaw09_of [vI regs, c] K PK w := by
  refine linesmanlaw09_of.ok ?_
  unfold linesmanlaw09_of.C
  refine al_rule h (l := [.slice none 0 0, vI 0, vI 0, vI 0]) (by kernel_rfl) (fun b w1 h1 => ?_)
  have hcl : c.cells = #[c] := by
    obtain ⟨a, cap, rfl, _⟩ := hc
    rfl
  have e1 : ∀ KK : Value → Prop, KK (.agg #[vI regs, c]) → pu PG (Instr.build T.t_api_Func #[(0, vI regs), (1, c)]) KK := fun KK kk => by
    obtain ⟨a, cap, rfl, _⟩ := hc
    exact pu_build [vI regs, .slice a _ cap] (by generalize (icode code).length = n; kernel_rfl) kk
  refine e1 _ ?_
  have e2 : bsC PG T.t_api_Func 1 [(0, .agg #[vI regs, c])] = some [vI regs, c].toArray := by
    obtain ⟨a, cap, rfl, _⟩ := hc
    generalize (icode code).length = n
    kernel_rfl
  refine bs_rule h1 [vI regs, c] e2 (fun b2 w2 h2 => ?_)
  refine pu_build [.slice (some ⟨b2, 0, none⟩) 1 1, vI 0, vI 0, vI 0] (by kernel_rfl) ?_
  refine st_here (A := [_]) h2 [.slice (some ⟨b2, 0, none⟩) 1 1, vI 0, vI 0, vI 0] rfl rfl rfl (by simp) (fun w3 h3 => ?_)
  simp only [List.take_zero, List.nil_append, Nat.zero_add, List.drop_succ_cons, List.drop_zero, List.drop_nil, List.append_nil] at h3
  refine ldn_here h3 (.tail _ (.head _)) (vs := (one regs code).cells (.slice (some ⟨b2, 0, none⟩) 1 1)) rfl rfl ?_
  refine k [(b2, cel [vI regs, c] T.t_api_Func)] _ _ ⟨[(c, ⟨regs, code⟩)], rfl, ?_, fun q hq => ?_⟩ (h3.sub (.cons_cons _ (.cons _ (.refl _))))
  · exact sls_blk (rows := [[vI regs, c]]) (by simp) (by simp [maxLen]) (.head _)
  · rw [List.mem_singleton.1 hq]
    exact ⟨hc.mono fun x hx => List.mem_append_right _ hx, hm⟩
def iLoad : Ins := ⟨6, 0, 1, 0, 0⟩
def iRet : Ins := ⟨9, 0, 0, 0, 0⟩
def iYield : Ins := ⟨19, 0, 0, 0, 0⟩
theorem wrong1 : wrongR (one 1 [iLoad, iRet]) = ((0, 0), true) := by decide +kernel
theorem wrong2 : wrongR (one 1 [iRet, iYield]) = ((0, 1), true) := by decide +kernel
theorem ok1 : okP' (one 2 [iLoad, iRet]) = true := by decide +kernel
theorem ok2 : okP' (one 1 [iLoad, iRet]) = false := by decide +kernel
theorem ok3 : okP' (one 1 [iRet, iYield]) = false := by decide +kernel
theorem imm2 (i j : Ins) (hi : i.imm = 0) (hj : j.imm = 0) : immOk [i, j] := fun x hx => by
  simp at hx
  rcases hx with rfl | rfl <;> omega
set_option maxRecDepth 100000 in
theorem eq_site (a b c d : Int) : EqR PG 10000 T.t_api_Site (.agg #[vI a, vI b]) (.agg #[vI c, vI d]) ((a == c) && ((b == d) && true)) := by
  refine eqr_struct (d := 9999) (by kernel_rfl) (by kernel_rfl) rfl ?_
  refine eqf_cons (z := none) (by simp) (by kernel_rfl) (pt_at (l := [vI a, vI b]) (v := vI a) rfl rfl) (pt_at (l := [vI c, vI d]) (v := vI c) rfl rfl) (eqr_int (d := 9998) und_int _ _) ?_
  exact eqf_cons (z := none) (by simp) (by kernel_rfl) (pt_at (l := [vI a, vI b]) (v := vI b) rfl rfl) (pt_at (l := [vI c, vI d]) (v := vI d) rfl rfl) (eqr_int (d := 9998) und_int _ _) eqf_nil
theorem blk2 {b : Nat} {i j : Ins} (hb : (b, cel (icode [i, j]).flatten T.t_api_Ins) ∈ H) : Sls H (.slice (some ⟨b, 0, none⟩) 2 2) 5 (icode [i, j]) :=
  sls_blk (rows := icode [i, j]) (by simp [icode, Ins.cells]) (by simp [icode, maxLen]) hb
theorem works_spec (h : Ow B w H) (k : ∀ w', Ow B w' H → K (vB true) w') : callW PG N.linesmanlaw09_works [] K PK w := by
  refine linesmanlaw09_works.ok ?_
  unfold linesmanlaw09_works.C
  refine pu_build iLoad.cells (by kernel_rfl) ?_
  refine pu_build iRet.cells (by kernel_rfl) ?_
  refine pu_build iYield.cells (by kernel_rfl) ?_
  refine al_rule h (l := (bare 0).cells) zins (fun b6 w1 h1 => ?_)
  refine al_rule h1 (l := (bare 0).cells) zins (fun b8 w2 h2 => ?_)
  refine al_rule h2 (l := (bare 0).cells) zins (fun b10 w3 h3 => ?_)
  have e5 : ∀ i : Ins, (bare 0).cells.take 0 ++ i.cells ++ (bare 0).cells.drop (0 + 5) = i.cells := fun i => rfl
  refine st_here (A := [_, _]) h3 iLoad.cells rfl rfl (ins_plain _) (by simp [Ins.cells]) (fun w4 h4 => ?_)
  rw [e5] at h4
  refine st_here (A := [_]) h4 iRet.cells rfl rfl (ins_plain _) (by simp [Ins.cells]) (fun w5 h5 => ?_)
  rw [e5] at h5
  refine st_here (A := []) h5 iYield.cells rfl rfl (ins_plain _) (by simp [Ins.cells]) (fun w6 h6 => ?_)
  rw [e5] at h6
  have h6 : Ow B w6 ((b10, iO iYield) :: (b8, iO iRet) :: (b6, iO iLoad) :: H) := h6
  have k : ∀ w', Ow B w' ((b10, iO iYield) :: (b8, iO iRet) :: (b6, iO iLoad) :: H) → K (vB true) w' := fun w' h' => k w' h'.drop.drop.drop
  clear h h1 h2 h3 h4 h5
  have m10 : (b10, iO iYield) ∈ (b10, iO iYield) :: (b8, iO iRet) :: (b6, iO iLoad) :: H := .head _
  have m8 : (b8, iO iRet) ∈ (b10, iO iYield) :: (b8, iO iRet) :: (b6, iO iLoad) :: H := .tail _ (.head _)
  have m6 : (b6, iO iLoad) ∈ (b10, iO iYield) :: (b8, iO iRet) :: (b6, iO iLoad) :: H := .tail _ (.tail _ (.head _))
  generalize (b10, iO iYield) :: (b8, iO iRet) :: (b6, iO iLoad) :: H = G at *
  have drp : ∀ {S G : Hp} {w : World}, Ow B w (S ++ G) → Ow B w G := fun h => h.sub (List.sublist_append_right _ _)
  refine ldn_here h6 m6 (vs := iLoad.cells) rfl rfl ?_
  refine ldn_here h6 m8 (vs := iRet.cells) rfl rfl ?_
  refine bs_rule h6 (icode [iLoad, iRet]).flatten (by kernel_rfl) (fun q w7 h7 => ?_)
  refine of_spec (X := [(q, _)]) (blk2 (.head _)) (imm2 _ _ rfl rfl) (fun x hx => by rw [List.mem_singleton.1 hx]; exact .head _) h7 (fun S v w8 hv h8 => ?_)
  refine wrong_spec (p := one 1 [iLoad, iRet]) hv (fun x hx => (List.mem_append.1 hx).elim (fun h => List.mem_append_left _ h) fun h => List.mem_append_right _ (by rw [List.mem_singleton.1 h]; exact .head _)) (by simp) h8 (fun w9 h9 => ?_)
  rw [wrong1]
  have h9 := (drp h9).drop
  repeat (first | refine pu_not ?_ | refine pu_eql ?_ | refine pu_neq ?_ | refine pu_lss ?_ | refine pu_leq ?_ | refine pu_gtr ?_ | refine pu_geq ?_ | refine pu_add ?_ | refine pu_sub ?_ | refine pu_mul ?_ | refine pu_neg ?_ | refine fa_at ?_ | refine nl_ptr ?_ | refine ex20 ?_ | refine ex21 ?_ | refine ex30 ?_ | refine ex31 ?_ | refine ex32 ?_ | refine ln_rule ?_ | refine lnT_rule ?_ | refine pu_and ?_ | refine pu_or ?_ | refine pu_xor ?_ | refine pu_seq ?_ | refine pu_sne ?_)
  refine al_rule h9 (l := [vI 0, vI 0]) (by kernel_rfl) (fun b26 w10 h10 => ?_)
  refine st_here (A := []) h10 [vI 0, vI 0] rfl rfl rfl (by simp) (fun w11 h11 => ?_)
  simp only [List.take_zero, List.nil_append, Nat.zero_add, List.drop_succ_cons, List.drop_zero, List.drop_nil, List.append_nil] at h11
  refine ldn_here h11 (.tail _ m8) (vs := iRet.cells) rfl rfl ?_
  refine ldn_here h11 (.tail _ m10) (vs := iYield.cells) rfl rfl ?_
  refine bs_rule h11 (icode [iRet, iYield]).flatten (by kernel_rfl) (fun q w12 h12 => ?_)
  refine of_spec (X := [(q, _)]) (blk2 (.head _)) (imm2 _ _ rfl rfl) (fun x hx => by rw [List.mem_singleton.1 hx]; exact .head _) h12 (fun S v w13 hv h13 => ?_)
  refine wrong_spec (p := one 1 [iRet, iYield]) hv (fun x hx => (List.mem_append.1 hx).elim (fun h => List.mem_append_left _ h) fun h => List.mem_append_right _ (by rw [List.mem_singleton.1 h]; exact .head _)) (by simp) h13 (fun w14 h14 => ?_)
  rw [wrong2]
  have h14 := (drp h14).drop
  repeat (first | refine pu_not ?_ | refine pu_eql ?_ | refine pu_neq ?_ | refine pu_lss ?_ | refine pu_leq ?_ | refine pu_gtr ?_ | refine pu_geq ?_ | refine pu_add ?_ | refine pu_sub ?_ | refine pu_mul ?_ | refine pu_neg ?_ | refine fa_at ?_ | refine nl_ptr ?_ | refine ex20 ?_ | refine ex21 ?_ | refine ex30 ?_ | refine ex31 ?_ | refine ex32 ?_ | refine ln_rule ?_ | refine lnT_rule ?_ | refine pu_and ?_ | refine pu_or ?_ | refine pu_xor ?_ | refine pu_seq ?_ | refine pu_sne ?_)
  refine al_rule h14 (l := [vI 0, vI 0]) (by kernel_rfl) (fun b40 w15 h15 => ?_)
  refine st_here (A := []) h15 [vI 0, vI 1] rfl rfl rfl (by simp) (fun w16 h16 => ?_)
  simp only [List.take_zero, List.nil_append, Nat.zero_add, List.drop_succ_cons, List.drop_zero, List.drop_nil, List.append_nil] at h16
  have k : ∀ w', Ow B w' ((b40, cel [vI 0, vI 1] T.t_api_Site) :: (b26, cel [vI 0, vI 0] T.t_api_Site) :: G) → K (vB true) w' := fun w' h' => k w' h'.drop.drop
  have h16 : Ow B w16 ((b40, cel [vI 0, vI 1] T.t_api_Site) :: (b26, cel [vI 0, vI 0] T.t_api_Site) :: G) := h16
  have n40 : (b40, cel [vI 0, vI 1] T.t_api_Site) ∈ (b40, cel [vI 0, vI 1] T.t_api_Site) :: (b26, cel [vI 0, vI 0] T.t_api_Site) :: G := .head _
  have n26 : (b26, cel [vI 0, vI 0] T.t_api_Site) ∈ (b40, cel [vI 0, vI 1] T.t_api_Site) :: (b26, cel [vI 0, vI 0] T.t_api_Site) :: G := .tail _ (.head _)
  have m10 : (b10, iO iYield) ∈ (b40, cel [vI 0, vI 1] T.t_api_Site) :: (b26, cel [vI 0, vI 0] T.t_api_Site) :: G := .tail _ (.tail _ m10)
  have m8 : (b8, iO iRet) ∈ (b40, cel [vI 0, vI 1] T.t_api_Site) :: (b26, cel [vI 0, vI 0] T.t_api_Site) :: G := .tail _ (.tail _ m8)
  have m6 : (b6, iO iLoad) ∈ (b40, cel [vI 0, vI 1] T.t_api_Site) :: (b26, cel [vI 0, vI 0] T.t_api_Site) :: G := .tail _ (.tail _ m6)
  generalize (b40, cel [vI 0, vI 1] T.t_api_Site) :: (b26, cel [vI 0, vI 0] T.t_api_Site) :: G = G2 at *
  refine ldn_here h16 m6 (vs := iLoad.cells) rfl rfl ?_
  refine ldn_here h16 m8 (vs := iRet.cells) rfl rfl ?_
  refine bs_rule h16 (icode [iLoad, iRet]).flatten (by kernel_rfl) (fun q w17 h17 => ?_)
  refine of_spec (X := [(q, _)]) (blk2 (.head _)) (imm2 _ _ rfl rfl) (fun x hx => by rw [List.mem_singleton.1 hx]; exact .head _) h17 (fun S v w18 hv h18 => ?_)
  refine check_spec (p := one 2 [iLoad, iRet]) hv (fun x hx => (List.mem_append.1 hx).elim (fun h => List.mem_append_left _ h) fun h => List.mem_append_right _ (by rw [List.mem_singleton.1 h]; exact .head _)) (by simp) h18 (fun w19 h19 => ?_)
  rw [ok1, if_pos rfl]
  have h19 := (drp h19).drop
  refine num_spec h19 (fun w20 h20 => ?_)
  repeat (first | refine pu_not ?_ | refine pu_eql ?_ | refine pu_neq ?_ | refine pu_lss ?_ | refine pu_leq ?_ | refine pu_gtr ?_ | refine pu_geq ?_ | refine pu_add ?_ | refine pu_sub ?_ | refine pu_mul ?_ | refine pu_neg ?_ | refine fa_at ?_ | refine nl_ptr ?_ | refine ex20 ?_ | refine ex21 ?_ | refine ex30 ?_ | refine ex31 ?_ | refine ex32 ?_ | refine ln_rule ?_ | refine lnT_rule ?_ | refine pu_and ?_ | refine pu_or ?_ | refine pu_xor ?_ | refine pu_seq ?_ | refine pu_sne ?_)
  refine cnd_t rfl ?_
  refine ldn_here h20 m6 (vs := iLoad.cells) rfl rfl ?_
  refine ldn_here h20 m8 (vs := iRet.cells) rfl rfl ?_
  refine bs_rule h20 (icode [iLoad, iRet]).flatten (by kernel_rfl) (fun q w21 h21 => ?_)
  refine of_spec (X := [(q, _)]) (blk2 (.head _)) (imm2 _ _ rfl rfl) (fun x hx => by rw [List.mem_singleton.1 hx]; exact .head _) h21 (fun S v w22 hv h22 => ?_)
  refine check_spec (p := one 1 [iLoad, iRet]) hv (fun x hx => (List.mem_append.1 hx).elim (fun h => List.mem_append_left _ h) fun h => List.mem_append_right _ (by rw [List.mem_singleton.1 h]; exact .head _)) (by simp) h22 (fun w23 h23 => ?_)
  rw [ok2, if_neg (by simp)]
  have h23 := (drp h23).drop
  refine num_spec h23 (fun w24 h24 => ?_)
  repeat (first | refine pu_not ?_ | refine pu_eql ?_ | refine pu_neq ?_ | refine pu_lss ?_ | refine pu_leq ?_ | refine pu_gtr ?_ | refine pu_geq ?_ | refine pu_add ?_ | refine pu_sub ?_ | refine pu_mul ?_ | refine pu_neg ?_ | refine fa_at ?_ | refine nl_ptr ?_ | refine ex20 ?_ | refine ex21 ?_ | refine ex30 ?_ | refine ex31 ?_ | refine ex32 ?_ | refine ln_rule ?_ | refine lnT_rule ?_ | refine pu_and ?_ | refine pu_or ?_ | refine pu_xor ?_ | refine pu_seq ?_ | refine pu_sne ?_)
  refine cnd_t rfl ?_
  refine ldn_here h24 n26 (vs := [vI 0, vI 0]) rfl rfl ?_
  refine pu_build [vI 0, vI 0] (by kernel_rfl) ?_
  refine pu_aeql (by kernel_rfl) (eq_site 0 0 0 0) ?_
  refine cnd_t rfl ?_
  refine cnd_t rfl ?_
  refine ldn_here h24 m8 (vs := iRet.cells) rfl rfl ?_
  refine ldn_here h24 m10 (vs := iYield.cells) rfl rfl ?_
  refine bs_rule h24 (icode [iRet, iYield]).flatten (by kernel_rfl) (fun q w25 h25 => ?_)
  refine of_spec (X := [(q, _)]) (blk2 (.head _)) (imm2 _ _ rfl rfl) (fun x hx => by rw [List.mem_singleton.1 hx]; exact .head _) h25 (fun S v w26 hv h26 => ?_)
  refine check_spec (p := one 1 [iRet, iYield]) hv (fun x hx => (List.mem_append.1 hx).elim (fun h => List.mem_append_left _ h) fun h => List.mem_append_right _ (by rw [List.mem_singleton.1 h]; exact .head _)) (by simp) h26 (fun w27 h27 => ?_)
  rw [ok3, if_neg (by simp)]
  have h27 := (drp h27).drop
  refine num_spec h27 (fun w28 h28 => ?_)
  repeat (first | refine pu_not ?_ | refine pu_eql ?_ | refine pu_neq ?_ | refine pu_lss ?_ | refine pu_leq ?_ | refine pu_gtr ?_ | refine pu_geq ?_ | refine pu_add ?_ | refine pu_sub ?_ | refine pu_mul ?_ | refine pu_neg ?_ | refine fa_at ?_ | refine nl_ptr ?_ | refine ex20 ?_ | refine ex21 ?_ | refine ex30 ?_ | refine ex31 ?_ | refine ex32 ?_ | refine ln_rule ?_ | refine lnT_rule ?_ | refine pu_and ?_ | refine pu_or ?_ | refine pu_xor ?_ | refine pu_seq ?_ | refine pu_sne ?_)
  refine cnd_t rfl ?_
  refine ldn_here h28 n40 (vs := [vI 0, vI 1]) rfl rfl ?_
  refine pu_build [vI 0, vI 1] (by kernel_rfl) ?_
  refine pu_aeql (by kernel_rfl) (eq_site 0 1 0 1) ?_
  refine cnd_t rfl ?_
  exact k _ h28
end
end Go.Proofs.Ytkkkcafkepnecaa
