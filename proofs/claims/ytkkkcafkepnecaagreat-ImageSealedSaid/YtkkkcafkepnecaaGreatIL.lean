/- Images: Encode, Len. -/
import Derived.Test.YtkkkcafkepnecaaGreatIK
import Derived.Test.YtkkkcafkepnecaaGreatJL

set_option linter.unusedVariables false
set_option linter.unusedSimpArgs false
set_option linter.unnecessarySimpa false
namespace Go.Proofs.YtkkkcafkepnecaaGreat.Im
open Go Go.RowKit Vc Oc Dg
attribute [local irreducible] binV Op.unary convert nlW faW ldS ldW ixS ixA ixV ixT exW lnS lnT pu stW alW opW opU bsW mkW

section
variable {B w : World} {H X : Hp} {K : Value → World → Prop} {PK : List PanicEntry → World → Prop} {p : Pr} {v : Value}
def encR (p : Pr) : List Nat × Int := if okP' p = true then (encB p, 0) else ([], 2)
theorem wn_none : Wn [] nilS [] := own_none _ _
theorem encode_spec (hv : fsIn X v p.fs) (hX : ∀ x, x ∈ X → x ∈ H) (hlen : p.fs.length ≤ 1000) (h : Ow B w H)
    (k : ∀ S out w', Ow B w' (S ++ H) → Wn S out (encR p).1 → K (.tuple #[out, vI (encR p).2]) w') : callW PG N.image_Encode [.agg (p.cells v).toArray] K PK w := by
  refine image_Encode.ok ?_
  unfold image_Encode.C
  have hvp := hv.plain
  have hvc := hv.cells
  refine al_rule h (l := p.cells v) rfl (fun b2 w1 h1 => ?_)
  refine ldn_here h1 (.head _) (vs := p.cells v) rfl rfl ?_
  refine check_spec (p := p) (v := v) hv (fun x hx => .tail _ (hX x hx)) hlen h1 (fun w2 h2 => ?_)
  by_cases hk : okP' p = true
  case neg =>
    have e : encR p = ([], 2) := if_neg hk
    rw [e] at k
    rw [if_neg hk]
    repeat (first | refine pu_not ?_ | refine pu_eql ?_ | refine pu_neq ?_ | refine pu_lss ?_ | refine pu_leq ?_ | refine pu_gtr ?_ | refine pu_geq ?_ | refine pu_add ?_ | refine pu_sub ?_ | refine fa_at ?_ | refine nl_ptr ?_ | refine ex20 ?_ | refine ex21 ?_ | refine ex30 ?_ | refine ex31 ?_ | refine ex32 ?_ | refine ln_rule ?_ | refine pu_seq ?_ | refine pu_sne ?_)
    refine cnd_t rfl ?_
    exact k [] nilS _ h2.drop wn_none
  have e : encR p = (encB p, 0) := if_pos hk
  rw [e] at k
  rw [if_pos hk]
  have hfit := ok_fits hk
  have hbl := bare_len hk
  repeat (first | refine pu_not ?_ | refine pu_eql ?_ | refine pu_neq ?_ | refine pu_lss ?_ | refine pu_leq ?_ | refine pu_gtr ?_ | refine pu_geq ?_ | refine pu_add ?_ | refine pu_sub ?_ | refine fa_at ?_ | refine nl_ptr ?_ | refine ex20 ?_ | refine ex21 ?_ | refine ex30 ?_ | refine ex31 ?_ | refine ex32 ?_ | refine ln_rule ?_ | refine pu_seq ?_ | refine pu_sne ?_)
  refine cnd_f rfl ?_
  refine pu_build [nilS] (by kernel_rfl) ?_
  refine al_rule h2 (l := [nilS]) rfl (fun b14 w3 h3 => ?_)
  refine begins_spec h3 (fun w4 h4 => ?_)
  refine ⟨fun l w => ∃ (n : Nat) (S : Hp) (o : Value), l = [vI n] ∧ n ≤ 4 ∧ Wn S o (magic.take n) ∧ Ow B w ([] ++ S ++ (b14, wO o) :: (b2, pgO p v) :: H), fun l _ => match l with | [.int _ q] => 4 - q.toNat | _ => 0,
    ⟨0, [], nilS, rfl, by omega, wn_none, h4⟩, ?_⟩
  clear h4 h3 h2 h1 h
  rintro l w5 ⟨n, S, o, rfl, hn, ho, h5⟩ j
  simp only [gv, List.getD_cons_zero, List.getD_cons_succ]
  repeat (first | refine pu_not ?_ | refine pu_eql ?_ | refine pu_neq ?_ | refine pu_lss ?_ | refine pu_leq ?_ | refine pu_gtr ?_ | refine pu_geq ?_ | refine pu_add ?_ | refine pu_sub ?_ | refine fa_at ?_ | refine nl_ptr ?_ | refine ex20 ?_ | refine ex21 ?_ | refine ex30 ?_ | refine ex31 ?_ | refine ex32 ?_ | refine ln_rule ?_ | refine pu_seq ?_ | refine pu_sne ?_)
  refine cnd (fun hlt => ?_) (fun hlt => ?_)
  · have hlt : n < 4 := by have := of_decide_eq_true hlt; omega
    have hml : n < magic.length := hlt
    have hmv : ([v8 108, v8 105, v8 110, v8 101] : List Value)[(n : Int).toNat]? = some (v8 magic[n]) := by
      have : ([v8 108, v8 105, v8 110, v8 101] : List Value) = magic.map v8 := rfl
      rw [this, Int.toNat_natCast, List.getElem?_map, List.getElem?_eq_getElem hml]; rfl
    have hc256 : magic[n] < 256 := (by decide : ∀ x ∈ magic, x < 256) _ (List.getElem_mem hml)
    have htk : magic.take (n + 1) = magic.take n ++ [magic[n]] := by rw [List.take_add_one, List.getElem?_eq_getElem hml]; rfl
    have hml2 : (magic.take n).length ≤ 1000000 := by rw [List.length_take]; omega
    generalize magic[n] = c at hmv htk hc256
    refine ixV_rule (l := [v8 108, v8 105, v8 110, v8 101]) (by omega) (by omega) hmv ?_
    refine cvt (by kernel_rfl) und_int (m := (c : Int)) (by rw [wrap64_in (by omega) (by omega)]) ?_
    refine wbyte_spec h5 ho (by omega) (by omega) hml2 (fun S' o' w6 h6 ho6 => ?_)
    repeat (first | refine pu_not ?_ | refine pu_eql ?_ | refine pu_neq ?_ | refine pu_lss ?_ | refine pu_leq ?_ | refine pu_gtr ?_ | refine pu_geq ?_ | refine pu_add ?_ | refine pu_sub ?_ | refine fa_at ?_ | refine nl_ptr ?_ | refine ex20 ?_ | refine ex21 ?_ | refine ex30 ?_ | refine ex31 ?_ | refine ex32 ?_ | refine ln_rule ?_ | refine pu_seq ?_ | refine pu_sne ?_)
    rw [wrapN (by omega)]
    refine ⟨⟨n + 1, S', o', rfl, by omega, ?_, h6⟩, by simp; omega⟩
    rw [htk]; exact ho6
  · obtain rfl : n = 4 := by simp at hlt; omega
    have ho : Wn S o magic := ho
    have m2 : ∀ (Y : Hp) (o : Value), (b2, pgO p v) ∈ Y ++ (b14, wO o) :: (b2, pgO p v) :: H := fun Y o => List.mem_append_right _ (.tail _ (.head _))
    have hXm : ∀ (Y : Hp) (o : Value) x, x ∈ X → x ∈ Y ++ (b14, wO o) :: (b2, pgO p v) :: H := fun Y o x hx => List.mem_append_right _ (.tail _ (.tail _ (hX x hx)))
    repeat (first | refine pu_not ?_ | refine pu_eql ?_ | refine pu_neq ?_ | refine pu_lss ?_ | refine pu_leq ?_ | refine pu_gtr ?_ | refine pu_geq ?_ | refine pu_add ?_ | refine pu_sub ?_ | refine fa_at ?_ | refine nl_ptr ?_ | refine ex20 ?_ | refine ex21 ?_ | refine ex30 ?_ | refine ex31 ?_ | refine ex32 ?_ | refine ln_rule ?_ | refine pu_seq ?_ | refine pu_sne ?_)
    refine ld_here h5 (m2 _ _) (v := vI p.mu) rfl ?_
    repeat (first | refine pu_not ?_ | refine pu_eql ?_ | refine pu_neq ?_ | refine pu_lss ?_ | refine pu_leq ?_ | refine pu_gtr ?_ | refine pu_geq ?_ | refine pu_add ?_ | refine pu_sub ?_ | refine fa_at ?_ | refine nl_ptr ?_ | refine ex20 ?_ | refine ex21 ?_ | refine ex30 ?_ | refine ex31 ?_ | refine ex32 ?_ | refine ln_rule ?_ | refine pu_seq ?_ | refine pu_sne ?_)
    refine ld_here h5 (m2 _ _) (v := vI p.rw) rfl ?_
    repeat (first | refine pu_not ?_ | refine pu_eql ?_ | refine pu_neq ?_ | refine pu_lss ?_ | refine pu_leq ?_ | refine pu_gtr ?_ | refine pu_geq ?_ | refine pu_add ?_ | refine pu_sub ?_ | refine fa_at ?_ | refine nl_ptr ?_ | refine ex20 ?_ | refine ex21 ?_ | refine ex30 ?_ | refine ex31 ?_ | refine ex32 ?_ | refine ln_rule ?_ | refine pu_seq ?_ | refine pu_sne ?_)
    refine ld_here h5 (m2 _ _) (v := vI p.gr) rfl ?_
    repeat (first | refine pu_not ?_ | refine pu_eql ?_ | refine pu_neq ?_ | refine pu_lss ?_ | refine pu_leq ?_ | refine pu_gtr ?_ | refine pu_geq ?_ | refine pu_add ?_ | refine pu_sub ?_ | refine fa_at ?_ | refine nl_ptr ?_ | refine ex20 ?_ | refine ex21 ?_ | refine ex30 ?_ | refine ex31 ?_ | refine ex32 ?_ | refine ln_rule ?_ | refine pu_seq ?_ | refine pu_sne ?_)
    refine ld_here h5 (m2 _ _) (v := v) rfl ?_
    refine hv.ln ?_
    refine bs_rule h5 [vI p.mu, vI p.rw, vI p.gr, vI p.fs.length] (by kernel_rfl) (fun b44 w6 h6 => ?_)
    have h1 := hfit.n; have hmu := hfit.mu; have hrw := hfit.rw; have hgr := hfit.gr
    refine weach_spec (A := [(b44, cel [vI p.mu, vI p.rw, vI p.gr, vI p.fs.length] T.t_int)]) (ns := [p.mu, p.rw, p.gr, p.fs.length]) (sl_here (l := [vI p.mu, vI p.rw, vI p.gr, vI p.fs.length]) (.head _)) h6 ho (by
      intro n hn
      simp only [List.mem_cons, List.not_mem_nil, or_false] at hn
      rcases hn with rfl | rfl | rfl | rfl <;> omega) (by simp [magic]) (fun S' o' w7 h7 ho7 => ?_)
    have hhd : magic ++ [p.mu, p.rw, p.gr, (p.fs.length : Int)].map Int.toNat = headB p := rfl
    rw [hhd] at ho7
    have h7 : Ow B w7 ([] ++ S' ++ (b14, wO o') :: (b2, pgO p v) :: H) := h7.drop
    clear h6 h5 ho hhd
    repeat (first | refine pu_not ?_ | refine pu_eql ?_ | refine pu_neq ?_ | refine pu_lss ?_ | refine pu_leq ?_ | refine pu_gtr ?_ | refine pu_geq ?_ | refine pu_add ?_ | refine pu_sub ?_ | refine fa_at ?_ | refine nl_ptr ?_ | refine ex20 ?_ | refine ex21 ?_ | refine ex30 ?_ | refine ex31 ?_ | refine ex32 ?_ | refine ln_rule ?_ | refine pu_seq ?_ | refine pu_sne ?_)
    refine ld_here h7 (m2 _ _) (v := v) rfl ?_
    refine hv.ln ?_
    obtain ⟨ps, e1, e2, e3⟩ := id hv
    have hpl : ps.length = p.fs.length := by rw [← e1]; simp
    refine ⟨fun l w => ∃ (n : Nat) (S : Hp) (o : Value), l = [vI n] ∧ n ≤ p.fs.length ∧ Wn S o (headB p ++ (p.fs.take n).flatMap funB) ∧ Ow B w ([] ++ S ++ (b14, wO o) :: (b2, pgO p v) :: H), fun l _ => match l with | [.int _ q] => p.fs.length - q.toNat | _ => 0,
      ⟨0, S', o', rfl, Nat.zero_le _, by simpa using ho7, h7⟩, ?_⟩
    clear h7 ho7 hlt hn
    rintro l w8 ⟨n, S, o, rfl, hn, ho, h8⟩ j
    simp only [gv, List.getD_cons_zero, List.getD_cons_succ]
    repeat (first | refine pu_not ?_ | refine pu_eql ?_ | refine pu_neq ?_ | refine pu_lss ?_ | refine pu_leq ?_ | refine pu_gtr ?_ | refine pu_geq ?_ | refine pu_add ?_ | refine pu_sub ?_ | refine fa_at ?_ | refine nl_ptr ?_ | refine ex20 ?_ | refine ex21 ?_ | refine ex30 ?_ | refine ex31 ?_ | refine ex32 ?_ | refine ln_rule ?_ | refine pu_seq ?_ | refine pu_sne ?_)
    refine cnd (fun hlt => ?_) (fun hlt => ?_)
    · have hlt : n < p.fs.length := by simpa using hlt
      obtain ⟨⟨c, f⟩, hq⟩ : ∃ q, ps[n]? = some q := ⟨_, List.getElem?_eq_getElem (by omega)⟩
      have hf : p.fs[n]? = some f := by rw [← e1, List.getElem?_map, hq]; rfl
      have hfm : f ∈ p.fs := List.mem_of_getElem? hf
      obtain ⟨q1, q2⟩ := e3 _ (List.mem_of_getElem? hq)
      simp only at q1 q2
      have hrow : (frows ps)[(n : Int).toNat]? = some [vI f.regs, c] := by rw [Int.toNat_natCast, frows, List.getElem?_map, hq]; rfl
      have htk : p.fs.take (n + 1) = p.fs.take n ++ [f] := by rw [List.take_add_one, hf]; rfl
      have hff := hfit.f f hfm
      -- what is written stays below the whole
      have hpre : (headB p ++ (p.fs.take n).flatMap funB).length + (funB f).length ≤ 300000 := by
        have hsub : (p.fs.take (n + 1)).flatMap funB <+: p.fs.flatMap funB := by
          refine ⟨(p.fs.drop (n + 1)).flatMap funB, ?_⟩
          rw [← List.flatMap_append, List.take_append_drop]
        have hle := hsub.length_le
        rw [htk, List.flatMap_append] at hle
        simp only [bareB, List.length_append, List.flatMap_cons, List.flatMap_nil, List.append_nil] at hle hbl ⊢
        omega
      have hfbl : (funB f).length = 3 + (codeB f.code).length := by simp only [funB, List.length_cons, List.length_append, fx_len]; omega
      generalize hpx : headB p ++ (p.fs.take n).flatMap funB = px at ho hpre
      refine sls_ld h8 (e2.mono (hXm _ _)) (by omega) hrow ?_
      refine al_rule h8 (l := [vI 0, .slice none 0 0]) (by kernel_rfl) (fun b64 w9 h9 => ?_)
      refine st_here (A := []) h9 [vI f.regs, c] rfl rfl (by simp only [List.all_cons, sls_plain q1]; rfl) (by simp) (fun w10 h10 => ?_)
      simp only [List.take_zero, List.nil_append, Nat.zero_add, List.drop_succ_cons, List.drop_zero, List.drop_nil, List.append_nil] at h10
      have h10 : Ow B w10 ([(b64, cel [vI f.regs, c] T.t_api_Func)] ++ S ++ (b14, wO o) :: (b2, pgO p v) :: H) := h10
      repeat (first | refine pu_not ?_ | refine pu_eql ?_ | refine pu_neq ?_ | refine pu_lss ?_ | refine pu_leq ?_ | refine pu_gtr ?_ | refine pu_geq ?_ | refine pu_add ?_ | refine pu_sub ?_ | refine fa_at ?_ | refine nl_ptr ?_ | refine ex20 ?_ | refine ex21 ?_ | refine ex30 ?_ | refine ex31 ?_ | refine ex32 ?_ | refine ln_rule ?_ | refine pu_seq ?_ | refine pu_sne ?_)
      refine ld_here h10 (.head _) (v := vI f.regs) rfl ?_
      refine wbyte_spec h10 ho (by omega) (by omega) (by omega) (fun S1 o1 w11 h11 ho11 => ?_)
      repeat (first | refine pu_not ?_ | refine pu_eql ?_ | refine pu_neq ?_ | refine pu_lss ?_ | refine pu_leq ?_ | refine pu_gtr ?_ | refine pu_geq ?_ | refine pu_add ?_ | refine pu_sub ?_ | refine fa_at ?_ | refine nl_ptr ?_ | refine ex20 ?_ | refine ex21 ?_ | refine ex30 ?_ | refine ex31 ?_ | refine ex32 ?_ | refine ln_rule ?_ | refine pu_seq ?_ | refine pu_sne ?_)
      refine ld_here h11 (.head _) (v := c) rfl ?_
      refine sls_ln q1 ?_
      rw [icode_len]
      refine cvt_iu (by omega) (by omega) ?_
      rw [Int.toNat_natCast]
      refine wnum_spec (wd := 2) h11 ho11 (by omega) (by omega) rfl (by rw [List.length_append, List.length_singleton]; omega) (fun S2 o2 w12 h12 ho12 => ?_)
      repeat (first | refine pu_not ?_ | refine pu_eql ?_ | refine pu_neq ?_ | refine pu_lss ?_ | refine pu_leq ?_ | refine pu_gtr ?_ | refine pu_geq ?_ | refine pu_add ?_ | refine pu_sub ?_ | refine fa_at ?_ | refine nl_ptr ?_ | refine ex20 ?_ | refine ex21 ?_ | refine ex30 ?_ | refine ex31 ?_ | refine ex32 ?_ | refine ln_rule ?_ | refine pu_seq ?_ | refine pu_sne ?_)
      refine ld_here h12 (.head _) (v := c) rfl ?_
      refine sls_ln q1 ?_
      rw [icode_len]
      refine ⟨fun l w => ∃ (m : Nat) (S : Hp) (o : Value), l = [vI m] ∧ m ≤ f.code.length ∧ Wn S o (px ++ [f.regs.toNat] ++ fx f.code.length 2 ++ codeB (f.code.take m)) ∧ Ow B w ([(b64, cel [vI f.regs, c] T.t_api_Func)] ++ S ++ (b14, wO o) :: (b2, pgO p v) :: H),
        fun l _ => match l with | [.int _ q] => f.code.length - q.toNat | _ => 0, ⟨0, S2, o2, rfl, Nat.zero_le _, by simpa [codeB] using ho12, h12⟩, ?_⟩
      clear h12 h11 h10 h9 h8 ho ho11 ho12
      rintro l w13 ⟨m, S, o, rfl, hm, ho, h13⟩ j
      simp only [gv, List.getD_cons_zero, List.getD_cons_succ]
      repeat (first | refine pu_not ?_ | refine pu_eql ?_ | refine pu_neq ?_ | refine pu_lss ?_ | refine pu_leq ?_ | refine pu_gtr ?_ | refine pu_geq ?_ | refine pu_add ?_ | refine pu_sub ?_ | refine fa_at ?_ | refine nl_ptr ?_ | refine ex20 ?_ | refine ex21 ?_ | refine ex30 ?_ | refine ex31 ?_ | refine ex32 ?_ | refine ln_rule ?_ | refine pu_seq ?_ | refine pu_sne ?_)
      refine cnd (fun hlt2 => ?_) (fun hlt2 => ?_)
      · have hlt2 : m < f.code.length := by simpa using hlt2
        obtain ⟨i, hi⟩ : ∃ i, f.code[m]? = some i := ⟨_, List.getElem?_eq_getElem hlt2⟩
        have him : i ∈ f.code := List.mem_of_getElem? hi
        have htk2 : f.code.take (m + 1) = f.code.take m ++ [i] := by rw [List.take_add_one, hi]; rfl
        have hle : (codeB (f.code.take m)).length + (insB i).length ≤ (codeB f.code).length := by
          have hsub : codeB (f.code.take (m + 1)) <+: codeB f.code := by
            refine ⟨codeB (f.code.drop (m + 1)), ?_⟩
            unfold codeB
            rw [← List.flatMap_append, List.take_append_drop]
          have := hsub.length_le
          rw [htk2] at this
          simpa [codeB] using this
        have hil := insB_len i
        refine sls_ld h13 (q1.mono (hXm _ _)) (by omega) (code_at hi) ?_
        refine al_rule h13 (l := (bare 0).cells) (by kernel_rfl) (fun b94 w14 h14 => ?_)
        refine st_here (A := []) h14 i.cells rfl rfl (ins_plain _) (by simp [Ins.cells, bare]) (fun w15 h15 => ?_)
        have e3' : (bare 0).cells.take 0 ++ i.cells ++ (bare 0).cells.drop (0 + 5) = i.cells := rfl
        rw [e3'] at h15
        have h15 : Ow B w15 ((b94, iO i) :: ([(b64, cel [vI f.regs, c] T.t_api_Func)] ++ S ++ (b14, wO o) :: (b2, pgO p v) :: H)) := h15
        refine ldn_here h15 (.head _) (vs := i.cells) rfl rfl ?_
        refine bytes_spec (q2 i him) (ok_ins hk hfm him) h15 (fun Sb vb w16 h16 hob => ?_)
        repeat (first | refine pu_not ?_ | refine pu_eql ?_ | refine pu_neq ?_ | refine pu_lss ?_ | refine pu_leq ?_ | refine pu_gtr ?_ | refine pu_geq ?_ | refine pu_add ?_ | refine pu_sub ?_ | refine fa_at ?_ | refine nl_ptr ?_ | refine ex20 ?_ | refine ex21 ?_ | refine ex30 ?_ | refine ex31 ?_ | refine ex32 ?_ | refine ln_rule ?_ | refine pu_seq ?_ | refine pu_sne ?_)
        refine ld_here h16 (List.mem_append_right _ (.tail _ (List.mem_append_right _ (.head _)))) (v := o) rfl ?_
        have h16 : Ow B w16 ((Sb ++ [(b94, iO i), (b64, cel [vI f.regs, c] T.t_api_Func)]) ++ S ++ (b14, wO o) :: (b2, pgO p v) :: H) := by simpa using h16
        have hbl2 : (bv (insB i)).length = (insB i).length := by simp
        have hwl : (px ++ [f.regs.toNat] ++ fx f.code.length 2 ++ codeB (f.code.take m)).length = px.length + 3 + (codeB (f.code.take m)).length := by
          simp only [List.length_append, fx_len, List.length_singleton] <;> omega
        refine app1 h16 ho hob.sl (fun y hy => List.mem_append_left _ (List.mem_append_left _ (List.mem_append_left _ hy))) (by simp [plainV]) und_slb info_u8 rfl (by rw [hbl2, hwl]; simp only [maxLen]; omega) (by rw [hbl2, hwl]; omega) (fun S' o' w17 h17 ho' => ?_)
        rw [bv_app, hbl2, ← List.length_append] at ho'
        have ho' : Wn S' o' (px ++ [f.regs.toNat] ++ fx f.code.length 2 ++ codeB (f.code.take m) ++ insB i) := ho'
        repeat (first | refine pu_not ?_ | refine pu_eql ?_ | refine pu_neq ?_ | refine pu_lss ?_ | refine pu_leq ?_ | refine pu_gtr ?_ | refine pu_geq ?_ | refine pu_add ?_ | refine pu_sub ?_ | refine fa_at ?_ | refine nl_ptr ?_ | refine ex20 ?_ | refine ex21 ?_ | refine ex30 ?_ | refine ex31 ?_ | refine ex32 ?_ | refine ln_rule ?_ | refine pu_seq ?_ | refine pu_sne ?_)
        refine st1_here h17 ho'.sv.1 ho'.sv.2 (by simp) (fun w18 h18 => ?_)
        repeat (first | refine pu_not ?_ | refine pu_eql ?_ | refine pu_neq ?_ | refine pu_lss ?_ | refine pu_leq ?_ | refine pu_gtr ?_ | refine pu_geq ?_ | refine pu_add ?_ | refine pu_sub ?_ | refine fa_at ?_ | refine nl_ptr ?_ | refine ex20 ?_ | refine ex21 ?_ | refine ex30 ?_ | refine ex31 ?_ | refine ex32 ?_ | refine ln_rule ?_ | refine pu_seq ?_ | refine pu_sne ?_)
        rw [wrapN (by omega)]
        refine ⟨⟨m + 1, S', o', rfl, hlt2, ?_, h18.sub ?_⟩, by simp; omega⟩
        · have : codeB (f.code.take (m + 1)) = codeB (f.code.take m) ++ insB i := by rw [htk2]; simp [codeB]
          rw [this, ← List.append_assoc]; exact ho'
        · have : ([(b64, cel [vI f.regs, c] T.t_api_Func)] ++ S' ++ (b14, wO o') :: (b2, pgO p v) :: H).Sublist (Sb ++ ((b94, iO i) :: ([(b64, cel [vI f.regs, c] T.t_api_Func)] ++ S' ++ (b14, wO o') :: (b2, pgO p v) :: H))) :=
            ((List.Sublist.refl _).cons _).trans (List.sublist_append_right _ _)
          simpa using this
      · obtain rfl : m = f.code.length := by simp at hlt2; omega
        rw [List.take_length] at ho
        repeat (first | refine pu_not ?_ | refine pu_eql ?_ | refine pu_neq ?_ | refine pu_lss ?_ | refine pu_leq ?_ | refine pu_gtr ?_ | refine pu_geq ?_ | refine pu_add ?_ | refine pu_sub ?_ | refine fa_at ?_ | refine nl_ptr ?_ | refine ex20 ?_ | refine ex21 ?_ | refine ex30 ?_ | refine ex31 ?_ | refine ex32 ?_ | refine ln_rule ?_ | refine pu_seq ?_ | refine pu_sne ?_)
        rw [wrapN (by omega)]
        refine ⟨⟨n + 1, S, o, rfl, hlt, ?_, h13.drop⟩, by simp; omega⟩
        have : headB p ++ (p.fs.take (n + 1)).flatMap funB = px ++ [f.regs.toNat] ++ fx f.code.length 2 ++ codeB f.code := by
          rw [htk, List.flatMap_append, ← List.append_assoc, hpx]
          simp [funB]
        rw [this]; exact ho
    · obtain rfl : n = p.fs.length := by simp at hlt; omega
      rw [List.take_length] at ho
      have ho : Wn S o (bareB p) := ho
      repeat (first | refine pu_not ?_ | refine pu_eql ?_ | refine pu_neq ?_ | refine pu_lss ?_ | refine pu_leq ?_ | refine pu_gtr ?_ | refine pu_geq ?_ | refine pu_add ?_ | refine pu_sub ?_ | refine fa_at ?_ | refine nl_ptr ?_ | refine ex20 ?_ | refine ex21 ?_ | refine ex30 ?_ | refine ex31 ?_ | refine ex32 ?_ | refine ln_rule ?_ | refine pu_seq ?_ | refine pu_sne ?_)
      refine ld_here h8 (List.mem_append_right _ (.head _)) (v := o) rfl ?_
      have hos : Sl S o (bv (bareB p)) := Vc.Own.sl ho
      refine bs_rule h8 [o] (bsw1 hos) (fun b117 w9 h9 => ?_)
      refine dof_spec (ls := [bareB p]) h9 ⟨[o], sl_here (l := [o]) (.head _), ⟨hos.mono fun x hx => .tail _ (List.mem_append_left _ hx), bare_byt hk⟩, trivial⟩ (fun y hy => hy) (by simp; omega) (by simp) (fun w10 h10 => ?_)
      have hfl : [bareB p].flatten = bareB p := by simp
      rw [hfl]
      have hsl := sum_lt (bare_byt hk)
      have hsl8 : sum (bareB p) < 256 ^ 8 := Nat.lt_of_lt_of_eq hsl (by decide)
      refine wnum_spec (A := [(b117, cel [o] T.t_sl_uint8)]) (wd := 8) h10 ho hsl8 hsl rfl (by omega) (fun S' o' w11 h11 ho11 => ?_)
      repeat (first | refine pu_not ?_ | refine pu_eql ?_ | refine pu_neq ?_ | refine pu_lss ?_ | refine pu_leq ?_ | refine pu_gtr ?_ | refine pu_geq ?_ | refine pu_add ?_ | refine pu_sub ?_ | refine fa_at ?_ | refine nl_ptr ?_ | refine ex20 ?_ | refine ex21 ?_ | refine ex30 ?_ | refine ex31 ?_ | refine ex32 ?_ | refine ln_rule ?_ | refine pu_seq ?_ | refine pu_sne ?_)
      refine ld_here h11 (List.mem_append_right _ (.head _)) (v := o') rfl ?_
      refine k S' o' _ (h11.sub ?_) ho11
      have : (S' ++ H).Sublist ((b117, cel [o] T.t_sl_uint8) :: (S' ++ ((b14, wO o') :: (b2, pgO p v) :: H))) := .cons _ ((List.Sublist.refl _).append (.cons _ (.cons _ (.refl _))))
      simpa using this
end
end Go.Proofs.YtkkkcafkepnecaaGreat.Im

