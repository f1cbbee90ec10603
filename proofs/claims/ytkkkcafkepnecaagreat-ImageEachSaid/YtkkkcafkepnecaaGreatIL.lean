/- Images: Encode, Len. -/
import Derived.Test.YtkkkcafkepnecaaGreatII
import Derived.Test.YtkkkcafkepnecaaGreatJL

set_option linter.unusedVariables false
set_option linter.unusedSimpArgs false
set_option linter.unnecessarySimpa false
namespace Go.Proofs.YtkkkcafkepnecaaGreat.Im
open Go Go.RowKit Vc Oc Dg
attribute [local irreducible] binV Op.unary convert nlW faW ldS ldW ixS ixA ixV ixT exW lnS lnT pu stW alW opW opU bsW mkW

section
variable {B w : World} {H X : Hp} {K : Value → World → Prop} {PK : List PanicEntry → World → Prop} {p : Pr} {v : Value}
def encR (p : Pr) : List Nat × Int := if okP' p = true then (encB p, 0) else ([], 2)
theorem wn_none : Wn [] nilS [] := own_none _ _
theorem encode_spec (hv : fsIn X v p.fs) (hX : ∀ x, x ∈ X → x ∈ H) (hlen : p.fs.length ≤ 1000) (h : Ow B w H)
    (k : ∀ S out w', Ow B w' (S ++ H) → Wn S out (encR p).1 → K (.tuple #[out, vI (encR p).2]) w') : callW PG N.image_Encode [.agg (p.cells v).toArray] K PK w := by
  refine image_Encode.ok ?_
  unfold image_Encode.C
  have hvp := hv.plain
  have hvc := hv.cells
  refine al_rule h (l := p.cells v) rfl (fun b2 w1 h1 => ?_)
  refine ldn_here h1 (.head _) (vs := p.cells v) rfl rfl ?_
  refine check_spec (p := p) (v := v) hv (fun x hx => .tail _ (hX x hx)) hlen h1 (fun w2 h2 => ?_)
  by_cases hk : okP' p = true
  case neg =>
    have e : encR p = ([], 2) := if_neg hk
    rw [e] at k
    rw [if_neg hk]
    repeat (first | refine pu_not ?_ | refine pu_eql ?_ | refine pu_neq ?_ | refine pu_lss ?_ | refine pu_leq ?_ | refine pu_gtr ?_ | refine pu_geq ?_ | refine pu_add ?_ | refine pu_sub ?_ | refine fa_at ?_ | refine nl_ptr ?_ | refine ex20 ?_ | refine ex21 ?_ | refine ex30 ?_ | refine ex31 ?_ | refine ex32 ?_ | refine ln_rule ?_ | refine pu_seq ?_ | refine pu_sne ?_)
    refine cnd_t rfl ?_
    exact k [] nilS _ h2.drop wn_none
  have e : encR p = (encB p, 0) := if_pos hk
  rw [e] at k
  rw [if_pos hk]
  have hfit := ok_fits hk
  have hbl := bare_len hk
  repeat (first | refine pu_not ?_ | refine pu_eql ?_ | refine pu_neq ?_ | refine pu_lss ?_ | refine pu_leq ?_ | refine pu_gtr ?_ | refine pu_geq ?_ | refine pu_add ?_ | refine pu_sub ?_ | refine fa_at ?_ | refine nl_ptr ?_ | refine ex20 ?_ | refine ex21 ?_ | refine ex30 ?_ | refine ex31 ?_ | refine ex32 ?_ | refine ln_rule ?_ | refine pu_seq ?_ | refine pu_sne ?_)
  refine cnd_f rfl ?_
  refine pu_build [nilS] (by kernel_rfl) ?_
  refine al_rule h2 (l := [nilS]) rfl (fun b14 w3 h3 => ?_)
  refine begins_spec h3 (fun w4 h4 => ?_)
  refine ⟨fun l w => ∃ (n : Nat) (S : Hp) (o : Value), l = [vI n] ∧ n ≤ 4 ∧ Wn S o (magic.take n) ∧ Ow B w ([] ++ S ++ (b14, wO o) :: (b2, pgO p v) :: H), fun l _ => match l with | [.int _ q] => 4 - q.toNat | _ => 0,
    ⟨0, [], nilS, rfl, by omega, wn_none, h4⟩, ?_⟩
  clear h4 h3 h2 h1 h
  rintro l w5 ⟨n, S, o, rfl, hn, ho, h5⟩ j
  simp only [gv, List.getD_cons_zero, List.getD_cons_succ]
  repeat (first | refine pu_not ?_ | refine pu_eql ?_ | refine pu_neq ?_ | refine pu_lss ?_ | refine pu_leq ?_ | refine pu_gtr ?_ | refine pu_geq ?_ | refine pu_add ?_ | refine pu_sub ?_ | refine fa_at ?_ | refine nl_ptr ?_ | refine ex20 ?_ | refine ex21 ?_ | refine ex30 ?_ | refine ex31 ?_ | refine ex32 ?_ | refine ln_rule ?_ | refine pu_seq ?_ | refine pu_sne ?_)
  refine cnd (fun hlt => ?_) (fun hlt => ?_)
  · have hlt : n < 4 := by have := of_decide_eq_true hlt; omega
    have hml : n < magic.length := hlt
    have hmv : ([v8 108, v8 105, v8 110, v8 101] : List Value)[(n : Int).toNat]? = some (v8 magic[n]) := by
      have : ([v8 108, v8 105, v8 110, v8 101] : List Value) = magic.map v8 := rfl
      rw [this, Int.toNat_natCast, List.getElem?_map, List.getElem?_eq_getElem hml]; rfl
    have hc256 : magic[n] < 256 := (by decide : ∀ x ∈ magic, x < 256) _ (List.getElem_mem hml)
    have htk : magic.take (n + 1) = magic.take n ++ [magic[n]] := by rw [List.take_add_one, List.getElem?_eq_getElem hml]; rfl
    have hml2 : (magic.take n).length ≤ 1000000 := by rw [List.length_take]; omega
    generalize magic[n] = c at hmv htk hc256
    refine ixV_rule (l := [v8 108, v8 105, v8 110, v8 101]) (by omega) (by omega) hmv ?_
    refine cvt (by kernel_rfl) und_int (m := (c : Int)) (by rw [wrap64_in (by omega) (by omega)]) ?_
    refine wbyte_spec h5 ho (by omega) (by omega) hml2 (fun S' o' w6 h6 ho6 => ?_)
    repeat (first | refine pu_not ?_ | refine pu_eql ?_ | refine pu_neq ?_ | refine pu_lss ?_ | refine pu_leq ?_ | refine pu_gtr ?_ | refine pu_geq ?_ | refine pu_add ?_ | refine pu_sub ?_ | refine fa_at ?_ | refine nl_ptr ?_ | refine ex20 ?_ | refine ex21 ?_ | refine ex30 ?_ | refine ex31 ?_ | refine ex32 ?_ | refine ln_rule ?_ | refine pu_seq ?_ | refine pu_sne ?_)
    rw [wrapN (by omega)]
    refine ⟨⟨n + 1, S', o', rfl, by omega, ?_, h6⟩, by simp; omega⟩
    rw [htk]; exact ho6
  · obtain rfl : n = 4 := by simp at hlt; omega
    have ho : Wn S o magic := ho
    have m2 : ∀ (Y : Hp) (o : Value), (b2, pgO p v) ∈ Y ++ (b14, wO o) :: (b2, pgO p v) :: H := fun Y o => List.mem_append_right _ (.tail _ (.head _))
    have hXm : ∀ (Y : Hp) (o : Value) x, x ∈ X → x ∈ Y ++ (b14, wO o) :: (b2, pgO p v) :: H := fun Y o x hx => List.mem_append_right _ (.tail _ (.tail _ (hX x hx)))
    repeat (first | refine pu_not ?_ | refine pu_eql ?_ | refine pu_neq ?_ | refine pu_lss ?_ | refine pu_leq ?_ | refine pu_gtr ?_ | refine pu_geq ?_ | refine pu_add ?_ | refine pu_sub ?_ | refine fa_at ?_ | refine nl_ptr ?_ | refine ex20 ?_ | refine ex21 ?_ | refine ex30 ?_ | refine ex31 ?_ | refine ex32 ?_ | refine ln_rule ?_ | refine pu_seq ?_ | refine pu_sne ?_)
    refine ld_here h5 (m2 _ _) (v := vI p.mu) rfl ?_
    repeat (first | refine pu_not ?_ | refine pu_eql ?_ | refine pu_neq ?_ | refine pu_lss ?_ | refine pu_leq ?_ | refine pu_gtr ?_ | refine pu_geq ?_ | refine pu_add ?_ | refine pu_sub ?_ | refine fa_at ?_ | refine nl_ptr ?_ | refine ex20 ?_ | refine ex21 ?_ | refine ex30 ?_ | refine ex31 ?_ | refine ex32 ?_ | refine ln_rule ?_ | refine pu_seq ?_ | refine pu_sne ?_)
    refine ld_here h5 (m2 _ _) (v := vI p.rw) rfl ?_
    repeat (first | refine pu_not ?_ | refine pu_eql ?_ | refine pu_neq ?_ | refine pu_lss ?_ | refine pu_leq ?_ | refine pu_gtr ?_ | refine pu_geq ?_ | refine pu_add ?_ | refine pu_sub ?_ | refine fa_at ?_ | refine nl_ptr ?_ | refine ex20 ?_ | refine ex21 ?_ | refine ex30 ?_ | refine ex31 ?_ | refine ex32 ?_ | refine ln_rule ?_ | refine pu_seq ?_ | refine pu_sne ?_)
    refine ld_here h5 (m2 _ _) (v := vI p.gr) rfl ?_
    repeat (first | refine pu_not ?_ | refine pu_eql ?_ | refine pu_neq ?_ | refine pu_lss ?_ | refine pu_leq ?_ | refine pu_gtr ?_ | refine pu_geq ?_ | refine pu_add ?_ | refine pu_sub ?_ | refine fa_at ?_ | refine nl_ptr ?_ | refine ex20 ?_ | refine ex21 ?_ | refine ex30 ?_ | refine ex31 ?_ | refine ex32 ?_ | refine ln_rule ?_ | refine pu_seq ?_ | refine pu_sne ?_)
    refine ld_here h5 (m2 _ _) (v := v) rfl ?_
    refine hv.ln ?_
    refine bs_rule h5 [vI p.mu, vI p.rw, vI p.gr, vI p.fs.length] (by kernel_rfl) (fun b44 w6 h6 => ?_)
    have h1 := hfit.n; have hmu := hfit.mu; have hrw := hfit.rw; have hgr := hfit.gr
    refine weach_spec (A := [(b44, cel [vI p.mu, vI p.rw, vI p.gr, vI p.fs.length] T.t_int)]) (ns := [p.mu, p.rw, p.gr, p.fs.length]) (sl_here (l := [vI p.mu, vI p.rw, vI p.gr, vI p.fs.length]) (.head _)) h6 ho (by
      intro n hn
      simp only [List.mem_cons, List.not_mem_nil, or_false] at hn
      rcases hn with rfl | rfl | rfl | rfl <;> omega) (by simp [magic]) (fun S' o' w7 h7 ho7 => ?_)
    have hhd : magic ++ [p.mu, p.rw, p.gr, (p.fs.length : Int)].map Int.toNat = headB p := rfl
    rw [hhd] at ho7
    have h7 : Ow B w7 ([] ++ S' ++ (b14, wO o') :: (b2, pgO p v) :: H) := h7.drop
    clear h6 h5 ho hhd
    repeat (first | refine pu_not ?_ | refine pu_eql ?_ | refine pu_neq ?_ | refine pu_lss ?_ | refine pu_leq ?_ | refine pu_gtr ?_ | refine pu_geq ?_ | refine pu_add ?_ | refine pu_sub ?_ | refine fa_at ?_ | refine nl_ptr ?_ | refine ex20 ?_ | refine ex21 ?_ | refine ex30 ?_ | refine ex31 ?_ | refine ex32 ?_ | refine ln_rule ?_ | refine pu_seq ?_ | refine pu_sne ?_)
    refine ld_here h7 (m2 _ _) (v := v) rfl ?_
    refine hv.ln ?_
    obtain ⟨ps, e1, e2, e3⟩ := id hv
    have hpl : ps.length = p.fs.length := by rw [← e1]; simp
    refine ⟨fun l w => ∃ (n : Nat) (S : Hp) (o : Value), l = [vI n] ∧ n ≤ p.fs.length ∧ Wn S o (headB p ++ (p.fs.take n).flatMap funB) ∧ Ow B w ([] ++ S ++ (b14, wO o) :: (b2, pgO p v) :: H), fun l _ => match l with | [.int _ q] => p.fs.length - q.toNat | _ => 0,
      ⟨0, S', o', rfl, Nat.zero_le _, by simpa using ho7, h7⟩, ?_⟩
    clear h7 ho7 hlt hn
    rintro l w8 ⟨n, S, o, rfl, hn, ho, h8⟩ j
    simp only [gv, List.getD_cons_zero, List.getD_cons_succ]
    repeat (first | refine pu_not ?_ | refine pu_eql ?_ | refine pu_neq ?_ | refine pu_lss ?_ | refine pu_leq ?_ | refine pu_gtr ?_ | refine pu_geq ?_ | refine pu_add ?_ | refine pu_sub ?_ | refine fa_at ?_ | refine nl_ptr ?_ | refine ex20 ?_ | refine ex21 ?_ | refine ex30 ?_ | refine ex31 ?_ | refine ex32 ?_ | refine ln_rule ?_ | refine pu_seq ?_ | refine pu_sne ?_)
    refine cnd (fun hlt => ?_) (fun hlt => ?_)
    · have hlt : n < p.fs.length := by simpa using hlt
      obtain ⟨⟨c, f⟩, hq⟩ : ∃ q, ps[n]? = some q := ⟨_, List.getElem?_eq_getElem (by omega)⟩
      have hf : p.fs[n]? = some f := by rw [← e1, List.getElem?_map, hq]; rfl
      have hfm : f ∈ p.fs := List.mem_of_getElem? hf
      obtain ⟨q1, q2⟩ := e3 _ (List.mem_of_getElem? hq)
      simp only at q1 q2
      have hrow : (frows ps)[(n : Int).toNat]? = some [vI f.regs, c] := by rw [Int.toNat_natCast, frows, List.getElem?_map, hq]; rfl
      have htk : p.fs.take (n + 1) = p.fs.take n ++ [f] := by rw [List.take_add_one, hf]; rfl
      have hff := hfit.f f hfm
      -- what is written stays below the whole
      have hpre : (headB p ++ (p.fs.take n).flatMap funB).length + (funB f).length ≤ 300000 := by
        have hsub : (p.fs.take (n + 1)).flatMap funB <+: p.fs.flatMap funB := by
          refine ⟨(p.fs.drop (n + 1)).flatMap funB, ?_⟩
          rw [← List.flatMap_append, List.take_append_drop]
        have hle := hsub.length_le
        rw [htk, List.flatMap_append] at hle
        simp only [bareB, List.length_append, List.flatMap_cons, List.flatMap_nil, List.append_nil] at hle hbl ⊢
        omega
      have hfbl : (funB f).length = 3 + (codeB f.code).length := by simp only [funB, List.length_cons, List.length_append, fx_len]; omega
      generalize hpx : headB p ++ (p.fs.take n).flatMap funB = px at ho hpre
      refine sls_ld h8 (e2.mono (hXm _ _)) (by omega) hrow ?_
      refine al_rule h8 (l := [vI 0, .slice none 0 0]) (by kernel_rfl) (fun b64 w9 h9 => ?_)
      refine st_here (A := []) h9 [vI f.regs, c] rfl rfl (by simp only [List.all_cons, sls_plain q1]; rfl) (by simp) (fun w10 h10 => ?_)
      simp only [List.take_zero, List.nil_append, Nat.zero_add, List.drop_succ_cons, List.drop_zero, List.drop_nil, List.append_nil] at h10
      have h10 : Ow B w10 ([(b64, cel [vI f.regs, c] T.t_api_Func)] ++ S ++ (b14, wO o) :: (b2, pgO p v) :: H) := h10
      repeat (first | refine pu_not ?_ | refine pu_eql ?_ | refine pu_neq ?_ | refine pu_lss ?_ | refine pu_leq ?_ | refine pu_gtr ?_ | refine pu_geq ?_ | refine pu_add ?_ | refine pu_sub ?_ | refine fa_at ?_ | refine nl_ptr ?_ | refine ex20 ?_ | refine ex21 ?_ | refine ex30 ?_ | refine ex31 ?_ | refine ex32 ?_ | refine ln_rule ?_ | refine pu_seq ?_ | refine pu_sne ?_)
      refine ld_here h10 (.head _) (v := vI f.regs) rfl ?_
      refine wbyte_spec h10 ho (by omega) (by omega) (by omega) (fun S1 o1 w11 h11 ho11 => ?_)
      repeat (first | refine pu_not ?_ | refine pu_eql ?_ | refine pu_neq ?_ | refine pu_lss ?_ | refine pu_leq ?_ | refine pu_gtr ?_ | refine pu_geq ?_ | refine pu_add ?_ | refine pu_sub ?_ | refine fa_at ?_ | refine nl_ptr ?_ | refine ex20 ?_ | refine ex21 ?_ | refine ex30 ?_ | refine ex31 ?_ | refine ex32 ?_ | refine ln_rule ?_ | refine pu_seq ?_ | refine pu_sne ?_)
      refine ld_here h11 (.head _) (v := c) rfl ?_
      refine sls_ln q1 ?_
      rw [icode_len]
      refine cvt_iu (by omega) (by omega) ?_
      rw [Int.toNat_natCast]
      refine wnum_spec (wd := 2) h11 ho11 (by omega) (by omega) rfl (by rw [List.length_append, List.length_singleton]; omega) (fun S2 o2 w12 h12 ho12 => ?_)
      repeat (first | refine pu_not ?_ | refine pu_eql ?_ | refine pu_neq ?_ | refine pu_lss ?_ | refine pu_leq ?_ | refine pu_gtr ?_ | refine pu_geq ?_ | refine pu_add ?_ | refine pu_sub ?_ | refine fa_at ?_ | refine nl_ptr ?_ | refine ex20 ?_ | refine ex21 ?_ | refine ex30 ?_ | refine ex31 ?_ | refine ex32 ?_ | refine ln_rule ?_ | refine pu_seq ?_ | refine pu_sne ?_)
      refine ld_here h12 (.head _) (v := c) rfl ?_
      refine sls_ln q1 ?_
      rw [icode_len]
      refine ⟨fun l w => ∃ (m : Nat) (S : Hp) (o : Value), l = [vI m] ∧ m ≤ f.code.length ∧ Wn S o (px ++ [f.regs.toNat] ++ fx f.code.length 2 ++ codeB (f.code.take m)) ∧ Ow B w ([(b64, cel [vI f.regs, c] T.t_api_Func)] ++ S ++ (b14, wO o) :: (b2, pgO p v) :: H),
        fun l _ => match l with | [.int _ q] => f.code.length - q.toNat | _ => 0, ⟨0, S2, o2, rfl, Nat.zero_le _, by simpa [codeB] using ho12, h12⟩, ?_⟩
      clear h12 h11 h10 h9 h8 ho ho11 ho12
      rintro l w13 ⟨m, S, o, rfl, hm, ho, h13⟩ j
      simp only [gv, List.getD_cons_zero, List.getD_cons_succ]
      repeat (first | refine pu_not ?_ | refine pu_eql ?_ | refine pu_neq ?_ | refine pu_lss ?_ | refine pu_leq ?_ | refine pu_gtr ?_ | refine pu_geq ?_ | refine pu_add ?_ | refine pu_sub ?_ | refine fa_at ?_ | refine nl_ptr ?_ | refine ex20 ?_ | refine ex21 ?_ | refine ex30 ?_ | refine ex31 ?_ | refine ex32 ?_ | refine ln_rule ?_ | refine pu_seq ?_ | refine pu_sne ?_)
      refine cnd (fun hlt2 => ?_) (fun hlt2 => ?_)
      · have hlt2 : m < f.code.length := by simpa using hlt2
        obtain ⟨i, hi⟩ : ∃ i, f.code[m]? = some i := ⟨_, List.getElem?_eq_getElem hlt2⟩
        have him : i ∈ f.code := List.mem_of_getElem? hi
        have htk2 : f.code.take (m + 1) = f.code.take m ++ [i] := by rw [List.take_add_one, hi]; rfl
        have hle : (codeB (f.code.take m)).length + (insB i).length ≤ (codeB f.code).length := by
          have hsub : codeB (f.code.take (m + 1)) <+: codeB f.code := by
            refine ⟨codeB (f.code.drop (m + 1)), ?_⟩
            unfold codeB
            rw [← List.flatMap_append, List.take_append_drop]
          have := hsub.length_le
          rw [htk2] at this
          simpa [codeB] using this
        have hil := insB_len i
        refine sls_ld h13 (q1.mono (hXm _ _)) (by omega) (code_at hi) ?_
        refine al_rule h13 (l := (bare 0).cells) (by kernel_rfl) (fun b94 w14 h14 => ?_)
        refine st_here (A := []) h14 i.cells rfl rfl (ins_plain _) (by simp [Ins.cells, bare]) (fun w15 h15 => ?_)
        have e3' : (bare 0).cells.take 0 ++ i.cells ++ (bare 0).cells.drop (0 + 5) = i.cells := rfl
        rw [e3'] at h15
        have h15 : Ow B w15 ((b94, iO i) :: ([(b64, cel [vI f.regs, c] T.t_api_Func)] ++ S ++ (b14, wO o) :: (b2, pgO p v) :: H)) := h15
        refine ldn_here h15 (.head _) (vs := i.cells) rfl rfl ?_
        refine bytes_spec (q2 i him) (ok_ins hk hfm him) h15 (fun Sb vb w16 h16 hob => ?_)
        repeat (first | refine pu_not ?_ | refine pu_eql ?_ | refine pu_neq ?_ | refine pu_lss ?_ | refine pu_leq ?_ | refine pu_gtr ?_ | refine pu_geq ?_ | refine pu_add ?_ | refine pu_sub ?_ | refine fa_at ?_ | refine nl_ptr ?_ | refine ex20 ?_ | refine ex21 ?_ | refine ex30 ?_ | refine ex31 ?_ | refine ex32 ?_ | refine ln_rule ?_ | refine pu_seq ?_ | refine pu_sne ?_)
        refine ld_here h16 (List.mem_append_right _ (.tail _ (List.mem_append_right _ (.head _)))) (v := o) rfl ?_
        have h16 : Ow B w16 ((Sb ++ [(b94, iO i), (b64, cel [vI f.regs, c] T.t_api_Func)]) ++ S ++ (b14, wO o) :: (b2, pgO p v) :: H) := by simpa using h16
        have hbl2 : (bv (insB i)).length = (insB i).length := by simp
        have hwl : (px ++ [f.regs.toNat] ++ fx f.code.length 2 ++ codeB (f.code.take m)).length = px.length + 3 + (codeB (f.code.take m)).length := by
          simp only [List.length_append, fx_len, List.length_singleton] <;> omega
        refine app1 h16 ho hob.sl (fun y hy => List.mem_append_left _ (List.mem_append_left _ (List.mem_append_left _ hy))) (by simp [plainV]) und_slb info_u8 rfl (by rw [hbl2, hwl]; simp only [maxLen]; omega) (by rw [hbl2, hwl]; omega) (fun S' o' w17 h17 ho' => ?_)
        rw [bv_app, hbl2, ← List.length_append] at ho'
        have ho' : Wn S' o' (px ++ [f.regs.toNat] ++ fx f.code.length 2 ++ codeB (f.code.take m) ++ insB i) := ho'
        repeat (first | refine pu_not ?_ | refine pu_eql ?_ | refine pu_neq ?_ | refine pu_lss ?_ | refine pu_leq ?_ | refine pu_gtr ?_ | refine pu_geq ?_ | refine pu_add ?_ | refine pu_sub ?_ | refine fa_at ?_ | refine nl_ptr ?_ | refine ex20 ?_ | refine ex21 ?_ | refine ex30 ?_ | refine ex31 ?_ | refine ex32 ?_ | refine ln_rule ?_ | refine pu_seq ?_ | refine pu_sne ?_)
        refine st1_here h17 ho'.sv.1 ho'.sv.2 (by simp) (fun w18 h18 => ?_)
        repeat (first | refine pu_not ?_ | refine pu_eql ?_ | refine pu_neq ?_ | refine pu_lss ?_ | refine pu_leq ?_ | refine pu_gtr ?_ | refine pu_geq ?_ | refine pu_add ?_ | refine pu_sub ?_ | refine fa_at ?_ | refine nl_ptr ?_ | refine ex20 ?_ | refine ex21 ?_ | refine ex30 ?_ | refine ex31 ?_ | refine ex32 ?_ | refine ln_rule ?_ | refine pu_seq ?_ | refine pu_sne ?_)
        rw [wrapN (by omega)]
        refine ⟨⟨m + 1, S', o', rfl, hlt2, ?_, h18.sub ?_⟩, by simp; omega⟩
        · have : codeB (f.code.take (m + 1)) = codeB (f.code.take m) ++ insB i := by rw [htk2]; simp [codeB]
          rw [this, ← List.append_assoc]; exact ho'
        · have : ([(b64, cel [vI f.regs, c] T.t_api_Func)] ++ S' ++ (b14, wO o') :: (b2, pgO p v) :: H).Sublist (Sb ++ ((b94, iO i) :: ([(b64, cel [vI f.regs, c] T.t_api_Func)] ++ S' ++ (b14, wO o') :: (b2, pgO p v) :: H))) :=
            ((List.Sublist.refl _).cons _).trans (List.sublist_append_right _ _)
          simpa using this
      · obtain rfl : m = f.code.length := by simp at hlt2; omega
        rw [List.take_length] at ho
        repeat (first | refine pu_not ?_ | refine pu_eql ?_ | refine pu_neq ?_ | refine pu_lss ?_ | refine pu_leq ?_ | refine pu_gtr ?_ | refine pu_geq ?_ | refine pu_add ?_ | refine pu_sub ?_ | refine fa_at ?_ | refine nl_ptr ?_ | refine ex20 ?_ | refine ex21 ?_ | refine ex30 ?_ | refine ex31 ?_ | refine ex32 ?_ | refine ln_rule ?_ | refine pu_seq ?_ | refine pu_sne ?_)
        rw [wrapN (by omega)]
        refine ⟨⟨n + 1, S, o, rfl, hlt, ?_, h13.drop⟩, by simp; omega⟩
        have : headB p ++ (p.fs.take (n + 1)).flatMap funB = px ++ [f.regs.toNat] ++ fx f.code.length 2 ++ codeB f.code := by
          rw [htk, List.flatMap_append, ← List.append_assoc, hpx]
          simp [funB]
        rw [this]; exact ho
    · obtain rfl : n = p.fs.length := by simp at hlt; omega
      rw [List.take_length] at ho
      have ho : Wn S o (bareB p) := ho
      repeat (first | refine pu_not ?_ | refine pu_eql ?_ | refine pu_neq ?_ | refine pu_lss ?_ | refine pu_leq ?_ | refine pu_gtr ?_ | refine pu_geq ?_ | refine pu_add ?_ | refine pu_sub ?_ | refine fa_at ?_ | refine nl_ptr ?_ | refine ex20 ?_ | refine ex21 ?_ | refine ex30 ?_ | refine ex31 ?_ | refine ex32 ?_ | refine ln_rule ?_ | refine pu_seq ?_ | refine pu_sne ?_)
      refine ld_here h8 (List.mem_append_right _ (.head _)) (v := o) rfl ?_
      have hos : Sl S o (bv (bareB p)) := Vc.Own.sl ho
      refine bs_rule h8 [o] (bsw1 hos) (fun b117 w9 h9 => ?_)
      refine dof_spec (ls := [bareB p]) h9 ⟨[o], sl_here (l := [o]) (.head _), ⟨hos.mono fun x hx => .tail _ (List.mem_append_left _ hx), bare_byt hk⟩, trivial⟩ (fun y hy => hy) (by simp; omega) (by simp) (fun w10 h10 => ?_)
      have hfl : [bareB p].flatten = bareB p := by simp
      rw [hfl]
      have hsl := sum_lt (bare_byt hk)
      have hsl8 : sum (bareB p) < 256 ^ 8 := Nat.lt_of_lt_of_eq hsl (by decide)
      refine wnum_spec (A := [(b117, cel [o] T.t_sl_uint8)]) (wd := 8) h10 ho hsl8 hsl rfl (by omega) (fun S' o' w11 h11 ho11 => ?_)
      repeat (first | refine pu_not ?_ | refine pu_eql ?_ | refine pu_neq ?_ | refine pu_lss ?_ | refine pu_leq ?_ | refine pu_gtr ?_ | refine pu_geq ?_ | refine pu_add ?_ | refine pu_sub ?_ | refine fa_at ?_ | refine nl_ptr ?_ | refine ex20 ?_ | refine ex21 ?_ | refine ex30 ?_ | refine ex31 ?_ | refine ex32 ?_ | refine ln_rule ?_ | refine pu_seq ?_ | refine pu_sne ?_)
      refine ld_here h11 (List.mem_append_right _ (.head _)) (v := o') rfl ?_
      refine k S' o' _ (h11.sub ?_) ho11
      have : (S' ++ H).Sublist ((b117, cel [o] T.t_sl_uint8) :: (S' ++ ((b14, wO o') :: (b2, pgO p v) :: H))) := .cons _ ((List.Sublist.refl _).append (.cons _ (.cons _ (.refl _))))
      simpa using this
end
end Go.Proofs.YtkkkcafkepnecaaGreat.Im

/-! Images, plain: what is written is read back; an image in which a byte is changed is none. -/
set_option linter.unusedVariables false
set_option linter.unusedSimpArgs false
set_option linter.unnecessarySimpa false
namespace Go.Proofs.YtkkkcafkepnecaaGreat.Im
open Go Go.RowKit Vc Oc Dg

section
variable {l rest X : List Nat} {a : Nat} {i : Ins} {p : Pr}
theorem drop_len (h : l.drop a = X ++ rest) (hX : 1 ≤ X.length) : a + X.length ≤ l.length := by
  have := congrArg List.length h
  rw [List.length_drop, List.length_append] at this
  omega
theorem num_of {wd : Nat} (h : l.drop a = X ++ rest) (hX : X.length = wd) (hw : 1 ≤ wd) : num l a wd = .ok (val X) ∧ l.drop (a + wd) = rest := by
  have hl := drop_len h (by omega)
  rw [num_ok (by omega), h, List.take_left' hX]
  refine ⟨rfl, ?_⟩
  rw [← List.drop_drop, h, List.drop_left' hX]
theorem rdP_of (hi : i.Sm) : ∀ (ps : List Pk) (x : Ins) (a : Nat), l.drop a = ps.flatMap (partB i) ++ rest → rdP l ps x a = some (puts i ps x, a + (ps.flatMap (partB i)).length)
  | [], x, a, h => rfl
  | p :: ps, x, a, h => by
    rw [List.flatMap_cons, List.append_assoc] at h
    have hpl := partB_len i p
    have hpw := pw_pos p
    have hl := drop_len h (by omega)
    have ht : (l.drop a).take (pw p) = partB i p := by rw [h, List.take_left' hpl]
    have hd : l.drop (a + pw p) = ps.flatMap (partB i) ++ rest := by rw [← List.drop_drop, h, List.drop_left' hpl]
    unfold rdP
    rw [if_pos (by omega), ht]
    have hv : ((val (partB i p) : Nat) : Int) = p.get i := by
      unfold partB
      rw [val_fx _ _ (part_lt hi p), Int.toNat_of_nonneg (get_small hi p).1]
    rw [hv, rdP_of hi ps _ _ hd, List.flatMap_cons, List.length_append, hpl, Nat.add_assoc]
    rfl
theorem insR_of (hu : 0 ≤ i.imm ∧ i.imm < 4294967296) (hk : okI i = true) (h : l = insB i ++ rest) : insR l = (i, (insB i).length, 0) := by
  have hop := ok_op hk
  have hsm := ok_sm hu hk
  have ho : val (l.take 1) = i.op.toNat := by rw [h]; simp [insB, val]
  have hc : ((i.op.toNat : Nat) : Int) = i.op := Int.toNat_of_nonneg (by omega)
  have hl1 : 1 ≤ l.length := by rw [h, List.length_append]; have := insB_pos i; omega
  have hd : l.drop 1 = (nmd i.op).flatMap (partB i) ++ rest := by rw [h]; simp [insB]
  have hp : puts i (nmd i.op) (bare i.op) = i := by
    unfold okI at hk
    simp only [Bool.and_eq_true, decide_eq_true_eq] at hk
    exact hk.1.2
  unfold insR
  rw [if_neg (by omega), ho, if_neg (by omega), hc, rdP_of hsm _ _ _ hd, hp]
  simp only [if_pos hk]
  rw [show (insB i).length = 1 + ((nmd i.op).flatMap (partB i)).length by simp [insB]; omega]
theorem rins_of (hu : 0 ≤ i.imm ∧ i.imm < 4294967296) (hk : okI i = true) (h : l.drop a = insB i ++ rest) : rins l a = .ok (i, a + (insB i).length) ∧ l.drop (a + (insB i).length) = rest := by
  unfold rins
  rw [insR_of hu hk h, if_pos rfl]
  exact ⟨rfl, by rw [← List.drop_drop, h, List.drop_left]⟩
theorem rcode_of {k : List Ins → Nat → Out} : ∀ (c : List Ins) (a : Nat) (acc : List Ins), immOk c → (∀ i ∈ c, okI i = true) → l.drop a = codeB c ++ rest → rcode l k c.length a acc = k (acc ++ c) (a + (codeB c).length) ∧ l.drop (a + (codeB c).length) = rest
  | [], a, acc, _, _, h => by simpa [rcode, codeB] using h
  | i :: c, a, acc, hm, hk, h => by
    have e : codeB (i :: c) = insB i ++ codeB c := by simp [codeB]
    rw [e, List.append_assoc] at h
    obtain ⟨h1, h2⟩ := rins_of (hm i (.head _)) (hk i (.head _)) h
    obtain ⟨h3, h4⟩ := rcode_of (k := k) c _ (acc ++ [i]) (fun j hj => hm j (.tail _ hj)) (fun j hj => hk j (.tail _ hj)) h2
    rw [e, List.length_append, ← Nat.add_assoc]
    refine ⟨?_, h4⟩
    show rcode l k (c.length + 1) a acc = _
    unfold rcode
    rw [h1, andE_ok, h3]
    simp
structure FOk (f : Fun) : Prop where
  r : 0 ≤ f.regs ∧ f.regs < 256
  n : f.code.length < 65536
  m : immOk f.code
  k : ∀ i ∈ f.code, okI i = true
theorem rfuns_of {k : List Fun → Nat → Out} : ∀ (fs : List Fun) (a : Nat) (acc : List Fun), (∀ f ∈ fs, FOk f) → l.drop a = fs.flatMap funB ++ rest → rfuns l k fs.length a acc = k (acc ++ fs) (a + (fs.flatMap funB).length) ∧ l.drop (a + (fs.flatMap funB).length) = rest
  | [], a, acc, _, h => by simpa [rfuns] using h
  | f :: fs, a, acc, hk, h => by
    have hf := hk f (.head _)
    have hr := hf.r
    have hn := hf.n
    have h0 : l.drop a = [f.regs.toNat] ++ (fx f.code.length 2 ++ (codeB f.code ++ (fs.flatMap funB ++ rest))) := by rw [h]; simp [funB]
    obtain ⟨n1, d1⟩ := num_of h0 (wd := 1) rfl (by omega)
    obtain ⟨n2, d2⟩ := num_of d1 (wd := 2) (fx_len _ _) (by omega)
    have v1 : val [f.regs.toNat] = f.regs.toNat := by simp [val]
    have v2 : val (fx f.code.length 2) = f.code.length := val_fx _ _ (by omega)
    rw [v1] at n1
    rw [v2] at n2
    obtain ⟨c1, c2⟩ := rcode_of (k := fun c a' => rfuns l k fs.length a' (acc ++ [⟨f.regs.toNat, c⟩])) f.code (a + 1 + 2) [] hf.m hf.k d2
    obtain ⟨r1, r2⟩ := rfuns_of (k := k) fs _ (acc ++ [f]) (fun g hg => hk g (.tail _ hg)) c2
    have e : a + ((f :: fs).flatMap funB).length = a + 1 + 2 + (codeB f.code).length + (fs.flatMap funB).length := by
      simp only [List.flatMap_cons, List.length_append, funB, List.length_cons, fx_len]; omega
    rw [e]
    refine ⟨?_, r2⟩
    show rfuns l k (fs.length + 1) a acc = _
    unfold rfuns
    have hfe : (⟨(f.regs.toNat : Int), [] ++ f.code⟩ : Fun) = f := by
      rw [Int.toNat_of_nonneg hr.1]; rfl
    rw [n1, andE_ok, n2, andE_ok, c1, hfe, r1]
    simp
theorem fok (hm : ∀ f ∈ p.fs, immOk f.code) (h : okP' p = true) : ∀ f ∈ p.fs, FOk f := fun f hf => by
  have := (ok_fits h).f f hf
  exact ⟨by omega, by omega, hm f hf, fun i hi => ok_ins h hf hi⟩
theorem rmag_of {k : Nat → Out} : ∀ (cs : List Nat) (a : Nat), l.drop a = cs ++ rest → rmag l k cs a = k (a + cs.length) ∧ l.drop (a + cs.length) = rest
  | [], a, h => ⟨rfl, h⟩
  | c :: cs, a, h => by
    obtain ⟨n1, d1⟩ := num_of (X := [c]) h (wd := 1) rfl (by omega)
    have v1 : val [c] = c := by simp [val]
    rw [v1] at n1
    obtain ⟨m1, m2⟩ := rmag_of (k := k) cs (a + 1) d1
    have e : a + (c :: cs).length = a + 1 + cs.length := by rw [List.length_cons]; omega
    rw [e]
    refine ⟨?_, m2⟩
    unfold rmag
    rw [n1, andE_ok, if_pos rfl, m1]
/-- What is written is read back, whatever stands behind. -/
theorem progR_enc (hm : ∀ f ∈ p.fs, immOk f.code) (h : okP' p = true) (rest : List Nat) : progR (encB p ++ rest) = .ok (p, (encB p).length) := by
  generalize hl : encB p ++ rest = l
  have hf := ok_fits h
  have h1 := hf.n; have h2 := hf.mu; have h3 := hf.rw; have h4 := hf.gr
  have d0 : l.drop 0 = magic ++ ([p.mu.toNat] ++ ([p.rw.toNat] ++ ([p.gr.toNat] ++ ([p.fs.length] ++ (p.fs.flatMap funB ++ (fx (sum (bareB p)) 8 ++ rest)))))) := by
    rw [← hl]; simp [encB, bareB, headB]
  obtain ⟨m1, d1⟩ := rmag_of (k := rbody l) magic 0 d0
  have v : ∀ n, val [n] = n := fun n => by simp [val]
  obtain ⟨n1, d2⟩ := num_of d1 (wd := 1) rfl (by omega)
  obtain ⟨n2, d3⟩ := num_of d2 (wd := 1) rfl (by omega)
  obtain ⟨n3, d4⟩ := num_of d3 (wd := 1) rfl (by omega)
  obtain ⟨n4, d5⟩ := num_of d4 (wd := 1) rfl (by omega)
  rw [v] at n1 n2 n3 n4
  obtain ⟨r1, d6⟩ := rfuns_of (k := fin l p.mu.toNat p.rw.toNat p.gr.toNat) p.fs _ [] (fok hm h) d5
  obtain ⟨n5, _⟩ := num_of d6 (wd := 8) (fx_len _ _) (by omega)
  have hs : val (fx (sum (bareB p)) 8) = sum (bareB p) := val_fx _ _ (Nat.lt_of_lt_of_eq (sum_lt (bare_byt h)) (by decide))
  rw [hs] at n5
  generalize hA : 0 + magic.length + 1 + 1 + 1 + 1 + (p.fs.flatMap funB).length = A at r1 n5 d6
  have hAl : A = (bareB p).length := by
    rw [← hA]; simp only [bareB, headB, magic, List.length_append, List.length_cons, List.length_nil]
  have htk : l.take A = bareB p := by
    rw [hAl, ← hl, encB, List.append_assoc, List.take_left]
  have hpe : (⟨[] ++ p.fs, (p.mu.toNat : Int), (p.rw.toNat : Int), (p.gr.toNat : Int)⟩ : Pr) = p := by
    rw [Int.toNat_of_nonneg h2.1, Int.toNat_of_nonneg h3.1, Int.toNat_of_nonneg h4.1]; rfl
  unfold progR
  rw [m1]
  unfold rbody
  rw [n1, andE_ok, n2, andE_ok, n3, andE_ok, n4, andE_ok, r1]
  unfold fin
  rw [n5, andE_ok, htk, hpe, if_pos ⟨rfl, h⟩, hAl]
  simp [encB, fx_len]
theorem decR_enc (hm : ∀ f ∈ p.fs, immOk f.code) (h : okP' p = true) : decR (encB p) = (p, 0) := by
  have := progR_enc hm h []
  rw [List.append_nil] at this
  unfold decR
  rw [this]
  simp
/-! ### A byte is changed -/
theorem val_inj : ∀ {x y : List Nat}, Byt x → Byt y → x.length = y.length → val x = val y → x = y
  | [], [], _, _, _, _ => rfl
  | c :: x, d :: y, hx, hy, hl, h => by
    have hc := hx c (.head _)
    have hd := hy d (.head _)
    simp only [val] at h
    have h1 : c = d := by omega
    have h2 : val x = val y := by omega
    rw [h1, val_inj (fun z hz => hx z (.tail _ hz)) (fun z hz => hy z (.tail _ hz)) (by simpa using hl) h2]
  | [], _ :: _, _, _, hl, _ => by simp at hl
  | _ :: _, [], _, _, hl, _ => by simp at hl
end
end Go.Proofs.YtkkkcafkepnecaaGreat.Im

/-! Images: the chapter's rows; programs that are not too large. -/
set_option linter.unusedVariables false
set_option linter.unusedSimpArgs false
set_option linter.unnecessarySimpa false
namespace Go.Proofs.YtkkkcafkepnecaaGreat.Im
open Go Go.RowKit Vc Oc Dg
theorem pu_sadd {P : Program} {t : TypeId} {c : Bool} {x y : ByteArray} {KK : Value → Prop} (hs : (x.size : Int) + y.size ≤ 9223372036854775807) (k : KK (.string (x ++ y))) : pu P (binV .add t c (.string x) (.string y)) KK := ⟨_, binV_run rfl (fun w => by simp [binOp, Op.stringOp, Sem.run_pure, hs]), k⟩
attribute [local irreducible] binV Op.unary convert nlW faW ldS ldW ixS ixA ixV ixT exW lnS lnT pu stW alW opW opU bsW mkW

section
variable {B w : World} {H X : Hp} {K : Value → World → Prop} {PK : List PanicEntry → World → Prop} {p : Pr} {v : Value}
theorem bs_app (a b : List Nat) : bs a ++ bs b = bs (a ++ b) := by
  apply ByteArray.ext
  simp [bs]
def pI : Ins := ⟨9, 0, 0, 0, 0⟩
def pF : Fun := ⟨1, [pI]⟩
def pP : Pr := ⟨[pF], 1, 0, 0⟩
def bareW : List Nat := [108, 105, 110, 101, 1, 0, 0, 1, 1, 1, 0, 9, 0]
theorem pP_ok : okP' pP = true := by decide +kernel
theorem pP_bare : bareB pP = bareW := by decide +kernel
theorem pP_d1 : (decR bareW).2 = 110 := by decide +kernel
theorem pP_d2 : (decR (bareW ++ [0, 0, 0, 0, 0, 0, 0, 0])).2 = 200 := by decide +kernel
theorem pP_d3 : (decR [108, 105, 110, 102]).2 = 200 := by decide +kernel
theorem num10 {x : Value} (k : K x w) : callW PG N.linesmanlaw10_num [x] K PK w := by
  refine linesmanlaw10_num.ok ?_
  unfold linesmanlaw10_num.C
  exact k
theorem works_spec (h : Ow B w H) (k : ∀ w', Ow B w' H → K (vB true) w') : callW PG N.linesmanlaw10_works [] K PK w := by
  refine linesmanlaw10_works.ok ?_
  unfold linesmanlaw10_works.C
  have hbW : Byt bareW := show ∀ x ∈ bareW, x < 256 by decide
  have hbZ : Byt (bareW ++ [0, 0, 0, 0, 0, 0, 0, 0]) := show ∀ x ∈ bareW ++ [0, 0, 0, 0, 0, 0, 0, 0], x < 256 by decide
  have hbF : Byt [108, 105, 110, 102] := show ∀ x ∈ [108, 105, 110, 102], x < 256 by decide
  refine pu_build pI.cells (by kernel_rfl) ?_
  refine bs_rule h pI.cells (by kernel_rfl) (fun b1 w1 h1 => ?_)
  refine pu_build [vI 1, .slice (some ⟨b1, 0, none⟩) 1 1] (by kernel_rfl) ?_
  refine bs_rule h1 [vI 1, .slice (some ⟨b1, 0, none⟩) 1 1] (by kernel_rfl) (fun b2 w2 h2 => ?_)
  refine pu_build (pP.cells (.slice (some ⟨b2, 0, none⟩) 1 1)) (by kernel_rfl) ?_
  refine al_rule h2 (l := p0.cells nilS) (by kernel_rfl) (fun b3 w3 h3 => ?_)
  refine st_here (A := []) h3 (pP.cells (.slice (some ⟨b2, 0, none⟩) 1 1)) rfl rfl rfl (by simp [Pr.cells]) (fun w4 h4 => ?_)
  have e4 : (p0.cells nilS).take 0 ++ pP.cells (.slice (some ⟨b2, 0, none⟩) 1 1) ++ (p0.cells nilS).drop (0 + 4) = pP.cells (.slice (some ⟨b2, 0, none⟩) 1 1) := rfl
  rw [e4] at h4
  refine ldn_here h4 (.head _) (vs := pP.cells (.slice (some ⟨b2, 0, none⟩) 1 1)) rfl rfl ?_
  have hv : fsIn ([(b2, cel [vI 1, .slice (some ⟨b1, 0, none⟩) 1 1] T.t_api_Func), (b1, cel pI.cells T.t_api_Ins)]) (.slice (some ⟨b2, 0, none⟩) 1 1) pP.fs :=
    ⟨[(.slice (some ⟨b1, 0, none⟩) 1 1, pF)], rfl, sls_blk (rows := [[vI 1, .slice (some ⟨b1, 0, none⟩) 1 1]]) (fun x hx => by rw [List.mem_singleton.1 hx]; rfl) (by simp [maxLen]) (.head _),
      fun q hq => by
        rw [List.mem_singleton.1 hq]
        exact ⟨sls_blk (rows := [pI.cells]) (fun x hx => by rw [List.mem_singleton.1 hx]; rfl) (by simp [maxLen]) (.tail _ (.head _)), fun i hi => by rw [List.mem_singleton.1 hi]; decide⟩⟩
  refine encode_spec hv (fun x hx => by
    rcases List.mem_cons.1 hx with rfl | hx
    · exact .tail _ (.head _)
    · rw [List.mem_singleton.1 hx]; exact .tail _ (.tail _ (.head _))) (by simp [pP]) h4 (fun S out w5 h5 ho => ?_)
  have e5 : encR pP = (encB pP, 0) := if_pos pP_ok
  rw [e5] at ho ⊢
  have h5 : Ow B w5 (S ++ H) := h5.sub ((List.Sublist.refl S).append ((((List.Sublist.refl H).cons _).cons _).cons _))
  clear h4 h3 h2 h1 h
  repeat (first | refine pu_not ?_ | refine pu_eql ?_ | refine pu_neq ?_ | refine pu_lss ?_ | refine pu_leq ?_ | refine pu_gtr ?_ | refine pu_geq ?_ | refine pu_add ?_ | refine pu_sub ?_ | refine fa_at ?_ | refine nl_ptr ?_ | refine ex20 ?_ | refine ex21 ?_ | refine ex30 ?_ | refine ex31 ?_ | refine ex32 ?_ | refine ln_rule ?_ | refine pu_seq ?_ | refine pu_sne ?_)
  refine cv_s2b h5 und_slb und_str und_u8 (fun b6 o6 v6 w6 h6 hs6 => ?_)
  have hb13 : ([108, 105, 110, 101, 1, 0, 0, 1, 1, 1, 0, 9, 0] : List Nat) = bareW := rfl
  rw [hb13, tb_bs hbW] at hs6
  refine decode_spec (l := bareW) hs6 (fun x hx => by rw [List.mem_singleton.1 hx]; exact .head _) hbW (by simp [bareW]) h6 (fun F1 v1 w7 hF1 _ h7 => ?_)
  obtain ⟨a1, a2, a3, hv1⟩ := cp_sl hF1
  repeat (first | refine pu_not ?_ | refine pu_eql ?_ | refine pu_neq ?_ | refine pu_lss ?_ | refine pu_leq ?_ | refine pu_gtr ?_ | refine pu_geq ?_ | refine pu_add ?_ | refine pu_sub ?_ | refine fa_at ?_ | refine nl_ptr ?_ | refine ex20 ?_ | refine ex21 ?_ | refine ex30 ?_ | refine ex31 ?_ | refine ex32 ?_ | refine ln_rule ?_ | refine pu_seq ?_ | refine pu_sne ?_)
  refine al_rule h7 (l := p0.cells nilS) (by kernel_rfl) (fun b8 w8 h8 => ?_)
  refine st_here (A := []) h8 ((decR bareW).1.cells v1) rfl rfl (cells_plain _ (by rw [hv1]; rfl)) (by simp [Pr.cells]) (fun w9 h9 => ?_)
  have h9 : Ow B w9 (S ++ H) := h9.sub (((List.Sublist.refl (S ++ H)).cons _).trans ((List.sublist_append_right F1 _).cons _))
  rw [pP_d1]
  refine pu_sadd (by rw [bs_size, bs_size]; simp) ?_
  rw [bs_app]
  refine cv_s2b h9 und_slb und_str und_u8 (fun b10 o10 v10 w10 h10 hs10 => ?_)
  have hz : ([108, 105, 110, 101, 1, 0, 0, 1, 1, 1, 0, 9, 0] ++ [0, 0, 0, 0, 0, 0, 0, 0] : List Nat) = bareW ++ [0, 0, 0, 0, 0, 0, 0, 0] := rfl
  rw [hz, tb_bs hbZ] at hs10
  refine decode_spec (l := bareW ++ [0, 0, 0, 0, 0, 0, 0, 0]) hs10 (fun x hx => by rw [List.mem_singleton.1 hx]; exact .head _) hbZ (by simp [bareW]) h10 (fun F2 v2 w11 hF2 _ h11 => ?_)
  obtain ⟨a1, a2, a3, hv2⟩ := cp_sl hF2
  repeat (first | refine pu_not ?_ | refine pu_eql ?_ | refine pu_neq ?_ | refine pu_lss ?_ | refine pu_leq ?_ | refine pu_gtr ?_ | refine pu_geq ?_ | refine pu_add ?_ | refine pu_sub ?_ | refine fa_at ?_ | refine nl_ptr ?_ | refine ex20 ?_ | refine ex21 ?_ | refine ex30 ?_ | refine ex31 ?_ | refine ex32 ?_ | refine ln_rule ?_ | refine pu_seq ?_ | refine pu_sne ?_)
  refine al_rule h11 (l := p0.cells nilS) (by kernel_rfl) (fun b12 w12 h12 => ?_)
  refine st_here (A := []) h12 ((decR (bareW ++ [0, 0, 0, 0, 0, 0, 0, 0])).1.cells v2) rfl rfl (cells_plain _ (by rw [hv2]; rfl)) (by simp [Pr.cells]) (fun w13 h13 => ?_)
  have h13 : Ow B w13 (S ++ H) := h13.sub (((List.Sublist.refl (S ++ H)).cons _).trans ((List.sublist_append_right F2 _).cons _))
  rw [pP_d2]
  refine bs_const (l := bv [108, 105, 110, 102]) h13 und_slb und_u8 (by kernel_rfl) rfl (fun b14 o14 v14 w14 h14 hs14 => ?_)
  refine decode_spec (l := [108, 105, 110, 102]) hs14 (fun x hx => by rw [List.mem_singleton.1 hx]; exact .head _) hbF (by simp) h14 (fun F3 v3 w15 hF3 _ h15 => ?_)
  obtain ⟨a1, a2, a3, hv3⟩ := cp_sl hF3
  repeat (first | refine pu_not ?_ | refine pu_eql ?_ | refine pu_neq ?_ | refine pu_lss ?_ | refine pu_leq ?_ | refine pu_gtr ?_ | refine pu_geq ?_ | refine pu_add ?_ | refine pu_sub ?_ | refine fa_at ?_ | refine nl_ptr ?_ | refine ex20 ?_ | refine ex21 ?_ | refine ex30 ?_ | refine ex31 ?_ | refine ex32 ?_ | refine ln_rule ?_ | refine pu_seq ?_ | refine pu_sne ?_)
  refine al_rule h15 (l := p0.cells nilS) (by kernel_rfl) (fun b16 w16 h16 => ?_)
  refine st_here (A := []) h16 ((decR [108, 105, 110, 102]).1.cells v3) rfl rfl (cells_plain _ (by rw [hv3]; rfl)) (by simp [Pr.cells]) (fun w17 h17 => ?_)
  have h17 : Ow B w17 (S ++ H) := h17.sub (((List.Sublist.refl (S ++ H)).cons _).trans ((List.sublist_append_right F3 _).cons _))
  rw [pP_d3]
  refine num10 ?_
  repeat (first | refine pu_not ?_ | refine pu_eql ?_ | refine pu_neq ?_ | refine pu_lss ?_ | refine pu_leq ?_ | refine pu_gtr ?_ | refine pu_geq ?_ | refine pu_add ?_ | refine pu_sub ?_ | refine fa_at ?_ | refine nl_ptr ?_ | refine ex20 ?_ | refine ex21 ?_ | refine ex30 ?_ | refine ex31 ?_ | refine ex32 ?_ | refine ln_rule ?_ | refine pu_seq ?_ | refine pu_sne ?_)
  refine cnd_t rfl ?_
  have hos : Sl S out (bv (encB pP)) := Vc.Own.sl ho
  refine sl_ln hos ?_
  have hel : (bv (encB pP)).length = 21 := by rw [List.length_map, encB, List.length_append, fx_len, pP_bare]; rfl
  rw [hel]
  repeat (first | refine pu_not ?_ | refine pu_eql ?_ | refine pu_neq ?_ | refine pu_lss ?_ | refine pu_leq ?_ | refine pu_gtr ?_ | refine pu_geq ?_ | refine pu_add ?_ | refine pu_sub ?_ | refine fa_at ?_ | refine nl_ptr ?_ | refine ex20 ?_ | refine ex21 ?_ | refine ex30 ?_ | refine ex31 ?_ | refine ex32 ?_ | refine ln_rule ?_ | refine pu_seq ?_ | refine pu_sne ?_)
  refine cnd_t rfl ?_
  refine cutH (h := 13) hos (by omega) (by omega) (fun c hc => ?_)
  have hcut := sl_cut (l := 0) (h := 13) (m := c) (hos.mono fun x hx => List.mem_append_left H hx) (by omega) (by omega) (by omega)
  rw [List.drop_zero, ← List.map_take] at hcut
  have htk : (encB pP).take 13 = bareW := by
    have : (13 : Nat) = (bareB pP).length := by rw [pP_bare]; rfl
    rw [encB, this, List.take_left, pP_bare]
  rw [htk] at hcut
  refine strOf h17 hcut ?_
  repeat (first | refine pu_not ?_ | refine pu_eql ?_ | refine pu_neq ?_ | refine pu_lss ?_ | refine pu_leq ?_ | refine pu_gtr ?_ | refine pu_geq ?_ | refine pu_add ?_ | refine pu_sub ?_ | refine fa_at ?_ | refine nl_ptr ?_ | refine ex20 ?_ | refine ex21 ?_ | refine ex30 ?_ | refine ex31 ?_ | refine ex32 ?_ | refine ln_rule ?_ | refine pu_seq ?_ | refine pu_sne ?_)
  rw [seqT' (x := bs bareW) (y := bs [108, 105, 110, 101, 1, 0, 0, 1, 1, 1, 0, 9, 0]) rfl]
  refine cnd_t rfl ?_
  refine num10 ?_
  repeat (first | refine pu_not ?_ | refine pu_eql ?_ | refine pu_neq ?_ | refine pu_lss ?_ | refine pu_leq ?_ | refine pu_gtr ?_ | refine pu_geq ?_ | refine pu_add ?_ | refine pu_sub ?_ | refine fa_at ?_ | refine nl_ptr ?_ | refine ex20 ?_ | refine ex21 ?_ | refine ex30 ?_ | refine ex31 ?_ | refine ex32 ?_ | refine ln_rule ?_ | refine pu_seq ?_ | refine pu_sne ?_)
  refine cnd_t rfl ?_
  refine num10 ?_
  repeat (first | refine pu_not ?_ | refine pu_eql ?_ | refine pu_neq ?_ | refine pu_lss ?_ | refine pu_leq ?_ | refine pu_gtr ?_ | refine pu_geq ?_ | refine pu_add ?_ | refine pu_sub ?_ | refine fa_at ?_ | refine nl_ptr ?_ | refine ex20 ?_ | refine ex21 ?_ | refine ex30 ?_ | refine ex31 ?_ | refine ex32 ?_ | refine ln_rule ?_ | refine pu_seq ?_ | refine pu_sne ?_)
  refine cnd_t rfl ?_
  refine num10 ?_
  repeat (first | refine pu_not ?_ | refine pu_eql ?_ | refine pu_neq ?_ | refine pu_lss ?_ | refine pu_leq ?_ | refine pu_gtr ?_ | refine pu_geq ?_ | refine pu_add ?_ | refine pu_sub ?_ | refine fa_at ?_ | refine nl_ptr ?_ | refine ex20 ?_ | refine ex21 ?_ | refine ex30 ?_ | refine ex31 ?_ | refine ex32 ?_ | refine ln_rule ?_ | refine pu_seq ?_ | refine pu_sne ?_)
  exact k _ (h17.sub (List.sublist_append_right S H))
theorem few_spec (hv : fsIn X v p.fs) (hX : ∀ x, x ∈ X → x ∈ H) (h : Ow B w H) (k : ∀ r w', Ow B w' H → (r = true → p.fs.length ≤ 40) → K (vB r) w') : callW PG N.linesmanlaw10_few [.agg (p.cells v).toArray] K PK w := by
  refine linesmanlaw10_few.ok ?_
  unfold linesmanlaw10_few.C
  obtain ⟨ps, e1, e2, e3⟩ := id hv
  have hpl : ps.length = p.fs.length := by rw [← e1]; simp
  have hml := e2.max
  have hfr : (frows ps).length = p.fs.length := by simp [frows, hpl]
  rw [hfr] at hml
  refine al_rule h (l := p.cells v) rfl (fun b2 w1 h1 => ?_)
  refine ⟨fun l w => ∃ (m : Int) (i : Nat), l = [vI m, vI i] ∧ i ≤ p.fs.length ∧ i ≤ 40 ∧ Ow B w ((b2, pgO p v) :: H), fun l _ => match l with | [_, .int _ q] => p.fs.length - q.toNat | _ => 0, ⟨0, 0, rfl, by omega, by omega, h1⟩, ?_⟩
  clear h1
  rintro l w2 ⟨m, i, rfl, hi, hi40, h2⟩ j
  simp only [gv, List.getD_cons_zero, List.getD_cons_succ]
  repeat (first | refine pu_not ?_ | refine pu_eql ?_ | refine pu_neq ?_ | refine pu_lss ?_ | refine pu_leq ?_ | refine pu_gtr ?_ | refine pu_geq ?_ | refine pu_add ?_ | refine pu_sub ?_ | refine fa_at ?_ | refine nl_ptr ?_ | refine ex20 ?_ | refine ex21 ?_ | refine ex30 ?_ | refine ex31 ?_ | refine ex32 ?_ | refine ln_rule ?_ | refine pu_seq ?_ | refine pu_sne ?_)
  refine ld_here h2 (.head _) (v := v) rfl ?_
  refine hv.ln ?_
  repeat (first | refine pu_not ?_ | refine pu_eql ?_ | refine pu_neq ?_ | refine pu_lss ?_ | refine pu_leq ?_ | refine pu_gtr ?_ | refine pu_geq ?_ | refine pu_add ?_ | refine pu_sub ?_ | refine fa_at ?_ | refine nl_ptr ?_ | refine ex20 ?_ | refine ex21 ?_ | refine ex30 ?_ | refine ex31 ?_ | refine ex32 ?_ | refine ln_rule ?_ | refine pu_seq ?_ | refine pu_sne ?_)
  refine cnd (fun hlt => ?_) (fun hlt => ?_)
  · have hlt : i < p.fs.length := by simpa using hlt
    repeat (first | refine pu_not ?_ | refine pu_eql ?_ | refine pu_neq ?_ | refine pu_lss ?_ | refine pu_leq ?_ | refine pu_gtr ?_ | refine pu_geq ?_ | refine pu_add ?_ | refine pu_sub ?_ | refine fa_at ?_ | refine nl_ptr ?_ | refine ex20 ?_ | refine ex21 ?_ | refine ex30 ?_ | refine ex31 ?_ | refine ex32 ?_ | refine ln_rule ?_ | refine pu_seq ?_ | refine pu_sne ?_)
    refine cnd (fun hlt2 => ?_) (fun hlt2 => ?_)
    · have hlt2 : i < 40 := by have := of_decide_eq_true hlt2; omega
      obtain ⟨⟨c, f⟩, hq⟩ : ∃ q, ps[i]? = some q := ⟨_, List.getElem?_eq_getElem (by omega)⟩
      obtain ⟨q1, q2⟩ := e3 _ (List.mem_of_getElem? hq)
      simp only at q1 q2
      have hrow : (frows ps)[(i : Int).toNat]? = some [vI f.regs, c] := by rw [Int.toNat_natCast, frows, List.getElem?_map, hq]; rfl
      repeat (first | refine pu_not ?_ | refine pu_eql ?_ | refine pu_neq ?_ | refine pu_lss ?_ | refine pu_leq ?_ | refine pu_gtr ?_ | refine pu_geq ?_ | refine pu_add ?_ | refine pu_sub ?_ | refine fa_at ?_ | refine nl_ptr ?_ | refine ex20 ?_ | refine ex21 ?_ | refine ex30 ?_ | refine ex31 ?_ | refine ex32 ?_ | refine ln_rule ?_ | refine pu_seq ?_ | refine pu_sne ?_)
      refine ld_here h2 (.head _) (v := v) rfl ?_
      refine sls_fld (j := 1) (x := [vI f.regs, c]) (v := c) h2 (e2.mono fun x hx => .tail _ (hX x hx)) (by omega) hrow rfl ?_
      refine sls_ln q1 ?_
      repeat (first | refine pu_not ?_ | refine pu_eql ?_ | refine pu_neq ?_ | refine pu_lss ?_ | refine pu_leq ?_ | refine pu_gtr ?_ | refine pu_geq ?_ | refine pu_add ?_ | refine pu_sub ?_ | refine fa_at ?_ | refine nl_ptr ?_ | refine ex20 ?_ | refine ex21 ?_ | refine ex30 ?_ | refine ex31 ?_ | refine ex32 ?_ | refine ln_rule ?_ | refine pu_seq ?_ | refine pu_sne ?_)
      rw [wrapN (by omega)]
      exact ⟨⟨_, i + 1, rfl, hlt, by omega, h2⟩, by simp; omega⟩
    · repeat (first | refine pu_not ?_ | refine pu_eql ?_ | refine pu_neq ?_ | refine pu_lss ?_ | refine pu_leq ?_ | refine pu_gtr ?_ | refine pu_geq ?_ | refine pu_add ?_ | refine pu_sub ?_ | refine fa_at ?_ | refine nl_ptr ?_ | refine ex20 ?_ | refine ex21 ?_ | refine ex30 ?_ | refine ex31 ?_ | refine ex32 ?_ | refine ln_rule ?_ | refine pu_seq ?_ | refine pu_sne ?_)
      refine ld_here h2 (.head _) (v := v) rfl ?_
      refine hv.ln ?_
      repeat (first | refine pu_not ?_ | refine pu_eql ?_ | refine pu_neq ?_ | refine pu_lss ?_ | refine pu_leq ?_ | refine pu_gtr ?_ | refine pu_geq ?_ | refine pu_add ?_ | refine pu_sub ?_ | refine fa_at ?_ | refine nl_ptr ?_ | refine ex20 ?_ | refine ex21 ?_ | refine ex30 ?_ | refine ex31 ?_ | refine ex32 ?_ | refine ln_rule ?_ | refine pu_seq ?_ | refine pu_sne ?_)
      refine cnd (fun hq => ?_) (fun hq => ?_)
      · have hq : p.fs.length ≤ 40 := by have := of_decide_eq_true hq; omega
        repeat (first | refine pu_not ?_ | refine pu_eql ?_ | refine pu_neq ?_ | refine pu_lss ?_ | refine pu_leq ?_ | refine pu_gtr ?_ | refine pu_geq ?_ | refine pu_add ?_ | refine pu_sub ?_ | refine fa_at ?_ | refine nl_ptr ?_ | refine ex20 ?_ | refine ex21 ?_ | refine ex30 ?_ | refine ex31 ?_ | refine ex32 ?_ | refine ln_rule ?_ | refine pu_seq ?_ | refine pu_sne ?_)
        exact k _ _ h2.drop (fun _ => hq)
      · exact k false _ h2.drop (fun hh => by cases hh)
  · repeat (first | refine pu_not ?_ | refine pu_eql ?_ | refine pu_neq ?_ | refine pu_lss ?_ | refine pu_leq ?_ | refine pu_gtr ?_ | refine pu_geq ?_ | refine pu_add ?_ | refine pu_sub ?_ | refine fa_at ?_ | refine nl_ptr ?_ | refine ex20 ?_ | refine ex21 ?_ | refine ex30 ?_ | refine ex31 ?_ | refine ex32 ?_ | refine ln_rule ?_ | refine pu_seq ?_ | refine pu_sne ?_)
    refine ld_here h2 (.head _) (v := v) rfl ?_
    refine hv.ln ?_
    repeat (first | refine pu_not ?_ | refine pu_eql ?_ | refine pu_neq ?_ | refine pu_lss ?_ | refine pu_leq ?_ | refine pu_gtr ?_ | refine pu_geq ?_ | refine pu_add ?_ | refine pu_sub ?_ | refine fa_at ?_ | refine nl_ptr ?_ | refine ex20 ?_ | refine ex21 ?_ | refine ex30 ?_ | refine ex31 ?_ | refine ex32 ?_ | refine ln_rule ?_ | refine pu_seq ?_ | refine pu_sne ?_)
    refine cnd (fun hq => ?_) (fun hq => ?_)
    · have hq : p.fs.length ≤ 40 := by have := of_decide_eq_true hq; omega
      repeat (first | refine pu_not ?_ | refine pu_eql ?_ | refine pu_neq ?_ | refine pu_lss ?_ | refine pu_leq ?_ | refine pu_gtr ?_ | refine pu_geq ?_ | refine pu_add ?_ | refine pu_sub ?_ | refine fa_at ?_ | refine nl_ptr ?_ | refine ex20 ?_ | refine ex21 ?_ | refine ex30 ?_ | refine ex31 ?_ | refine ex32 ?_ | refine ln_rule ?_ | refine pu_seq ?_ | refine pu_sne ?_)
      exact k _ _ h2.drop (fun _ => hq)
    · exact k false _ h2.drop (fun hh => by cases hh)
end
end Go.Proofs.YtkkkcafkepnecaaGreat.Im

