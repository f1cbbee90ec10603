/- Images: the document's Sealed, Bare, Encode. -/
import Derived.Test.YtkkkcafkepnecaaGreatIO
import Derived.Test.YtkkkcafkepnecaaGreatID
import Derived.Test.YtkkkcafkepnecaaGreatZS
import Derived.Test.YtkkkcafkepnecaaGreatJP

set_option linter.unusedVariables false
set_option linter.unusedSimpArgs false
set_option linter.unnecessarySimpa false
namespace Go.Proofs.YtkkkcafkepnecaaGreat.Im
open Go Go.RowKit Vc Oc Dg
attribute [local irreducible] binV Op.unary convert nlW faW ldS ldW ixS ixA ixV ixT exW lnS lnT pu stW alW opW opU bsW mkW

section
variable {B w : World} {H C X : Hp} {K KW : Value → World → Prop} {KK : Value → Prop} {PK : List PanicEntry → World → Prop} {S : Hp} {s v : Value} {xs l : List Nat} {p : Pr}
theorem fxR_of {n wd : Nat} (hw : right wd = true) (hn : n < 256 ^ wd) : fxR n wd = (fx n wd, 0) := by
  unfold fxR
  rw [if_neg (by rw [hw]; simp), Int.toNat_natCast, if_pos hn]
theorem sealed_spec (hs : Sl X s (bv l)) (hX : ∀ x, x ∈ X → x ∈ H) (hb : Byt l) (hl : l.length ≤ 900000) (h : Ow B w H) (k : ∀ S v w', Ow B w' (S ++ H) → Wn S v (l ++ fx (sum l) 8) → K v w') : callW PG N.linesmanref10_Sealed [s] K PK w := by
  refine linesmanref10_Sealed.ok ?_
  unfold linesmanref10_Sealed.C
  refine rof_spec h (hs.mono hX) hb (by omega) (fun w1 h1 => ?_)
  have hsl := sum_lt hb
  refine rfixed_spec (x := 8) h1 hsl (fun Sf vf w2 h2 hof => ?_)
  have e : fxR (sum l) 8 = (fx (sum l) 8, 0) := fxR_of (wd := 8) rfl (Nat.lt_of_lt_of_eq hsl (by decide))
  rw [e] at hof ⊢
  repeat (first | refine pu_not ?_ | refine pu_eql ?_ | refine pu_neq ?_ | refine pu_lss ?_ | refine pu_leq ?_ | refine pu_gtr ?_ | refine pu_geq ?_ | refine pu_add ?_ | refine pu_sub ?_ | refine fa_at ?_ | refine nl_ptr ?_ | refine ex20 ?_ | refine ex21 ?_ | refine ex30 ?_ | refine ex31 ?_ | refine ex32 ?_ | refine ln_rule ?_ | refine pu_seq ?_ | refine pu_sne ?_)
  have hfl : (fx (sum l) 8).length = 8 := fx_len _ _
  refine app2 h2 hs (fun x hx => List.mem_append_right _ (hX x hx)) (Vc.Own.sl hof) (fun x hx => List.mem_append_left _ hx) (by omega) (by rw [hfl]; omega) (fun S z w3 h3 ho => ?_)
  refine k S z _ (h3.sub ((List.Sublist.refl S).append (List.sublist_append_right _ _))) ho
theorem bare_spec (hv : fsIn X v p.fs) (hX : ∀ x, x ∈ X → x ∈ H) (hk : okP' p = true) (h : Ow B w H) (k : ∀ S o w', Ow B w' (S ++ H) → Wn S o (bareB p) → K o w') : callW PG N.linesmanref10_Bare [.agg (p.cells v).toArray] K PK w := by
  refine linesmanref10_Bare.ok ?_
  unfold linesmanref10_Bare.C
  have hfit := ok_fits hk
  have hbl := bare_len hk
  have h1 := hfit.n; have hmu := hfit.mu; have hrw := hfit.rw; have hgr := hfit.gr
  refine al_rule h (l := p.cells v) rfl (fun b2 w h => ?_)
  refine fld_byte (n := p.mu) h (.head _) rfl (by omega) (by omega) ?_
  refine fld_byte (n := p.rw) h (.head _) rfl (by omega) (by omega) ?_
  refine fld_byte (n := p.gr) h (.head _) rfl (by omega) (by omega) ?_
  repeat (first | refine pu_not ?_ | refine pu_eql ?_ | refine pu_neq ?_ | refine pu_lss ?_ | refine pu_leq ?_ | refine pu_gtr ?_ | refine pu_geq ?_ | refine pu_add ?_ | refine pu_sub ?_ | refine fa_at ?_ | refine nl_ptr ?_ | refine ex20 ?_ | refine ex21 ?_ | refine ex30 ?_ | refine ex31 ?_ | refine ex32 ?_ | refine ln_rule ?_ | refine pu_seq ?_ | refine pu_sne ?_)
  refine ld_here h (.head _) (v := v) rfl ?_
  refine hv.ln ?_
  refine cvt (by kernel_rfl) und_u8 (m := (p.fs.length : Int)) (by rw [wrapu8]; omega) ?_
  refine bs_rule h (bv (headB p)) (by unfold headB magic; kernel_rfl) (fun b18 w h => ?_)
  have hho : Wn [(b18, cel (bv (headB p)) T.t_uint8)] (.slice (some ⟨b18, 0, none⟩) 8 8) (headB p) := Own.mk (Nat.le_refl _) (by simp [maxLen]) rfl rfl
  obtain ⟨ps, e1, e2, e3⟩ := id hv
  have hpl : ps.length = p.fs.length := by rw [← e1]; simp
  have hXm : ∀ (Y : Hp) x, x ∈ X → x ∈ Y ++ (b2, pgO p v) :: H := fun Y x hx => List.mem_append_right _ (.tail _ (hX x hx))
  refine ⟨fun l w => ∃ (n : Nat) (S : Hp) (o : Value), l = [o, vI n] ∧ n ≤ p.fs.length ∧ Wn S o (headB p ++ (p.fs.take n).flatMap funB) ∧ Ow B w (S ++ (b2, pgO p v) :: H), fun l _ => match l with | [_, .int _ q] => p.fs.length - q.toNat | _ => 0,
    ⟨0, _, _, rfl, Nat.zero_le _, by simpa using hho, h⟩, ?_⟩
  clear h hho
  rintro l w8 ⟨n, S, o, rfl, hn, ho, h8⟩ j
  simp only [gv, List.getD_cons_zero, List.getD_cons_succ]
  repeat (first | refine pu_not ?_ | refine pu_eql ?_ | refine pu_neq ?_ | refine pu_lss ?_ | refine pu_leq ?_ | refine pu_gtr ?_ | refine pu_geq ?_ | refine pu_add ?_ | refine pu_sub ?_ | refine fa_at ?_ | refine nl_ptr ?_ | refine ex20 ?_ | refine ex21 ?_ | refine ex30 ?_ | refine ex31 ?_ | refine ex32 ?_ | refine ln_rule ?_ | refine pu_seq ?_ | refine pu_sne ?_)
  refine ld_here h8 (List.mem_append_right _ (.head _)) (v := v) rfl ?_
  refine hv.ln ?_
  repeat (first | refine pu_not ?_ | refine pu_eql ?_ | refine pu_neq ?_ | refine pu_lss ?_ | refine pu_leq ?_ | refine pu_gtr ?_ | refine pu_geq ?_ | refine pu_add ?_ | refine pu_sub ?_ | refine fa_at ?_ | refine nl_ptr ?_ | refine ex20 ?_ | refine ex21 ?_ | refine ex30 ?_ | refine ex31 ?_ | refine ex32 ?_ | refine ln_rule ?_ | refine pu_seq ?_ | refine pu_sne ?_)
  refine cnd (fun hlt => ?_) (fun hlt => ?_)
  · have hlt : n < p.fs.length := by simpa using hlt
    obtain ⟨⟨c, f⟩, hq⟩ : ∃ q, ps[n]? = some q := ⟨_, List.getElem?_eq_getElem (by omega)⟩
    have hf : p.fs[n]? = some f := by rw [← e1, List.getElem?_map, hq]; rfl
    have hfm : f ∈ p.fs := List.mem_of_getElem? hf
    obtain ⟨q1, q2⟩ := e3 _ (List.mem_of_getElem? hq)
    simp only at q1 q2
    have hrow : (frows ps)[(n : Int).toNat]? = some [vI f.regs, c] := by rw [Int.toNat_natCast, frows, List.getElem?_map, hq]; rfl
    have htk : p.fs.take (n + 1) = p.fs.take n ++ [f] := by rw [List.take_add_one, hf]; rfl
    have hff := hfit.f f hfm
    have hpre : (headB p ++ (p.fs.take n).flatMap funB).length + (funB f).length ≤ 300000 := by
      have hsub : (p.fs.take (n + 1)).flatMap funB <+: p.fs.flatMap funB := by
        refine ⟨(p.fs.drop (n + 1)).flatMap funB, ?_⟩
        rw [← List.flatMap_append, List.take_append_drop]
      have hle := hsub.length_le
      rw [htk, List.flatMap_append] at hle
      simp only [bareB, List.length_append, List.flatMap_cons, List.flatMap_nil, List.append_nil] at hle hbl ⊢
      omega
    have hfbl : (funB f).length = 3 + (codeB f.code).length := by simp only [funB, List.length_cons, List.length_append, fx_len]; omega
    generalize hpx : headB p ++ (p.fs.take n).flatMap funB = px at ho hpre
    repeat (first | refine pu_not ?_ | refine pu_eql ?_ | refine pu_neq ?_ | refine pu_lss ?_ | refine pu_leq ?_ | refine pu_gtr ?_ | refine pu_geq ?_ | refine pu_add ?_ | refine pu_sub ?_ | refine fa_at ?_ | refine nl_ptr ?_ | refine ex20 ?_ | refine ex21 ?_ | refine ex30 ?_ | refine ex31 ?_ | refine ex32 ?_ | refine ln_rule ?_ | refine pu_seq ?_ | refine pu_sne ?_)
    refine ld_here h8 (List.mem_append_right _ (.head _)) (v := v) rfl ?_
    refine sls_ld h8 (e2.mono (hXm _)) (by omega) hrow ?_
    refine al_rule h8 (l := [vI 0, .slice none 0 0]) (by kernel_rfl) (fun b64 w9 h9 => ?_)
    refine st_here (A := []) h9 [vI f.regs, c] rfl rfl (by simp only [List.all_cons, sls_plain q1]; rfl) (by simp) (fun w10 h10 => ?_)
    simp only [List.take_zero, List.nil_append, Nat.zero_add, List.drop_succ_cons, List.drop_zero, List.drop_nil, List.append_nil] at h10
    repeat (first | refine pu_not ?_ | refine pu_eql ?_ | refine pu_neq ?_ | refine pu_lss ?_ | refine pu_leq ?_ | refine pu_gtr ?_ | refine pu_geq ?_ | refine pu_add ?_ | refine pu_sub ?_ | refine fa_at ?_ | refine nl_ptr ?_ | refine ex20 ?_ | refine ex21 ?_ | refine ex30 ?_ | refine ex31 ?_ | refine ex32 ?_ | refine ln_rule ?_ | refine pu_seq ?_ | refine pu_sne ?_)
    refine ld_here h10 (.head _) (v := c) rfl ?_
    refine sls_ln q1 ?_
    rw [icode_len]
    refine cvt_iu (by omega) (by omega) ?_
    rw [Int.toNat_natCast]
    refine rfixed_spec (x := 2) h10 (by omega) (fun Sf vf w11 h11 hof => ?_)
    have e : fxR f.code.length 2 = (fx f.code.length 2, 0) := fxR_of (wd := 2) rfl (by omega)
    rw [e] at hof ⊢
    repeat (first | refine pu_not ?_ | refine pu_eql ?_ | refine pu_neq ?_ | refine pu_lss ?_ | refine pu_leq ?_ | refine pu_gtr ?_ | refine pu_geq ?_ | refine pu_add ?_ | refine pu_sub ?_ | refine fa_at ?_ | refine nl_ptr ?_ | refine ex20 ?_ | refine ex21 ?_ | refine ex30 ?_ | refine ex31 ?_ | refine ex32 ?_ | refine ln_rule ?_ | refine pu_seq ?_ | refine pu_sne ?_)
    refine ld_here h11 (List.mem_append_right _ (.head _)) (v := vI f.regs) rfl ?_
    refine cvt (by kernel_rfl) und_u8 (m := (f.regs.toNat : Int)) (by rw [wrapu8]; omega) ?_
    have hC : Ow B w11 (S ++ (Sf ++ ((b64, cel [vI f.regs, c] T.t_api_Func) :: (b2, pgO p v) :: H))) := by
      refine h11.perm ?_
      refine (List.Perm.append_left Sf (List.perm_middle.symm : ((b64, cel [vI f.regs, c] T.t_api_Func) :: (S ++ (b2, pgO p v) :: H)).Perm (S ++ (b64, cel [vI f.regs, c] T.t_api_Func) :: (b2, pgO p v) :: H))).trans ?_
      exact List.perm_append_comm_assoc Sf S _
    refine by_app hC ho (by omega) (fun S1 o1 w12 h12 ho12 => ?_)
    refine sl_app (ys := fx f.code.length 2) h12 ho12 (Vc.Own.sl hof) (fun x hx => List.mem_append_right _ (List.mem_append_left _ hx)) (by rw [List.length_append, List.length_singleton, fx_len]; omega) (fun S2 o2 w13 h13 ho13 => ?_)
    have h13 : Ow B w13 (S2 ++ ((b64, cel [vI f.regs, c] T.t_api_Func) :: (b2, pgO p v) :: H)) := h13.sub ((List.Sublist.refl S2).append (List.sublist_append_right _ _))
    refine ⟨fun l w => ∃ (m : Nat) (S : Hp) (o : Value), l = [o, vI m] ∧ m ≤ f.code.length ∧ Wn S o (px ++ [f.regs.toNat] ++ fx f.code.length 2 ++ codeB (f.code.take m)) ∧ Ow B w (S ++ ((b64, cel [vI f.regs, c] T.t_api_Func) :: (b2, pgO p v) :: H)),
      fun l _ => match l with | [_, .int _ q] => f.code.length - q.toNat | _ => 0, ⟨0, S2, o2, rfl, Nat.zero_le _, by simpa [codeB] using ho13, h13⟩, ?_⟩
    clear h13 h12 hC h11 h10 h9 h8 ho ho12 ho13
    rintro l w13 ⟨m, S, o, rfl, hm, ho, h13⟩ j
    simp only [gv, List.getD_cons_zero, List.getD_cons_succ]
    repeat (first | refine pu_not ?_ | refine pu_eql ?_ | refine pu_neq ?_ | refine pu_lss ?_ | refine pu_leq ?_ | refine pu_gtr ?_ | refine pu_geq ?_ | refine pu_add ?_ | refine pu_sub ?_ | refine fa_at ?_ | refine nl_ptr ?_ | refine ex20 ?_ | refine ex21 ?_ | refine ex30 ?_ | refine ex31 ?_ | refine ex32 ?_ | refine ln_rule ?_ | refine pu_seq ?_ | refine pu_sne ?_)
    refine ld_here h13 (List.mem_append_right _ (.head _)) (v := c) rfl ?_
    refine sls_ln q1 ?_
    rw [icode_len]
    repeat (first | refine pu_not ?_ | refine pu_eql ?_ | refine pu_neq ?_ | refine pu_lss ?_ | refine pu_leq ?_ | refine pu_gtr ?_ | refine pu_geq ?_ | refine pu_add ?_ | refine pu_sub ?_ | refine fa_at ?_ | refine nl_ptr ?_ | refine ex20 ?_ | refine ex21 ?_ | refine ex30 ?_ | refine ex31 ?_ | refine ex32 ?_ | refine ln_rule ?_ | refine pu_seq ?_ | refine pu_sne ?_)
    refine cnd (fun hlt2 => ?_) (fun hlt2 => ?_)
    · have hlt2 : m < f.code.length := by simpa using hlt2
      obtain ⟨i, hi⟩ : ∃ i, f.code[m]? = some i := ⟨_, List.getElem?_eq_getElem hlt2⟩
      have him : i ∈ f.code := List.mem_of_getElem? hi
      have htk2 : f.code.take (m + 1) = f.code.take m ++ [i] := by rw [List.take_add_one, hi]; rfl
      have hle : (codeB (f.code.take m)).length + (insB i).length ≤ (codeB f.code).length := by
        have hsub : codeB (f.code.take (m + 1)) <+: codeB f.code := by
          refine ⟨codeB (f.code.drop (m + 1)), ?_⟩
          unfold codeB
          rw [← List.flatMap_append, List.take_append_drop]
        have := hsub.length_le
        rw [htk2] at this
        simpa [codeB] using this
      repeat (first | refine pu_not ?_ | refine pu_eql ?_ | refine pu_neq ?_ | refine pu_lss ?_ | refine pu_leq ?_ | refine pu_gtr ?_ | refine pu_geq ?_ | refine pu_add ?_ | refine pu_sub ?_ | refine fa_at ?_ | refine nl_ptr ?_ | refine ex20 ?_ | refine ex21 ?_ | refine ex30 ?_ | refine ex31 ?_ | refine ex32 ?_ | refine ln_rule ?_ | refine pu_seq ?_ | refine pu_sne ?_)
      refine ld_here h13 (List.mem_append_right _ (.head _)) (v := c) rfl ?_
      refine sls_ld h13 (q1.mono fun x hx => List.mem_append_right _ (.tail _ (.tail _ (hX x hx)))) (by omega) (code_at hi) ?_
      refine bytes08_spec (ok_op (ok_ins hk hfm him)) (ok_sm (q2 i him) (ok_ins hk hfm him)) h13 (fun Sb vb w14 h14 hob => ?_)
      have hwl : (px ++ [f.regs.toNat] ++ fx f.code.length 2 ++ codeB (f.code.take m)).length = px.length + 3 + (codeB (f.code.take m)).length := by
        simp only [List.length_append, fx_len, List.length_singleton] <;> omega
      have h14 : Ow B w14 (S ++ (Sb ++ ((b64, cel [vI f.regs, c] T.t_api_Func) :: (b2, pgO p v) :: H))) := h14.perm (List.perm_append_comm_assoc Sb S _)
      refine sl_app (ys := insB i) h14 ho (Vc.Own.sl hob) (fun x hx => List.mem_append_right _ (List.mem_append_left _ hx)) (by rw [hwl]; omega) (fun S3 o3 w15 h15 ho15 => ?_)
      repeat (first | refine pu_not ?_ | refine pu_eql ?_ | refine pu_neq ?_ | refine pu_lss ?_ | refine pu_leq ?_ | refine pu_gtr ?_ | refine pu_geq ?_ | refine pu_add ?_ | refine pu_sub ?_ | refine fa_at ?_ | refine nl_ptr ?_ | refine ex20 ?_ | refine ex21 ?_ | refine ex30 ?_ | refine ex31 ?_ | refine ex32 ?_ | refine ln_rule ?_ | refine pu_seq ?_ | refine pu_sne ?_)
      rw [wrapN (by omega)]
      refine ⟨⟨m + 1, S3, o3, rfl, hlt2, ?_, h15.sub ((List.Sublist.refl S3).append (List.sublist_append_right _ _))⟩, by simp; omega⟩
      have : codeB (f.code.take (m + 1)) = codeB (f.code.take m) ++ insB i := by rw [htk2]; simp [codeB]
      rw [this, ← List.append_assoc]; exact ho15
    · obtain rfl : m = f.code.length := by simp at hlt2; omega
      rw [List.take_length] at ho
      repeat (first | refine pu_not ?_ | refine pu_eql ?_ | refine pu_neq ?_ | refine pu_lss ?_ | refine pu_leq ?_ | refine pu_gtr ?_ | refine pu_geq ?_ | refine pu_add ?_ | refine pu_sub ?_ | refine fa_at ?_ | refine nl_ptr ?_ | refine ex20 ?_ | refine ex21 ?_ | refine ex30 ?_ | refine ex31 ?_ | refine ex32 ?_ | refine ln_rule ?_ | refine pu_seq ?_ | refine pu_sne ?_)
      rw [wrapN (by omega)]
      refine ⟨⟨n + 1, S, o, rfl, hlt, ?_, h13.sub ((List.Sublist.refl S).append ((List.Sublist.refl _).cons _))⟩, by simp; omega⟩
      have : headB p ++ (p.fs.take (n + 1)).flatMap funB = px ++ [f.regs.toNat] ++ fx f.code.length 2 ++ codeB f.code := by
        rw [htk, List.flatMap_append, ← List.append_assoc, hpx]
        simp [funB]
      rw [this]; exact ho
  · obtain rfl : n = p.fs.length := by simp at hlt; omega
    rw [List.take_length] at ho
    exact k S o _ (h8.sub ((List.Sublist.refl S).append ((List.Sublist.refl H).cons _))) ho
theorem rencode_spec (hv : fsIn X v p.fs) (hX : ∀ x, x ∈ X → x ∈ H) (h : Ow B w H)
    (k : ∀ S out w', Ow B w' (S ++ H) → Wn S out (encR p).1 → K (.tuple #[out, vI (encR p).2]) w') : callW PG N.linesmanref10_Encode [.agg (p.cells v).toArray] K PK w := by
  refine linesmanref10_Encode.ok ?_
  unfold linesmanref10_Encode.C
  refine al_rule h (l := p.cells v) rfl (fun b2 w1 h1 => ?_)
  refine ldn_here h1 (.head _) (vs := p.cells v) rfl rfl ?_
  refine right09_spec (p := p) (v := v) hv (fun x hx => .tail _ (hX x hx)) h1 (fun w2 h2 => ?_)
  by_cases hk : okP' p = true
  case neg =>
    have e : encR p = ([], 2) := if_neg hk
    rw [e] at k
    have hk : okP' p = false := by simpa using hk
    rw [hk]
    repeat (first | refine pu_not ?_ | refine pu_eql ?_ | refine pu_neq ?_ | refine pu_lss ?_ | refine pu_leq ?_ | refine pu_gtr ?_ | refine pu_geq ?_ | refine pu_add ?_ | refine pu_sub ?_ | refine fa_at ?_ | refine nl_ptr ?_ | refine ex20 ?_ | refine ex21 ?_ | refine ex30 ?_ | refine ex31 ?_ | refine ex32 ?_ | refine ln_rule ?_ | refine pu_seq ?_ | refine pu_sne ?_)
    refine cnd_t rfl ?_
    exact k [] nilS _ h2.drop wn_none
  have e : encR p = (encB p, 0) := if_pos hk
  rw [e] at k
  rw [hk]
  repeat (first | refine pu_not ?_ | refine pu_eql ?_ | refine pu_neq ?_ | refine pu_lss ?_ | refine pu_leq ?_ | refine pu_gtr ?_ | refine pu_geq ?_ | refine pu_add ?_ | refine pu_sub ?_ | refine fa_at ?_ | refine nl_ptr ?_ | refine ex20 ?_ | refine ex21 ?_ | refine ex30 ?_ | refine ex31 ?_ | refine ex32 ?_ | refine ln_rule ?_ | refine pu_seq ?_ | refine pu_sne ?_)
  refine cnd_f rfl ?_
  refine ldn_here h2 (.head _) (vs := p.cells v) rfl rfl ?_
  refine bare_spec hv (fun x hx => .tail _ (hX x hx)) hk h2 (fun S o w3 h3 ho => ?_)
  have hbl := bare_len hk
  refine sealed_spec (Vc.Own.sl ho) (fun x hx => List.mem_append_left _ hx) (bare_byt hk) (by omega) h3 (fun S2 o2 w4 h4 ho4 => ?_)
  exact k S2 o2 _ (h4.sub ((List.Sublist.refl S2).append (((List.Sublist.refl H).cons _).trans (List.sublist_append_right S _)))) ho4
end
end Go.Proofs.YtkkkcafkepnecaaGreat.Im

