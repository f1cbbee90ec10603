/- Images: the document's bytes of an instruction. -/
import Derived.Test.YtkkkcafkepnecaaGreatIL
import Derived.Test.YtkkkcafkepnecaaGreatID
import Derived.Test.YtkkkcafkepnecaaGreatZR
import Derived.Test.YtkkkcafkepnecaaGreatJO

set_option linter.unusedVariables false
set_option linter.unusedSimpArgs false
set_option linter.unnecessarySimpa false
namespace Go.Proofs.YtkkkcafkepnecaaGreat.Im
open Go Go.RowKit Vc Oc Dg
attribute [local irreducible] binV Op.unary convert nlW faW ldS ldW ixS ixA ixV ixT exW lnS lnT pu stW alW opW opU bsW mkW

section
variable {B w : World} {H C X : Hp} {K KW : Value → World → Prop} {KK : Value → Prop} {PK : List PanicEntry → World → Prop} {S : Hp} {v : Value} {xs : List Nat}
theorem fld_byte {j b : Nat} {n : Int} {cs : List Value} {e : TypeId} (h : Ow B w H) (hm : (b, cel cs e) ∈ H) (hv : cs[0 + j]? = some (vI n)) (h0 : 0 ≤ n) (h1 : n < 256) (k : KK (v8 n.toNat)) :
    faW j (ptr b) fun t => ldW none t w fun t' => pu PG (convert T.t_int T.t_uint8 t') KK := by
  refine fa_at ?_
  refine ld_here h hm hv ?_
  exact cvt (by kernel_rfl) und_u8 (m := (n.toNat : Int)) (by rw [wrapu8]; omega) k
theorem by_app {x : Nat} {ty : TypeId} (h : Ow B w (S ++ C)) (ho : Wn S v xs) (hl : xs.length ≤ 1000000) (k : ∀ S' v' w', Ow B w' (S' ++ C) → Wn S' v' (xs ++ [x]) → KW v' w') :
    bsW T.t_uint8 1 (bsC PG T.t_uint8 1 [(0, v8 x)]) (fun p w => opW PG (Builtin.append_ #[T.t_sl_uint8, T.t_sl_uint8] ty #[v, p]) KW w) w := by
  refine bs_rule h [v8 x] (by kernel_rfl) (fun b1 w1 h1 => ?_)
  refine app1 (A := [(b1, cel [v8 x] T.t_uint8)]) h1 ho (sl_here (b := b1) (l := [v8 x]) (e := T.t_uint8) (.head _)) (fun y hy => hy) rfl und_slb info_u8 rfl (by simp only [List.length_singleton, maxLen]; omega) (by simp only [List.length_singleton]; omega) (fun S' v' w2 h2 ho' => ?_)
  refine k S' v' _ h2.drop ?_
  unfold Wn
  rw [← bv_app, List.length_append]
  exact ho'
theorem sl_app {ys : List Nat} {u : Value} {ty : TypeId} (h : Ow B w (S ++ C)) (ho : Wn S v xs) (hu : Sl X u (bv ys)) (hX : ∀ x, x ∈ X → x ∈ S ++ C) (hl : xs.length + ys.length ≤ 1000000) (k : ∀ S' v' w', Ow B w' (S' ++ C) → Wn S' v' (xs ++ ys) → KW v' w') :
    opW PG (Builtin.append_ #[T.t_sl_uint8, T.t_sl_uint8] ty #[v, u]) KW w := by
  have hyl : (bv ys).length = ys.length := by simp
  refine app1 (A := []) h ho hu hX (by simp [plainV]) und_slb info_u8 rfl (by rw [hyl]; simp only [maxLen]; omega) (by rw [hyl]; omega) (fun S' v' w2 h2 ho' => ?_)
  refine k S' v' _ h2 ?_
  unfold Wn
  rw [← bv_app, List.length_append, ← hyl]
  exact ho'
theorem fix_app {b : Nat} {i : Ins} {ty : TypeId} (hu : 0 ≤ i.imm ∧ i.imm < 4294967296) (hm : (b, iO i) ∈ C) (h : Ow B w (S ++ C)) (ho : Wn S v xs) (hl : xs.length ≤ 1000) (k : ∀ S' v' w', Ow B w' (S' ++ C) → Wn S' v' (xs ++ fx i.imm.toNat 4) → KW v' w') :
    faW 4 (ptr b) fun t72 => ldW none t72 w fun t73 => pu PG (convert T.t_uint32 T.t_uint64 t73) fun t74 => callW PG N.linesmanref01_Fixed [t74, (.int .i64 4)] (fun t75 w76 => exW 0 t75 fun t77 => exW 1 t75 fun t78 => opW PG (Builtin.append_ #[T.t_sl_uint8, T.t_sl_uint8] ty #[v, t77]) KW w76) PK w := by
  refine fa_at ?_
  refine ld_here h (List.mem_append_right _ hm) (v := .int .u32 i.imm) rfl ?_
  refine cvt (by kernel_rfl) und_u64 (m := (i.imm.toNat : Int)) (by rw [wrapu64]; omega) ?_
  refine rfixed_spec (x := 4) h (by omega) (fun Sf vf w1 h1 hof => ?_)
  have e : fxR i.imm.toNat 4 = (fx i.imm.toNat 4, 0) := by
    unfold fxR
    rw [if_neg (by decide), if_pos (by show i.imm.toNat < 256 ^ 4; omega)]; rfl
  rw [e] at hof ⊢
  repeat (first | refine pu_not ?_ | refine pu_eql ?_ | refine pu_neq ?_ | refine pu_lss ?_ | refine pu_leq ?_ | refine pu_gtr ?_ | refine pu_geq ?_ | refine pu_add ?_ | refine pu_sub ?_ | refine fa_at ?_ | refine nl_ptr ?_ | refine ex20 ?_ | refine ex21 ?_ | refine ex30 ?_ | refine ex31 ?_ | refine ex32 ?_ | refine ln_rule ?_ | refine pu_seq ?_ | refine pu_sne ?_)
  have hyl : (bv (fx i.imm.toNat 4)).length = (fx i.imm.toNat 4).length := by simp
  have hof2 : Sl Sf vf (bv (fx i.imm.toNat 4)) := hof.sl
  have h1 : Ow B w1 (Sf ++ S ++ C) := by simpa using h1
  refine app1 (A := Sf) h1 ho hof2 (fun y hy => List.mem_append_left _ (List.mem_append_left _ hy)) (by simp [plainV]) und_slb info_u8 rfl (by rw [hyl, fx_len]; simp only [maxLen]; omega) (by rw [hyl, fx_len]; omega) (fun S' v' w2 h2 ho' => ?_)
  refine k S' v' _ (h2.sub (by rw [List.append_assoc]; exact List.sublist_append_right _ _)) ?_
  unfold Wn
  rw [← bv_app, List.length_append, ← hyl]
  exact ho'
theorem wn_one {b n : Nat} : Wn [(b, cel [v8 n] T.t_uint8)] (.slice (some ⟨b, 0, none⟩) 1 1) [n] := Own.mk (Nat.le_refl _) (by simp [maxLen]) rfl rfl
theorem bytes08_spec {i : Ins} (hop : 1 ≤ i.op ∧ i.op ≤ 19) (hsm : i.Sm) (h : Ow B w H) (k : ∀ S v w', Ow B w' (S ++ H) → Wn S v (insB i) → K v w') : callW PG N.linesmanref08_Bytes [.agg i.cells.toArray] K PK w := by
  refine linesmanref08_Bytes.ok ?_
  unfold linesmanref08_Bytes.C
  obtain ⟨op, a, b, c, imm⟩ := i
  obtain ⟨⟨a0, a1⟩, ⟨b0, b1⟩, ⟨c0, c1⟩, hu⟩ := hsm
  simp only at hop a0 a1 b0 b1 c0 c1 hu
  have fa : fx a.toNat 1 = [a.toNat] := fx_one (by omega)
  have fb : fx b.toNat 1 = [b.toNat] := fx_one (by omega)
  have fc : fx c.toNat 1 = [c.toNat] := fx_one (by omega)
  refine al_rule h (l := Ins.cells ⟨op, a, b, c, imm⟩) rfl (fun bb w h => ?_)
  refine fa_at ?_
  refine ld_here h (.head _) (v := vI op) rfl ?_
  refine cvt (by kernel_rfl) und_u8 (m := (op.toNat : Int)) (by rw [wrapu8]; omega) ?_
  refine bs_rule h [v8 op.toNat] (by kernel_rfl) (fun b1 w h => ?_)
  have ho := wn_one (b := b1) (n := op.toNat)
  have h : Ow B w ([(b1, cel [v8 op.toNat] T.t_uint8)] ++ (bb, iO ⟨op, a, b, c, imm⟩) :: H) := h
  have hm : (bb, iO ⟨op, a, b, c, imm⟩) ∈ (bb, iO ⟨op, a, b, c, imm⟩) :: H := .head _
  generalize [(b1, cel [v8 op.toNat] T.t_uint8)] = S at h ho
  generalize (Value.slice (some ⟨b1, 0, none⟩) 1 1) = v at ho ⊢
  have ho : Wn S v [op.toNat] := ho
  obtain rfl | rfl | rfl | rfl | rfl | rfl | rfl | rfl | rfl | rfl | rfl | rfl | rfl | rfl | rfl | rfl | rfl | rfl | rfl : op = 1 ∨ op = 2 ∨ op = 3 ∨ op = 4 ∨ op = 5 ∨ op = 6 ∨ op = 7 ∨ op = 8 ∨ op = 9 ∨ op = 10 ∨ op = 11 ∨ op = 12 ∨ op = 13 ∨ op = 14 ∨ op = 15 ∨ op = 16 ∨ op = 17 ∨ op = 18 ∨ op = 19 := by omega
  all_goals
    refine in08_spec (c := 97) (by decide) h (fun w h => ?_)
    first
      | (refine cnd_t (by decide) ?_
         refine fld_byte (n := a) h (List.mem_append_right _ hm) rfl (by omega) (by omega) ?_
         refine by_app h ho (by simp) (fun S v w h ho => ?_))
      | refine cnd_f (by decide) ?_
    refine in08_spec (c := 98) (by decide) h (fun w h => ?_)
    first
      | (refine cnd_t (by decide) ?_
         refine fld_byte (n := b) h (List.mem_append_right _ hm) rfl (by omega) (by omega) ?_
         refine by_app h ho (by simp) (fun S v w h ho => ?_))
      | refine cnd_f (by decide) ?_
    refine in08_spec (c := 110) (by decide) h (fun w h => ?_)
    first
      | (refine cnd_t (by decide) ?_
         refine fld_byte (n := c) h (List.mem_append_right _ hm) rfl (by omega) (by omega) ?_
         refine by_app h ho (by simp) (fun S v w h ho => ?_))
      | (refine cnd_f (by decide) ?_
         refine in08_spec (c := 107) (by decide) h (fun w h => ?_)
         first
           | (refine cnd_t (by decide) ?_
              refine fld_byte (n := c) h (List.mem_append_right _ hm) rfl (by omega) (by omega) ?_
              refine by_app h ho (by simp) (fun S v w h ho => ?_))
           | refine cnd_f (by decide) ?_)
    refine in08_spec (c := 105) (by decide) h (fun w h => ?_)
    first
      | (refine cnd_t (by decide) ?_
         refine fix_app hu hm h ho (by simp) (fun S v w h ho => ?_))
      | (refine cnd_f (by decide) ?_
         refine in08_spec (c := 102) (by decide) h (fun w h => ?_)
         first
           | (refine cnd_t (by decide) ?_
              refine fix_app hu hm h ho (by simp) (fun S v w h ho => ?_))
           | (refine cnd_f (by decide) ?_
              refine in08_spec (c := 107) (by decide) h (fun w h => ?_)
              first
                | (refine cnd_t (by decide) ?_
                   refine fix_app hu hm h ho (by simp) (fun S v w h ho => ?_))
                | refine cnd_f (by decide) ?_))
    refine k _ _ _ (h.sub ((List.Sublist.refl _).append ((List.Sublist.refl H).cons _))) ?_
    simpa [insB, nmd, partB, pw, Pk.get, fa, fb, fc] using ho
end
end Go.Proofs.YtkkkcafkepnecaaGreat.Im

