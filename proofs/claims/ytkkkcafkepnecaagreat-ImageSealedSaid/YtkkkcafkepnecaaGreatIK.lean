/- Images: written. -/
import Derived.Test.YtkkkcafkepnecaaGreatIJ
import Derived.Test.YtkkkcafkepnecaaGreatJK

set_option linter.unusedVariables false
set_option linter.unusedSimpArgs false
set_option linter.unnecessarySimpa false
namespace Go.Proofs.YtkkkcafkepnecaaGreat.Im
open Go Go.RowKit Vc Oc Dg
attribute [local irreducible] binV Op.unary convert nlW faW ldS ldW ixS ixA ixV ixT exW lnS lnT pu stW alW opW opU bsW mkW

section
variable {B w : World} {H : Hp} {K : Value → World → Prop} {PK : List PanicEntry → World → Prop}
/-- A writer's row. -/
abbrev wO (v : Value) : Obj := cel [v] T.t_image_writer
/-- What is written: the row of the bytes is owned. -/
def Wn (S : Hp) (v : Value) (xs : List Nat) : Prop := Vc.Own S T.t_uint8 1 v xs.length (bv xs)
theorem Wn.sv {S : Hp} {v : Value} {xs : List Nat} (h : Wn S v xs) : v.cells = #[v] ∧ plainV v = true := by
  obtain ⟨a, c, rfl⟩ := Vc.Own.len h
  exact ⟨rfl, rfl⟩
theorem wnum_spec {A S C : Hp} {b : Nat} {v : Value} {xs : List Nat} {n wd : Nat} (h : Ow B w (A ++ S ++ (b, wO v) :: C)) (ho : Wn S v xs) (hn : n < 256 ^ wd) (hn64 : n < 18446744073709551616) (hw : right wd = true) (hx : xs.length ≤ 1000000)
    (k : ∀ S' v' w', Ow B w' (A ++ S' ++ (b, wO v') :: C) → Wn S' v' (xs ++ fx n wd) → K (.tuple #[]) w') : callW PG N.image_writer_number [ptr b, v64 n, vI wd] K PK w := by
  refine image_writer_number.ok ?_
  unfold image_writer_number.C
  have hw8 : wd ≤ 8 := by rcases right_cases hw with h | h | h | h <;> omega
  have e : fxR n wd = (fx n wd, 0) := by
    unfold fxR
    rw [if_neg (by rw [hw]; simp), Int.toNat_natCast, if_pos hn]
  refine fixed_spec h hn64 (fun Sf vf w1 h1 hof => ?_)
  rw [e] at hof ⊢
  simp only [fx_len] at hof
  repeat (first | refine pu_not ?_ | refine pu_eql ?_ | refine pu_neq ?_ | refine pu_lss ?_ | refine pu_leq ?_ | refine pu_gtr ?_ | refine pu_geq ?_ | refine pu_add ?_ | refine pu_sub ?_ | refine fa_at ?_ | refine nl_ptr ?_ | refine ex20 ?_ | refine ex21 ?_ | refine ex30 ?_ | refine ex31 ?_ | refine ex32 ?_ | refine ln_rule ?_ | refine pu_seq ?_ | refine pu_sne ?_)
  refine ld_here h1 (List.mem_append_right _ (List.mem_append_right _ (.head _))) (v := v) rfl ?_
  have h1 : Ow B w1 ((Sf ++ A) ++ S ++ (b, wO v) :: C) := by simpa using h1
  have hfl : (bv (fx n wd)).length = wd := by rw [List.length_map, fx_len]
  have hof2 : Sl Sf vf (bv (fx n wd)) := hof.sl
  refine app1 h1 ho hof2 (fun y hy => List.mem_append_left _ (List.mem_append_left _ (List.mem_append_left _ hy))) (by simp [plainV]) und_slb info_u8 rfl (by rw [hfl]; simp only [maxLen]; omega) (by rw [hfl]; omega) (fun S' v' w2 h2 ho' => ?_)
  rw [bv_app, hfl] at ho'
  have ho'' : Wn S' v' (xs ++ fx n wd) := by
    unfold Wn
    rw [List.length_append, fx_len]; exact ho'
  repeat (first | refine pu_not ?_ | refine pu_eql ?_ | refine pu_neq ?_ | refine pu_lss ?_ | refine pu_leq ?_ | refine pu_gtr ?_ | refine pu_geq ?_ | refine pu_add ?_ | refine pu_sub ?_ | refine fa_at ?_ | refine nl_ptr ?_ | refine ex20 ?_ | refine ex21 ?_ | refine ex30 ?_ | refine ex31 ?_ | refine ex32 ?_ | refine ln_rule ?_ | refine pu_seq ?_ | refine pu_sne ?_)
  refine st1_here h2 ho''.sv.1 ho''.sv.2 (by simp) (fun w3 h3 => ?_)
  refine k S' v' _ (h3.sub ?_) ho''
  have : (A ++ S' ++ (b, wO v') :: C).Sublist (Sf ++ (A ++ S' ++ (b, wO v') :: C)) := List.sublist_append_right _ _
  simpa using this
theorem wbyte_spec {A S C : Hp} {b : Nat} {v : Value} {xs : List Nat} {n : Int} (h : Ow B w (A ++ S ++ (b, wO v) :: C)) (ho : Wn S v xs) (h0 : 0 ≤ n) (hn : n < 256) (hx : xs.length ≤ 1000000)
    (k : ∀ S' v' w', Ow B w' (A ++ S' ++ (b, wO v') :: C) → Wn S' v' (xs ++ [n.toNat]) → K (.tuple #[]) w') : callW PG N.image_writer_byte [ptr b, vI n] K PK w := by
  refine image_writer_byte.ok ?_
  unfold image_writer_byte.C
  refine cvt_iu h0 (by omega) ?_
  refine wnum_spec (wd := 1) h ho (by omega) (by omega) rfl hx (fun S' v' w1 h1 ho1 => ?_)
  rw [fx_one (by omega)] at ho1
  exact k S' v' w1 h1 ho1
theorem weach_spec {A S C : Hp} {b : Nat} {v g : Value} {xs : List Nat} {ns : List Int} (hg : Sl A g (ns.map vI)) (h : Ow B w (A ++ S ++ (b, wO v) :: C)) (ho : Wn S v xs) (hns : ∀ n ∈ ns, 0 ≤ n ∧ n < 256) (hx : xs.length + ns.length ≤ 1000000)
    (k : ∀ S' v' w', Ow B w' (A ++ S' ++ (b, wO v') :: C) → Wn S' v' (xs ++ ns.map Int.toNat) → K (.tuple #[]) w') : callW PG N.image_each_int [.func (.func N.image_writer_byte) #[ptr b] #[], g] K PK w := by
  refine image_each_int.ok ?_
  unfold image_each_int.C
  refine sl_ln hg ?_
  rw [List.length_map]
  refine ⟨fun l w => ∃ (n : Nat) (S : Hp) (v : Value), l = [vI n] ∧ n ≤ ns.length ∧ Wn S v (xs ++ (ns.take n).map Int.toNat) ∧ Ow B w (A ++ S ++ (b, wO v) :: C), fun l _ => match l with | [.int _ q] => ns.length - q.toNat | _ => 0,
    ⟨0, S, v, rfl, Nat.zero_le _, by simpa using ho, h⟩, ?_⟩
  clear h ho
  rintro l w1 ⟨n, S, v, rfl, hn, ho, h⟩ j
  simp only [gv, List.getD_cons_zero, List.getD_cons_succ]
  repeat (first | refine pu_not ?_ | refine pu_eql ?_ | refine pu_neq ?_ | refine pu_lss ?_ | refine pu_leq ?_ | refine pu_gtr ?_ | refine pu_geq ?_ | refine pu_add ?_ | refine pu_sub ?_ | refine fa_at ?_ | refine nl_ptr ?_ | refine ex20 ?_ | refine ex21 ?_ | refine ex30 ?_ | refine ex31 ?_ | refine ex32 ?_ | refine ln_rule ?_ | refine pu_seq ?_ | refine pu_sne ?_)
  refine cnd (fun hlt => ?_) (fun hlt => ?_)
  · have hlt : n < ns.length := by simpa using hlt
    have hat : (ns.map vI)[(n : Int).toNat]? = some (vI ns[n]) := by rw [Int.toNat_natCast, List.getElem?_map, List.getElem?_eq_getElem hlt]; rfl
    have htk : ns.take (n + 1) = ns.take n ++ [ns[n]] := by rw [List.take_add_one, List.getElem?_eq_getElem hlt]; rfl
    have hm := hns _ (List.getElem_mem hlt)
    generalize ns[n] = m at hat htk hm
    refine sl_ld h (hg.mono fun x hx => List.mem_append_left _ (List.mem_append_left _ hx)) (by omega) hat ?_
    refine callV_fn image_writer_byte.okf ?_
    refine wbyte_spec h ho hm.1 hm.2 (by rw [List.length_append, List.length_map, List.length_take]; omega) (fun S' v' w2 h2 ho2 => ?_)
    repeat (first | refine pu_not ?_ | refine pu_eql ?_ | refine pu_neq ?_ | refine pu_lss ?_ | refine pu_leq ?_ | refine pu_gtr ?_ | refine pu_geq ?_ | refine pu_add ?_ | refine pu_sub ?_ | refine fa_at ?_ | refine nl_ptr ?_ | refine ex20 ?_ | refine ex21 ?_ | refine ex30 ?_ | refine ex31 ?_ | refine ex32 ?_ | refine ln_rule ?_ | refine pu_seq ?_ | refine pu_sne ?_)
    rw [wrapN (by have := hx; omega)]
    refine ⟨⟨n + 1, S', v', rfl, hlt, ?_, h2⟩, by simp; omega⟩
    rw [htk, List.map_append]
    simpa using ho2
  · obtain rfl : n = ns.length := by simp at hlt; omega
    rw [List.take_length] at ho
    exact k S v _ h ho
end
end Go.Proofs.YtkkkcafkepnecaaGreat.Im

