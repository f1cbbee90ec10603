/- Contracts of package group and its reference, second part. -/
import Derived.Test.YtapnfbmcniebpaaVgG
import Derived.Test.YtapnfbmcniebpaaVcQ
set_option linter.unusedVariables false
set_option linter.unusedSimpArgs false
namespace Go.Proofs.Ytapnfbmcniebpaa
open Go Go.RowKit Vc
attribute [local irreducible] binV Op.unary convert

section
variable {B w : World} {H : Hp} {K : Value → World → Prop} {PK : List PanicEntry → World → Prop}
abbrev fnv (f : FuncId) (cap : Array Value := #[]) : Value := .func (.func f) #[] cap
theorem und_int64 : PG.underlying T.t_int64 = some (.int .i64) := by kernel_rfl
theorem und_int : PG.underlying T.t_int = some (.int .i64) := by kernel_rfl
theorem und_bool' : PG.underlying T.t_bool = some .bool := by kernel_rfl
theorem und_sl : PG.underlying T.t_sl_int64 = some (.slice T.t_int64) := by kernel_rfl
theorem und_sli : PG.underlying T.t_sl_int = some (.slice T.t_int) := by kernel_rfl
theorem info_int64 : (PG.info? T.t_int64).map (fun i => (i.zero, i.size, i.bytes)) = some (some (vI 0), 1, 8) := by kernel_rfl
theorem info_int : (PG.info? T.t_int).map (fun i => (i.zero, i.size, i.bytes)) = some (some (vI 0), 1, 8) := by kernel_rfl

/-! ### The reference -/
theorem refNew_spec {many : Int} (h : Ow B w H) (kbad : ¬ (0 ≤ many ∧ many ≤ 64) → ∀ w', Ow B w' H → K (.tuple #[.agg #[.slice none 0 0], vI 2]) w')
    (k : 0 ≤ many → many ≤ 64 → ∀ S s w', Sl S s ((List.replicate many.toNat (0 : Int)).map vI) → Ow B w' (S ++ H) → K (.tuple #[.agg #[s], vI 0]) w') : callW PG N.linesmanref15_New [vI many] K PK w := by
  refine linesmanref15_New.ok ?_
  unfold linesmanref15_New.C
  refine al_rule h (l := [.slice none 0 0]) (by kernel_rfl) (fun b1 w1 h1 => ?_)
  repeat (first | refine pu_not ?_ | refine pu_eql ?_ | refine pu_neq ?_ | refine pu_lss ?_ | refine pu_leq ?_ | refine pu_gtr ?_ | refine pu_geq ?_ | refine pu_add ?_ | refine pu_sub ?_ | refine pu_mul ?_ | refine pu_neg ?_ | refine fa_at ?_ | refine nl_ptr ?_ | refine ex20 ?_ | refine ex21 ?_ | refine ex30 ?_ | refine ex31 ?_ | refine ex32 ?_ | refine ln_rule ?_ | refine lnT_rule ?_ | refine pu_and ?_ | refine pu_or ?_ | refine pu_xor ?_ | refine pu_seq ?_ | refine pu_sne ?_)
  refine cnd (fun hlt => ?_) (fun hge => ?_)
  · refine pu_build [.slice none 0 0] (by kernel_rfl) ?_
    refine st1s (A := []) h1 rfl (fun w2 h2 => ?_)
    refine ld1 h2 (.head _) ?_
    exact kbad (by simp at hlt; omega) _ h2.drop
  · repeat (first | refine pu_not ?_ | refine pu_eql ?_ | refine pu_neq ?_ | refine pu_lss ?_ | refine pu_leq ?_ | refine pu_gtr ?_ | refine pu_geq ?_ | refine pu_add ?_ | refine pu_sub ?_ | refine pu_mul ?_ | refine pu_neg ?_ | refine fa_at ?_ | refine nl_ptr ?_ | refine ex20 ?_ | refine ex21 ?_ | refine ex30 ?_ | refine ex31 ?_ | refine ex32 ?_ | refine ln_rule ?_ | refine lnT_rule ?_ | refine pu_and ?_ | refine pu_or ?_ | refine pu_xor ?_ | refine pu_seq ?_ | refine pu_sne ?_)
    refine cnd (fun hgt => ?_) (fun hle => ?_)
    · refine pu_build [.slice none 0 0] (by kernel_rfl) ?_
      refine st1s (A := []) h1 rfl (fun w2 h2 => ?_)
      refine ld1 h2 (.head _) ?_
      exact kbad (by simp at hgt; omega) _ h2.drop
    · have h0 : 0 ≤ many := by simp at hge; omega
      have h64 : many ≤ 64 := by simp at hle; omega
      obtain ⟨n, rfl⟩ : ∃ n : Nat, many = n := ⟨many.toNat, by omega⟩
      refine mkW_rule (n := n) (m := n) (z := vI 0) h1 (by kernel_rfl) rfl rfl (Nat.le_refl _) (by omega) (by omega) (fun g w2 h2 => ?_)
      rw [zeros_one rfl] at h2
      refine pu_build [.slice (some ⟨g, 0, none⟩) n n] rfl ?_
      refine st1s (A := [_]) h2 rfl (fun w3 h3 => ?_)
      refine ld1 h3 (.tail _ (.head _)) ?_
      refine k h0 h64 [_] _ _ ?_ (h3.sub (.cons_cons _ (.cons _ (.refl _))))
      have := sl_here (b := g) (l := List.replicate n (vI 0)) (e := T.t_int64) (H := [(g, cel (List.replicate n (vI 0)) T.t_int64)]) (.head _)
      simpa using this

def rAt (xs : List Int) (i : Int) : Int := xs.getD i.toNat 0
def rAdd (xs : List Int) (i n : Int) : List Int × Int × Int :=
  if ¬ (0 ≤ i ∧ i < xs.length) then (xs, 0, 4) else if n < - rAt xs i ∨ n > 2147483647 - rAt xs i then (xs, 0, 250) else (xs.set i.toNat (rAt xs i + n), rAt xs i + n, 0)
theorem rAt_some {xs : List Int} {i : Int} (h0 : 0 ≤ i) (h1 : i < xs.length) : xs[i.toNat]? = some (rAt xs i) := by
  have : i.toNat < xs.length := by omega
  simp [rAt, List.getD, this]
theorem rAt_vI {xs : List Int} {i : Int} (h0 : 0 ≤ i) (h1 : i < xs.length) : (xs.map vI)[i.toNat]? = some (vI (rAt xs i)) := by
  rw [List.getElem?_map, rAt_some h0 h1]; rfl
structure RWf (xs : List Int) : Prop where
  len : xs.length ≤ 64
  pos : ∀ c ∈ xs, 0 ≤ c ∧ c ≤ 2147483647
theorem RWf.at {xs : List Int} (h : RWf xs) {i : Int} (h0 : 0 ≤ i) (h1 : i < xs.length) : 0 ≤ rAt xs i ∧ rAt xs i ≤ 2147483647 := h.pos _ (List.mem_of_getElem? (rAt_some h0 h1))
theorem RWf.add {xs : List Int} (h : RWf xs) (i n : Int) : RWf (rAdd xs i n).1 ∧ (rAdd xs i n).1.length = xs.length := by
  unfold rAdd
  split
  · exact ⟨h, rfl⟩
  · split
    · exact ⟨h, rfl⟩
    · rename_i h1 h2
      have := h.at (i := i) (by omega) (by omega)
      refine ⟨⟨by simpa using h.len, fun c hc => ?_⟩, by simp⟩
      rcases List.mem_or_eq_of_mem_set hc with hc | rfl
      · exact h.pos c hc
      · omega

theorem refAdd_spec {X0 : Hp} {s : Value} {xs : List Int} {i n : Int} (h : Ow B w H) (hs : Sl X0 s (xs.map vI)) (hX : ∀ x, x ∈ X0 → x ∈ H) (hx : RWf xs)
    (k : ∀ S s' w', Ow B w' (S ++ H) → Sl (S ++ X0) s' ((rAdd xs i n).1.map vI) → K (.tuple #[.agg #[s'], vI (rAdd xs i n).2.1, vI (rAdd xs i n).2.2]) w') : callW PG N.linesmanref15_Groups_Add [.agg #[s], vI i, vI n] K PK w := by
  have hsp := sl_plain hs
  refine linesmanref15_Groups_Add.ok ?_
  unfold linesmanref15_Groups_Add.C
  refine al_rule h (l := [s]) rfl (fun b1 w1 h1 => ?_)
  refine al_rule h1 (l := [.slice none 0 0]) (by kernel_rfl) (fun b2 w2 h2 => ?_)
  have hs2 : Sl ((b2, cel [.slice none 0 0] T.t_linesmanref15_Groups) :: (b1, cel [s] T.t_linesmanref15_Groups) :: H) s (xs.map vI) := hs.mono fun x hx => .tail _ (.tail _ (hX x hx))
  have out : ∀ w', Ow B w' ((b2, cel [s] T.t_linesmanref15_Groups) :: (b1, cel [s] T.t_linesmanref15_Groups) :: H) → Ow B w' H := fun w' h' => h'.sub (.cons _ (.cons _ (.refl _)))
  repeat (first | refine pu_not ?_ | refine pu_eql ?_ | refine pu_neq ?_ | refine pu_lss ?_ | refine pu_leq ?_ | refine pu_gtr ?_ | refine pu_geq ?_ | refine pu_add ?_ | refine pu_sub ?_ | refine pu_mul ?_ | refine pu_neg ?_ | refine fa_at ?_ | refine nl_ptr ?_ | refine ex20 ?_ | refine ex21 ?_ | refine ex30 ?_ | refine ex31 ?_ | refine ex32 ?_ | refine ln_rule ?_ | refine lnT_rule ?_ | refine pu_and ?_ | refine pu_or ?_ | refine pu_xor ?_ | refine pu_seq ?_ | refine pu_sne ?_)
  refine cnd (fun hlt => ?_) (fun hge => ?_)
  · have e : rAdd xs i n = (xs, 0, 4) := by simp at hlt; simp [rAdd]; omega
    rw [e] at k
    refine ld1 h2 (.tail _ (.head _)) ?_
    refine st1s (A := []) h2 hsp (fun w3 h3 => ?_)
    refine ld1 h3 (.head _) ?_
    exact k [] s _ (out _ h3) hs
  · have h0 : 0 ≤ i := by simp at hge; omega
    repeat (first | refine pu_not ?_ | refine pu_eql ?_ | refine pu_neq ?_ | refine pu_lss ?_ | refine pu_leq ?_ | refine pu_gtr ?_ | refine pu_geq ?_ | refine pu_add ?_ | refine pu_sub ?_ | refine pu_mul ?_ | refine pu_neg ?_ | refine fa_at ?_ | refine nl_ptr ?_ | refine ex20 ?_ | refine ex21 ?_ | refine ex30 ?_ | refine ex31 ?_ | refine ex32 ?_ | refine ln_rule ?_ | refine lnT_rule ?_ | refine pu_and ?_ | refine pu_or ?_ | refine pu_xor ?_ | refine pu_seq ?_ | refine pu_sne ?_)
    refine ld_here h2 (.tail _ (.head _)) rfl ?_
    refine sl_ln hs ?_
    rw [List.length_map]
    repeat (first | refine pu_not ?_ | refine pu_eql ?_ | refine pu_neq ?_ | refine pu_lss ?_ | refine pu_leq ?_ | refine pu_gtr ?_ | refine pu_geq ?_ | refine pu_add ?_ | refine pu_sub ?_ | refine pu_mul ?_ | refine pu_neg ?_ | refine fa_at ?_ | refine nl_ptr ?_ | refine ex20 ?_ | refine ex21 ?_ | refine ex30 ?_ | refine ex31 ?_ | refine ex32 ?_ | refine ln_rule ?_ | refine lnT_rule ?_ | refine pu_and ?_ | refine pu_or ?_ | refine pu_xor ?_ | refine pu_seq ?_ | refine pu_sne ?_)
    refine cnd (fun hlt => ?_) (fun hge2 => ?_)
    · have e : rAdd xs i n = (xs, 0, 4) := by simp at hlt; simp [rAdd]; omega
      rw [e] at k
      refine ld1 h2 (.tail _ (.head _)) ?_
      refine st1s (A := []) h2 hsp (fun w3 h3 => ?_)
      refine ld1 h3 (.head _) ?_
      exact k [] s _ (out _ h3) hs
    · have h1' : i < xs.length := by simp at hge2; omega
      have hc := hx.at h0 h1'
      have hat := rAt_vI h0 h1'
      have hin : ¬ ¬ (0 ≤ i ∧ i < xs.length) := by omega
      repeat (first | refine pu_not ?_ | refine pu_eql ?_ | refine pu_neq ?_ | refine pu_lss ?_ | refine pu_leq ?_ | refine pu_gtr ?_ | refine pu_geq ?_ | refine pu_add ?_ | refine pu_sub ?_ | refine pu_mul ?_ | refine pu_neg ?_ | refine fa_at ?_ | refine nl_ptr ?_ | refine ex20 ?_ | refine ex21 ?_ | refine ex30 ?_ | refine ex31 ?_ | refine ex32 ?_ | refine ln_rule ?_ | refine lnT_rule ?_ | refine pu_and ?_ | refine pu_or ?_ | refine pu_xor ?_ | refine pu_seq ?_ | refine pu_sne ?_)
      refine ld_here h2 (.tail _ (.head _)) rfl ?_
      refine sl_ld h2 hs2 h0 hat ?_
      repeat (first | refine pu_not ?_ | refine pu_eql ?_ | refine pu_neq ?_ | refine pu_lss ?_ | refine pu_leq ?_ | refine pu_gtr ?_ | refine pu_geq ?_ | refine pu_add ?_ | refine pu_sub ?_ | refine pu_mul ?_ | refine pu_neg ?_ | refine fa_at ?_ | refine nl_ptr ?_ | refine ex20 ?_ | refine ex21 ?_ | refine ex30 ?_ | refine ex31 ?_ | refine ex32 ?_ | refine ln_rule ?_ | refine lnT_rule ?_ | refine pu_and ?_ | refine pu_or ?_ | refine pu_xor ?_ | refine pu_seq ?_ | refine pu_sne ?_)
      rw [wrap64_in (by omega) (by omega)]
      refine cnd (fun hu => ?_) (fun hu => ?_)
      · have e : rAdd xs i n = (xs, 0, 250) := by simp at hu; unfold rAdd; rw [if_neg hin, if_pos (by omega)]
        rw [e] at k
        refine ld1 h2 (.tail _ (.head _)) ?_
        refine st1s (A := []) h2 hsp (fun w3 h3 => ?_)
        refine ld1 h3 (.head _) ?_
        exact k [] s _ (out _ h3) hs
      · repeat (first | refine pu_not ?_ | refine pu_eql ?_ | refine pu_neq ?_ | refine pu_lss ?_ | refine pu_leq ?_ | refine pu_gtr ?_ | refine pu_geq ?_ | refine pu_add ?_ | refine pu_sub ?_ | refine pu_mul ?_ | refine pu_neg ?_ | refine fa_at ?_ | refine nl_ptr ?_ | refine ex20 ?_ | refine ex21 ?_ | refine ex30 ?_ | refine ex31 ?_ | refine ex32 ?_ | refine ln_rule ?_ | refine lnT_rule ?_ | refine pu_and ?_ | refine pu_or ?_ | refine pu_xor ?_ | refine pu_seq ?_ | refine pu_sne ?_)
        refine ld_here h2 (.tail _ (.head _)) rfl ?_
        refine sl_ld h2 hs2 h0 hat ?_
        repeat (first | refine pu_not ?_ | refine pu_eql ?_ | refine pu_neq ?_ | refine pu_lss ?_ | refine pu_leq ?_ | refine pu_gtr ?_ | refine pu_geq ?_ | refine pu_add ?_ | refine pu_sub ?_ | refine pu_mul ?_ | refine pu_neg ?_ | refine fa_at ?_ | refine nl_ptr ?_ | refine ex20 ?_ | refine ex21 ?_ | refine ex30 ?_ | refine ex31 ?_ | refine ex32 ?_ | refine ln_rule ?_ | refine lnT_rule ?_ | refine pu_and ?_ | refine pu_or ?_ | refine pu_xor ?_ | refine pu_seq ?_ | refine pu_sne ?_)
        rw [wrap64_in (by omega) (by omega)]
        refine cnd (fun hl => ?_) (fun hl => ?_)
        · have e : rAdd xs i n = (xs, 0, 250) := by simp at hl; unfold rAdd; rw [if_neg hin, if_pos (by omega)]
          rw [e] at k
          refine ld1 h2 (.tail _ (.head _)) ?_
          refine st1s (A := []) h2 hsp (fun w3 h3 => ?_)
          refine ld1 h3 (.head _) ?_
          exact k [] s _ (out _ h3) hs
        · have e : rAdd xs i n = (xs.set i.toNat (rAt xs i + n), rAt xs i + n, 0) := by simp at hu hl; unfold rAdd; rw [if_neg hin, if_neg (by omega)]
          rw [e] at k
          simp at hu hl
          refine bs_rule h2 [] (by kernel_rfl) (fun b3 w3 h3 => ?_)
          repeat (first | refine pu_not ?_ | refine pu_eql ?_ | refine pu_neq ?_ | refine pu_lss ?_ | refine pu_leq ?_ | refine pu_gtr ?_ | refine pu_geq ?_ | refine pu_add ?_ | refine pu_sub ?_ | refine pu_mul ?_ | refine pu_neg ?_ | refine fa_at ?_ | refine nl_ptr ?_ | refine ex20 ?_ | refine ex21 ?_ | refine ex30 ?_ | refine ex31 ?_ | refine ex32 ?_ | refine ln_rule ?_ | refine lnT_rule ?_ | refine pu_and ?_ | refine pu_or ?_ | refine pu_xor ?_ | refine pu_seq ?_ | refine pu_sne ?_)
          refine ld_here h3 (.tail _ (.tail _ (.head _))) rfl ?_
          have hlen := hx.len
          refine app1 (A := []) (S := [(b3, cel [] T.t_int64)]) (z := vI 0) (bytes := 8) h3 (Own.mk (n := 0) (cap := 0) (xs := []) (Nat.le_refl _) (Nat.zero_le _) rfl rfl) hs2 (fun y hy => .tail _ hy) (by simp [plainV]) und_sl info_int64 rfl (by simp [maxLen]; omega) (by simp; omega) (fun S v w4 h4 ho => ?_)
          simp only [Nat.zero_add, List.length_map, List.nil_append] at ho h4
          refine sl_ld h4 (ho.sl.mono fun x hx => List.mem_append_left _ hx) h0 hat ?_
          repeat (first | refine pu_not ?_ | refine pu_eql ?_ | refine pu_neq ?_ | refine pu_lss ?_ | refine pu_leq ?_ | refine pu_gtr ?_ | refine pu_geq ?_ | refine pu_add ?_ | refine pu_sub ?_ | refine pu_mul ?_ | refine pu_neg ?_ | refine fa_at ?_ | refine nl_ptr ?_ | refine ex20 ?_ | refine ex21 ?_ | refine ex30 ?_ | refine ex31 ?_ | refine ex32 ?_ | refine ln_rule ?_ | refine lnT_rule ?_ | refine pu_and ?_ | refine pu_or ?_ | refine pu_xor ?_ | refine pu_seq ?_ | refine pu_sne ?_)
          rw [wrap64_in (by omega) (by omega)]
          refine own_set (A := []) h4 ho h0 h1' rfl rfl (fun S w5 h5 ho => ?_)
          rw [← List.map_set] at ho
          have hat' : ((xs.set i.toNat (rAt xs i + n)).map vI)[i.toNat]? = some (vI (rAt xs i + n)) := by
            rw [List.getElem?_map, List.getElem?_set_self (by omega)]; rfl
          refine ⟨fun w => ∃ u, Ow B w (S ++ (b2, cel [u] T.t_linesmanref15_Groups) :: (b1, cel [s] T.t_linesmanref15_Groups) :: H), ⟨_, h5.drew⟩, ?_⟩
          obtain ⟨a, c, rfl⟩ := ho.sl.len
          refine pu_build [_] rfl ?_
          refine sl_lds (H := S) (fun w hw => hw.choose_spec.sub (List.sublist_append_left _ _)) ho.sl h0 hat' ?_
          refine st1s h5.drew rfl (fun w6 h6 => ?_)
          refine ⟨⟨_, h6⟩, ?_⟩
          refine ld1 h6 (List.mem_append_right _ (.head _)) ?_
          refine k S _ _ (h6.sub ((List.Sublist.refl S).append (.cons _ (.cons _ (.refl _))))) (ho.sl.mono fun x hx => List.mem_append_left _ hx)
theorem refCount_spec {s : Value} {xs : List Int} {i : Int} (h : Ow B w H) (hs : Sl H s (xs.map vI))
    (k : ∀ w', Ow B w' H → K (vI (if 0 ≤ i ∧ i < xs.length then rAt xs i else 0)) w') : callW PG N.linesmanref15_Groups_Count [.agg #[s], vI i] K PK w := by
  refine linesmanref15_Groups_Count.ok ?_
  unfold linesmanref15_Groups_Count.C
  refine al_rule h (l := [s]) rfl (fun b1 w1 h1 => ?_)
  repeat (first | refine pu_not ?_ | refine pu_eql ?_ | refine pu_neq ?_ | refine pu_lss ?_ | refine pu_leq ?_ | refine pu_gtr ?_ | refine pu_geq ?_ | refine pu_add ?_ | refine pu_sub ?_ | refine pu_mul ?_ | refine pu_neg ?_ | refine fa_at ?_ | refine nl_ptr ?_ | refine ex20 ?_ | refine ex21 ?_ | refine ex30 ?_ | refine ex31 ?_ | refine ex32 ?_ | refine ln_rule ?_ | refine lnT_rule ?_ | refine pu_and ?_ | refine pu_or ?_ | refine pu_xor ?_ | refine pu_seq ?_ | refine pu_sne ?_)
  refine cnd (fun hlt => ?_) (fun hge => ?_)
  · rw [if_neg (by simp at hlt; omega)] at k; exact k _ h1.drop
  · simp at hge
    repeat (first | refine pu_not ?_ | refine pu_eql ?_ | refine pu_neq ?_ | refine pu_lss ?_ | refine pu_leq ?_ | refine pu_gtr ?_ | refine pu_geq ?_ | refine pu_add ?_ | refine pu_sub ?_ | refine pu_mul ?_ | refine pu_neg ?_ | refine fa_at ?_ | refine nl_ptr ?_ | refine ex20 ?_ | refine ex21 ?_ | refine ex30 ?_ | refine ex31 ?_ | refine ex32 ?_ | refine ln_rule ?_ | refine lnT_rule ?_ | refine pu_and ?_ | refine pu_or ?_ | refine pu_xor ?_ | refine pu_seq ?_ | refine pu_sne ?_)
    refine ld_here h1 (.head _) rfl ?_
    refine sl_ln hs ?_
    rw [List.length_map]
    repeat (first | refine pu_not ?_ | refine pu_eql ?_ | refine pu_neq ?_ | refine pu_lss ?_ | refine pu_leq ?_ | refine pu_gtr ?_ | refine pu_geq ?_ | refine pu_add ?_ | refine pu_sub ?_ | refine pu_mul ?_ | refine pu_neg ?_ | refine fa_at ?_ | refine nl_ptr ?_ | refine ex20 ?_ | refine ex21 ?_ | refine ex30 ?_ | refine ex31 ?_ | refine ex32 ?_ | refine ln_rule ?_ | refine lnT_rule ?_ | refine pu_and ?_ | refine pu_or ?_ | refine pu_xor ?_ | refine pu_seq ?_ | refine pu_sne ?_)
    refine cnd (fun hlt => ?_) (fun hge2 => ?_)
    · rw [if_neg (by simp at hlt; omega)] at k; exact k _ h1.drop
    · simp at hge2
      rw [if_pos (by omega)] at k
      repeat (first | refine pu_not ?_ | refine pu_eql ?_ | refine pu_neq ?_ | refine pu_lss ?_ | refine pu_leq ?_ | refine pu_gtr ?_ | refine pu_geq ?_ | refine pu_add ?_ | refine pu_sub ?_ | refine pu_mul ?_ | refine pu_neg ?_ | refine fa_at ?_ | refine nl_ptr ?_ | refine ex20 ?_ | refine ex21 ?_ | refine ex30 ?_ | refine ex31 ?_ | refine ex32 ?_ | refine ln_rule ?_ | refine lnT_rule ?_ | refine pu_and ?_ | refine pu_or ?_ | refine pu_xor ?_ | refine pu_seq ?_ | refine pu_sne ?_)
      refine ld_here h1 (.head _) rfl ?_
      refine sl_ld h1 hs.cons hge (rAt_vI hge hge2) ?_
      exact k _ h1.drop
theorem refDone_spec {s : Value} {xs : List Int} {i : Int} (h : Ow B w H) (hs : Sl H s (xs.map vI))
    (k : ∀ w', Ow B w' H → K (vB (decide (0 ≤ i ∧ i < xs.length ∧ rAt xs i = 0))) w') : callW PG N.linesmanref15_Groups_Done [.agg #[s], vI i] K PK w := by
  refine linesmanref15_Groups_Done.ok ?_
  unfold linesmanref15_Groups_Done.C
  refine al_rule h (l := [s]) rfl (fun b1 w1 h1 => ?_)
  repeat (first | refine pu_not ?_ | refine pu_eql ?_ | refine pu_neq ?_ | refine pu_lss ?_ | refine pu_leq ?_ | refine pu_gtr ?_ | refine pu_geq ?_ | refine pu_add ?_ | refine pu_sub ?_ | refine pu_mul ?_ | refine pu_neg ?_ | refine fa_at ?_ | refine nl_ptr ?_ | refine ex20 ?_ | refine ex21 ?_ | refine ex30 ?_ | refine ex31 ?_ | refine ex32 ?_ | refine ln_rule ?_ | refine lnT_rule ?_ | refine pu_and ?_ | refine pu_or ?_ | refine pu_xor ?_ | refine pu_seq ?_ | refine pu_sne ?_)
  refine cnd (fun hge => ?_) (fun hlt => ?_)
  · simp at hge
    repeat (first | refine pu_not ?_ | refine pu_eql ?_ | refine pu_neq ?_ | refine pu_lss ?_ | refine pu_leq ?_ | refine pu_gtr ?_ | refine pu_geq ?_ | refine pu_add ?_ | refine pu_sub ?_ | refine pu_mul ?_ | refine pu_neg ?_ | refine fa_at ?_ | refine nl_ptr ?_ | refine ex20 ?_ | refine ex21 ?_ | refine ex30 ?_ | refine ex31 ?_ | refine ex32 ?_ | refine ln_rule ?_ | refine lnT_rule ?_ | refine pu_and ?_ | refine pu_or ?_ | refine pu_xor ?_ | refine pu_seq ?_ | refine pu_sne ?_)
    refine ld_here h1 (.head _) rfl ?_
    refine sl_ln hs ?_
    rw [List.length_map]
    repeat (first | refine pu_not ?_ | refine pu_eql ?_ | refine pu_neq ?_ | refine pu_lss ?_ | refine pu_leq ?_ | refine pu_gtr ?_ | refine pu_geq ?_ | refine pu_add ?_ | refine pu_sub ?_ | refine pu_mul ?_ | refine pu_neg ?_ | refine fa_at ?_ | refine nl_ptr ?_ | refine ex20 ?_ | refine ex21 ?_ | refine ex30 ?_ | refine ex31 ?_ | refine ex32 ?_ | refine ln_rule ?_ | refine lnT_rule ?_ | refine pu_and ?_ | refine pu_or ?_ | refine pu_xor ?_ | refine pu_seq ?_ | refine pu_sne ?_)
    refine cnd (fun hlt => ?_) (fun hge2 => ?_)
    · simp at hlt
      repeat (first | refine pu_not ?_ | refine pu_eql ?_ | refine pu_neq ?_ | refine pu_lss ?_ | refine pu_leq ?_ | refine pu_gtr ?_ | refine pu_geq ?_ | refine pu_add ?_ | refine pu_sub ?_ | refine pu_mul ?_ | refine pu_neg ?_ | refine fa_at ?_ | refine nl_ptr ?_ | refine ex20 ?_ | refine ex21 ?_ | refine ex30 ?_ | refine ex31 ?_ | refine ex32 ?_ | refine ln_rule ?_ | refine lnT_rule ?_ | refine pu_and ?_ | refine pu_or ?_ | refine pu_xor ?_ | refine pu_seq ?_ | refine pu_sne ?_)
      refine ld_here h1 (.head _) rfl ?_
      refine sl_ld h1 hs.cons hge (rAt_vI hge hlt) ?_
      repeat (first | refine pu_not ?_ | refine pu_eql ?_ | refine pu_neq ?_ | refine pu_lss ?_ | refine pu_leq ?_ | refine pu_gtr ?_ | refine pu_geq ?_ | refine pu_add ?_ | refine pu_sub ?_ | refine pu_mul ?_ | refine pu_neg ?_ | refine fa_at ?_ | refine nl_ptr ?_ | refine ex20 ?_ | refine ex21 ?_ | refine ex30 ?_ | refine ex31 ?_ | refine ex32 ?_ | refine ln_rule ?_ | refine lnT_rule ?_ | refine pu_and ?_ | refine pu_or ?_ | refine pu_xor ?_ | refine pu_seq ?_ | refine pu_sne ?_)
      have e : decide (0 ≤ i ∧ i < xs.length ∧ rAt xs i = 0) = (rAt xs i == 0) := by simp [hge, hlt]; rfl
      rw [e] at k; exact k _ h1.drop
    · simp at hge2
      have e : decide (0 ≤ i ∧ i < xs.length ∧ rAt xs i = 0) = false := by simp; omega
      rw [e] at k; exact k _ h1.drop
  · simp at hlt
    have e : decide (0 ≤ i ∧ i < xs.length ∧ rAt xs i = 0) = false := by simp; omega
    rw [e] at k; exact k _ h1.drop
end
end Go.Proofs.Ytapnfbmcniebpaa
