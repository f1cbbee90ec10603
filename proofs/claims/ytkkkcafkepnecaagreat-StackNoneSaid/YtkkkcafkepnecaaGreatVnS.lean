/- Slices of structs that are read. -/
import Derived.Test.YtkkkcafkepnecaaGreatVnR
import Derived.Test.YtkkkcafkepnecaaGreatVcQ
set_option linter.unusedVariables false
set_option linter.unusedSimpArgs false
namespace Go.Proofs.YtkkkcafkepnecaaGreat.Vc
open Go Go.RowKit
section
variable {P : Program} {B w : World} {H : Hp} {K : Value → Prop} {Q : World → Prop} {s : Value} {size : Nat} {xs : List (List Value)} {x : List Value} {n : Int} {kd : IntKind}
theorem Sls.mono {H' : Hp} (h : Sls H s size xs) (hs : ∀ x, x ∈ H → x ∈ H') : Sls H' s size xs := by
  obtain ⟨a, cap, hv, h1, h2, h3, h4⟩ := h
  exact ⟨a, cap, hv, h1, h2, h3, fun i x hx => let ⟨p, hp, hc⟩ := h4 i x hx; ⟨p, hp, fun j y hy => (hc j y hy).mono hs⟩⟩
theorem sls_ln {K : Value → Prop} (hs : Sls H s size xs) (k : K (vI xs.length)) : lnS s K := by
  obtain ⟨a, cap, rfl, _⟩ := hs
  exact k
theorem Sls.max (hs : Sls H s size xs) : xs.length ≤ maxLen := by
  obtain ⟨a, cap, rfl, h1, h2, _⟩ := hs
  omega
theorem sls_rd (hs : Sls H s size xs) (h0 : 0 ≤ n) (hv : xs[n.toNat]? = some x) : ∃ p : Addr, (∀ {K : Value → Prop}, K (.pointer (some p)) → ixS size s (.int kd n) K) ∧ ∀ w, Ow B w H → rdW (some size) (.pointer (some p)) w (.agg x.toArray) := by
  obtain ⟨a, cap, rfl, h1, h2, h3, h4⟩ := hs
  obtain ⟨p, rfl, hc⟩ := h4 _ _ hv
  have hlt := (List.getElem?_eq_some_iff.1 hv).1
  refine ⟨p.add (n.toNat * size), fun k => ixS_rule h0 (by omega) k, fun w hw => ⟨_, x, rfl, h3 x (List.mem_of_getElem? hv), fun i u hu => ?_, rfl⟩⟩
  rw [Go.Deep.add_add]
  exact hw.cell (hc i u hu)
theorem sls_lds (h : ∀ w, Q w → Ow B w H) (hs : Sls H s size xs) (h0 : 0 ≤ n) (hv : xs[n.toNat]? = some x) (k : K (.agg x.toArray)) : ixS size s (.int kd n) fun p => ldS (some size) p Q K := by
  obtain ⟨p, h1, h2⟩ := sls_rd (B := B) (kd := kd) hs h0 hv
  exact h1 ⟨_, fun w hw => h2 w (h w hw), k⟩
theorem sls_ld (h : Ow B w H) (hs : Sls H s size xs) (h0 : 0 ≤ n) (hv : xs[n.toNat]? = some x) (k : K (.agg x.toArray)) : ixS size s (.int kd n) fun p => ldW (some size) p w K := by
  obtain ⟨p, h1, h2⟩ := sls_rd (B := B) (kd := kd) hs h0 hv
  exact h1 ⟨_, h2 w h, k⟩
end
section
variable {P : Program} {H : Hp} {t : TypeId} {cs : List Value} {v : Value}
/-- A field: its type, its place, how many cells. -/
def fieldB (P : Program) (t : TypeId) (i : Nat) : Option (TypeId × Nat × Nat) := match P.underlying t with
  | some (.struct fs) => (fs[i]?).map fun f => (f.type, f.offset, P.cellsOf f.type)
  | _ => none
theorem Fit.field {i : Nat} {T : TypeId} {off n : Nat} (h : Fit P H t cs) (he : fieldB P t i = some (T, off, n)) : Fit P H T ((cs.drop off).take n) := by
  unfold fieldB at he
  split at he
  · rename_i fs ht
    obtain ⟨f, hf, hq⟩ := Option.map_eq_some_iff.1 he
    simp only [Prod.mk.injEq] at hq
    obtain ⟨rfl, rfl, rfl⟩ := hq
    exact (h.of_struct ht).2 i f hf
  · cases he
theorem Fit.len {n : Nat} (h : Fit P H t cs) (ha : agT P t = true) (hn : P.cellsOf t = n) : cs.length = n := by
  subst hn
  unfold agT at ha
  split at ha
  · rename_i fs ht; exact (h.of_struct ht).1
  · rename_i m e ht; exact (h.of_array ht).1
  · cases ha
theorem FitV.agg (h : FitV P H t v) (ha : agT P t = true) : ∃ cs : List Value, v = .agg cs.toArray ∧ Fit P H t cs := by
  unfold agT at ha
  split at ha
  · rename_i fs ht; exact h.struct ht
  · rename_i m e ht; exact h.array ht
  · cases ha
end
end Go.Proofs.YtkkkcafkepnecaaGreat.Vc
