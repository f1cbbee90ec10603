/- Sites that are the same; frames that are known. -/
import Derived.Test.YtkkkcafkepnecaaGreatZE

set_option linter.unusedVariables false
set_option linter.unusedSimpArgs false
namespace Go.Proofs.YtkkkcafkepnecaaGreat
open Go Go.RowKit Vc Ar
attribute [local irreducible] binV Op.unary convert nlW faW ldS ldW ixS ixA ixV ixT exW lnS lnT pu stW alW opW opU bsW mkW

section
variable {s : SK} {m : Frm} {ms : List Frm}
set_option maxRecDepth 100000 in
theorem eq_siteS (a b c d : Int) : EqR PG 10000 T.t_api_Site (.agg #[vI a, vI b]) (.agg #[vI c, vI d]) ((a == c) && ((b == d) && true)) := by
  refine eqr_struct (d := 9999) (by kernel_rfl) (by kernel_rfl) rfl ?_
  refine eqf_cons (z := none) (by simp) (by kernel_rfl) (pt_at (l := [vI a, vI b]) (v := vI a) rfl rfl) (pt_at (l := [vI c, vI d]) (v := vI c) rfl rfl) (eqr_int (d := 9998) und_int _ _) ?_
  exact eqf_cons (z := none) (by simp) (by kernel_rfl) (pt_at (l := [vI a, vI b]) (v := vI b) rfl rfl) (pt_at (l := [vI c, vI d]) (v := vI d) rfl rfl) (eqr_int (d := 9998) und_int _ _) eqf_nil
theorem SK.es_of (h : s.frs = m :: ms) : ∃ t lo, s.es = t :: lo ∧ t.m = m ∧ lo.map FE.m = ms := by
  unfold SK.frs at h
  cases he : s.es with
  | nil => rw [he] at h; cases h
  | cons t lo =>
    rw [he, List.map_cons] at h
    cases h
    exact ⟨t, lo, rfl, rfl, rfl⟩
end
end Go.Proofs.YtkkkcafkepnecaaGreat

