/-
  No cell of these rows narrows 'for every input' (looked for: loops, veiled, ifaces, maps, wideKeys, modest, calm, conditions, laid).
  DERIVED. THE GIVEN ROWS OF THIS SEAT. 3 by the template 'for every input the law returns true; each argument reads behind the call as it read before'; 0 by the template 'total and deterministic' (their statements: YtkkkcafkepnecaaTotals.lean).
  GIVEN WITH THE SEED: the statements are not yours to turn. If you find one false, say at which input.
  Laid BY PROGRAM, IN A SANDBOX (cutbox-rows.mjs): the forced cells as the released guide's own fill.sh prints them over the translation d0af4f445a022e38… (all of the seat's roots in one cut). By AI agents, Wed Nov 11 2026. No macro, syntax, notation, axiom, sorry.
-/
import Derived.Test.YtkkkcafkepnecaaChecked
import GoSem.Claim
import GoSem.ClaimJoined
import GoSem.ClaimMapViews
import Derived.JoinedTies
import Derived.KernelRfl
namespace Go.Proofs.Ytkkkcafkepnecaa
/- THE CELL 'sum', in the pinned program and in every row, IS THE sha256 OF THE DUMP (.gsa) THAT YtkkkcafkepnecaaProg.lean LOADS. Nothing in Lean hashes anything: it is a label: what it is worth is what the hold of that sum in a sandbox is worth. -/
noncomputable def Try.pinned : Pinned := { name := "ytkkkcafkepnecaa", sum := "d0af4f445a022e38bc99c01beff3834c6fb4f5797d7742f081cfce37795337bc", checked := Try.checked }
namespace Rows
def none {H : Type} : Left H := { results := [], args := [] }

/-- 'linesmanlaw09.ProgramAt': WHATEVER THE INPUT: true; the input reads as it did. -/
def programAtSpec : ChangeSpec := { name := "programAt", fn := fun _ => fun
  | [d1, d2] => { results := [.lit (.bool true)], args := [d1, d2] }
  | _ => none }
def programAtRow : OpenClaim := { program := "ytkkkcafkepnecaa", sum := "d0af4f445a022e38bc99c01beff3834c6fb4f5797d7742f081cfce37795337bc", func := "linesman/linesmanlaw09.ProgramAt", spec := "programAt", unfollowed := true, recurses := true, apart := false }
def ProgramAtSaid : Prop := programAtRow.holds Try.pinned (OpenSpec.ofChange programAtSpec)

/-- ITS FALSE NEIGHBOUR: 'it returns false'. Refute it at one input. -/
def programAtWrong : ChangeSpec := { name := "programAt", fn := fun _ => fun
  | [d1, d2] => { results := [.lit (.bool false)], args := [d1, d2] }
  | _ => none }
def ProgramAtWrongFalsely : Prop := programAtRow.holds Try.pinned (OpenSpec.ofChange programAtWrong)

/-- 'linesmanlaw09.ProgramSame': WHATEVER THE INPUT: true; the input reads as it did. -/
def programSameSpec : ChangeSpec := { name := "programSame", fn := fun _ => fun
  | [d1, d2] => { results := [.lit (.bool true)], args := [d1, d2] }
  | _ => none }
def programSameRow : OpenClaim := { program := "ytkkkcafkepnecaa", sum := "d0af4f445a022e38bc99c01beff3834c6fb4f5797d7742f081cfce37795337bc", func := "linesman/linesmanlaw09.ProgramSame", spec := "programSame", unfollowed := true, recurses := true, apart := false }
def ProgramSameSaid : Prop := programSameRow.holds Try.pinned (OpenSpec.ofChange programSameSpec)

/-- ITS FALSE NEIGHBOUR: 'it returns false'. Refute it at one input. -/
def programSameWrong : ChangeSpec := { name := "programSame", fn := fun _ => fun
  | [d1, d2] => { results := [.lit (.bool false)], args := [d1, d2] }
  | _ => none }
def ProgramSameWrongFalsely : Prop := programSameRow.holds Try.pinned (OpenSpec.ofChange programSameWrong)

/-- 'linesmanlaw10.ImageHolds': WHATEVER THE INPUT: true; the input reads as it did. -/
def imageHoldsSpec : ChangeSpec := { name := "imageHolds", fn := fun _ => fun
  | [d1, d2] => { results := [.lit (.bool true)], args := [d1, d2] }
  | _ => none }
def imageHoldsRow : OpenClaim := { program := "ytkkkcafkepnecaa", sum := "d0af4f445a022e38bc99c01beff3834c6fb4f5797d7742f081cfce37795337bc", func := "linesman/linesmanlaw10.ImageHolds", spec := "imageHolds", unfollowed := true, recurses := true, apart := false }
def ImageHoldsSaid : Prop := imageHoldsRow.holds Try.pinned (OpenSpec.ofChange imageHoldsSpec)

/-- ITS FALSE NEIGHBOUR: 'it returns false'. Refute it at one input. -/
def imageHoldsWrong : ChangeSpec := { name := "imageHolds", fn := fun _ => fun
  | [d1, d2] => { results := [.lit (.bool false)], args := [d1, d2] }
  | _ => none }
def ImageHoldsWrongFalsely : Prop := imageHoldsRow.holds Try.pinned (OpenSpec.ofChange imageHoldsWrong)

/- THE SECOND FORM. 'bulk': how many values and letters a reading holds, each counted each time it is reached (what is shared counts as often as it is met; a slice's spare places count too). A statement '..UptoSaid' is the law's where the arguments, and the package variables that the reading takes, are together of bulk at most 1048576: NARROWER than '..Said'. Prove '..Said' where nothing that the law and all that it calls make is longer than what came in: it says more and counts as full. Else prove '..UptoSaid'. A law counts once. -/
mutual
def uptoBulk {H : Type} : DataW H → Nat
  | .lit (.string bytes) => bytes.length + 1
  | .lit _ => 1
  | .nil => 1
  | .ptr d => uptoBulk d + 1
  | .slice elems spare => uptoBulkAll elems + uptoBulkAll spare + 1
  | .agg parts => uptoBulkAll parts + 1
  | .iface _ d => uptoBulk d + 1
  | .map entries => uptoBulkEntries entries + 1
  | .held _ => 1
def uptoBulkAll {H : Type} : List (DataW H) → Nat
  | [] => 0
  | d :: r => uptoBulk d + uptoBulkAll r
def uptoBulkEntries {H : Type} : List (Lit × DataW H) → Nat
  | [] => 0
  | x :: r => uptoBulkEntry x + uptoBulkEntries r
def uptoBulkEntry {H : Type} : Lit × DataW H → Nat
  | (.string bytes, d) => bytes.length + uptoBulk d + 1
  | (_, d) => uptoBulk d + 1
 end
def uptoSmall : (H : Type) → List (DataW H) → Bool := fun _ ds => decide (uptoBulkAll ds ≤ 1048576)
def OpenSpec.upto (s : _root_.Go.ChangeSpec) : _root_.Go.OpenSpec := { _root_.Go.OpenSpec.ofChange s with cond := some uptoSmall }

/-- 'linesmanlaw09.ProgramAt', WHERE WHAT IT READS IS OF BULK AT MOST 1048576: true; the input reads as it did. -/
def programAtUptoRow : OpenClaim := { program := "ytkkkcafkepnecaa", sum := "d0af4f445a022e38bc99c01beff3834c6fb4f5797d7742f081cfce37795337bc", func := "linesman/linesmanlaw09.ProgramAt", spec := "programAt", unfollowed := true, recurses := true, apart := false, narrowed := true }
def ProgramAtUptoSaid : Prop := programAtUptoRow.holds Try.pinned (OpenSpec.upto programAtSpec)

/-- 'linesmanlaw09.ProgramSame', WHERE WHAT IT READS IS OF BULK AT MOST 1048576: true; the input reads as it did. -/
def programSameUptoRow : OpenClaim := { program := "ytkkkcafkepnecaa", sum := "d0af4f445a022e38bc99c01beff3834c6fb4f5797d7742f081cfce37795337bc", func := "linesman/linesmanlaw09.ProgramSame", spec := "programSame", unfollowed := true, recurses := true, apart := false, narrowed := true }
def ProgramSameUptoSaid : Prop := programSameUptoRow.holds Try.pinned (OpenSpec.upto programSameSpec)

/-- 'linesmanlaw10.ImageHolds', WHERE WHAT IT READS IS OF BULK AT MOST 1048576: true; the input reads as it did. -/
def imageHoldsUptoRow : OpenClaim := { program := "ytkkkcafkepnecaa", sum := "d0af4f445a022e38bc99c01beff3834c6fb4f5797d7742f081cfce37795337bc", func := "linesman/linesmanlaw10.ImageHolds", spec := "imageHolds", unfollowed := true, recurses := true, apart := false, narrowed := true }
def ImageHoldsUptoSaid : Prop := imageHoldsUptoRow.holds Try.pinned (OpenSpec.upto imageHoldsSpec)

end Rows
end Go.Proofs.Ytkkkcafkepnecaa
