/-
  No cell of these rows narrows 'for every input' (looked for: loops, veiled, ifaces, maps, wideKeys, modest, calm, conditions, laid).
  DERIVED. THE GIVEN ROWS OF THIS SEAT. 8 by the template 'for every input the law returns true; each argument reads behind the call as it read before'; 0 by the template 'total and deterministic' (their statements: YtkkkcafkepnecaaGreatTotals.lean).
  GIVEN WITH THE SEED: the statements are not yours to turn. If you find one false, say at which input.
  Laid BY PROGRAM, IN A SANDBOX (cutbox-rows.mjs): the forced cells as the released guide's own fill.sh prints them over the translation 075b5a3ffa24f17c… (all of the seat's roots in one cut). By AI agents, Wed Nov 11 2026. No macro, syntax, notation, axiom, sorry.
-/
import Derived.Test.YtkkkcafkepnecaaGreatChecked
import GoSem.Claim
import GoSem.ClaimJoined
import GoSem.ClaimMapViews
import Derived.JoinedTies
import Derived.KernelRfl
namespace Go.Proofs.YtkkkcafkepnecaaGreat
/- THE CELL 'sum', in the pinned program and in every row, IS THE sha256 OF THE DUMP (.gsa) THAT YtkkkcafkepnecaaGreatProg.lean LOADS. Nothing in Lean hashes anything: it is a label: what it is worth is what the hold of that sum in a sandbox is worth. -/
noncomputable def Tryz.pinned : Pinned := { name := "ytkkkcafkepnecaagreat", sum := "075b5a3ffa24f17c000ba0443539f8a0e9b2024e6b2526f1d0cadf1cb86e141f", checked := Tryz.checked }
namespace Rows
def none {H : Type} : Left H := { results := [], args := [] }

/-- 'linesmanlaw12.StackStarts': WHATEVER THE INPUT: true; the input reads as it did. -/
def stackStartsSpec : ChangeSpec := { name := "stackStarts", fn := fun _ => fun
  | [d] => { results := [.lit (.bool true)], args := [d] }
  | _ => none }
def stackStartsRow : OpenClaim := { program := "ytkkkcafkepnecaagreat", sum := "075b5a3ffa24f17c000ba0443539f8a0e9b2024e6b2526f1d0cadf1cb86e141f", func := "linesman/linesmanlaw12.StackStarts", spec := "stackStarts", unfollowed := true, recurses := true, apart := false }
def StackStartsSaid : Prop := stackStartsRow.holds Tryz.pinned (OpenSpec.ofChange stackStartsSpec)

/-- ITS FALSE NEIGHBOUR: 'it returns false'. Refute it at one input. -/
def stackStartsWrong : ChangeSpec := { name := "stackStarts", fn := fun _ => fun
  | [d] => { results := [.lit (.bool false)], args := [d] }
  | _ => none }
def StackStartsWrongFalsely : Prop := stackStartsRow.holds Tryz.pinned (OpenSpec.ofChange stackStartsWrong)

/-- 'linesmanlaw10.ImageSealed': WHATEVER THE INPUT: true; the input reads as it did. -/
def imageSealedSpec : ChangeSpec := { name := "imageSealed", fn := fun _ => fun
  | [d1, d2] => { results := [.lit (.bool true)], args := [d1, d2] }
  | _ => none }
def imageSealedRow : OpenClaim := { program := "ytkkkcafkepnecaagreat", sum := "075b5a3ffa24f17c000ba0443539f8a0e9b2024e6b2526f1d0cadf1cb86e141f", func := "linesman/linesmanlaw10.ImageSealed", spec := "imageSealed", unfollowed := true, recurses := true, apart := false }
def ImageSealedSaid : Prop := imageSealedRow.holds Tryz.pinned (OpenSpec.ofChange imageSealedSpec)

/-- ITS FALSE NEIGHBOUR: 'it returns false'. Refute it at one input. -/
def imageSealedWrong : ChangeSpec := { name := "imageSealed", fn := fun _ => fun
  | [d1, d2] => { results := [.lit (.bool false)], args := [d1, d2] }
  | _ => none }
def ImageSealedWrongFalsely : Prop := imageSealedRow.holds Tryz.pinned (OpenSpec.ofChange imageSealedWrong)

/-- 'linesmanlaw10.ImageEncodes': WHATEVER THE INPUT: true; the input reads as it did. -/
def imageEncodesSpec : ChangeSpec := { name := "imageEncodes", fn := fun _ => fun
  | [d] => { results := [.lit (.bool true)], args := [d] }
  | _ => none }
def imageEncodesRow : OpenClaim := { program := "ytkkkcafkepnecaagreat", sum := "075b5a3ffa24f17c000ba0443539f8a0e9b2024e6b2526f1d0cadf1cb86e141f", func := "linesman/linesmanlaw10.ImageEncodes", spec := "imageEncodes", unfollowed := true, recurses := true, apart := false }
def ImageEncodesSaid : Prop := imageEncodesRow.holds Tryz.pinned (OpenSpec.ofChange imageEncodesSpec)

/-- ITS FALSE NEIGHBOUR: 'it returns false'. Refute it at one input. -/
def imageEncodesWrong : ChangeSpec := { name := "imageEncodes", fn := fun _ => fun
  | [d] => { results := [.lit (.bool false)], args := [d] }
  | _ => none }
def ImageEncodesWrongFalsely : Prop := imageEncodesRow.holds Tryz.pinned (OpenSpec.ofChange imageEncodesWrong)

/-- 'linesmanlaw12.StackHolds': WHATEVER THE INPUT: true; the input reads as it did. -/
def stackHoldsSpec : ChangeSpec := { name := "stackHolds", fn := fun _ => fun
  | [d1, d2] => { results := [.lit (.bool true)], args := [d1, d2] }
  | _ => none }
def stackHoldsRow : OpenClaim := { program := "ytkkkcafkepnecaagreat", sum := "075b5a3ffa24f17c000ba0443539f8a0e9b2024e6b2526f1d0cadf1cb86e141f", func := "linesman/linesmanlaw12.StackHolds", spec := "stackHolds", unfollowed := true, recurses := true, apart := false }
def StackHoldsSaid : Prop := stackHoldsRow.holds Tryz.pinned (OpenSpec.ofChange stackHoldsSpec)

/-- ITS FALSE NEIGHBOUR: 'it returns false'. Refute it at one input. -/
def stackHoldsWrong : ChangeSpec := { name := "stackHolds", fn := fun _ => fun
  | [d1, d2] => { results := [.lit (.bool false)], args := [d1, d2] }
  | _ => none }
def StackHoldsWrongFalsely : Prop := stackHoldsRow.holds Tryz.pinned (OpenSpec.ofChange stackHoldsWrong)

/-- 'linesmanlaw10.ImageEach': WHATEVER THE INPUT: true; the input reads as it did. -/
def imageEachSpec : ChangeSpec := { name := "imageEach", fn := fun _ => fun
  | [d1, d2, d3] => { results := [.lit (.bool true)], args := [d1, d2, d3] }
  | _ => none }
def imageEachRow : OpenClaim := { program := "ytkkkcafkepnecaagreat", sum := "075b5a3ffa24f17c000ba0443539f8a0e9b2024e6b2526f1d0cadf1cb86e141f", func := "linesman/linesmanlaw10.ImageEach", spec := "imageEach", unfollowed := true, recurses := true, apart := false }
def ImageEachSaid : Prop := imageEachRow.holds Tryz.pinned (OpenSpec.ofChange imageEachSpec)

/-- ITS FALSE NEIGHBOUR: 'it returns false'. Refute it at one input. -/
def imageEachWrong : ChangeSpec := { name := "imageEach", fn := fun _ => fun
  | [d1, d2, d3] => { results := [.lit (.bool false)], args := [d1, d2, d3] }
  | _ => none }
def ImageEachWrongFalsely : Prop := imageEachRow.holds Tryz.pinned (OpenSpec.ofChange imageEachWrong)

/-- 'linesmanlaw12.StackNone': WHATEVER THE INPUT: true; the input reads as it did. -/
def stackNoneSpec : ChangeSpec := { name := "stackNone", fn := fun _ => fun
  | [d1, d2] => { results := [.lit (.bool true)], args := [d1, d2] }
  | _ => none }
def stackNoneRow : OpenClaim := { program := "ytkkkcafkepnecaagreat", sum := "075b5a3ffa24f17c000ba0443539f8a0e9b2024e6b2526f1d0cadf1cb86e141f", func := "linesman/linesmanlaw12.StackNone", spec := "stackNone", unfollowed := true, recurses := true, apart := false }
def StackNoneSaid : Prop := stackNoneRow.holds Tryz.pinned (OpenSpec.ofChange stackNoneSpec)

/-- ITS FALSE NEIGHBOUR: 'it returns false'. Refute it at one input. -/
def stackNoneWrong : ChangeSpec := { name := "stackNone", fn := fun _ => fun
  | [d1, d2] => { results := [.lit (.bool false)], args := [d1, d2] }
  | _ => none }
def StackNoneWrongFalsely : Prop := stackNoneRow.holds Tryz.pinned (OpenSpec.ofChange stackNoneWrong)

/-- 'linesmanlaw17.FiberHolds': WHATEVER THE INPUT: true; the input reads as it did. -/
def fiberHoldsSpec : ChangeSpec := { name := "fiberHolds", fn := fun _ => fun
  | [d1, d2] => { results := [.lit (.bool true)], args := [d1, d2] }
  | _ => none }
def fiberHoldsRow : OpenClaim := { program := "ytkkkcafkepnecaagreat", sum := "075b5a3ffa24f17c000ba0443539f8a0e9b2024e6b2526f1d0cadf1cb86e141f", func := "linesman/linesmanlaw17.FiberHolds", spec := "fiberHolds", unfollowed := true, recurses := true, apart := false }
def FiberHoldsSaid : Prop := fiberHoldsRow.holds Tryz.pinned (OpenSpec.ofChange fiberHoldsSpec)

/-- ITS FALSE NEIGHBOUR: 'it returns false'. Refute it at one input. -/
def fiberHoldsWrong : ChangeSpec := { name := "fiberHolds", fn := fun _ => fun
  | [d1, d2] => { results := [.lit (.bool false)], args := [d1, d2] }
  | _ => none }
def FiberHoldsWrongFalsely : Prop := fiberHoldsRow.holds Tryz.pinned (OpenSpec.ofChange fiberHoldsWrong)

/-- 'linesmanlaw17.FiberNone': WHATEVER THE INPUT: true; the input reads as it did. -/
def fiberNoneSpec : ChangeSpec := { name := "fiberNone", fn := fun _ => fun
  | [d1, d2, d3] => { results := [.lit (.bool true)], args := [d1, d2, d3] }
  | _ => none }
def fiberNoneRow : OpenClaim := { program := "ytkkkcafkepnecaagreat", sum := "075b5a3ffa24f17c000ba0443539f8a0e9b2024e6b2526f1d0cadf1cb86e141f", func := "linesman/linesmanlaw17.FiberNone", spec := "fiberNone", unfollowed := true, recurses := true, apart := false }
def FiberNoneSaid : Prop := fiberNoneRow.holds Tryz.pinned (OpenSpec.ofChange fiberNoneSpec)

/-- ITS FALSE NEIGHBOUR: 'it returns false'. Refute it at one input. -/
def fiberNoneWrong : ChangeSpec := { name := "fiberNone", fn := fun _ => fun
  | [d1, d2, d3] => { results := [.lit (.bool false)], args := [d1, d2, d3] }
  | _ => none }
def FiberNoneWrongFalsely : Prop := fiberNoneRow.holds Tryz.pinned (OpenSpec.ofChange fiberNoneWrong)

/- THE SECOND FORM. 'bulk': how many values and letters a reading holds, each counted each time it is reached (what is shared counts as often as it is met; a slice's spare places count too). A statement '..UptoSaid' is the law's where the arguments, and the package variables that the reading takes, are together of bulk at most 1048576: NARROWER than '..Said'. Prove '..Said' where nothing that the law and all that it calls make is longer than what came in: it says more and counts as full. Else prove '..UptoSaid'. A law counts once. -/
mutual
def uptoBulk {H : Type} : DataW H → Nat
  | .lit (.string bytes) => bytes.length + 1
  | .lit _ => 1
  | .nil => 1
  | .ptr d => uptoBulk d + 1
  | .slice elems spare => uptoBulkAll elems + uptoBulkAll spare + 1
  | .agg parts => uptoBulkAll parts + 1
  | .iface _ d => uptoBulk d + 1
  | .map entries => uptoBulkEntries entries + 1
  | .held _ => 1
def uptoBulkAll {H : Type} : List (DataW H) → Nat
  | [] => 0
  | d :: r => uptoBulk d + uptoBulkAll r
def uptoBulkEntries {H : Type} : List (Lit × DataW H) → Nat
  | [] => 0
  | x :: r => uptoBulkEntry x + uptoBulkEntries r
def uptoBulkEntry {H : Type} : Lit × DataW H → Nat
  | (.string bytes, d) => bytes.length + uptoBulk d + 1
  | (_, d) => uptoBulk d + 1
 end
def uptoSmall : (H : Type) → List (DataW H) → Bool := fun _ ds => decide (uptoBulkAll ds ≤ 1048576)
def OpenSpec.upto (s : _root_.Go.ChangeSpec) : _root_.Go.OpenSpec := { _root_.Go.OpenSpec.ofChange s with cond := some uptoSmall }

/-- 'linesmanlaw12.StackStarts', WHERE WHAT IT READS IS OF BULK AT MOST 1048576: true; the input reads as it did. -/
def stackStartsUptoRow : OpenClaim := { program := "ytkkkcafkepnecaagreat", sum := "075b5a3ffa24f17c000ba0443539f8a0e9b2024e6b2526f1d0cadf1cb86e141f", func := "linesman/linesmanlaw12.StackStarts", spec := "stackStarts", unfollowed := true, recurses := true, apart := false, narrowed := true }
def StackStartsUptoSaid : Prop := stackStartsUptoRow.holds Tryz.pinned (OpenSpec.upto stackStartsSpec)

/-- 'linesmanlaw10.ImageSealed', WHERE WHAT IT READS IS OF BULK AT MOST 1048576: true; the input reads as it did. -/
def imageSealedUptoRow : OpenClaim := { program := "ytkkkcafkepnecaagreat", sum := "075b5a3ffa24f17c000ba0443539f8a0e9b2024e6b2526f1d0cadf1cb86e141f", func := "linesman/linesmanlaw10.ImageSealed", spec := "imageSealed", unfollowed := true, recurses := true, apart := false, narrowed := true }
def ImageSealedUptoSaid : Prop := imageSealedUptoRow.holds Tryz.pinned (OpenSpec.upto imageSealedSpec)

/-- 'linesmanlaw10.ImageEncodes', WHERE WHAT IT READS IS OF BULK AT MOST 1048576: true; the input reads as it did. -/
def imageEncodesUptoRow : OpenClaim := { program := "ytkkkcafkepnecaagreat", sum := "075b5a3ffa24f17c000ba0443539f8a0e9b2024e6b2526f1d0cadf1cb86e141f", func := "linesman/linesmanlaw10.ImageEncodes", spec := "imageEncodes", unfollowed := true, recurses := true, apart := false, narrowed := true }
def ImageEncodesUptoSaid : Prop := imageEncodesUptoRow.holds Tryz.pinned (OpenSpec.upto imageEncodesSpec)

/-- 'linesmanlaw12.StackHolds', WHERE WHAT IT READS IS OF BULK AT MOST 1048576: true; the input reads as it did. -/
def stackHoldsUptoRow : OpenClaim := { program := "ytkkkcafkepnecaagreat", sum := "075b5a3ffa24f17c000ba0443539f8a0e9b2024e6b2526f1d0cadf1cb86e141f", func := "linesman/linesmanlaw12.StackHolds", spec := "stackHolds", unfollowed := true, recurses := true, apart := false, narrowed := true }
def StackHoldsUptoSaid : Prop := stackHoldsUptoRow.holds Tryz.pinned (OpenSpec.upto stackHoldsSpec)

/-- 'linesmanlaw10.ImageEach', WHERE WHAT IT READS IS OF BULK AT MOST 1048576: true; the input reads as it did. -/
def imageEachUptoRow : OpenClaim := { program := "ytkkkcafkepnecaagreat", sum := "075b5a3ffa24f17c000ba0443539f8a0e9b2024e6b2526f1d0cadf1cb86e141f", func := "linesman/linesmanlaw10.ImageEach", spec := "imageEach", unfollowed := true, recurses := true, apart := false, narrowed := true }
def ImageEachUptoSaid : Prop := imageEachUptoRow.holds Tryz.pinned (OpenSpec.upto imageEachSpec)

/-- 'linesmanlaw12.StackNone', WHERE WHAT IT READS IS OF BULK AT MOST 1048576: true; the input reads as it did. -/
def stackNoneUptoRow : OpenClaim := { program := "ytkkkcafkepnecaagreat", sum := "075b5a3ffa24f17c000ba0443539f8a0e9b2024e6b2526f1d0cadf1cb86e141f", func := "linesman/linesmanlaw12.StackNone", spec := "stackNone", unfollowed := true, recurses := true, apart := false, narrowed := true }
def StackNoneUptoSaid : Prop := stackNoneUptoRow.holds Tryz.pinned (OpenSpec.upto stackNoneSpec)

/-- 'linesmanlaw17.FiberHolds', WHERE WHAT IT READS IS OF BULK AT MOST 1048576: true; the input reads as it did. -/
def fiberHoldsUptoRow : OpenClaim := { program := "ytkkkcafkepnecaagreat", sum := "075b5a3ffa24f17c000ba0443539f8a0e9b2024e6b2526f1d0cadf1cb86e141f", func := "linesman/linesmanlaw17.FiberHolds", spec := "fiberHolds", unfollowed := true, recurses := true, apart := false, narrowed := true }
def FiberHoldsUptoSaid : Prop := fiberHoldsUptoRow.holds Tryz.pinned (OpenSpec.upto fiberHoldsSpec)

/-- 'linesmanlaw17.FiberNone', WHERE WHAT IT READS IS OF BULK AT MOST 1048576: true; the input reads as it did. -/
def fiberNoneUptoRow : OpenClaim := { program := "ytkkkcafkepnecaagreat", sum := "075b5a3ffa24f17c000ba0443539f8a0e9b2024e6b2526f1d0cadf1cb86e141f", func := "linesman/linesmanlaw17.FiberNone", spec := "fiberNone", unfollowed := true, recurses := true, apart := false, narrowed := true }
def FiberNoneUptoSaid : Prop := fiberNoneUptoRow.holds Tryz.pinned (OpenSpec.upto fiberNoneSpec)

end Rows
end Go.Proofs.YtkkkcafkepnecaaGreat
