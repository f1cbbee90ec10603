/-
  No cell of these rows narrows 'for every input' (looked for: loops, veiled, ifaces, maps, wideKeys, modest, calm, conditions, laid).
  DERIVED. THE GIVEN ROWS OF THIS SEAT. 4 by the template 'for every input the law returns true; each argument reads behind the call as it read before'; 0 by the template 'total and deterministic' (their statements: YtaifohjgamhhnaaTotals.lean).
  GIVEN WITH THE SEED: the statements are not yours to turn. If you find one false, say at which input.
  Laid BY PROGRAM, IN A SANDBOX (cutbox-rows.mjs): the forced cells as the released guide's own fill.sh prints them over the translation 2d01c6a3247c09f5… (all of the seat's roots in one cut). By AI agents, Wed Nov 11 2026. No macro, syntax, notation, axiom, sorry.
-/
import Derived.Test.YtaifohjgamhhnaaChecked
import GoSem.Claim
import GoSem.ClaimJoined
import GoSem.ClaimMapViews
import Derived.JoinedTies
import Derived.KernelRfl
namespace Go.Proofs.Ytaifohjgamhhnaa
/- THE CELL 'sum', in the pinned program and in every row, IS THE sha256 OF THE DUMP (.gsa) THAT YtaifohjgamhhnaaProg.lean LOADS. Nothing in Lean hashes anything: it is a label: what it is worth is what the hold of that sum in a sandbox is worth. -/
noncomputable def Try.pinned : Pinned := { name := "ytaifohjgamhhnaa", sum := "2d01c6a3247c09f567aa3b8ed7277fd5a7497ea7b3094722f83b07b9d363f73e", checked := Try.checked }
namespace Rows
def none {H : Type} : Left H := { results := [], args := [] }

/-- 'linesmanlaw14.RwlockHolds': WHATEVER THE INPUT: true; the input reads as it did. -/
def rwlockHoldsSpec : ChangeSpec := { name := "rwlockHolds", fn := fun _ => fun
  | [d1, d2] => { results := [.lit (.bool true)], args := [d1, d2] }
  | _ => none }
def rwlockHoldsRow : OpenClaim := { program := "ytaifohjgamhhnaa", sum := "2d01c6a3247c09f567aa3b8ed7277fd5a7497ea7b3094722f83b07b9d363f73e", func := "linesman/linesmanlaw14.RwlockHolds", spec := "rwlockHolds", unfollowed := true, recurses := true, apart := false }
def RwlockHoldsSaid : Prop := rwlockHoldsRow.holds Try.pinned (OpenSpec.ofChange rwlockHoldsSpec)

/-- ITS FALSE NEIGHBOUR: 'it returns false'. Refute it at one input. -/
def rwlockHoldsWrong : ChangeSpec := { name := "rwlockHolds", fn := fun _ => fun
  | [d1, d2] => { results := [.lit (.bool false)], args := [d1, d2] }
  | _ => none }
def RwlockHoldsWrongFalsely : Prop := rwlockHoldsRow.holds Try.pinned (OpenSpec.ofChange rwlockHoldsWrong)

/-- 'linesmanlaw14.RwlockPlays': WHATEVER THE INPUT: true; the input reads as it did. -/
def rwlockPlaysSpec : ChangeSpec := { name := "rwlockPlays", fn := fun _ => fun
  | [d1, d2] => { results := [.lit (.bool true)], args := [d1, d2] }
  | _ => none }
def rwlockPlaysRow : OpenClaim := { program := "ytaifohjgamhhnaa", sum := "2d01c6a3247c09f567aa3b8ed7277fd5a7497ea7b3094722f83b07b9d363f73e", func := "linesman/linesmanlaw14.RwlockPlays", spec := "rwlockPlays", unfollowed := true, recurses := true, apart := false }
def RwlockPlaysSaid : Prop := rwlockPlaysRow.holds Try.pinned (OpenSpec.ofChange rwlockPlaysSpec)

/-- ITS FALSE NEIGHBOUR: 'it returns false'. Refute it at one input. -/
def rwlockPlaysWrong : ChangeSpec := { name := "rwlockPlays", fn := fun _ => fun
  | [d1, d2] => { results := [.lit (.bool false)], args := [d1, d2] }
  | _ => none }
def RwlockPlaysWrongFalsely : Prop := rwlockPlaysRow.holds Try.pinned (OpenSpec.ofChange rwlockPlaysWrong)

/-- 'linesmanlaw14.RwlockCopies': WHATEVER THE INPUT: true; the input reads as it did. -/
def rwlockCopiesSpec : ChangeSpec := { name := "rwlockCopies", fn := fun _ => fun
  | [d1, d2, d3] => { results := [.lit (.bool true)], args := [d1, d2, d3] }
  | _ => none }
def rwlockCopiesRow : OpenClaim := { program := "ytaifohjgamhhnaa", sum := "2d01c6a3247c09f567aa3b8ed7277fd5a7497ea7b3094722f83b07b9d363f73e", func := "linesman/linesmanlaw14.RwlockCopies", spec := "rwlockCopies", unfollowed := true, recurses := true, apart := false }
def RwlockCopiesSaid : Prop := rwlockCopiesRow.holds Try.pinned (OpenSpec.ofChange rwlockCopiesSpec)

/-- ITS FALSE NEIGHBOUR: 'it returns false'. Refute it at one input. -/
def rwlockCopiesWrong : ChangeSpec := { name := "rwlockCopies", fn := fun _ => fun
  | [d1, d2, d3] => { results := [.lit (.bool false)], args := [d1, d2, d3] }
  | _ => none }
def RwlockCopiesWrongFalsely : Prop := rwlockCopiesRow.holds Try.pinned (OpenSpec.ofChange rwlockCopiesWrong)

/-- 'linesmanlaw14.RwlockNone': WHATEVER THE INPUT: true; the input reads as it did. -/
def rwlockNoneSpec : ChangeSpec := { name := "rwlockNone", fn := fun _ => fun
  | [d1, d2] => { results := [.lit (.bool true)], args := [d1, d2] }
  | _ => none }
def rwlockNoneRow : OpenClaim := { program := "ytaifohjgamhhnaa", sum := "2d01c6a3247c09f567aa3b8ed7277fd5a7497ea7b3094722f83b07b9d363f73e", func := "linesman/linesmanlaw14.RwlockNone", spec := "rwlockNone", unfollowed := true, recurses := true, apart := false }
def RwlockNoneSaid : Prop := rwlockNoneRow.holds Try.pinned (OpenSpec.ofChange rwlockNoneSpec)

/-- ITS FALSE NEIGHBOUR: 'it returns false'. Refute it at one input. -/
def rwlockNoneWrong : ChangeSpec := { name := "rwlockNone", fn := fun _ => fun
  | [d1, d2] => { results := [.lit (.bool false)], args := [d1, d2] }
  | _ => none }
def RwlockNoneWrongFalsely : Prop := rwlockNoneRow.holds Try.pinned (OpenSpec.ofChange rwlockNoneWrong)

/- THE SECOND FORM. 'bulk': how many values and letters a reading holds, each counted each time it is reached (what is shared counts as often as it is met; a slice's spare places count too). A statement '..UptoSaid' is the law's where the arguments, and the package variables that the reading takes, are together of bulk at most 1048576: NARROWER than '..Said'. Prove '..Said' where nothing that the law and all that it calls make is longer than what came in: it says more and counts as full. Else prove '..UptoSaid'. A law counts once. -/
mutual
def uptoBulk {H : Type} : DataW H → Nat
  | .lit (.string bytes) => bytes.length + 1
  | .lit _ => 1
  | .nil => 1
  | .ptr d => uptoBulk d + 1
  | .slice elems spare => uptoBulkAll elems + uptoBulkAll spare + 1
  | .agg parts => uptoBulkAll parts + 1
  | .iface _ d => uptoBulk d + 1
  | .map entries => uptoBulkEntries entries + 1
  | .held _ => 1
def uptoBulkAll {H : Type} : List (DataW H) → Nat
  | [] => 0
  | d :: r => uptoBulk d + uptoBulkAll r
def uptoBulkEntries {H : Type} : List (Lit × DataW H) → Nat
  | [] => 0
  | x :: r => uptoBulkEntry x + uptoBulkEntries r
def uptoBulkEntry {H : Type} : Lit × DataW H → Nat
  | (.string bytes, d) => bytes.length + uptoBulk d + 1
  | (_, d) => uptoBulk d + 1
 end
def uptoSmall : (H : Type) → List (DataW H) → Bool := fun _ ds => decide (uptoBulkAll ds ≤ 1048576)
def OpenSpec.upto (s : _root_.Go.ChangeSpec) : _root_.Go.OpenSpec := { _root_.Go.OpenSpec.ofChange s with cond := some uptoSmall }

/-- 'linesmanlaw14.RwlockHolds', WHERE WHAT IT READS IS OF BULK AT MOST 1048576: true; the input reads as it did. -/
def rwlockHoldsUptoRow : OpenClaim := { program := "ytaifohjgamhhnaa", sum := "2d01c6a3247c09f567aa3b8ed7277fd5a7497ea7b3094722f83b07b9d363f73e", func := "linesman/linesmanlaw14.RwlockHolds", spec := "rwlockHolds", unfollowed := true, recurses := true, apart := false, narrowed := true }
def RwlockHoldsUptoSaid : Prop := rwlockHoldsUptoRow.holds Try.pinned (OpenSpec.upto rwlockHoldsSpec)

/-- 'linesmanlaw14.RwlockPlays', WHERE WHAT IT READS IS OF BULK AT MOST 1048576: true; the input reads as it did. -/
def rwlockPlaysUptoRow : OpenClaim := { program := "ytaifohjgamhhnaa", sum := "2d01c6a3247c09f567aa3b8ed7277fd5a7497ea7b3094722f83b07b9d363f73e", func := "linesman/linesmanlaw14.RwlockPlays", spec := "rwlockPlays", unfollowed := true, recurses := true, apart := false, narrowed := true }
def RwlockPlaysUptoSaid : Prop := rwlockPlaysUptoRow.holds Try.pinned (OpenSpec.upto rwlockPlaysSpec)

/-- 'linesmanlaw14.RwlockCopies', WHERE WHAT IT READS IS OF BULK AT MOST 1048576: true; the input reads as it did. -/
def rwlockCopiesUptoRow : OpenClaim := { program := "ytaifohjgamhhnaa", sum := "2d01c6a3247c09f567aa3b8ed7277fd5a7497ea7b3094722f83b07b9d363f73e", func := "linesman/linesmanlaw14.RwlockCopies", spec := "rwlockCopies", unfollowed := true, recurses := true, apart := false, narrowed := true }
def RwlockCopiesUptoSaid : Prop := rwlockCopiesUptoRow.holds Try.pinned (OpenSpec.upto rwlockCopiesSpec)

/-- 'linesmanlaw14.RwlockNone', WHERE WHAT IT READS IS OF BULK AT MOST 1048576: true; the input reads as it did. -/
def rwlockNoneUptoRow : OpenClaim := { program := "ytaifohjgamhhnaa", sum := "2d01c6a3247c09f567aa3b8ed7277fd5a7497ea7b3094722f83b07b9d363f73e", func := "linesman/linesmanlaw14.RwlockNone", spec := "rwlockNone", unfollowed := true, recurses := true, apart := false, narrowed := true }
def RwlockNoneUptoSaid : Prop := rwlockNoneUptoRow.holds Try.pinned (OpenSpec.upto rwlockNoneSpec)

end Rows
end Go.Proofs.Ytaifohjgamhhnaa
