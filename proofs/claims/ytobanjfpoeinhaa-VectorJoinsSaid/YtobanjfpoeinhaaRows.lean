/-
  No cell of these rows narrows 'for every input' (looked for: loops, veiled, ifaces, maps, wideKeys, modest, calm, conditions, laid).
  DERIVED. THE GIVEN ROWS OF THIS SEAT. 5 by the template 'for every input the law returns true; each argument reads behind the call as it read before'; 0 by the template 'total and deterministic' (their statements: YtobanjfpoeinhaaTotals.lean).
  GIVEN WITH THE SEED: the statements are not yours to turn. If you find one false, say at which input.
  Laid BY PROGRAM, IN A SANDBOX (cutbox-rows.mjs): the forced cells as the released guide's own fill.sh prints them over the translation 13b3b7665ff79c0d… (all of the seat's roots in one cut). By AI agents, Wed Nov 11 2026. No macro, syntax, notation, axiom, sorry.
-/
import Derived.Test.YtobanjfpoeinhaaChecked
import GoSem.Claim
import GoSem.ClaimJoined
import GoSem.ClaimMapViews
import Derived.JoinedTies
import Derived.KernelRfl
namespace Go.Proofs.Ytobanjfpoeinhaa
/- THE CELL 'sum', in the pinned program and in every row, IS THE sha256 OF THE DUMP (.gsa) THAT YtobanjfpoeinhaaProg.lean LOADS. Nothing in Lean hashes anything: it is a label: what it is worth is what the hold of that sum in a sandbox is worth. -/
noncomputable def Try.pinned : Pinned := { name := "ytobanjfpoeinhaa", sum := "13b3b7665ff79c0d5e54c2877e0a6e2352ed11b21e5e0bcf53e13900c1819cef", checked := Try.checked }
namespace Rows
def none {H : Type} : Left H := { results := [], args := [] }

/-- 'linesmanlaw04.VectorTells': WHATEVER THE INPUT: true; the input reads as it did. -/
def vectorTellsSpec : ChangeSpec := { name := "vectorTells", fn := fun _ => fun
  | [d1, d2, d3] => { results := [.lit (.bool true)], args := [d1, d2, d3] }
  | _ => none }
def vectorTellsRow : OpenClaim := { program := "ytobanjfpoeinhaa", sum := "13b3b7665ff79c0d5e54c2877e0a6e2352ed11b21e5e0bcf53e13900c1819cef", func := "linesman/linesmanlaw04.VectorTells", spec := "vectorTells", unfollowed := true, recurses := true, apart := false }
def VectorTellsSaid : Prop := vectorTellsRow.holds Try.pinned (OpenSpec.ofChange vectorTellsSpec)

/-- ITS FALSE NEIGHBOUR: 'it returns false'. Refute it at one input. -/
def vectorTellsWrong : ChangeSpec := { name := "vectorTells", fn := fun _ => fun
  | [d1, d2, d3] => { results := [.lit (.bool false)], args := [d1, d2, d3] }
  | _ => none }
def VectorTellsWrongFalsely : Prop := vectorTellsRow.holds Try.pinned (OpenSpec.ofChange vectorTellsWrong)

/-- 'linesmanlaw04.VectorTicks': WHATEVER THE INPUT: true; the input reads as it did. -/
def vectorTicksSpec : ChangeSpec := { name := "vectorTicks", fn := fun _ => fun
  | [d1, d2, d3] => { results := [.lit (.bool true)], args := [d1, d2, d3] }
  | _ => none }
def vectorTicksRow : OpenClaim := { program := "ytobanjfpoeinhaa", sum := "13b3b7665ff79c0d5e54c2877e0a6e2352ed11b21e5e0bcf53e13900c1819cef", func := "linesman/linesmanlaw04.VectorTicks", spec := "vectorTicks", unfollowed := true, recurses := true, apart := false }
def VectorTicksSaid : Prop := vectorTicksRow.holds Try.pinned (OpenSpec.ofChange vectorTicksSpec)

/-- ITS FALSE NEIGHBOUR: 'it returns false'. Refute it at one input. -/
def vectorTicksWrong : ChangeSpec := { name := "vectorTicks", fn := fun _ => fun
  | [d1, d2, d3] => { results := [.lit (.bool false)], args := [d1, d2, d3] }
  | _ => none }
def VectorTicksWrongFalsely : Prop := vectorTicksRow.holds Try.pinned (OpenSpec.ofChange vectorTicksWrong)

/-- 'linesmanlaw04.VectorJoins': WHATEVER THE INPUT: true; the input reads as it did. -/
def vectorJoinsSpec : ChangeSpec := { name := "vectorJoins", fn := fun _ => fun
  | [d] => { results := [.lit (.bool true)], args := [d] }
  | _ => none }
def vectorJoinsRow : OpenClaim := { program := "ytobanjfpoeinhaa", sum := "13b3b7665ff79c0d5e54c2877e0a6e2352ed11b21e5e0bcf53e13900c1819cef", func := "linesman/linesmanlaw04.VectorJoins", spec := "vectorJoins", unfollowed := true, recurses := true, apart := false }
def VectorJoinsSaid : Prop := vectorJoinsRow.holds Try.pinned (OpenSpec.ofChange vectorJoinsSpec)

/-- ITS FALSE NEIGHBOUR: 'it returns false'. Refute it at one input. -/
def vectorJoinsWrong : ChangeSpec := { name := "vectorJoins", fn := fun _ => fun
  | [d] => { results := [.lit (.bool false)], args := [d] }
  | _ => none }
def VectorJoinsWrongFalsely : Prop := vectorJoinsRow.holds Try.pinned (OpenSpec.ofChange vectorJoinsWrong)

/-- 'linesmanlaw04.VectorHolds': WHATEVER THE INPUT: true; the input reads as it did. -/
def vectorHoldsSpec : ChangeSpec := { name := "vectorHolds", fn := fun _ => fun
  | [d1, d2] => { results := [.lit (.bool true)], args := [d1, d2] }
  | _ => none }
def vectorHoldsRow : OpenClaim := { program := "ytobanjfpoeinhaa", sum := "13b3b7665ff79c0d5e54c2877e0a6e2352ed11b21e5e0bcf53e13900c1819cef", func := "linesman/linesmanlaw04.VectorHolds", spec := "vectorHolds", unfollowed := true, recurses := true, apart := false }
def VectorHoldsSaid : Prop := vectorHoldsRow.holds Try.pinned (OpenSpec.ofChange vectorHoldsSpec)

/-- ITS FALSE NEIGHBOUR: 'it returns false'. Refute it at one input. -/
def vectorHoldsWrong : ChangeSpec := { name := "vectorHolds", fn := fun _ => fun
  | [d1, d2] => { results := [.lit (.bool false)], args := [d1, d2] }
  | _ => none }
def VectorHoldsWrongFalsely : Prop := vectorHoldsRow.holds Try.pinned (OpenSpec.ofChange vectorHoldsWrong)

/-- 'linesmanlaw04.VectorEach': WHATEVER THE INPUT: true; the input reads as it did. -/
def vectorEachSpec : ChangeSpec := { name := "vectorEach", fn := fun _ => fun
  | [d1, d2] => { results := [.lit (.bool true)], args := [d1, d2] }
  | _ => none }
def vectorEachRow : OpenClaim := { program := "ytobanjfpoeinhaa", sum := "13b3b7665ff79c0d5e54c2877e0a6e2352ed11b21e5e0bcf53e13900c1819cef", func := "linesman/linesmanlaw04.VectorEach", spec := "vectorEach", unfollowed := true, recurses := true, apart := false }
def VectorEachSaid : Prop := vectorEachRow.holds Try.pinned (OpenSpec.ofChange vectorEachSpec)

/-- ITS FALSE NEIGHBOUR: 'it returns false'. Refute it at one input. -/
def vectorEachWrong : ChangeSpec := { name := "vectorEach", fn := fun _ => fun
  | [d1, d2] => { results := [.lit (.bool false)], args := [d1, d2] }
  | _ => none }
def VectorEachWrongFalsely : Prop := vectorEachRow.holds Try.pinned (OpenSpec.ofChange vectorEachWrong)

/- THE SECOND FORM. 'bulk': how many values and letters a reading holds, each counted each time it is reached (what is shared counts as often as it is met; a slice's spare places count too). A statement '..UptoSaid' is the law's where the arguments, and the package variables that the reading takes, are together of bulk at most 1048576: NARROWER than '..Said'. Prove '..Said' where nothing that the law and all that it calls make is longer than what came in: it says more and counts as full. Else prove '..UptoSaid'. A law counts once. -/
mutual
def uptoBulk {H : Type} : DataW H → Nat
  | .lit (.string bytes) => bytes.length + 1
  | .lit _ => 1
  | .nil => 1
  | .ptr d => uptoBulk d + 1
  | .slice elems spare => uptoBulkAll elems + uptoBulkAll spare + 1
  | .agg parts => uptoBulkAll parts + 1
  | .iface _ d => uptoBulk d + 1
  | .map entries => uptoBulkEntries entries + 1
  | .held _ => 1
def uptoBulkAll {H : Type} : List (DataW H) → Nat
  | [] => 0
  | d :: r => uptoBulk d + uptoBulkAll r
def uptoBulkEntries {H : Type} : List (Lit × DataW H) → Nat
  | [] => 0
  | x :: r => uptoBulkEntry x + uptoBulkEntries r
def uptoBulkEntry {H : Type} : Lit × DataW H → Nat
  | (.string bytes, d) => bytes.length + uptoBulk d + 1
  | (_, d) => uptoBulk d + 1
 end
def uptoSmall : (H : Type) → List (DataW H) → Bool := fun _ ds => decide (uptoBulkAll ds ≤ 1048576)
def OpenSpec.upto (s : _root_.Go.ChangeSpec) : _root_.Go.OpenSpec := { _root_.Go.OpenSpec.ofChange s with cond := some uptoSmall }

/-- 'linesmanlaw04.VectorTells', WHERE WHAT IT READS IS OF BULK AT MOST 1048576: true; the input reads as it did. -/
def vectorTellsUptoRow : OpenClaim := { program := "ytobanjfpoeinhaa", sum := "13b3b7665ff79c0d5e54c2877e0a6e2352ed11b21e5e0bcf53e13900c1819cef", func := "linesman/linesmanlaw04.VectorTells", spec := "vectorTells", unfollowed := true, recurses := true, apart := false, narrowed := true }
def VectorTellsUptoSaid : Prop := vectorTellsUptoRow.holds Try.pinned (OpenSpec.upto vectorTellsSpec)

/-- 'linesmanlaw04.VectorTicks', WHERE WHAT IT READS IS OF BULK AT MOST 1048576: true; the input reads as it did. -/
def vectorTicksUptoRow : OpenClaim := { program := "ytobanjfpoeinhaa", sum := "13b3b7665ff79c0d5e54c2877e0a6e2352ed11b21e5e0bcf53e13900c1819cef", func := "linesman/linesmanlaw04.VectorTicks", spec := "vectorTicks", unfollowed := true, recurses := true, apart := false, narrowed := true }
def VectorTicksUptoSaid : Prop := vectorTicksUptoRow.holds Try.pinned (OpenSpec.upto vectorTicksSpec)

/-- 'linesmanlaw04.VectorJoins', WHERE WHAT IT READS IS OF BULK AT MOST 1048576: true; the input reads as it did. -/
def vectorJoinsUptoRow : OpenClaim := { program := "ytobanjfpoeinhaa", sum := "13b3b7665ff79c0d5e54c2877e0a6e2352ed11b21e5e0bcf53e13900c1819cef", func := "linesman/linesmanlaw04.VectorJoins", spec := "vectorJoins", unfollowed := true, recurses := true, apart := false, narrowed := true }
def VectorJoinsUptoSaid : Prop := vectorJoinsUptoRow.holds Try.pinned (OpenSpec.upto vectorJoinsSpec)

/-- 'linesmanlaw04.VectorHolds', WHERE WHAT IT READS IS OF BULK AT MOST 1048576: true; the input reads as it did. -/
def vectorHoldsUptoRow : OpenClaim := { program := "ytobanjfpoeinhaa", sum := "13b3b7665ff79c0d5e54c2877e0a6e2352ed11b21e5e0bcf53e13900c1819cef", func := "linesman/linesmanlaw04.VectorHolds", spec := "vectorHolds", unfollowed := true, recurses := true, apart := false, narrowed := true }
def VectorHoldsUptoSaid : Prop := vectorHoldsUptoRow.holds Try.pinned (OpenSpec.upto vectorHoldsSpec)

/-- 'linesmanlaw04.VectorEach', WHERE WHAT IT READS IS OF BULK AT MOST 1048576: true; the input reads as it did. -/
def vectorEachUptoRow : OpenClaim := { program := "ytobanjfpoeinhaa", sum := "13b3b7665ff79c0d5e54c2877e0a6e2352ed11b21e5e0bcf53e13900c1819cef", func := "linesman/linesmanlaw04.VectorEach", spec := "vectorEach", unfollowed := true, recurses := true, apart := false, narrowed := true }
def VectorEachUptoSaid : Prop := vectorEachUptoRow.holds Try.pinned (OpenSpec.upto vectorEachSpec)

end Rows
end Go.Proofs.Ytobanjfpoeinhaa
