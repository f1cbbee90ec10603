/-
  No cell of these rows narrows 'for every input' (looked for: loops, veiled, ifaces, maps, wideKeys, modest, calm, conditions, laid).
  DERIVED. THE GIVEN ROWS OF THIS SEAT. 10 by the template 'for every input the law returns true; each argument reads behind the call as it read before'; 0 by the template 'total and deterministic' (their statements: YtplobehejancpaaTotals.lean).
  GIVEN WITH THE SEED: the statements are not yours to turn. If you find one false, say at which input.
  Laid BY PROGRAM, IN A SANDBOX (cutbox-rows.mjs): the forced cells as the released guide's own fill.sh prints them over the translation c9a179a5cd3351c4… (all of the seat's roots in one cut). By AI agents, Wed Nov 11 2026. No macro, syntax, notation, axiom, sorry.
-/
import Derived.Test.YtplobehejancpaaChecked
import GoSem.Claim
import GoSem.ClaimJoined
import GoSem.ClaimMapViews
import Derived.JoinedTies
import Derived.KernelRfl
namespace Go.Proofs.Ytplobehejancpaa
/- THE CELL 'sum', in the pinned program and in every row, IS THE sha256 OF THE DUMP (.gsa) THAT YtplobehejancpaaProg.lean LOADS. Nothing in Lean hashes anything: it is a label: what it is worth is what the hold of that sum in a sandbox is worth. -/
noncomputable def Try.pinned : Pinned := { name := "ytplobehejancpaa", sum := "c9a179a5cd3351c43151907fabdae56d5ca839d5beb09f790bb91969dcfc8337", checked := Try.checked }
namespace Rows
def none {H : Type} : Left H := { results := [], args := [] }

/-- 'linesmanlaw01.OctetFixed': WHATEVER THE INPUT: true; the input reads as it did. -/
def octetFixedSpec : ChangeSpec := { name := "octetFixed", fn := fun _ => fun
  | [d1, d2, d3] => { results := [.lit (.bool true)], args := [d1, d2, d3] }
  | _ => none }
def octetFixedRow : OpenClaim := { program := "ytplobehejancpaa", sum := "c9a179a5cd3351c43151907fabdae56d5ca839d5beb09f790bb91969dcfc8337", func := "linesman/linesmanlaw01.OctetFixed", spec := "octetFixed", unfollowed := true, recurses := true, apart := false }
def OctetFixedSaid : Prop := octetFixedRow.holds Try.pinned (OpenSpec.ofChange octetFixedSpec)

/-- ITS FALSE NEIGHBOUR: 'it returns false'. Refute it at one input. -/
def octetFixedWrong : ChangeSpec := { name := "octetFixed", fn := fun _ => fun
  | [d1, d2, d3] => { results := [.lit (.bool false)], args := [d1, d2, d3] }
  | _ => none }
def OctetFixedWrongFalsely : Prop := octetFixedRow.holds Try.pinned (OpenSpec.ofChange octetFixedWrong)

/-- 'linesmanlaw01.OctetNumbers': WHATEVER THE INPUT: true; the input reads as it did. -/
def octetNumbersSpec : ChangeSpec := { name := "octetNumbers", fn := fun _ => fun
  | [d1, d2] => { results := [.lit (.bool true)], args := [d1, d2] }
  | _ => none }
def octetNumbersRow : OpenClaim := { program := "ytplobehejancpaa", sum := "c9a179a5cd3351c43151907fabdae56d5ca839d5beb09f790bb91969dcfc8337", func := "linesman/linesmanlaw01.OctetNumbers", spec := "octetNumbers", unfollowed := true, recurses := true, apart := false }
def OctetNumbersSaid : Prop := octetNumbersRow.holds Try.pinned (OpenSpec.ofChange octetNumbersSpec)

/-- ITS FALSE NEIGHBOUR: 'it returns false'. Refute it at one input. -/
def octetNumbersWrong : ChangeSpec := { name := "octetNumbers", fn := fun _ => fun
  | [d1, d2] => { results := [.lit (.bool false)], args := [d1, d2] }
  | _ => none }
def OctetNumbersWrongFalsely : Prop := octetNumbersRow.holds Try.pinned (OpenSpec.ofChange octetNumbersWrong)

/-- 'linesmanlaw01.OctetTexts': WHATEVER THE INPUT: true; the input reads as it did. -/
def octetTextsSpec : ChangeSpec := { name := "octetTexts", fn := fun _ => fun
  | [d1, d2] => { results := [.lit (.bool true)], args := [d1, d2] }
  | _ => none }
def octetTextsRow : OpenClaim := { program := "ytplobehejancpaa", sum := "c9a179a5cd3351c43151907fabdae56d5ca839d5beb09f790bb91969dcfc8337", func := "linesman/linesmanlaw01.OctetTexts", spec := "octetTexts", unfollowed := true, recurses := true, apart := false }
def OctetTextsSaid : Prop := octetTextsRow.holds Try.pinned (OpenSpec.ofChange octetTextsSpec)

/-- ITS FALSE NEIGHBOUR: 'it returns false'. Refute it at one input. -/
def octetTextsWrong : ChangeSpec := { name := "octetTexts", fn := fun _ => fun
  | [d1, d2] => { results := [.lit (.bool false)], args := [d1, d2] }
  | _ => none }
def OctetTextsWrongFalsely : Prop := octetTextsRow.holds Try.pinned (OpenSpec.ofChange octetTextsWrong)

/-- 'linesmanlaw01.OctetHolds': WHATEVER THE INPUT: true; the input reads as it did. -/
def octetHoldsSpec : ChangeSpec := { name := "octetHolds", fn := fun _ => fun
  | [d1, d2, d3] => { results := [.lit (.bool true)], args := [d1, d2, d3] }
  | _ => none }
def octetHoldsRow : OpenClaim := { program := "ytplobehejancpaa", sum := "c9a179a5cd3351c43151907fabdae56d5ca839d5beb09f790bb91969dcfc8337", func := "linesman/linesmanlaw01.OctetHolds", spec := "octetHolds", unfollowed := true, recurses := true, apart := false }
def OctetHoldsSaid : Prop := octetHoldsRow.holds Try.pinned (OpenSpec.ofChange octetHoldsSpec)

/-- ITS FALSE NEIGHBOUR: 'it returns false'. Refute it at one input. -/
def octetHoldsWrong : ChangeSpec := { name := "octetHolds", fn := fun _ => fun
  | [d1, d2, d3] => { results := [.lit (.bool false)], args := [d1, d2, d3] }
  | _ => none }
def OctetHoldsWrongFalsely : Prop := octetHoldsRow.holds Try.pinned (OpenSpec.ofChange octetHoldsWrong)

/-- 'linesmanlaw02.DigestSums': WHATEVER THE INPUT: true; the input reads as it did. -/
def digestSumsSpec : ChangeSpec := { name := "digestSums", fn := fun _ => fun
  | [d1, d2] => { results := [.lit (.bool true)], args := [d1, d2] }
  | _ => none }
def digestSumsRow : OpenClaim := { program := "ytplobehejancpaa", sum := "c9a179a5cd3351c43151907fabdae56d5ca839d5beb09f790bb91969dcfc8337", func := "linesman/linesmanlaw02.DigestSums", spec := "digestSums", unfollowed := true, recurses := true, apart := false }
def DigestSumsSaid : Prop := digestSumsRow.holds Try.pinned (OpenSpec.ofChange digestSumsSpec)

/-- ITS FALSE NEIGHBOUR: 'it returns false'. Refute it at one input. -/
def digestSumsWrong : ChangeSpec := { name := "digestSums", fn := fun _ => fun
  | [d1, d2] => { results := [.lit (.bool false)], args := [d1, d2] }
  | _ => none }
def DigestSumsWrongFalsely : Prop := digestSumsRow.holds Try.pinned (OpenSpec.ofChange digestSumsWrong)

/-- 'linesmanlaw02.DigestHolds': WHATEVER THE INPUT: true; the input reads as it did. -/
def digestHoldsSpec : ChangeSpec := { name := "digestHolds", fn := fun _ => fun
  | [d1, d2, d3] => { results := [.lit (.bool true)], args := [d1, d2, d3] }
  | _ => none }
def digestHoldsRow : OpenClaim := { program := "ytplobehejancpaa", sum := "c9a179a5cd3351c43151907fabdae56d5ca839d5beb09f790bb91969dcfc8337", func := "linesman/linesmanlaw02.DigestHolds", spec := "digestHolds", unfollowed := true, recurses := true, apart := false }
def DigestHoldsSaid : Prop := digestHoldsRow.holds Try.pinned (OpenSpec.ofChange digestHoldsSpec)

/-- ITS FALSE NEIGHBOUR: 'it returns false'. Refute it at one input. -/
def digestHoldsWrong : ChangeSpec := { name := "digestHolds", fn := fun _ => fun
  | [d1, d2, d3] => { results := [.lit (.bool false)], args := [d1, d2, d3] }
  | _ => none }
def DigestHoldsWrongFalsely : Prop := digestHoldsRow.holds Try.pinned (OpenSpec.ofChange digestHoldsWrong)

/-- 'linesmanlaw01.OctetEach': WHATEVER THE INPUT: true; the input reads as it did. -/
def octetEachSpec : ChangeSpec := { name := "octetEach", fn := fun _ => fun
  | [d1, d2, d3] => { results := [.lit (.bool true)], args := [d1, d2, d3] }
  | _ => none }
def octetEachRow : OpenClaim := { program := "ytplobehejancpaa", sum := "c9a179a5cd3351c43151907fabdae56d5ca839d5beb09f790bb91969dcfc8337", func := "linesman/linesmanlaw01.OctetEach", spec := "octetEach", unfollowed := true, recurses := true, apart := false }
def OctetEachSaid : Prop := octetEachRow.holds Try.pinned (OpenSpec.ofChange octetEachSpec)

/-- ITS FALSE NEIGHBOUR: 'it returns false'. Refute it at one input. -/
def octetEachWrong : ChangeSpec := { name := "octetEach", fn := fun _ => fun
  | [d1, d2, d3] => { results := [.lit (.bool false)], args := [d1, d2, d3] }
  | _ => none }
def OctetEachWrongFalsely : Prop := octetEachRow.holds Try.pinned (OpenSpec.ofChange octetEachWrong)

/-- 'linesmanlaw02.DigestPlays': WHATEVER THE INPUT: true; the input reads as it did. -/
def digestPlaysSpec : ChangeSpec := { name := "digestPlays", fn := fun _ => fun
  | [d] => { results := [.lit (.bool true)], args := [d] }
  | _ => none }
def digestPlaysRow : OpenClaim := { program := "ytplobehejancpaa", sum := "c9a179a5cd3351c43151907fabdae56d5ca839d5beb09f790bb91969dcfc8337", func := "linesman/linesmanlaw02.DigestPlays", spec := "digestPlays", unfollowed := true, recurses := true, apart := false }
def DigestPlaysSaid : Prop := digestPlaysRow.holds Try.pinned (OpenSpec.ofChange digestPlaysSpec)

/-- ITS FALSE NEIGHBOUR: 'it returns false'. Refute it at one input. -/
def digestPlaysWrong : ChangeSpec := { name := "digestPlays", fn := fun _ => fun
  | [d] => { results := [.lit (.bool false)], args := [d] }
  | _ => none }
def DigestPlaysWrongFalsely : Prop := digestPlaysRow.holds Try.pinned (OpenSpec.ofChange digestPlaysWrong)

/-- 'linesmanlaw02.DigestNone': WHATEVER THE INPUT: true; the input reads as it did. -/
def digestNoneSpec : ChangeSpec := { name := "digestNone", fn := fun _ => fun
  | [d1, d2, d3] => { results := [.lit (.bool true)], args := [d1, d2, d3] }
  | _ => none }
def digestNoneRow : OpenClaim := { program := "ytplobehejancpaa", sum := "c9a179a5cd3351c43151907fabdae56d5ca839d5beb09f790bb91969dcfc8337", func := "linesman/linesmanlaw02.DigestNone", spec := "digestNone", unfollowed := true, recurses := true, apart := false }
def DigestNoneSaid : Prop := digestNoneRow.holds Try.pinned (OpenSpec.ofChange digestNoneSpec)

/-- ITS FALSE NEIGHBOUR: 'it returns false'. Refute it at one input. -/
def digestNoneWrong : ChangeSpec := { name := "digestNone", fn := fun _ => fun
  | [d1, d2, d3] => { results := [.lit (.bool false)], args := [d1, d2, d3] }
  | _ => none }
def DigestNoneWrongFalsely : Prop := digestNoneRow.holds Try.pinned (OpenSpec.ofChange digestNoneWrong)

/-- 'linesmanlaw02.DigestSteps': WHATEVER THE INPUT: true; the input reads as it did. -/
def digestStepsSpec : ChangeSpec := { name := "digestSteps", fn := fun _ => fun
  | [d1, d2] => { results := [.lit (.bool true)], args := [d1, d2] }
  | _ => none }
def digestStepsRow : OpenClaim := { program := "ytplobehejancpaa", sum := "c9a179a5cd3351c43151907fabdae56d5ca839d5beb09f790bb91969dcfc8337", func := "linesman/linesmanlaw02.DigestSteps", spec := "digestSteps", unfollowed := true, recurses := true, apart := false }
def DigestStepsSaid : Prop := digestStepsRow.holds Try.pinned (OpenSpec.ofChange digestStepsSpec)

/-- ITS FALSE NEIGHBOUR: 'it returns false'. Refute it at one input. -/
def digestStepsWrong : ChangeSpec := { name := "digestSteps", fn := fun _ => fun
  | [d1, d2] => { results := [.lit (.bool false)], args := [d1, d2] }
  | _ => none }
def DigestStepsWrongFalsely : Prop := digestStepsRow.holds Try.pinned (OpenSpec.ofChange digestStepsWrong)

/- THE SECOND FORM. 'bulk': how many values and letters a reading holds, each counted each time it is reached (what is shared counts as often as it is met; a slice's spare places count too). A statement '..UptoSaid' is the law's where the arguments, and the package variables that the reading takes, are together of bulk at most 1048576: NARROWER than '..Said'. Prove '..Said' where nothing that the law and all that it calls make is longer than what came in: it says more and counts as full. Else prove '..UptoSaid'. A law counts once. -/
mutual
def uptoBulk {H : Type} : DataW H → Nat
  | .lit (.string bytes) => bytes.length + 1
  | .lit _ => 1
  | .nil => 1
  | .ptr d => uptoBulk d + 1
  | .slice elems spare => uptoBulkAll elems + uptoBulkAll spare + 1
  | .agg parts => uptoBulkAll parts + 1
  | .iface _ d => uptoBulk d + 1
  | .map entries => uptoBulkEntries entries + 1
  | .held _ => 1
def uptoBulkAll {H : Type} : List (DataW H) → Nat
  | [] => 0
  | d :: r => uptoBulk d + uptoBulkAll r
def uptoBulkEntries {H : Type} : List (Lit × DataW H) → Nat
  | [] => 0
  | x :: r => uptoBulkEntry x + uptoBulkEntries r
def uptoBulkEntry {H : Type} : Lit × DataW H → Nat
  | (.string bytes, d) => bytes.length + uptoBulk d + 1
  | (_, d) => uptoBulk d + 1
 end
def uptoSmall : (H : Type) → List (DataW H) → Bool := fun _ ds => decide (uptoBulkAll ds ≤ 1048576)
def OpenSpec.upto (s : _root_.Go.ChangeSpec) : _root_.Go.OpenSpec := { _root_.Go.OpenSpec.ofChange s with cond := some uptoSmall }

/-- 'linesmanlaw01.OctetFixed', WHERE WHAT IT READS IS OF BULK AT MOST 1048576: true; the input reads as it did. -/
def octetFixedUptoRow : OpenClaim := { program := "ytplobehejancpaa", sum := "c9a179a5cd3351c43151907fabdae56d5ca839d5beb09f790bb91969dcfc8337", func := "linesman/linesmanlaw01.OctetFixed", spec := "octetFixed", unfollowed := true, recurses := true, apart := false, narrowed := true }
def OctetFixedUptoSaid : Prop := octetFixedUptoRow.holds Try.pinned (OpenSpec.upto octetFixedSpec)

/-- 'linesmanlaw01.OctetNumbers', WHERE WHAT IT READS IS OF BULK AT MOST 1048576: true; the input reads as it did. -/
def octetNumbersUptoRow : OpenClaim := { program := "ytplobehejancpaa", sum := "c9a179a5cd3351c43151907fabdae56d5ca839d5beb09f790bb91969dcfc8337", func := "linesman/linesmanlaw01.OctetNumbers", spec := "octetNumbers", unfollowed := true, recurses := true, apart := false, narrowed := true }
def OctetNumbersUptoSaid : Prop := octetNumbersUptoRow.holds Try.pinned (OpenSpec.upto octetNumbersSpec)

/-- 'linesmanlaw01.OctetTexts', WHERE WHAT IT READS IS OF BULK AT MOST 1048576: true; the input reads as it did. -/
def octetTextsUptoRow : OpenClaim := { program := "ytplobehejancpaa", sum := "c9a179a5cd3351c43151907fabdae56d5ca839d5beb09f790bb91969dcfc8337", func := "linesman/linesmanlaw01.OctetTexts", spec := "octetTexts", unfollowed := true, recurses := true, apart := false, narrowed := true }
def OctetTextsUptoSaid : Prop := octetTextsUptoRow.holds Try.pinned (OpenSpec.upto octetTextsSpec)

/-- 'linesmanlaw01.OctetHolds', WHERE WHAT IT READS IS OF BULK AT MOST 1048576: true; the input reads as it did. -/
def octetHoldsUptoRow : OpenClaim := { program := "ytplobehejancpaa", sum := "c9a179a5cd3351c43151907fabdae56d5ca839d5beb09f790bb91969dcfc8337", func := "linesman/linesmanlaw01.OctetHolds", spec := "octetHolds", unfollowed := true, recurses := true, apart := false, narrowed := true }
def OctetHoldsUptoSaid : Prop := octetHoldsUptoRow.holds Try.pinned (OpenSpec.upto octetHoldsSpec)

/-- 'linesmanlaw02.DigestSums', WHERE WHAT IT READS IS OF BULK AT MOST 1048576: true; the input reads as it did. -/
def digestSumsUptoRow : OpenClaim := { program := "ytplobehejancpaa", sum := "c9a179a5cd3351c43151907fabdae56d5ca839d5beb09f790bb91969dcfc8337", func := "linesman/linesmanlaw02.DigestSums", spec := "digestSums", unfollowed := true, recurses := true, apart := false, narrowed := true }
def DigestSumsUptoSaid : Prop := digestSumsUptoRow.holds Try.pinned (OpenSpec.upto digestSumsSpec)

/-- 'linesmanlaw02.DigestHolds', WHERE WHAT IT READS IS OF BULK AT MOST 1048576: true; the input reads as it did. -/
def digestHoldsUptoRow : OpenClaim := { program := "ytplobehejancpaa", sum := "c9a179a5cd3351c43151907fabdae56d5ca839d5beb09f790bb91969dcfc8337", func := "linesman/linesmanlaw02.DigestHolds", spec := "digestHolds", unfollowed := true, recurses := true, apart := false, narrowed := true }
def DigestHoldsUptoSaid : Prop := digestHoldsUptoRow.holds Try.pinned (OpenSpec.upto digestHoldsSpec)

/-- 'linesmanlaw01.OctetEach', WHERE WHAT IT READS IS OF BULK AT MOST 1048576: true; the input reads as it did. -/
def octetEachUptoRow : OpenClaim := { program := "ytplobehejancpaa", sum := "c9a179a5cd3351c43151907fabdae56d5ca839d5beb09f790bb91969dcfc8337", func := "linesman/linesmanlaw01.OctetEach", spec := "octetEach", unfollowed := true, recurses := true, apart := false, narrowed := true }
def OctetEachUptoSaid : Prop := octetEachUptoRow.holds Try.pinned (OpenSpec.upto octetEachSpec)

/-- 'linesmanlaw02.DigestPlays', WHERE WHAT IT READS IS OF BULK AT MOST 1048576: true; the input reads as it did. -/
def digestPlaysUptoRow : OpenClaim := { program := "ytplobehejancpaa", sum := "c9a179a5cd3351c43151907fabdae56d5ca839d5beb09f790bb91969dcfc8337", func := "linesman/linesmanlaw02.DigestPlays", spec := "digestPlays", unfollowed := true, recurses := true, apart := false, narrowed := true }
def DigestPlaysUptoSaid : Prop := digestPlaysUptoRow.holds Try.pinned (OpenSpec.upto digestPlaysSpec)

/-- 'linesmanlaw02.DigestNone', WHERE WHAT IT READS IS OF BULK AT MOST 1048576: true; the input reads as it did. -/
def digestNoneUptoRow : OpenClaim := { program := "ytplobehejancpaa", sum := "c9a179a5cd3351c43151907fabdae56d5ca839d5beb09f790bb91969dcfc8337", func := "linesman/linesmanlaw02.DigestNone", spec := "digestNone", unfollowed := true, recurses := true, apart := false, narrowed := true }
def DigestNoneUptoSaid : Prop := digestNoneUptoRow.holds Try.pinned (OpenSpec.upto digestNoneSpec)

/-- 'linesmanlaw02.DigestSteps', WHERE WHAT IT READS IS OF BULK AT MOST 1048576: true; the input reads as it did. -/
def digestStepsUptoRow : OpenClaim := { program := "ytplobehejancpaa", sum := "c9a179a5cd3351c43151907fabdae56d5ca839d5beb09f790bb91969dcfc8337", func := "linesman/linesmanlaw02.DigestSteps", spec := "digestSteps", unfollowed := true, recurses := true, apart := false, narrowed := true }
def DigestStepsUptoSaid : Prop := digestStepsUptoRow.holds Try.pinned (OpenSpec.upto digestStepsSpec)

end Rows
end Go.Proofs.Ytplobehejancpaa
