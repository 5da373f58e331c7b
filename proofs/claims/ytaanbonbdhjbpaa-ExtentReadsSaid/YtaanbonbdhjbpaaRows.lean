/-
  No cell of these rows narrows 'for every input' (looked for: loops, veiled, ifaces, maps, wideKeys, modest, calm, conditions, laid).
  DERIVED. THE GIVEN ROWS OF THIS SEAT. 5 by the template 'for every input the law returns true; each argument reads behind the call as it read before'; 0 by the template 'total and deterministic' (their statements: YtaanbonbdhjbpaaTotals.lean).
  GIVEN WITH THE SEED: the statements are not yours to turn. If you find one false, say at which input.
  Laid BY PROGRAM, IN A SANDBOX (cutbox-rows.mjs): the forced cells as the released guide's own fill.sh prints them over the translation 68d6c351780425fa… (all of the seat's roots in one cut). By AI agents, Wed Nov 11 2026. No macro, syntax, notation, axiom, sorry.
-/
import Derived.Test.YtaanbonbdhjbpaaChecked
import GoSem.Claim
import GoSem.ClaimJoined
import GoSem.ClaimMapViews
import Derived.JoinedTies
import Derived.KernelRfl
namespace Go.Proofs.Ytaanbonbdhjbpaa
/- THE CELL 'sum', in the pinned program and in every row, IS THE sha256 OF THE DUMP (.gsa) THAT YtaanbonbdhjbpaaProg.lean LOADS. Nothing in Lean hashes anything: it is a label: what it is worth is what the hold of that sum in a sandbox is worth. -/
noncomputable def Try.pinned : Pinned := { name := "ytaanbonbdhjbpaa", sum := "68d6c351780425fa6af1909b0f6111bb48308c1aa94bf4be923b8000f0d5bd32", checked := Try.checked }
namespace Rows
def none {H : Type} : Left H := { results := [], args := [] }

/-- 'warderlaw13.ExtentPieces': WHATEVER THE INPUT: true; the input reads as it did. -/
def extentPiecesSpec : ChangeSpec := { name := "extentPieces", fn := fun _ => fun
  | [d1, d2] => { results := [.lit (.bool true)], args := [d1, d2] }
  | _ => none }
def extentPiecesRow : OpenClaim := { program := "ytaanbonbdhjbpaa", sum := "68d6c351780425fa6af1909b0f6111bb48308c1aa94bf4be923b8000f0d5bd32", func := "warder/warderlaw13.ExtentPieces", spec := "extentPieces", unfollowed := true, recurses := true, apart := false }
def ExtentPiecesSaid : Prop := extentPiecesRow.holds Try.pinned (OpenSpec.ofChange extentPiecesSpec)

/-- ITS FALSE NEIGHBOUR: 'it returns false'. Refute it at one input. -/
def extentPiecesWrong : ChangeSpec := { name := "extentPieces", fn := fun _ => fun
  | [d1, d2] => { results := [.lit (.bool false)], args := [d1, d2] }
  | _ => none }
def ExtentPiecesWrongFalsely : Prop := extentPiecesRow.holds Try.pinned (OpenSpec.ofChange extentPiecesWrong)

/-- 'warderlaw13.ExtentWrites': WHATEVER THE INPUT: true; the input reads as it did. -/
def extentWritesSpec : ChangeSpec := { name := "extentWrites", fn := fun _ => fun
  | [d1, d2, d3, d4] => { results := [.lit (.bool true)], args := [d1, d2, d3, d4] }
  | _ => none }
def extentWritesRow : OpenClaim := { program := "ytaanbonbdhjbpaa", sum := "68d6c351780425fa6af1909b0f6111bb48308c1aa94bf4be923b8000f0d5bd32", func := "warder/warderlaw13.ExtentWrites", spec := "extentWrites", unfollowed := true, recurses := true, apart := false }
def ExtentWritesSaid : Prop := extentWritesRow.holds Try.pinned (OpenSpec.ofChange extentWritesSpec)

/-- ITS FALSE NEIGHBOUR: 'it returns false'. Refute it at one input. -/
def extentWritesWrong : ChangeSpec := { name := "extentWrites", fn := fun _ => fun
  | [d1, d2, d3, d4] => { results := [.lit (.bool false)], args := [d1, d2, d3, d4] }
  | _ => none }
def ExtentWritesWrongFalsely : Prop := extentWritesRow.holds Try.pinned (OpenSpec.ofChange extentWritesWrong)

/-- 'warderlaw13.ExtentBad': WHATEVER THE INPUT: true; the input reads as it did. -/
def extentBadSpec : ChangeSpec := { name := "extentBad", fn := fun _ => fun
  | [d1, d2] => { results := [.lit (.bool true)], args := [d1, d2] }
  | _ => none }
def extentBadRow : OpenClaim := { program := "ytaanbonbdhjbpaa", sum := "68d6c351780425fa6af1909b0f6111bb48308c1aa94bf4be923b8000f0d5bd32", func := "warder/warderlaw13.ExtentBad", spec := "extentBad", unfollowed := true, recurses := true, apart := false }
def ExtentBadSaid : Prop := extentBadRow.holds Try.pinned (OpenSpec.ofChange extentBadSpec)

/-- ITS FALSE NEIGHBOUR: 'it returns false'. Refute it at one input. -/
def extentBadWrong : ChangeSpec := { name := "extentBad", fn := fun _ => fun
  | [d1, d2] => { results := [.lit (.bool false)], args := [d1, d2] }
  | _ => none }
def ExtentBadWrongFalsely : Prop := extentBadRow.holds Try.pinned (OpenSpec.ofChange extentBadWrong)

/-- 'warderlaw13.ExtentReads': WHATEVER THE INPUT: true; the input reads as it did. -/
def extentReadsSpec : ChangeSpec := { name := "extentReads", fn := fun _ => fun
  | [d1, d2] => { results := [.lit (.bool true)], args := [d1, d2] }
  | _ => none }
def extentReadsRow : OpenClaim := { program := "ytaanbonbdhjbpaa", sum := "68d6c351780425fa6af1909b0f6111bb48308c1aa94bf4be923b8000f0d5bd32", func := "warder/warderlaw13.ExtentReads", spec := "extentReads", unfollowed := true, recurses := true, apart := false }
def ExtentReadsSaid : Prop := extentReadsRow.holds Try.pinned (OpenSpec.ofChange extentReadsSpec)

/-- ITS FALSE NEIGHBOUR: 'it returns false'. Refute it at one input. -/
def extentReadsWrong : ChangeSpec := { name := "extentReads", fn := fun _ => fun
  | [d1, d2] => { results := [.lit (.bool false)], args := [d1, d2] }
  | _ => none }
def ExtentReadsWrongFalsely : Prop := extentReadsRow.holds Try.pinned (OpenSpec.ofChange extentReadsWrong)

/-- 'warderlaw13.ExtentNil': WHATEVER THE INPUT: true; the input reads as it did. -/
def extentNilSpec : ChangeSpec := { name := "extentNil", fn := fun _ => fun
  | [] => { results := [.lit (.bool true)], args := [] }
  | _ => none }
def extentNilRow : OpenClaim := { program := "ytaanbonbdhjbpaa", sum := "68d6c351780425fa6af1909b0f6111bb48308c1aa94bf4be923b8000f0d5bd32", func := "warder/warderlaw13.ExtentNil", spec := "extentNil", unfollowed := true, recurses := true, apart := false }
def ExtentNilSaid : Prop := extentNilRow.holds Try.pinned (OpenSpec.ofChange extentNilSpec)

/-- ITS FALSE NEIGHBOUR: 'it returns false'. Refute it at one input. -/
def extentNilWrong : ChangeSpec := { name := "extentNil", fn := fun _ => fun
  | [] => { results := [.lit (.bool false)], args := [] }
  | _ => none }
def ExtentNilWrongFalsely : Prop := extentNilRow.holds Try.pinned (OpenSpec.ofChange extentNilWrong)

/- THE SECOND FORM. 'bulk': how many values and letters a reading holds, each counted each time it is reached (what is shared counts as often as it is met; a slice's spare places count too). A statement '..UptoSaid' is the law's where the arguments, and the package variables that the reading takes, are together of bulk at most 1048576: NARROWER than '..Said'. Prove '..Said' where nothing that the law and all that it calls make is longer than what came in: it says more and counts as full. Else prove '..UptoSaid'. A law counts once. -/
mutual
def uptoBulk {H : Type} : DataW H → Nat
  | .lit (.string bytes) => bytes.length + 1
  | .lit _ => 1
  | .nil => 1
  | .ptr d => uptoBulk d + 1
  | .slice elems spare => uptoBulkAll elems + uptoBulkAll spare + 1
  | .agg parts => uptoBulkAll parts + 1
  | .iface _ d => uptoBulk d + 1
  | .map entries => uptoBulkEntries entries + 1
  | .held _ => 1
def uptoBulkAll {H : Type} : List (DataW H) → Nat
  | [] => 0
  | d :: r => uptoBulk d + uptoBulkAll r
def uptoBulkEntries {H : Type} : List (Lit × DataW H) → Nat
  | [] => 0
  | x :: r => uptoBulkEntry x + uptoBulkEntries r
def uptoBulkEntry {H : Type} : Lit × DataW H → Nat
  | (.string bytes, d) => bytes.length + uptoBulk d + 1
  | (_, d) => uptoBulk d + 1
 end
def uptoSmall : (H : Type) → List (DataW H) → Bool := fun _ ds => decide (uptoBulkAll ds ≤ 1048576)
def OpenSpec.upto (s : _root_.Go.ChangeSpec) : _root_.Go.OpenSpec := { _root_.Go.OpenSpec.ofChange s with cond := some uptoSmall }

/-- 'warderlaw13.ExtentPieces', WHERE WHAT IT READS IS OF BULK AT MOST 1048576: true; the input reads as it did. -/
def extentPiecesUptoRow : OpenClaim := { program := "ytaanbonbdhjbpaa", sum := "68d6c351780425fa6af1909b0f6111bb48308c1aa94bf4be923b8000f0d5bd32", func := "warder/warderlaw13.ExtentPieces", spec := "extentPieces", unfollowed := true, recurses := true, apart := false, narrowed := true }
def ExtentPiecesUptoSaid : Prop := extentPiecesUptoRow.holds Try.pinned (OpenSpec.upto extentPiecesSpec)

/-- 'warderlaw13.ExtentWrites', WHERE WHAT IT READS IS OF BULK AT MOST 1048576: true; the input reads as it did. -/
def extentWritesUptoRow : OpenClaim := { program := "ytaanbonbdhjbpaa", sum := "68d6c351780425fa6af1909b0f6111bb48308c1aa94bf4be923b8000f0d5bd32", func := "warder/warderlaw13.ExtentWrites", spec := "extentWrites", unfollowed := true, recurses := true, apart := false, narrowed := true }
def ExtentWritesUptoSaid : Prop := extentWritesUptoRow.holds Try.pinned (OpenSpec.upto extentWritesSpec)

/-- 'warderlaw13.ExtentBad', WHERE WHAT IT READS IS OF BULK AT MOST 1048576: true; the input reads as it did. -/
def extentBadUptoRow : OpenClaim := { program := "ytaanbonbdhjbpaa", sum := "68d6c351780425fa6af1909b0f6111bb48308c1aa94bf4be923b8000f0d5bd32", func := "warder/warderlaw13.ExtentBad", spec := "extentBad", unfollowed := true, recurses := true, apart := false, narrowed := true }
def ExtentBadUptoSaid : Prop := extentBadUptoRow.holds Try.pinned (OpenSpec.upto extentBadSpec)

/-- 'warderlaw13.ExtentReads', WHERE WHAT IT READS IS OF BULK AT MOST 1048576: true; the input reads as it did. -/
def extentReadsUptoRow : OpenClaim := { program := "ytaanbonbdhjbpaa", sum := "68d6c351780425fa6af1909b0f6111bb48308c1aa94bf4be923b8000f0d5bd32", func := "warder/warderlaw13.ExtentReads", spec := "extentReads", unfollowed := true, recurses := true, apart := false, narrowed := true }
def ExtentReadsUptoSaid : Prop := extentReadsUptoRow.holds Try.pinned (OpenSpec.upto extentReadsSpec)

/-- 'warderlaw13.ExtentNil', WHERE WHAT IT READS IS OF BULK AT MOST 1048576: true; the input reads as it did. -/
def extentNilUptoRow : OpenClaim := { program := "ytaanbonbdhjbpaa", sum := "68d6c351780425fa6af1909b0f6111bb48308c1aa94bf4be923b8000f0d5bd32", func := "warder/warderlaw13.ExtentNil", spec := "extentNil", unfollowed := true, recurses := true, apart := false, narrowed := true }
def ExtentNilUptoSaid : Prop := extentNilUptoRow.holds Try.pinned (OpenSpec.upto extentNilSpec)

end Rows
end Go.Proofs.Ytaanbonbdhjbpaa
