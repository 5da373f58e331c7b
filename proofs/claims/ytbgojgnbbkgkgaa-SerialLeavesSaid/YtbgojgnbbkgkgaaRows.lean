/-
  No cell of these rows narrows 'for every input' (looked for: loops, veiled, ifaces, maps, wideKeys, modest, calm, conditions, laid).
  DERIVED. THE GIVEN ROWS OF THIS SEAT. 6 by the template 'for every input the law returns true; each argument reads behind the call as it read before'; 0 by the template 'total and deterministic' (their statements: YtbgojgnbbkgkgaaTotals.lean).
  GIVEN WITH THE SEED: the statements are not yours to turn. If you find one false, say at which input.
  Laid BY PROGRAM, IN A SANDBOX (cutbox-rows.mjs): the forced cells as the released guide's own fill.sh prints them over the translation a73eb71853a93657… (all of the seat's roots in one cut). By AI agents, Wed Nov 11 2026. No macro, syntax, notation, axiom, sorry.
-/
import Derived.Test.YtbgojgnbbkgkgaaChecked
import GoSem.Claim
import GoSem.ClaimJoined
import GoSem.ClaimMapViews
import Derived.JoinedTies
import Derived.KernelRfl
namespace Go.Proofs.Ytbgojgnbbkgkgaa
/- THE CELL 'sum', in the pinned program and in every row, IS THE sha256 OF THE DUMP (.gsa) THAT YtbgojgnbbkgkgaaProg.lean LOADS. Nothing in Lean hashes anything: it is a label: what it is worth is what the hold of that sum in a sandbox is worth. -/
noncomputable def Try.pinned : Pinned := { name := "ytbgojgnbbkgkgaa", sum := "a73eb71853a936574d540867ad1cd417a4e3ce7bb0648a4d154a3d73f93b2875", checked := Try.checked }
namespace Rows
def none {H : Type} : Left H := { results := [], args := [] }

/-- 'warderlaw15.SerialMay': WHATEVER THE INPUT: true; the input reads as it did. -/
def serialMaySpec : ChangeSpec := { name := "serialMay", fn := fun _ => fun
  | [d1, d2] => { results := [.lit (.bool true)], args := [d1, d2] }
  | _ => none }
def serialMayRow : OpenClaim := { program := "ytbgojgnbbkgkgaa", sum := "a73eb71853a936574d540867ad1cd417a4e3ce7bb0648a4d154a3d73f93b2875", func := "warder/warderlaw15.SerialMay", spec := "serialMay", apart := false }
def SerialMaySaid : Prop := serialMayRow.holds Try.pinned (OpenSpec.ofChange serialMaySpec)

/-- ITS FALSE NEIGHBOUR: 'it returns false'. Refute it at one input. -/
def serialMayWrong : ChangeSpec := { name := "serialMay", fn := fun _ => fun
  | [d1, d2] => { results := [.lit (.bool false)], args := [d1, d2] }
  | _ => none }
def SerialMayWrongFalsely : Prop := serialMayRow.holds Try.pinned (OpenSpec.ofChange serialMayWrong)

/-- 'warderlaw15.SerialNext': WHATEVER THE INPUT: true; the input reads as it did. -/
def serialNextSpec : ChangeSpec := { name := "serialNext", fn := fun _ => fun
  | [d1, d2] => { results := [.lit (.bool true)], args := [d1, d2] }
  | _ => none }
def serialNextRow : OpenClaim := { program := "ytbgojgnbbkgkgaa", sum := "a73eb71853a936574d540867ad1cd417a4e3ce7bb0648a4d154a3d73f93b2875", func := "warder/warderlaw15.SerialNext", spec := "serialNext", apart := false }
def SerialNextSaid : Prop := serialNextRow.holds Try.pinned (OpenSpec.ofChange serialNextSpec)

/-- ITS FALSE NEIGHBOUR: 'it returns false'. Refute it at one input. -/
def serialNextWrong : ChangeSpec := { name := "serialNext", fn := fun _ => fun
  | [d1, d2] => { results := [.lit (.bool false)], args := [d1, d2] }
  | _ => none }
def SerialNextWrongFalsely : Prop := serialNextRow.holds Try.pinned (OpenSpec.ofChange serialNextWrong)

/-- 'warderlaw15.SerialPlays': WHATEVER THE INPUT: true; the input reads as it did. -/
def serialPlaysSpec : ChangeSpec := { name := "serialPlays", fn := fun _ => fun
  | [d1, d2] => { results := [.lit (.bool true)], args := [d1, d2] }
  | _ => none }
def serialPlaysRow : OpenClaim := { program := "ytbgojgnbbkgkgaa", sum := "a73eb71853a936574d540867ad1cd417a4e3ce7bb0648a4d154a3d73f93b2875", func := "warder/warderlaw15.SerialPlays", spec := "serialPlays", inPlace := ["maps.clone"], unfollowed := true, recurses := true, apart := false }
def SerialPlaysSaid : Prop := serialPlaysRow.holds Try.pinned (OpenSpec.ofChange serialPlaysSpec)

/-- ITS FALSE NEIGHBOUR: 'it returns false'. Refute it at one input. -/
def serialPlaysWrong : ChangeSpec := { name := "serialPlays", fn := fun _ => fun
  | [d1, d2] => { results := [.lit (.bool false)], args := [d1, d2] }
  | _ => none }
def SerialPlaysWrongFalsely : Prop := serialPlaysRow.holds Try.pinned (OpenSpec.ofChange serialPlaysWrong)

/-- 'warderlaw15.SerialLeaves': WHATEVER THE INPUT: true; the input reads as it did. -/
def serialLeavesSpec : ChangeSpec := { name := "serialLeaves", fn := fun _ => fun
  | [d1, d2] => { results := [.lit (.bool true)], args := [d1, d2] }
  | _ => none }
def serialLeavesRow : OpenClaim := { program := "ytbgojgnbbkgkgaa", sum := "a73eb71853a936574d540867ad1cd417a4e3ce7bb0648a4d154a3d73f93b2875", func := "warder/warderlaw15.SerialLeaves", spec := "serialLeaves", inPlace := ["maps.clone"], unfollowed := true, recurses := true, apart := false }
def SerialLeavesSaid : Prop := serialLeavesRow.holds Try.pinned (OpenSpec.ofChange serialLeavesSpec)

/-- ITS FALSE NEIGHBOUR: 'it returns false'. Refute it at one input. -/
def serialLeavesWrong : ChangeSpec := { name := "serialLeaves", fn := fun _ => fun
  | [d1, d2] => { results := [.lit (.bool false)], args := [d1, d2] }
  | _ => none }
def SerialLeavesWrongFalsely : Prop := serialLeavesRow.holds Try.pinned (OpenSpec.ofChange serialLeavesWrong)

/-- 'warderlaw15.SerialCopies': WHATEVER THE INPUT: true; the input reads as it did. -/
def serialCopiesSpec : ChangeSpec := { name := "serialCopies", fn := fun _ => fun
  | [d1, d2, d3, d4] => { results := [.lit (.bool true)], args := [d1, d2, d3, d4] }
  | _ => none }
def serialCopiesRow : OpenClaim := { program := "ytbgojgnbbkgkgaa", sum := "a73eb71853a936574d540867ad1cd417a4e3ce7bb0648a4d154a3d73f93b2875", func := "warder/warderlaw15.SerialCopies", spec := "serialCopies", inPlace := ["maps.clone"], unfollowed := true, recurses := true, apart := false }
def SerialCopiesSaid : Prop := serialCopiesRow.holds Try.pinned (OpenSpec.ofChange serialCopiesSpec)

/-- ITS FALSE NEIGHBOUR: 'it returns false'. Refute it at one input. -/
def serialCopiesWrong : ChangeSpec := { name := "serialCopies", fn := fun _ => fun
  | [d1, d2, d3, d4] => { results := [.lit (.bool false)], args := [d1, d2, d3, d4] }
  | _ => none }
def SerialCopiesWrongFalsely : Prop := serialCopiesRow.holds Try.pinned (OpenSpec.ofChange serialCopiesWrong)

/-- 'warderlaw15.SerialNil': WHATEVER THE INPUT: true; the input reads as it did. -/
def serialNilSpec : ChangeSpec := { name := "serialNil", fn := fun _ => fun
  | [] => { results := [.lit (.bool true)], args := [] }
  | _ => none }
def serialNilRow : OpenClaim := { program := "ytbgojgnbbkgkgaa", sum := "a73eb71853a936574d540867ad1cd417a4e3ce7bb0648a4d154a3d73f93b2875", func := "warder/warderlaw15.SerialNil", spec := "serialNil", inPlace := ["maps.clone"], unfollowed := true, recurses := true, apart := false }
def SerialNilSaid : Prop := serialNilRow.holds Try.pinned (OpenSpec.ofChange serialNilSpec)

/-- ITS FALSE NEIGHBOUR: 'it returns false'. Refute it at one input. -/
def serialNilWrong : ChangeSpec := { name := "serialNil", fn := fun _ => fun
  | [] => { results := [.lit (.bool false)], args := [] }
  | _ => none }
def SerialNilWrongFalsely : Prop := serialNilRow.holds Try.pinned (OpenSpec.ofChange serialNilWrong)

/- THE SECOND FORM. 'bulk': how many values and letters a reading holds, each counted each time it is reached (what is shared counts as often as it is met; a slice's spare places count too). A statement '..UptoSaid' is the law's where the arguments, and the package variables that the reading takes, are together of bulk at most 1048576: NARROWER than '..Said'. Prove '..Said' where nothing that the law and all that it calls make is longer than what came in: it says more and counts as full. Else prove '..UptoSaid'. A law counts once. -/
mutual
def uptoBulk {H : Type} : DataW H → Nat
  | .lit (.string bytes) => bytes.length + 1
  | .lit _ => 1
  | .nil => 1
  | .ptr d => uptoBulk d + 1
  | .slice elems spare => uptoBulkAll elems + uptoBulkAll spare + 1
  | .agg parts => uptoBulkAll parts + 1
  | .iface _ d => uptoBulk d + 1
  | .map entries => uptoBulkEntries entries + 1
  | .held _ => 1
def uptoBulkAll {H : Type} : List (DataW H) → Nat
  | [] => 0
  | d :: r => uptoBulk d + uptoBulkAll r
def uptoBulkEntries {H : Type} : List (Lit × DataW H) → Nat
  | [] => 0
  | x :: r => uptoBulkEntry x + uptoBulkEntries r
def uptoBulkEntry {H : Type} : Lit × DataW H → Nat
  | (.string bytes, d) => bytes.length + uptoBulk d + 1
  | (_, d) => uptoBulk d + 1
 end
def uptoSmall : (H : Type) → List (DataW H) → Bool := fun _ ds => decide (uptoBulkAll ds ≤ 1048576)
def OpenSpec.upto (s : _root_.Go.ChangeSpec) : _root_.Go.OpenSpec := { _root_.Go.OpenSpec.ofChange s with cond := some uptoSmall }

/-- 'warderlaw15.SerialMay', WHERE WHAT IT READS IS OF BULK AT MOST 1048576: true; the input reads as it did. -/
def serialMayUptoRow : OpenClaim := { program := "ytbgojgnbbkgkgaa", sum := "a73eb71853a936574d540867ad1cd417a4e3ce7bb0648a4d154a3d73f93b2875", func := "warder/warderlaw15.SerialMay", spec := "serialMay", apart := false, narrowed := true }
def SerialMayUptoSaid : Prop := serialMayUptoRow.holds Try.pinned (OpenSpec.upto serialMaySpec)

/-- 'warderlaw15.SerialNext', WHERE WHAT IT READS IS OF BULK AT MOST 1048576: true; the input reads as it did. -/
def serialNextUptoRow : OpenClaim := { program := "ytbgojgnbbkgkgaa", sum := "a73eb71853a936574d540867ad1cd417a4e3ce7bb0648a4d154a3d73f93b2875", func := "warder/warderlaw15.SerialNext", spec := "serialNext", apart := false, narrowed := true }
def SerialNextUptoSaid : Prop := serialNextUptoRow.holds Try.pinned (OpenSpec.upto serialNextSpec)

/-- 'warderlaw15.SerialPlays', WHERE WHAT IT READS IS OF BULK AT MOST 1048576: true; the input reads as it did. -/
def serialPlaysUptoRow : OpenClaim := { program := "ytbgojgnbbkgkgaa", sum := "a73eb71853a936574d540867ad1cd417a4e3ce7bb0648a4d154a3d73f93b2875", func := "warder/warderlaw15.SerialPlays", spec := "serialPlays", inPlace := ["maps.clone"], unfollowed := true, recurses := true, apart := false, narrowed := true }
def SerialPlaysUptoSaid : Prop := serialPlaysUptoRow.holds Try.pinned (OpenSpec.upto serialPlaysSpec)

/-- 'warderlaw15.SerialLeaves', WHERE WHAT IT READS IS OF BULK AT MOST 1048576: true; the input reads as it did. -/
def serialLeavesUptoRow : OpenClaim := { program := "ytbgojgnbbkgkgaa", sum := "a73eb71853a936574d540867ad1cd417a4e3ce7bb0648a4d154a3d73f93b2875", func := "warder/warderlaw15.SerialLeaves", spec := "serialLeaves", inPlace := ["maps.clone"], unfollowed := true, recurses := true, apart := false, narrowed := true }
def SerialLeavesUptoSaid : Prop := serialLeavesUptoRow.holds Try.pinned (OpenSpec.upto serialLeavesSpec)

/-- 'warderlaw15.SerialCopies', WHERE WHAT IT READS IS OF BULK AT MOST 1048576: true; the input reads as it did. -/
def serialCopiesUptoRow : OpenClaim := { program := "ytbgojgnbbkgkgaa", sum := "a73eb71853a936574d540867ad1cd417a4e3ce7bb0648a4d154a3d73f93b2875", func := "warder/warderlaw15.SerialCopies", spec := "serialCopies", inPlace := ["maps.clone"], unfollowed := true, recurses := true, apart := false, narrowed := true }
def SerialCopiesUptoSaid : Prop := serialCopiesUptoRow.holds Try.pinned (OpenSpec.upto serialCopiesSpec)

/-- 'warderlaw15.SerialNil', WHERE WHAT IT READS IS OF BULK AT MOST 1048576: true; the input reads as it did. -/
def serialNilUptoRow : OpenClaim := { program := "ytbgojgnbbkgkgaa", sum := "a73eb71853a936574d540867ad1cd417a4e3ce7bb0648a4d154a3d73f93b2875", func := "warder/warderlaw15.SerialNil", spec := "serialNil", inPlace := ["maps.clone"], unfollowed := true, recurses := true, apart := false, narrowed := true }
def SerialNilUptoSaid : Prop := serialNilUptoRow.holds Try.pinned (OpenSpec.upto serialNilSpec)

end Rows
end Go.Proofs.Ytbgojgnbbkgkgaa
