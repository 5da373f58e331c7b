/-
  No cell of these rows narrows 'for every input' (looked for: loops, veiled, ifaces, maps, wideKeys, modest, calm, conditions, laid).
  DERIVED. THE GIVEN ROWS OF THIS SEAT. 6 by the template 'for every input the law returns true; each argument reads behind the call as it read before'; 0 by the template 'total and deterministic' (their statements: YtplbkjgkocnehaaTotals.lean).
  GIVEN WITH THE SEED: the statements are not yours to turn. If you find one false, say at which input.
  Laid BY PROGRAM, IN A SANDBOX (cutbox-rows.mjs): the forced cells as the released guide's own fill.sh prints them over the translation 1ab0c6e7dfe4b16d… (all of the seat's roots in one cut). By AI agents, Wed Nov 11 2026. No macro, syntax, notation, axiom, sorry.
-/
import Derived.Test.YtplbkjgkocnehaaChecked
import GoSem.Claim
import GoSem.ClaimJoined
import GoSem.ClaimMapViews
import Derived.JoinedTies
import Derived.KernelRfl
namespace Go.Proofs.Ytplbkjgkocnehaa
/- THE CELL 'sum', in the pinned program and in every row, IS THE sha256 OF THE DUMP (.gsa) THAT YtplbkjgkocnehaaProg.lean LOADS. Nothing in Lean hashes anything: it is a label: what it is worth is what the hold of that sum in a sandbox is worth. -/
noncomputable def Try.pinned : Pinned := { name := "ytplbkjgkocnehaa", sum := "1ab0c6e7dfe4b16d68c28933537e617a305c06f5049e831baf3ef80f3c40fb6b", checked := Try.checked }
namespace Rows
def none {H : Type} : Left H := { results := [], args := [] }

/-- 'warderlaw07.RcuHolds': WHATEVER THE INPUT: true; the input reads as it did. -/
def rcuHoldsSpec : ChangeSpec := { name := "rcuHolds", fn := fun _ => fun
  | [d1, d2, d3] => { results := [.lit (.bool true)], args := [d1, d2, d3] }
  | _ => none }
def rcuHoldsRow : OpenClaim := { program := "ytplbkjgkocnehaa", sum := "1ab0c6e7dfe4b16d68c28933537e617a305c06f5049e831baf3ef80f3c40fb6b", func := "warder/warderlaw07.RcuHolds", spec := "rcuHolds", unfollowed := true, recurses := true, apart := false }
def RcuHoldsSaid : Prop := rcuHoldsRow.holds Try.pinned (OpenSpec.ofChange rcuHoldsSpec)

/-- ITS FALSE NEIGHBOUR: 'it returns false'. Refute it at one input. -/
def rcuHoldsWrong : ChangeSpec := { name := "rcuHolds", fn := fun _ => fun
  | [d1, d2, d3] => { results := [.lit (.bool false)], args := [d1, d2, d3] }
  | _ => none }
def RcuHoldsWrongFalsely : Prop := rcuHoldsRow.holds Try.pinned (OpenSpec.ofChange rcuHoldsWrong)

/-- 'warderlaw07.RcuPlays': WHATEVER THE INPUT: true; the input reads as it did. -/
def rcuPlaysSpec : ChangeSpec := { name := "rcuPlays", fn := fun _ => fun
  | [d1, d2] => { results := [.lit (.bool true)], args := [d1, d2] }
  | _ => none }
def rcuPlaysRow : OpenClaim := { program := "ytplbkjgkocnehaa", sum := "1ab0c6e7dfe4b16d68c28933537e617a305c06f5049e831baf3ef80f3c40fb6b", func := "warder/warderlaw07.RcuPlays", spec := "rcuPlays", unfollowed := true, recurses := true, apart := false }
def RcuPlaysSaid : Prop := rcuPlaysRow.holds Try.pinned (OpenSpec.ofChange rcuPlaysSpec)

/-- ITS FALSE NEIGHBOUR: 'it returns false'. Refute it at one input. -/
def rcuPlaysWrong : ChangeSpec := { name := "rcuPlays", fn := fun _ => fun
  | [d1, d2] => { results := [.lit (.bool false)], args := [d1, d2] }
  | _ => none }
def RcuPlaysWrongFalsely : Prop := rcuPlaysRow.holds Try.pinned (OpenSpec.ofChange rcuPlaysWrong)

/-- 'warderlaw07.RcuOrder': WHATEVER THE INPUT: true; the input reads as it did. -/
def rcuOrderSpec : ChangeSpec := { name := "rcuOrder", fn := fun _ => fun
  | [d1, d2] => { results := [.lit (.bool true)], args := [d1, d2] }
  | _ => none }
def rcuOrderRow : OpenClaim := { program := "ytplbkjgkocnehaa", sum := "1ab0c6e7dfe4b16d68c28933537e617a305c06f5049e831baf3ef80f3c40fb6b", func := "warder/warderlaw07.RcuOrder", spec := "rcuOrder", unfollowed := true, recurses := true, apart := false }
def RcuOrderSaid : Prop := rcuOrderRow.holds Try.pinned (OpenSpec.ofChange rcuOrderSpec)

/-- ITS FALSE NEIGHBOUR: 'it returns false'. Refute it at one input. -/
def rcuOrderWrong : ChangeSpec := { name := "rcuOrder", fn := fun _ => fun
  | [d1, d2] => { results := [.lit (.bool false)], args := [d1, d2] }
  | _ => none }
def RcuOrderWrongFalsely : Prop := rcuOrderRow.holds Try.pinned (OpenSpec.ofChange rcuOrderWrong)

/-- 'warderlaw07.RcuShares': WHATEVER THE INPUT: true; the input reads as it did. -/
def rcuSharesSpec : ChangeSpec := { name := "rcuShares", fn := fun _ => fun
  | [d] => { results := [.lit (.bool true)], args := [d] }
  | _ => none }
def rcuSharesRow : OpenClaim := { program := "ytplbkjgkocnehaa", sum := "1ab0c6e7dfe4b16d68c28933537e617a305c06f5049e831baf3ef80f3c40fb6b", func := "warder/warderlaw07.RcuShares", spec := "rcuShares", inPlace := ["maps.clone"], unfollowed := true, recurses := true, apart := false }
def RcuSharesSaid : Prop := rcuSharesRow.holds Try.pinned (OpenSpec.ofChange rcuSharesSpec)

/-- ITS FALSE NEIGHBOUR: 'it returns false'. Refute it at one input. -/
def rcuSharesWrong : ChangeSpec := { name := "rcuShares", fn := fun _ => fun
  | [d] => { results := [.lit (.bool false)], args := [d] }
  | _ => none }
def RcuSharesWrongFalsely : Prop := rcuSharesRow.holds Try.pinned (OpenSpec.ofChange rcuSharesWrong)

/-- 'warderlaw07.RcuCopies': WHATEVER THE INPUT: true; the input reads as it did. -/
def rcuCopiesSpec : ChangeSpec := { name := "rcuCopies", fn := fun _ => fun
  | [d1, d2, d3, d4] => { results := [.lit (.bool true)], args := [d1, d2, d3, d4] }
  | _ => none }
def rcuCopiesRow : OpenClaim := { program := "ytplbkjgkocnehaa", sum := "1ab0c6e7dfe4b16d68c28933537e617a305c06f5049e831baf3ef80f3c40fb6b", func := "warder/warderlaw07.RcuCopies", spec := "rcuCopies", inPlace := ["maps.clone"], unfollowed := true, recurses := true, apart := false }
def RcuCopiesSaid : Prop := rcuCopiesRow.holds Try.pinned (OpenSpec.ofChange rcuCopiesSpec)

/-- ITS FALSE NEIGHBOUR: 'it returns false'. Refute it at one input. -/
def rcuCopiesWrong : ChangeSpec := { name := "rcuCopies", fn := fun _ => fun
  | [d1, d2, d3, d4] => { results := [.lit (.bool false)], args := [d1, d2, d3, d4] }
  | _ => none }
def RcuCopiesWrongFalsely : Prop := rcuCopiesRow.holds Try.pinned (OpenSpec.ofChange rcuCopiesWrong)

/-- 'warderlaw07.RcuNil': WHATEVER THE INPUT: true; the input reads as it did. -/
def rcuNilSpec : ChangeSpec := { name := "rcuNil", fn := fun _ => fun
  | [] => { results := [.lit (.bool true)], args := [] }
  | _ => none }
def rcuNilRow : OpenClaim := { program := "ytplbkjgkocnehaa", sum := "1ab0c6e7dfe4b16d68c28933537e617a305c06f5049e831baf3ef80f3c40fb6b", func := "warder/warderlaw07.RcuNil", spec := "rcuNil", inPlace := ["maps.clone"], unfollowed := true, recurses := true, apart := false }
def RcuNilSaid : Prop := rcuNilRow.holds Try.pinned (OpenSpec.ofChange rcuNilSpec)

/-- ITS FALSE NEIGHBOUR: 'it returns false'. Refute it at one input. -/
def rcuNilWrong : ChangeSpec := { name := "rcuNil", fn := fun _ => fun
  | [] => { results := [.lit (.bool false)], args := [] }
  | _ => none }
def RcuNilWrongFalsely : Prop := rcuNilRow.holds Try.pinned (OpenSpec.ofChange rcuNilWrong)

/- THE SECOND FORM. 'bulk': how many values and letters a reading holds, each counted each time it is reached (what is shared counts as often as it is met; a slice's spare places count too). A statement '..UptoSaid' is the law's where the arguments, and the package variables that the reading takes, are together of bulk at most 1048576: NARROWER than '..Said'. Prove '..Said' where nothing that the law and all that it calls make is longer than what came in: it says more and counts as full. Else prove '..UptoSaid'. A law counts once. -/
mutual
def uptoBulk {H : Type} : DataW H → Nat
  | .lit (.string bytes) => bytes.length + 1
  | .lit _ => 1
  | .nil => 1
  | .ptr d => uptoBulk d + 1
  | .slice elems spare => uptoBulkAll elems + uptoBulkAll spare + 1
  | .agg parts => uptoBulkAll parts + 1
  | .iface _ d => uptoBulk d + 1
  | .map entries => uptoBulkEntries entries + 1
  | .held _ => 1
def uptoBulkAll {H : Type} : List (DataW H) → Nat
  | [] => 0
  | d :: r => uptoBulk d + uptoBulkAll r
def uptoBulkEntries {H : Type} : List (Lit × DataW H) → Nat
  | [] => 0
  | x :: r => uptoBulkEntry x + uptoBulkEntries r
def uptoBulkEntry {H : Type} : Lit × DataW H → Nat
  | (.string bytes, d) => bytes.length + uptoBulk d + 1
  | (_, d) => uptoBulk d + 1
 end
def uptoSmall : (H : Type) → List (DataW H) → Bool := fun _ ds => decide (uptoBulkAll ds ≤ 1048576)
def OpenSpec.upto (s : _root_.Go.ChangeSpec) : _root_.Go.OpenSpec := { _root_.Go.OpenSpec.ofChange s with cond := some uptoSmall }

/-- 'warderlaw07.RcuHolds', WHERE WHAT IT READS IS OF BULK AT MOST 1048576: true; the input reads as it did. -/
def rcuHoldsUptoRow : OpenClaim := { program := "ytplbkjgkocnehaa", sum := "1ab0c6e7dfe4b16d68c28933537e617a305c06f5049e831baf3ef80f3c40fb6b", func := "warder/warderlaw07.RcuHolds", spec := "rcuHolds", unfollowed := true, recurses := true, apart := false, narrowed := true }
def RcuHoldsUptoSaid : Prop := rcuHoldsUptoRow.holds Try.pinned (OpenSpec.upto rcuHoldsSpec)

/-- 'warderlaw07.RcuPlays', WHERE WHAT IT READS IS OF BULK AT MOST 1048576: true; the input reads as it did. -/
def rcuPlaysUptoRow : OpenClaim := { program := "ytplbkjgkocnehaa", sum := "1ab0c6e7dfe4b16d68c28933537e617a305c06f5049e831baf3ef80f3c40fb6b", func := "warder/warderlaw07.RcuPlays", spec := "rcuPlays", unfollowed := true, recurses := true, apart := false, narrowed := true }
def RcuPlaysUptoSaid : Prop := rcuPlaysUptoRow.holds Try.pinned (OpenSpec.upto rcuPlaysSpec)

/-- 'warderlaw07.RcuOrder', WHERE WHAT IT READS IS OF BULK AT MOST 1048576: true; the input reads as it did. -/
def rcuOrderUptoRow : OpenClaim := { program := "ytplbkjgkocnehaa", sum := "1ab0c6e7dfe4b16d68c28933537e617a305c06f5049e831baf3ef80f3c40fb6b", func := "warder/warderlaw07.RcuOrder", spec := "rcuOrder", unfollowed := true, recurses := true, apart := false, narrowed := true }
def RcuOrderUptoSaid : Prop := rcuOrderUptoRow.holds Try.pinned (OpenSpec.upto rcuOrderSpec)

/-- 'warderlaw07.RcuShares', WHERE WHAT IT READS IS OF BULK AT MOST 1048576: true; the input reads as it did. -/
def rcuSharesUptoRow : OpenClaim := { program := "ytplbkjgkocnehaa", sum := "1ab0c6e7dfe4b16d68c28933537e617a305c06f5049e831baf3ef80f3c40fb6b", func := "warder/warderlaw07.RcuShares", spec := "rcuShares", inPlace := ["maps.clone"], unfollowed := true, recurses := true, apart := false, narrowed := true }
def RcuSharesUptoSaid : Prop := rcuSharesUptoRow.holds Try.pinned (OpenSpec.upto rcuSharesSpec)

/-- 'warderlaw07.RcuCopies', WHERE WHAT IT READS IS OF BULK AT MOST 1048576: true; the input reads as it did. -/
def rcuCopiesUptoRow : OpenClaim := { program := "ytplbkjgkocnehaa", sum := "1ab0c6e7dfe4b16d68c28933537e617a305c06f5049e831baf3ef80f3c40fb6b", func := "warder/warderlaw07.RcuCopies", spec := "rcuCopies", inPlace := ["maps.clone"], unfollowed := true, recurses := true, apart := false, narrowed := true }
def RcuCopiesUptoSaid : Prop := rcuCopiesUptoRow.holds Try.pinned (OpenSpec.upto rcuCopiesSpec)

/-- 'warderlaw07.RcuNil', WHERE WHAT IT READS IS OF BULK AT MOST 1048576: true; the input reads as it did. -/
def rcuNilUptoRow : OpenClaim := { program := "ytplbkjgkocnehaa", sum := "1ab0c6e7dfe4b16d68c28933537e617a305c06f5049e831baf3ef80f3c40fb6b", func := "warder/warderlaw07.RcuNil", spec := "rcuNil", inPlace := ["maps.clone"], unfollowed := true, recurses := true, apart := false, narrowed := true }
def RcuNilUptoSaid : Prop := rcuNilUptoRow.holds Try.pinned (OpenSpec.upto rcuNilSpec)

end Rows
end Go.Proofs.Ytplbkjgkocnehaa
