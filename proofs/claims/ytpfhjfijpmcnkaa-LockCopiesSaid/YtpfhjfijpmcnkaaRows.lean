/-
  No cell of these rows narrows 'for every input' (looked for: loops, veiled, ifaces, maps, wideKeys, modest, calm, conditions, laid).
  DERIVED. THE GIVEN ROWS OF THIS SEAT. 6 by the template 'for every input the law returns true; each argument reads behind the call as it read before'; 0 by the template 'total and deterministic' (their statements: YtpfhjfijpmcnkaaTotals.lean).
  GIVEN WITH THE SEED: the statements are not yours to turn. If you find one false, say at which input.
  Laid BY PROGRAM, IN A SANDBOX (cutbox-rows.mjs): the forced cells as the released guide's own fill.sh prints them over the translation 0015225f5527d9da… (all of the seat's roots in one cut). By AI agents, Wed Nov 11 2026. No macro, syntax, notation, axiom, sorry.
-/
import Derived.Test.YtpfhjfijpmcnkaaChecked
import GoSem.Claim
import GoSem.ClaimJoined
import GoSem.ClaimMapViews
import Derived.JoinedTies
import Derived.KernelRfl
namespace Go.Proofs.Ytpfhjfijpmcnkaa
/- THE CELL 'sum', in the pinned program and in every row, IS THE sha256 OF THE DUMP (.gsa) THAT YtpfhjfijpmcnkaaProg.lean LOADS. Nothing in Lean hashes anything: it is a label: what it is worth is what the hold of that sum in a sandbox is worth. -/
noncomputable def Try.pinned : Pinned := { name := "ytpfhjfijpmcnkaa", sum := "0015225f5527d9dad199ccf85a2e28ba5bf24a9e01d42f3121b5235809fd7199", checked := Try.checked }
namespace Rows
def none {H : Type} : Left H := { results := [], args := [] }

/-- 'warderlaw08.LockOne': WHATEVER THE INPUT: true; the input reads as it did. -/
def lockOneSpec : ChangeSpec := { name := "lockOne", fn := fun _ => fun
  | [d1, d2, d3, d4] => { results := [.lit (.bool true)], args := [d1, d2, d3, d4] }
  | _ => none }
def lockOneRow : OpenClaim := { program := "ytpfhjfijpmcnkaa", sum := "0015225f5527d9dad199ccf85a2e28ba5bf24a9e01d42f3121b5235809fd7199", func := "warder/warderlaw08.LockOne", spec := "lockOne", inPlace := ["maps.clone"], apart := false }
def LockOneSaid : Prop := lockOneRow.holds Try.pinned (OpenSpec.ofChange lockOneSpec)

/-- ITS FALSE NEIGHBOUR: 'it returns false'. Refute it at one input. -/
def lockOneWrong : ChangeSpec := { name := "lockOne", fn := fun _ => fun
  | [d1, d2, d3, d4] => { results := [.lit (.bool false)], args := [d1, d2, d3, d4] }
  | _ => none }
def LockOneWrongFalsely : Prop := lockOneRow.holds Try.pinned (OpenSpec.ofChange lockOneWrong)

/-- 'warderlaw08.LockGives': WHATEVER THE INPUT: true; the input reads as it did. -/
def lockGivesSpec : ChangeSpec := { name := "lockGives", fn := fun _ => fun
  | [d1, d2, d3] => { results := [.lit (.bool true)], args := [d1, d2, d3] }
  | _ => none }
def lockGivesRow : OpenClaim := { program := "ytpfhjfijpmcnkaa", sum := "0015225f5527d9dad199ccf85a2e28ba5bf24a9e01d42f3121b5235809fd7199", func := "warder/warderlaw08.LockGives", spec := "lockGives", inPlace := ["maps.clone"], apart := false }
def LockGivesSaid : Prop := lockGivesRow.holds Try.pinned (OpenSpec.ofChange lockGivesSpec)

/-- ITS FALSE NEIGHBOUR: 'it returns false'. Refute it at one input. -/
def lockGivesWrong : ChangeSpec := { name := "lockGives", fn := fun _ => fun
  | [d1, d2, d3] => { results := [.lit (.bool false)], args := [d1, d2, d3] }
  | _ => none }
def LockGivesWrongFalsely : Prop := lockGivesRow.holds Try.pinned (OpenSpec.ofChange lockGivesWrong)

/-- 'warderlaw08.LockPlays': WHATEVER THE INPUT: true; the input reads as it did. -/
def lockPlaysSpec : ChangeSpec := { name := "lockPlays", fn := fun _ => fun
  | [d1, d2] => { results := [.lit (.bool true)], args := [d1, d2] }
  | _ => none }
def lockPlaysRow : OpenClaim := { program := "ytpfhjfijpmcnkaa", sum := "0015225f5527d9dad199ccf85a2e28ba5bf24a9e01d42f3121b5235809fd7199", func := "warder/warderlaw08.LockPlays", spec := "lockPlays", inPlace := ["maps.clone"], recurses := true, apart := false }
def LockPlaysSaid : Prop := lockPlaysRow.holds Try.pinned (OpenSpec.ofChange lockPlaysSpec)

/-- ITS FALSE NEIGHBOUR: 'it returns false'. Refute it at one input. -/
def lockPlaysWrong : ChangeSpec := { name := "lockPlays", fn := fun _ => fun
  | [d1, d2] => { results := [.lit (.bool false)], args := [d1, d2] }
  | _ => none }
def LockPlaysWrongFalsely : Prop := lockPlaysRow.holds Try.pinned (OpenSpec.ofChange lockPlaysWrong)

/-- 'warderlaw08.LockDrops': WHATEVER THE INPUT: true; the input reads as it did. -/
def lockDropsSpec : ChangeSpec := { name := "lockDrops", fn := fun _ => fun
  | [d1, d2, d3] => { results := [.lit (.bool true)], args := [d1, d2, d3] }
  | _ => none }
def lockDropsRow : OpenClaim := { program := "ytpfhjfijpmcnkaa", sum := "0015225f5527d9dad199ccf85a2e28ba5bf24a9e01d42f3121b5235809fd7199", func := "warder/warderlaw08.LockDrops", spec := "lockDrops", inPlace := ["maps.clone"], recurses := true, apart := false }
def LockDropsSaid : Prop := lockDropsRow.holds Try.pinned (OpenSpec.ofChange lockDropsSpec)

/-- ITS FALSE NEIGHBOUR: 'it returns false'. Refute it at one input. -/
def lockDropsWrong : ChangeSpec := { name := "lockDrops", fn := fun _ => fun
  | [d1, d2, d3] => { results := [.lit (.bool false)], args := [d1, d2, d3] }
  | _ => none }
def LockDropsWrongFalsely : Prop := lockDropsRow.holds Try.pinned (OpenSpec.ofChange lockDropsWrong)

/-- 'warderlaw08.LockCopies': WHATEVER THE INPUT: true; the input reads as it did. -/
def lockCopiesSpec : ChangeSpec := { name := "lockCopies", fn := fun _ => fun
  | [d1, d2, d3, d4] => { results := [.lit (.bool true)], args := [d1, d2, d3, d4] }
  | _ => none }
def lockCopiesRow : OpenClaim := { program := "ytpfhjfijpmcnkaa", sum := "0015225f5527d9dad199ccf85a2e28ba5bf24a9e01d42f3121b5235809fd7199", func := "warder/warderlaw08.LockCopies", spec := "lockCopies", inPlace := ["maps.clone"], unfollowed := true, recurses := true, apart := false }
def LockCopiesSaid : Prop := lockCopiesRow.holds Try.pinned (OpenSpec.ofChange lockCopiesSpec)

/-- ITS FALSE NEIGHBOUR: 'it returns false'. Refute it at one input. -/
def lockCopiesWrong : ChangeSpec := { name := "lockCopies", fn := fun _ => fun
  | [d1, d2, d3, d4] => { results := [.lit (.bool false)], args := [d1, d2, d3, d4] }
  | _ => none }
def LockCopiesWrongFalsely : Prop := lockCopiesRow.holds Try.pinned (OpenSpec.ofChange lockCopiesWrong)

/-- 'warderlaw08.LockNil': WHATEVER THE INPUT: true; the input reads as it did. -/
def lockNilSpec : ChangeSpec := { name := "lockNil", fn := fun _ => fun
  | [] => { results := [.lit (.bool true)], args := [] }
  | _ => none }
def lockNilRow : OpenClaim := { program := "ytpfhjfijpmcnkaa", sum := "0015225f5527d9dad199ccf85a2e28ba5bf24a9e01d42f3121b5235809fd7199", func := "warder/warderlaw08.LockNil", spec := "lockNil", inPlace := ["maps.clone"], unfollowed := true, recurses := true, apart := false }
def LockNilSaid : Prop := lockNilRow.holds Try.pinned (OpenSpec.ofChange lockNilSpec)

/-- ITS FALSE NEIGHBOUR: 'it returns false'. Refute it at one input. -/
def lockNilWrong : ChangeSpec := { name := "lockNil", fn := fun _ => fun
  | [] => { results := [.lit (.bool false)], args := [] }
  | _ => none }
def LockNilWrongFalsely : Prop := lockNilRow.holds Try.pinned (OpenSpec.ofChange lockNilWrong)

/- THE SECOND FORM. 'bulk': how many values and letters a reading holds, each counted each time it is reached (what is shared counts as often as it is met; a slice's spare places count too). A statement '..UptoSaid' is the law's where the arguments, and the package variables that the reading takes, are together of bulk at most 1048576: NARROWER than '..Said'. Prove '..Said' where nothing that the law and all that it calls make is longer than what came in: it says more and counts as full. Else prove '..UptoSaid'. A law counts once. -/
mutual
def uptoBulk {H : Type} : DataW H → Nat
  | .lit (.string bytes) => bytes.length + 1
  | .lit _ => 1
  | .nil => 1
  | .ptr d => uptoBulk d + 1
  | .slice elems spare => uptoBulkAll elems + uptoBulkAll spare + 1
  | .agg parts => uptoBulkAll parts + 1
  | .iface _ d => uptoBulk d + 1
  | .map entries => uptoBulkEntries entries + 1
  | .held _ => 1
def uptoBulkAll {H : Type} : List (DataW H) → Nat
  | [] => 0
  | d :: r => uptoBulk d + uptoBulkAll r
def uptoBulkEntries {H : Type} : List (Lit × DataW H) → Nat
  | [] => 0
  | x :: r => uptoBulkEntry x + uptoBulkEntries r
def uptoBulkEntry {H : Type} : Lit × DataW H → Nat
  | (.string bytes, d) => bytes.length + uptoBulk d + 1
  | (_, d) => uptoBulk d + 1
 end
def uptoSmall : (H : Type) → List (DataW H) → Bool := fun _ ds => decide (uptoBulkAll ds ≤ 1048576)
def OpenSpec.upto (s : _root_.Go.ChangeSpec) : _root_.Go.OpenSpec := { _root_.Go.OpenSpec.ofChange s with cond := some uptoSmall }

/-- 'warderlaw08.LockOne', WHERE WHAT IT READS IS OF BULK AT MOST 1048576: true; the input reads as it did. -/
def lockOneUptoRow : OpenClaim := { program := "ytpfhjfijpmcnkaa", sum := "0015225f5527d9dad199ccf85a2e28ba5bf24a9e01d42f3121b5235809fd7199", func := "warder/warderlaw08.LockOne", spec := "lockOne", inPlace := ["maps.clone"], apart := false, narrowed := true }
def LockOneUptoSaid : Prop := lockOneUptoRow.holds Try.pinned (OpenSpec.upto lockOneSpec)

/-- 'warderlaw08.LockGives', WHERE WHAT IT READS IS OF BULK AT MOST 1048576: true; the input reads as it did. -/
def lockGivesUptoRow : OpenClaim := { program := "ytpfhjfijpmcnkaa", sum := "0015225f5527d9dad199ccf85a2e28ba5bf24a9e01d42f3121b5235809fd7199", func := "warder/warderlaw08.LockGives", spec := "lockGives", inPlace := ["maps.clone"], apart := false, narrowed := true }
def LockGivesUptoSaid : Prop := lockGivesUptoRow.holds Try.pinned (OpenSpec.upto lockGivesSpec)

/-- 'warderlaw08.LockPlays', WHERE WHAT IT READS IS OF BULK AT MOST 1048576: true; the input reads as it did. -/
def lockPlaysUptoRow : OpenClaim := { program := "ytpfhjfijpmcnkaa", sum := "0015225f5527d9dad199ccf85a2e28ba5bf24a9e01d42f3121b5235809fd7199", func := "warder/warderlaw08.LockPlays", spec := "lockPlays", inPlace := ["maps.clone"], recurses := true, apart := false, narrowed := true }
def LockPlaysUptoSaid : Prop := lockPlaysUptoRow.holds Try.pinned (OpenSpec.upto lockPlaysSpec)

/-- 'warderlaw08.LockDrops', WHERE WHAT IT READS IS OF BULK AT MOST 1048576: true; the input reads as it did. -/
def lockDropsUptoRow : OpenClaim := { program := "ytpfhjfijpmcnkaa", sum := "0015225f5527d9dad199ccf85a2e28ba5bf24a9e01d42f3121b5235809fd7199", func := "warder/warderlaw08.LockDrops", spec := "lockDrops", inPlace := ["maps.clone"], recurses := true, apart := false, narrowed := true }
def LockDropsUptoSaid : Prop := lockDropsUptoRow.holds Try.pinned (OpenSpec.upto lockDropsSpec)

/-- 'warderlaw08.LockCopies', WHERE WHAT IT READS IS OF BULK AT MOST 1048576: true; the input reads as it did. -/
def lockCopiesUptoRow : OpenClaim := { program := "ytpfhjfijpmcnkaa", sum := "0015225f5527d9dad199ccf85a2e28ba5bf24a9e01d42f3121b5235809fd7199", func := "warder/warderlaw08.LockCopies", spec := "lockCopies", inPlace := ["maps.clone"], unfollowed := true, recurses := true, apart := false, narrowed := true }
def LockCopiesUptoSaid : Prop := lockCopiesUptoRow.holds Try.pinned (OpenSpec.upto lockCopiesSpec)

/-- 'warderlaw08.LockNil', WHERE WHAT IT READS IS OF BULK AT MOST 1048576: true; the input reads as it did. -/
def lockNilUptoRow : OpenClaim := { program := "ytpfhjfijpmcnkaa", sum := "0015225f5527d9dad199ccf85a2e28ba5bf24a9e01d42f3121b5235809fd7199", func := "warder/warderlaw08.LockNil", spec := "lockNil", inPlace := ["maps.clone"], unfollowed := true, recurses := true, apart := false, narrowed := true }
def LockNilUptoSaid : Prop := lockNilUptoRow.holds Try.pinned (OpenSpec.upto lockNilSpec)

end Rows
end Go.Proofs.Ytpfhjfijpmcnkaa
