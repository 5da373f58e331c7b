/-
  No cell of these rows narrows 'for every input' (looked for: loops, veiled, ifaces, maps, wideKeys, modest, calm, conditions, laid).
  DERIVED. THE GIVEN ROWS OF THIS SEAT. 2 by the template 'for every input the law returns true; each argument reads behind the call as it read before'; 0 by the template 'total and deterministic' (their statements: YtackanpobfaglaaRRRRTotals.lean).
  GIVEN WITH THE SEED: the statements are not yours to turn. If you find one false, say at which input.
  Laid BY PROGRAM, IN A SANDBOX (cutbox-rows.mjs): the forced cells as the released guide's own fill.sh prints them over the translation 8c639de3830e6c88… (all of the seat's roots in one cut). By AI agents, Wed Nov 11 2026. No macro, syntax, notation, axiom, sorry.
-/
import Derived.Test.YtackanpobfaglaaRRRRChecked
import GoSem.Claim
import GoSem.ClaimJoined
import GoSem.ClaimMapViews
import Derived.JoinedTies
import Derived.KernelRfl
namespace Go.Proofs.YtackanpobfaglaaRRRR
/- THE CELL 'sum', in the pinned program and in every row, IS THE sha256 OF THE DUMP (.gsa) THAT YtackanpobfaglaaRRRRProg.lean LOADS. Nothing in Lean hashes anything: it is a label: what it is worth is what the hold of that sum in a sandbox is worth. -/
noncomputable def Try.pinned : Pinned := { name := "ytackanpobfaglaarrrr", sum := "8c639de3830e6c88b6e983e680be24bd9ac42d0c36a7e2c9f9f3a5c929d81f6b", checked := Try.checked }
namespace Rows
def none {H : Type} : Left H := { results := [], args := [] }

/-- 'warderlaw16.LifeOf': WHATEVER THE INPUT: true; the input reads as it did. -/
def lifeOfSpec : ChangeSpec := { name := "lifeOf", fn := fun _ => fun
  | [d1, d2] => { results := [.lit (.bool true)], args := [d1, d2] }
  | _ => none }
def lifeOfRow : OpenClaim := { program := "ytackanpobfaglaarrrr", sum := "8c639de3830e6c88b6e983e680be24bd9ac42d0c36a7e2c9f9f3a5c929d81f6b", func := "warder/warderlaw16.LifeOf", spec := "lifeOf", inPlace := ["slices.overlaps[warder/life.timer]"], unfollowed := true, recurses := true, apart := false }
def LifeOfSaid : Prop := lifeOfRow.holds Try.pinned (OpenSpec.ofChange lifeOfSpec)

/-- ITS FALSE NEIGHBOUR: 'it returns false'. Refute it at one input. -/
def lifeOfWrong : ChangeSpec := { name := "lifeOf", fn := fun _ => fun
  | [d1, d2] => { results := [.lit (.bool false)], args := [d1, d2] }
  | _ => none }
def LifeOfWrongFalsely : Prop := lifeOfRow.holds Try.pinned (OpenSpec.ofChange lifeOfWrong)

/-- 'warderlaw16.LifeStays': WHATEVER THE INPUT: true; the input reads as it did. -/
def lifeStaysSpec : ChangeSpec := { name := "lifeStays", fn := fun _ => fun
  | [d1, d2, d3] => { results := [.lit (.bool true)], args := [d1, d2, d3] }
  | _ => none }
def lifeStaysRow : OpenClaim := { program := "ytackanpobfaglaarrrr", sum := "8c639de3830e6c88b6e983e680be24bd9ac42d0c36a7e2c9f9f3a5c929d81f6b", func := "warder/warderlaw16.LifeStays", spec := "lifeStays", inPlace := ["slices.overlaps[warder/life.timer]"], unfollowed := true, recurses := true, apart := false }
def LifeStaysSaid : Prop := lifeStaysRow.holds Try.pinned (OpenSpec.ofChange lifeStaysSpec)

/-- ITS FALSE NEIGHBOUR: 'it returns false'. Refute it at one input. -/
def lifeStaysWrong : ChangeSpec := { name := "lifeStays", fn := fun _ => fun
  | [d1, d2, d3] => { results := [.lit (.bool false)], args := [d1, d2, d3] }
  | _ => none }
def LifeStaysWrongFalsely : Prop := lifeStaysRow.holds Try.pinned (OpenSpec.ofChange lifeStaysWrong)

/- THE SECOND FORM. 'bulk': how many values and letters a reading holds, each counted each time it is reached (what is shared counts as often as it is met; a slice's spare places count too). A statement '..UptoSaid' is the law's where the arguments, and the package variables that the reading takes, are together of bulk at most 1048576: NARROWER than '..Said'. Prove '..Said' where nothing that the law and all that it calls make is longer than what came in: it says more and counts as full. Else prove '..UptoSaid'. A law counts once. -/
mutual
def uptoBulk {H : Type} : DataW H → Nat
  | .lit (.string bytes) => bytes.length + 1
  | .lit _ => 1
  | .nil => 1
  | .ptr d => uptoBulk d + 1
  | .slice elems spare => uptoBulkAll elems + uptoBulkAll spare + 1
  | .agg parts => uptoBulkAll parts + 1
  | .iface _ d => uptoBulk d + 1
  | .map entries => uptoBulkEntries entries + 1
  | .held _ => 1
def uptoBulkAll {H : Type} : List (DataW H) → Nat
  | [] => 0
  | d :: r => uptoBulk d + uptoBulkAll r
def uptoBulkEntries {H : Type} : List (Lit × DataW H) → Nat
  | [] => 0
  | x :: r => uptoBulkEntry x + uptoBulkEntries r
def uptoBulkEntry {H : Type} : Lit × DataW H → Nat
  | (.string bytes, d) => bytes.length + uptoBulk d + 1
  | (_, d) => uptoBulk d + 1
 end
def uptoSmall : (H : Type) → List (DataW H) → Bool := fun _ ds => decide (uptoBulkAll ds ≤ 1048576)
def OpenSpec.upto (s : _root_.Go.ChangeSpec) : _root_.Go.OpenSpec := { _root_.Go.OpenSpec.ofChange s with cond := some uptoSmall }

/-- 'warderlaw16.LifeOf', WHERE WHAT IT READS IS OF BULK AT MOST 1048576: true; the input reads as it did. -/
def lifeOfUptoRow : OpenClaim := { program := "ytackanpobfaglaarrrr", sum := "8c639de3830e6c88b6e983e680be24bd9ac42d0c36a7e2c9f9f3a5c929d81f6b", func := "warder/warderlaw16.LifeOf", spec := "lifeOf", inPlace := ["slices.overlaps[warder/life.timer]"], unfollowed := true, recurses := true, apart := false, narrowed := true }
def LifeOfUptoSaid : Prop := lifeOfUptoRow.holds Try.pinned (OpenSpec.upto lifeOfSpec)

/-- 'warderlaw16.LifeStays', WHERE WHAT IT READS IS OF BULK AT MOST 1048576: true; the input reads as it did. -/
def lifeStaysUptoRow : OpenClaim := { program := "ytackanpobfaglaarrrr", sum := "8c639de3830e6c88b6e983e680be24bd9ac42d0c36a7e2c9f9f3a5c929d81f6b", func := "warder/warderlaw16.LifeStays", spec := "lifeStays", inPlace := ["slices.overlaps[warder/life.timer]"], unfollowed := true, recurses := true, apart := false, narrowed := true }
def LifeStaysUptoSaid : Prop := lifeStaysUptoRow.holds Try.pinned (OpenSpec.upto lifeStaysSpec)

end Rows
end Go.Proofs.YtackanpobfaglaaRRRR
