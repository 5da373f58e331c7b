/- A handle that came in, by value. -/
import Derived.Test.YtbgojgnbbkgkgaaS1
import Derived.Test.YtbgojgnbbkgkgaaLibF
namespace Go.Proofs.Ytbgojgnbbkgkgaa
set_option linter.unusedSimpArgs false
set_option linter.unusedVariables false
open Go.RowKit Go.ChangeShapes Go.WideShapes Go.Deep

theorem wf_u64 {x : Int} (h : (Lit.int .u64 x).wf = true) : 0 ≤ x ∧ x < 18446744073709551616 := by
  simp [Lit.wf] at h
  have e1 : IntKind.u64.min = 0 := by decide
  have e2 : IntKind.u64.max = 18446744073709551615 := by decide
  rw [e1, e2] at h
  omega
section
variable {H : Type} {enc : TypeId × Value → H} {w : World} {base : Nat} {spare : Nat → Bool} {held : Bool}
set_option maxRecDepth 100000 in
theorem handle_of {r : Reach} {b0 : Nat} {v : Value} {d : DataW H} {p : List MemPlace} (hv : Value.okWide Try.prog w r b0 25 v) (h : DataW.Trod enc Try.prog w base spare held 25 v d p) :
    ∃ z : Int × Int, v = hV z.1 z.2 ∧ 0 ≤ z.2 ∧ z.2 < 18446744073709551616 := by
  obtain ⟨cs, rfl, hl, n, hf⟩ := open_val Try.underlying25 (by kernel_rfl) (by kernel_rfl) hv h
  obtain ⟨v0, z0, c0, t0⟩ := hf 0 _ rfl
  obtain ⟨v1, z1, c1, t1⟩ := hf 1 _ rfl
  obtain ⟨n0, e0, _, f0⟩ := DataW.trod_int Try.underlying3 t0
  obtain ⟨n1, e1, _, f1⟩ := DataW.trod_int Try.underlying23 t1
  injection e0 with e0 _; injection e1 with e1 _
  subst e0; subst e1
  refine ⟨(n0, n1), ?_, wf_u64 f1⟩
  match cs, hl with
  | [x0, x1], _ =>
    simp at c0 c1
    subst c0; subst c1
    rfl
end
end Go.Proofs.Ytbgojgnbbkgkgaa
