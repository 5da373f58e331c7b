/- A row of whole numbers that came in. -/
import Derived.Test.YtldkogdkadgnkaaA8
import Derived.OpenShut
namespace Go.Proofs.Ytldkogdkadgnkaa
set_option linter.unusedSimpArgs false
set_option linter.unusedVariables false
open Go.RowKit Go.ChangeShapes Go.WideShapes Go.Deep

theorem wf_i64 {z : Int} (h : (Lit.int .i64 z).wf = true) : -9223372036854775808 ≤ z ∧ z < 9223372036854775808 := by
  have h' : (decide (IntKind.i64.min ≤ z) && decide (z ≤ IntKind.i64.max)) = true := by simpa [Lit.wf] using h
  have e1 : IntKind.i64.min = -9223372036854775808 := by decide
  have e2 : IntKind.i64.max = 9223372036854775807 := by decide
  rw [e1, e2] at h'
  simp at h'; omega
section
variable {H : Type} {enc : TypeId × Value → H} {w : World} {base : Nat} {spare : Nat → Bool} {held : Bool}
set_option maxRecDepth 100000 in
theorem ints_of {fuel : Nat} {a : Option Addr} {len cap : Nat} {x : DataW H × List MemPlace} (h : DataW.trod enc Try.prog w base spare held fuel 43 [.slice a len cap] = some x) :
    ∃ L, IntsAt w w.heap.size a len L := by
  rcases open_ints Try.underlying43 Try.underlying3 (by kernel_rfl) h with ⟨hcs, _⟩ | ⟨y, l, c, zs, hcs, _, hl, hm, hz, _, hcell, hwz⟩
  · simp at hcs
    obtain ⟨rfl, rfl, rfl⟩ := hcs
    exact ⟨[], rfl, by omega, by simp, by simp⟩
  · simp at hcs
    obtain ⟨rfl, rfl, rfl⟩ := hcs
    have hle : len ≤ zs.length := by rw [hz]; split <;> omega
    refine ⟨zs.take len, by simp; omega, by have := hm; simp [maxLen] at this; omega, fun z hz' => wf_i64 (hwz z (List.mem_of_mem_take hz')), fun i z hiz => ?_⟩
    have hi := (List.getElem?_eq_some_iff.1 hiz).1
    simp only [List.length_take] at hi
    have hi2 : i < zs.length := by omega
    have hc := hcell i hi2
    rw [List.getElem?_take_of_lt (by omega)] at hiz
    rw [List.getD_eq_getElem?_getD, hiz] at hc
    exact ⟨y, rfl, by have := cell_lt hc; rwa [add_blk] at this, hc⟩
end
end Go.Proofs.Ytldkogdkadgnkaa
