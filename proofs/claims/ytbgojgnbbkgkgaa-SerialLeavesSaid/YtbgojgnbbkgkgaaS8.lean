/- A row of draws that came in. -/
import Derived.Test.YtbgojgnbbkgkgaaS7
import Derived.OpenShut
namespace Go.Proofs.Ytbgojgnbbkgkgaa
set_option linter.unusedSimpArgs false
set_option linter.unusedVariables false
open Go.RowKit Go.ChangeShapes Go.WideShapes Go.Deep

section
variable {H : Type} {enc : TypeId × Value → H} {w : World} {base : Nat} {spare : Nat → Bool} {held : Bool}
set_option maxRecDepth 100000 in
theorem draws_of {fuel : Nat} {a : Option Addr} {len cap : Nat} {x : DataW H × List MemPlace} (h : DataW.trod enc Try.prog w base spare held fuel 36 [.slice a len cap] = some x) :
    ∃ L, DrawsAt w w.heap.size a len L := by
  rcases open_ints Try.underlying36 Try.underlying23 (by kernel_rfl) h with ⟨hcs, _⟩ | ⟨y, l, c, zs, hcs, _, hl, hm, hz, _, hcell, hwz⟩
  · simp at hcs
    obtain ⟨rfl, rfl, rfl⟩ := hcs
    exact ⟨[], rfl, by omega, by simp, by simp⟩
  · simp at hcs
    obtain ⟨rfl, rfl, rfl⟩ := hcs
    have hle : len ≤ zs.length := by rw [hz]; split <;> omega
    refine ⟨zs.take len, by simp; omega, by have := hm; simp [maxLen] at this; omega, fun z hz' => wf_u64 (hwz z (List.mem_of_mem_take hz')), fun i z hiz => ?_⟩
    have hi := (List.getElem?_eq_some_iff.1 hiz).1
    simp only [List.length_take] at hi
    have hi2 : i < zs.length := by omega
    have hc := hcell i hi2
    rw [List.getElem?_take_of_lt (by omega)] at hiz
    rw [List.getD_eq_getElem?_getD, hiz] at hc
    exact ⟨y, rfl, by have := cell_lt hc; rwa [add_blk] at this, hc⟩
end
end Go.Proofs.Ytbgojgnbbkgkgaa
