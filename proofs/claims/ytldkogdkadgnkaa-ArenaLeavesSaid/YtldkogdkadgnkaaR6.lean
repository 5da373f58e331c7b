/- Walks through a game: what an act leaves. -/
import Derived.Test.YtldkogdkadgnkaaR5
namespace Go.Proofs.Ytldkogdkadgnkaa
set_option linter.unusedSimpArgs false
set_option linter.unusedVariables false
open Go.RowKit
attribute [local go_sem ↓] Go.wp_at_zero Go.wp_at_succ
theorem back_idx (a : Int) {n : Nat} (h1 : 1 ≤ a) (h0 : 0 < n) (hn : n ≤ 4096) : ∃ k : Nat, k < n ∧ IntKind.i64.wrap ((n : Int) - 1 - (a - 1).tmod n) = k := by
  rw [Int.tmod_eq_emod_of_nonneg (by omega)]
  have h2 := Int.emod_nonneg (a - 1) (show (n : Int) ≠ 0 by omega)
  have h3 := Int.emod_lt_of_pos (a - 1) (show (0 : Int) < n by omega)
  refine ⟨((n : Int) - 1 - (a - 1) % n).toNat, by omega, ?_⟩
  rw [wi_in (by omega)]; omega
theorem and_no {A B : Prop} [Decidable A] [Decidable B] (h : ¬ (A ∧ B)) : (decide A && decide B) = false := by
  by_cases a : A
  · by_cases b : B
    · exact absurd ⟨a, b⟩ h
    · simp [b]
  · simp [a]
theorem loc5 {w : World} {g : Nat} {v0 v1 v2 v3 v4 : Value} {t : TypeId} (h : w.heap[g]? = some (.cells #[v0, v1, v2, v3, v4] t (0, 0))) :
    w.cell? ⟨g, 0, none⟩ = some v0 ∧ w.cell? ⟨g, 1, none⟩ = some v1 ∧ w.cell? ⟨g, 2, none⟩ = some v2 ∧ w.cell? ⟨g, 3, none⟩ = some v3 ∧ w.cell? ⟨g, 4, none⟩ = some v4 ∧ g < w.heap.size :=
  ⟨by rw [cell_of h]; rfl, by rw [cell_of h]; rfl, by rw [cell_of h]; rfl, by rw [cell_of h]; rfl, by rw [cell_of h]; rfl, blk_lt h⟩
def BHOk (S : List (Int × Int × Bool)) (i g : Int) (bb : Bool) : Prop := bb = true ↔ HOk S i g
/-- what an act leaves -/
def Done (N : Nat) (w w' : World) (pg p l r lb c : Nat) (v vb hv : Value) (S : List (Int × Int × Bool)) (B : List Nat) (E : Nat) (H : List (Nat × Int)) : Prop :=
  ∃ v' vb' hv' S' B' E' H', GAt N w' pg p l r lb c v' vb' hv' S' B' E' H' ∧ Stp S B E H S' B' E' H' ∧ (∀ b, FP pg p l r lb v' vb' hv' b → FP pg p l r lb v vb hv b ∨ w.heap.size ≤ b) ∧ Kp (FP pg p l r lb v vb hv) w w'
theorem is_any {w : World} {r lb c : Nat} {vb : Value} {S : List (Int × Int × Bool)} {B : List Nat} (h : WAt w r lb c vb S B) (n2 : S.length ≤ 4096) (i g : Int) :
    Calls Try.prog 21 #[.pointer (some ⟨r, 0, none⟩), .agg #[.int .i64 i, .int .u64 g]] w fun e w' => ∃ bb : Bool, e = .returned (.bool bb) ∧ BHOk S i g bb ∧ Kp NoB w w' := by
  by_cases ho : HOk S i g
  · obtain ⟨k, x, rfl, hk⟩ := ho
    refine (is_yes h n2 hk).mono ?_
    rintro e w1 ⟨rfl, k1⟩
    exact ⟨true, rfl, ⟨fun _ => ⟨k, x, rfl, hk⟩, fun _ => rfl⟩, k1⟩
  · refine (is_no h n2 ho).mono ?_
    rintro e w1 ⟨rfl, k1⟩
    exact ⟨false, rfl, ⟨fun h => (by cases h), fun h => absurd h ho⟩, k1⟩
end Go.Proofs.Ytldkogdkadgnkaa
