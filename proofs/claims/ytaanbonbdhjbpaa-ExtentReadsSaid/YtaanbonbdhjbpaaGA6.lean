/- Walks through an arena: Alloc whatever is free. -/
import Derived.Test.YtaanbonbdhjbpaaGA5
namespace Go.Proofs.Ytaanbonbdhjbpaa
set_option linter.unusedSimpArgs false
set_option linter.unusedVariables false
open Go.RowKit
attribute [local go_sem ↓] Go.wp_at_zero Go.wp_at_succ
section
variable {w w' : World} {p l : Nat} {v : Value} {S : List Sl3} {B : List Nat} {E : Nat}
/-- the place that is given out next; those given back, and how many were ever in use, behind it -/
def nextI (B : List Nat) (E : Nat) : Nat := (B.getLast?).getD E
def nextE (B : List Nat) (E : Nat) : Nat := if B = [] then E + 1 else E
theorem alloc_any (h : AAt w p l v S B E) (o : AOk S B E) {x : X} {g : Int} {b : Bool} (hk : S[nextI B E]? = some (x, g, b)) :
    Calls Try.prog 14 #[.pointer (some ⟨p, 0, none⟩)] w fun e w' => e = .returned (.tuple #[.agg #[.int .i64 (nextI B E), .int .u64 g], .int .i64 0]) ∧
      ∃ v', AAt w' p l v' (S.set (nextI B E) (x, g, true)) B.dropLast (nextE B E) ∧ v'.ownBlock = v.ownBlock ∧ Kp (fun b => b = p ∨ b = l) w w' := by
  rcases List.eq_nil_or_concat B with rfl | ⟨B', i, hB⟩
  · refine (alloc_ever h o hk).mono ?_
    rintro e w1 ⟨rfl, h1, k1⟩
    exact ⟨rfl, v, h1, rfl, k1⟩
  · rw [List.concat_eq_append] at hB
    subst hB
    have hn : nextI (B' ++ [i]) E = i := by simp [nextI]
    have he : nextE (B' ++ [i]) E = E := by simp [nextE]
    rw [hn] at hk
    refine (alloc_pop h o hk).mono ?_
    rintro e w1 ⟨rfl, v', h1, h2, k1⟩
    exact ⟨by rw [hn], v', by rw [hn, he, List.dropLast_concat]; exact h1, h2, k1⟩
theorem kp_new {F : Nat → Prop} {w w1 w2 : World} (h : Kp NoB w w1) (k : Kp F w1 w2) (hF : ∀ b, F b → w.heap.size ≤ b) : Kp NoB w w2 :=
  h.trans' k (fun b hb hf => absurd (hF b hf) (by omega))
end
end Go.Proofs.Ytaanbonbdhjbpaa
