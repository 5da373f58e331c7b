/- A game, whatever is done. -/
import Derived.Test.YtldkogdkadgnkaaR61
import Derived.Test.YtldkogdkadgnkaaR62
import Derived.Test.YtldkogdkadgnkaaR63
import Derived.Test.YtldkogdkadgnkaaR64
import Derived.Test.YtldkogdkadgnkaaR65
import Derived.Test.YtldkogdkadgnkaaR6o
namespace Go.Proofs.Ytldkogdkadgnkaa
set_option linter.unusedSimpArgs false
set_option linter.unusedVariables false
open Go.RowKit
section
variable {N : Nat} {w w' : World} {pg p l r lb c : Nat} {v vb hv : Value} {S : List (Int × Int × Bool)} {B : List Nat} {E : Nat} {H : List (Nat × Int)} {G : Int}
theorem do_all (h : GAt N w pg p l r lb c v vb hv S B E H) (hI : AInv S B E) (hG : Gens S E G) (hGG : G ≤ 4096) (hH : H.length ≤ 4096) (kind hi hg at_ x : Int) (wat : -9223372036854775808 ≤ at_ ∧ at_ < 9223372036854775808) :
    Calls Try.prog 9 #[.pointer (some ⟨pg, 0, none⟩), .agg #[.int .i64 kind, .int .i64 hi, .int .u64 hg, .int .i64 at_, .int .i64 x]] w fun e w' => e = .returned (.bool true) ∧ Done N w w' pg p l r lb c v vb hv S B E H := by
  by_cases k1 : kind = 1
  · subst k1; exact do1 h hI hG hGG hH hi hg at_ x wat
  by_cases k2 : kind = 2
  · subst k2; exact do2 h hI hG hGG hH hi hg at_ x wat
  by_cases k3 : kind = 3
  · subst k3; exact do3 h hI hG hGG hH hi hg at_ x wat
  by_cases k4 : kind = 4
  · subst k4; exact do4 h hI hG hGG hH hi hg at_ x wat
  by_cases k5 : kind = 5
  · subst k5; exact do5 h hI hG hGG hH hi hg at_ x wat
  exact doo h hI hG hGG hH kind hi hg at_ x wat k1 k2 k3 k4 k5
end
/-- a game, where it lies left open -/
def Game (N : Nat) (w : World) (pg p l r lb c : Nat) (S : List (Int × Int × Bool)) (B : List Nat) (E : Nat) (H : List (Nat × Int)) : Prop := ∃ v vb hv, GAt N w pg p l r lb c v vb hv S B E H
/-- what a game is bound by -/
structure GOk (S : List (Int × Int × Bool)) (B : List Nat) (E : Nat) (H : List (Nat × Int)) (G : Int) : Prop where
  i : AInv S B E
  g : Gens S E G
  h : HInv S H
section
variable {N : Nat} {w w' : World} {pg p l r lb c : Nat} {S S' : List (Int × Int × Bool)} {B B' : List Nat} {E E' : Nat} {H H' : List (Nat × Int)} {G : Int}
/-- does a block lie outside of all games that begin at N? -/
def Far (w : World) (b : Nat) : Prop := ∃ (A : Array Value) (t : TypeId), w.heap[b]? = some (.cells A t (0, 0)) ∧ t ≠ 32 ∧ t ≠ 76 ∧ t ≠ 72 ∧ t ≠ 59 ∧ t ≠ 56 ∧ t ≠ 3 ∧ t ≠ 36
theorem do_game (h : Game N w pg p l r lb c S B E H) (o : GOk S B E H G) (hGG : G ≤ 4096) (hH : H.length ≤ 4096) (kind hi hg at_ x : Int) (wat : -9223372036854775808 ≤ at_ ∧ at_ < 9223372036854775808) :
    Calls Try.prog 9 #[.pointer (some ⟨pg, 0, none⟩), .agg #[.int .i64 kind, .int .i64 hi, .int .u64 hg, .int .i64 at_, .int .i64 x]] w fun e w' => e = .returned (.bool true) ∧
      ∃ S' B' E' H', Game N w' pg p l r lb c S' B' E' H' ∧ GOk S' B' E' H' (G + 1) ∧ Mono S S' ∧ (H' = H ∨ ∃ h, H' = H ++ [h] ∧ h ∉ H) ∧ Kp (fun b => N ≤ b ∧ ¬ Far w b) w w' := by
  obtain ⟨v, vb, hv, hg'⟩ := h
  refine (do_all hg' o.i o.g hGG hH kind hi hg at_ x wat).mono ?_
  rintro e w1 ⟨rfl, v', vb', hv', S', B', E', H', g1, st, _, k1⟩
  obtain ⟨a1, a2, a3, a4, a5⟩ := st.law o.i o.g o.h
  refine ⟨rfl, S', B', E', H', ⟨v', vb', hv', g1⟩, ⟨a1, a2, a3⟩, a4, a5, k1.mono ?_⟩
  intro b hb
  refine ⟨hg'.fp b hb, ?_⟩
  rintro ⟨A, t, hb', ht⟩
  exact hg'.not_fp hb' ht hb
theorem Game.kn (h : Game N w pg p l r lb c S B E H) (k : Kp NoB w w') : Game N w' pg p l r lb c S B E H := by
  obtain ⟨v, vb, hv, h⟩ := h
  exact ⟨v, vb, hv, h.kn k⟩
/-- a block that is far may turn -/
theorem Game.far (h : Game N w pg p l r lb c S B E H) {b : Nat} (hb : Far w b) (k : Kp (· = b) w w') : Game N w' pg p l r lb c S B E H := by
  obtain ⟨v, vb, hv, h⟩ := h
  refine ⟨v, vb, hv, h.kp k ?_⟩
  rintro b' hb' rfl
  obtain ⟨A, t, hbb, ht⟩ := hb
  exact h.not_fp hbb ht hb'
end
end Go.Proofs.Ytldkogdkadgnkaa
