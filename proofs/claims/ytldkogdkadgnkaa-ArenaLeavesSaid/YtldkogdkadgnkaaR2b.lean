/- Walks through the document's arena: Alloc whatever is free. -/
import Derived.Test.YtldkogdkadgnkaaR4
namespace Go.Proofs.Ytldkogdkadgnkaa
set_option linter.unusedSimpArgs false
set_option linter.unusedVariables false
open Go.RowKit
section
variable {w w' : World} {r lb c : Nat} {vb : Value} {S : List (Int × Int × Bool)} {B : List Nat} {E : Nat} {G : Int}
theorem ralloc_any (h : WAt w r lb c vb S B) (hI : AInv S B E) (hG : Gens S E G) {g : Int} (hk : S[nextI B E]? = some (0, g, false)) :
    Calls Try.prog 22 #[.pointer (some ⟨r, 0, none⟩)] w fun e w' => e = .returned (.tuple #[.agg #[.int .i64 (nextI B E), .int .u64 g], .int .i64 0]) ∧
      ∃ v', WAt w' r lb c v' (S.set (nextI B E) (0, g, true)) B.dropLast ∧ v'.ownBlock = vb.ownBlock ∧ Kp (fun b => b = r ∨ b = lb) w w' := by
  rcases List.eq_nil_or_concat B with rfl | ⟨B', i, hB⟩
  · have h1 : nextI [] E = E := rfl
    rw [h1] at hk ⊢
    have hg1 := (hG _ _ hk).2.2 (Nat.le_refl _)
    dsimp only at hg1
    subst hg1
    refine (ralloc_ever h hI.n2 hk (fun i s hi hs => (hI.fr i s hs).2 ⟨hi, by simp⟩)).mono ?_
    rintro e w1 ⟨rfl, h1, k1⟩
    exact ⟨rfl, vb, h1, rfl, k1⟩
  · rw [List.concat_eq_append] at hB
    subst hB
    have hn : nextI (B' ++ [i]) E = i := by simp [nextI]
    rw [hn] at hk ⊢
    have hbl := hI.bl
    have he := hI.e
    have hn2 := hI.n2
    simp at hbl
    refine (ralloc_pop h hI.n2 (by omega) hk).mono ?_
    rintro e w1 ⟨rfl, v', h1, h2, k1⟩
    exact ⟨rfl, v', by rw [List.dropLast_concat]; exact h1, h2, k1⟩
theorem full_of (hI : AInv S B E) (hr : ¬ 0 < room S B E) : B = [] ∧ E = S.length ∧ ∀ (i : Nat) (s : Int × Int × Bool), S[i]? = some s → s.2.2 = true := by
  have h1 : B = [] ∧ E = S.length := by
    unfold room at hr
    have := hI.e
    have : B.length = 0 := by omega
    exact ⟨List.eq_nil_of_length_eq_zero this, by omega⟩
  refine ⟨h1.1, h1.2, fun i s hs => (hI.fr i s hs).2 ?_⟩
  have := (List.getElem?_eq_some_iff.1 hs).1
  rw [h1.1, h1.2]
  exact ⟨this, by simp⟩
end
end Go.Proofs.Ytldkogdkadgnkaa
