/- The plain law of a game: an arena, the document's, all handles that came. No program in sight. -/
import Derived.Test.YtldkogdkadgnkaaR3
namespace Go.Proofs.Ytldkogdkadgnkaa
set_option linter.unusedSimpArgs false
set_option linter.unusedVariables false
open Go.RowKit

/-- one act -/
inductive Stp (S : List (Int × Int × Bool)) (B : List Nat) (E : Nat) (H : List (Nat × Int)) : List (Int × Int × Bool) → List Nat → Nat → List (Nat × Int) → Prop
  | same : Stp S B E H S B E H
  | alloc (g : Int) (hr : 0 < room S B E) (hk : S[nextI B E]? = some (0, g, false)) : Stp S B E H (S.set (nextI B E) (0, g, true)) B.dropLast (nextE B E) (H ++ [(nextI B E, g)])
  | set (k : Nat) (x g y : Int) (hk : S[k]? = some (x, g, true)) : Stp S B E H (S.set k (y, g, true)) B E H
  | free (k : Nat) (x g : Int) (hk : S[k]? = some (x, g, true)) : Stp S B E H (S.set k (0, g + 1, false)) (B ++ [k]) E H

/-- the generations: from 1 on, at most G; 1 where nothing was ever -/
def Gens (S : List (Int × Int × Bool)) (E : Nat) (G : Int) : Prop := ∀ (i : Nat) (s : Int × Int × Bool), S[i]? = some s → 1 ≤ s.2.1 ∧ s.2.1 ≤ G ∧ (E ≤ i → s.2.1 = 1)
/-- the handles that came: each is of a slot in use, or older -/
def HInv (S : List (Int × Int × Bool)) (H : List (Nat × Int)) : Prop := ∀ h ∈ H, ∃ (x g : Int) (b : Bool), S[h.1]? = some (x, g, b) ∧ (h.2 < g ∨ (h.2 = g ∧ b = true)) ∧ 0 ≤ h.2
/-- no generation falls -/
def Mono (S S' : List (Int × Int × Bool)) : Prop := S'.length = S.length ∧ ∀ (i : Nat) (s s' : Int × Int × Bool), S[i]? = some s → S'[i]? = some s' → s.2.1 ≤ s'.2.1
theorem Mono.refl (S : List (Int × Int × Bool)) : Mono S S := ⟨rfl, fun i s s' h h' => by rw [h] at h'; injection h' with h'; subst h'; omega⟩
theorem Mono.of_set {S : List (Int × Int × Bool)} {k : Nat} {s t : Int × Int × Bool} (hk : S[k]? = some s) (hg : s.2.1 ≤ t.2.1) : Mono S (S.set k t) := by
  refine ⟨by simp, fun i u u' h h' => ?_⟩
  by_cases e : i = k
  · subst e
    rw [List.getElem?_set_self (List.getElem?_eq_some_iff.1 hk).1] at h'
    injection h' with h'; subst h'
    rw [hk] at h; injection h with h; subst h
    exact hg
  · rw [List.getElem?_set_ne (Ne.symm e)] at h'
    rw [h] at h'; injection h' with h'; subst h'; omega
section
variable {S S' : List (Int × Int × Bool)} {B B' : List Nat} {E E' : Nat} {H H' : List (Nat × Int)} {G : Int}
theorem Gens.set (hG : Gens S E G) {k : Nat} {x g : Int} {b : Bool} (hk : S[k]? = some (x, g, b)) {y g' : Int} {b' : Bool} {E' : Nat} {G' : Int} (h1 : 1 ≤ g') (h2 : g' ≤ G') (h3 : E' ≤ k → g' = 1) (hE : E ≤ E') (hGG : G ≤ G') : Gens (S.set k (y, g', b')) E' G' := by
  intro i s hs
  by_cases e : i = k
  · subst e
    rw [List.getElem?_set_self (List.getElem?_eq_some_iff.1 hk).1] at hs
    injection hs with hs; subst hs
    exact ⟨h1, h2, h3⟩
  · rw [List.getElem?_set_ne (Ne.symm e)] at hs
    obtain ⟨a1, a2, a3⟩ := hG i s hs
    exact ⟨a1, by omega, fun h => a3 (by omega)⟩
theorem HInv.set (hH : HInv S H) {k : Nat} {x g : Int} {b : Bool} (hk : S[k]? = some (x, g, b)) {y g' : Int} {b' : Bool} (h : ∀ q : Int, (q < g ∨ (q = g ∧ b = true)) → (q < g' ∨ (q = g' ∧ b' = true))) : HInv (S.set k (y, g', b')) H := by
  intro e he
  obtain ⟨x1, g1, b1, h1, h2, h3⟩ := hH e he
  by_cases ek : e.1 = k
  · rw [ek] at h1
    rw [hk] at h1
    injection h1 with h1; injection h1 with h1 h4; injection h4 with h4 h5
    subst h1; subst h4; subst h5
    exact ⟨y, g', b', by rw [ek]; exact List.getElem?_set_self (List.getElem?_eq_some_iff.1 hk).1, h _ h2, h3⟩
  · exact ⟨x1, g1, b1, by rw [List.getElem?_set_ne (Ne.symm ek)]; exact h1, h2, h3⟩
theorem Stp.law (st : Stp S B E H S' B' E' H') (hI : AInv S B E) (hG : Gens S E G) (hH : HInv S H) :
    AInv S' B' E' ∧ Gens S' E' (G + 1) ∧ HInv S' H' ∧ Mono S S' ∧ (H' = H ∨ ∃ h, H' = H ++ [h] ∧ h ∉ H) := by
  cases st with
  | same => exact ⟨hI, fun i s hs => by obtain ⟨a, b, c⟩ := hG i s hs; exact ⟨a, by omega, c⟩, hH, Mono.refl _, .inl rfl⟩
  | alloc g hr hk =>
    obtain ⟨a1, a2, a3⟩ := hG _ _ hk
    dsimp only at a1 a2 a3
    have hEE : E ≤ nextE B E := by unfold nextE; split <;> omega
    have hn3 : nextE B E ≤ nextI B E → g = 1 := by
      intro h
      apply a3
      omega
    refine ⟨(hI.alloc hr).1, hG.set hk a1 (by omega) hn3 hEE (by omega), ?_, Mono.of_set hk (by simp), .inr ⟨_, rfl, ?_⟩⟩
    · intro e he
      rcases List.mem_append.1 he with he | he
      · exact hH.set (y := 0) (g' := g) (b' := true) hk (fun q h => by
          rcases h with h | ⟨_, h⟩
          · exact .inl h
          · cases h) e he
      · simp at he
        subst he
        exact ⟨0, g, true, List.getElem?_set_self (List.getElem?_eq_some_iff.1 hk).1, .inr ⟨rfl, rfl⟩, by omega⟩
    · intro hm
      obtain ⟨x1, g1, b1, h1, h2, _⟩ := hH _ hm
      dsimp only at h1 h2
      rw [hk] at h1
      injection h1 with h1; injection h1 with h1 h4; injection h4 with h4 h5
      subst h4; subst h5
      rcases h2 with h2 | ⟨_, h2⟩
      · omega
      · cases h2
  | set k x g y hk =>
    obtain ⟨a1, a2, a3⟩ := hG _ _ hk
    dsimp only at a1 a2 a3
    exact ⟨hI.set hk, hG.set hk a1 (by omega) a3 (Nat.le_refl _) (by omega), hH.set hk (fun q h => h), Mono.of_set hk (by simp), .inl rfl⟩
  | free k x g hk =>
    obtain ⟨a1, a2, a3⟩ := hG _ _ hk
    dsimp only at a1 a2 a3
    have hkE := ((hI.fr _ _ hk).1 rfl).1
    refine ⟨(hI.free hk).1, hG.set hk (by omega) (by omega) (fun h => absurd h (by omega)) (Nat.le_refl _) (by omega), hH.set hk (fun q h => ?_), Mono.of_set hk (by simp; omega), .inl rfl⟩
    rcases h with h | ⟨h, _⟩
    · exact .inl (by omega)
    · exact .inl (by omega)
end
end Go.Proofs.Ytldkogdkadgnkaa
