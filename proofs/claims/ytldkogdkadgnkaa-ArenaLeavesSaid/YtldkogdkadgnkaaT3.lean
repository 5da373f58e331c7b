/- Plain law: who is alive, and who is gone. -/
import Derived.Test.YtldkogdkadgnkaaT2
namespace Go.Proofs.Ytldkogdkadgnkaa
set_option linter.unusedSimpArgs false
set_option linter.unusedVariables false
open Go.RowKit Go.Shelf
def hd (x : Nat × Int × Int) : Nat × Int := (x.1, x.2.1)
def wantL (S : List (Int × Int × Bool)) : List (Nat × Int) := (liveL S).map hd
def wantK (S : List (Int × Int × Bool)) (k : Nat) : List (Nat × Int) := (liveK S k).map hd
theorem wantK_zero (S : List (Int × Int × Bool)) : wantK S 0 = [] := by simp [wantK, liveK_zero]
theorem wantK_all (S : List (Int × Int × Bool)) : wantK S S.length = wantL S := by simp [wantK, wantL, liveK_all]
theorem wantK_succ {S : List (Int × Int × Bool)} {k : Nat} {x g : Int} {b : Bool} (h : S[k]? = some (x, g, b)) : wantK S (k + 1) = wantK S k ++ (if b then [(k, g)] else []) := by
  unfold wantK
  rw [liveK_succ h, List.map_append]
  cases b <;> rfl
theorem wantL_len (S : List (Int × Int × Bool)) : (wantL S).length = (liveL S).length := by simp [wantL]
theorem wantK_len (S : List (Int × Int × Bool)) (k : Nat) : (wantK S k).length ≤ k := by
  unfold wantK liveK
  rw [List.length_map]
  have h := List.length_filterMap_le liveF (S.take k).zipIdx
  rw [List.length_zipIdx, List.length_take] at h
  omega
theorem live_mem {S : List (Int × Int × Bool)} {i : Nat} {g x : Int} : (i, g, x) ∈ liveL S ↔ S[i]? = some (x, g, true) := by
  unfold liveL
  rw [List.mem_filterMap]
  constructor
  · rintro ⟨⟨⟨x', g', b'⟩, i'⟩, hm, he⟩
    rw [List.mem_zipIdx_iff_getElem?] at hm
    unfold liveF at he
    cases b' with
    | false => simp at he
    | true =>
      simp only [if_true] at he
      injection he with he
      injection he with h1 h2
      injection h2 with h2 h3
      subst h1; subst h2; subst h3
      exact hm
  · intro h
    exact ⟨((x, g, true), i), List.mem_zipIdx_iff_getElem?.2 h, by simp [liveF]⟩
theorem want_nodup (S : List (Int × Int × Bool)) : ((wantL S).map (·.1)).Nodup := by
  have h : ∀ n, n ≤ S.length → ((wantK S n).map (·.1)).Nodup ∧ ∀ i ∈ (wantK S n).map (·.1), i < n := by
    intro n
    induction n with
    | zero => intro _; rw [wantK_zero]; simp
    | succ n ih =>
      intro hn
      obtain ⟨h1, h2⟩ := ih (by omega)
      obtain ⟨⟨x, g, b⟩, hs⟩ : ∃ s, S[n]? = some s := ⟨_, List.getElem?_eq_getElem (by omega)⟩
      rw [wantK_succ hs]
      cases b with
      | false =>
        simp only [Bool.false_eq_true, if_false, List.append_nil]
        exact ⟨h1, fun i hi => by have := h2 i hi; omega⟩
      | true =>
        simp only [if_true, List.map_append, List.map_cons, List.map_nil]
        refine ⟨List.nodup_append.2 ⟨h1, by simp, ?_⟩, ?_⟩
        · intro a ha b hb e
          simp at hb; subst hb; subst e
          have := h2 _ ha; omega
        · intro i hi
          rcases List.mem_append.1 hi with hi | hi
          · have := h2 i hi; omega
          · simp at hi; omega
  have := (h S.length (Nat.le_refl _)).1
  rwa [wantK_all] at this
theorem want_at {S : List (Int × Int × Bool)} {k i : Nat} {g : Int} (h : (wantL S)[k]? = some (i, g)) : (∃ x, S[i]? = some (x, g, true)) ∧ i ∉ ((wantL S).take k).map (·.1) := by
  have hm := List.mem_of_getElem? h
  unfold wantL at hm
  obtain ⟨⟨i', g', x'⟩, hx, he⟩ := List.mem_map.1 hm
  unfold hd at he
  injection he with h1 h2
  simp only at h1 h2
  subst h1; subst h2
  refine ⟨⟨x', live_mem.1 hx⟩, fun hc => ?_⟩
  have hn := want_nodup S
  have hk := (List.getElem?_eq_some_iff.1 h).1
  rw [← List.take_append_drop k (wantL S), List.map_append, List.nodup_append] at hn
  refine hn.2.2 _ hc i' ?_ rfl
  rw [List.mem_map]
  refine ⟨(i', g'), ?_, rfl⟩
  have : ((wantL S).drop k)[0]? = some (i', g') := by rw [List.getElem?_drop]; exact h
  exact List.mem_of_getElem? this
/-- those of pre were freed -/
def Gone (S S' : List (Int × Int × Bool)) (pre : List (Nat × Int × Int)) : Prop :=
  S'.length = S.length ∧ ∀ i, (i ∈ pre.map (·.1) → ∃ g, S'[i]? = some (0, g, false)) ∧ (i ∉ pre.map (·.1) → S'[i]? = S[i]?)
theorem Gone.nil (S : List (Int × Int × Bool)) : Gone S S [] := ⟨rfl, fun i => ⟨fun h => by simp at h, fun _ => rfl⟩⟩
theorem Gone.step {S S' : List (Int × Int × Bool)} {pre : List (Nat × Int × Int)} (h : Gone S S' pre) {i : Nat} (hi : i < S.length) (g x g' : Int) : Gone S (S'.set i (0, g', false)) (pre ++ [(i, g, x)]) := by
  obtain ⟨h1, h2⟩ := h
  refine ⟨by rw [List.length_set, h1], fun j => ?_⟩
  rw [List.map_append, List.mem_append]
  by_cases e : j = i
  · subst e
    refine ⟨fun _ => ⟨g', by rw [List.getElem?_set_self (by omega)]⟩, fun hn => absurd (.inr (by simp)) hn⟩
  · rw [List.getElem?_set_ne (Ne.symm e)]
    refine ⟨fun hj => (h2 j).1 ?_, fun hn => (h2 j).2 (fun hj => hn (.inl hj))⟩
    rcases hj with hj | hj
    · exact hj
    · simp at hj; exact absurd hj e
theorem Gone.all {S S' : List (Int × Int × Bool)} {pre : List (Nat × Int × Int)} (h : Gone S S' pre) (hp : pre.map hd = wantL S) : liveL S' = [] := by
  rw [List.eq_nil_iff_forall_not_mem]
  rintro ⟨i, g, x⟩ hm
  have hs := live_mem.1 hm
  have hpm : ∀ j, j ∈ pre.map (·.1) ↔ j ∈ (wantL S).map (·.1) := fun j => by rw [← hp, List.map_map]; rfl
  by_cases hi : i ∈ pre.map (·.1)
  · obtain ⟨g', h1⟩ := (h.2 i).1 hi
    rw [hs] at h1; cases h1
  · have h1 := (h.2 i).2 hi
    rw [hs] at h1
    refine hi ((hpm i).2 ?_)
    rw [List.mem_map]
    exact ⟨(i, g), List.mem_map.2 ⟨(i, g, x), live_mem.2 h1.symm, rfl⟩, rfl⟩
end Go.Proofs.Ytldkogdkadgnkaa
