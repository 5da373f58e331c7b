/- The plain law of an arena: what holds between its slots, those given back, and how many were ever in use. No program in sight. -/
import Derived.Test.YtaanbonbdhjbpaaGA6
namespace Go.Proofs.Ytaanbonbdhjbpaa
set_option linter.unusedSimpArgs false
set_option linter.unusedVariables false

theorem nodup_le : ∀ (n : Nat) (B : List Nat), B.Nodup → (∀ i ∈ B, i < n) → B.length ≤ n := by
  intro n
  induction n with
  | zero =>
    intro B _ h
    rcases B with _ | ⟨x, B⟩
    · simp
    · have := h x (by simp); omega
  | succ n ih =>
    intro B nd h
    by_cases hn : n ∈ B
    · have h1 := ih (B.erase n) (nd.erase n) (fun i hi => by
        have h1 := h i (List.mem_of_mem_erase hi)
        have : i ≠ n := by rintro rfl; exact (List.Nodup.not_mem_erase nd) hi
        omega)
      rw [List.length_erase_of_mem hn] at h1
      omega
    · have := ih B nd (fun i hi => by
        have h1 := h i hi
        have : i ≠ n := by rintro rfl; exact hn hi
        omega)
      omega

structure AInv (S : List Sl3) (B : List Nat) (E : Nat) : Prop where
  n1 : 1 ≤ S.length
  n2 : S.length ≤ 4096
  e : E ≤ S.length
  nd : B.Nodup
  be : ∀ i ∈ B, i < E
  fr : ∀ (i : Nat) (s : Sl3), S[i]? = some s → (s.2.2 = true ↔ i < E ∧ i ∉ B)
  z : ∀ (i : Nat) (s : Sl3), S[i]? = some s → s.2.2 = false → s.1 = zX
section
variable {S : List Sl3} {B : List Nat} {E : Nat}
theorem AInv.bl (h : AInv S B E) : B.length ≤ E := nodup_le E B h.nd h.be
theorem AInv.ok (h : AInv S B E) : AOk S B E := ⟨h.n1, h.n2, h.e, fun i hi => Nat.lt_of_lt_of_le (h.be i hi) h.e, by have := h.bl; have := h.e; have := h.n2; omega⟩
theorem AInv.zz (h : AInv S B E) : ∀ (i : Nat) (x : X) (g : Int), S[i]? = some (x, g, false) → x = zX := fun i x g hk => h.z i _ hk rfl
theorem AInv.new (n : Nat) (n1 : 1 ≤ n) (n2 : n ≤ 4096) : AInv (List.replicate n (zX, 1, false)) [] 0 := by
  refine ⟨by simpa using n1, by simpa using n2, by simp, by simp, by simp, ?_, ?_⟩
  · intro i s h
    rw [List.getElem?_replicate] at h
    split at h
    · injection h with h; subst h; simp
    · cases h
  · intro i s h _
    rw [List.getElem?_replicate] at h
    split at h
    · injection h with h; subst h; rfl
    · cases h
/-- how many are free -/
def room (S : List Sl3) (B : List Nat) (E : Nat) : Nat := S.length - E + B.length
theorem AInv.room_eq (h : AInv S B E) : ((S.length : Int) - E + B.length) = (room S B E : Nat) := by
  have := h.e; unfold room; omega
theorem AInv.next (h : AInv S B E) (hr : 0 < room S B E) : ∃ g, S[nextI B E]? = some (zX, g, false) := by
  have hlt : nextI B E < S.length := by
    unfold nextI
    rcases hb : B.getLast? with _ | i
    · have : B = [] := by simpa using hb
      subst this
      unfold room at hr
      simp at hr ⊢; omega
    · have := h.be i (List.mem_of_getLast? hb)
      have := h.e
      simp; omega
  obtain ⟨⟨x, g, b⟩, hs⟩ : ∃ s, S[nextI B E]? = some s := ⟨_, List.getElem?_eq_getElem hlt⟩
  have hb : b = false := by
    have h1 := h.fr _ _ hs
    cases b
    · rfl
    · exfalso
      have h2 := h1.1 rfl
      unfold nextI at h2
      rcases hb : B.getLast? with _ | i
      · rw [hb] at h2; simp at h2
      · rw [hb] at h2; exact h2.2 (List.mem_of_getLast? hb)
  subst hb
  have := h.z _ _ hs rfl
  simp at this
  subst this
  exact ⟨g, hs⟩
theorem AInv.alloc (h : AInv S B E) (hr : 0 < room S B E) {x : X} {g : Int} : AInv (S.set (nextI B E) (x, g, true)) B.dropLast (nextE B E) ∧ room (S.set (nextI B E) (x, g, true)) B.dropLast (nextE B E) + 1 = room S B E := by
  obtain ⟨g', hs⟩ := h.next hr
  have hlt := (List.getElem?_eq_some_iff.1 hs).1
  rcases List.eq_nil_or_concat B with rfl | ⟨B', i, hB⟩
  · have h1 : nextI [] E = E := rfl
    have h2 : nextE [] E = E + 1 := rfl
    rw [h1] at hs hlt ⊢
    rw [h2]
    refine ⟨⟨by simpa using h.n1, by simpa using h.n2, by simp; omega, by simp, by simp, ?_, ?_⟩, by simp [room]; omega⟩
    · intro j s hj
      by_cases e : j = E
      · subst e
        rw [List.getElem?_set_self hlt] at hj
        injection hj with hj; subst hj; simp
      · rw [List.getElem?_set_ne (Ne.symm e)] at hj
        rw [h.fr j s hj]
        simp; omega
    · intro j s hj hb
      by_cases e : j = E
      · subst e
        rw [List.getElem?_set_self hlt] at hj
        injection hj with hj; subst hj; simp at hb
      · rw [List.getElem?_set_ne (Ne.symm e)] at hj
        exact h.z j s hj hb
  · rw [List.concat_eq_append] at hB
    subst hB
    have h1 : nextI (B' ++ [i]) E = i := by simp [nextI]
    have h2 : nextE (B' ++ [i]) E = E := by simp [nextE]
    rw [h1] at hs hlt ⊢
    rw [h2, List.dropLast_concat]
    have hnd := List.nodup_append.1 h.nd
    have hi := h.be i (by simp)
    refine ⟨⟨by simpa using h.n1, by simpa using h.n2, by simpa using h.e, hnd.1, fun j hj => h.be j (by simp [hj]), ?_, ?_⟩, by simp [room]; omega⟩
    · intro j s hj
      by_cases e : j = i
      · subst e
        rw [List.getElem?_set_self hlt] at hj
        injection hj with hj; subst hj
        simp [hi]
        intro hm
        exact hnd.2.2 j hm j (by simp) rfl
      · rw [List.getElem?_set_ne (Ne.symm e)] at hj
        rw [h.fr j s hj]
        simp [e]
    · intro j s hj hb
      by_cases e : j = i
      · subst e
        rw [List.getElem?_set_self hlt] at hj
        injection hj with hj; subst hj; simp at hb
      · rw [List.getElem?_set_ne (Ne.symm e)] at hj
        exact h.z j s hj hb
theorem AInv.set (h : AInv S B E) {k : Nat} {x y : X} {g : Int} (hk : S[k]? = some (x, g, true)) : AInv (S.set k (y, g, true)) B E := by
  have hlt := (List.getElem?_eq_some_iff.1 hk).1
  refine ⟨by simpa using h.n1, by simpa using h.n2, by simpa using h.e, h.nd, h.be, ?_, ?_⟩
  · intro j s hj
    by_cases e : j = k
    · subst e
      rw [List.getElem?_set_self hlt] at hj
      injection hj with hj; subst hj
      have := h.fr _ _ hk
      simpa using this
    · rw [List.getElem?_set_ne (Ne.symm e)] at hj
      exact h.fr j s hj
  · intro j s hj hb
    by_cases e : j = k
    · subst e
      rw [List.getElem?_set_self hlt] at hj
      injection hj with hj; subst hj; simp at hb
    · rw [List.getElem?_set_ne (Ne.symm e)] at hj
      exact h.z j s hj hb
theorem AInv.free (h : AInv S B E) {k : Nat} {x : X} {g g' : Int} (hk : S[k]? = some (x, g, true)) : AInv (S.set k (zX, g', false)) (B ++ [k]) E ∧ B.length < 4096 := by
  have hlt := (List.getElem?_eq_some_iff.1 hk).1
  obtain ⟨h1, h2⟩ := (h.fr _ _ hk).1 rfl
  have hI : AInv (S.set k (zX, g', false)) (B ++ [k]) E := by
    refine ⟨by simpa using h.n1, by simpa using h.n2, by simpa using h.e, ?_, ?_, ?_, ?_⟩
    · rw [List.nodup_append]
      refine ⟨h.nd, by simp, ?_⟩
      intro a ha b hb
      simp at hb; subst hb
      rintro rfl; exact h2 ha
    · intro i hi
      simp at hi
      rcases hi with hi | rfl
      · exact h.be i hi
      · exact h1
    · intro j s hj
      by_cases e : j = k
      · subst e
        rw [List.getElem?_set_self hlt] at hj
        injection hj with hj; subst hj
        simp
      · rw [List.getElem?_set_ne (Ne.symm e)] at hj
        rw [h.fr j s hj]
        simp [e]
    · intro j s hj hb
      by_cases e : j = k
      · subst e
        rw [List.getElem?_set_self hlt] at hj
        injection hj with hj; subst hj; rfl
      · rw [List.getElem?_set_ne (Ne.symm e)] at hj
        exact h.z j s hj hb
  refine ⟨hI, ?_⟩
  have h3 := hI.bl
  have := h.e
  have := h.n2
  simp at h3
  omega
end
end Go.Proofs.Ytaanbonbdhjbpaa
