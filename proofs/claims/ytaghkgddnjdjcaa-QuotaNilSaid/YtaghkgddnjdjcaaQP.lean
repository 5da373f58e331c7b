/- The accounts' plain law: what a turn comes to. No program in sight. -/
import Derived.Test.YtaghkgddnjdjcaaQ4
namespace Go.Proofs.Ytaghkgddnjdjcaa
set_option linter.unusedSimpArgs false
set_option linter.unusedVariables false
open Go.RowKit

theorem Ok.at {u : List (Int × Int)} {lk lb : Int} (o : Ok u lk lb) {k : Nat} {x y : Int} (h : u[k]? = some (x, y)) : 0 ≤ x ∧ x ≤ lk ∧ 0 ≤ y ∧ y ≤ lb := o.all (x, y) (List.mem_of_getElem? h)
theorem Ok.set {u : List (Int × Int)} {lk lb : Int} (o : Ok u lk lb) (k : Nat) (x y : Int) (h : 0 ≤ x ∧ x ≤ lk ∧ 0 ≤ y ∧ y ≤ lb) : Ok (u.set k (x, y)) lk lb := by
  refine ⟨by simpa using o.n1, by simpa using o.n2, o.k0, o.k1, o.b0, o.b1, ?_⟩
  intro z hz
  rcases List.mem_or_eq_of_mem_set hz with h' | h'
  · exact o.all z h'
  · subst h'; exact h
theorem has_of {u : List (Int × Int)} {k : Nat} {x : Int × Int} (h : u[k]? = some x) : hasB u.length k = true := by
  have := (List.getElem?_eq_some_iff.1 h).1
  simp [hasB]; omega

section
variable {u : List (Int × Int)} {lk lb : Int} {k : Nat} {x y : Int}
theorem turn_eq (d1 d2 m1 m2 : Int) : turnV x y d1 d2 m1 m2 lk lb = if d1 ≤ x ∧ d2 ≤ y then (if m1 ≤ lk - (x - d1) ∧ m2 ≤ lb - (y - d2) then (x - d1 + m1, y - d2 + m2, 0) else (0, 0, 7)) else (0, 0, 18) := by
  simp [turnV, lessB, upB]
theorem putE_at (h : u[k]? = some (x, y)) (d1 d2 m1 m2 : Int) : putE u lk lb k d1 d2 m1 m2 = (turnV x y d1 d2 m1 m2 lk lb).2.2 := by
  simp [putE, has_of h, h]
theorem putU_at (h : u[k]? = some (x, y)) (d1 d2 m1 m2 : Int) : putU u lk lb k d1 d2 m1 m2 = if (turnV x y d1 d2 m1 m2 lk lb).2.2 = 0 then u.set k ((turnV x y d1 d2 m1 m2 lk lb).1, (turnV x y d1 d2 m1 m2 lk lb).2.1) else u := by
  simp [putU, putE_at h, h]
theorem putE_no {i : Int} (h : hasB u.length i = false) (d1 d2 m1 m2 : Int) : putE u lk lb i d1 d2 m1 m2 = 2 := by simp [putE, h]
theorem putU_no {i : Int} (h : hasB u.length i = false) (d1 d2 m1 m2 : Int) : putU u lk lb i d1 d2 m1 m2 = u := by simp [putU, putE, h]
theorem putU_len (i d1 d2 m1 m2 : Int) : (putU u lk lb i d1 d2 m1 m2).length = u.length := by
  unfold putU; split <;> simp
theorem putU_ok (o : Ok u lk lb) (i d1 d2 m1 m2 : Int) (hd1 : 0 ≤ d1) (hd2 : 0 ≤ d2) (hm1 : 0 ≤ m1) (hm2 : 0 ≤ m2) : Ok (putU u lk lb i d1 d2 m1 m2) lk lb := by
  by_cases hh : hasB u.length i = true
  · obtain ⟨k, rfl, hk⟩ := has_nat hh
    obtain ⟨⟨x, y⟩, hxy⟩ : ∃ xy, u[k]? = some xy := ⟨_, List.getElem?_eq_getElem hk⟩
    have hb := o.at hxy
    rw [putU_at hxy]
    rw [turn_eq]
    by_cases h1 : d1 ≤ x ∧ d2 ≤ y
    · rw [if_pos h1]
      by_cases h2 : m1 ≤ lk - (x - d1) ∧ m2 ≤ lb - (y - d2)
      · rw [if_pos h2, if_pos rfl]
        exact o.set _ _ _ (by simp only; omega)
      · rw [if_neg h2]; simpa using o
    · rw [if_neg h1]; simpa using o
  · rw [putU_no (by simpa using hh)]; exact o
/-- charge, release, change, at a user -/
theorem charge_yes (o : Ok u lk lb) (h : u[k]? = some (x, y)) {m1 m2 : Int} (c : m1 ≤ lk - x ∧ m2 ≤ lb - y) : putE u lk lb k 0 0 m1 m2 = 0 ∧ putU u lk lb k 0 0 m1 m2 = u.set k (x + m1, y + m2) := by
  have hb := o.at h
  rw [putE_at h, putU_at h, turn_eq, if_pos (by omega), if_pos (by omega)]; simp
theorem charge_no (o : Ok u lk lb) (h : u[k]? = some (x, y)) {m1 m2 : Int} (c : ¬ (m1 ≤ lk - x ∧ m2 ≤ lb - y)) : putE u lk lb k 0 0 m1 m2 = 7 ∧ putU u lk lb k 0 0 m1 m2 = u := by
  have hb := o.at h
  rw [putE_at h, putU_at h, turn_eq, if_pos (by omega), if_neg (by omega)]; simp
theorem release_yes (o : Ok u lk lb) (h : u[k]? = some (x, y)) {d1 d2 : Int} (_h1 : 0 ≤ d1) (_h2 : 0 ≤ d2) (c : d1 ≤ x ∧ d2 ≤ y) : putE u lk lb k d1 d2 0 0 = 0 ∧ putU u lk lb k d1 d2 0 0 = u.set k (x - d1, y - d2) := by
  have hb := o.at h
  rw [putE_at h, putU_at h, turn_eq, if_pos c, if_pos (by omega)]; simp
theorem release_no (h : u[k]? = some (x, y)) {d1 d2 : Int} (c : ¬ (d1 ≤ x ∧ d2 ≤ y)) : putE u lk lb k d1 d2 0 0 = 18 ∧ putU u lk lb k d1 d2 0 0 = u := by
  rw [putE_at h, putU_at h, turn_eq, if_neg c]; simp
theorem change_no (h : u[k]? = some (x, y)) (o : Ok u lk lb) {l m : Int} (c : ¬ l ≤ y) : putE u lk lb k 0 l 0 m = 18 ∧ putU u lk lb k 0 l 0 m = u := by
  have hb := o.at h
  rw [putE_at h, putU_at h, turn_eq, if_neg (by omega)]; simp
theorem change_full (h : u[k]? = some (x, y)) (o : Ok u lk lb) {l m : Int} (c : l ≤ y) (c2 : ¬ m ≤ lb - (y - l)) : putE u lk lb k 0 l 0 m = 7 ∧ putU u lk lb k 0 l 0 m = u := by
  have hb := o.at h
  rw [putE_at h, putU_at h, turn_eq, if_pos (by omega), if_neg (by omega)]; simp
theorem change_yes (h : u[k]? = some (x, y)) (o : Ok u lk lb) {l m : Int} (c : l ≤ y) (c2 : m ≤ lb - (y - l)) : putE u lk lb k 0 l 0 m = 0 ∧ putU u lk lb k 0 l 0 m = u.set k (x, y - l + m) := by
  have hb := o.at h
  rw [putE_at h, putU_at h, turn_eq, if_pos (by omega), if_pos (by omega)]; simp
end

/-- move -/
def moveE (u : List (Int × Int)) (lk lb i j d1 d2 : Int) : Int :=
  if hasB u.length i && hasB u.length j then (if putE u lk lb i d1 d2 0 0 = 0 then (if i = j then 0 else putE u lk lb j 0 0 d1 d2) else putE u lk lb i d1 d2 0 0) else 2
def moveU (u : List (Int × Int)) (lk lb i j d1 d2 : Int) : List (Int × Int) :=
  if moveE u lk lb i j d1 d2 = 0 ∧ i ≠ j then putU (putU u lk lb i d1 d2 0 0) lk lb j 0 0 d1 d2 else u
theorem moveU_ok {u : List (Int × Int)} {lk lb : Int} (o : Ok u lk lb) (i j d1 d2 : Int) (h1 : 0 ≤ d1) (h2 : 0 ≤ d2) : Ok (moveU u lk lb i j d1 d2) lk lb := by
  unfold moveU
  split
  · exact putU_ok (putU_ok o i d1 d2 0 0 h1 h2 (by omega) (by omega)) j 0 0 d1 d2 (by omega) (by omega) h1 h2
  · exact o
theorem moveU_len {u : List (Int × Int)} {lk lb : Int} (i j d1 d2 : Int) : (moveU u lk lb i j d1 d2).length = u.length := by
  unfold moveU; split <;> simp [putU_len]
end Go.Proofs.Ytaghkgddnjdjcaa
