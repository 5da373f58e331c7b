/- Rows of one's own, a piece put anew. No program in sight. -/
import Derived.Test.YtaanbonbdhjbpaaLibJ
import Derived.Test.YtaanbonbdhjbpaaLibR
namespace Go.Proofs.Ytaanbonbdhjbpaa
open Go.RowKit
section
variable {α : Type} {f : α → List Value} {n : Nat} {w w' : World} {e : TypeId} {v : Value} {l : List α}
theorem take_setRow (n : Nat) (hn : 0 < n) (cur : Array Value) (l : List α) (hf : ∀ x, (f x).length = n) (hle : l.length * n ≤ cur.size) (htake : cur.toList.take (l.length * n) = l.flatMap f) {k : Nat} (hk : k < l.length) (x : α) :
    (setRow cur (k * n) (f x)).toList.take (l.length * n) = (l.set k x).flatMap f := by
  have hkn : k * n + n ≤ l.length * n := by
    have : (k + 1) * n ≤ l.length * n := Nat.mul_le_mul_right n hk
    rw [Nat.add_mul] at this; omega
  have h1 := rows_setRow (f := f) hf hn hk (x := x)
  have h2 : rows f l = (cur.toList.take (l.length * n)).toArray := by rw [htake]; rfl
  apply List.ext_getElem?
  intro q
  by_cases hq : q < l.length * n
  · rw [List.getElem?_take_of_lt hq, Array.getElem?_toList, setRow_get _ _ _ _ (by rw [hf]; omega), hf]
    have h3 : ((l.set k x).flatMap f)[q]? = (setRow (rows f l) (k * n) (f x))[q]? := by rw [h1]; simp [rows]
    rw [h3, setRow_get _ _ _ _ (by rw [hf, rows_size hf]; omega), hf]
    split
    · rfl
    · rw [h2]; simp [List.getElem?_take_of_lt hq]
  · rw [List.getElem?_eq_none (by simp; omega), List.getElem?_eq_none (by rw [rows_len hf]; simp; omega)]
/-- one piece of it is put anew -/
theorem RowAt.put (hf : ∀ x, (f x).length = n) (hn : 0 < n) {b c : Nat} (h : RowAt w e f n (.slice (some ⟨b, 0, none⟩) l.length c) l) {k : Nat} (hk : k < l.length) (x : α) : RowAt (w.setCells b (k * n) (f x)) e f n (.slice (some ⟨b, 0, none⟩) l.length c) (l.set k x) := by
  rcases h.2 with ⟨h1, h2⟩ | ⟨g, cap, cur, h1, _, hg, h3, h4, h5, h6⟩
  · cases h1
  · injection h1 with h1 _ h3'
    injection h1 with h1
    injection h1 with h1
    subst h1; subst h3'
    have hlen : (l.set k x).length = l.length := by simp
    refine ⟨rows_len hf _, .inr ⟨b, c, setRow cur (k * n) (f x), by rw [hlen], Nat.zero_le _, blk_setCells _ _ _ _ hg, by rw [hlen]; exact h3, h4, by rw [setRow_size]; exact h5, ?_⟩⟩
    rw [hlen]
    exact take_setRow n hn cur l hf (by rw [h5]; exact Nat.mul_le_mul_right _ h3) h6 hk x
/-- a piece of it is there, may be written -/
theorem RowAt.there (hf : ∀ x, (f x).length = n) {b c : Nat} (h : RowAt w e f n (.slice (some ⟨b, 0, none⟩) l.length c) l) {k : Nat} (hk : k < l.length) : w.there b (k * n) n := by
  rcases h.2 with ⟨h1, h2⟩ | ⟨g, cap, cur, h1, _, hg, h3, h4, h5, h6⟩
  · cases h1
  · injection h1 with h1 _ h3'
    injection h1 with h1
    injection h1 with h1
    subst h1; subst h3'
    refine there_of hg ?_
    have : (k + 1) * n ≤ c * n := Nat.mul_le_mul_right n (by omega)
    rw [Nat.add_mul] at this; omega
theorem RowAt.range (hf : ∀ x, (f x).length = n) {b c : Nat} (h : RowAt w e f n (.slice (some ⟨b, 0, none⟩) l.length c) l) {k : Nat} {x : α} (hk : l[k]? = some x) : w.rangeAt b (k * n) (f x) := by
  have hkl := (List.getElem?_eq_some_iff.1 hk).1
  rcases h.2 with ⟨h1, h2⟩ | ⟨g, cap, cur, h1, _, hg, h3, h4, h5, h6⟩
  · cases h1
  · injection h1 with h1 _ h3'
    injection h1 with h1
    injection h1 with h1
    subst h1; subst h3'
    refine range_of hg (fun j u hj => ?_)
    have hjn : j < n := by have := (List.getElem?_eq_some_iff.1 hj).1; rw [hf] at this; exact this
    have h7 := flat_get hf l k j x hk hjn
    rw [← h6] at h7
    have hlt : k * n + j < l.length * n := by
      have : (k + 1) * n ≤ l.length * n := Nat.mul_le_mul_right n hkl
      rw [Nat.add_mul] at this; omega
    rw [List.getElem?_take_of_lt hlt, Array.getElem?_toList] at h7
    rw [h7, hj]
/-- with at least one piece it has a block -/
theorem RowAt.blk (h : RowAt w e f n v l) (h0 : 0 < l.length) : ∃ b c, v = .slice (some ⟨b, 0, none⟩) l.length c ∧ v.ownBlock = some b ∧ b < w.heap.size ∧ l.length ≤ c := by
  rcases h.2 with ⟨h1, h2⟩ | ⟨g, cap, cur, h1, _, hg, h3, h4, h5, h6⟩
  · omega
  · exact ⟨g, cap, h1, by rw [h1]; rfl, blk_lt hg, h3⟩
end
end Go.Proofs.Ytaanbonbdhjbpaa
