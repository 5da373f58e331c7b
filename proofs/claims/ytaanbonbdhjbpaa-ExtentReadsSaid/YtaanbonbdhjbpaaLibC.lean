/- Words for worlds, more: rows that make lays. No program in sight. -/
import Derived.Test.YtaanbonbdhjbpaaLibA
import Derived.Laws.MakeOwn
namespace Go.Proofs.Ytaanbonbdhjbpaa
open Go.RowKit

theorem made_rows {α : Type} {f : α → List Value} {n : Nat} (hf : ∀ x, (f x).length = n) (hn : 0 < n) (x0 : α) (k : Nat) : madeCells (f x0).toArray (k * n) = rows f (List.replicate k x0) := by
  apply rows_ext hf hn
  · rw [size_madeCells]; simp
  · intro k' j x hx hj
    obtain ⟨hk, rfl⟩ : k' < k ∧ x0 = x := by
      simp [List.getElem?_replicate] at hx; exact hx
    have hlt : k' * n + j < k * n := by
      have : (k' + 1) * n ≤ k * n := Nat.mul_le_mul_right n hk
      rw [Nat.add_mul] at this; omega
    simp only [madeCells]
    have hr : (Array.range (k * n))[k' * n + j]? = some (k' * n + j) := by simp [hlt]
    rw [Array.getElem?_map, hr]
    have hm : (k' * n + j) % (f x0).toArray.size = j := by
      simp only [List.size_toArray, hf]
      rw [Nat.add_comm, Nat.add_mul_mod_self_right]; exact Nat.mod_eq_of_lt hj
    simp only [Option.map_some, hm]
    have hj' : j < (f x0).length := by rw [hf]; exact hj
    rw [List.getElem?_eq_getElem hj']
    simp [hj']
theorem run_make_rows {P : Program} {α : Type} {f : α → List Value} {n : Nat} (hf : ∀ x, (f x).length = n) (hn : 0 < n) (x0 : α) (t e : TypeId) (z : Value) (bytes : Nat)
    (ht : P.underlying t = some (.slice e)) (hinfo : (P.info? e).map (fun i => (i.zero, i.size, i.bytes)) = some (some z, n, bytes)) (hz1 : z.cells = (f x0).toArray)
    (k : Nat) (hbytes : bytes * k ≤ 281474976710656) (h63 : k ≤ 9223372036854775807) (w : World) :
    (Instr.makeSlice t (.int .i64 (k : Int)) (.int .i64 (k : Int))).run P w = .ok (.slice (some ⟨w.heap.size, 0, none⟩) k k) (w.alloc (.cells (rows f (List.replicate k x0)) e)) := by
  obtain ⟨i, hi, hzz⟩ := Option.map_eq_some_iff.1 hinfo
  simp only [Prod.mk.injEq] at hzz
  obtain ⟨hz, hs, hb⟩ := hzz
  have hb' : (i.bytes : Int) * (k : Int) ≤ 281474976710656 := by
    have h : ((i.bytes * k : Nat) : Int) ≤ 281474976710656 := by rw [hb]; omega
    rwa [Int.natCast_mul] at h
  have hr := run_make (P := P) w t e i z ht hi hz .i64 .i64 (k : Int) k (by omega) (Int.le_refl _) hb' (by omega)
  simp only [Int.toNat_natCast, hs, hz1] at hr
  rw [hr, made_rows hf hn x0 k]
/-- a row's first cells are those of l, n a piece; what lies behind them is free -/
def Pre {α : Type} (f : α → List Value) (n : Nat) (A : Array Value) (l : List α) : Prop := ∀ (k j : Nat) (x : α), l[k]? = some x → j < n → A[k * n + j]? = (f x)[j]?
theorem Pre.rows {α : Type} {f : α → List Value} {n : Nat} (hf : ∀ x, (f x).length = n) (l : List α) : Pre f n (rows f l) l := fun _ _ _ h hj => rows_get hf h hj
theorem Pre.one {α : Type} {f : α → Value} {A : Array Value} {l : List α} (h : Pre (fun x => [f x]) 1 A l) {k : Nat} {x : α} (hk : l[k]? = some x) : A[k]? = some (f x) := by
  have := h k 0 x hk (by omega)
  rw [Nat.mul_one, Nat.add_zero] at this; exact this
theorem Pre.bound {α : Type} {f : α → List Value} {n : Nat} {A : Array Value} {l : List α} (hf : ∀ x, (f x).length = n) (hn : 0 < n) (h : Pre f n A l) {k : Nat} (hk : k < l.length) : k * n + n ≤ A.size := by
  have := h k (n - 1) l[k] (List.getElem?_eq_getElem hk) (by omega)
  rw [List.getElem?_eq_getElem (by rw [hf]; omega)] at this
  have := (Array.getElem?_eq_some_iff.1 this).1
  omega
theorem Pre.set {α : Type} {f : α → List Value} {n : Nat} {A : Array Value} {l : List α} (hf : ∀ x, (f x).length = n) (hn : 0 < n) (h : Pre f n A l) {k : Nat} (hk : k < l.length) (x : α) : Pre f n (setRow A (k * n) (f x)) (l.set k x) := by
  intro k' j y hy hj
  rw [setRow_get _ _ _ _ (by rw [hf]; exact h.bound hf hn hk), hf]
  by_cases e : k' = k
  · subst e
    rw [List.getElem?_set_self hk] at hy
    injection hy with hy
    rw [if_pos (by omega), hy, show k' * n + j - k' * n = j from by omega]
  · rw [List.getElem?_set_ne (Ne.symm e)] at hy
    rw [if_neg, h _ _ _ hy hj]
    intro ⟨h1, h2⟩
    rcases Nat.lt_or_gt_of_ne e with h' | h'
    · have : (k' + 1) * n ≤ k * n := Nat.mul_le_mul_right n h'
      rw [Nat.add_mul] at this; omega
    · have : (k + 1) * n ≤ k' * n := Nat.mul_le_mul_right n h'
      rw [Nat.add_mul] at this; omega
end Go.Proofs.Ytaanbonbdhjbpaa
