/- Words for worlds, more: rows that make lays. No program in sight. -/
import Derived.Test.YtaghkgddnjdjcaaLibA
import Derived.Laws.MakeOwn
namespace Go.Proofs.Ytaghkgddnjdjcaa
open Go.RowKit

theorem made_rows {α : Type} {f : α → List Value} {n : Nat} (hf : ∀ x, (f x).length = n) (hn : 0 < n) (x0 : α) (k : Nat) : madeCells (f x0).toArray (k * n) = rows f (List.replicate k x0) := by
  apply rows_ext hf hn
  · rw [size_madeCells]; simp
  · intro k' j x hx hj
    obtain ⟨hk, rfl⟩ : k' < k ∧ x0 = x := by
      simp [List.getElem?_replicate] at hx; exact hx
    have hlt : k' * n + j < k * n := by
      have : (k' + 1) * n ≤ k * n := Nat.mul_le_mul_right n hk
      rw [Nat.add_mul] at this; omega
    simp only [madeCells]
    have hr : (Array.range (k * n))[k' * n + j]? = some (k' * n + j) := by simp [hlt]
    rw [Array.getElem?_map, hr]
    have hm : (k' * n + j) % (f x0).toArray.size = j := by
      simp only [List.size_toArray, hf]
      rw [Nat.add_comm, Nat.add_mul_mod_self_right]; exact Nat.mod_eq_of_lt hj
    simp only [Option.map_some, hm]
    have hj' : j < (f x0).length := by rw [hf]; exact hj
    rw [List.getElem?_eq_getElem hj']
    simp [hj']
theorem run_make_rows {P : Program} {α : Type} {f : α → List Value} {n : Nat} (hf : ∀ x, (f x).length = n) (hn : 0 < n) (x0 : α) (t e : TypeId) (z : Value) (bytes : Nat)
    (ht : P.underlying t = some (.slice e)) (hinfo : (P.info? e).map (fun i => (i.zero, i.size, i.bytes)) = some (some z, n, bytes)) (hz1 : z.cells = (f x0).toArray)
    (k : Nat) (hbytes : bytes * k ≤ 281474976710656) (h63 : k ≤ 9223372036854775807) (w : World) :
    (Instr.makeSlice t (.int .i64 (k : Int)) (.int .i64 (k : Int))).run P w = .ok (.slice (some ⟨w.heap.size, 0, none⟩) k k) (w.alloc (.cells (rows f (List.replicate k x0)) e)) := by
  obtain ⟨i, hi, hzz⟩ := Option.map_eq_some_iff.1 hinfo
  simp only [Prod.mk.injEq] at hzz
  obtain ⟨hz, hs, hb⟩ := hzz
  have hb' : (i.bytes : Int) * (k : Int) ≤ 281474976710656 := by
    have h : ((i.bytes * k : Nat) : Int) ≤ 281474976710656 := by rw [hb]; omega
    rwa [Int.natCast_mul] at h
  have hr := run_make (P := P) w t e i z ht hi hz .i64 .i64 (k : Int) k (by omega) (Int.le_refl _) hb' (by omega)
  simp only [Int.toNat_natCast, hs, hz1] at hr
  rw [hr, made_rows hf hn x0 k]
end Go.Proofs.Ytaghkgddnjdjcaa
