/- Walks: whose handle it is, of no table; the whole of what is answered of none. -/
import Derived.Test.YtbgojgnbbkgkgaaS9
import Derived.Test.YtbgojgnbbkgkgaaLibO
namespace Go.Proofs.Ytbgojgnbbkgkgaa
set_option linter.unusedSimpArgs false
set_option linter.unusedVariables false
open Go.RowKit Go.Shelf
attribute [local go_sem ↓] Go.wp_at_zero Go.wp_at_succ
section
variable {w w' : World} {v u : Value}
theorem iter_kn {c : Nat} (h : NoT w v) (hc : w.heap[c]? = some (.cells #[v] 26 (0, 0))) : ∀ W y, Kp NoB w W → Calls Try.prog 31 (#[y] ++ #[.pointer (some ⟨c, 0, none⟩)]) W fun e W' => e = .returned (.tuple #[]) ∧ W = W' :=
  fun _ y k => iter_no y (h.kn k) (k.get hc (fun h => h))
set_option maxRecDepth 100000 in
theorem of_no (h : NoT w v) (i g : Int) : Calls Try.prog 25 #[v, hV i g] w fun e w' => e = .returned (.tuple #[.int .i64 0, .bool false]) ∧ Kp NoB w w' := by
  have HI := hid (fun w1 (k : Kp NoB w w1) c (hc : w1.heap[c]? = some (Obj.cells #[v] 26 (0, 0))) => iter_kn (h.kn k) hc)
  obtain ⟨a, rfl⟩ := h.ptr
  have HA := hid (fun W => all_any (.pointer a) a rfl W)
  have h4 := hid (show (((w.alloc (.cells #[.int .i64 i, .int .u64 g] 25)).alloc (.cells #[.int .i64 0] 22)).alloc (.cells #[.bool false] 4)).heap[w.heap.size + 1]? = some (.cells #[.int .i64 0] 22 (0, 0)) from blk_alloc (blk_new' _ _ (by simp)))
  have h5 := hid (show (((w.alloc (.cells #[.int .i64 i, .int .u64 g] 25)).alloc (.cells #[.int .i64 0] 22)).alloc (.cells #[.bool false] 4)).heap[w.heap.size + 1 + 1]? = some (.cells #[.bool false] 4 (0, 0)) from blk_new' _ _ (by simp))
  have K0 := hid ((((Kp.refl NoB w).alloc (.cells #[.int .i64 i, .int .u64 g] 25)).alloc (.cells #[.int .i64 0] 22)).alloc (.cells #[.bool false] 4))
  have hsz : (((w.alloc (.cells #[.int .i64 i, .int .u64 g] 25)).alloc (.cells #[.int .i64 0] 22)).alloc (.cells #[.bool false] 4)).heap.size = w.heap.size + 3 := by simp
  clear h
  unfold hV
  refine calls_of_wp_marks Try.func25 rfl ?_
  simp only [Try.ntmps25, List.size_toArray, List.length_cons, List.length_nil, Nat.reduceAdd, Nat.reduceSub, Array.replicate_succ, Array.replicate_zero, List.push_toArray, List.append_toArray, List.nil_append, List.cons_append]
  go_wp2_with fail
  refine (HA.out _).mono ?_
  rintro e w1 ⟨rfl, rfl⟩
  generalize (((w.alloc (.cells #[.int .i64 i, .int .u64 g] 25)).alloc (.cells #[.int .i64 0] 22)).alloc (.cells #[.bool false] 4)) = W0 at *
  have hA4 := blk_alloc (o' := .cells #[.pointer a] 26) h4.out
  have hA5 := blk_alloc (o' := .cells #[.pointer a] 26) h5.out
  have HI2 := hid (HI.out _ (K0.out.alloc (.cells #[.pointer a] 26)) (w.heap.size + 3) (by rw [← hsz]; exact blk_new W0 _))
  have K1 := hid (K0.out.alloc (.cells #[.pointer a] 26))
  clear HI HA h4 h5 K0
  replace hA4 := hid hA4
  replace hA5 := hid hA5
  go_wp2_with fail
  refine wp_rangeFunc_none (gf := 31) (lb := #[.pointer (some ⟨w.heap.size + 3, 0, none⟩)]) rfl (enters_of Try.func31 (by kernel_rfl) rfl) HI2.out ?_
  intro D W k hD hK
  have hB4 := k.get hA4.out (fun h => h)
  have hB5 := k.get hA5.out (fun h => h)
  have L4 := loc1 hB4
  have L5 := loc1 hB5
  replace hB4 := hid hB4
  replace hB5 := hid hB5
  replace hK := hid hK
  replace k := hid k
  go_wp2_with fail
  have n1 : w.heap.size + 1 ≠ D := by simp at hD; omega
  have n2 : w.heap.size + 1 + 1 ≠ D := by simp at hD; omega
  have hK2 : ((W.setCell ⟨w.heap.size + 1, 0, none⟩ (.int .i64 0)).setCell ⟨w.heap.size + 1 + 1, 0, none⟩ (.bool false)).heap[D]? = some (.deferred (some [])) :=
    (Below.heap_setCell _ _ _ _ (Ne.symm n2)).trans ((Below.heap_setCell _ _ _ _ (Ne.symm n1)).trans hK.out)
  have g4 := blk_far (blk_setCell hB4.out 0 (.int .i64 0)) (a := ⟨w.heap.size + 1 + 1, 0, none⟩) (.bool false) (by simp)
  have g5 := blk_setCell (blk_far hB5.out (a := ⟨w.heap.size + 1, 0, none⟩) (.int .i64 0) (by simp)) 0 (.bool false)
  have KF : Kp NoB w ((W.setCell ⟨w.heap.size + 1, 0, none⟩ (.int .i64 0)).setCell ⟨w.heap.size + 1 + 1, 0, none⟩ (.bool false)) :=
    ((K1.out.trans k.out).setCell (p := ⟨w.heap.size + 1, 0, none⟩) _ (fun h => absurd h (by simp))).setCell (p := ⟨w.heap.size + 1 + 1, 0, none⟩) _ (fun h => absurd h (by simp; omega))
  generalize ((W.setCell ⟨w.heap.size + 1, 0, none⟩ (.int .i64 0)).setCell ⟨w.heap.size + 1 + 1, 0, none⟩ (.bool false)) = W3 at *
  have L4' := loc1 ((World.putObj_heap_other n1 (o := .deferred none) (w := W3)).trans g4)
  have L5' := loc1 ((World.putObj_heap_other n2 (o := .deferred none) (w := W3)).trans g5)
  have KP := KF.putObj (D := D) (.deferred none) (fun h => absurd h (by simp at hD; omega))
  refine leaves_one hK2 (v := .tuple #[.int .i64 0, .bool false]) ?_ ⟨rfl, KP⟩
  generalize W3.putObj D (.deferred none) = W4 at *
  simp [results, Try.results25, go_sem, L4'.1, L5'.1]
end
end Go.Proofs.Ytbgojgnbbkgkgaa
