/- Walks through the accounts of a quota: what each function returns and leaves, at any accounts that are well formed (the conditions stand in each theorem). -/
import Derived.Test.YtaghkgddnjdjcaaQ6
namespace Go.Proofs.Ytaghkgddnjdjcaa
set_option linter.unusedSimpArgs false
set_option linter.unusedVariables false
open Go.RowKit
attribute [local go_sem ↓] Go.wp_at_zero Go.wp_at_succ

theorem i49 : (Try.prog.info? 49).map (fun i => (i.zero, i.size, i.bytes)) = some (some (.agg #[.int .u64 0, .int .u64 0]), 2, 16) := by kernel_rfl
theorem i22 : (Try.prog.info? 22).map (fun i => (i.zero, i.size, i.bytes)) = some (some (.int .u64 0), 1, 8) := by kernel_rfl
theorem u47 : Try.prog.underlying 47 = some (.slice 49) := by kernel_rfl
theorem u64' : Try.prog.underlying 64 = some (.slice 22) := by kernel_rfl
theorem make47 (n : Nat) (h : n ≤ 16) (w : World) : (Instr.makeSlice 47 (.int .i64 (n : Int)) (.int .i64 (n : Int))).run Try.prog w = .ok (.slice (some ⟨w.heap.size, 0, none⟩) n n) (w.alloc (.cells (rows eA (List.replicate n (0, 0))) 49)) :=
  run_make_rows eA_len (by omega) (0, 0) 47 49 _ 16 u47 i49 rfl n (by omega) (by omega) w
theorem rowsKY (n : Nat) : rows eK (List.replicate n (0, 0)) = rows eY (List.replicate n (0, 0)) := by
  unfold rows; rw [List.flatMap_replicate, List.flatMap_replicate]; rfl
theorem make64 (n : Nat) (h : n ≤ 16) (w : World) : (Instr.makeSlice 64 (.int .i64 (n : Int)) (.int .i64 (n : Int))).run Try.prog w = .ok (.slice (some ⟨w.heap.size, 0, none⟩) n n) (w.alloc (.cells (rows eK (List.replicate n (0, 0))) 22)) :=
  run_make_rows eK_len (by omega) (0, 0) 64 22 _ 8 u64' i22 rfl n (by omega) (by omega) w

def newB (n k b : Int) : Bool := decide (n < 1) || decide (n > 16) || decide (k > 1073741824) || decide (b > 1073741824)
theorem zeros_ok {n : Nat} {k b : Int} (h1 : 1 ≤ n) (h2 : n ≤ 16) (k0 : 0 ≤ k) (k1 : k ≤ 1073741824) (b0 : 0 ≤ b) (b1 : b ≤ 1073741824) : Ok (List.replicate n ((0 : Int), (0 : Int))) k b := by
  refine ⟨by simpa using h1, by simpa using h2, k0, k1, b0, b1, ?_⟩
  intro x hx
  rw [(List.mem_replicate.1 hx).2]
  exact ⟨by omega, by omega, by omega, by omega⟩
theorem newB_no {n k b : Int} (h : newB n k b = false) : ∃ m : Nat, n = m ∧ 1 ≤ m ∧ m ≤ 16 ∧ k ≤ 1073741824 ∧ b ≤ 1073741824 := by
  simp [newB] at h
  exact ⟨n.toNat, by omega, by omega, by omega, by omega, by omega⟩
theorem new_bad {w : World} (n k b : Int) (h : newB n k b = true) :
   Calls Try.prog 23 #[.int .i64 n, .int .u64 k, .int .u64 b] w fun e w' => e = .returned (.tuple #[.pointer none, .int .i64 2]) ∧ w = w' := by
  simp [newB] at h
  by_cases h1 : n < 1
  · go_enter Try.func23, Try.ntmps23
    go_wp2_with fail
    go_ret2
    exact ⟨rfl, rfl⟩
  · by_cases h2 : n > 16
    · go_enter Try.func23, Try.ntmps23
      go_wp2_with fail
      go_ret2
      exact ⟨rfl, rfl⟩
    · by_cases h3 : k > 1073741824
      · go_enter Try.func23, Try.ntmps23
        go_wp2_with fail
        go_ret2
        exact ⟨rfl, rfl⟩
      · have h4 : b > 1073741824 := by omega
        go_enter Try.func23, Try.ntmps23
        go_wp2_with fail
        go_ret2
        exact ⟨rfl, rfl⟩
theorem new_good {w : World} (n : Nat) (k b : Int) (h1 : 1 ≤ n) (h2 : n ≤ 16) (k1 : k ≤ 1073741824) (b1 : b ≤ 1073741824) :
   Calls Try.prog 23 #[.int .i64 n, .int .u64 k, .int .u64 b] w fun e w' => e = .returned (.tuple #[.pointer (some ⟨w.heap.size + 1, 0, none⟩), .int .i64 0]) ∧
     QAt w' (w.heap.size + 1) w.heap.size (List.replicate n (0, 0)) k b ∧ Kp NoB w w' := by
  have hm := make47 n h2
  have H2 := hid h2
  clear h2
  have h2' : (n : Int) ≤ 16 := by have := H2.out; omega
  go_enter Try.func23, Try.ntmps23
  go_wp2_with fail
  go_ret2
  refine ⟨rfl, ⟨n, _, ?_, ?_, Pre.rows eA_len _⟩, ((Kp.refl _ w).alloc _).alloc _⟩
  · rw [List.length_replicate]; exact blk_new' _ _ (by simp)
  · exact blk_alloc (blk_new _ _)
end Go.Proofs.Ytaghkgddnjdjcaa
