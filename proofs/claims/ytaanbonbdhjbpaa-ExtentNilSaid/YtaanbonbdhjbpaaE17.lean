/- The law of none, walked. -/
import Derived.Test.YtaanbonbdhjbpaaE15
namespace Go.Proofs.Ytaanbonbdhjbpaa
set_option linter.unusedSimpArgs false
set_option linter.unusedVariables false
open Go.RowKit
attribute [local go_sem ↓] Go.wp_at_zero Go.wp_at_succ
section
variable {w w' : World} {q : Nat}
theorem size_none (w : World) : Calls Try.prog 29 #[.pointer none] w fun e w' => e = .returned (.int .i64 0) ∧ w = w' := by
  go_enter Try.func29, Try.ntmps29
  go_wp2
  go_ret
  exact ⟨rfl, rfl⟩
theorem write_none (w : World) (u : Value) : Calls Try.prog 16 #[.pointer none, u] w fun e w' => e = .returned (.tuple #[.pointer none, .int .i64 1]) ∧ w = w' := by
  have HS := hid (size_none w)
  go_enter Try.func16, Try.ntmps16
  go_wp2_with fail
  refine HS.out.mono ?_
  rintro e w1 ⟨rfl, rfl⟩
  go_wp2_with fail
  go_ret2
  exact ⟨rfl, rfl⟩
theorem read_none (w : World) (i g : Int) : Calls Try.prog 25 #[.pointer none, .agg #[.int .i64 i, .int .u64 g]] w fun e w' => e = .returned (.tuple #[.pointer none, .int .i64 1]) ∧ Kp NoB w w' := by
  have HS := hid (size_none (w.alloc (.cells #[.int .i64 i, .int .u64 g] 33)))
  go_enter Try.func25, Try.ntmps25
  go_wp2_with fail
  refine HS.out.mono ?_
  rintro e w1 ⟨rfl, rfl⟩
  go_wp2_with fail
  go_ret2
  exact ⟨rfl, (Kp.refl _ w).alloc _⟩
theorem chain_none (w : World) (i g : Int) : Calls Try.prog 24 #[.pointer none, .agg #[.int .i64 i, .int .u64 g]] w fun e w' => e = .returned (.tuple #[.slice none 0 0, .int .i64 1]) ∧ Kp NoB w w' := by
  have HS := hid (read_none (w.alloc (.cells #[.int .i64 i, .int .u64 g] 33)) i g)
  go_enter Try.func24, Try.ntmps24
  go_wp2_with fail
  refine HS.out.mono ?_
  rintro e w1 ⟨rfl, k1⟩
  replace k1 := hid k1
  go_wp2_with fail
  go_ret2
  exact ⟨rfl, ((Kp.refl _ w).alloc _).trans k1.out⟩
theorem made_zero (h : w.cell? ⟨q, 0, none⟩ = some (.pointer none)) : Calls Try.prog 17 #[.pointer (some ⟨q, 0, none⟩)] w fun e w' => e = .returned (.tuple #[.slice none 0 0, .int .i64 1]) ∧ w = w' := by
  have HR := hid (ready_zero h)
  clear h
  go_enter Try.func17, Try.ntmps17
  go_wp2_with fail
  refine HR.out.mono ?_
  rintro e w1 ⟨rfl, rfl⟩
  go_wp2_with fail
  go_ret2
  exact ⟨rfl, rfl⟩
theorem undo_none (w : World) : Calls Try.prog 19 #[.pointer none] w fun e w' => e = .returned (.int .i64 1) ∧ w = w' := by
  have HR := hid (ready_none w)
  go_enter Try.func19, Try.ntmps19
  go_wp2_with fail
  refine HR.out.mono ?_
  rintro e w1 ⟨rfl, rfl⟩
  go_wp2_with fail
  go_ret
  exact ⟨rfl, rfl⟩
theorem need_none (w : World) : Calls Try.prog 18 #[.pointer none] w fun e w' => e = .returned (.int .i64 0) ∧ w = w' := by
  have HR := hid (ready_none w)
  go_enter Try.func18, Try.ntmps18
  go_wp2_with fail
  refine HR.out.mono ?_
  rintro e w1 ⟨rfl, rfl⟩
  go_wp2_with fail
  go_ret
  exact ⟨rfl, rfl⟩
theorem need_zero (h : w.cell? ⟨q, 0, none⟩ = some (.pointer none)) : Calls Try.prog 18 #[.pointer (some ⟨q, 0, none⟩)] w fun e w' => e = .returned (.int .i64 0) ∧ w = w' := by
  have HR := hid (ready_zero h)
  clear h
  go_enter Try.func18, Try.ntmps18
  go_wp2_with fail
  refine HR.out.mono ?_
  rintro e w1 ⟨rfl, rfl⟩
  go_wp2_with fail
  go_ret
  exact ⟨rfl, rfl⟩
end
set_option maxRecDepth 100000 in
set_option maxHeartbeats 4000000 in
theorem nil_law (w : World) : Calls Try.prog 7 #[] w fun e w' => e = .returned (.bool true) ∧ Kp NoB w w' := by
  have HK := hid known_any
  go_enter Try.func7, Try.ntmps7
  go_wp2_with fail
  obtain ⟨b3, e3⟩ : ∃ b, b = w.heap.size := ⟨_, rfl⟩
  obtain ⟨b4, e4⟩ : ∃ b, b = w.heap.size + 1 := ⟨_, rfl⟩
  obtain ⟨W0, hW⟩ : ∃ W0, W0 = (w.alloc (.cells #[.pointer none, .slice none 0 0, .slice none 0 0, .bool false] 66)).alloc (.cells #[.pointer none, .int .i64 0, .int .u64 0, .slice none 0 0] 68) := ⟨_, rfl⟩
  have H4 : W0.heap[b4]? = some (.cells #[.pointer none, .int .i64 0, .int .u64 0, .slice none 0 0] 68 (0, 0)) := by rw [hW]; exact blk_new' _ _ (by rw [e4]; simp)
  have H3 : W0.heap[b3]? = some (.cells #[.pointer none, .slice none 0 0, .slice none 0 0, .bool false] 66 (0, 0)) := by rw [hW]; exact ((Kp.refl NoB _).alloc _).get (blk_new' _ _ e3) (fun h => h)
  have K0 : Kp NoB w W0 := by rw [hW]; exact ((Kp.refl _ w).alloc _).alloc _
  rw [← hW, ← e4, ← e3]
  clear hW e3 e4
  replace H3 := hid H3
  replace H4 := hid H4
  replace K0 := hid K0
  refine (write_none _ _).mono ?_
  rintro e w1 ⟨rfl, rfl⟩
  go_wp2_with fail
  refine (read_none _ _ _).mono ?_
  rintro e W1 ⟨rfl, k1⟩
  have K1 := hid (K0.out.trans k1)
  replace H3 := hid (k1.get H3.out (fun h => h))
  replace H4 := hid (k1.get H4.out (fun h => h))
  clear k1 K0
  go_wp2_with fail
  refine (chain_none _ _ _).mono ?_
  rintro e W2 ⟨rfl, k2⟩
  have K2 := hid (K1.out.trans k2)
  replace H3 := k2.get H3.out (fun h => h)
  replace H4 := k2.get H4.out (fun h => h)
  clear k2 K1
  have c3 : W2.cell? ⟨b3, 0, none⟩ = some (.pointer none) := by rw [cell_of H3]; rfl
  have c4 : W2.cell? ⟨b4, 0, none⟩ = some (.pointer none) := by rw [cell_of H4]; rfl
  have c5 : W2.cell? ⟨b4, 3, none⟩ = some (.slice none 0 0) := by rw [cell_of H4]; rfl
  clear H3 H4
  replace c3 := hid c3
  replace c4 := hid c4
  replace c5 := hid c5
  go_wp2_with fail
  refine (step_none _).mono ?_
  rintro e w1 ⟨rfl, rfl⟩
  go_wp2_with fail
  refine (made_zero c3.out).mono ?_
  rintro e w1 ⟨rfl, rfl⟩
  go_wp2_with fail
  refine (rstep_none _).mono ?_
  rintro e w1 ⟨rfl, rfl⟩
  go_wp2_with fail
  refine (rstep_zero c4.out).mono ?_
  rintro e w1 ⟨rfl, rfl⟩
  go_wp2_with fail
  refine (undo_none _).mono ?_
  rintro e w1 ⟨rfl, rfl⟩
  go_wp2_with fail
  refine (need_none _).mono ?_
  rintro e w1 ⟨rfl, rfl⟩
  go_wp2_with fail
  refine (need_zero c3.out).mono ?_
  rintro e w1 ⟨rfl, rfl⟩
  go_wp2_with fail
  refine (bytes_none _).mono ?_
  rintro e w1 ⟨rfl, rfl⟩
  go_wp2_with fail
  refine (bytes_zero c5.out).mono ?_
  rintro e w1 ⟨rfl, rfl⟩
  go_wp2_with fail
  refine (HK.out _).mono ?_
  rintro e W3 ⟨rfl, k3⟩
  go_wp2_with fail
  go_ret
  exact ⟨rfl, K2.out.trans k3⟩
end Go.Proofs.Ytaanbonbdhjbpaa
