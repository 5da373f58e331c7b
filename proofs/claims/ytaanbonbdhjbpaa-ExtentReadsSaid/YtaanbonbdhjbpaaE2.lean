/- How many extents so many bytes have: the program, the document. -/
import Derived.Test.YtaanbonbdhjbpaaE1
namespace Go.Proofs.Ytaanbonbdhjbpaa
set_option linter.unusedSimpArgs false
set_option linter.unusedVariables false
open Go.RowKit
attribute [local go_sem ↓] Go.wp_at_zero Go.wp_at_succ
def needI (n : Int) : Int := if n < 0 ∨ 256 < n then 0 else (n + 15) / 16
theorem needI_nat {n : Nat} (h : n ≤ 256) : needI n = need n := by unfold needI need; rw [if_neg (by omega)]; omega
theorem need_any (n : Int) (hn : -9223372036854775808 ≤ n ∧ n ≤ 9223372036854775807) (w : World) : Calls Try.prog 10 #[.int .i64 n] w fun e w' => e = .returned (.int .i64 (needI n)) ∧ w = w' := by
  unfold needI
  by_cases h0 : n < 0
  · rw [if_pos (.inl h0)]
    go_enter Try.func10, Try.ntmps10
    go_wp2
    go_ret
    exact ⟨rfl, rfl⟩
  · by_cases h1 : 256 < n
    · rw [if_pos (.inr h1)]
      go_enter Try.func10, Try.ntmps10
      go_wp2
      go_ret
      exact ⟨rfl, rfl⟩
    · rw [if_neg (by omega)]
      have h2 : 0 ≤ n := by omega
      have h3 : n ≤ 256 := by omega
      clear hn
      go_enter Try.func10, Try.ntmps10
      go_wp2
      go_ret
      refine ⟨?_, rfl⟩
      show Ending.returned (.int .i64 _) = _
      congr 2
      omega
theorem rneed_any (n : Int) (hn : -9223372036854775808 ≤ n ∧ n ≤ 9223372036854775807) (w : World) : Calls Try.prog 11 #[.int .i64 n] w fun e w' => e = .returned (.int .i64 (needI n)) ∧ w = w' := by
  unfold needI
  by_cases h0 : n < 0
  · rw [if_pos (.inl h0)]
    go_enter Try.func11, Try.ntmps11
    go_wp2
    go_ret
    exact ⟨rfl, rfl⟩
  · by_cases h1 : 256 < n
    · rw [if_pos (.inr h1)]
      go_enter Try.func11, Try.ntmps11
      go_wp2
      go_ret
      exact ⟨rfl, rfl⟩
    · rw [if_neg (by omega)]
      obtain ⟨m, rfl⟩ : ∃ m : Nat, n = m := ⟨n.toNat, by omega⟩
      have h3 : m ≤ 256 := by omega
      clear hn h0 h1
      have h0 : ¬ (m : Int) < 0 := by omega
      have h1 : ¬ (256 : Int) < m := by omega
      go_enter Try.func11, Try.ntmps11
      go_wp2
      go_loop [3] (fun i => ∃ k : Nat, k ≤ need m ∧ i = .int .i64 k) (fun i => need m - (intOf i).toNat)
      case atStart => exact ⟨0, Nat.zero_le _, rfl⟩
      case round =>
        obtain ⟨k, hk, rfl⟩ := hrel
        have hb : need m ≤ 17 := by unfold need; omega
        by_cases hlt : 16 * k < m
        · have hlt' : (16 : Int) * k < m := by omega
          have hk' : k < need m := by unfold need; omega
          go_wp2
          go_round
          case rel => exact ⟨k + 1, by omega, by go_num⟩
          case measure => simp [intOf]; omega
        · have hlt' : ¬ (16 : Int) * k < m := by omega
          have hk' : need m = k := by unfold need at hk ⊢; omega
          replace hk' := hid hk'
          go_wp2
          go_ret
          refine ⟨?_, rfl⟩
          have := hk'.out
          unfold need at this
          show Ending.returned (.int .i64 _) = _
          congr 2
          omega
end Go.Proofs.Ytaanbonbdhjbpaa
