/- Walks: who waits is given the lock in turn, whatever comes. -/
import Derived.Test.YtpfhjfijpmcnkaaK18
namespace Go.Proofs.Ytpfhjfijpmcnkaa
set_option linter.unusedSimpArgs false
set_option linter.unusedVariables false
open Go.RowKit
attribute [local go_sem ↓] Go.wp_at_zero Go.wp_at_succ
theorem gives_no (w : World) {n : Int} (hn : ¬ (1 ≤ n ∧ n ≤ 8)) (x : Option Addr) (len cap : Nat) (id : Int) :
   Calls Try.prog 4 #[.int .i64 n, .slice x len cap, .int .i64 id] w fun e w' => e = .returned (.bool true) ∧ Kp NoB w w' := by
  have HR := hid (ran_no w hn x len cap 80)
  have HK := hid known_any
  clear hn
  go_enter Try.func4, Try.ntmps4
  go_wp2_with fail
  refine HR.out.mono ?_
  rintro e w1 ⟨rfl, k1⟩
  go_wp2_with fail
  refine (HK.out _).mono ?_
  rintro e w2 ⟨rfl, k2⟩
  go_wp2_with fail
  go_ret
  exact ⟨rfl, k1.trans k2⟩
theorem gives_long (w : World) {n : Nat} (n1 : 1 ≤ n) (n2 : n ≤ 8) (x : Option Addr) (len cap : Nat) (hl : 80 < len) (id : Int) :
   Calls Try.prog 4 #[.int .i64 n, .slice x len cap, .int .i64 id] w fun e w' => e = .returned (.bool true) ∧ Kp NoB w w' := by
  have HR := hid (ran_long w n1 n2 x len cap 80 (by omega))
  have HK := hid known_any
  go_enter Try.func4, Try.ntmps4
  go_wp2_with fail
  refine HR.out.mono ?_
  rintro e w1 ⟨rfl, k1⟩
  go_wp2_with fail
  refine (HK.out _).mono ?_
  rintro e w2 ⟨rfl, k2⟩
  go_wp2_with fail
  go_ret
  exact ⟨rfl, k1.trans k2⟩
theorem gives_law (w : World) (n : Int) (x : Option Addr) (len cap : Nat) (A : List A3) (hL : ActsAt w w.heap.size x len A) {id : Int} (hw : (Lit.int .i64 id).wf = true) :
   Calls Try.prog 4 #[.int .i64 n, .slice x len cap, .int .i64 id] w fun e w' => e = .returned (.bool true) ∧ Kp NoB w w' := by
  by_cases hn : 1 ≤ n ∧ n ≤ 8
  · obtain ⟨m, rfl⟩ : ∃ m : Nat, n = m := ⟨n.toNat, by omega⟩
    by_cases hl : len ≤ 80
    · exact gives_good w (by omega) (by omega) x len cap A hL hl hw
    · exact gives_long w (by omega) (by omega) x len cap (by omega) id
  · exact gives_no w hn x len cap id
end Go.Proofs.Ytpfhjfijpmcnkaa
