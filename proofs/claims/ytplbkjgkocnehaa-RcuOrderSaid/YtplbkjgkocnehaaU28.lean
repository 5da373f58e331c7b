/- RcuOrder, whatever comes in. -/
import Derived.Test.YtplbkjgkocnehaaU27
namespace Go.Proofs.Ytplbkjgkocnehaa
set_option linter.unusedSimpArgs false
set_option linter.unusedVariables false
open Go.RowKit Go.Shelf
attribute [local go_sem ↓] Go.wp_at_zero Go.wp_at_succ
theorem order_no (w : World) {n : Int} (hn : ¬ (1 ≤ n ∧ n ≤ 8)) {x : Option Addr} {len cap : Nat} {L : List Ac} (hL : ActsAt w w.heap.size x len L) :
   Calls Try.prog 5 #[.int .i64 n, .slice x len cap] w fun e w' => e = .returned (.bool true) ∧ Kp NoB w w' := by
  have HF := hid (few_any (cap := cap) hL (Nat.le_refl _) (most := 120) (by omega))
  have HK := hid known_any
  have HM := hid (fun W => may_any n W)
  have hm : (decide (1 ≤ n) && decide (n ≤ 8)) = false := by simpa using hn
  rw [hm] at HM
  clear hn hm hL
  go_enter Try.func5, Try.ntmps5
  go_wp2_with fail
  refine HF.out.mono ?_
  rintro e w1 ⟨b, rfl, _, k1⟩
  cases b
  · go_wp2_with fail
    refine (HK.out _).mono ?_
    rintro e w2 ⟨rfl, k2⟩
    go_wp2_with fail
    go_ret
    exact ⟨rfl, k1.trans k2⟩
  · go_wp2_with fail
    refine (HM.out _).mono ?_
    rintro e w2 ⟨rfl, rfl⟩
    go_wp2_with fail
    refine (HK.out _).mono ?_
    rintro e w2 ⟨rfl, k2⟩
    go_wp2_with fail
    go_ret
    exact ⟨rfl, k1.trans k2⟩
theorem order_law (w : World) (n : Int) (x : Option Addr) (len cap : Nat) (A : List Ac) (hL : ActsAt w w.heap.size x len A) :
   Calls Try.prog 5 #[.int .i64 n, .slice x len cap] w fun e w' => e = .returned (.bool true) ∧ Kp NoB w w' := by
  by_cases hn : 1 ≤ n ∧ n ≤ 8
  · obtain ⟨m, rfl⟩ : ∃ m : Nat, n = m := ⟨n.toNat, by omega⟩
    exact order_good w (by omega) (by omega) x len cap A hL
  · exact order_no w hn hL
end Go.Proofs.Ytplbkjgkocnehaa
