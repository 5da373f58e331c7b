/- RcuHolds, whatever comes in. -/
import Derived.Test.YtplbkjgkocnehaaU31
namespace Go.Proofs.Ytplbkjgkocnehaa
set_option linter.unusedSimpArgs false
set_option linter.unusedVariables false
open Go.RowKit Go.Shelf
attribute [local go_sem ↓] Go.wp_at_zero Go.wp_at_succ
set_option maxRecDepth 100000 in
theorem holds_no (w : World) {n : Int} (hn : ¬ (1 ≤ n ∧ n ≤ 8)) (x : Option Addr) (len cap : Nat) (A : List Ac) (hL : ActsAt w w.heap.size x len A) (x2 : Option Addr) (len2 cap2 : Nat) (A2 : List Ac) (hL2 : ActsAt w w.heap.size x2 len2 A2) :
   Calls Try.prog 3 #[.int .i64 n, .slice x len cap, .slice x2 len2 cap2] w fun e w' => e = .returned (.bool true) ∧ Kp NoB w w' := by
  have HF := hid (few_any (cap := cap) hL (Nat.le_refl _) (most := 60) (by omega))
  have HF2 := hid (fun W (k : Kp NoB w W) => few_any (cap := cap2) (hL2.kp k (Nat.le_refl _) (fun _ h => h.elim)) k.size (most := 60) (by omega))
  have HK := hid known_any
  have HM := hid (fun W => may_any n W)
  have hm : (decide (1 ≤ n) && decide (n ≤ 8)) = false := by simpa using hn
  rw [hm] at HM
  clear hn hm hL hL2
  go_enter Try.func3, Try.ntmps3
  go_wp2_with fail
  refine HF.out.mono ?_
  rintro e w1 ⟨b, rfl, _, k1⟩
  cases b
  · go_wp2_with fail
    refine (HK.out _).mono ?_
    rintro e w2 ⟨rfl, k2⟩
    go_wp2_with fail
    go_ret
    exact ⟨rfl, k1.trans k2⟩
  · go_wp2_with fail
    refine (HF2.out _ k1).mono ?_
    rintro e w1b ⟨b, rfl, _, k1b⟩
    cases b
    · go_wp2_with fail
      refine (HK.out _).mono ?_
      rintro e w2 ⟨rfl, k2⟩
      go_wp2_with fail
      go_ret
      exact ⟨rfl, (k1.trans k1b).trans k2⟩
    · go_wp2_with fail
      refine (HM.out _).mono ?_
      rintro e w2 ⟨rfl, rfl⟩
      go_wp2_with fail
      refine (HK.out _).mono ?_
      rintro e w2 ⟨rfl, k2⟩
      go_wp2_with fail
      go_ret
      exact ⟨rfl, (k1.trans k1b).trans k2⟩
theorem holds_law (w : World) (n : Int) (x : Option Addr) (len cap : Nat) (A : List Ac) (hL : ActsAt w w.heap.size x len A) (x2 : Option Addr) (len2 cap2 : Nat) (A2 : List Ac) (hL2 : ActsAt w w.heap.size x2 len2 A2) :
   Calls Try.prog 3 #[.int .i64 n, .slice x len cap, .slice x2 len2 cap2] w fun e w' => e = .returned (.bool true) ∧ Kp NoB w w' := by
  by_cases hn : 1 ≤ n ∧ n ≤ 8
  · obtain ⟨m, rfl⟩ : ∃ m : Nat, n = m := ⟨n.toNat, by omega⟩
    exact holds_good w (by omega) (by omega) x len cap A hL x2 len2 cap2 A2 hL2
  · exact holds_no w hn x len cap A hL x2 len2 cap2 A2 hL2
end Go.Proofs.Ytplbkjgkocnehaa
