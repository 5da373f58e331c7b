/- Walks: LockCopies, whatever comes. -/
import Derived.Test.YtpfhjfijpmcnkaaK32
namespace Go.Proofs.Ytpfhjfijpmcnkaa
set_option linter.unusedSimpArgs false
set_option linter.unusedVariables false
open Go.RowKit
attribute [local go_sem ↓] Go.wp_at_zero Go.wp_at_succ
section
variable {n : Nat}
theorem copies_nil (w : World) {n : Int} (x1 x2 x3 : Option Addr) (l1 l2 l3 c1 c2 c3 : Nat) (HR : Calls Try.prog 9 #[.int .i64 n, .slice x1 l1 c1, .int .i64 80] w fun e w' => e = .returned (.tuple #[.pointer none, .pointer none, .bool true]) ∧ Kp NoB w w') :
   Calls Try.prog 7 #[.int .i64 n, .slice x1 l1 c1, .slice x2 l2 c2, .slice x3 l3 c3] w fun e w' => e = .returned (.bool true) ∧ Kp NoB w w' := by
  replace HR := hid HR
  have HK := hid known_any
  go_enter Try.func7, Try.ntmps7
  go_wp2_with fail
  refine HR.out.mono ?_
  rintro e w1 ⟨rfl, k1⟩
  go_wp2_with fail
  refine (HK.out _).mono ?_
  rintro e w2 ⟨rfl, k2⟩
  go_wp2_with fail
  go_ret
  exact ⟨rfl, k1.trans k2⟩
set_option maxRecDepth 100000 in
theorem copies_many (w : World) (n1 : 1 ≤ n) (n2 : n ≤ 8) (x1 x2 x3 : Option Addr) (l1 l2 l3 c1 c2 c3 : Nat) (A1 : List A3) (h1 : ActsAt w w.heap.size x1 l1 A1) (hl1 : l1 ≤ 80) (hl : 40 < l2 ∨ (l2 ≤ 40 ∧ 40 < l3)) :
   Calls Try.prog 7 #[.int .i64 n, .slice x1 l1 c1, .slice x2 l2 c2, .slice x3 l3 c3] w fun e w' => e = .returned (.bool true) ∧ Kp NoB w w' := by
  have HR := hid (ran_good w n1 n2 x1 l1 c1 A1 80 (by omega) (by omega) h1)
  have HK := hid known_any
  clear h1
  rcases hl with hl | ⟨hl, hl'⟩
  · have b1 : (40 : Int) < (l2 : Int) := by omega
    go_enter Try.func7, Try.ntmps7
    go_wp2_with fail
    refine HR.out.mono ?_
    rintro e w1 ⟨p, q, L, rfl, hlen, hJ⟩
    have K1 := hid hJ.k
    clear hJ
    go_wp2_with fail
    refine (HK.out _).mono ?_
    rintro e w2 ⟨rfl, k2⟩
    go_wp2_with fail
    go_ret
    exact ⟨rfl, K1.out.trans k2⟩
  · have b1 : ¬ (40 : Int) < (l2 : Int) := by omega
    have b2 : (40 : Int) < (l3 : Int) := by omega
    go_enter Try.func7, Try.ntmps7
    go_wp2_with fail
    refine HR.out.mono ?_
    rintro e w1 ⟨p, q, L, rfl, hlen, hJ⟩
    have K1 := hid hJ.k
    clear hJ
    go_wp2_with fail
    refine (HK.out _).mono ?_
    rintro e w2 ⟨rfl, k2⟩
    go_wp2_with fail
    go_ret
    exact ⟨rfl, K1.out.trans k2⟩
theorem copies_law (w : World) (n : Int) (x1 x2 x3 : Option Addr) (l1 l2 l3 c1 c2 c3 : Nat) (A1 A2 A3' : List A3) (h1 : ActsAt w w.heap.size x1 l1 A1) (h2 : ActsAt w w.heap.size x2 l2 A2) (h3 : ActsAt w w.heap.size x3 l3 A3') :
   Calls Try.prog 7 #[.int .i64 n, .slice x1 l1 c1, .slice x2 l2 c2, .slice x3 l3 c3] w fun e w' => e = .returned (.bool true) ∧ Kp NoB w w' := by
  by_cases hn : 1 ≤ n ∧ n ≤ 8
  · obtain ⟨m, rfl⟩ : ∃ m : Nat, n = m := ⟨n.toNat, by omega⟩
    by_cases hl : l1 ≤ 80
    · by_cases hl2 : l2 ≤ 40 ∧ l3 ≤ 40
      · exact copies_good w (by omega) (by omega) x1 x2 x3 l1 l2 l3 c1 c2 c3 A1 A2 A3' h1 h2 h3 hl hl2.1 hl2.2
      · exact copies_many w (by omega) (by omega) x1 x2 x3 l1 l2 l3 c1 c2 c3 A1 h1 hl (by omega)
    · exact copies_nil w x1 x2 x3 l1 l2 l3 c1 c2 c3 (ran_long w (by omega) (by omega) x1 l1 c1 80 (by omega))
  · exact copies_nil w x1 x2 x3 l1 l2 l3 c1 c2 c3 (ran_no w hn x1 l1 c1 80)
end
end Go.Proofs.Ytpfhjfijpmcnkaa
