/- Walks through the accounts of a quota: what each function returns and leaves, at any accounts that are well formed (the conditions stand in each theorem). -/
import Derived.Test.YtaghkgddnjdjcaaQ11
namespace Go.Proofs.Ytaghkgddnjdjcaa
set_option linter.unusedSimpArgs false
set_option linter.unusedVariables false
open Go.RowKit
attribute [local go_sem ↓] Go.wp_at_zero Go.wp_at_succ

set_option maxRecDepth 100000 in
set_option maxHeartbeats 4000000 in
theorem plays_any {w : World} (n k b : Int) (x : Option Addr) (len cap : Nat) (L : List A5) (hk : 0 ≤ k) (hb : 0 ≤ b) (hL : ActsAt w w.heap.size x len L) :
   Calls Try.prog 5 #[.int .i64 n, .int .u64 k, .int .u64 b, .slice x len cap] w fun e w' => e = .returned (.bool true) ∧ Kp NoB w w' := by
  have HK := hid known_any
  by_cases hn : newB n k b = true
  · have H1 := hid (fun (w : World) => ran_bad (w := w) n k b none 0 0 0 hn)
    go_enter Try.func5, Try.ntmps5
    go_wp2_with fail
    refine (H1.out _).mono ?_
    rintro e w1 ⟨rfl, k1⟩
    go_wp2_with fail
    refine (HK.out _).mono ?_
    rintro e w2 ⟨rfl, k2⟩
    go_wp2_with fail
    go_ret
    exact ⟨rfl, k1.trans k2⟩
  · have hn' : newB n k b = false := by simpa using hn
    clear hn
    obtain ⟨m, rfl, h1, h2, h3, h4⟩ := newB_no hn'
    have H1 := hid (fun (w : World) => ran_good (w := w) m k b none 0 0 [] 0 hk hb h1 h2 h3 h4 (by decide) (ActsAt.nil _ _))
    clear hn'
    by_cases hl : len > 300
    · have hl' : ((300 : Int) < (len : Int)) := by omega
      go_enter Try.func5, Try.ntmps5
      go_wp2_with fail
      refine (H1.out _).mono ?_
      rintro e w1 ⟨p, bb, r, a, c, u, rfl, g1, g2, g3, g4, g5, q1, r1, o1, ul, k1⟩
      go_wp2_with fail
      refine (HK.out _).mono ?_
      rintro e w2 ⟨rfl, k2⟩
      go_wp2_with fail
      go_ret
      exact ⟨rfl, k1.trans k2⟩
    · have hl' : ¬ ((300 : Int) < (len : Int)) := by omega
      go_enter Try.func5, Try.ntmps5
      go_wp2_with fail
      refine (H1.out _).mono ?_
      rintro e w1 ⟨p, bb, r, a, c, u0, rfl, g1, g2, g3, g4, g5, q1, r1, o1, ul, k1⟩
      go_wp2_with fail
      go_loopw [12] (fun i W => ∃ (j : Nat) (u : List (Int × Int)), j ≤ len ∧ i = .int .i64 j ∧ QAt W p bb u k b ∧ RAt W r a c u k b ∧ Ok u k b ∧ u.length = m ∧ Kp NoB w W) (fun i _ => len - (intOf i).toNat)
      case atStart => exact ⟨0, u0, Nat.zero_le _, rfl, q1, r1, o1, ul, k1⟩
      case round =>
        obtain ⟨j, u, hj, rfl, hq, hr, ho, hul, hK⟩ := hrel
        have ha := hL.kp hK (Nat.le_refl _) (fun _ h => h.elim)
        by_cases hlt : j < len
        · have hjl : j < L.length := by rw [hL.ln]; exact hlt
          obtain ⟨z, hz⟩ : ∃ z, L[j]? = some z := ⟨_, List.getElem?_eq_getElem hjl⟩
          obtain ⟨y, rfl, hy, c0, c1, c2, c3, c4⟩ := ha.at_ j z hz
          have hmx := hL.mx
          have hwf := hL.wf z (List.mem_of_getElem? hz)
          have HD := hid (do_any z.k z.a z.b z.n z.m hq hr ho hwf.1 hwf.2)
          have o' := actU_ok ho z.k z.a z.b z.n z.m hwf.1.1 hwf.2.1
          have b1 : (0 : Int) ≤ (j : Int) := Int.natCast_nonneg _
          have b2 : (j : Int) < (len : Int) := by omega
          go_wp2_with fail
          refine HD.out.mono ?_
          rintro e w3 ⟨rfl, q3, r3, k3⟩
          go_wp2_with fail
          refine (same_any q3 r3 o').mono ?_
          rintro e w4 ⟨rfl, k4⟩
          go_wp2_with fail
          go_roundw
          case rel => exact ⟨j + 1, _, by omega, by go_num, q3.kp k4 (fun h => h) (fun h => h), r3.kp k4 (fun h => h) (fun h => h) (fun h => h), o', by rw [actU_len]; exact hul, (hK.trans' k3 (fun q hq hf => by unfold TwoF at hf; omega)).trans k4⟩
          case measure => simp [intOf]; omega
        · go_wp2_with fail
          refine (HK.out _).mono ?_
          rintro e w4 ⟨rfl, k4⟩
          go_wp2_with fail
          go_ret
          exact ⟨rfl, hK.trans k4⟩
end Go.Proofs.Ytaghkgddnjdjcaa
