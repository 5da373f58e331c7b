/- A copy goes on apart: the law's walk, at any acts. -/
import Derived.Test.YtaghkgddnjdjcaaQ18
import Derived.Test.YtaghkgddnjdjcaaQ16
namespace Go.Proofs.Ytaghkgddnjdjcaa
set_option linter.unusedSimpArgs false
set_option linter.unusedVariables false
open Go.RowKit
attribute [local go_sem ↓] Go.wp_at_zero Go.wp_at_succ

set_option maxRecDepth 100000 in
set_option maxHeartbeats 8000000 in
theorem copies_any {w : World} (n k b : Int) (x : Option Addr) (len cap : Nat) (L : List A5) (xa : Option Addr) (lena capa : Nat) (La : List A5) (xb : Option Addr) (lenb capb : Nat) (Lb : List A5)
    (hk : 0 ≤ k) (hb : 0 ≤ b) (hL : ActsAt w w.heap.size x len L) (hLa : ActsAt w w.heap.size xa lena La) (hLb : ActsAt w w.heap.size xb lenb Lb) :
   Calls Try.prog 7 #[.int .i64 n, .int .u64 k, .int .u64 b, .slice x len cap, .slice xa lena capa, .slice xb lenb capb] w fun e w' => e = .returned (.bool true) ∧ Kp NoB w w' := by
  have HK := hid known_any
  by_cases hn : newB n k b = true
  · have H1 := hid (fun (w : World) => ran_bad (w := w) n k b x len cap 300 hn)
    go_enter Try.func7, Try.ntmps7
    go_wp2_with fail
    refine (H1.out _).mono ?_
    rintro e w1 ⟨rfl, k1⟩
    go_wp2_with fail
    refine (HK.out _).mono ?_
    rintro e w2 ⟨rfl, k2⟩
    go_wp2_with fail
    go_ret
    exact ⟨rfl, k1.trans k2⟩
  have hn' : newB n k b = false := by simpa using hn
  clear hn
  by_cases hl : len > 300
  · have H1 := hid (fun (w : World) => ran_long (w := w) n k b x len cap 300 hn' (by omega))
    go_enter Try.func7, Try.ntmps7
    go_wp2_with fail
    refine (H1.out _).mono ?_
    rintro e w1 ⟨rfl, k1⟩
    go_wp2_with fail
    refine (HK.out _).mono ?_
    rintro e w2 ⟨rfl, k2⟩
    go_wp2_with fail
    go_ret
    exact ⟨rfl, k1.trans k2⟩
  obtain ⟨m, rfl, h1, h2, h3, h4⟩ := newB_no hn'
  have H1 := hid (ran_good m k b x len cap L 300 hk hb h1 h2 h3 h4 (by omega) hL)
  clear hn' hL
  by_cases hla : lena > 100
  · have hla' : (100 : Int) < (lena : Int) := by omega
    go_enter Try.func7, Try.ntmps7
    go_wp2_with fail
    refine H1.out.mono ?_
    rintro e w1 ⟨p, bb, r, a, c, u, rfl, g1, g2, g3, g4, g5, q1, r1, o1, ul, k1⟩
    go_wp2_with fail
    refine (HK.out _).mono ?_
    rintro e w2 ⟨rfl, k2⟩
    go_wp2_with fail
    go_ret
    exact ⟨rfl, k1.trans k2⟩
  have hla' : ¬ (100 : Int) < (lena : Int) := by omega
  by_cases hlb : lenb > 100
  · have hlb' : (100 : Int) < (lenb : Int) := by omega
    go_enter Try.func7, Try.ntmps7
    go_wp2_with fail
    refine H1.out.mono ?_
    rintro e w1 ⟨p, bb, r, a, c, u, rfl, g1, g2, g3, g4, g5, q1, r1, o1, ul, k1⟩
    go_wp2_with fail
    refine (HK.out _).mono ?_
    rintro e w2 ⟨rfl, k2⟩
    go_wp2_with fail
    go_ret
    exact ⟨rfl, k1.trans k2⟩
  have hlb' : ¬ (100 : Int) < (lenb : Int) := by omega
  clear hl hla hlb
  go_enter Try.func7, Try.ntmps7
  go_wp2_with fail
  refine H1.out.mono ?_
  rintro e w1 ⟨p, bb, r, a, c, u, rfl, g1, g2, g3, g4, g5, q1, r1, o1, ul, k1⟩
  obtain ⟨l1, l2⟩ := q1.lt
  obtain ⟨l3, l4, l5⟩ := r1.lt
  have s1 := k1.size
  go_wp2_with fail
  refine (copyq_any q1 o1).mono ?_
  rintro e w2 ⟨p', b', rfl, g6, g7, q2, k2⟩
  have s2 := k2.size
  go_wp2_with fail
  refine (rcopy_any (r1.kp k2 (fun h => h) (fun h => h) (fun h => h)) o1).mono ?_
  rintro e w3 ⟨r', a', c', rfl, g8, g9, g10, r3, k3⟩
  have s3 := k3.size
  have q3 := q2.kp k3 (fun h => h) (fun h => h)
  have K3 := (k1.trans k2).trans k3
  go_wp2_with fail
  refine (sameq_any q3 o1 ((q1.kp k2 (fun h => h) (fun h => h)).kp k3 (fun h => h) (fun h => h)) o1 rfl).mono ?_
  rintro e w4 ⟨rfl, k4⟩
  have q4 := q3.kp k4 (fun h => h) (fun h => h)
  have q4' := ((q1.kp k2 (fun h => h) (fun h => h)).kp k3 (fun h => h) (fun h => h)).kp k4 (fun h => h) (fun h => h)
  have r4 := r3.kp k4 (fun h => h) (fun h => h) (fun h => h)
  have r4' := ((r1.kp k2 (fun h => h) (fun h => h) (fun h => h)).kp k3 (fun h => h) (fun h => h) (fun h => h)).kp k4 (fun h => h) (fun h => h) (fun h => h)
  have K4 := K3.trans k4
  rw [decide_eq_true rfl]
  go_wp2_with fail
  go_loopw [18] (fun i W => ∃ (j : Nat) (v : List (Int × Int)), j ≤ lena ∧ i = .int .i64 j ∧ QAt W p bb v k b ∧ RAt W r a c v k b ∧ Ok v k b ∧ v.length = m ∧ QAt W p' b' u k b ∧ RAt W r' a' c' u k b ∧ Kp NoB w W) (fun i _ => lena - (intOf i).toNat)
  case atStart => exact ⟨0, u, Nat.zero_le _, rfl, q4', r4', o1, ul, q4, r4, K4⟩
  case round =>
    obtain ⟨j, v, hj, rfl, hq, hr, ho, hul, hq', hr', hK⟩ := hrel
    by_cases hlt : j < lena
    · have ha := hLa.kp hK (Nat.le_refl _) (fun _ h => h.elim)
      have hjl : j < La.length := by rw [hLa.ln]; exact hlt
      obtain ⟨z, hz⟩ : ∃ z, La[j]? = some z := ⟨_, List.getElem?_eq_getElem hjl⟩
      obtain ⟨y, rfl, hy, c0, c1, c2, c3, c4⟩ := ha.at_ j z hz
      have hwf := hLa.wf z (List.mem_of_getElem? hz)
      have HD := hid (do_any z.k z.a z.b z.n z.m hq hr ho hwf.1 hwf.2)
      have b1 : (0 : Int) ≤ (j : Int) := Int.natCast_nonneg _
      have b2 : (j : Int) < (lena : Int) := by omega
      go_wp2_with fail
      refine HD.out.mono ?_
      rintro e w5 ⟨rfl, q5, r5, k5⟩
      go_wp2_with fail
      go_roundw
      case rel => exact ⟨j + 1, _, by omega, by go_num, q5, r5, actU_ok ho _ _ _ _ _ hwf.1.1 hwf.2.1, by rw [actU_len]; exact hul, hq'.kp k5 (by unfold TwoF; omega) (by unfold TwoF; omega), hr'.kp k5 (by unfold TwoF; omega) (by unfold TwoF; omega) (by unfold TwoF; omega), hK.trans' k5 (fun q hq hf => by unfold TwoF at hf; omega)⟩
      case measure => simp [intOf]; omega
    · go_wp2_with fail
      go_loopw [19] (fun i W => ∃ (j : Nat) (v' : List (Int × Int)), j ≤ lenb ∧ i = .int .i64 j ∧ QAt W p bb v k b ∧ RAt W r a c v k b ∧ QAt W p' b' v' k b ∧ RAt W r' a' c' v' k b ∧ Ok v' k b ∧ v'.length = m ∧ Kp NoB w W) (fun i _ => lenb - (intOf i).toNat)
      case atStart => exact ⟨0, u, Nat.zero_le _, rfl, hq, hr, hq', hr', o1, ul, hK⟩
      case round =>
        obtain ⟨j', v', hj', rfl, hq2, hr2, hq2', hr2', ho', hul', hK2⟩ := hrel
        by_cases hlt' : j' < lenb
        · have ha := hLb.kp hK2 (Nat.le_refl _) (fun _ h => h.elim)
          have hjl : j' < Lb.length := by rw [hLb.ln]; exact hlt'
          obtain ⟨z, hz⟩ : ∃ z, Lb[j']? = some z := ⟨_, List.getElem?_eq_getElem hjl⟩
          obtain ⟨y, rfl, hy, c0, c1, c2, c3, c4⟩ := ha.at_ j' z hz
          have hwf := hLb.wf z (List.mem_of_getElem? hz)
          have HD := hid (do_any z.k z.a z.b z.n z.m hq2' hr2' ho' hwf.1 hwf.2)
          have b1 : (0 : Int) ≤ (j' : Int) := Int.natCast_nonneg _
          have b2 : (j' : Int) < (lenb : Int) := by omega
          go_wp2_with fail
          refine HD.out.mono ?_
          rintro e w5 ⟨rfl, q5, r5, k5⟩
          go_wp2_with fail
          go_roundw
          case rel => exact ⟨j' + 1, _, by omega, by go_num, hq2.kp k5 (by unfold TwoF; omega) (by unfold TwoF; omega), hr2.kp k5 (by unfold TwoF; omega) (by unfold TwoF; omega) (by unfold TwoF; omega), q5, r5, actU_ok ho' _ _ _ _ _ hwf.1.1 hwf.2.1, by rw [actU_len]; exact hul', hK2.trans' k5 (fun q hq hf => by unfold TwoF at hf; omega)⟩
          case measure => simp [intOf]; omega
        · have HL := hid (show v.length = v'.length from by rw [hul, hul'])
          clear hul hul'
          go_wp2_with fail
          refine (same_any hq2 hr2 ho).mono ?_
          rintro e w5 ⟨rfl, k5⟩
          go_wp2_with fail
          refine (same_any (hq2'.kp k5 (fun h => h) (fun h => h)) (hr2'.kp k5 (fun h => h) (fun h => h) (fun h => h)) ho').mono ?_
          rintro e w6 ⟨rfl, k6⟩
          have k56 := k5.trans k6
          go_wp2_with fail
          refine (sameq_any (hq2.kp k56 (fun h => h) (fun h => h)) ho (hq2'.kp k56 (fun h => h) (fun h => h)) ho' HL.out).mono ?_
          rintro e w7 ⟨rfl, k7⟩
          have k57 := k56.trans k7
          go_wp2_with fail
          refine (rsame_any (hr2.kp k57 (fun h => h) (fun h => h) (fun h => h)) (hr2'.kp k57 (fun h => h) (fun h => h) (fun h => h)) ho.n2 HL.out).mono ?_
          rintro e w8 ⟨rfl, k8⟩
          have k58 := k57.trans k8
          go_wp2_with fail
          refine (sameq_any (hq2'.kp k58 (fun h => h) (fun h => h)) ho' (hq2.kp k58 (fun h => h) (fun h => h)) ho HL.out.symm).mono ?_
          rintro e w9 ⟨rfl, k9⟩
          have k59 := k58.trans k9
          go_wp2_with fail
          refine (rsame_any (hr2.kp k59 (fun h => h) (fun h => h) (fun h => h)) (hr2'.kp k59 (fun h => h) (fun h => h) (fun h => h)) ho.n2 HL.out).mono ?_
          rintro e w10 ⟨rfl, k10⟩
          have k60 := k59.trans k10
          rw [show decide (v' = v) = decide (v = v') from decide_eq_decide.2 ⟨Eq.symm, Eq.symm⟩]
          go_wp2_with fail
          refine (HK.out _).mono ?_
          rintro e w11 ⟨rfl, k11⟩
          go_wp2_with fail
          go_ret
          exact ⟨rfl, (hK2.trans k60).trans k11⟩
end Go.Proofs.Ytaghkgddnjdjcaa
