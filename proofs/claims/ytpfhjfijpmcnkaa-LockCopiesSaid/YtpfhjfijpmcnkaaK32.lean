/- Walks: LockCopies. -/
import Derived.Test.YtpfhjfijpmcnkaaK31
namespace Go.Proofs.Ytpfhjfijpmcnkaa
set_option linter.unusedSimpArgs false
set_option linter.unusedVariables false
open Go.RowKit
attribute [local go_sem ↓] Go.wp_at_zero Go.wp_at_succ
section
variable {w w' : World} {p m n q : Nat} {L : List (Int × Int)}
set_option maxRecDepth 100000 in
set_option maxHeartbeats 16000000 in
theorem copies_good (w : World) (n1 : 1 ≤ n) (n2 : n ≤ 8) (x1 x2 x3 : Option Addr) (l1 l2 l3 c1 c2 c3 : Nat) (A1 A2 A3' : List A3) (h1 : ActsAt w w.heap.size x1 l1 A1) (h2 : ActsAt w w.heap.size x2 l2 A2) (h3 : ActsAt w w.heap.size x3 l3 A3') (hl1 : l1 ≤ 80) (hl2 : l2 ≤ 40) (hl3 : l3 ≤ 40) :
   Calls Try.prog 7 #[.int .i64 n, .slice x1 l1 c1, .slice x2 l2 c2, .slice x3 l3 c3] w fun e w' => e = .returned (.bool true) ∧ Kp NoB w w' := by
  have HR := hid (ran_good w n1 n2 x1 l1 c1 A1 80 (by omega) (by omega) h1)
  have HK := hid known_any
  have HA1 := hid h1
  have HA2 := hid h2
  have HA3 := hid h3
  clear h1 h2 h3
  go_enter Try.func7, Try.ntmps7
  go_wp2_with fail
  refine HR.out.mono ?_
  rintro e w1 ⟨p, q, L, rfl, hlen, m, M, v, hJ, g1, g2, k1⟩
  have HC := hid (copy_any hJ.c hJ.o.n1)
  have HJ := hid hJ
  have K1 := hid k1
  have hml := hJ.c.lt.2
  have hql := blk_lt hJ.r.hq
  have hsz := k1.size
  clear hJ HR k1
  go_wp2_with fail
  refine HC.out.mono ?_
  rintro e w2 ⟨p2, m2, rfl, hc2, gp2, gm2, k2⟩
  have HC2 := hid hc2
  have K2 := hid k2
  have hs2 := k2.size
  have HRC := hid (rcopy_any (HJ.out.r.kn k2) (by omega))
  clear hc2 k2
  go_wp2_with fail
  refine HRC.out.mono ?_
  rintro e w3 ⟨q2, v2, rfl, hr2, gq2, k3⟩
  have HS := hid (csame_any (HC2.out.kn k3) ((HJ.out.c.kn K2.out).kn k3) n1 (by omega) (by omega))
  rw [same_self] at HS
  have T3 := hid (show Two w w3 p q p2 q2 n L L from ⟨m, M, v, m2, M, v2, (HJ.out.kn K2.out).kn k3, ⟨HC2.out.kn k3, hr2, HJ.out.o⟩, by omega, by omega, g1, g2, by omega, by omega, (K1.out.trans K2.out).trans k3⟩)
  clear hr2 k3
  go_wp2_with fail
  refine HS.out.mono ?_
  rintro e w4 ⟨rfl, k4⟩
  have T4 := hid (T3.out.kn k4)
  clear k4 HS HRC HC T3 HC2 HJ
  go_wp2_with fail
  go_loopw [14] (fun i W => ∃ (j : Nat) (La : List (Int × Int)), j ≤ l2 ∧ i = .int .i64 j ∧ La.length ≤ 80 + j ∧ Two w W p q p2 q2 n La L) (fun i _ => l2 - (intOf i).toNat)
  case atStart => exact ⟨0, L, Nat.zero_le _, rfl, by omega, T4.out⟩
  case round =>
    obtain ⟨j, La, hj, rfl, hLa, hT⟩ := hrel
    clear T4
    have b1 : (0 : Int) ≤ (j : Int) := Int.natCast_nonneg _
    by_cases hlt : j < l2
    · have ha := HA2.out.kp hT.k (Nat.le_refl _) (fun _ h => h.elim)
      have hjl : j < A2.length := by rw [HA2.out.ln]; exact hlt
      obtain ⟨z, hz⟩ : ∃ z, A2[j]? = some z := ⟨_, List.getElem?_eq_getElem hjl⟩
      obtain ⟨y, rfl, hy, c0, c1', c2'⟩ := ha.at_ j z hz
      have hwf := HA2.out.wf z (List.mem_of_getElem? hz)
      have HD := hid (two_do hT (by omega) (k := z.k) (t := z.t) hwf)
      have hdl := do_len n La z.k z.t z.i
      have b2 : (j : Int) < (l2 : Int) := by omega
      replace hT := hid hT
      replace ha := hid ha
      replace hwf := hid hwf
      replace hz := hid hz
      go_wp2_with fail
      refine HD.out.mono ?_
      rintro e w5 ⟨rfl, J5⟩
      replace J5 := hid J5
      go_wp2_with fail
      go_roundw
      case rel => exact ⟨j + 1, _, by omega, by go_num, by omega, J5.out⟩
      case measure => simp [intOf]; omega
    · have T5 := hid hT
      have hLa2 : La.length ≤ 120 := by omega
      clear hT
      go_wp2_with fail
      go_loopw [15] (fun i W => ∃ (j : Nat) (Lb : List (Int × Int)), j ≤ l3 ∧ i = .int .i64 j ∧ Lb.length ≤ 80 + j ∧ Two w W p q p2 q2 n La Lb) (fun i _ => l3 - (intOf i).toNat)
      case atStart => exact ⟨0, L, Nat.zero_le _, rfl, by omega, T5.out⟩
      case round =>
        clear T5 b1 hlt hj
        obtain ⟨j, Lb, hj, rfl, hLb, hT⟩ := hrel
        have b1 : (0 : Int) ≤ (j : Int) := Int.natCast_nonneg _
        by_cases hlt : j < l3
        · have ha := HA3.out.kp hT.k (Nat.le_refl _) (fun _ h => h.elim)
          have hjl : j < A3'.length := by rw [HA3.out.ln]; exact hlt
          obtain ⟨z, hz⟩ : ∃ z, A3'[j]? = some z := ⟨_, List.getElem?_eq_getElem hjl⟩
          obtain ⟨y, rfl, hy, c0, c1', c2'⟩ := ha.at_ j z hz
          have hwf := HA3.out.wf z (List.mem_of_getElem? hz)
          have HD := hid (two_do hT.symm (by omega) (k := z.k) (t := z.t) hwf)
          have hdl := do_len n Lb z.k z.t z.i
          have b2 : (j : Int) < (l3 : Int) := by omega
          replace hT := hid hT
          replace ha := hid ha
          replace hwf := hid hwf
          replace hz := hid hz
          go_wp2_with fail
          refine HD.out.mono ?_
          rintro e w5 ⟨rfl, J5⟩
          have J6 := hid J5.symm
          clear J5
          go_wp2_with fail
          go_roundw
          case rel => exact ⟨j + 1, _, by omega, by go_num, by omega, J6.out⟩
          case measure => simp [intOf]; omega
        · have hK := hT.k
          obtain ⟨va, wa, vb, wb, vc, wc, r1, r2, r3, ⟨xa, la, ca, Aa, rfl, hAa⟩, kc⟩ := all_acts c1 c2 c3 (HA1.out.kp hK (Nat.le_refl _) (fun _ h => h.elim)) (HA2.out.kp hK (Nat.le_refl _) (fun _ h => h.elim)) (HA3.out.kp hK (Nat.le_refl _) (fun _ h => h.elim)) hK.size hK.size hK.size (by omega)
          have T6 := hid (hT.kn kc)
          have hl1' : La.length ≤ 3999 := by omega
          have hl2' : Lb.length ≤ 3999 := by omega
          replace r1 := hid r1
          replace r2 := hid r2
          replace r3 := hid r3
          replace kc := hid kc
          replace hT := hid hT
          have HAa := hid hAa
          clear hAa hK
          go_wp2_with (at_builtin; first
            | (refine Lib.wpList_append_run _ rfl _ _ 22 22 rfl (.slice none 0 0) (.slice x1 l1 c1) rfl rfl _ _ r1.out ?_)
            | (refine Lib.wpList_append_run _ rfl _ _ 22 22 rfl va (.slice x2 l2 c2) rfl rfl _ _ r2.out ?_)
            | (refine Lib.wpList_append_run _ rfl _ _ 22 22 rfl vb (.slice x3 l3 c3) rfl rfl _ _ r3.out ?_))
          refine (two_same T6.out hl1' HAa.out (Nat.le_refl _)).mono ?_
          rintro e w5 ⟨rfl, k5⟩
          have T7 := hid (T6.out.kn k5)
          have HA5 := hid (HAa.out.kp k5 (Nat.le_refl _) (fun _ h => h.elim))
          have hs5 := k5.size
          clear k5
          go_wp2_with fail
          refine (two_same T7.out.symm hl2' HA5.out hs5).mono ?_
          rintro e w6 ⟨rfl, k6⟩
          have T8 := hid (T7.out.kn k6)
          clear k6
          have S1 := hid (fun W (h : Two w W p q p2 q2 n La Lb) => two_csame h hl1' hl2')
          have S2 := hid (fun W (h : Two w W p q p2 q2 n La Lb) => two_rsame h hl1' hl2')
          have S3 := hid (fun W (h : Two w W p q p2 q2 n La Lb) => two_csame h.symm hl2' hl1')
          rw [same_comm Lb La] at S3
          generalize sameB La Lb = bb at *
          go_wp2_with fail
          refine (S1.out _ T8.out).mono ?_
          rintro e w7 ⟨rfl, k7⟩
          have T9 := hid (T8.out.kn k7)
          clear k7
          go_wp2_with fail
          refine (S2.out _ T9.out).mono ?_
          rintro e w8 ⟨rfl, k8⟩
          have T10 := hid (T9.out.kn k8)
          clear k8
          go_wp2_with fail
          refine (S3.out _ T10.out).mono ?_
          rintro e w9 ⟨rfl, k9⟩
          have T11 := hid (T10.out.kn k9)
          clear k9
          go_wp2_with fail
          refine (S2.out _ T11.out).mono ?_
          rintro e w10 ⟨rfl, k10⟩
          have T12 := hid (T11.out.kn k10)
          clear k10
          go_wp2_with fail
          refine (HK.out _).mono ?_
          rintro e w11 ⟨rfl, k11⟩
          go_wp2_with fail
          go_ret
          exact ⟨rfl, T12.out.k.trans k11⟩
end
end Go.Proofs.Ytpfhjfijpmcnkaa
