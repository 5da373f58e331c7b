/- The accounts never hold more than their limits: the law's walk, at any acts. -/
import Derived.Test.YtaghkgddnjdjcaaQ12
namespace Go.Proofs.Ytaghkgddnjdjcaa
set_option linter.unusedSimpArgs false
set_option linter.unusedVariables false
open Go.RowKit
attribute [local go_sem ↓] Go.wp_at_zero Go.wp_at_succ

set_option maxRecDepth 100000 in
set_option maxHeartbeats 8000000 in
theorem holds_any {w : World} (n k b : Int) (x : Option Addr) (len cap : Nat) (L : List A5) (hk : 0 ≤ k) (hb : 0 ≤ b) (hL : ActsAt w w.heap.size x len L) :
   Calls Try.prog 3 #[.int .i64 n, .int .u64 k, .int .u64 b, .slice x len cap] w fun e w' => e = .returned (.bool true) ∧ Kp NoB w w' := by
  have HK := hid known_any
  by_cases hn : newB n k b = true
  · have H1 := hid (fun (w : World) => ran_bad (w := w) n k b none 0 0 0 hn)
    go_enter Try.func3, Try.ntmps3
    go_wp2_with fail
    refine (H1.out _).mono ?_
    rintro e w1 ⟨rfl, k1⟩
    go_wp2_with fail
    refine (HK.out _).mono ?_
    rintro e w2 ⟨rfl, k2⟩
    go_wp2_with fail
    go_ret
    exact ⟨rfl, k1.trans k2⟩
  · have hn' : newB n k b = false := by simpa using hn
    clear hn
    obtain ⟨m, rfl, h1, h2, h3, h4⟩ := newB_no hn'
    have H1 := hid (fun (w : World) => ran_good (w := w) m k b none 0 0 [] 0 hk hb h1 h2 h3 h4 (by decide) (ActsAt.nil _ _))
    clear hn'
    by_cases hl : len > 300
    · have hl' : ((300 : Int) < (len : Int)) := by omega
      go_enter Try.func3, Try.ntmps3
      go_wp2_with fail
      refine (H1.out _).mono ?_
      rintro e w1 ⟨p, bb, r, a, c, u, rfl, g1, g2, g3, g4, g5, q1, r1, o1, ul, k1⟩
      go_wp2_with fail
      refine (HK.out _).mono ?_
      rintro e w2 ⟨rfl, k2⟩
      go_wp2_with fail
      go_ret
      exact ⟨rfl, k1.trans k2⟩
    · have hl' : ¬ ((300 : Int) < (len : Int)) := by omega
      go_enter Try.func3, Try.ntmps3
      go_wp2_with fail
      refine (H1.out _).mono ?_
      rintro e w1 ⟨p, bb, r, a, c, u0, rfl, g1, g2, g3, g4, g5, q1, r1, o1, ul, k1⟩
      clear r1 g3 g4 g5
      go_wp2_with fail
      go_loopw [12] (fun i W => ∃ (j : Nat) (u : List (Int × Int)), j ≤ len ∧ i = .int .i64 j ∧ QAt W p bb u k b ∧ Ok u k b ∧ u.length = m ∧ Kp NoB w W) (fun i _ => len - (intOf i).toNat)
      case atStart => exact ⟨0, u0, Nat.zero_le _, rfl, q1, o1, ul, k1⟩
      case round =>
        obtain ⟨j, u, hj, rfl, hq, ho, hul, hK⟩ := hrel
        have ha := hL.kp hK (Nat.le_refl _) (fun _ h => h.elim)
        by_cases hlt : j < len
        · have hjl : j < L.length := by rw [hL.ln]; exact hlt
          obtain ⟨z, hz⟩ : ∃ z, L[j]? = some z := ⟨_, List.getElem?_eq_getElem hjl⟩
          obtain ⟨y, rfl, hy, c0, c1, c2, c3, c4⟩ := ha.at_ j z hz
          have hmx := hL.mx
          obtain ⟨hwn, hwm⟩ := hL.wf z (List.mem_of_getElem? hz)
          have b1 : (0 : Int) ≤ (j : Int) := Int.natCast_nonneg _
          have b2 : (j : Int) < (len : Int) := by omega
          obtain ⟨zk, za, zb, zn, zm⟩ := z
          simp only at c0 c1 c2 c3 c4 hwn hwm
          have bn := hwn.1
          have bm := hwm.1
          by_cases d1 : zk = 1
          · subst d1
            go_wp2_with fail
            refine (charge_any za zn zm (hq.alloc _) ho hwn hwm).mono ?_
            rintro e w3 ⟨rfl, q3, k3⟩
            have o' := putU_ok ho za 0 0 zn zm (by omega) (by omega) bn bm
            have hul' := (putU_len (u := u) (lk := k) (lb := b) za 0 0 zn zm).trans hul
            generalize putU u k b za 0 0 zn zm = u' at *
            have HO := hid (fun (w1 : World) (i : Int) (q : QAt w1 p bb u' k b) => of_any i q o')
            have K3 : Kp NoB w w3 := (hK.alloc _).trans' k3 (fun q hq hf => by omega)
            go_wp2_with fail
            go_loopw [14] (fun i W => ∃ q : Nat, q ≤ m ∧ i = .int .i64 q ∧ QAt W p bb u' k b ∧ Kp NoB w W) (fun i _ => m - (intOf i).toNat)
            case atStart => exact ⟨0, Nat.zero_le _, rfl, q3, K3⟩
            case round =>
              obtain ⟨q, hq, rfl, hQ, hKq⟩ := hrel
              by_cases hlt : q < m
              · obtain ⟨⟨x, y⟩, hxy⟩ : ∃ xy, u'[q]? = some xy := ⟨_, List.getElem?_eq_getElem (by omega)⟩
                have hxb := o'.at hxy
                have HE := hid (show ofV u' q = (x, y) from by simp [ofV, has_of hxy, hxy])
                have b1 : (0 : Int) ≤ (q : Int) := Int.natCast_nonneg _
                have b2 : (q : Int) < (m : Int) := by omega
                clear hxy
                go_wp2_with fail
                refine (HO.out _ q hQ).mono ?_
                rintro e w4 ⟨rfl, k4⟩
                rw [HE.out]
                go_wp2_with fail
                go_roundw
                case rel => exact ⟨q + 1, by omega, by go_num, hQ.kp k4 (fun h => h) (fun h => h), hKq.trans k4⟩
                case measure => simp [intOf]; omega
              · go_wp2_with fail
                go_roundw
                case rel => exact ⟨j + 1, u', by omega, by go_num, hQ, o', hul', hKq⟩
                case measure => simp [intOf]; omega
          by_cases d2 : zk = 2
          · subst d2
            go_wp2_with fail
            refine (release_any za zn zm (hq.alloc _) ho hwn hwm).mono ?_
            rintro e w3 ⟨rfl, q3, k3⟩
            have o' := putU_ok ho za zn zm 0 0 bn bm (by omega) (by omega)
            have hul' := (putU_len (u := u) (lk := k) (lb := b) za zn zm 0 0).trans hul
            generalize putU u k b za zn zm 0 0 = u' at *
            have HO := hid (fun (w1 : World) (i : Int) (q : QAt w1 p bb u' k b) => of_any i q o')
            have K3 : Kp NoB w w3 := (hK.alloc _).trans' k3 (fun q hq hf => by omega)
            go_wp2_with fail
            go_loopw [14] (fun i W => ∃ q : Nat, q ≤ m ∧ i = .int .i64 q ∧ QAt W p bb u' k b ∧ Kp NoB w W) (fun i _ => m - (intOf i).toNat)
            case atStart => exact ⟨0, Nat.zero_le _, rfl, q3, K3⟩
            case round =>
              obtain ⟨q, hq, rfl, hQ, hKq⟩ := hrel
              by_cases hlt : q < m
              · obtain ⟨⟨x, y⟩, hxy⟩ : ∃ xy, u'[q]? = some xy := ⟨_, List.getElem?_eq_getElem (by omega)⟩
                have hxb := o'.at hxy
                have HE := hid (show ofV u' q = (x, y) from by simp [ofV, has_of hxy, hxy])
                have b1 : (0 : Int) ≤ (q : Int) := Int.natCast_nonneg _
                have b2 : (q : Int) < (m : Int) := by omega
                clear hxy
                go_wp2_with fail
                refine (HO.out _ q hQ).mono ?_
                rintro e w4 ⟨rfl, k4⟩
                rw [HE.out]
                go_wp2_with fail
                go_roundw
                case rel => exact ⟨q + 1, by omega, by go_num, hQ.kp k4 (fun h => h) (fun h => h), hKq.trans k4⟩
                case measure => simp [intOf]; omega
              · go_wp2_with fail
                go_roundw
                case rel => exact ⟨j + 1, u', by omega, by go_num, hQ, o', hul', hKq⟩
                case measure => simp [intOf]; omega
          by_cases d3 : zk = 3
          · subst d3
            go_wp2_with fail
            refine (change_any za zn zm (hq.alloc _) ho hwn hwm).mono ?_
            rintro e w3 ⟨rfl, q3, k3⟩
            have o' := putU_ok ho za 0 zn 0 zm (by omega) bn (by omega) bm
            have hul' := (putU_len (u := u) (lk := k) (lb := b) za 0 zn 0 zm).trans hul
            generalize putU u k b za 0 zn 0 zm = u' at *
            have HO := hid (fun (w1 : World) (i : Int) (q : QAt w1 p bb u' k b) => of_any i q o')
            have K3 : Kp NoB w w3 := (hK.alloc _).trans' k3 (fun q hq hf => by omega)
            go_wp2_with fail
            go_loopw [14] (fun i W => ∃ q : Nat, q ≤ m ∧ i = .int .i64 q ∧ QAt W p bb u' k b ∧ Kp NoB w W) (fun i _ => m - (intOf i).toNat)
            case atStart => exact ⟨0, Nat.zero_le _, rfl, q3, K3⟩
            case round =>
              obtain ⟨q, hq, rfl, hQ, hKq⟩ := hrel
              by_cases hlt : q < m
              · obtain ⟨⟨x, y⟩, hxy⟩ : ∃ xy, u'[q]? = some xy := ⟨_, List.getElem?_eq_getElem (by omega)⟩
                have hxb := o'.at hxy
                have HE := hid (show ofV u' q = (x, y) from by simp [ofV, has_of hxy, hxy])
                have b1 : (0 : Int) ≤ (q : Int) := Int.natCast_nonneg _
                have b2 : (q : Int) < (m : Int) := by omega
                clear hxy
                go_wp2_with fail
                refine (HO.out _ q hQ).mono ?_
                rintro e w4 ⟨rfl, k4⟩
                rw [HE.out]
                go_wp2_with fail
                go_roundw
                case rel => exact ⟨q + 1, by omega, by go_num, hQ.kp k4 (fun h => h) (fun h => h), hKq.trans k4⟩
                case measure => simp [intOf]; omega
              · go_wp2_with fail
                go_roundw
                case rel => exact ⟨j + 1, u', by omega, by go_num, hQ, o', hul', hKq⟩
                case measure => simp [intOf]; omega
          by_cases d4 : zk = 4
          · subst d4
            go_wp2_with fail
            refine (move_any za zb zn zm (hq.alloc _) ho hwn hwm).mono ?_
            rintro e w3 ⟨rfl, q3, k3⟩
            have o' := moveU_ok ho za zb zn zm bn bm
            have hul' := (moveU_len (u := u) (lk := k) (lb := b) za zb zn zm).trans hul
            generalize moveU u k b za zb zn zm = u' at *
            have HO := hid (fun (w1 : World) (i : Int) (q : QAt w1 p bb u' k b) => of_any i q o')
            have K3 : Kp NoB w w3 := (hK.alloc _).trans' k3 (fun q hq hf => by omega)
            go_wp2_with fail
            go_loopw [14] (fun i W => ∃ q : Nat, q ≤ m ∧ i = .int .i64 q ∧ QAt W p bb u' k b ∧ Kp NoB w W) (fun i _ => m - (intOf i).toNat)
            case atStart => exact ⟨0, Nat.zero_le _, rfl, q3, K3⟩
            case round =>
              obtain ⟨q, hq, rfl, hQ, hKq⟩ := hrel
              by_cases hlt : q < m
              · obtain ⟨⟨x, y⟩, hxy⟩ : ∃ xy, u'[q]? = some xy := ⟨_, List.getElem?_eq_getElem (by omega)⟩
                have hxb := o'.at hxy
                have HE := hid (show ofV u' q = (x, y) from by simp [ofV, has_of hxy, hxy])
                have b1 : (0 : Int) ≤ (q : Int) := Int.natCast_nonneg _
                have b2 : (q : Int) < (m : Int) := by omega
                clear hxy
                go_wp2_with fail
                refine (HO.out _ q hQ).mono ?_
                rintro e w4 ⟨rfl, k4⟩
                rw [HE.out]
                go_wp2_with fail
                go_roundw
                case rel => exact ⟨q + 1, by omega, by go_num, hQ.kp k4 (fun h => h) (fun h => h), hKq.trans k4⟩
                case measure => simp [intOf]; omega
              · go_wp2_with fail
                go_roundw
                case rel => exact ⟨j + 1, u', by omega, by go_num, hQ, o', hul', hKq⟩
                case measure => simp [intOf]; omega
          have e1 : (zk == 1) = false := by simpa using d1
          have e2 : (zk == 2) = false := by simpa using d2
          have e3 : (zk == 3) = false := by simpa using d3
          have e4 : (zk == 4) = false := by simpa using d4
          have o' := ho
          have hul' := hul
          obtain ⟨u', hu'⟩ : ∃ u', u' = u := ⟨_, rfl⟩
          subst hu'
          have HO := hid (fun (w1 : World) (i : Int) (q : QAt w1 p bb u' k b) => of_any i q o')
          go_wp2_with fail
          go_loopw [14] (fun i W => ∃ q : Nat, q ≤ m ∧ i = .int .i64 q ∧ QAt W p bb u' k b ∧ Kp NoB w W) (fun i _ => m - (intOf i).toNat)
          case atStart => exact ⟨0, Nat.zero_le _, rfl, hq.alloc _, hK.alloc _⟩
          case round =>
            obtain ⟨q, hq, rfl, hQ, hKq⟩ := hrel
            by_cases hlt : q < m
            · obtain ⟨⟨x, y⟩, hxy⟩ : ∃ xy, u'[q]? = some xy := ⟨_, List.getElem?_eq_getElem (by omega)⟩
              have hxb := o'.at hxy
              have HE := hid (show ofV u' q = (x, y) from by simp [ofV, has_of hxy, hxy])
              have b1 : (0 : Int) ≤ (q : Int) := Int.natCast_nonneg _
              have b2 : (q : Int) < (m : Int) := by omega
              clear hxy
              go_wp2_with fail
              refine (HO.out _ q hQ).mono ?_
              rintro e w4 ⟨rfl, k4⟩
              rw [HE.out]
              go_wp2_with fail
              go_roundw
              case rel => exact ⟨q + 1, by omega, by go_num, hQ.kp k4 (fun h => h) (fun h => h), hKq.trans k4⟩
              case measure => simp [intOf]; omega
            · go_wp2_with fail
              go_roundw
              case rel => exact ⟨j + 1, u', by omega, by go_num, hQ, o', hul', hKq⟩
              case measure => simp [intOf]; omega
        · go_wp2_with fail
          refine (HK.out _).mono ?_
          rintro e w4 ⟨rfl, k4⟩
          go_wp2_with fail
          go_ret
          exact ⟨rfl, hK.trans k4⟩
end Go.Proofs.Ytaghkgddnjdjcaa
