/- Walks: LockPlays. -/
import Derived.Test.YtpfhjfijpmcnkaaK25
namespace Go.Proofs.Ytpfhjfijpmcnkaa
set_option linter.unusedSimpArgs false
set_option linter.unusedVariables false
open Go.RowKit
attribute [local go_sem ↓] Go.wp_at_zero Go.wp_at_succ
section
variable {w0 w w' : World} {p m q n : Nat} {M : List (Int × Value)} {v : Value} {L : List (Int × Int)}
theorem same_new (h : JNew w0 w p q n L) (n2 : L.length ≤ 3999) {x : Option Addr} {len cap B : Nat} {A : List A3} (hL : ActsAt w B x len A) (hB : B ≤ w.heap.size) :
    Calls Try.prog 19 #[.pointer (some ⟨p, 0, none⟩), .pointer (some ⟨q, 0, none⟩), .slice x len cap] w fun e w' => e = .returned (.bool true) ∧ JNew w0 w' p q n L := by
  have h' := h
  obtain ⟨m, M, v, h1, h2, h3, h4⟩ := h
  refine (same_any h1 n2 hL hB).mono ?_
  rintro e w1 ⟨rfl, k⟩
  exact ⟨rfl, h'.kn k⟩
theorem plays_no (w : World) {n : Int} (hn : ¬ (1 ≤ n ∧ n ≤ 8)) (x : Option Addr) (len cap : Nat) :
   Calls Try.prog 5 #[.int .i64 n, .slice x len cap] w fun e w' => e = .returned (.bool true) ∧ Kp NoB w w' := by
  have HR := hid (ran_no w hn none 0 0 0)
  have HK := hid known_any
  clear hn
  go_enter Try.func5, Try.ntmps5
  go_wp2_with fail
  refine HR.out.mono ?_
  rintro e w1 ⟨rfl, k1⟩
  go_wp2_with fail
  refine (HK.out _).mono ?_
  rintro e w2 ⟨rfl, k2⟩
  go_wp2_with fail
  go_ret
  exact ⟨rfl, k1.trans k2⟩
set_option maxRecDepth 100000 in
set_option maxHeartbeats 8000000 in
theorem plays_good (w : World) (n1 : 1 ≤ n) (n2 : n ≤ 8) (x : Option Addr) (len cap : Nat) (A : List A3) (hL : ActsAt w w.heap.size x len A) :
   Calls Try.prog 5 #[.int .i64 n, .slice x len cap] w fun e w' => e = .returned (.bool true) ∧ Kp NoB w w' := by
  have HR := hid (ran_good w n1 n2 none 0 0 [] 0 (by decide) (by omega) (ActsAt.nil _ _))
  have HK := hid known_any
  have HA := hid hL
  have hmx := hL.mx
  clear hL
  by_cases hl : len > 80
  · have hl' : ((80 : Int) < (len : Int)) := by omega
    go_enter Try.func5, Try.ntmps5
    go_wp2_with fail
    refine HR.out.mono ?_
    rintro e w1 ⟨p, q, L, rfl, hlen, hJ⟩
    have K1 := hid hJ.k
    clear hJ
    go_wp2_with fail
    refine (HK.out _).mono ?_
    rintro e w2 ⟨rfl, k2⟩
    go_wp2_with fail
    go_ret
    exact ⟨rfl, K1.out.trans k2⟩
  · have hl' : ¬ ((80 : Int) < (len : Int)) := by omega
    go_enter Try.func5, Try.ntmps5
    go_wp2_with fail
    refine HR.out.mono ?_
    rintro e w1 ⟨p, q, L0, rfl, hlen, hJ0⟩
    replace hJ0 := hid hJ0
    go_wp2_with fail
    go_loopw [8] (fun i W => ∃ (j : Nat) (L : List (Int × Int)), j ≤ len ∧ i = .int .i64 j ∧ L.length ≤ j ∧ JNew w W p q n L) (fun i _ => len - (intOf i).toNat)
    case atStart => exact ⟨0, L0, Nat.zero_le _, rfl, hlen, hJ0.out⟩
    case round =>
      obtain ⟨j, L, hj, rfl, hlen, hJ⟩ := hrel
      have b1 : (0 : Int) ≤ (j : Int) := Int.natCast_nonneg _
      by_cases hlt : j < len
      · have ha := HA.out.kp hJ.k (Nat.le_refl _) (fun _ h => h.elim)
        have hjl : j < A.length := by rw [HA.out.ln]; exact hlt
        obtain ⟨z, hz⟩ : ∃ z, A[j]? = some z := ⟨_, List.getElem?_eq_getElem hjl⟩
        obtain ⟨y, rfl, hy, c0, c1, c2⟩ := ha.at_ j z hz
        have hwf := HA.out.wf z (List.mem_of_getElem? hz)
        have HD := hid (do_new hJ (by omega) (k := z.k) (t := z.t) hwf)
        have hdl := do_len n L z.k z.t z.i
        have b2 : (j : Int) < (len : Int) := by omega
        replace hJ := hid hJ
        replace ha := hid ha
        replace hwf := hid hwf
        replace hz := hid hz
        go_wp2_with fail
        refine HD.out.mono ?_
        rintro e w3 ⟨rfl, J3⟩
        have HS := hid (same_new (cap := cap) J3 (by omega) (HA.out.kp J3.k (Nat.le_refl _) (fun _ h => h.elim)) J3.k.size)
        replace J3 := hid J3
        go_wp2_with fail
        refine HS.out.mono ?_
        rintro e w4 ⟨rfl, J4⟩
        replace J4 := hid J4
        go_wp2_with fail
        go_roundw
        case rel => exact ⟨j + 1, _, by omega, by go_num, by omega, J4.out⟩
        case measure => simp [intOf]; omega
      · have K1 := hid hJ.k
        replace hJ := hid hJ
        go_wp2_with fail
        refine (HK.out _).mono ?_
        rintro e w4 ⟨rfl, k4⟩
        go_wp2_with fail
        go_ret
        exact ⟨rfl, K1.out.trans k4⟩
theorem plays_law (w : World) (n : Int) (x : Option Addr) (len cap : Nat) (A : List A3) (hL : ActsAt w w.heap.size x len A) :
   Calls Try.prog 5 #[.int .i64 n, .slice x len cap] w fun e w' => e = .returned (.bool true) ∧ Kp NoB w w' := by
  by_cases hn : 1 ≤ n ∧ n ≤ 8
  · obtain ⟨m, rfl⟩ : ∃ m : Nat, n = m := ⟨n.toNat, by omega⟩
    exact plays_good w (by omega) (by omega) x len cap A hL
  · exact plays_no w hn x len cap
end
end Go.Proofs.Ytpfhjfijpmcnkaa
