/- What is answered of no accounts: the law's walk. -/
import Derived.Test.YtaghkgddnjdjcaaQ20
namespace Go.Proofs.Ytaghkgddnjdjcaa
set_option linter.unusedSimpArgs false
set_option linter.unusedVariables false
open Go.RowKit
attribute [local go_sem ↓] Go.wp_at_zero Go.wp_at_succ

set_option maxRecDepth 100000 in
set_option maxHeartbeats 8000000 in
theorem nil_any (w : World) : Calls Try.prog 8 #[] w fun e w' => e = .returned (.bool true) ∧ Kp NoB w w' := by
  have HK := hid known_any
  have N1 := hid (fun w : World => new_bad (w := w) 0 1 1 (by decide))
  have N2 := hid (fun w : World => new_bad (w := w) 17 1 1 (by decide))
  have N3 := hid (fun w : World => new_bad (w := w) 1 1073741825 1 (by decide))
  have N4 := hid (fun w : World => new_bad (w := w) 1 1 1073741825 (by decide))
  have N5 := hid (fun w : World => new_good (w := w) 16 1073741824 1073741824 (by decide) (by decide) (by decide) (by decide))
  have oz := zeros_ok (n := 16) (k := 1073741824) (b := 1073741824) (by decide) (by decide) (by decide) (by decide) (by decide) (by decide)
  have E1 := hid (show putE (List.replicate 16 ((0 : Int), (0 : Int))) 1073741824 1073741824 16 0 0 0 0 = 2 ∧ putU (List.replicate 16 ((0 : Int), (0 : Int))) 1073741824 1073741824 16 0 0 0 0 = List.replicate 16 (0, 0) from by decide)
  have E2 := hid (show putE (List.replicate 16 ((0 : Int), (0 : Int))) 1073741824 1073741824 15 0 0 18446744073709551615 0 = 7 ∧ putU (List.replicate 16 ((0 : Int), (0 : Int))) 1073741824 1073741824 15 0 0 18446744073709551615 0 = List.replicate 16 (0, 0) from by decide)
  have E3 := hid (show putE (List.replicate 16 ((0 : Int), (0 : Int))) 1073741824 1073741824 (-1) 0 0 0 0 = 2 ∧ putU (List.replicate 16 ((0 : Int), (0 : Int))) 1073741824 1073741824 (-1) 0 0 0 0 = List.replicate 16 (0, 0) from by decide)
  have E4 := hid (show putE (List.replicate 16 ((0 : Int), (0 : Int))) 1073741824 1073741824 0 0 18446744073709551615 0 0 = 18 ∧ putU (List.replicate 16 ((0 : Int), (0 : Int))) 1073741824 1073741824 0 0 18446744073709551615 0 0 = List.replicate 16 (0, 0) from by decide)
  have GN := hid (fun w : World => (show Gone w (.pointer none) from .inl rfl))
  go_enter Try.func8, Try.ntmps8
  go_wp2_with fail
  refine (N1.out _).mono ?_
  rintro e w' ⟨rfl, rfl⟩
  go_wp2_with fail
  refine (N2.out _).mono ?_
  rintro e w' ⟨rfl, rfl⟩
  go_wp2_with fail
  refine (N3.out _).mono ?_
  rintro e w' ⟨rfl, rfl⟩
  go_wp2_with fail
  refine (N4.out _).mono ?_
  rintro e w' ⟨rfl, rfl⟩
  go_wp2_with fail
  have K0 : Kp NoB w (w.alloc (.cells #[.slice none 0 0, .int .u64 0, .int .u64 0] 51)) := (Kp.refl _ w).alloc _
  have GZ : Gone (w.alloc (.cells #[.slice none 0 0, .int .u64 0, .int .u64 0] 51)) (.pointer (some ⟨w.heap.size, 0, none⟩)) := .inr ⟨_, rfl, _, _, blk_new _ _, rfl⟩
  refine (of_gone GZ 0).mono ?_
  rintro e w1 ⟨rfl, k1⟩
  have G1 := GZ.kp k1 (fun _ _ h => h)
  go_wp2_with fail
  refine (limits_gone (GN.out _)).mono ?_
  rintro e w' ⟨rfl, rfl⟩
  go_wp2_with fail
  refine (N5.out _).mono ?_
  rintro e w2 ⟨rfl, q2, k2⟩
  have G2 := G1.kp k2 (fun _ _ h => h)
  have K2 := (K0.trans k1).trans k2
  have s2 := (K0.trans k1).size
  have b2 : w.heap.size ≤ w1.heap.size := s2
  generalize List.replicate 16 ((0 : Int), (0 : Int)) = z at *
  go_wp2_with fail
  refine (charge_gone (GN.out _) 0 0 0).mono ?_
  rintro e w3 ⟨rfl, k3⟩
  have G3 := G2.kp k3 (fun _ _ h => h)
  have q3 := q2.kp k3 (fun h => h) (fun h => h)
  have K3 := K2.trans k3
  go_wp2_with fail
  refine (release_gone G3 0 0 0).mono ?_
  rintro e w4 ⟨rfl, k4⟩
  have G4 := G3.kp k4 (fun _ _ h => h)
  have q4 := q3.kp k4 (fun h => h) (fun h => h)
  have K4 := K3.trans k4
  go_wp2_with fail
  refine (change_gone G4 0 0 0).mono ?_
  rintro e w5 ⟨rfl, k5⟩
  have G5 := G4.kp k5 (fun _ _ h => h)
  have q5 := q4.kp k5 (fun h => h) (fun h => h)
  have K5 := K4.trans k5
  go_wp2_with fail
  refine (move_gone (GN.out _) 0 0 0 0).mono ?_
  rintro e w6 ⟨rfl, k6⟩
  have G6 := G5.kp k6 (fun _ _ h => h)
  have q6 := q5.kp k6 (fun h => h) (fun h => h)
  have K6 := K5.trans k6
  go_wp2_with fail
  refine (users_gone (GN.out _)).mono ?_
  rintro e w' ⟨rfl, rfl⟩
  go_wp2_with fail
  refine (users_gone G6).mono ?_
  rintro e w' ⟨rfl, rfl⟩
  go_wp2_with fail
  refine (copyq_gone (GN.out _)).mono ?_
  rintro e w' ⟨rfl, rfl⟩
  go_wp2_with fail
  refine (copyq_gone G6).mono ?_
  rintro e w' ⟨rfl, rfl⟩
  go_wp2_with fail
  refine (sameq_gone false false (there_gone (GN.out _)) (there_gone G6) rfl).mono ?_
  rintro e w' ⟨rfl, rfl⟩
  go_wp2_with fail
  refine (sameq_gone false true (there_gone (GN.out _)) (there_any q6 oz) rfl).mono ?_
  rintro e w' ⟨rfl, rfl⟩
  go_wp2_with fail
  refine (sameq_gone true false (there_any q6 oz) (there_gone (GN.out _)) rfl).mono ?_
  rintro e w' ⟨rfl, rfl⟩
  go_wp2_with fail
  refine (charge_any 16 0 0 q6 oz B0 B0).mono ?_
  rintro e w7 ⟨rfl, q7, k7⟩
  rw [E1.out.1]
  rw [E1.out.2] at q7
  have K7 := K6.trans' k7 (fun q hq hf => by omega)
  go_wp2_with fail
  refine (charge_any 15 18446744073709551615 0 q7 oz ⟨by decide, by decide⟩ B0).mono ?_
  rintro e w8 ⟨rfl, q8, k8⟩
  rw [E2.out.1]
  rw [E2.out.2] at q8
  have K8 := K7.trans' k8 (fun q hq hf => by omega)
  go_wp2_with fail
  refine (release_any (-1) 0 0 q8 oz B0 B0).mono ?_
  rintro e w9 ⟨rfl, q9, k9⟩
  rw [E3.out.1]
  rw [E3.out.2] at q9
  have K9 := K8.trans' k9 (fun q hq hf => by omega)
  go_wp2_with fail
  refine (release_any 0 0 18446744073709551615 q9 oz B0 ⟨by decide, by decide⟩).mono ?_
  rintro e w10 ⟨rfl, q10, k10⟩
  rw [E4.out.1]
  rw [E4.out.2] at q10
  have K10 := K9.trans' k10 (fun q hq hf => by omega)
  go_wp2_with fail
  refine (HK.out _).mono ?_
  rintro e w30 ⟨rfl, k30⟩
  go_wp2_with fail
  go_ret
  exact ⟨rfl, K10.trans k30⟩
end Go.Proofs.Ytaghkgddnjdjcaa
