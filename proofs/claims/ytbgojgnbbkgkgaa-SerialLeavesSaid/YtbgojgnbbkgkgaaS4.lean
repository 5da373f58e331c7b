/- The chapter's rows, and which serials may be: walks. -/
import Derived.Test.YtbgojgnbbkgkgaaS3
namespace Go.Proofs.Ytbgojgnbbkgkgaa
set_option linter.unusedSimpArgs false
set_option linter.unusedVariables false
open Go.RowKit
attribute [local go_sem ↓] Go.wp_at_zero Go.wp_at_succ

theorem tok_nil {n : Nat} (h1 : 1 ≤ n) (h2 : n ≤ 64) : TOk [] n := ⟨⟨by simp, by simp⟩, h1, h2, by simp, by simp⟩
def M1 : List (Int × Value) := [(7, hV 0 1)]
def M2 : List (Int × Value) := [(7, hV 0 1), (1073741824, hV 1 1)]
theorem fact_p1 : putE [] 2 7 1 = 0 ∧ putM [] 2 7 0 1 = M1 := by
  have p : putE [] 2 7 1 = 0 := by simp [putE, mget]
  exact ⟨p, by unfold putM; rw [p]; simp [mput, mget, M1]⟩
theorem fact_p2 : putE M1 2 1073741824 1 = 0 ∧ putM M1 2 1073741824 1 1 = M2 := by
  have p : putE M1 2 1073741824 1 = 0 := by simp [putE, mget, M1]
  exact ⟨p, by unfold putM; rw [p]; simp [mput, mget, M1, M2]⟩
theorem fact_p3 : putE M2 2 9 1 = 3 := by simp [putE, mget, M2]
theorem fact_n1 : IsNext [] 7 0 := ⟨by decide, rfl, fun i hi => by omega⟩
theorem fact_n2 : IsNext M1 7 1 := by
  refine ⟨by decide, by simp [mget, it, M1], fun i hi => ?_⟩
  have : i = 0 := by omega
  subst this
  simp [mget, it, M1]
theorem fact_n3 : IsNext M1 1073741824 0 := ⟨by decide, by simp [mget, it, M1], fun i hi => by omega⟩
theorem fact_n4 : IsNext M2 1073741824 1 := by
  refine ⟨by decide, by simp [mget, it, M2], fun i hi => ?_⟩
  have : i = 0 := by omega
  subst this
  simp [mget, it, M2]
theorem it_of {M : List (Int × Value)} {s : Int} {d d' : Nat} (h : IsNext M s d) (h' : IsNext M s d') {v : Int} (hv : it d' s = v) : it d s = v := by
  rw [next_one h h', hv]
set_option maxRecDepth 100000 in
set_option maxHeartbeats 4000000 in
theorem known_any (w : World) : Calls Try.prog 13 #[] w fun e w' => e = .returned (.bool true) ∧ Kp NoB w w' := by
  have N := hid (new_any 2 (by decide) (by decide) w)
  have o0 := tok_nil (n := 2) (by decide) (by decide)
  have o1 : TOk M1 2 := by have := o0.put 7 0 1 (by decide); rwa [fact_p1.2] at this
  have o2 : TOk M2 2 := by have := o1.put 1073741824 1 1 (by decide); rwa [fact_p2.2] at this
  go_enter Try.func13, Try.ntmps13
  go_wp2_with fail
  refine N.out.mono ?_
  rintro e w1 ⟨rfl, T1, k1⟩
  go_wp2_with fail
  refine (next_any T1 o0 6 (by decide) (by decide)).mono ?_
  rintro e w2 ⟨d, hd, rfl, k2⟩
  rw [it_of (v := 7) hd fact_n1 (by decide)]
  clear hd
  have T2 := T1.kp k2 (fun h => h) (fun h => h)
  go_wp2_with fail
  refine (one_any 0 _).mono ?_
  rintro e w3 ⟨rfl, k3⟩
  have T3 := T2.kp k3 (fun h => h) (fun h => h)
  go_wp2_with fail
  refine (put_any T3 o0 7 0 1 (by decide)).mono ?_
  rintro e w4 ⟨rfl, T4, k4⟩
  rw [fact_p1.1]
  rw [fact_p1.2] at T4
  have K4 : Kp NoB w w4 := ((k1.trans k2).trans k3).trans' k4 (fun q hq hf => by omega)
  go_wp2_with fail
  refine (next_any T4 o1 6 (by decide) (by decide)).mono ?_
  rintro e w5 ⟨d, hd, rfl, k5⟩
  rw [it_of (v := 8) hd fact_n2 (by decide)]
  clear hd
  have T5 := T4.kp k5 (fun h => h) (fun h => h)
  go_wp2_with fail
  refine (next_any T5 o1 1073741823 (by decide) (by decide)).mono ?_
  rintro e w6 ⟨d, hd, rfl, k6⟩
  rw [it_of (v := 1073741824) hd fact_n3 (by decide)]
  clear hd
  have T6 := T5.kp k6 (fun h => h) (fun h => h)
  go_wp2_with fail
  refine (one_any 1 _).mono ?_
  rintro e w7 ⟨rfl, k7⟩
  have T7 := T6.kp k7 (fun h => h) (fun h => h)
  go_wp2_with fail
  refine (put_any T7 o1 1073741824 1 1 (by decide)).mono ?_
  rintro e w8 ⟨rfl, T8, k8⟩
  rw [fact_p2.1]
  rw [fact_p2.2] at T8
  have K8 : Kp NoB w w8 := (((K4.trans k5).trans k6).trans k7).trans' k8 (fun q hq hf => by omega)
  go_wp2_with fail
  refine (next_any T8 o2 1073741823 (by decide) (by decide)).mono ?_
  rintro e w9 ⟨d, hd, rfl, k9⟩
  rw [it_of (v := 1) hd fact_n4 (by decide)]
  clear hd
  have T9 := T8.kp k9 (fun h => h) (fun h => h)
  go_wp2_with fail
  refine (one_any 2 _).mono ?_
  rintro e w10 ⟨rfl, k10⟩
  have T10 := T9.kp k10 (fun h => h) (fun h => h)
  go_wp2_with fail
  refine (put_any T10 o2 9 2 1 (by decide)).mono ?_
  rintro e w11 ⟨rfl, T11, k11⟩
  rw [fact_p3]
  go_wp2_with fail
  go_ret
  exact ⟨rfl, ((K8.trans k9).trans k10).trans' k11 (fun q hq hf => by omega)⟩
end Go.Proofs.Ytbgojgnbbkgkgaa
