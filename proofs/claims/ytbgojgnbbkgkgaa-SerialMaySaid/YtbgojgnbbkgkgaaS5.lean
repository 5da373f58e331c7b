/- Which serials may be: the law's walk. -/
import Derived.Test.YtbgojgnbbkgkgaaS4
import Derived.Test.YtbgojgnbbkgkgaaS6
namespace Go.Proofs.Ytbgojgnbbkgkgaa
set_option linter.unusedSimpArgs false
set_option linter.unusedVariables false
open Go.RowKit
attribute [local go_sem ↓] Go.wp_at_zero Go.wp_at_succ

set_option maxRecDepth 100000 in
set_option maxHeartbeats 8000000 in
theorem may_law (w : World) (s i g : Int) (hs : (Lit.int .i64 s).wf = true) (hg : 0 ≤ g) : Calls Try.prog 3 #[.int .i64 s, hV i g] w fun e w' => e = .returned (.bool true) ∧ Kp NoB w w' := by
  have HK := hid known_any
  have N := hid (new_any 1 (by decide) (by decide) (w.alloc (.cells #[.int .i64 i, .int .u64 g] 25)))
  have o0 := tok_nil (n := 1) (by decide) (by decide)
  have HM := hid (may_any s)
  have B0 := hid (blk_new w (.cells #[.int .i64 i, .int .u64 g] 25))
  have K0 : Kp NoB w (w.alloc (.cells #[.int .i64 i, .int .u64 g] 25)) := (Kp.refl _ w).alloc _
  by_cases c : (1 ≤ s ∧ s ≤ 1073741824) ∧ g ≠ 0
  · have hE : putE [] 1 s g = 0 := by unfold putE; rw [if_neg (fun h => h.elim (fun h => h c.1) c.2)]; simp [mget]
    have hP : putM [] 1 s i g = [(s, hV i g)] := by unfold putM; rw [hE]; simp [mput, mget]
    have o1 : TOk [(s, hV i g)] 1 := by have := o0.put s i g hs; rwa [hP] at this
    have HE := hid hE
    have HP := hid hP
    have HG := hid (show (mget [(s, hV i g)] s).getD (hV 0 0) = hV i g ∧ (mget [(s, hV i g)] s).isSome = true from by simp [mget])
    have hmay := hid (show (decide (1 ≤ s) && decide (s ≤ 1073741824)) = true from by simpa using c.1)
    obtain ⟨⟨c1, c2⟩, c3⟩ := c
    have c4 : 0 < g := by omega
    clear hE hP
    have HPut := hid (fun (w1 : World) (h1 : TAt w1 (w.heap.size + 1 + 1) (w.heap.size + 1) [] 1) => put_any h1 o0 s i g hs)
    have HGet := hid (fun (w1 : World) (h1 : TAt w1 (w.heap.size + 1 + 1) (w.heap.size + 1) [(s, hV i g)] 1) => get_any h1 o1 s hs)
    unfold hV at *
    go_enter Try.func3, Try.ntmps3
    go_wp2_with fail
    refine N.out.mono ?_
    rintro e w1 ⟨rfl, T1, k1⟩
    simp only [World.size_alloc] at T1
    have L1 := loc2 (k1.get B0.out (fun h => h))
    go_wp2_with fail
    refine (HPut.out _ T1).mono ?_
    rintro e w2 ⟨rfl, T2, k2⟩
    rw [HE.out]
    rw [HP.out] at T2
    have B2 := hid (k2.get (k1.get B0.out (fun h => h)) (by omega))
    have K2 := (K0.trans k1).trans' k2 (fun q hq hf => by omega)
    have s2 := K2.size
    go_wp2_with fail
    refine (HGet.out _ T2).mono ?_
    rintro e w3 ⟨rfl, k3⟩
    rw [HG.out.1, HG.out.2]
    have B3 := hid (k3.get B2.out (fun h => h))
    have L3 := loc2 B3.out
    have u3 := ups L3.2.2.2.2
    go_wp2_with fail
    refine (HM.out _).mono ?_
    rintro e w' ⟨rfl, rfl⟩
    rw [hmay.out]
    go_wp2_with fail
    refine (HK.out _).mono ?_
    rintro e w4 ⟨rfl, k4⟩
    go_wp2_with fail
    go_ret
    exact ⟨rfl, ((K2.trans k3).alloc _).trans k4⟩
  · have hE : putE [] 1 s g = 2 := by
      unfold putE
      rw [if_pos]
      by_cases c1 : 1 ≤ s ∧ s ≤ 1073741824
      · right
        apply Classical.byContradiction
        intro h; exact c ⟨c1, h⟩
      · exact .inl c1
    have hP : putM [] 1 s i g = [] := by unfold putM; rw [hE, if_neg (by omega)]
    have HE := hid hE
    have HP := hid hP
    clear hE hP
    by_cases c1 : 1 ≤ s
    · by_cases c2 : s ≤ 1073741824
      · have c3 : g = 0 := by
          apply Classical.byContradiction
          intro h; exact c ⟨⟨c1, c2⟩, h⟩
        have hmay := hid (show (decide (1 ≤ s) && decide (s ≤ 1073741824)) = true from by simpa using ⟨c1, c2⟩)
        clear c
        subst c3
        have HPut := hid (fun (w1 : World) (h1 : TAt w1 (w.heap.size + 1 + 1) (w.heap.size + 1) [] 1) => put_any h1 o0 s i 0 hs)
        have HGet := hid (fun (w1 : World) (h1 : TAt w1 (w.heap.size + 1 + 1) (w.heap.size + 1) [] 1) => get_any h1 o0 s hs)
        have HG := hid (show (mget [] s).getD (hV 0 0) = hV 0 0 ∧ (mget [] s).isSome = false from ⟨rfl, rfl⟩)
        unfold hV at *
        go_enter Try.func3, Try.ntmps3
        go_wp2_with fail
        refine N.out.mono ?_
        rintro e w1 ⟨rfl, T1, k1⟩
        simp only [World.size_alloc] at T1
        have L1 := loc2 (k1.get B0.out (fun h => h))
        go_wp2_with fail
        refine (HPut.out _ T1).mono ?_
        rintro e w2 ⟨rfl, T2, k2⟩
        rw [HE.out]
        rw [HP.out] at T2
        have B2 := hid (k2.get (k1.get B0.out (fun h => h)) (by omega))
        have K2 := (K0.trans k1).trans' k2 (fun q hq hf => by omega)
        have s2 := K2.size
        go_wp2_with fail
        refine (HGet.out _ T2).mono ?_
        rintro e w3 ⟨rfl, k3⟩
        rw [HG.out.1, HG.out.2]
        have B3 := hid (k3.get B2.out (fun h => h))
        have L3 := loc2 B3.out
        have u3 := ups L3.2.2.2.2
        go_wp2_with fail
        refine (HM.out _).mono ?_
        rintro e w' ⟨rfl, rfl⟩
        rw [hmay.out]
        go_wp2_with fail
        refine (HK.out _).mono ?_
        rintro e w4 ⟨rfl, k4⟩
        go_wp2_with fail
        go_ret
        exact ⟨rfl, ((K2.trans k3).alloc _).trans k4⟩
      · have hmay := hid (show (decide (1 ≤ s) && decide (s ≤ 1073741824)) = false from by simp; omega)
        have d2 : decide (s ≤ 1073741824) = false := by simpa using c2
        clear c
        have HPut := hid (fun (w1 : World) (h1 : TAt w1 (w.heap.size + 1 + 1) (w.heap.size + 1) [] 1) => put_any h1 o0 s i g hs)
        have HGet := hid (fun (w1 : World) (h1 : TAt w1 (w.heap.size + 1 + 1) (w.heap.size + 1) [] 1) => get_any h1 o0 s hs)
        have HG := hid (show (mget [] s).getD (hV 0 0) = hV 0 0 ∧ (mget [] s).isSome = false from ⟨rfl, rfl⟩)
        unfold hV at *
        go_enter Try.func3, Try.ntmps3
        go_wp2_with fail
        refine N.out.mono ?_
        rintro e w1 ⟨rfl, T1, k1⟩
        simp only [World.size_alloc] at T1
        have L1 := loc2 (k1.get B0.out (fun h => h))
        go_wp2_with fail
        refine (HPut.out _ T1).mono ?_
        rintro e w2 ⟨rfl, T2, k2⟩
        rw [HE.out]
        rw [HP.out] at T2
        have B2 := hid (k2.get (k1.get B0.out (fun h => h)) (by omega))
        have K2 := (K0.trans k1).trans' k2 (fun q hq hf => by omega)
        have s2 := K2.size
        go_wp2_with fail
        refine (HGet.out _ T2).mono ?_
        rintro e w3 ⟨rfl, k3⟩
        rw [HG.out.1, HG.out.2]
        have B3 := hid (k3.get B2.out (fun h => h))
        have L3 := loc2 B3.out
        have u3 := ups L3.2.2.2.2
        go_wp2_with fail
        refine (HM.out _).mono ?_
        rintro e w' ⟨rfl, rfl⟩
        rw [hmay.out]
        go_wp2_with fail
        refine (HK.out _).mono ?_
        rintro e w4 ⟨rfl, k4⟩
        go_wp2_with fail
        go_ret
        exact ⟨rfl, ((K2.trans k3).alloc _).trans k4⟩
    · have hmay := hid (show (decide (1 ≤ s) && decide (s ≤ 1073741824)) = false from by simp; omega)
      have d1 : decide (1 ≤ s) = false := by simpa using c1
      clear c
      have HPut := hid (fun (w1 : World) (h1 : TAt w1 (w.heap.size + 1 + 1) (w.heap.size + 1) [] 1) => put_any h1 o0 s i g hs)
      have HGet := hid (fun (w1 : World) (h1 : TAt w1 (w.heap.size + 1 + 1) (w.heap.size + 1) [] 1) => get_any h1 o0 s hs)
      have HG := hid (show (mget [] s).getD (hV 0 0) = hV 0 0 ∧ (mget [] s).isSome = false from ⟨rfl, rfl⟩)
      unfold hV at *
      go_enter Try.func3, Try.ntmps3
      go_wp2_with fail
      refine N.out.mono ?_
      rintro e w1 ⟨rfl, T1, k1⟩
      simp only [World.size_alloc] at T1
      have L1 := loc2 (k1.get B0.out (fun h => h))
      go_wp2_with fail
      refine (HPut.out _ T1).mono ?_
      rintro e w2 ⟨rfl, T2, k2⟩
      rw [HE.out]
      rw [HP.out] at T2
      have B2 := hid (k2.get (k1.get B0.out (fun h => h)) (by omega))
      have K2 := (K0.trans k1).trans' k2 (fun q hq hf => by omega)
      have s2 := K2.size
      go_wp2_with fail
      refine (HGet.out _ T2).mono ?_
      rintro e w3 ⟨rfl, k3⟩
      rw [HG.out.1, HG.out.2]
      have B3 := hid (k3.get B2.out (fun h => h))
      have L3 := loc2 B3.out
      have u3 := ups L3.2.2.2.2
      go_wp2_with fail
      refine (HM.out _).mono ?_
      rintro e w' ⟨rfl, rfl⟩
      rw [hmay.out]
      go_wp2_with fail
      refine (HK.out _).mono ?_
      rintro e w4 ⟨rfl, k4⟩
      go_wp2_with fail
      go_ret
      exact ⟨rfl, ((K2.trans k3).alloc _).trans k4⟩
end Go.Proofs.Ytbgojgnbbkgkgaa
