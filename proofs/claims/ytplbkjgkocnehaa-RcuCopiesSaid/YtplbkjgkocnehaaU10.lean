/- Walks: what was retired compared. -/
import Derived.Test.YtplbkjgkocnehaaU9
namespace Go.Proofs.Ytplbkjgkocnehaa
set_option linter.unusedSimpArgs false
set_option linter.unusedVariables false
open Go.RowKit
attribute [local go_sem ↓] Go.wp_at_zero Go.wp_at_succ
set_option maxRecDepth 100000 in
set_option maxHeartbeats 4000000 in
theorem sameone_any {w : World} {a b c a' b' c' : Value} {x y : Ret} (hx : SlS w a b c x) (hy : SlS w a' b' c' y) (fx : x.few) (fy : y.few) :
    Calls Try.prog 24 #[.agg #[a, b, c], .agg #[a', b', c']] w fun e w' => e = .returned (.bool (decide (x = y))) ∧ Kp NoB w w' := by
  obtain ⟨x1, x2, x3⟩ := id fx
  obtain ⟨y1, y2, y3⟩ := id fy
  have HA := hid (fun W (k : Kp NoB w W) => samelist_any (hx.a.kn k) (hy.a.kn k) (by omega) (by omega))
  have HB := hid (fun W (k : Kp NoB w W) => samelist_any (hx.b.kn k) (hy.b.kn k) (by omega) (by omega))
  have HC := hid (fun W (k : Kp NoB w W) => samelist_any (hx.c.kn k) (hy.c.kn k) (by omega) (by omega))
  obtain ⟨oa, ca, rfl, _⟩ := hx.a.form
  obtain ⟨ob, cb, rfl, _⟩ := hx.b.form
  obtain ⟨oc, cc, rfl, _⟩ := hx.c.form
  obtain ⟨oa', ca', rfl, _⟩ := hy.a.form
  obtain ⟨ob', cb', rfl, _⟩ := hy.b.form
  obtain ⟨oc', cc', rfl, _⟩ := hy.c.form
  clear hx hy fx fy
  have B1 := hid (show ((w.alloc (.cells #[.slice oa x.a.length ca, .slice ob x.b.length cb, .slice oc x.c.length cc] 35)).alloc (.cells #[.slice oa' y.a.length ca', .slice ob' y.b.length cb', .slice oc' y.c.length cc'] 35)).heap[w.heap.size]? = some (.cells #[.slice oa x.a.length ca, .slice ob x.b.length cb, .slice oc x.c.length cc] 35 (0, 0)) from blk_alloc (blk_new w _))
  have B2 := hid (show ((w.alloc (.cells #[.slice oa x.a.length ca, .slice ob x.b.length cb, .slice oc x.c.length cc] 35)).alloc (.cells #[.slice oa' y.a.length ca', .slice ob' y.b.length cb', .slice oc' y.c.length cc'] 35)).heap[w.heap.size + 1]? = some (.cells #[.slice oa' y.a.length ca', .slice ob' y.b.length cb', .slice oc' y.c.length cc'] 35 (0, 0)) from blk_new' _ _ (by simp))
  have K0 := hid (((Kp.refl NoB w).alloc (.cells #[.slice oa x.a.length ca, .slice ob x.b.length cb, .slice oc x.c.length cc] 35)).alloc (.cells #[.slice oa' y.a.length ca', .slice ob' y.b.length cb', .slice oc' y.c.length cc'] 35))
  by_cases h1 : x.a = y.a
  · by_cases h2 : x.b = y.b
    · by_cases h3 : x.c = y.c
      · have hxy : x = y := by cases x; cases y; simp_all
        have hd := hid (decide_eq_true hxy)
        rw [decide_eq_true h1] at HA
        rw [decide_eq_true h2] at HB
        rw [decide_eq_true h3] at HC
        clear h1 h2 h3 hxy
        go_enter Try.func24, Try.ntmps24
        go_wp2_with fail
        generalize ((w.alloc (.cells #[.slice oa x.a.length ca, .slice ob x.b.length cb, .slice oc x.c.length cc] 35)).alloc (.cells #[.slice oa' y.a.length ca', .slice ob' y.b.length cb', .slice oc' y.c.length cc'] 35)) = W0 at *
        have M1 := loc3 B1.out
        have M2 := loc3 B2.out
        go_wp2_with fail
        refine (HA.out _ K0.out).mono ?_
        rintro e w1 ⟨rfl, k1⟩
        have K1 := hid (K0.out.trans k1)
        have B11 := hid (k1.get B1.out (fun h => h))
        have B21 := hid (k1.get B2.out (fun h => h))
        have M11 := loc3 B11.out
        have M21 := loc3 B21.out
        clear M1 M2 k1
        go_wp2_with fail
        refine (HB.out _ K1.out).mono ?_
        rintro e w2 ⟨rfl, k2⟩
        have K2 := hid (K1.out.trans k2)
        have M12 := loc3 (k2.get B11.out (fun h => h))
        have M22 := loc3 (k2.get B21.out (fun h => h))
        clear M11 M21 k2
        go_wp2_with fail
        refine (HC.out _ K2.out).mono ?_
        rintro e w3 ⟨rfl, k3⟩
        have K3 := hid (K2.out.trans k3)
        clear M12 M22 k3
        go_wp2_with fail
        go_ret
        exact ⟨by rw [hd.out]; rfl, K3.out⟩
      · have hxy : x ≠ y := fun e => h3 (by rw [e])
        have hd := hid (decide_eq_false hxy)
        rw [decide_eq_true h1] at HA
        rw [decide_eq_true h2] at HB
        rw [decide_eq_false h3] at HC
        clear h1 h2 h3 hxy
        go_enter Try.func24, Try.ntmps24
        go_wp2_with fail
        generalize ((w.alloc (.cells #[.slice oa x.a.length ca, .slice ob x.b.length cb, .slice oc x.c.length cc] 35)).alloc (.cells #[.slice oa' y.a.length ca', .slice ob' y.b.length cb', .slice oc' y.c.length cc'] 35)) = W0 at *
        have M1 := loc3 B1.out
        have M2 := loc3 B2.out
        go_wp2_with fail
        refine (HA.out _ K0.out).mono ?_
        rintro e w1 ⟨rfl, k1⟩
        have K1 := hid (K0.out.trans k1)
        have B11 := hid (k1.get B1.out (fun h => h))
        have B21 := hid (k1.get B2.out (fun h => h))
        have M11 := loc3 B11.out
        have M21 := loc3 B21.out
        clear M1 M2 k1
        go_wp2_with fail
        refine (HB.out _ K1.out).mono ?_
        rintro e w2 ⟨rfl, k2⟩
        have K2 := hid (K1.out.trans k2)
        have M12 := loc3 (k2.get B11.out (fun h => h))
        have M22 := loc3 (k2.get B21.out (fun h => h))
        clear M11 M21 k2
        go_wp2_with fail
        refine (HC.out _ K2.out).mono ?_
        rintro e w3 ⟨rfl, k3⟩
        have K3 := hid (K2.out.trans k3)
        clear M12 M22 k3
        go_wp2_with fail
        go_ret
        exact ⟨by rw [hd.out]; rfl, K3.out⟩
    · have hxy : x ≠ y := fun e => h2 (by rw [e])
      have hd := hid (decide_eq_false hxy)
      rw [decide_eq_true h1] at HA
      rw [decide_eq_false h2] at HB
      clear h1 h2 hxy HC
      go_enter Try.func24, Try.ntmps24
      go_wp2_with fail
      generalize ((w.alloc (.cells #[.slice oa x.a.length ca, .slice ob x.b.length cb, .slice oc x.c.length cc] 35)).alloc (.cells #[.slice oa' y.a.length ca', .slice ob' y.b.length cb', .slice oc' y.c.length cc'] 35)) = W0 at *
      have M1 := loc3 B1.out
      have M2 := loc3 B2.out
      go_wp2_with fail
      refine (HA.out _ K0.out).mono ?_
      rintro e w1 ⟨rfl, k1⟩
      have K1 := hid (K0.out.trans k1)
      have M11 := loc3 (k1.get B1.out (fun h => h))
      have M21 := loc3 (k1.get B2.out (fun h => h))
      clear M1 M2 k1
      go_wp2_with fail
      refine (HB.out _ K1.out).mono ?_
      rintro e w2 ⟨rfl, k2⟩
      have K2 := hid (K1.out.trans k2)
      clear M11 M21 k2
      go_wp2_with fail
      go_ret
      exact ⟨by rw [hd.out]; rfl, K2.out⟩
  · have hxy : x ≠ y := fun e => h1 (by rw [e])
    have hd := hid (decide_eq_false hxy)
    rw [decide_eq_false h1] at HA
    clear h1 hxy HB HC
    go_enter Try.func24, Try.ntmps24
    go_wp2_with fail
    generalize ((w.alloc (.cells #[.slice oa x.a.length ca, .slice ob x.b.length cb, .slice oc x.c.length cc] 35)).alloc (.cells #[.slice oa' y.a.length ca', .slice ob' y.b.length cb', .slice oc' y.c.length cc'] 35)) = W0 at *
    have M1 := loc3 B1.out
    have M2 := loc3 B2.out
    go_wp2_with fail
    refine (HA.out _ K0.out).mono ?_
    rintro e w1 ⟨rfl, k1⟩
    have K1 := hid (K0.out.trans k1)
    clear M1 M2 k1
    go_wp2_with fail
    go_ret
    exact ⟨by rw [hd.out]; rfl, K1.out⟩
end Go.Proofs.Ytplbkjgkocnehaa
