/- What is refused changes nothing: the plain law, and the law's walk at any acts. -/
import Derived.Test.YtaghkgddnjdjcaaQ15
namespace Go.Proofs.Ytaghkgddnjdjcaa
set_option linter.unusedSimpArgs false
set_option linter.unusedVariables false
open Go.RowKit
attribute [local go_sem ↓] Go.wp_at_zero Go.wp_at_succ

theorem actU_turns {u : List (Int × Int)} {lk lb what i j m1 m2 : Int} (h : actU u lk lb what i j m1 m2 ≠ u) : 1 ≤ what ∧ what ≤ 4 ∧ hasB u.length i = true := by
  by_cases hh : hasB u.length i = true
  · refine ⟨?_, ?_, hh⟩
    · apply Classical.byContradiction
      intro hc
      apply h
      unfold actU
      rw [if_neg (by omega), if_neg (by omega), if_neg (by omega), if_neg (by omega)]
    · apply Classical.byContradiction
      intro hc
      apply h
      unfold actU
      rw [if_neg (by omega), if_neg (by omega), if_neg (by omega), if_neg (by omega)]
  · exfalso
    have hh' : hasB u.length i = false := by simpa using hh
    apply h
    unfold actU
    rw [putU_no hh', putU_no hh', putU_no hh']
    have : moveU u lk lb i j m1 m2 = u := by
      unfold moveU moveE
      rw [hh']; simp
    rw [this]
    repeat' split
    all_goals rfl
theorem ActsAt.up {w : World} {B B' : Nat} {x : Option Addr} {len : Nat} {L : List A5} (h : ActsAt w B x len L) (hB : B ≤ B') : ActsAt w B' x len L := by
  refine ⟨h.ln, h.mx, h.wf, fun i z hz => ?_⟩
  obtain ⟨y, hx, hy, r⟩ := h.at_ i z hz
  exact ⟨y, hx, by omega, r⟩
theorem ActsAt.alloc {w : World} {x : Option Addr} {len : Nat} {L : List A5} (h : ActsAt w w.heap.size x len L) (o : Obj) : ActsAt (w.alloc o) (w.alloc o).heap.size x len L :=
  (h.kp ((Kp.refl NoB w).alloc o) (Nat.le_refl _) (fun _ f => f.elim)).up (by simp)

section
open Go.ChangeShapes Go.WideShapes Go.Deep
variable {H : Type} {enc : TypeId × Value → H} {w : World} {base : Nat} {spare : Nat → Bool} {held : Bool}
theorem act_of {r : Reach} {b0 : Nat} {v : Value} {d : DataW H} {p : List MemPlace} (hv : Value.okWide Try.prog w r b0 30 v) (h : DataW.Trod enc Try.prog w base spare held 30 v d p) :
    ∃ z : A5, v = actV z.k z.a z.b z.n z.m ∧ B64 z.n ∧ B64 z.m := by
  obtain ⟨cs, rfl, hl, n, hf⟩ := open_val Try.underlying30 (by kernel_rfl) (by kernel_rfl) hv h
  obtain ⟨v0, z0, c0, t0⟩ := hf 0 _ rfl
  obtain ⟨v1, z1, c1, t1⟩ := hf 1 _ rfl
  obtain ⟨v2, z2, c2, t2⟩ := hf 2 _ rfl
  obtain ⟨v3, z3, c3, t3⟩ := hf 3 _ rfl
  obtain ⟨v4, z4, c4, t4⟩ := hf 4 _ rfl
  obtain ⟨n0, e0, _, f0⟩ := DataW.trod_int Try.underlying3 t0
  obtain ⟨n1, e1, _, f1⟩ := DataW.trod_int Try.underlying3 t1
  obtain ⟨n2, e2, _, f2⟩ := DataW.trod_int Try.underlying3 t2
  obtain ⟨n3, e3, _, f3⟩ := DataW.trod_int Try.underlying22 t3
  obtain ⟨n4, e4, _, f4⟩ := DataW.trod_int Try.underlying22 t4
  injection e0 with e0 _; injection e1 with e1 _; injection e2 with e2 _; injection e3 with e3 _; injection e4 with e4 _
  subst e0; subst e1; subst e2; subst e3; subst e4
  refine ⟨⟨n0, n1, n2, n3, n4⟩, ?_, wf_u64 f3, wf_u64 f4⟩
  match cs, hl with
  | [x0, x1, x2, x3, x4], _ =>
    simp at c0 c1 c2 c3 c4
    subst c0; subst c1; subst c2; subst c3; subst c4
    rfl
end

set_option maxRecDepth 100000 in
set_option maxHeartbeats 8000000 in
theorem refused_any {w : World} (n k b : Int) (x : Option Addr) (len cap : Nat) (L : List A5) (what i j m1 m2 : Int) (hk : 0 ≤ k) (hb : 0 ≤ b) (hm1 : B64 m1) (hm2 : B64 m2) (hL : ActsAt w w.heap.size x len L) :
   Calls Try.prog 6 #[.int .i64 n, .int .u64 k, .int .u64 b, .slice x len cap, actV what i j m1 m2] w fun e w' => e = .returned (.bool true) ∧ Kp NoB w w' := by
  unfold actV
  have HK := hid known_any
  have K0 : Kp NoB w (w.alloc (.cells #[.int .i64 what, .int .i64 i, .int .i64 j, .int .u64 m1, .int .u64 m2] 30)) := (Kp.refl _ w).alloc _
  by_cases hn : newB n k b = true
  · have H1 := hid (fun (w : World) => ran_bad (w := w) n k b x len cap 300 hn)
    go_enter Try.func6, Try.ntmps6
    go_wp2_with fail
    refine (H1.out _).mono ?_
    rintro e w1 ⟨rfl, k1⟩
    go_wp2_with fail
    refine (HK.out _).mono ?_
    rintro e w2 ⟨rfl, k2⟩
    go_wp2_with fail
    go_ret
    exact ⟨rfl, (K0.trans k1).trans k2⟩
  · have hn' : newB n k b = false := by simpa using hn
    clear hn
    by_cases hl : len > 300
    · have H1 := hid (fun (w : World) => ran_long (w := w) n k b x len cap 300 hn' (by omega))
      go_enter Try.func6, Try.ntmps6
      go_wp2_with fail
      refine (H1.out _).mono ?_
      rintro e w1 ⟨rfl, k1⟩
      go_wp2_with fail
      refine (HK.out _).mono ?_
      rintro e w2 ⟨rfl, k2⟩
      go_wp2_with fail
      go_ret
      exact ⟨rfl, (K0.trans k1).trans k2⟩
    · obtain ⟨m, rfl, h1, h2, h3, h4⟩ := newB_no hn'
      have H1 := hid (ran_good m k b x len cap L 300 hk hb h1 h2 h3 h4 (by omega) (hL.alloc (.cells #[.int .i64 what, .int .i64 i, .int .i64 j, .int .u64 m1, .int .u64 m2] 30)))
      have N0 := blk_new w (.cells #[.int .i64 what, .int .i64 i, .int .i64 j, .int .u64 m1, .int .u64 m2] 30)
      have N0 := hid N0
      clear hn' hL
      go_enter Try.func6, Try.ntmps6
      go_wp2_with fail
      refine H1.out.mono ?_
      rintro e w1 ⟨p, bb, r, a, c, u, rfl, g1, g2, g3, g4, g5, q1, r1, o1, ul, k1⟩
      simp only [World.size_alloc] at g1 g2 g3 g4 g5
      go_wp2_with fail
      refine (rcopy_any r1 o1).mono ?_
      rintro e w2 ⟨r', a', c', rfl, g6, g7, g8, r2, k2⟩
      have q2 := q1.kp k2 (fun h => h) (fun h => h)
      have r2' := r1.kp k2 (fun h => h) (fun h => h) (fun h => h)
      have l1 := q1.lt
      have l2 := r1.lt
      have N2 := hid (k2.get (k1.get N0.out (fun h => h)) (fun h => h))
      have Ln := loc5 N2.out
      go_wp2_with fail
      refine (do_any what i j m1 m2 q2 r2' o1 hm1 hm2).mono ?_
      rintro e w3 ⟨rfl, q3, r3, k3⟩
      have o3 := actU_ok o1 what i j m1 m2 hm1.1 hm2.1
      have N3 := hid (k3.get N2.out (by unfold TwoF; omega))
      have r3' := r2.kp k3 (by unfold TwoF; omega) (by unfold TwoF; omega) (by unfold TwoF; omega)
      have K3 : Kp NoB w w3 := ((K0.trans k1).trans k2).trans' k3 (fun q hq hf => by unfold TwoF at hf; omega)
      have ul3 := (actU_len u k b what i j m1 m2).trans ul
      go_wp2_with fail
      refine (same_any q3 r3 o3).mono ?_
      rintro e w4 ⟨rfl, k4⟩
      have r4 := r3.kp k4 (fun h => h) (fun h => h) (fun h => h)
      have r4' := r3'.kp k4 (fun h => h) (fun h => h) (fun h => h)
      have N4 := hid (k4.get N3.out (fun h => h))
      have q4 := q3.kp k4 (fun h => h) (fun h => h)
      have K4 := K3.trans k4
      go_wp2_with fail
      refine (rsame_any r4 r4' o3.n2 (by rw [ul3, ul])).mono ?_
      rintro e w5 ⟨rfl, k5⟩
      have N5 := hid (k5.get N4.out (fun h => h))
      have r5 := r4.kp k5 (fun h => h) (fun h => h) (fun h => h)
      have K5 := K4.trans k5
      by_cases hD : actU u k b what i j m1 m2 = u
      · rw [hD, decide_eq_true rfl]
        clear Ln
        go_wp2_with fail
        refine (HK.out _).mono ?_
        rintro e w6 ⟨rfl, k6⟩
        go_wp2_with fail
        go_ret
        exact ⟨rfl, K5.trans k6⟩
      · obtain ⟨d1, d2, d3⟩ := actU_turns hD
        rw [decide_eq_false hD]
        have HD := hid (show hasB (actU u k b what i j m1 m2).length i = true from by rw [ul3, ← ul]; exact d3)
        have L5 := loc5 N5.out
        clear Ln d3 hD
        go_wp2_with fail
        refine (rhas_any i r5).mono ?_
        rintro e w6 ⟨rfl, rfl⟩
        rw [HD.out]
        go_wp2_with fail
        refine (HK.out _).mono ?_
        rintro e w6 ⟨rfl, k6⟩
        go_wp2_with fail
        go_ret
        exact ⟨rfl, K5.trans k6⟩
end Go.Proofs.Ytaghkgddnjdjcaa
