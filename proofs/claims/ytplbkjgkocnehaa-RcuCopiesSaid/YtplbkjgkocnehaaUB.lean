/- Joined: U39 U40 U41. -/
import Derived.Test.YtplbkjgkocnehaaUA
import Derived.Test.YtplbkjgkocnehaaU10
import Derived.Test.YtplbkjgkocnehaaU25
namespace Go.Proofs.Ytplbkjgkocnehaa
set_option linter.unusedSimpArgs false
set_option linter.unusedVariables false
open Go.RowKit Go.Shelf
attribute [local go_sem ↓] Go.wp_at_zero Go.wp_at_succ
theorem box4 {W : World} {b : Nat} {t : TypeId} {a0 a1 a2 a3 : Value} (h : W.heap[b]? = some (.cells #[a0, a1, a2, a3] t (0, 0))) : W.cell? ⟨b, 0, none⟩ = some a0 ∧ W.cell? ⟨b, 1, none⟩ = some a1 ∧ W.cell? ⟨b, 2, none⟩ = some a2 ∧ W.cell? ⟨b, 3, none⟩ = some a3 := by
  refine ⟨?_, ?_, ?_, ?_⟩ <;> rw [cell_of h] <;> rfl
section
variable {w w' : World} {n : Nat} {h1 h2 : HV} {x y : Ret} {ws1 ws2 : List Nat}
set_option maxRecDepth 100000 in
set_option maxHeartbeats 8000000 in
theorem heldsame_any (k1 : HOk w h1 x ws1) (k2 : HOk w h2 y ws2) (f1 : x.few) (f2 : y.few) (n8 : n ≤ 8) (p1 : ws1.Pairwise (· < ·)) (q1 : ∀ t ∈ ws1, t < n) (p2 : ws2.Pairwise (· < ·)) (q2 : ∀ t ∈ ws2, t < n) :
    Calls Try.prog 48 #[.agg #[h1.a, h1.b, h1.c, .map (some h1.m)], .agg #[h2.a, h2.b, h2.c, .map (some h2.m)]] w fun e w' => e = .returned (.bool (decide ((x, ws1) = (y, ws2)))) ∧ Kp NoB w w' := by
  obtain ⟨x1, x2, x3⟩ := id f1
  obtain ⟨y1, y2, y3⟩ := id f2
  have HA := hid (fun W (k : Kp NoB w W) => equalH_any ((⟨k1.a, k1.b, k1.c⟩ : RowR w _ _ _ x).kn k).ss.a ((⟨k2.a, k2.b, k2.c⟩ : RowR w _ _ _ y).kn k).ss.a (by omega) (by omega))
  have HB := hid (fun W (k : Kp NoB w W) => equalH_any ((⟨k1.a, k1.b, k1.c⟩ : RowR w _ _ _ x).kn k).ss.b ((⟨k2.a, k2.b, k2.c⟩ : RowR w _ _ _ y).kn k).ss.b (by omega) (by omega))
  have HC := hid (fun W (k : Kp NoB w W) => equalH_any ((⟨k1.a, k1.b, k1.c⟩ : RowR w _ _ _ x).kn k).ss.c ((⟨k2.a, k2.b, k2.c⟩ : RowR w _ _ _ y).kn k).ss.c (by omega) (by omega))
  have HM := hid (fun W (k : Kp NoB w W) => mequal_any (k1.m.kp k (fun h => h)) (k2.m.kp k (fun h => h)) n8 p1 q1 p2 q2)
  obtain ⟨o1, c1, e1, _⟩ := k1.a.form
  obtain ⟨o2, c2, e2, _⟩ := k1.b.form
  obtain ⟨o3, c3, e3, _⟩ := k1.c.form
  obtain ⟨o4, c4, e4, _⟩ := k2.a.form
  obtain ⟨o5, c5, e5, _⟩ := k2.b.form
  obtain ⟨o6, c6, e6, _⟩ := k2.c.form
  obtain ⟨h1a, h1b, h1c, m1⟩ := h1
  obtain ⟨h2a, h2b, h2c, m2⟩ := h2
  dsimp only at e1 e2 e3 e4 e5 e6 HA HB HC HM ⊢
  subst e1; subst e2; subst e3; subst e4; subst e5; subst e6
  have B1 := hid (blk_alloc (o' := .cells #[.slice o4 y.a.length c4, .slice o5 y.b.length c5, .slice o6 y.c.length c6, .map (some m2)] 74) (blk_new w (.cells #[.slice o1 x.a.length c1, .slice o2 x.b.length c2, .slice o3 x.c.length c3, .map (some m1)] 74)))
  have B2 := hid (show ((w.alloc (.cells #[.slice o1 x.a.length c1, .slice o2 x.b.length c2, .slice o3 x.c.length c3, .map (some m1)] 74)).alloc (.cells #[.slice o4 y.a.length c4, .slice o5 y.b.length c5, .slice o6 y.c.length c6, .map (some m2)] 74)).heap[w.heap.size + 1]? = some (.cells #[.slice o4 y.a.length c4, .slice o5 y.b.length c5, .slice o6 y.c.length c6, .map (some m2)] 74 (0, 0)) from blk_new' _ _ (by simp))
  have K0 := hid (((Kp.refl NoB w).alloc (.cells #[.slice o1 x.a.length c1, .slice o2 x.b.length c2, .slice o3 x.c.length c3, .map (some m1)] 74)).alloc (.cells #[.slice o4 y.a.length c4, .slice o5 y.b.length c5, .slice o6 y.c.length c6, .map (some m2)] 74))
  clear k1 k2 f1 f2
  have hne : ∀ (h : ¬ (x.a = y.a ∧ x.b = y.b ∧ x.c = y.c ∧ ws1 = ws2)), decide ((x, ws1) = (y, ws2)) = false := fun h => decide_eq_false (fun e => h (by injection e with e e2; subst e; exact ⟨rfl, rfl, rfl, e2⟩))
  have heq : ∀ (h : x.a = y.a ∧ x.b = y.b ∧ x.c = y.c ∧ ws1 = ws2), decide ((x, ws1) = (y, ws2)) = true := fun h => decide_eq_true (by
    obtain ⟨a, b, c⟩ := x
    obtain ⟨a', b', c'⟩ := y
    obtain ⟨e1, e2, e3, e4⟩ := h
    dsimp only at e1 e2 e3
    subst e1; subst e2; subst e3; subst e4; rfl)
  replace hne := hne
  go_enter Try.func48, Try.ntmps48
  go_wp2_with fail
  generalize ((w.alloc (.cells #[.slice o1 x.a.length c1, .slice o2 x.b.length c2, .slice o3 x.c.length c3, .map (some m1)] 74)).alloc (.cells #[.slice o4 y.a.length c4, .slice o5 y.b.length c5, .slice o6 y.c.length c6, .map (some m2)] 74)) = W0 at *
  have KK := hid K0.out
  have L1 := box4 B1.out
  have L2 := box4 B2.out
  refine (HA.out _ KK.out).mono ?_
  rintro e w1 ⟨rfl, kn⟩
  by_cases hq0 : x.a = y.a
  · rw [decide_eq_true hq0]
    replace hq0 := hid hq0
    have B1n := hid (kn.get B1.out (fun h => h))
    have B2n := hid (kn.get B2.out (fun h => h))
    replace B1 := B1n
    replace B2 := B2n
    clear B1n B2n L1 L2
    have L1 := box4 B1.out
    have L2 := box4 B2.out
    replace KK := hid (KK.out.trans kn)
    clear kn
    go_wp2_with fail
    refine (HB.out _ KK.out).mono ?_
    rintro e w2 ⟨rfl, kn⟩
    by_cases hq1 : x.b = y.b
    · rw [decide_eq_true hq1]
      replace hq1 := hid hq1
      have B1n := hid (kn.get B1.out (fun h => h))
      have B2n := hid (kn.get B2.out (fun h => h))
      replace B1 := B1n
      replace B2 := B2n
      clear B1n B2n L1 L2
      have L1 := box4 B1.out
      have L2 := box4 B2.out
      replace KK := hid (KK.out.trans kn)
      clear kn
      go_wp2_with fail
      refine (HC.out _ KK.out).mono ?_
      rintro e w3 ⟨rfl, kn⟩
      by_cases hq2 : x.c = y.c
      · rw [decide_eq_true hq2]
        replace hq2 := hid hq2
        have B1n := hid (kn.get B1.out (fun h => h))
        have B2n := hid (kn.get B2.out (fun h => h))
        replace B1 := B1n
        replace B2 := B2n
        clear B1n B2n L1 L2
        have L1 := box4 B1.out
        have L2 := box4 B2.out
        replace KK := hid (KK.out.trans kn)
        clear kn
        go_wp2_with fail
        refine (HM.out _ KK.out).mono ?_
        rintro e w4 ⟨rfl, kn⟩
        by_cases hq3 : ws1 = ws2
        · rw [decide_eq_true hq3]
          replace hq3 := hid hq3
          have hf := hid (heq ⟨hq0.out, hq1.out, hq2.out, hq3.out⟩)
          go_wp2_with fail
          go_ret
          exact ⟨by rw [hf.out]; rfl, KK.out.trans kn⟩
        · rw [decide_eq_false hq3]
          have hf := hid (hne (fun h => hq3 h.2.2.2))
          clear hq3
          go_wp2_with fail
          go_ret
          exact ⟨by rw [hf.out]; rfl, KK.out.trans kn⟩
      · rw [decide_eq_false hq2]
        have hf := hid (hne (fun h => hq2 h.2.2.1))
        clear hq2
        go_wp2_with fail
        go_ret
        exact ⟨by rw [hf.out]; rfl, KK.out.trans kn⟩
    · rw [decide_eq_false hq1]
      have hf := hid (hne (fun h => hq1 h.2.1))
      clear hq1
      go_wp2_with fail
      go_ret
      exact ⟨by rw [hf.out]; rfl, KK.out.trans kn⟩
  · rw [decide_eq_false hq0]
    have hf := hid (hne (fun h => hq0 h.1))
    clear hq0
    go_wp2_with fail
    go_ret
    exact ⟨by rw [hf.out]; rfl, KK.out.trans kn⟩
end
open Go.RowKit Go.Shelf
attribute [local go_sem ↓] Go.wp_at_zero Go.wp_at_succ
section
variable {w w' : World} {p p2 : Nat} {u v u2 v2 : Value} {D D2 : List Nat} {H H2 : List HV} {R R2 : List (Ret × List Nat)} {K K2 : Nat}
set_option maxRecDepth 100000 in
set_option maxHeartbeats 8000000 in
theorem equalf_any (A : UAt w p u v D H R) (B : UAt w p2 u2 v2 D2 H2 R2) (oA : UOk D R K) (oB : UOk D2 R2 K2) (hD : D.length = D2.length) :
    Calls Try.prog 47 #[v, v2, .func (.func 48) #[] #[]] w fun e w' => e = .returned (.bool (decide (R = R2))) ∧ Kp NoB w w' := by
  have A0 := hid A
  have B0 := hid B
  have OA := hid oA
  have OB := hid oB
  have hDD := hid hD
  obtain ⟨ox, cx, hv1, hc1, _⟩ := A.hv.form
  obtain ⟨oy, cy, hv2, hc2, _⟩ := B.hv.form
  rw [A.hl] at hv1 hc1
  rw [B.hl] at hv2 hc2
  subst hv1; subst hv2
  have r1 : R.length ≤ 1000 := Nat.le_trans oA.r oA.k
  clear A B oA oB hD
  by_cases hl : R.length = R2.length
  · have e1 : ((R.length : Int) == (R2.length : Int)) = true := by simp; omega
    have e2 : ((R.length : Int) != (R2.length : Int)) = false := by simp; omega
    replace hl := hid hl
    go_enter Try.func47, Try.ntmps47
    go_wp2_with fail
    go_loopw [17] (fun i W => ∃ j : Nat, j ≤ R.length ∧ i = .int .i64 j ∧ Hid (R.take j = R2.take j) ∧ Kp NoB w W) (fun i _ => R.length - (intOf i).toNat)
    case atStart => exact ⟨0, Nat.zero_le _, rfl, hid (by simp), Kp.refl _ _⟩
    case round =>
      obtain ⟨j, hj, rfl, hT, hK⟩ := hrel
      have d1 : (0 : Int) ≤ (j : Int) := Int.natCast_nonneg _
      by_cases hlt : j < R.length
      · have d2 : (j : Int) < (R.length : Int) := by omega
        have d3 : (j : Int) < (R2.length : Int) := by have := hl.out; omega
        have hA := A0.out.kn hK
        have hB := B0.out.kn hK
        obtain ⟨⟨x, ws1⟩, ha⟩ : ∃ a, R[j]? = some a := ⟨_, List.getElem?_eq_getElem hlt⟩
        obtain ⟨⟨y, ws2⟩, hb⟩ : ∃ b, R2[j]? = some b := ⟨_, List.getElem?_eq_getElem (by have := hl.out; omega)⟩
        obtain ⟨h1, hh1⟩ : ∃ h', H[j]? = some h' := ⟨_, List.getElem?_eq_getElem (by rw [hA.hl]; exact hlt)⟩
        obtain ⟨h2, hh2⟩ : ∃ h', H2[j]? = some h' := ⟨_, List.getElem?_eq_getElem (by rw [hB.hl]; have := hl.out; omega)⟩
        have k1 := hA.hh j h1 x ws1 hh1 ha
        have k2 := hB.hh j h2 y ws2 hh2 hb
        obtain ⟨b1, o1, c1, ev1, _, _, lb1, La0, La1, La2, La3⟩ := held_cells hA.hv hh1
        obtain ⟨b2, o2, c2, ev2, _, _, lb2, Lb0, Lb1, Lb2, Lb3⟩ := held_cells hB.hv hh2
        rw [hA.hl] at ev1
        rw [hB.hl] at ev2
        injection ev1 with ea eb ec
        subst ea; subst ec
        clear eb
        injection ev2 with ea eb ec
        subst ea; subst ec
        clear eb
        have w1 := OA.out.w x ws1 (List.mem_of_getElem? ha)
        have w2 := OB.out.w y ws2 (List.mem_of_getElem? hb)
        have f1 := OA.out.x x ws1 (List.mem_of_getElem? ha)
        have f2 := OB.out.x y ws2 (List.mem_of_getElem? hb)
        have HS := hid (fun W (k : Kp NoB wr W) => heldsame_any (n := D2.length) (k1.kp k (fun _ _ h => h)) (k2.kp k (fun _ _ h => h)) f1 f2 OB.out.n8 w1.1 (hDD.out ▸ w1.2) w2.1 w2.2)
        have HC := hid (fun W (k : Kp NoB wr W) => (⟨(cell_blk (k.blk b2 lb2 (fun h => h))).trans Lb0, (cell_blk (k.blk b2 lb2 (fun h => h))).trans Lb1, (cell_blk (k.blk b2 lb2 (fun h => h))).trans Lb2, (cell_blk (k.blk b2 lb2 (fun h => h))).trans Lb3⟩ : W.cell? ⟨b2, o2 + j * 4, none⟩ = some h2.a ∧ W.cell? ⟨b2, o2 + j * 4 + 1, none⟩ = some h2.b ∧ W.cell? ⟨b2, o2 + j * 4 + 2, none⟩ = some h2.c ∧ W.cell? ⟨b2, o2 + j * 4 + 3, none⟩ = some (.map (some h2.m))))
        obtain ⟨ha1, hb1, hc1', m1⟩ := h1
        obtain ⟨ha2, hb2, hc2', m2⟩ := h2
        obtain ⟨p1, s1, e3, _⟩ := k1.a.form
        obtain ⟨p2', s2, e4, _⟩ := k1.b.form
        obtain ⟨p3, s3, e5, _⟩ := k1.c.form
        obtain ⟨p4, s4, e6, _⟩ := k2.a.form
        obtain ⟨p5, s5, e7, _⟩ := k2.b.form
        obtain ⟨p6, s6, e8, _⟩ := k2.c.form
        dsimp only at e3 e4 e5 e6 e7 e8 La0 La1 La2 La3 Lb0 Lb1 Lb2 Lb3 HS HC
        subst e3; subst e4; subst e5; subst e6; subst e7; subst e8
        have K1 := hid ((Kp.refl NoB wr).alloc (.cells #[.slice p1 x.a.length s1, .slice p2' x.b.length s2, .slice p3 x.c.length s3, .map (some m1)] 74))
        have C1 := HC.out _ K1.out
        have B1 := hid (blk_alloc (o' := .cells #[.slice p4 y.a.length s4, .slice p5 y.b.length s5, .slice p6 y.c.length s6, .map (some m2)] 74) (blk_new wr (.cells #[.slice p1 x.a.length s1, .slice p2' x.b.length s2, .slice p3 x.c.length s3, .map (some m1)] 74)))
        have B2 := hid (show ((wr.alloc (.cells #[.slice p1 x.a.length s1, .slice p2' x.b.length s2, .slice p3 x.c.length s3, .map (some m1)] 74)).alloc (.cells #[.slice p4 y.a.length s4, .slice p5 y.b.length s5, .slice p6 y.c.length s6, .map (some m2)] 74)).heap[wr.heap.size + 1]? = some (.cells #[.slice p4 y.a.length s4, .slice p5 y.b.length s5, .slice p6 y.c.length s6, .map (some m2)] 74 (0, 0)) from blk_new' _ _ (by simp))
        have L1 := box4 B1.out
        have L2 := box4 B2.out
        have K2' := hid (K1.out.alloc (.cells #[.slice p4 y.a.length s4, .slice p5 y.b.length s5, .slice p6 y.c.length s6, .map (some m2)] 74))
        replace hA := hid hA
        replace hB := hid hB
        replace k1 := hid k1
        replace k2 := hid k2
        replace hK := hid hK
        replace hh1 := hid hh1
        replace hh2 := hid hh2
        replace ha := hid ha
        replace hb := hid hb
        replace w1 := hid w1
        replace w2 := hid w2
        replace f1 := hid f1
        replace f2 := hid f2
        go_wp2_with fail
        refine (HS.out _ K2'.out).mono ?_
        rintro e w5 ⟨rfl, k5⟩
        have K5 := hid ((hK.out.trans K2'.out).trans k5)
        clear k5
        by_cases hq : (x, ws1) = (y, ws2)
        · rw [decide_eq_true hq]
          have hT' := hid (take_next hT.out ha.out (hq ▸ hb.out))
          clear hq
          go_wp2_with fail
          go_roundw
          case rel => exact ⟨j + 1, by omega, by go_num, hT', K5.out⟩
          case measure => simp [intOf]; omega
        · rw [decide_eq_false hq]
          have hne := hid (ne_at ha.out hb.out hq)
          clear hq
          go_wp2_with fail
          go_ret
          exact ⟨by rw [decide_eq_false hne.out]; rfl, K5.out⟩
      · obtain rfl : j = R.length := by omega
        replace hK := hid hK
        have hlm := hid (take_end hT.out hl.out)
        go_wp2_with fail
        go_ret
        exact ⟨by rw [decide_eq_true hlm.out]; rfl, hK.out⟩
  · have e1 : ((R.length : Int) == (R2.length : Int)) = false := by simp; omega
    have e2 : ((R.length : Int) != (R2.length : Int)) = true := by simp; omega
    have hne := hid (show R ≠ R2 from fun h => hl (by rw [h]))
    clear hl
    go_enter Try.func47, Try.ntmps47
    go_wp2_with fail
    go_ret
    exact ⟨by rw [decide_eq_false hne.out]; rfl, Kp.refl _ w⟩
end
open Go.RowKit Go.Shelf
attribute [local go_sem ↓] Go.wp_at_zero Go.wp_at_succ
theorem row_int {w : World} {v : Value} {D : List Nat} (h : RowAt w 3 eN 1 v D) : RowAt w 3 eI 1 v (D.map (fun n : Nat => (n : Int))) := by
  have e : (D.map (fun n : Nat => (n : Int))).flatMap eI = D.flatMap eN := by
    rw [List.flatMap_map]; rfl
  obtain ⟨h1, h2⟩ := h
  refine ⟨by rw [e, List.length_map]; exact h1, ?_⟩
  rw [e, List.length_map]
  exact h2
theorem map_int_inj {D D2 : List Nat} : (D.map (fun n : Nat => (n : Int)) = D2.map (fun n : Nat => (n : Int))) ↔ D = D2 := by
  refine ⟨fun h => ?_, fun h => by rw [h]⟩
  have h2 := congrArg (List.map Int.toNat) h
  rw [List.map_map, List.map_map] at h2
  have e : (Int.toNat ∘ fun n : Nat => (n : Int)) = id := rfl
  rw [e, List.map_id, List.map_id] at h2
  exact h2
section
variable {w w' : World} {p p2 : Nat} {u v u2 v2 : Value} {D D2 : List Nat} {H H2 : List HV} {R R2 : List (Ret × List Nat)} {K K2 : Nat}
set_option maxRecDepth 100000 in
set_option maxHeartbeats 8000000 in
theorem csame_any (A : UAt w p u v D H R) (B : UAt w p2 u2 v2 D2 H2 R2) (oA : UOk D R K) (oB : UOk D2 R2 K2) (hD : D.length = D2.length) :
    Calls Try.prog 29 #[.pointer (some ⟨p, 0, none⟩), .pointer (some ⟨p2, 0, none⟩)] w fun e w' => e = .returned (.bool (decide (D = D2) && decide (R = R2))) ∧ Kp NoB w w' := by
  have T1 := hid (tasks_any A)
  have T2 := hid (tasks_any B)
  have HI := hid (fun W (k : Kp NoB w W) => (equalI_any ((row_int (A.hu.kp k (fun _ _ h => h))).sl eI_len (by omega)) ((row_int (B.hu.kp k (fun _ _ h => h))).sl eI_len (by omega)) (by have := oA.n8; rw [List.length_map]; omega) (by have := oB.n8; rw [List.length_map]; omega)).mono
    (R' := fun e w' => e = .returned (.bool (decide (D = D2))) ∧ Kp NoB W w') (fun e w' h => ⟨by rw [h.1, decide_eq_decide.2 map_int_inj], h.2⟩))
  have HE := hid (fun W (k : Kp NoB w W) => equalf_any (A.kn k) (B.kn k) oA oB hD)
  have n1 : ((D.length : Int) == 0) = false := by have := oA.n1; simp; intro h; rw [h] at this; simp at this
  have n2 : ((D2.length : Int) == 0) = false := by have := oB.n1; simp; intro h; rw [h] at this; simp at this
  have A0 := hid A
  have B0 := hid B
  obtain ⟨ox, cx, hv1, _⟩ := A.hv.form
  obtain ⟨oy, cy, hv2, _⟩ := B.hv.form
  obtain ⟨o3, c3, hv3, _⟩ := A.hu.form
  obtain ⟨o4, c4, hv4, _⟩ := B.hu.form
  rw [A.hl] at hv1
  rw [B.hl] at hv2
  subst hv1; subst hv2; subst hv3; subst hv4
  have La := loc2 A.hp
  have Lb := loc2 B.hp
  clear A B oA oB hD
  go_enter Try.func29, Try.ntmps29
  go_wp2_with fail
  refine T1.out.mono ?_
  rintro e w1 ⟨rfl, rfl⟩
  go_wp2_with fail
  refine T2.out.mono ?_
  rintro e w1 ⟨rfl, rfl⟩
  go_wp2_with fail
  refine wp_region_G (fun _ => True) [(0, .at_), (1, .at_), (2, .at_), (3, .at_), (4, .at_), (5, .at_), (6, .at_), (7, .at_), (8, .eff), (9, .at_), (10, .at_), (11, .at_), (12, .at_), (13, .at_), (14, .at_), (15, .at_), (16, .at_), (17, .at_), (18, .eff), (19, .at_), (20, .at_)] ?L1 (by kernel_rfl) (by kernel_rfl) ?hL1 (trivial) ?hG1
  case hL1 => simp only [pickOps, List.map_cons, List.map_nil, List.getD_cons_zero, List.getD_cons_succ]; rfl
  repeat (first | (refine wpG_at (v := ?_) (by rfl) ?_ ?_; rotate_left; (focus (first | (go_simp; with_reducible rfl) | (go_simp; done))); simp only [Act.put, List.setIfInBounds_toArray, List.set_cons_zero, List.set_cons_succ]) | (refine wpG_at_skip (by rfl) ?_; simp only [Act.put, List.setIfInBounds_toArray, List.set_cons_zero, List.set_cons_succ]) | (refine wpG_held_skip (by rfl) ?_; simp only [Act.put, List.setIfInBounds_toArray, List.set_cons_zero, List.set_cons_succ]) | (refine wpG_held (v := ?_) (by rfl) ?_ ?_; rotate_left; (focus (intro w' hSw; (try dsimp only at hSw); go_split_ands; first | (go_simp; with_reducible rfl) | (go_simp; done))); simp only [Act.put, List.setIfInBounds_toArray, List.set_cons_zero, List.set_cons_succ]))
  refine wpG_eff (by rfl) (fun K hK => ?_)
  go_simp
  refine (HI.out _ (Kp.refl NoB w).drew).mono ?_
  rintro e w1 ⟨rfl, k1⟩
  have K1 := hid (((Kp.refl NoB w).drew).trans k1)
  have La1 := loc2 (K1.out.get A0.out.hp (fun h => h))
  have Lb1 := loc2 (K1.out.get B0.out.hp (fun h => h))
  refine hK _ _ trivial ?_
  clear hK K La Lb k1
  by_cases hd : D = D2
  · rw [decide_eq_true hd]
    replace hd := hid hd
    repeat (first | (refine wpG_at (v := ?_) (by rfl) ?_ ?_; rotate_left; (focus (first | (go_simp; with_reducible rfl) | (go_simp; done))); simp only [Act.put, List.setIfInBounds_toArray, List.set_cons_zero, List.set_cons_succ]) | (refine wpG_at_skip (by rfl) ?_; simp only [Act.put, List.setIfInBounds_toArray, List.set_cons_zero, List.set_cons_succ]) | (refine wpG_held_skip (by rfl) ?_; simp only [Act.put, List.setIfInBounds_toArray, List.set_cons_zero, List.set_cons_succ]) | (refine wpG_held (v := ?_) (by rfl) ?_ ?_; rotate_left; (focus (intro w' hSw; (try dsimp only at hSw); go_split_ands; first | (go_simp; with_reducible rfl) | (go_simp; done))); simp only [Act.put, List.setIfInBounds_toArray, List.set_cons_zero, List.set_cons_succ]))
    refine wpG_eff (by rfl) (fun K hK => ?_)
    go_simp
    refine (HE.out _ K1.out).mono ?_
    rintro e w2 ⟨rfl, k2⟩
    have K2 := hid (K1.out.trans k2)
    refine hK _ _ trivial ?_
    clear hK K k2
    repeat (first | (refine wpG_at (v := ?_) (by rfl) ?_ ?_; rotate_left; (focus (first | (go_simp; with_reducible rfl) | (go_simp; done))); simp only [Act.put, List.setIfInBounds_toArray, List.set_cons_zero, List.set_cons_succ]) | (refine wpG_at_skip (by rfl) ?_; simp only [Act.put, List.setIfInBounds_toArray, List.set_cons_zero, List.set_cons_succ]) | (refine wpG_held_skip (by rfl) ?_; simp only [Act.put, List.setIfInBounds_toArray, List.set_cons_zero, List.set_cons_succ]) | (refine wpG_held (v := ?_) (by rfl) ?_ ?_; rotate_left; (focus (intro w' hSw; (try dsimp only at hSw); go_split_ands; first | (go_simp; with_reducible rfl) | (go_simp; done))); simp only [Act.put, List.setIfInBounds_toArray, List.set_cons_zero, List.set_cons_succ]))
    refine wpG_nil (NoPanic.normal ?_)
    go_wp2_with fail
    go_ret
    exact ⟨by first | rfl | (simp; done) | (show Ending.returned (.bool (decide (R = R2))) = _; rw [decide_eq_true hd.out, Bool.true_and]), K2.out⟩
  · rw [decide_eq_false hd]
    replace hd := hid hd
    repeat (first | (refine wpG_at (v := ?_) (by rfl) ?_ ?_; rotate_left; (focus (first | (go_simp; with_reducible rfl) | (go_simp; done))); simp only [Act.put, List.setIfInBounds_toArray, List.set_cons_zero, List.set_cons_succ]) | (refine wpG_at_skip (by rfl) ?_; simp only [Act.put, List.setIfInBounds_toArray, List.set_cons_zero, List.set_cons_succ]) | (refine wpG_held_skip (by rfl) ?_; simp only [Act.put, List.setIfInBounds_toArray, List.set_cons_zero, List.set_cons_succ]) | (refine wpG_held (v := ?_) (by rfl) ?_ ?_; rotate_left; (focus (intro w' hSw; (try dsimp only at hSw); go_split_ands; first | (go_simp; with_reducible rfl) | (go_simp; done))); simp only [Act.put, List.setIfInBounds_toArray, List.set_cons_zero, List.set_cons_succ]))
    refine wpG_eff_skip (by rfl) trivial ?_; simp only [Act.put, List.setIfInBounds_toArray, List.set_cons_zero, List.set_cons_succ]
    repeat (first | (refine wpG_at (v := ?_) (by rfl) ?_ ?_; rotate_left; (focus (first | (go_simp; with_reducible rfl) | (go_simp; done))); simp only [Act.put, List.setIfInBounds_toArray, List.set_cons_zero, List.set_cons_succ]) | (refine wpG_at_skip (by rfl) ?_; simp only [Act.put, List.setIfInBounds_toArray, List.set_cons_zero, List.set_cons_succ]) | (refine wpG_held_skip (by rfl) ?_; simp only [Act.put, List.setIfInBounds_toArray, List.set_cons_zero, List.set_cons_succ]) | (refine wpG_held (v := ?_) (by rfl) ?_ ?_; rotate_left; (focus (intro w' hSw; (try dsimp only at hSw); go_split_ands; first | (go_simp; with_reducible rfl) | (go_simp; done))); simp only [Act.put, List.setIfInBounds_toArray, List.set_cons_zero, List.set_cons_succ]))
    refine wpG_nil (NoPanic.normal ?_)
    go_wp2_with fail
    go_ret
    exact ⟨by first | rfl | (simp; done) | (show Ending.returned (.bool false) = _; rw [decide_eq_false hd.out, Bool.false_and]), K1.out⟩
end
end Go.Proofs.Ytplbkjgkocnehaa
