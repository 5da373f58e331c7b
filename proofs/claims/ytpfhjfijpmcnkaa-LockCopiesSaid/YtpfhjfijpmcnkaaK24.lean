/- Walks: two lists of serials the same; a lock the same in both. -/
import Derived.Test.YtpfhjfijpmcnkaaK23
namespace Go.Proofs.Ytpfhjfijpmcnkaa
set_option linter.unusedSimpArgs false
set_option linter.unusedVariables false
open Go.RowKit
attribute [local go_sem ↓] Go.wp_at_zero Go.wp_at_succ
section
variable {w w' : World} {p m q n : Nat} {M : List (Int × Value)} {v v1 v2 : Value} {L : List (Int × Int)} {l l' : List Int}
set_option maxRecDepth 100000 in
set_option maxHeartbeats 4000000 in
theorem equals_any (h1 : Rs 23 w v1 l) (h2 : Rs 23 w v2 l') (n2 : l.length ≤ 5000) :
    Calls Try.prog 38 #[v1, v2] w fun e w' => e = .returned (.bool (decide (l = l'))) ∧ Kp NoB w w' := by
  obtain ⟨o1, c1, hv1, _⟩ := h1.form
  obtain ⟨o2, c2, hv2, _⟩ := h2.form
  subst hv1; subst hv2
  by_cases hl : l.length = l'.length
  · have hl2 : ((l.length : Int) != (l'.length : Int)) = false := by simp [hl]
    go_enter Try.func38, Try.ntmps38
    go_wp2_with fail
    go_loopw [5] (fun i W => ∃ j : Nat, j ≤ l.length ∧ i = .int .i64 j ∧ Kp NoB w W ∧ Hid (l.take j = l'.take j)) (fun i _ => l.length - (intOf i).toNat)
    case atStart => exact ⟨0, Nat.zero_le _, rfl, Kp.refl _ w, hid (by simp)⟩
    case round =>
      obtain ⟨j, hj, rfl, hK, hT⟩ := hrel
      by_cases hlt : j < l.length
      · have hk1 : l[j]? = some l[j] := List.getElem?_eq_getElem hlt
        have hlt' : j < l'.length := by omega
        have hk2 : l'[j]? = some l'[j] := List.getElem?_eq_getElem hlt'
        obtain ⟨b1, f1, d1, e1, m1, _, q1⟩ := h1.cells (by rintro rfl; simp at hlt)
        obtain ⟨b2, f2, d2, e2, m2, _, q2⟩ := h2.cells (by rintro rfl; simp at hlt')
        injection e1 with e11 _ e13
        injection e2 with e21 _ e23
        subst e11; subst e13; subst e21; subst e23
        have Le1 := q1 _ hK j _ hk1
        have Le2 := q2 _ hK j _ hk2
        obtain ⟨x, hx⟩ : ∃ x, l[j] = x := ⟨_, rfl⟩
        obtain ⟨y, hy⟩ : ∃ y, l'[j] = y := ⟨_, rfl⟩
        rw [hx] at Le1 hk1
        rw [hy] at Le2 hk2
        have b3 : (0 : Int) ≤ (j : Int) := Int.natCast_nonneg _
        have b4 : (j : Int) < (l.length : Int) := by omega
        have b5 : (j : Int) < (l'.length : Int) := by omega
        replace h1 := hid h1
        replace h2 := hid h2
        have hns : x ≠ y → decide (l = l') = false := fun hn => by
          simp
          rintro rfl
          rw [hk1] at hk2
          injection hk2 with hk2
          exact hn hk2
        have hnx : x = y → l.take (j + 1) = l'.take (j + 1) := fun he => by
          rw [List.take_add_one, List.take_add_one, hT.out, hk1, hk2, he]
        replace hns := hid hns
        replace hnx := hid hnx
        replace hk1 := hid hk1
        replace hk2 := hid hk2
        replace hx := hid hx
        replace hy := hid hy
        replace hl := hid hl
        clear q1 q2
        by_cases hxy : x = y
        · have hxb : (x != y) = false := by simpa using hxy
          have hxy' := hid hxy
          clear hxy
          go_wp2_with fail
          refine wp_region_G (fun _ => True) [(0, .at_), (1, .at_), (2, .at_), (3, .at_), (4, .at_), (5, .at_), (6, .at_), (7, .at_), (8, .at_)] ?L1 (by kernel_rfl) (by kernel_rfl) ?hL1 (trivial) ?hG1
          case hL1 => simp only [pickOps, List.map_cons, List.map_nil, List.getD_cons_zero, List.getD_cons_succ]; rfl
          repeat (first | (refine wpG_at (v := ?_) (by rfl) ?_ ?_; rotate_left; (focus (first | (go_simp; with_reducible rfl) | (go_simp; done))); simp only [Act.put, List.setIfInBounds_toArray, List.set_cons_zero, List.set_cons_succ]) | (refine wpG_at_skip (by rfl) ?_; simp only [Act.put, List.setIfInBounds_toArray, List.set_cons_zero, List.set_cons_succ]) | (refine wpG_held_skip (by rfl) ?_; simp only [Act.put, List.setIfInBounds_toArray, List.set_cons_zero, List.set_cons_succ]) | (refine wpG_held (v := ?_) (by rfl) ?_ ?_; rotate_left; (focus (intro w' hSw; (try dsimp only at hSw); go_split_ands; first | (go_simp; with_reducible rfl) | (go_simp; done))); simp only [Act.put, List.setIfInBounds_toArray, List.set_cons_zero, List.set_cons_succ]))
          refine wpG_nil (NoPanic.normal ?_)
          go_wp2_with fail
          go_roundw
          case rel => exact ⟨j + 1, by omega, by go_num, hK.drew, hid (hnx.out hxy'.out)⟩
          case measure => simp [intOf]; omega
        · have hxb : (x != y) = true := by simpa using hxy
          have hdf := hid (hns.out hxy)
          clear hxy
          go_wp2_with fail
          refine wp_region_G (fun _ => True) [(0, .at_), (1, .at_), (2, .at_), (3, .at_), (4, .at_), (5, .at_), (6, .at_), (7, .at_), (8, .at_)] ?L2 (by kernel_rfl) (by kernel_rfl) ?hL2 (trivial) ?hG2
          case hL2 => simp only [pickOps, List.map_cons, List.map_nil, List.getD_cons_zero, List.getD_cons_succ]; rfl
          repeat (first | (refine wpG_at (v := ?_) (by rfl) ?_ ?_; rotate_left; (focus (first | (go_simp; with_reducible rfl) | (go_simp; done))); simp only [Act.put, List.setIfInBounds_toArray, List.set_cons_zero, List.set_cons_succ]) | (refine wpG_at_skip (by rfl) ?_; simp only [Act.put, List.setIfInBounds_toArray, List.set_cons_zero, List.set_cons_succ]) | (refine wpG_held_skip (by rfl) ?_; simp only [Act.put, List.setIfInBounds_toArray, List.set_cons_zero, List.set_cons_succ]) | (refine wpG_held (v := ?_) (by rfl) ?_ ?_; rotate_left; (focus (intro w' hSw; (try dsimp only at hSw); go_split_ands; first | (go_simp; with_reducible rfl) | (go_simp; done))); simp only [Act.put, List.setIfInBounds_toArray, List.set_cons_zero, List.set_cons_succ]))
          refine wpG_nil (NoPanic.normal ?_)
          go_wp2_with fail
          go_ret
          exact ⟨by rw [hdf.out]; rfl, hK.drew⟩
      · obtain rfl : j = l.length := by omega
        have he : decide (l = l') = true := by
          have := hT.out
          rw [List.take_length, hl, List.take_length] at this
          simpa using this
        replace he := hid he
        replace h1 := hid h1
        replace h2 := hid h2
        replace hl := hid hl
        go_wp2_with fail
        go_ret
        exact ⟨by rw [he.out]; rfl, hK⟩
  · have hl2 : ((l.length : Int) != (l'.length : Int)) = true := by simp; omega
    have he : decide (l = l') = false := by simp; rintro rfl; exact hl rfl
    rw [he]
    clear h1 h2 he hl
    go_enter Try.func38, Try.ntmps38
    go_wp2_with fail
    go_ret
    exact ⟨rfl, Kp.refl _ _⟩
set_option maxRecDepth 100000 in
set_option maxHeartbeats 4000000 in
theorem one_none (h : JAt w p m q n M v L) (n2 : L.length ≤ 3999) {id : Int} (hw : (Lit.int .i64 id).wf = true) (hr : rowL L id = []) :
    Calls Try.prog 36 #[.pointer (some ⟨p, 0, none⟩), .pointer (some ⟨q, 0, none⟩), .int .i64 id] w fun e w' => e = .returned (.bool true) ∧ Kp NoB w w' := by
  have HR := hid (row_any h.r (by omega) id)
  have HH := hid (fun W (k : Kp NoB w W) => holder_any (h.c.kn k) h.o.n1 hw)
  have HW := hid (fun W (k : Kp NoB w W) => waiting_any (h.c.kn k) h.o.n1 hw (by rw [hr]; simp))
  rw [hr] at HR HH HW
  simp only [hdL, isL, List.tail_nil] at HH HW
  clear h hr
  go_enter Try.func36, Try.ntmps36
  go_wp2_with fail
  refine HR.out.mono ?_
  rintro e w1 ⟨v', rfl, r1, k1⟩
  obtain ⟨oa, ca, hva, _⟩ := r1.form
  subst hva
  replace r1 := hid r1
  replace k1 := hid k1
  go_wp2_with fail
  refine (HH.out _ k1.out).mono ?_
  rintro e w2 ⟨rfl, rfl⟩
  go_wp2_with fail
  refine (HW.out _ k1.out).mono ?_
  rintro e w3 ⟨v', rfl, r2, k2⟩
  obtain ⟨ob, cb, hvb, _⟩ := r2.form
  subst hvb
  replace r2 := hid r2
  replace k2 := hid k2
  go_wp2_with fail
  go_ret
  exact ⟨rfl, k1.out.trans k2.out⟩
set_option maxRecDepth 100000 in
set_option maxHeartbeats 4000000 in
theorem one_some (h : JAt w p m q n M v L) (n2 : L.length ≤ 3999) {id : Int} (hw : (Lit.int .i64 id).wf = true) {a : Int} {r : List Int} (hr : rowL L id = a :: r) :
    Calls Try.prog 36 #[.pointer (some ⟨p, 0, none⟩), .pointer (some ⟨q, 0, none⟩), .int .i64 id] w fun e w' => e = .returned (.bool true) ∧ Kp NoB w w' := by
  have HR := hid (row_any h.r (by omega) id)
  have HH := hid (fun W (k : Kp NoB w W) => holder_any (h.c.kn k) h.o.n1 hw)
  have hrl := row_len L id
  have HW := hid (fun W (k : Kp NoB w W) => waiting_any (h.c.kn k) h.o.n1 hw (by omega))
  rw [hr] at HR HH HW hrl
  simp only [hdL, isL, List.tail_cons, List.length_cons] at HH HW hrl
  clear h hr
  go_enter Try.func36, Try.ntmps36
  go_wp2_with fail
  refine HR.out.mono ?_
  rintro e w1 ⟨v', rfl, r1, k1⟩
  rcases r1 with ⟨_, h⟩ | ⟨b, f, c, A, rfl, hb, hA, hc⟩
  · cases h
  have Le : w1.cell? ⟨b, f, none⟩ = some (.int .i64 a) := by rw [cell_of hb]; have := hA 0 a rfl; rwa [Nat.add_zero] at this
  have hR : ∀ g c', (r ≠ [] → g = f + 1) → r.length ≤ c' → Rs 3 w1 (.slice (some ⟨b, g, none⟩) r.length c') r := fun g c' hg hc' =>
      .inr ⟨b, g, c', A, rfl, hb, fun j x hj => by
        rw [hg (by rintro rfl; simp at hj)]
        have := hA (j + 1) x (by simpa using hj); rw [show f + (j + 1) = f + 1 + j from by omega] at this; exact this, hc'⟩
  simp only [List.length_cons] at hc
  have e1 : (0 : Int) < (r.length : Int) + 1 := by omega
  have e2 : (1 : Int) ≤ (r.length : Int) + 1 := by omega
  have e3 : (r.length : Int) + 1 ≤ (c : Int) := by omega
  simp only [List.length_cons]
  replace hR := hid hR
  replace hb := hid hb
  replace hA := hid hA
  replace k1 := hid k1
  have HL : Hid (∃ sv, Rs 3 w1 sv r ∧ ((c = 1 ∧ r.length = 0 ∧ sv = .slice (some ⟨b, f, none⟩) 0 0) ∨ (c ≠ 1 ∧ sv = .slice (some ⟨b, f + 1, none⟩) r.length (c - 1)))) := hid (by
    by_cases hc1 : c = 1
    · have h0 : r.length = 0 := by omega
      have := hR.out f 0 (fun h => absurd (List.eq_nil_of_length_eq_zero h0) h) (by omega)
      rw [h0] at this
      exact ⟨_, this, .inl ⟨hc1, h0, rfl⟩⟩
    · exact ⟨_, hR.out (f + 1) (c - 1) (fun _ => rfl) (by omega), .inr ⟨hc1, rfl⟩⟩)
  obtain ⟨sv, hsv, hsc⟩ := HL.out
  clear HL
  replace hsv := hid hsv
  rcases hsc with ⟨rfl, h0, rfl⟩ | ⟨hc1, rfl⟩
  · obtain rfl := List.eq_nil_of_length_eq_zero h0
    clear h0
    simp only [List.length_nil] at *
    go_wp2_with fail
    refine (HH.out _ k1.out).mono ?_
    rintro e w2 ⟨rfl, rfl⟩
    go_wp2_with fail
    refine wp_region_G (fun _ => True) [(0, .at_), (1, .at_), (3, .held), (4, .held), (2, .eff), (5, .fin), (6, .at_)] ?L3 (by kernel_rfl) (by kernel_rfl) ?hL3 (trivial) ?hG3
    case hL3 => simp only [pickOps, List.map_cons, List.map_nil, List.getD_cons_zero, List.getD_cons_succ]; rfl
    repeat (first | (refine wpG_at (v := ?_) (by rfl) ?_ ?_; rotate_left; (focus (first | (go_simp; with_reducible rfl) | (go_simp; done))); simp only [Act.put, List.setIfInBounds_toArray, List.set_cons_zero, List.set_cons_succ]) | (refine wpG_at_skip (by rfl) ?_; simp only [Act.put, List.setIfInBounds_toArray, List.set_cons_zero, List.set_cons_succ]) | (refine wpG_held_skip (by rfl) ?_; simp only [Act.put, List.setIfInBounds_toArray, List.set_cons_zero, List.set_cons_succ]) | (refine wpG_held (v := ?_) (by rfl) ?_ ?_; rotate_left; (focus (intro w' hSw; (try dsimp only at hSw); go_split_ands; first | (go_simp; with_reducible rfl) | (go_simp; done))); simp only [Act.put, List.setIfInBounds_toArray, List.set_cons_zero, List.set_cons_succ]))
    refine wpG_eff (by rfl) (fun K hK => ?_)
    go_simp
    refine (HW.out _ k1.out.drew).mono ?_
    rintro e w3 ⟨v', rfl, r2, k2⟩
    replace r2 := hid r2
    have K3 := hid (show Kp NoB w1 w3 from ((Kp.refl _ w1).drew).trans k2)
    clear k2
    refine hK _ _ trivial ?_
    clear hK K
    repeat (first | (refine wpG_at (v := ?_) (by rfl) ?_ ?_; rotate_left; (focus (first | (go_simp; with_reducible rfl) | (go_simp; done))); simp only [Act.put, List.setIfInBounds_toArray, List.set_cons_zero, List.set_cons_succ]) | (refine wpG_at_skip (by rfl) ?_; simp only [Act.put, List.setIfInBounds_toArray, List.set_cons_zero, List.set_cons_succ]) | (refine wpG_held_skip (by rfl) ?_; simp only [Act.put, List.setIfInBounds_toArray, List.set_cons_zero, List.set_cons_succ]) | (refine wpG_held (v := ?_) (by rfl) ?_ ?_; rotate_left; (focus (intro w' hSw; (try dsimp only at hSw); go_split_ands; first | (go_simp; with_reducible rfl) | (go_simp; done))); simp only [Act.put, List.setIfInBounds_toArray, List.set_cons_zero, List.set_cons_succ]))
    refine wpG_fin (by rfl) (fun K hK => ?_)
    go_simp
    refine (equal_any r2.out (hsv.out.kn K3.out) (by first | omega | simp)).mono ?_
    rintro e w4 ⟨rfl, k4⟩
    rw [dec_self']
    replace k4 := hid k4
    refine hK _ _ ?_
    clear hK K
    repeat (first | (refine wpG_at (v := ?_) (by rfl) ?_ ?_; rotate_left; (focus (first | (go_simp; with_reducible rfl) | (go_simp; done))); simp only [Act.put, List.setIfInBounds_toArray, List.set_cons_zero, List.set_cons_succ]) | (refine wpG_at_skip (by rfl) ?_; simp only [Act.put, List.setIfInBounds_toArray, List.set_cons_zero, List.set_cons_succ]) | (refine wpG_held_skip (by rfl) ?_; simp only [Act.put, List.setIfInBounds_toArray, List.set_cons_zero, List.set_cons_succ]) | (refine wpG_held (v := ?_) (by rfl) ?_ ?_; rotate_left; (focus (intro w' hSw; (try dsimp only at hSw); go_split_ands; first | (go_simp; with_reducible rfl) | (go_simp; done))); simp only [Act.put, List.setIfInBounds_toArray, List.set_cons_zero, List.set_cons_succ]))
    refine wpG_nil (NoPanic.normal ?_)
    go_wp2_with fail
    go_ret
    exact ⟨rfl, k1.out.trans (K3.out.trans k4.out)⟩
  ·
    go_wp2_with fail
    refine (HH.out _ k1.out).mono ?_
    rintro e w2 ⟨rfl, rfl⟩
    go_wp2_with fail
    refine wp_region_G (fun _ => True) [(0, .at_), (1, .at_), (3, .held), (4, .held), (2, .eff), (5, .fin), (6, .at_)] ?L4 (by kernel_rfl) (by kernel_rfl) ?hL4 (trivial) ?hG4
    case hL4 => simp only [pickOps, List.map_cons, List.map_nil, List.getD_cons_zero, List.getD_cons_succ]; rfl
    repeat (first | (refine wpG_at (v := ?_) (by rfl) ?_ ?_; rotate_left; (focus (first | (go_simp; with_reducible rfl) | (go_simp; done))); simp only [Act.put, List.setIfInBounds_toArray, List.set_cons_zero, List.set_cons_succ]) | (refine wpG_at_skip (by rfl) ?_; simp only [Act.put, List.setIfInBounds_toArray, List.set_cons_zero, List.set_cons_succ]) | (refine wpG_held_skip (by rfl) ?_; simp only [Act.put, List.setIfInBounds_toArray, List.set_cons_zero, List.set_cons_succ]) | (refine wpG_held (v := ?_) (by rfl) ?_ ?_; rotate_left; (focus (intro w' hSw; (try dsimp only at hSw); go_split_ands; first | (go_simp; with_reducible rfl) | (go_simp; done))); simp only [Act.put, List.setIfInBounds_toArray, List.set_cons_zero, List.set_cons_succ]))
    refine wpG_eff (by rfl) (fun K hK => ?_)
    go_simp
    refine (HW.out _ k1.out.drew).mono ?_
    rintro e w3 ⟨v', rfl, r2, k2⟩
    replace r2 := hid r2
    have K3 := hid (show Kp NoB w1 w3 from ((Kp.refl _ w1).drew).trans k2)
    clear k2
    refine hK _ _ trivial ?_
    clear hK K
    repeat (first | (refine wpG_at (v := ?_) (by rfl) ?_ ?_; rotate_left; (focus (first | (go_simp; with_reducible rfl) | (go_simp; done))); simp only [Act.put, List.setIfInBounds_toArray, List.set_cons_zero, List.set_cons_succ]) | (refine wpG_at_skip (by rfl) ?_; simp only [Act.put, List.setIfInBounds_toArray, List.set_cons_zero, List.set_cons_succ]) | (refine wpG_held_skip (by rfl) ?_; simp only [Act.put, List.setIfInBounds_toArray, List.set_cons_zero, List.set_cons_succ]) | (refine wpG_held (v := ?_) (by rfl) ?_ ?_; rotate_left; (focus (intro w' hSw; (try dsimp only at hSw); go_split_ands; first | (go_simp; with_reducible rfl) | (go_simp; done))); simp only [Act.put, List.setIfInBounds_toArray, List.set_cons_zero, List.set_cons_succ]))
    refine wpG_fin (by rfl) (fun K hK => ?_)
    go_simp
    refine (equal_any r2.out (hsv.out.kn K3.out) (by first | omega | simp)).mono ?_
    rintro e w4 ⟨rfl, k4⟩
    rw [dec_self']
    replace k4 := hid k4
    refine hK _ _ ?_
    clear hK K
    repeat (first | (refine wpG_at (v := ?_) (by rfl) ?_ ?_; rotate_left; (focus (first | (go_simp; with_reducible rfl) | (go_simp; done))); simp only [Act.put, List.setIfInBounds_toArray, List.set_cons_zero, List.set_cons_succ]) | (refine wpG_at_skip (by rfl) ?_; simp only [Act.put, List.setIfInBounds_toArray, List.set_cons_zero, List.set_cons_succ]) | (refine wpG_held_skip (by rfl) ?_; simp only [Act.put, List.setIfInBounds_toArray, List.set_cons_zero, List.set_cons_succ]) | (refine wpG_held (v := ?_) (by rfl) ?_ ?_; rotate_left; (focus (intro w' hSw; (try dsimp only at hSw); go_split_ands; first | (go_simp; with_reducible rfl) | (go_simp; done))); simp only [Act.put, List.setIfInBounds_toArray, List.set_cons_zero, List.set_cons_succ]))
    refine wpG_nil (NoPanic.normal ?_)
    go_wp2_with fail
    go_ret
    exact ⟨rfl, k1.out.trans (K3.out.trans k4.out)⟩
theorem one_both (h : JAt w p m q n M v L) (n2 : L.length ≤ 3999) {id : Int} (hw : (Lit.int .i64 id).wf = true) :
    Calls Try.prog 36 #[.pointer (some ⟨p, 0, none⟩), .pointer (some ⟨q, 0, none⟩), .int .i64 id] w fun e w' => e = .returned (.bool true) ∧ Kp NoB w w' := by
  cases hr : rowL L id with
  | nil => exact one_none h n2 hw hr
  | cons a r => exact one_some h n2 hw hr
end
end Go.Proofs.Ytpfhjfijpmcnkaa
