/- Walks: two lists the same; an act, of both. -/
import Derived.Test.YtpfhjfijpmcnkaaK10
namespace Go.Proofs.Ytpfhjfijpmcnkaa
set_option linter.unusedSimpArgs false
set_option linter.unusedVariables false
open Go.RowKit
attribute [local go_sem ↓] Go.wp_at_zero Go.wp_at_succ
section
variable {w w' : World} {p m q n : Nat} {M : List (Int × Value)} {v v1 v2 : Value} {L : List (Int × Int)} {l l' : List Int}
set_option maxRecDepth 100000 in
set_option maxHeartbeats 4000000 in
theorem equal_any (h1 : Rs 3 w v1 l) (h2 : Rs 3 w v2 l') (n2 : l.length ≤ 5000) :
    Calls Try.prog 14 #[v1, v2] w fun e w' => e = .returned (.bool (decide (l = l'))) ∧ Kp NoB w w' := by
  obtain ⟨o1, c1, hv1, _⟩ := h1.form
  obtain ⟨o2, c2, hv2, _⟩ := h2.form
  subst hv1; subst hv2
  by_cases hl : l.length = l'.length
  · have hl2 : ((l.length : Int) != (l'.length : Int)) = false := by simp [hl]
    go_enter Try.func14, Try.ntmps14
    go_wp2_with fail
    go_loopw [5] (fun i W => ∃ j : Nat, j ≤ l.length ∧ i = .int .i64 j ∧ Kp NoB w W ∧ Hid (l.take j = l'.take j)) (fun i _ => l.length - (intOf i).toNat)
    case atStart => exact ⟨0, Nat.zero_le _, rfl, Kp.refl _ w, hid (by simp)⟩
    case round =>
      obtain ⟨j, hj, rfl, hK, hT⟩ := hrel
      by_cases hlt : j < l.length
      · have hk1 : l[j]? = some l[j] := List.getElem?_eq_getElem hlt
        have hlt' : j < l'.length := by omega
        have hk2 : l'[j]? = some l'[j] := List.getElem?_eq_getElem hlt'
        obtain ⟨b1, f1, d1, e1, m1, _, q1⟩ := h1.cells (by rintro rfl; simp at hlt)
        obtain ⟨b2, f2, d2, e2, m2, _, q2⟩ := h2.cells (by rintro rfl; simp at hlt')
        injection e1 with e11 _ e13
        injection e2 with e21 _ e23
        subst e11; subst e13; subst e21; subst e23
        have Le1 := q1 _ hK j _ hk1
        have Le2 := q2 _ hK j _ hk2
        obtain ⟨x, hx⟩ : ∃ x, l[j] = x := ⟨_, rfl⟩
        obtain ⟨y, hy⟩ : ∃ y, l'[j] = y := ⟨_, rfl⟩
        rw [hx] at Le1 hk1
        rw [hy] at Le2 hk2
        have b3 : (0 : Int) ≤ (j : Int) := Int.natCast_nonneg _
        have b4 : (j : Int) < (l.length : Int) := by omega
        have b5 : (j : Int) < (l'.length : Int) := by omega
        replace h1 := hid h1
        replace h2 := hid h2
        have hns : x ≠ y → decide (l = l') = false := fun hn => by
          simp
          rintro rfl
          rw [hk1] at hk2
          injection hk2 with hk2
          exact hn hk2
        have hnx : x = y → l.take (j + 1) = l'.take (j + 1) := fun he => by
          rw [List.take_add_one, List.take_add_one, hT.out, hk1, hk2, he]
        replace hns := hid hns
        replace hnx := hid hnx
        replace hk1 := hid hk1
        replace hk2 := hid hk2
        replace hx := hid hx
        replace hy := hid hy
        replace hl := hid hl
        clear q1 q2
        by_cases hxy : x = y
        · have hxb : (x != y) = false := by simpa using hxy
          have hxy' := hid hxy
          clear hxy
          go_wp2_with fail
          refine wp_region_G (fun _ => True) [(0, .at_), (1, .at_), (2, .at_), (3, .at_), (4, .at_), (5, .at_), (6, .at_), (7, .at_), (8, .at_)] ?L1 (by kernel_rfl) (by kernel_rfl) ?hL1 (trivial) ?hG1
          case hL1 => simp only [pickOps, List.map_cons, List.map_nil, List.getD_cons_zero, List.getD_cons_succ]; rfl
          repeat (first | (refine wpG_at (v := ?_) (by rfl) ?_ ?_; rotate_left; (focus (first | (go_simp; with_reducible rfl) | (go_simp; done))); simp only [Act.put, List.setIfInBounds_toArray, List.set_cons_zero, List.set_cons_succ]) | (refine wpG_at_skip (by rfl) ?_; simp only [Act.put, List.setIfInBounds_toArray, List.set_cons_zero, List.set_cons_succ]) | (refine wpG_held_skip (by rfl) ?_; simp only [Act.put, List.setIfInBounds_toArray, List.set_cons_zero, List.set_cons_succ]) | (refine wpG_held (v := ?_) (by rfl) ?_ ?_; rotate_left; (focus (intro w' hSw; (try dsimp only at hSw); go_split_ands; first | (go_simp; with_reducible rfl) | (go_simp; done))); simp only [Act.put, List.setIfInBounds_toArray, List.set_cons_zero, List.set_cons_succ]))
          refine wpG_nil (NoPanic.normal ?_)
          go_wp2_with fail
          go_roundw
          case rel => exact ⟨j + 1, by omega, by go_num, hK.drew, hid (hnx.out hxy'.out)⟩
          case measure => simp [intOf]; omega
        · have hxb : (x != y) = true := by simpa using hxy
          have hdf := hid (hns.out hxy)
          clear hxy
          go_wp2_with fail
          refine wp_region_G (fun _ => True) [(0, .at_), (1, .at_), (2, .at_), (3, .at_), (4, .at_), (5, .at_), (6, .at_), (7, .at_), (8, .at_)] ?L2 (by kernel_rfl) (by kernel_rfl) ?hL2 (trivial) ?hG2
          case hL2 => simp only [pickOps, List.map_cons, List.map_nil, List.getD_cons_zero, List.getD_cons_succ]; rfl
          repeat (first | (refine wpG_at (v := ?_) (by rfl) ?_ ?_; rotate_left; (focus (first | (go_simp; with_reducible rfl) | (go_simp; done))); simp only [Act.put, List.setIfInBounds_toArray, List.set_cons_zero, List.set_cons_succ]) | (refine wpG_at_skip (by rfl) ?_; simp only [Act.put, List.setIfInBounds_toArray, List.set_cons_zero, List.set_cons_succ]) | (refine wpG_held_skip (by rfl) ?_; simp only [Act.put, List.setIfInBounds_toArray, List.set_cons_zero, List.set_cons_succ]) | (refine wpG_held (v := ?_) (by rfl) ?_ ?_; rotate_left; (focus (intro w' hSw; (try dsimp only at hSw); go_split_ands; first | (go_simp; with_reducible rfl) | (go_simp; done))); simp only [Act.put, List.setIfInBounds_toArray, List.set_cons_zero, List.set_cons_succ]))
          refine wpG_nil (NoPanic.normal ?_)
          go_wp2_with fail
          go_ret
          exact ⟨by rw [hdf.out]; rfl, hK.drew⟩
      · obtain rfl : j = l.length := by omega
        have he : decide (l = l') = true := by
          have := hT.out
          rw [List.take_length, hl, List.take_length] at this
          simpa using this
        replace he := hid he
        replace h1 := hid h1
        replace h2 := hid h2
        replace hl := hid hl
        go_wp2_with fail
        go_ret
        exact ⟨by rw [he.out]; rfl, hK⟩
  · have hl2 : ((l.length : Int) != (l'.length : Int)) = true := by simp; omega
    have he : decide (l = l') = false := by simp; rintro rfl; exact hl rfl
    rw [he]
    clear h1 h2 he hl
    go_enter Try.func14, Try.ntmps14
    go_wp2_with fail
    go_ret
    exact ⟨rfl, Kp.refl _ _⟩
/-- the code's locks and the document's, of the same standings -/
structure JAt (w : World) (p m q n : Nat) (M : List (Int × Value)) (v : Value) (L : List (Int × Int)) : Prop where
  c : LAt w p m n M L
  r : RAt w q n v L
  o : LOk n L
theorem JAt.kn (h : JAt w p m q n M v L) (k : Kp NoB w w') : JAt w' p m q n M v L := ⟨h.c.kn k, h.r.kn k, h.o⟩
theorem rel_same (o : LOk n L) (t id : Int) : rrelL L t id = relL L t id := by
  unfold rrelL relL
  split
  · rename_i h
    refine without_out ?_
    have : rowL L id ≠ [] := by rintro e; simp [hasB, e, isL] at h
    obtain ⟨x, hx⟩ := List.exists_mem_of_ne_nil _ this
    unfold rowL at hx
    obtain ⟨s, hs, _⟩ := List.mem_map.1 hx
    have h1 := List.mem_filter.1 hs
    have h2 : s.1 = id := by simpa using h1.2
    have := o.ge s h1.1
    omega
  · rfl
theorem rtry_any (h : RAt w q n v L) (n2 : L.length ≤ 3999) {t id : Int} : Calls Try.prog 33 #[.pointer (some ⟨q, 0, none⟩), .int .i64 t, .int .i64 id] w fun e w' => e = .returned (.bool (tryB n L t id)) ∧ ∃ v', RAt w' q n v' (tryL n L t id) ∧ Kp (· = q) w w' := by
  by_cases ho : okL n t id
  · exact rtry_yes h n2 ho
  · refine (rtry_no h ho).mono ?_
    rintro e w1 ⟨rfl, rfl⟩
    have e1 : tryL n L t id = L := by rw [tryL, if_neg (fun h => ho h.1)]
    rw [tryB, e1]
    exact ⟨by simp [ho], _, h, Kp.refl _ _⟩
/-- the code's call, then the document's -/
theorem both_try (h : JAt w p m q n M v L) (n2 : L.length ≤ 3999) {t id : Int} (hw : (Lit.int .i64 id).wf = true) :
    Calls Try.prog 13 #[.pointer (some ⟨p, 0, none⟩), .int .i64 t, .int .i64 id] w fun e w1 => e = .returned (.bool (tryB n L t id)) ∧ Kp (· = m) w w1 ∧ RAt w1 q n v L ∧
      Hid (∀ W, Kp NoB w1 W → Calls Try.prog 33 #[.pointer (some ⟨q, 0, none⟩), .int .i64 t, .int .i64 id] W fun e w2 => e = .returned (.bool (tryB n L t id)) ∧ Kp (· = q) W w2 ∧ ∃ M' v', JAt w2 p m q n M' v' (tryL n L t id)) := by
  refine (try_any h.c h.o hw (by omega)).mono ?_
  rintro e w1 ⟨rfl, M', q1, k1⟩
  have r1 := h.r.km h.c.hm k1
  refine ⟨rfl, k1, r1, hid (fun W k => ?_)⟩
  refine (rtry_any (r1.kn k) n2).mono ?_
  rintro e w2 ⟨rfl, v', q2, k2⟩
  exact ⟨rfl, k2, M', v', (q1.kn k).kq (r1.kn k).hq k2, q2, h.o.try_ t id⟩
theorem both_release (h : JAt w p m q n M v L) (n2 : L.length ≤ 3999) {t id : Int} (hw : (Lit.int .i64 id).wf = true) :
    Calls Try.prog 17 #[.pointer (some ⟨p, 0, none⟩), .int .i64 t, .int .i64 id] w fun e w1 => e = .returned (.bool (hasB L t id)) ∧ Kp (· = m) w w1 ∧ RAt w1 q n v L ∧
      Hid (∀ W, Kp NoB w1 W → Calls Try.prog 34 #[.pointer (some ⟨q, 0, none⟩), .int .i64 t, .int .i64 id] W fun e w2 => e = .returned (.bool (hasB L t id)) ∧ Kp (· = q) W w2 ∧ ∃ M' v', JAt w2 p m q n M' v' (relL L t id)) := by
  refine (release_any h.c h.o hw (by omega)).mono ?_
  rintro e w1 ⟨rfl, M', q1, k1⟩
  have r1 := h.r.km h.c.hm k1
  refine ⟨rfl, k1, r1, hid (fun W k => ?_)⟩
  refine (rrelease_any (r1.kn k) (by omega) t id).mono ?_
  rintro e w2 ⟨rfl, v', q2, k2⟩
  rw [rel_same h.o] at q2
  exact ⟨rfl, k2, M', v', (q1.kn k).kq (r1.kn k).hq k2, q2, by unfold relL; split; exact h.o.out t id; exact h.o⟩
theorem both_drop (h : JAt w p m q n M v L) (n2 : L.length ≤ 3999) {t : Int} :
    Calls Try.prog 20 #[.pointer (some ⟨p, 0, none⟩), .int .i64 t] w fun e w1 => e = .returned (.tuple #[]) ∧ Kp (· = m) w w1 ∧ RAt w1 q n v L ∧
      Hid (∀ W, Kp NoB w1 W → Calls Try.prog 35 #[.pointer (some ⟨q, 0, none⟩), .int .i64 t] W fun e w2 => e = .returned (.tuple #[]) ∧ Kp (· = q) W w2 ∧ ∃ M' v', JAt w2 p m q n M' v' (dropL L t)) := by
  refine (drop_any h.c h.o (by omega)).mono ?_
  rintro e w1 ⟨rfl, M', q1, k1⟩
  have r1 := h.r.km h.c.hm k1
  refine ⟨rfl, k1, r1, hid (fun W k => ?_)⟩
  refine (rdrop_any (r1.kn k) (by omega) t).mono ?_
  rintro e w2 ⟨rfl, v', q2, k2⟩
  exact ⟨rfl, k2, M', v', (q1.kn k).kq (r1.kn k).hq k2, q2, h.o.drop t⟩
end
end Go.Proofs.Ytpfhjfijpmcnkaa
