/- Walks: lists compared; what was retired compared. -/
import Derived.Test.YtplbkjgkocnehaaU8
namespace Go.Proofs.Ytplbkjgkocnehaa
set_option linter.unusedSimpArgs false
set_option linter.unusedVariables false
open Go.RowKit
attribute [local go_sem ↓] Go.wp_at_zero Go.wp_at_succ
theorem take_next {α : Type} {l m : List α} {j : Nat} {a : α} (h : l.take j = m.take j) (ha : l[j]? = some a) (hb : m[j]? = some a) : l.take (j + 1) = m.take (j + 1) := by
  rw [List.take_add_one, List.take_add_one, h, ha, hb]
theorem take_end {α : Type} {l m : List α} (h : l.take l.length = m.take l.length) (hl : l.length = m.length) : l = m := by
  rw [List.take_length] at h
  rw [hl, List.take_length] at h
  exact h
theorem ne_at {α : Type} {l m : List α} {j : Nat} {a b : α} (ha : l[j]? = some a) (hb : m[j]? = some b) (hab : a ≠ b) : l ≠ m := by
  rintro rfl
  rw [ha] at hb
  injection hb with hb
  exact hab hb
section
variable {w w' : World} {x y : Value}
set_option maxRecDepth 100000 in
set_option maxHeartbeats 4000000 in
theorem sameints_any {l m : List Int} (hx : Sl w 3 eI x l) (hy : Sl w 3 eI y m) (hll : l.length ≤ 100000) (hml : m.length ≤ 100000) :
    Calls Try.prog 51 #[x, y] w fun e w' => e = .returned (.bool (decide (l = m))) ∧ Kp NoB w w' := by
  have Cx := hid (fun (k : Nat) (a : Int) (hk : l[k]? = some a) => hx.cells eI_len hk)
  have Cy := hid (fun (k : Nat) (a : Int) (hk : m[k]? = some a) => hy.cells eI_len hk)
  obtain ⟨ox, cx, rfl, hcx⟩ := hx.form
  obtain ⟨oy, cy, rfl, hcy⟩ := hy.form
  clear hx hy
  by_cases hl : l.length = m.length
  · have e1 : ((l.length : Int) == (m.length : Int)) = true := by simp; omega
    have e2 : ((l.length : Int) != (m.length : Int)) = false := by simp; omega
    replace hl := hid hl
    go_enter Try.func51, Try.ntmps51
    go_wp2_with fail
    go_loopw [5] (fun i W => ∃ j : Nat, j ≤ l.length ∧ i = .int .i64 j ∧ Hid (l.take j = m.take j) ∧ Kp NoB w W) (fun i _ => l.length - (intOf i).toNat)
    case atStart => exact ⟨0, Nat.zero_le _, rfl, hid (by simp), Kp.refl _ _⟩
    case round =>
      obtain ⟨j, hj, rfl, hT, hK⟩ := hrel
      have d1 : (0 : Int) ≤ (j : Int) := Int.natCast_nonneg _
      by_cases hlt : j < l.length
      · have d2 : (j : Int) < (l.length : Int) := by omega
        have d3 : (j : Int) < (m.length : Int) := by have := hl.out; omega
        obtain ⟨a, ha⟩ : ∃ a, l[j]? = some a := ⟨_, List.getElem?_eq_getElem hlt⟩
        obtain ⟨b, hb⟩ : ∃ b, m[j]? = some b := ⟨_, List.getElem?_eq_getElem (by have := hl.out; omega)⟩
        obtain ⟨bx, fx, cx', hvx, _, hbx, Lx⟩ := Cx.out j a ha
        obtain ⟨by_, fy, cy', hvy, _, hby, Ly⟩ := Cy.out j b hb
        injection hvx with h1 _ h3
        subst h1; subst h3
        injection hvy with h1 _ h3
        subst h1; subst h3
        have lbx : bx < wr.heap.size := Nat.lt_of_lt_of_le hbx hK.size
        have lby : by_ < wr.heap.size := Nat.lt_of_lt_of_le hby hK.size
        have Lx0 := Lx wr hK 0 _ rfl
        have Ly0 := Ly wr hK 0 _ rfl
        simp only [Nat.mul_one, Nat.add_zero] at Lx0 Ly0
        clear Lx Ly
        by_cases hab : a = b
        · subst hab
          have hT' := hid (take_next hT.out ha hb)
          replace ha := hid ha
          replace hb := hid hb
          replace hK := hid hK
          go_wp2_with fail
          refine wp_region_G (fun _ => True) [(0, .at_), (1, .at_), (2, .at_), (3, .at_), (4, .at_), (5, .at_), (6, .at_), (7, .at_), (8, .at_)] ?L1 (by kernel_rfl) (by kernel_rfl) ?hL1 (trivial) ?hG1
          case hL1 => simp only [pickOps, List.map_cons, List.map_nil, List.getD_cons_zero, List.getD_cons_succ]; rfl
          repeat (first | (refine wpG_at (v := ?_) (by rfl) ?_ ?_; rotate_left; (focus (first | (go_simp; with_reducible rfl) | (go_simp; done))); simp only [Act.put, List.setIfInBounds_toArray, List.set_cons_zero, List.set_cons_succ]) | (refine wpG_at_skip (by rfl) ?_; simp only [Act.put, List.setIfInBounds_toArray, List.set_cons_zero, List.set_cons_succ]) | (refine wpG_held_skip (by rfl) ?_; simp only [Act.put, List.setIfInBounds_toArray, List.set_cons_zero, List.set_cons_succ]) | (refine wpG_held (v := ?_) (by rfl) ?_ ?_; rotate_left; (focus (intro w' hSw; (try dsimp only at hSw); go_split_ands; first | (go_simp; with_reducible rfl) | (go_simp; done))); simp only [Act.put, List.setIfInBounds_toArray, List.set_cons_zero, List.set_cons_succ]))
          refine wpG_nil (NoPanic.normal ?_)
          go_wp2_with fail
          go_roundw
          case rel => exact ⟨j + 1, by omega, by go_num, hT', hK.out.drew⟩
          case measure => simp [intOf]; omega
        · have hne := hid (ne_at ha hb hab)
          replace ha := hid ha
          replace hb := hid hb
          replace hK := hid hK
          have e3 : (a == b) = false := by simpa using hab
          have e4 : (a != b) = true := by simpa using hab
          clear hab
          go_wp2_with fail
          refine wp_region_G (fun _ => True) [(0, .at_), (1, .at_), (2, .at_), (3, .at_), (4, .at_), (5, .at_), (6, .at_), (7, .at_), (8, .at_)] ?L2 (by kernel_rfl) (by kernel_rfl) ?hL2 (trivial) ?hG2
          case hL2 => simp only [pickOps, List.map_cons, List.map_nil, List.getD_cons_zero, List.getD_cons_succ]; rfl
          repeat (first | (refine wpG_at (v := ?_) (by rfl) ?_ ?_; rotate_left; (focus (first | (go_simp; with_reducible rfl) | (go_simp; done))); simp only [Act.put, List.setIfInBounds_toArray, List.set_cons_zero, List.set_cons_succ]) | (refine wpG_at_skip (by rfl) ?_; simp only [Act.put, List.setIfInBounds_toArray, List.set_cons_zero, List.set_cons_succ]) | (refine wpG_held_skip (by rfl) ?_; simp only [Act.put, List.setIfInBounds_toArray, List.set_cons_zero, List.set_cons_succ]) | (refine wpG_held (v := ?_) (by rfl) ?_ ?_; rotate_left; (focus (intro w' hSw; (try dsimp only at hSw); go_split_ands; first | (go_simp; with_reducible rfl) | (go_simp; done))); simp only [Act.put, List.setIfInBounds_toArray, List.set_cons_zero, List.set_cons_succ]))
          refine wpG_nil (NoPanic.normal ?_)
          go_wp2_with fail
          go_ret
          exact ⟨by rw [decide_eq_false hne.out]; rfl, hK.out.drew⟩

      · obtain rfl : j = l.length := by omega
        replace hK := hid hK
        have hlm := hid (take_end hT.out hl.out)
        go_wp2_with fail
        go_ret
        exact ⟨by rw [decide_eq_true hlm.out]; rfl, hK.out⟩
  · have e1 : ((l.length : Int) == (m.length : Int)) = false := by simp; omega
    have e2 : ((l.length : Int) != (m.length : Int)) = true := by simp; omega
    have hne := hid (show l ≠ m from fun h => hl (by rw [h]))
    clear hl
    go_enter Try.func51, Try.ntmps51
    go_wp2_with fail
    go_ret
    exact ⟨by rw [decide_eq_false hne.out]; rfl, Kp.refl _ w⟩
set_option maxRecDepth 100000 in
set_option maxHeartbeats 4000000 in
theorem samelist_any {l m : List (Int × Int)} (hx : Sl w 59 eH x l) (hy : Sl w 59 eH y m) (hll : l.length ≤ 100000) (hml : m.length ≤ 100000) :
    Calls Try.prog 41 #[x, y] w fun e w' => e = .returned (.bool (decide (l = m))) ∧ Kp NoB w w' := by
  have Cx := hid (fun (k : Nat) (a : (Int × Int)) (hk : l[k]? = some a) => hx.cells eH_len hk)
  have Cy := hid (fun (k : Nat) (a : (Int × Int)) (hk : m[k]? = some a) => hy.cells eH_len hk)
  obtain ⟨ox, cx, rfl, hcx⟩ := hx.form
  obtain ⟨oy, cy, rfl, hcy⟩ := hy.form
  clear hx hy
  by_cases hl : l.length = m.length
  · have e1 : ((l.length : Int) == (m.length : Int)) = true := by simp; omega
    have e2 : ((l.length : Int) != (m.length : Int)) = false := by simp; omega
    replace hl := hid hl
    go_enter Try.func41, Try.ntmps41
    go_wp2_with fail
    go_loopw [5] (fun i W => ∃ j : Nat, j ≤ l.length ∧ i = .int .i64 j ∧ Hid (l.take j = m.take j) ∧ Kp NoB w W) (fun i _ => l.length - (intOf i).toNat)
    case atStart => exact ⟨0, Nat.zero_le _, rfl, hid (by simp), Kp.refl _ _⟩
    case round =>
      obtain ⟨j, hj, rfl, hT, hK⟩ := hrel
      have d1 : (0 : Int) ≤ (j : Int) := Int.natCast_nonneg _
      by_cases hlt : j < l.length
      · have d2 : (j : Int) < (l.length : Int) := by omega
        have d3 : (j : Int) < (m.length : Int) := by have := hl.out; omega
        obtain ⟨a, ha⟩ : ∃ a, l[j]? = some a := ⟨_, List.getElem?_eq_getElem hlt⟩
        obtain ⟨b, hb⟩ : ∃ b, m[j]? = some b := ⟨_, List.getElem?_eq_getElem (by have := hl.out; omega)⟩
        obtain ⟨bx, fx, cx', hvx, _, hbx, Lx⟩ := Cx.out j a ha
        obtain ⟨by_, fy, cy', hvy, _, hby, Ly⟩ := Cy.out j b hb
        injection hvx with h1 _ h3
        subst h1; subst h3
        injection hvy with h1 _ h3
        subst h1; subst h3
        have lbx : bx < wr.heap.size := Nat.lt_of_lt_of_le hbx hK.size
        have lby : by_ < wr.heap.size := Nat.lt_of_lt_of_le hby hK.size
        obtain ⟨a1, a2⟩ := a
        obtain ⟨b1, b2⟩ := b
        have Lx0 := Lx wr hK 0 _ rfl
        have Ly0 := Ly wr hK 0 _ rfl
        have Lx1 := Lx wr hK 1 _ rfl
        have Ly1 := Ly wr hK 1 _ rfl
        simp only [Nat.add_zero, ← Nat.add_assoc] at Lx0 Ly0 Lx1 Ly1
        clear Lx Ly
        by_cases hab : (a1, a2) = (b1, b2)
        · obtain ⟨rfl, rfl⟩ := Prod.mk.inj hab
          have hT' := hid (take_next hT.out ha hb)
          replace ha := hid ha
          replace hb := hid hb
          replace hK := hid hK
          go_wp2_with fail
          refine wp_region_G (fun _ => True) [(0, .at_), (1, .at_), (2, .at_), (3, .at_), (4, .at_), (5, .at_), (6, .at_), (7, .at_), (8, .at_)] ?L3 (by kernel_rfl) (by kernel_rfl) ?hL3 (trivial) ?hG3
          case hL3 => simp only [pickOps, List.map_cons, List.map_nil, List.getD_cons_zero, List.getD_cons_succ]; rfl
          repeat (first | (refine wpG_at (v := ?_) (by rfl) ?_ ?_; rotate_left; (focus (first | (go_simp; with_reducible rfl) | (go_simp; done))); simp only [Act.put, List.setIfInBounds_toArray, List.set_cons_zero, List.set_cons_succ]) | (refine wpG_at_skip (by rfl) ?_; simp only [Act.put, List.setIfInBounds_toArray, List.set_cons_zero, List.set_cons_succ]) | (refine wpG_held_skip (by rfl) ?_; simp only [Act.put, List.setIfInBounds_toArray, List.set_cons_zero, List.set_cons_succ]) | (refine wpG_held (v := ?_) (by rfl) ?_ ?_; rotate_left; (focus (intro w' hSw; (try dsimp only at hSw); go_split_ands; first | (go_simp; with_reducible rfl) | (go_simp; done))); simp only [Act.put, List.setIfInBounds_toArray, List.set_cons_zero, List.set_cons_succ]))
          refine wpG_nil (NoPanic.normal ?_)
          go_wp2_with fail
          go_roundw
          case rel => exact ⟨j + 1, by omega, by go_num, hT', hK.out.drew⟩
          case measure => simp [intOf]; omega
        · have hne := hid (ne_at ha hb hab)
          replace ha := hid ha
          replace hb := hid hb
          replace hK := hid hK
          by_cases h1 : a1 = b1
          · subst h1
            have h2 : a2 ≠ b2 := fun e => hab (by rw [e])
            have e3 : (a2 == b2) = false := by simpa using h2
            have e4 : (a2 != b2) = true := by simpa using h2
            clear hab h2
            go_wp2_with fail
            refine wp_region_G (fun _ => True) [(0, .at_), (1, .at_), (2, .at_), (3, .at_), (4, .at_), (5, .at_), (6, .at_), (7, .at_), (8, .at_)] ?L4 (by kernel_rfl) (by kernel_rfl) ?hL4 (trivial) ?hG4
            case hL4 => simp only [pickOps, List.map_cons, List.map_nil, List.getD_cons_zero, List.getD_cons_succ]; rfl
            repeat (first | (refine wpG_at (v := ?_) (by rfl) ?_ ?_; rotate_left; (focus (first | (go_simp; with_reducible rfl) | (go_simp; done))); simp only [Act.put, List.setIfInBounds_toArray, List.set_cons_zero, List.set_cons_succ]) | (refine wpG_at_skip (by rfl) ?_; simp only [Act.put, List.setIfInBounds_toArray, List.set_cons_zero, List.set_cons_succ]) | (refine wpG_held_skip (by rfl) ?_; simp only [Act.put, List.setIfInBounds_toArray, List.set_cons_zero, List.set_cons_succ]) | (refine wpG_held (v := ?_) (by rfl) ?_ ?_; rotate_left; (focus (intro w' hSw; (try dsimp only at hSw); go_split_ands; first | (go_simp; with_reducible rfl) | (go_simp; done))); simp only [Act.put, List.setIfInBounds_toArray, List.set_cons_zero, List.set_cons_succ]))
            refine wpG_nil (NoPanic.normal ?_)
            go_wp2_with fail
            go_ret
            exact ⟨by rw [decide_eq_false hne.out]; rfl, hK.out.drew⟩
          · have e3 : (a1 == b1) = false := by simpa using h1
            have e4 : (a1 != b1) = true := by simpa using h1
            clear hab h1
            go_wp2_with fail
            refine wp_region_G (fun _ => True) [(0, .at_), (1, .at_), (2, .at_), (3, .at_), (4, .at_), (5, .at_), (6, .at_), (7, .at_), (8, .at_)] ?L5 (by kernel_rfl) (by kernel_rfl) ?hL5 (trivial) ?hG5
            case hL5 => simp only [pickOps, List.map_cons, List.map_nil, List.getD_cons_zero, List.getD_cons_succ]; rfl
            repeat (first | (refine wpG_at (v := ?_) (by rfl) ?_ ?_; rotate_left; (focus (first | (go_simp; with_reducible rfl) | (go_simp; done))); simp only [Act.put, List.setIfInBounds_toArray, List.set_cons_zero, List.set_cons_succ]) | (refine wpG_at_skip (by rfl) ?_; simp only [Act.put, List.setIfInBounds_toArray, List.set_cons_zero, List.set_cons_succ]) | (refine wpG_held_skip (by rfl) ?_; simp only [Act.put, List.setIfInBounds_toArray, List.set_cons_zero, List.set_cons_succ]) | (refine wpG_held (v := ?_) (by rfl) ?_ ?_; rotate_left; (focus (intro w' hSw; (try dsimp only at hSw); go_split_ands; first | (go_simp; with_reducible rfl) | (go_simp; done))); simp only [Act.put, List.setIfInBounds_toArray, List.set_cons_zero, List.set_cons_succ]))
            refine wpG_nil (NoPanic.normal ?_)
            go_wp2_with fail
            go_ret
            exact ⟨by rw [decide_eq_false hne.out]; rfl, hK.out.drew⟩

      · obtain rfl : j = l.length := by omega
        replace hK := hid hK
        have hlm := hid (take_end hT.out hl.out)
        go_wp2_with fail
        go_ret
        exact ⟨by rw [decide_eq_true hlm.out]; rfl, hK.out⟩
  · have e1 : ((l.length : Int) == (m.length : Int)) = false := by simp; omega
    have e2 : ((l.length : Int) != (m.length : Int)) = true := by simp; omega
    have hne := hid (show l ≠ m from fun h => hl (by rw [h]))
    clear hl
    go_enter Try.func41, Try.ntmps41
    go_wp2_with fail
    go_ret
    exact ⟨by rw [decide_eq_false hne.out]; rfl, Kp.refl _ w⟩
theorem sameInts_any {l m : List Int} (hx : Sl w 3 eI x l) (hy : Sl w 3 eI y m) (hll : l.length ≤ 100000) (hml : m.length ≤ 100000) :
    Calls Try.prog 31 #[x, y] w fun e w' => e = .returned (.bool (decide (l = m))) ∧ Kp NoB w w' := by
  have HS := hid (sameints_any hx hy hll hml)
  obtain ⟨ox, cx, rfl, hcx⟩ := hx.form
  obtain ⟨oy, cy, rfl, hcy⟩ := hy.form
  clear hx hy
  go_enter Try.func31, Try.ntmps31
  go_wp2_with fail
  refine HS.out.mono ?_
  rintro e w1 ⟨rfl, k⟩
  go_wp2_with fail
  go_ret
  exact ⟨rfl, k⟩
end
end Go.Proofs.Ytplbkjgkocnehaa
