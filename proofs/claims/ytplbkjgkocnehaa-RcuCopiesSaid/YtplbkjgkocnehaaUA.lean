/- Joined: U37 U38. -/
import Derived.Test.YtplbkjgkocnehaaU9
namespace Go.Proofs.Ytplbkjgkocnehaa
set_option linter.unusedSimpArgs false
set_option linter.unusedVariables false
open Go.RowKit
attribute [local go_sem ↓] Go.wp_at_zero Go.wp_at_succ
section
variable {w w' : World} {x y : Value}
set_option maxRecDepth 100000 in
set_option maxHeartbeats 4000000 in
theorem equalI_any {l m : List Int} (hx : Sl w 3 eI x l) (hy : Sl w 3 eI y m) (hll : l.length ≤ 100000) (hml : m.length ≤ 100000) :
    Calls Try.prog 46 #[x, y] w fun e w' => e = .returned (.bool (decide (l = m))) ∧ Kp NoB w w' := by
  have Cx := hid (fun (k : Nat) (a : Int) (hk : l[k]? = some a) => hx.cells eI_len hk)
  have Cy := hid (fun (k : Nat) (a : Int) (hk : m[k]? = some a) => hy.cells eI_len hk)
  obtain ⟨ox, cx, rfl, hcx⟩ := hx.form
  obtain ⟨oy, cy, rfl, hcy⟩ := hy.form
  clear hx hy
  by_cases hl : l.length = m.length
  · have e1 : ((l.length : Int) == (m.length : Int)) = true := by simp; omega
    have e2 : ((l.length : Int) != (m.length : Int)) = false := by simp; omega
    replace hl := hid hl
    go_enter Try.func46, Try.ntmps46
    go_wp2_with fail
    go_loopw [13] (fun i W => ∃ j : Nat, j ≤ l.length ∧ i = .int .i64 j ∧ Hid (l.take j = m.take j) ∧ Kp NoB w W) (fun i _ => l.length - (intOf i).toNat)
    case atStart => exact ⟨0, Nat.zero_le _, rfl, hid (by simp), Kp.refl _ _⟩
    case round =>
      obtain ⟨j, hj, rfl, hT, hK⟩ := hrel
      have d1 : (0 : Int) ≤ (j : Int) := Int.natCast_nonneg _
      by_cases hlt : j < l.length
      · have d2 : (j : Int) < (l.length : Int) := by omega
        have d3 : (j : Int) < (m.length : Int) := by have := hl.out; omega
        obtain ⟨a, ha⟩ : ∃ a, l[j]? = some a := ⟨_, List.getElem?_eq_getElem hlt⟩
        obtain ⟨b, hb⟩ : ∃ b, m[j]? = some b := ⟨_, List.getElem?_eq_getElem (by have := hl.out; omega)⟩
        obtain ⟨bx, fx, cx', hvx, _, hbx, Lx⟩ := Cx.out j a ha
        obtain ⟨by_, fy, cy', hvy, _, hby, Ly⟩ := Cy.out j b hb
        injection hvx with h1 _ h3
        subst h1; subst h3
        injection hvy with h1 _ h3
        subst h1; subst h3
        have lbx : bx < wr.heap.size := Nat.lt_of_lt_of_le hbx hK.size
        have lby : by_ < wr.heap.size := Nat.lt_of_lt_of_le hby hK.size
        have Lx0 := Lx wr hK 0 _ rfl
        have Ly0 := Ly wr hK 0 _ rfl
        simp only [Nat.mul_one, Nat.add_zero] at Lx0 Ly0
        clear Lx Ly
        by_cases hab : a = b
        · subst hab
          have hT' := hid (take_next hT.out ha hb)
          replace ha := hid ha
          replace hb := hid hb
          replace hK := hid hK
          go_wp2_with fail
          refine wp_region_G (fun _ => True) [(0, .at_), (1, .at_), (2, .at_), (3, .at_), (4, .at_), (5, .at_), (6, .at_), (7, .at_), (8, .at_)] ?L1 (by kernel_rfl) (by kernel_rfl) ?hL1 (trivial) ?hG1
          case hL1 => simp only [pickOps, List.map_cons, List.map_nil, List.getD_cons_zero, List.getD_cons_succ]; rfl
          repeat (first | (refine wpG_at (v := ?_) (by rfl) ?_ ?_; rotate_left; (focus (first | (go_simp; with_reducible rfl) | (go_simp; done))); simp only [Act.put, List.setIfInBounds_toArray, List.set_cons_zero, List.set_cons_succ]) | (refine wpG_at_skip (by rfl) ?_; simp only [Act.put, List.setIfInBounds_toArray, List.set_cons_zero, List.set_cons_succ]) | (refine wpG_held_skip (by rfl) ?_; simp only [Act.put, List.setIfInBounds_toArray, List.set_cons_zero, List.set_cons_succ]) | (refine wpG_held (v := ?_) (by rfl) ?_ ?_; rotate_left; (focus (intro w' hSw; (try dsimp only at hSw); go_split_ands; first | (go_simp; with_reducible rfl) | (go_simp; done))); simp only [Act.put, List.setIfInBounds_toArray, List.set_cons_zero, List.set_cons_succ]))
          refine wpG_nil (NoPanic.normal ?_)
          go_wp2_with fail
          go_roundw
          case rel => exact ⟨j + 1, by omega, by go_num, hT', hK.out.drew⟩
          case measure => simp [intOf]; omega
        · have hne := hid (ne_at ha hb hab)
          replace ha := hid ha
          replace hb := hid hb
          replace hK := hid hK
          have e3 : (a == b) = false := by simpa using hab
          have e4 : (a != b) = true := by simpa using hab
          clear hab
          go_wp2_with fail
          refine wp_region_G (fun _ => True) [(0, .at_), (1, .at_), (2, .at_), (3, .at_), (4, .at_), (5, .at_), (6, .at_), (7, .at_), (8, .at_)] ?L2 (by kernel_rfl) (by kernel_rfl) ?hL2 (trivial) ?hG2
          case hL2 => simp only [pickOps, List.map_cons, List.map_nil, List.getD_cons_zero, List.getD_cons_succ]; rfl
          repeat (first | (refine wpG_at (v := ?_) (by rfl) ?_ ?_; rotate_left; (focus (first | (go_simp; with_reducible rfl) | (go_simp; done))); simp only [Act.put, List.setIfInBounds_toArray, List.set_cons_zero, List.set_cons_succ]) | (refine wpG_at_skip (by rfl) ?_; simp only [Act.put, List.setIfInBounds_toArray, List.set_cons_zero, List.set_cons_succ]) | (refine wpG_held_skip (by rfl) ?_; simp only [Act.put, List.setIfInBounds_toArray, List.set_cons_zero, List.set_cons_succ]) | (refine wpG_held (v := ?_) (by rfl) ?_ ?_; rotate_left; (focus (intro w' hSw; (try dsimp only at hSw); go_split_ands; first | (go_simp; with_reducible rfl) | (go_simp; done))); simp only [Act.put, List.setIfInBounds_toArray, List.set_cons_zero, List.set_cons_succ]))
          refine wpG_nil (NoPanic.normal ?_)
          go_wp2_with fail
          go_ret
          exact ⟨by rw [decide_eq_false hne.out]; rfl, hK.out.drew⟩

      · obtain rfl : j = l.length := by omega
        replace hK := hid hK
        have hlm := hid (take_end hT.out hl.out)
        go_wp2_with fail
        go_ret
        exact ⟨by rw [decide_eq_true hlm.out]; rfl, hK.out⟩
  · have e1 : ((l.length : Int) == (m.length : Int)) = false := by simp; omega
    have e2 : ((l.length : Int) != (m.length : Int)) = true := by simp; omega
    have hne := hid (show l ≠ m from fun h => hl (by rw [h]))
    clear hl
    go_enter Try.func46, Try.ntmps46
    go_wp2_with fail
    go_ret
    exact ⟨by rw [decide_eq_false hne.out]; rfl, Kp.refl _ w⟩
set_option maxRecDepth 100000 in
set_option maxHeartbeats 4000000 in
theorem equalH_any {l m : List (Int × Int)} (hx : Sl w 59 eH x l) (hy : Sl w 59 eH y m) (hll : l.length ≤ 100000) (hml : m.length ≤ 100000) :
    Calls Try.prog 49 #[x, y] w fun e w' => e = .returned (.bool (decide (l = m))) ∧ Kp NoB w w' := by
  have Cx := hid (fun (k : Nat) (a : (Int × Int)) (hk : l[k]? = some a) => hx.cells eH_len hk)
  have Cy := hid (fun (k : Nat) (a : (Int × Int)) (hk : m[k]? = some a) => hy.cells eH_len hk)
  obtain ⟨ox, cx, rfl, hcx⟩ := hx.form
  obtain ⟨oy, cy, rfl, hcy⟩ := hy.form
  clear hx hy
  by_cases hl : l.length = m.length
  · have e1 : ((l.length : Int) == (m.length : Int)) = true := by simp; omega
    have e2 : ((l.length : Int) != (m.length : Int)) = false := by simp; omega
    replace hl := hid hl
    go_enter Try.func49, Try.ntmps49
    go_wp2_with fail
    go_loopw [13] (fun i W => ∃ j : Nat, j ≤ l.length ∧ i = .int .i64 j ∧ Hid (l.take j = m.take j) ∧ Kp NoB w W) (fun i _ => l.length - (intOf i).toNat)
    case atStart => exact ⟨0, Nat.zero_le _, rfl, hid (by simp), Kp.refl _ _⟩
    case round =>
      obtain ⟨j, hj, rfl, hT, hK⟩ := hrel
      have d1 : (0 : Int) ≤ (j : Int) := Int.natCast_nonneg _
      by_cases hlt : j < l.length
      · have d2 : (j : Int) < (l.length : Int) := by omega
        have d3 : (j : Int) < (m.length : Int) := by have := hl.out; omega
        obtain ⟨a, ha⟩ : ∃ a, l[j]? = some a := ⟨_, List.getElem?_eq_getElem hlt⟩
        obtain ⟨b, hb⟩ : ∃ b, m[j]? = some b := ⟨_, List.getElem?_eq_getElem (by have := hl.out; omega)⟩
        obtain ⟨bx, fx, cx', hvx, _, hbx, Lx⟩ := Cx.out j a ha
        obtain ⟨by_, fy, cy', hvy, _, hby, Ly⟩ := Cy.out j b hb
        injection hvx with h1 _ h3
        subst h1; subst h3
        injection hvy with h1 _ h3
        subst h1; subst h3
        have lbx : bx < wr.heap.size := Nat.lt_of_lt_of_le hbx hK.size
        have lby : by_ < wr.heap.size := Nat.lt_of_lt_of_le hby hK.size
        obtain ⟨a1, a2⟩ := a
        obtain ⟨b1, b2⟩ := b
        have Lx0 := Lx wr hK 0 _ rfl
        have Ly0 := Ly wr hK 0 _ rfl
        have Lx1 := Lx wr hK 1 _ rfl
        have Ly1 := Ly wr hK 1 _ rfl
        simp only [Nat.add_zero, ← Nat.add_assoc] at Lx0 Ly0 Lx1 Ly1
        clear Lx Ly
        by_cases hab : (a1, a2) = (b1, b2)
        · obtain ⟨rfl, rfl⟩ := Prod.mk.inj hab
          have hT' := hid (take_next hT.out ha hb)
          replace ha := hid ha
          replace hb := hid hb
          replace hK := hid hK
          go_wp2_with fail
          refine wp_region_G (fun _ => True) [(0, .at_), (1, .at_), (2, .at_), (3, .at_), (4, .at_), (5, .at_), (6, .at_), (7, .at_), (8, .at_)] ?L3 (by kernel_rfl) (by kernel_rfl) ?hL3 (trivial) ?hG3
          case hL3 => simp only [pickOps, List.map_cons, List.map_nil, List.getD_cons_zero, List.getD_cons_succ]; rfl
          repeat (first | (refine wpG_at (v := ?_) (by rfl) ?_ ?_; rotate_left; (focus (first | (go_simp; with_reducible rfl) | (go_simp; done))); simp only [Act.put, List.setIfInBounds_toArray, List.set_cons_zero, List.set_cons_succ]) | (refine wpG_at_skip (by rfl) ?_; simp only [Act.put, List.setIfInBounds_toArray, List.set_cons_zero, List.set_cons_succ]) | (refine wpG_held_skip (by rfl) ?_; simp only [Act.put, List.setIfInBounds_toArray, List.set_cons_zero, List.set_cons_succ]) | (refine wpG_held (v := ?_) (by rfl) ?_ ?_; rotate_left; (focus (intro w' hSw; (try dsimp only at hSw); go_split_ands; first | (go_simp; with_reducible rfl) | (go_simp; done))); simp only [Act.put, List.setIfInBounds_toArray, List.set_cons_zero, List.set_cons_succ]))
          refine wpG_nil (NoPanic.normal ?_)
          go_wp2_with fail
          go_roundw
          case rel => exact ⟨j + 1, by omega, by go_num, hT', hK.out.drew⟩
          case measure => simp [intOf]; omega
        · have hne := hid (ne_at ha hb hab)
          replace ha := hid ha
          replace hb := hid hb
          replace hK := hid hK
          by_cases h1 : a1 = b1
          · subst h1
            have h2 : a2 ≠ b2 := fun e => hab (by rw [e])
            have e3 : (a2 == b2) = false := by simpa using h2
            have e4 : (a2 != b2) = true := by simpa using h2
            clear hab h2
            go_wp2_with fail
            refine wp_region_G (fun _ => True) [(0, .at_), (1, .at_), (2, .at_), (3, .at_), (4, .at_), (5, .at_), (6, .at_), (7, .at_), (8, .at_)] ?L4 (by kernel_rfl) (by kernel_rfl) ?hL4 (trivial) ?hG4
            case hL4 => simp only [pickOps, List.map_cons, List.map_nil, List.getD_cons_zero, List.getD_cons_succ]; rfl
            repeat (first | (refine wpG_at (v := ?_) (by rfl) ?_ ?_; rotate_left; (focus (first | (go_simp; with_reducible rfl) | (go_simp; done))); simp only [Act.put, List.setIfInBounds_toArray, List.set_cons_zero, List.set_cons_succ]) | (refine wpG_at_skip (by rfl) ?_; simp only [Act.put, List.setIfInBounds_toArray, List.set_cons_zero, List.set_cons_succ]) | (refine wpG_held_skip (by rfl) ?_; simp only [Act.put, List.setIfInBounds_toArray, List.set_cons_zero, List.set_cons_succ]) | (refine wpG_held (v := ?_) (by rfl) ?_ ?_; rotate_left; (focus (intro w' hSw; (try dsimp only at hSw); go_split_ands; first | (go_simp; with_reducible rfl) | (go_simp; done))); simp only [Act.put, List.setIfInBounds_toArray, List.set_cons_zero, List.set_cons_succ]))
            refine wpG_nil (NoPanic.normal ?_)
            go_wp2_with fail
            go_ret
            exact ⟨by rw [decide_eq_false hne.out]; rfl, hK.out.drew⟩
          · have e3 : (a1 == b1) = false := by simpa using h1
            have e4 : (a1 != b1) = true := by simpa using h1
            clear hab h1
            go_wp2_with fail
            refine wp_region_G (fun _ => True) [(0, .at_), (1, .at_), (2, .at_), (3, .at_), (4, .at_), (5, .at_), (6, .at_), (7, .at_), (8, .at_)] ?L5 (by kernel_rfl) (by kernel_rfl) ?hL5 (trivial) ?hG5
            case hL5 => simp only [pickOps, List.map_cons, List.map_nil, List.getD_cons_zero, List.getD_cons_succ]; rfl
            repeat (first | (refine wpG_at (v := ?_) (by rfl) ?_ ?_; rotate_left; (focus (first | (go_simp; with_reducible rfl) | (go_simp; done))); simp only [Act.put, List.setIfInBounds_toArray, List.set_cons_zero, List.set_cons_succ]) | (refine wpG_at_skip (by rfl) ?_; simp only [Act.put, List.setIfInBounds_toArray, List.set_cons_zero, List.set_cons_succ]) | (refine wpG_held_skip (by rfl) ?_; simp only [Act.put, List.setIfInBounds_toArray, List.set_cons_zero, List.set_cons_succ]) | (refine wpG_held (v := ?_) (by rfl) ?_ ?_; rotate_left; (focus (intro w' hSw; (try dsimp only at hSw); go_split_ands; first | (go_simp; with_reducible rfl) | (go_simp; done))); simp only [Act.put, List.setIfInBounds_toArray, List.set_cons_zero, List.set_cons_succ]))
            refine wpG_nil (NoPanic.normal ?_)
            go_wp2_with fail
            go_ret
            exact ⟨by rw [decide_eq_false hne.out]; rfl, hK.out.drew⟩

      · obtain rfl : j = l.length := by omega
        replace hK := hid hK
        have hlm := hid (take_end hT.out hl.out)
        go_wp2_with fail
        go_ret
        exact ⟨by rw [decide_eq_true hlm.out]; rfl, hK.out⟩
  · have e1 : ((l.length : Int) == (m.length : Int)) = false := by simp; omega
    have e2 : ((l.length : Int) != (m.length : Int)) = true := by simp; omega
    have hne := hid (show l ≠ m from fun h => hl (by rw [h]))
    clear hl
    go_enter Try.func49, Try.ntmps49
    go_wp2_with fail
    go_ret
    exact ⟨by rw [decide_eq_false hne.out]; rfl, Kp.refl _ w⟩
end
open Go.RowKit Go.Shelf
attribute [local go_sem ↓] Go.wp_at_zero Go.wp_at_succ
theorem rise_sub : ∀ {l2 l1 : List Nat}, l1.Pairwise (· < ·) → l2.Pairwise (· < ·) → (∀ x ∈ l1, x ∈ l2) → l1.length ≤ l2.length ∧ (l1.length = l2.length → l1 = l2)
  | [], l1, _, _, h => by
    match l1, h with
    | [], _ => exact ⟨Nat.le_refl _, fun _ => rfl⟩
    | a :: t, h => exact absurd (h a List.mem_cons_self) (by simp)
  | b :: t2, [], _, _, _ => ⟨Nat.zero_le _, fun h => by simp at h⟩
  | b :: t2, a :: t1, h1, h2, h => by
    obtain ⟨h1a, h1t⟩ := List.pairwise_cons.1 h1
    obtain ⟨h2a, h2t⟩ := List.pairwise_cons.1 h2
    by_cases e : a = b
    · subst e
      have ih := rise_sub h1t h2t (fun x hx => by
        rcases List.mem_cons.1 (h x (List.mem_cons_of_mem _ hx)) with e | e
        · have := h1a x hx; omega
        · exact e)
      refine ⟨by simp only [List.length_cons]; omega, fun hl => ?_⟩
      rw [ih.2 (by simp only [List.length_cons] at hl; omega)]
    · have ha : a ∈ t2 := by
        rcases List.mem_cons.1 (h a List.mem_cons_self) with e' | e'
        · exact absurd e' e
        · exact e'
      have hb := h2a a ha
      have ih := rise_sub h1 h2t (fun x hx => by
        rcases List.mem_cons.1 (h x hx) with e' | e'
        · exfalso
          rcases List.mem_cons.1 hx with e2 | e2
          · omega
          · have := h1a x e2; omega
        · exact e')
      refine ⟨by simp only [List.length_cons] at ih ⊢; omega, fun hl => ?_⟩
      have := ih.1
      simp only [List.length_cons] at hl this
      omega
theorem zero3 (w : World) : (zeroValue 3).run Try.prog w = .ok (.int .i64 0) w := by kernel_rfl
theorem mget_in {ws : List Nat} {k : Nat} (h : k ∈ ws) : mget (wM ws) k = some (.int .i64 k) := by
  induction ws with
  | nil => cases h
  | cons a t ih =>
    by_cases e : a = k
    · subst e
      unfold mget wM
      simp
    · have hk : k ∈ t := by
        rcases List.mem_cons.1 h with e' | e'
        · exact absurd e'.symm e
        · exact e'
      rw [← ih hk]
      unfold mget wM
      have hne : (((a : Nat) : Int) == (k : Int)) = false := by simp; omega
      simp [List.find?_cons, hne]
section
variable {w w' : World} {m1 m2 : Nat} {ws1 ws2 : List Nat}
set_option maxRecDepth 100000 in
set_option maxHeartbeats 8000000 in
theorem mequal_any {n : Nat} (h1 : MapAt .i64 w m1 (wM ws1)) (h2 : MapAt .i64 w m2 (wM ws2)) (n8 : n ≤ 8) (p1 : ws1.Pairwise (· < ·)) (q1 : ∀ t ∈ ws1, t < n) (p2 : ws2.Pairwise (· < ·)) (q2 : ∀ t ∈ ws2, t < n) :
    Calls Try.prog 50 #[.map (some m1), .map (some m2)] w fun e w' => e = .returned (.bool (decide (ws1 = ws2))) ∧ Kp NoB w w' := by
  have l1 := ws_len p1 q1
  have l2 := ws_len p2 q2
  have hlen1 := h1.len (P := Try.prog) k71 3 (by rw [wM_len]; omega)
  have hlen2 := h2.len (P := Try.prog) k71 3 (by rw [wM_len]; omega)
  rw [wM_len] at hlen1 hlen2
  have H1 := hid h1
  have H2 := hid h2
  have O1 := hid (wM_ok p1 q1 (by omega))
  have O2 := hid (wM_ok p2 q2 (by omega))
  have P1 := hid p1
  have P2 := hid p2
  have Q1 := hid q1
  have hm1l := h1.lt
  by_cases hl : ws1.length = ws2.length
  · obtain ⟨w3, hrg, ⟨cnt, I3⟩, kp3⟩ := h1.range (P := Try.prog) k71
    have hls : ((ws1.length : Int) != (ws2.length : Int)) = false := by simp [hl]
    replace I3 := hid I3
    replace kp3 := hid kp3
    replace hl := hid hl
    clear h1 h2 p1 p2 q1 q2 l1 l2
    go_enter Try.func50, Try.ntmps50
    go_wp2_with fail
    go_loopw [] (fun W => ∃ (S : List Int) (c : Nat), IterAt .i64 W w.heap.size m1 (wM ws1) S c ∧ Hid (∀ t : Nat, (t : Int) ∈ S → t ∈ ws2) ∧ Kp NoB w W) (fun W => itLeft W w.heap.size m1)
    case atStart => exact ⟨[], cnt, I3.out, hid (by simp), kp3.out⟩
    case round =>
      obtain ⟨S, c, hI, hS, hK⟩ := hrel
      rcases hI.next (P := Try.prog) O1.out 0 with ⟨hA, hnx⟩ | ⟨k, v, w5, c', hkM, hkS, hnx, hI', hlt, hk5, hen⟩
      · have hT := hid (show decide (ws1 = ws2) = true from decide_eq_true ((rise_sub P1.out P2.out (fun t ht => hS.out t (hA _ (List.mem_map.2 ⟨t, ht, rfl⟩)))).2 hl.out))
        replace hI := hid hI
        replace hA := hid hA
        go_wp2_with fail
        go_ret
        exact ⟨by rw [hT.out]; rfl, hK⟩
      · have hw : (Lit.int .i64 k).wf = true := O1.out.w _ hkM
        have hK5 : Kp NoB w w5 := hK.trans' hk5 (fun b hb e => by omega)
        obtain ⟨t, ht, hv⟩ := List.mem_map.1 hkM
        injection hv with hv1 hv2
        subst hv1; subst hv2
        have hlk := (H2.out.kp hK5 (fun h => h)).look (P := Try.prog) O2.out k3 k71 (zero3 _) t hw true
        have hlm := hI.left
        have hl6 := hid hI'.left
        have hI6 := hid hI'
        have hle : c' < c := hlt
        replace hI := hid hI
        replace hI' := hid hI'
        replace hkM := hid hkM
        replace hkS := hid hkS
        replace hK := hid hK
        replace hK5 := hid hK5
        replace hw := hid hw
        replace hlm := hid hlm
        clear hk5
        by_cases hm : t ∈ ws2
        · rw [mget_in hm] at hlk
          replace hm := hid hm
          simp only [if_true] at hlk
          go_wp2_with fail
          go_roundw
          case rel => exact ⟨(t : Int) :: S, c', hI6.out, hid (fun u hu => by
            rcases List.mem_cons.1 hu with e | h
            · have e' : u = t := by omega
              subst e'; exact hm.out
            · exact hS.out u h), hK5.out⟩
          case measure => rw [hl6.out, hlm.out]; exact hle
        · rw [mget_wM hm] at hlk
          have hf := hid (show decide (ws1 = ws2) = false from decide_eq_false (fun e => hm (e ▸ ht)))
          replace hm := hid hm
          replace ht := hid ht
          simp only [if_true] at hlk
          go_wp2_with fail
          go_ret
          exact ⟨by rw [hf.out]; rfl, hK5.out⟩
  · have hls : ((ws1.length : Int) != (ws2.length : Int)) = true := by simp; omega
    have hf := hid (show decide (ws1 = ws2) = false from decide_eq_false (fun h => hl (by rw [h])))
    clear h1 h2 hl
    go_enter Try.func50, Try.ntmps50
    go_wp2_with fail
    go_ret
    exact ⟨by rw [hf.out]; rfl, Kp.refl _ _⟩
end
end Go.Proofs.Ytplbkjgkocnehaa
