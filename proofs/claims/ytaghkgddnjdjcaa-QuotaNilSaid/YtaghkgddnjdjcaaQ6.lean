/- Walks through the accounts of a quota: what each function returns and leaves, at any accounts that are well formed (the conditions stand in each theorem). -/
import Derived.Test.YtaghkgddnjdjcaaQ5
namespace Go.Proofs.Ytaghkgddnjdjcaa
set_option linter.unusedSimpArgs false
set_option linter.unusedVariables false
open Go.RowKit
attribute [local go_sem ↓] Go.wp_at_zero Go.wp_at_succ

theorem set_back {α : Type} {l : List α} {k : Nat} {x y : α} (h : l[k]? = some x) : (l.set k y).set k x = l := by
  rw [List.set_set]
  obtain ⟨hk, rfl⟩ := List.getElem?_eq_some_iff.1 h
  exact List.set_getElem_self hk

set_option maxRecDepth 100000 in
set_option maxHeartbeats 1000000 in
theorem rchange_any {r a b : Nat} {u : List (Int × Int)} {lk lb : Int} {w : World} (i m1 m2 : Int) (h : RAt w r a b u lk lb) (o : Ok u lk lb) (hm1 : B64 m1) (hm2 : B64 m2) :
   Calls Try.prog 32 #[.pointer (some ⟨r, 0, none⟩), .int .i64 i, .int .u64 m1, .int .u64 m2] w fun e w' =>
     e = .returned (.int .i64 (putE u lk lb i 0 m1 0 m2)) ∧ RAt w' r a b (putU u lk lb i 0 m1 0 m2) lk lb ∧ Kp (fun q => q = a ∨ q = b) w w' := by
  have HR := hid (rrelease_any i 0 m1 h o B0 hm1)
  have b1 := o.b1
  have n2 := o.n2
  by_cases hh : hasB u.length i = true
  · obtain ⟨k, rfl, hk⟩ := has_nat hh
    obtain ⟨⟨x, y⟩, hxy⟩ : ∃ xy, u[k]? = some xy := ⟨_, List.getElem?_eq_getElem hk⟩
    obtain ⟨hx0, hx1, hy0, hy1⟩ := o.at hxy
    have HX := hid hxy
    clear hxy hh
    obtain ⟨hm10, hm11⟩ := hm1
    by_cases c1 : m1 ≤ y
    · have HP1 := hid (release_yes o HX.out (d1 := 0) (d2 := m1) (by omega) hm10 ⟨by omega, c1⟩)
      have o1 : Ok (u.set k (x - 0, y - m1)) lk lb := o.set _ _ _ (by omega)
      have HX1 := hid (show (u.set k (x - 0, y - m1))[k]? = some (x - 0, y - m1) from by simp [hk])
      have HC := hid (fun (w1 : World) (h1 : RAt w1 r a b (u.set k (x - 0, y - m1)) lk lb) => rcharge_any k 0 m2 h1 o1 B0 hm2)
      by_cases c2 : m2 ≤ lb - (y - m1)
      · have HP2 := hid (charge_yes (m1 := 0) (m2 := m2) o1 HX1.out (by omega))
        have HF := hid (change_yes HX.out o (l := m1) (m := m2) c1 c2)
        go_enter Try.func32, Try.ntmps32
        go_wp2_with fail
        refine HR.out.mono ?_
        rintro e w1 ⟨rfl, h1, k1⟩
        rw [HP1.out.1]
        rw [HP1.out.2] at h1
        go_wp2_with fail
        refine (HC.out _ h1).mono ?_
        rintro e w2 ⟨rfl, h2, k2⟩
        rw [HP2.out.1]
        rw [HP2.out.2] at h2
        go_wp2_with fail
        go_ret
        refine ⟨by rw [HF.out.1]; rfl, ?_, k1.trans k2⟩
        rw [HF.out.2]
        rw [List.set_set] at h2
        simpa using h2
      · have HP2 := hid (charge_no (m1 := 0) (m2 := m2) o1 HX1.out (by omega))
        have HF := hid (change_full HX.out o (l := m1) (m := m2) c1 c2)
        go_enter Try.func32, Try.ntmps32
        go_wp2_with fail
        refine HR.out.mono ?_
        rintro e w1 ⟨rfl, h1, k1⟩
        rw [HP1.out.1]
        rw [HP1.out.2] at h1
        go_wp2_with fail
        refine (HC.out _ h1).mono ?_
        rintro e w2 ⟨rfl, h2, k2⟩
        rw [HP2.out.1]
        rw [HP2.out.2] at h2
        obtain ⟨ca, cb, Lc⟩ := h2.cs
        simp only [List.length_set] at Lc
        have Le := h2.es HX1.out
        have hbk : (0 : Int) ≤ (k : Int) := Int.natCast_nonneg _
        have hbl : (k : Int) < (u.length : Int) := by omega
        go_wp2_with fail
        refine wp_region_G (fun _ => True) [(0, .at_), (1, .at_), (2, .at_), (3, .at_), (4, .at_), (5, .at_), (6, .at_), (7, .at_), (8, .at_), (9, .at_), (10, .at_), (11, .at_), (12, .at_), (13, .at_), (14, .at_), (15, .eff)] ?L1 (by kernel_rfl) (by kernel_rfl) ?hL1 (trivial) ?hG1
        case hL1 => simp only [pickOps, List.map_cons, List.map_nil, List.getD_cons_zero, List.getD_cons_succ]; rfl
        repeat (first | (refine wpG_at (v := ?_) (by rfl) ?_ ?_; rotate_left; (focus (first | (go_simp; with_reducible rfl) | (go_simp; done))); simp only [Act.put, List.setIfInBounds_toArray, List.set_cons_zero, List.set_cons_succ]) | (refine wpG_at_skip (by rfl) ?_; simp only [Act.put, List.setIfInBounds_toArray, List.set_cons_zero, List.set_cons_succ]) | (refine wpG_held_skip (by rfl) ?_; simp only [Act.put, List.setIfInBounds_toArray, List.set_cons_zero, List.set_cons_succ]) | (refine wpG_held (v := ?_) (by rfl) ?_ ?_; rotate_left; (focus (intro w' hSw; (try dsimp only at hSw); go_split_ands; first | (go_simp; with_reducible rfl) | (go_simp; done))); simp only [Act.put, List.setIfInBounds_toArray, List.set_cons_zero, List.set_cons_succ]))
        refine wpG_eff (by rfl) (fun K hK => ?_)
        go_simp
        refine hK _ _ trivial ?_
        clear hK K
        refine wpG_nil (NoPanic.normal ?_)
        go_wp2_with fail
        go_ret
        rw [wr64 (x := y) (by omega) (by omega)]
        refine ⟨by rw [HF.out.1]; rfl, ?_, ?_⟩
        · rw [HF.out.2]
          have := h2.setY HX1.out y
          rw [show (x - 0, y) = (x, y) from by simp, set_back HX.out] at this
          exact this.drew
        · exact ((k1.trans k2).setCell (p := ⟨b, k, none⟩) _ (fun _ => .inr rfl)).drew
    · have HP1 := hid (release_no (lk := lk) (lb := lb) (d1 := 0) (d2 := m1) HX.out (by omega))
      have HF := hid (change_no (l := m1) (m := m2) HX.out o c1)
      go_enter Try.func32, Try.ntmps32
      go_wp2_with fail
      refine HR.out.mono ?_
      rintro e w1 ⟨rfl, h1, k1⟩
      rw [HP1.out.1]
      rw [HP1.out.2] at h1
      go_wp2_with fail
      go_ret
      exact ⟨by rw [HF.out.1]; rfl, by rw [HF.out.2]; exact h1, k1⟩
  · have hh' : hasB u.length i = false := by simpa using hh
    have H1 := hid (putE_no (lk := lk) (lb := lb) hh' 0 m1 0 m2)
    have H2 := hid (putU_no (lk := lk) (lb := lb) hh' 0 m1 0 m2)
    have H3 := hid (putE_no (lk := lk) (lb := lb) hh' 0 m1 0 0)
    have H4 := hid (putU_no (lk := lk) (lb := lb) hh' 0 m1 0 0)
    clear hh hh'
    go_enter Try.func32, Try.ntmps32
    go_wp2_with fail
    refine HR.out.mono ?_
    rintro e w1 ⟨rfl, h1, k1⟩
    rw [H3.out]
    rw [H4.out] at h1
    go_wp2_with fail
    go_ret
    exact ⟨by rw [H1.out]; rfl, by rw [H2.out]; exact h1, k1⟩

set_option maxRecDepth 100000 in
set_option maxHeartbeats 2000000 in
theorem rmove_any {r a b : Nat} {u : List (Int × Int)} {lk lb : Int} {w : World} (i j m1 m2 : Int) (h : RAt w r a b u lk lb) (o : Ok u lk lb) (hm1 : B64 m1) (hm2 : B64 m2) :
   Calls Try.prog 33 #[.pointer (some ⟨r, 0, none⟩), .int .i64 i, .int .i64 j, .int .u64 m1, .int .u64 m2] w fun e w' =>
     e = .returned (.int .i64 (moveE u lk lb i j m1 m2)) ∧ RAt w' r a b (moveU u lk lb i j m1 m2) lk lb ∧ Kp (fun q => q = a ∨ q = b) w w' := by
  have HH := hid (rhas_any i h)
  have HH2 := hid (rhas_any j h)
  have HR := hid (rrelease_any i m1 m2 h o hm1 hm2)
  have b0 := o.k1
  have b1 := o.b1
  have n2 := o.n2
  by_cases hh : hasB u.length i = true
  · by_cases hj : hasB u.length j = true
    · have HB := hid hh
      have HJ := hid hj
      obtain ⟨k, rfl, hk⟩ := has_nat hh
      obtain ⟨q, rfl, hq⟩ := has_nat hj
      obtain ⟨⟨x, y⟩, hxy⟩ : ∃ xy, u[k]? = some xy := ⟨_, List.getElem?_eq_getElem hk⟩
      obtain ⟨hx0, hx1, hy0, hy1⟩ := o.at hxy
      have HX := hid hxy
      clear hxy hh hj
      have hm10 := hm1.1
      have hm11 := hm1.2
      have hm20 := hm2.1
      have hm21 := hm2.2
      by_cases c1 : m1 ≤ x ∧ m2 ≤ y
      · have HP1 := hid (release_yes o HX.out hm10 hm20 c1)
        have o1 : Ok (u.set k (x - m1, y - m2)) lk lb := o.set _ _ _ (by omega)
        have HC := hid (fun (w1 : World) (h1 : RAt w1 r a b (u.set k (x - m1, y - m2)) lk lb) => rcharge_any q m1 m2 h1 o1 hm1 hm2)
        -- what charging the other one comes to
        have HE : Hid (moveE u lk lb k q m1 m2 = putE (u.set k (x - m1, y - m2)) lk lb q 0 0 m1 m2) := hid (by
          unfold moveE
          rw [HB.out, HJ.out, HP1.out.1]
          simp only [Bool.and_self, if_true]
          by_cases e : k = q
          · subst e
            rw [if_pos rfl, (charge_yes (k := k) (x := x - m1) (y := y - m2) o1 (by simp [hk]) (by omega)).1]
          · rw [if_neg (by omega)]
            obtain ⟨⟨x2, y2⟩, hxy2⟩ : ∃ xy, u[q]? = some xy := ⟨_, List.getElem?_eq_getElem hq⟩
            rw [putE_at hxy2, putE_at (by rw [List.getElem?_set_ne e]; exact hxy2)])
        have HS : Hid (moveU u lk lb k q m1 m2 = if moveE u lk lb k q m1 m2 = 0 then putU (u.set k (x - m1, y - m2)) lk lb q 0 0 m1 m2 else u) := hid (by
          unfold moveU
          by_cases e : k = q
          · subst e
            have := charge_yes (k := k) (x := x - m1) (y := y - m2) (m1 := m1) (m2 := m2) o1 (by simp [hk]) (by omega)
            rw [if_neg (by simp), HE.out, this.1, this.2, if_pos rfl, show x - m1 + m1 = x from by omega, show y - m2 + m2 = y from by omega, set_back HX.out]
          · rw [HP1.out.2]
            by_cases e0 : moveE u lk lb k q m1 m2 = 0
            · rw [if_pos ⟨e0, by omega⟩, if_pos e0]
            · rw [if_neg (fun h => e0 h.1), if_neg e0])
        by_cases c2 : putE (u.set k (x - m1, y - m2)) lk lb q 0 0 m1 m2 = 0
        · have C2 := hid c2
          clear c2
          go_enter Try.func33, Try.ntmps33
          go_wp2_with fail
          refine HH.out.mono ?_
          rintro e w' ⟨rfl, rfl⟩
          rw [HB.out]
          go_wp2_with fail
          refine HH2.out.mono ?_
          rintro e w' ⟨rfl, rfl⟩
          rw [HJ.out]
          go_wp2_with fail
          refine HR.out.mono ?_
          rintro e w1 ⟨rfl, h1, k1⟩
          rw [HP1.out.1]
          rw [HP1.out.2] at h1
          go_wp2_with fail
          refine (HC.out _ h1).mono ?_
          rintro e w2 ⟨rfl, h2, k2⟩
          rw [C2.out]
          go_wp2_with fail
          go_ret
          refine ⟨by rw [HE.out, C2.out]; rfl, ?_, k1.trans k2⟩
          rw [HS.out, HE.out, if_pos C2.out]
          exact h2
        · have h7 : ((putE (u.set k (x - m1, y - m2)) lk lb q 0 0 m1 m2) != 0) = true := by simpa using c2
          have HU : Hid (putU (u.set k (x - m1, y - m2)) lk lb q 0 0 m1 m2 = u.set k (x - m1, y - m2)) := hid (by unfold putU; rw [if_neg c2])
          have C2 := hid c2
          have HX1 := hid (show (u.set k (x - m1, y - m2))[k]? = some (x - m1, y - m2) from by simp [hk])
          generalize hE : putE (u.set k (x - m1, y - m2)) lk lb q 0 0 m1 m2 = E at *
          have HEE := hid hE
          clear c2 hE
          go_enter Try.func33, Try.ntmps33
          go_wp2_with fail
          refine HH.out.mono ?_
          rintro e w' ⟨rfl, rfl⟩
          rw [HB.out]
          go_wp2_with fail
          refine HH2.out.mono ?_
          rintro e w' ⟨rfl, rfl⟩
          rw [HJ.out]
          go_wp2_with fail
          refine HR.out.mono ?_
          rintro e w1 ⟨rfl, h1, k1⟩
          rw [HP1.out.1]
          rw [HP1.out.2] at h1
          go_wp2_with fail
          refine (HC.out _ h1).mono ?_
          rintro e w2 ⟨rfl, h2, k2⟩
          rw [HU.out] at h2
          obtain ⟨ca, cb, Lc⟩ := h2.cs
          simp only [List.length_set] at Lc
          have Le := h2.es HX1.out
          have hne := h2.hab
          have hne' := Ne.symm hne
          have hra := h2.hra
          have hrb := h2.hrb
          have hbk : (0 : Int) ≤ (k : Int) := Int.natCast_nonneg _
          have hbl : (k : Int) < (u.length : Int) := by omega
          go_wp2_with fail
          refine wp_region_G (fun _ => True) [(0, .at_), (1, .at_), (2, .at_), (3, .at_), (4, .at_), (5, .at_), (6, .at_), (7, .at_), (8, .at_), (9, .at_), (10, .at_), (11, .at_), (12, .at_), (13, .at_), (14, .at_), (15, .eff)] ?L2 (by kernel_rfl) (by kernel_rfl) ?hL2 (trivial) ?hG2
          case hL2 => simp only [pickOps, List.map_cons, List.map_nil, List.getD_cons_zero, List.getD_cons_succ]; rfl
          repeat (first | (refine wpG_at (v := ?_) (by rfl) ?_ ?_; rotate_left; (focus (first | (go_simp; with_reducible rfl) | (go_simp; done))); simp only [Act.put, List.setIfInBounds_toArray, List.set_cons_zero, List.set_cons_succ]) | (refine wpG_at_skip (by rfl) ?_; simp only [Act.put, List.setIfInBounds_toArray, List.set_cons_zero, List.set_cons_succ]) | (refine wpG_held_skip (by rfl) ?_; simp only [Act.put, List.setIfInBounds_toArray, List.set_cons_zero, List.set_cons_succ]) | (refine wpG_held (v := ?_) (by rfl) ?_ ?_; rotate_left; (focus (intro w' hSw; (try dsimp only at hSw); go_split_ands; first | (go_simp; with_reducible rfl) | (go_simp; done))); simp only [Act.put, List.setIfInBounds_toArray, List.set_cons_zero, List.set_cons_succ]))
          refine wpG_eff (by rfl) (fun K hK => ?_)
          go_simp
          refine hK _ _ trivial ?_
          clear hK K
          refine wpG_nil (NoPanic.normal ?_)
          go_wp2_with fail
          refine wp_region_G (fun _ => True) [(0, .at_), (1, .at_), (2, .at_), (3, .at_), (4, .at_), (5, .at_), (6, .at_), (7, .at_), (8, .at_), (9, .at_), (10, .at_), (11, .at_), (12, .at_), (13, .at_), (14, .at_), (15, .eff)] ?L3 (by kernel_rfl) (by kernel_rfl) ?hL3 (trivial) ?hG3
          case hL3 => simp only [pickOps, List.map_cons, List.map_nil, List.getD_cons_zero, List.getD_cons_succ]; rfl
          repeat (first | (refine wpG_at (v := ?_) (by rfl) ?_ ?_; rotate_left; (focus (first | (go_simp; with_reducible rfl) | (go_simp; done))); simp only [Act.put, List.setIfInBounds_toArray, List.set_cons_zero, List.set_cons_succ]) | (refine wpG_at_skip (by rfl) ?_; simp only [Act.put, List.setIfInBounds_toArray, List.set_cons_zero, List.set_cons_succ]) | (refine wpG_held_skip (by rfl) ?_; simp only [Act.put, List.setIfInBounds_toArray, List.set_cons_zero, List.set_cons_succ]) | (refine wpG_held (v := ?_) (by rfl) ?_ ?_; rotate_left; (focus (intro w' hSw; (try dsimp only at hSw); go_split_ands; first | (go_simp; with_reducible rfl) | (go_simp; done))); simp only [Act.put, List.setIfInBounds_toArray, List.set_cons_zero, List.set_cons_succ]))
          refine wpG_eff (by rfl) (fun K hK => ?_)
          go_simp
          refine hK _ _ trivial ?_
          clear hK K
          refine wpG_nil (NoPanic.normal ?_)
          go_wp2_with fail
          go_ret
          rw [wr64 (x := x) (by omega) (by omega), wr64 (x := y) (by omega) (by omega)]
          refine ⟨by rw [HE.out]; rfl, ?_, ?_⟩
          · rw [HS.out, HE.out, if_neg C2.out]
            have := h2.set (k := k) (by simpa using hk) x y
            rw [set_back HX.out] at this
            repeat (first | exact this | refine RAt.drew ?_)
          · repeat (first | exact ((k1.trans k2).setCell (p := ⟨a, k, none⟩) _ (fun _ => .inl rfl)).setCell (p := ⟨b, k, none⟩) _ (fun _ => .inr rfl) | refine Kp.drew ?_)
      · have HP1 := hid (release_no (lk := lk) (lb := lb) HX.out c1)
        have HF : Hid (moveE u lk lb k q m1 m2 = 18 ∧ moveU u lk lb k q m1 m2 = u) := hid (by
          have e : moveE u lk lb k q m1 m2 = 18 := by unfold moveE; rw [HB.out, HJ.out, HP1.out.1]; rfl
          exact ⟨e, by unfold moveU; rw [e]; rfl⟩)
        clear c1
        go_enter Try.func33, Try.ntmps33
        go_wp2_with fail
        refine HH.out.mono ?_
        rintro e w' ⟨rfl, rfl⟩
        rw [HB.out]
        go_wp2_with fail
        refine HH2.out.mono ?_
        rintro e w' ⟨rfl, rfl⟩
        rw [HJ.out]
        go_wp2_with fail
        refine HR.out.mono ?_
        rintro e w1 ⟨rfl, h1, k1⟩
        rw [HP1.out.1]
        rw [HP1.out.2] at h1
        go_wp2_with fail
        go_ret
        exact ⟨by rw [HF.out.1]; rfl, by rw [HF.out.2]; exact h1, k1⟩
    · have hj' : hasB u.length j = false := by simpa using hj
      have HB := hid hh
      have HJ := hid hj'
      have HF : Hid (moveE u lk lb i j m1 m2 = 2 ∧ moveU u lk lb i j m1 m2 = u) := hid (by
        have e : moveE u lk lb i j m1 m2 = 2 := by unfold moveE; rw [hj']; simp
        exact ⟨e, by unfold moveU; rw [e]; rfl⟩)
      clear hh hj hj'
      go_enter Try.func33, Try.ntmps33
      go_wp2_with fail
      refine HH.out.mono ?_
      rintro e w' ⟨rfl, rfl⟩
      rw [HB.out]
      go_wp2_with fail
      refine HH2.out.mono ?_
      rintro e w' ⟨rfl, rfl⟩
      rw [HJ.out]
      go_wp2_with fail
      go_ret
      exact ⟨by rw [HF.out.1]; rfl, by rw [HF.out.2]; exact h, Kp.refl _ w⟩
  · have hh' : hasB u.length i = false := by simpa using hh
    have HB := hid hh'
    have HF : Hid (moveE u lk lb i j m1 m2 = 2 ∧ moveU u lk lb i j m1 m2 = u) := hid (by
      have e : moveE u lk lb i j m1 m2 = 2 := by unfold moveE; rw [hh']; simp
      exact ⟨e, by unfold moveU; rw [e]; rfl⟩)
    clear hh hh'
    go_enter Try.func33, Try.ntmps33
    go_wp2_with fail
    refine HH.out.mono ?_
    rintro e w' ⟨rfl, rfl⟩
    rw [HB.out]
    go_wp2_with fail
    go_ret
    exact ⟨by rw [HF.out.1]; rfl, by rw [HF.out.2]; exact h, Kp.refl _ w⟩
end Go.Proofs.Ytaghkgddnjdjcaa
