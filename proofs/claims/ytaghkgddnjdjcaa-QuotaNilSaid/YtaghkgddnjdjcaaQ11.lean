/- Walks through the accounts of a quota: what each function returns and leaves, at any accounts that are well formed (the conditions stand in each theorem). -/
import Derived.Test.YtaghkgddnjdjcaaQ10
namespace Go.Proofs.Ytaghkgddnjdjcaa
set_option linter.unusedSimpArgs false
set_option linter.unusedVariables false
open Go.RowKit
attribute [local go_sem ↓] Go.wp_at_zero Go.wp_at_succ

theorem ok0 : Ok [((0 : Int), (0 : Int))] 2 100 := zeros_ok (n := 1) (by omega) (by omega) (by omega) (by omega) (by omega) (by omega)
theorem Bn (n : Int) (h0 : 0 ≤ n) (h1 : n < 18446744073709551616) : B64 n := by unfold B64; omega
theorem known_any (w : World) : Calls Try.prog 10 #[] w fun e w' => e = .returned (.bool true) ∧ Kp NoB w w' := by
  have H1 := hid (new_good (w := w) 1 2 100 (by omega) (by omega) (by omega) (by omega))
  have o1 : Ok [((1 : Int), (60 : Int))] 2 100 := ⟨by decide, by decide, by decide, by decide, by decide, by decide, by decide⟩
  have o3 : Ok [((1 : Int), (100 : Int))] 2 100 := ⟨by decide, by decide, by decide, by decide, by decide, by decide, by decide⟩
  have e1 := hid (show putE [((0 : Int), (0 : Int))] 2 100 0 0 0 1 60 = 0 ∧ putU [((0 : Int), (0 : Int))] 2 100 0 0 0 1 60 = [(1, 60)] from by decide)
  have e2 := hid (show putE [((1 : Int), (60 : Int))] 2 100 0 0 0 1 60 = 7 ∧ putU [((1 : Int), (60 : Int))] 2 100 0 0 0 1 60 = [(1, 60)] from by decide)
  have e3 := hid (show putE [((1 : Int), (60 : Int))] 2 100 0 0 60 0 100 = 0 ∧ putU [((1 : Int), (60 : Int))] 2 100 0 0 60 0 100 = [(1, 100)] from by decide)
  have e4 := hid (show putE [((1 : Int), (100 : Int))] 2 100 0 2 0 0 0 = 18 from by decide)
  go_enter Try.func10, Try.ntmps10
  go_wp2_with fail
  refine H1.out.mono ?_
  rintro e w1 ⟨rfl, q1, k1⟩
  change QAt w1 _ _ [((0 : Int), (0 : Int))] 2 100 at q1
  go_wp2_with fail
  refine (charge_any 0 1 60 q1 ok0 ⟨by omega, by omega⟩ ⟨by omega, by omega⟩).mono ?_
  rintro e w2 ⟨rfl, q2, k2⟩
  rw [e1.out.1]
  rw [e1.out.2] at q2
  go_wp2_with fail
  refine (charge_any 0 1 60 q2 o1 ⟨by omega, by omega⟩ ⟨by omega, by omega⟩).mono ?_
  rintro e w3 ⟨rfl, q3, k3⟩
  rw [e2.out.1]
  rw [e2.out.2] at q3
  go_wp2_with fail
  refine (change_any 0 60 100 q3 o1 ⟨by omega, by omega⟩ ⟨by omega, by omega⟩).mono ?_
  rintro e w4 ⟨rfl, q4, k4⟩
  rw [e3.out.1]
  rw [e3.out.2] at q4
  go_wp2_with fail
  refine (release_any 0 2 0 q4 o3 ⟨by omega, by omega⟩ ⟨by omega, by omega⟩).mono ?_
  rintro e w5 ⟨rfl, q5, k5⟩
  rw [e4.out]
  go_wp2_with fail
  go_ret
  exact ⟨rfl, k1.trans' (((k2.trans k3).trans k4).trans k5) (fun q hq hf => by omega) |>.mono (fun _ h => h)⟩

set_option maxRecDepth 100000 in
set_option maxHeartbeats 4000000 in
theorem same_any {p b r a c : Nat} {u : List (Int × Int)} {lk lb : Int} {w : World} (h : QAt w p b u lk lb) (hr : RAt w r a c u lk lb) (o : Ok u lk lb) :
   Calls Try.prog 17 #[.pointer (some ⟨p, 0, none⟩), .pointer (some ⟨r, 0, none⟩)] w fun e w' => e = .returned (.bool true) ∧ Kp NoB w w' := by
  have HL := hid (fun (w1 : World) (q : QAt w1 p b u lk lb) => limits_any q o)
  have HU := hid (fun (w1 : World) (q : QAt w1 p b u lk lb) => users_any q o)
  have HO := hid (fun (w1 : World) (i : Int) (q : QAt w1 p b u lk lb) => of_any i q o)
  have n2 := o.n2
  obtain ⟨ca, cb, Lc⟩ := hr.cs
  go_enter Try.func17, Try.ntmps17
  go_wp2_with fail
  refine (HL.out _ h).mono ?_
  rintro e w1 ⟨rfl, rfl⟩
  go_wp2_with fail
  refine wp_region_G (fun W => W.cell? ⟨r, 0, none⟩ = some (.slice (some ⟨a, 0, none⟩) u.length ca)) [(0, .at_), (2, .held), (3, .held), (4, .held), (5, .held), (6, .held), (1, .eff), (7, .at_), (8, .at_), (9, .at_), (10, .at_), (11, .at_), (12, .at_), (13, .at_), (14, .at_), (15, .at_), (16, .at_), (17, .at_), (18, .at_), (19, .at_), (20, .at_), (21, .at_), (22, .at_), (23, .at_)] ?L1 (by kernel_rfl) (by kernel_rfl) ?hL1 (Lc.1) ?hG1
  case hL1 => simp only [pickOps, List.map_cons, List.map_nil, List.getD_cons_zero, List.getD_cons_succ]; rfl
  repeat (first | (refine wpG_at (v := ?_) (by rfl) ?_ ?_; rotate_left; (focus (first | (go_simp; with_reducible rfl) | (go_simp; done))); simp only [Act.put, List.setIfInBounds_toArray, List.set_cons_zero, List.set_cons_succ]) | (refine wpG_at_skip (by rfl) ?_; simp only [Act.put, List.setIfInBounds_toArray, List.set_cons_zero, List.set_cons_succ]) | (refine wpG_held_skip (by rfl) ?_; simp only [Act.put, List.setIfInBounds_toArray, List.set_cons_zero, List.set_cons_succ]) | (refine wpG_held (v := ?_) (by rfl) ?_ ?_; rotate_left; (focus (intro w' hSw; (try dsimp only at hSw); go_split_ands; first | (go_simp; with_reducible rfl) | (go_simp; done))); simp only [Act.put, List.setIfInBounds_toArray, List.set_cons_zero, List.set_cons_succ]))
  refine wpG_eff (by rfl) (fun K hK => ?_)
  go_simp
  refine (HU.out _ (by first | exact h | exact h.drew | exact h.drew.drew)).mono ?_
  rintro e w1 ⟨rfl, rfl⟩
  dsimp only
  refine hK _ _ Lc.1 ?_
  clear hK K
  repeat (first | (refine wpG_at (v := ?_) (by rfl) ?_ ?_; rotate_left; (focus (first | (go_simp; with_reducible rfl) | (go_simp; done))); simp only [Act.put, List.setIfInBounds_toArray, List.set_cons_zero, List.set_cons_succ]) | (refine wpG_at_skip (by rfl) ?_; simp only [Act.put, List.setIfInBounds_toArray, List.set_cons_zero, List.set_cons_succ]) | (refine wpG_held_skip (by rfl) ?_; simp only [Act.put, List.setIfInBounds_toArray, List.set_cons_zero, List.set_cons_succ]) | (refine wpG_held (v := ?_) (by rfl) ?_ ?_; rotate_left; (focus (intro w' hSw; (try dsimp only at hSw); go_split_ands; first | (go_simp; with_reducible rfl) | (go_simp; done))); simp only [Act.put, List.setIfInBounds_toArray, List.set_cons_zero, List.set_cons_succ]))
  refine wpG_nil (NoPanic.normal ?_)
  go_wp2_with fail
  go_loopw [7] (fun i W => ∃ j : Nat, j ≤ u.length ∧ i = .int .i64 j ∧ QAt W p b u lk lb ∧ RAt W r a c u lk lb ∧ Kp NoB w W) (fun i _ => u.length - (intOf i).toNat)
  case atStart => exact ⟨0, Nat.zero_le _, rfl, by first | exact h.drew | exact h.drew.drew, by first | exact hr.drew | exact hr.drew.drew, by first | exact (Kp.refl _ w).drew | exact (Kp.refl _ w).drew.drew⟩
  case round =>
    obtain ⟨j, hj, rfl, hq, hr', hK⟩ := hrel
    clear Lc
    obtain ⟨ca', cb', Lc⟩ := hr'.cs
    by_cases hlt : j < u.length
    · obtain ⟨⟨x, y⟩, hxy⟩ : ∃ xy, u[j]? = some xy := ⟨_, List.getElem?_eq_getElem hlt⟩
      have b1 : (0 : Int) ≤ (j : Int) := Int.natCast_nonneg _
      have b2 : (j : Int) < (u.length : Int) := by omega
      have HX := hid hxy
      have HE := hid (show ofV u j = (x, y) from by simp [ofV, has_of hxy, hxy])
      clear hxy
      go_wp2_with fail
      refine (HO.out _ _ hq).mono ?_
      rintro e w2 ⟨rfl, k2⟩
      rw [HE.out]
      have hr2 := hr'.kp k2 (fun h => h) (fun h => h) (fun h => h)
      obtain ⟨ca2, cb2, Lc2⟩ := hr2.cs
      have Le := hr2.es HX.out
      go_wp2_with fail
      go_roundw
      case rel => exact ⟨j + 1, by omega, by go_num, hq.kp k2 (fun h => h) (fun h => h), hr2, hK.trans k2⟩
      case measure => simp [intOf]; omega
    · go_wp2_with fail
      go_ret
      exact ⟨rfl, hK⟩
end Go.Proofs.Ytaghkgddnjdjcaa
