/- Walks through the accounts of a quota: what each function returns and leaves, at any accounts that are well formed (the conditions stand in each theorem). -/
import Derived.Test.YtaghkgddnjdjcaaQ3
namespace Go.Proofs.Ytaghkgddnjdjcaa
set_option linter.unusedSimpArgs false
set_option linter.unusedVariables false
open Go.RowKit
attribute [local go_sem ↓] Go.wp_at_zero Go.wp_at_succ

theorem has_nat {n : Nat} {i : Int} (h : hasB n i = true) : ∃ k : Nat, i = k ∧ k < n := by
  simp [hasB] at h
  exact ⟨i.toNat, by omega, by omega⟩

def putE (u : List (Int × Int)) (lk lb : Int) (i d1 d2 m1 m2 : Int) : Int :=
  if hasB u.length i then (turnV (u[i.toNat]?.getD (0, 0)).1 (u[i.toNat]?.getD (0, 0)).2 d1 d2 m1 m2 lk lb).2.2 else 2
def putU (u : List (Int × Int)) (lk lb : Int) (i d1 d2 m1 m2 : Int) : List (Int × Int) :=
  if putE u lk lb i d1 d2 m1 m2 = 0 then u.set i.toNat ((turnV (u[i.toNat]?.getD (0, 0)).1 (u[i.toNat]?.getD (0, 0)).2 d1 d2 m1 m2 lk lb).1, (turnV (u[i.toNat]?.getD (0, 0)).1 (u[i.toNat]?.getD (0, 0)).2 d1 d2 m1 m2 lk lb).2.1) else u

set_option maxRecDepth 100000 in
set_option maxHeartbeats 1000000 in
theorem put_any {p b : Nat} {u : List (Int × Int)} {lk lb : Int} {w : World} (i d1 d2 m1 m2 : Int) (h : QAt w p b u lk lb) (o : Ok u lk lb)
    (hd1 : B64 d1) (hd2 : B64 d2) (hm1 : B64 m1) (hm2 : B64 m2) :
   Calls Try.prog 27 #[.pointer (some ⟨p, 0, none⟩), .int .i64 i, .agg #[.int .u64 d1, .int .u64 d2], .agg #[.int .u64 m1, .int .u64 m2]] w fun e w' =>
     e = .returned (.int .i64 (putE u lk lb i d1 d2 m1 m2)) ∧ QAt w' p b (putU u lk lb i d1 d2 m1 m2) lk lb ∧ Kp (· = b) w w' := by
  have HQ := fun (w1 : World) (g : Nat) (hq : QAt w1 p b u lk lb) => asked_any g [i] hq o
  by_cases hh : hasB u.length i = true
  · have ha : askedE u.length [i] = 0 := by simp [askedE, hh]
    have hE : putE u lk lb i d1 d2 m1 m2 = (turnV (u[i.toNat]?.getD (0, 0)).1 (u[i.toNat]?.getD (0, 0)).2 d1 d2 m1 m2 lk lb).2.2 := by simp [putE, hh]
    obtain ⟨k, rfl, hk⟩ := has_nat hh
    rw [Int.toNat_natCast] at hE
    obtain ⟨⟨x, y⟩, hxy⟩ : ∃ xy, u[k]? = some xy := ⟨_, List.getElem?_eq_getElem hk⟩
    have HU := hid (show putU u lk lb k d1 d2 m1 m2 = if putE u lk lb k d1 d2 m1 m2 = 0 then u.set k ((turnV x y d1 d2 m1 m2 lk lb).1, (turnV x y d1 d2 m1 m2 lk lb).2.1) else u from by rw [putU, Int.toNat_natCast, hxy]; rfl)
    rw [hxy] at hE
    simp only [Option.getD_some] at hE
    have HT := hid (fun (w1 : World) (hq : QAt w1 p b u lk lb) => turn_any k x y d1 d2 m1 m2 hq o hxy hd1 hd2 hm1 hm2)
    generalize turnV x y d1 d2 m1 m2 lk lb = tv at *
    obtain ⟨t1, t2, t3⟩ := tv
    simp only at hE HT HU
    have HE := hid hE
    have HA := hid ha
    have HXY := hid hxy
    have HQ' := hid HQ
    clear hh hE ha hxy HQ
    go_enter Try.func27, Try.ntmps27
    go_wp2_with fail
    refine (HQ'.out _ _ (((h.alloc _).alloc _).alloc _) (blk_new' _ _ (by simp)) (by simp)).mono ?_
    rintro e w' ⟨rfl, rfl⟩
    rw [HA.out]
    go_wp2_with fail
    refine (HT.out _ (((h.alloc _).alloc _).alloc _)).mono ?_
    rintro e w1 ⟨rfl, hk1⟩
    have hq1 := (((h.alloc _).alloc _).alloc _).kp hk1 (fun h => h) (fun h => h)
    have K1 : Kp (· = b) w w1 := ((((Kp.refl _ w).alloc _).alloc _).alloc _).trans (hk1.mono (fun _ h => h.elim))
    obtain ⟨cq, Lp⟩ := hq1.cs
    have Le := hq1.e HXY.out
    have up := ups Lp.2.2.2.2.2.2
    have ub := ups Le.2.2.2.2
    by_cases h3 : t3 = 0
    · subst h3
      have hbk : (0 : Int) ≤ (k : Int) := Int.natCast_nonneg _
      have hbl : (k : Int) < (u.length : Int) := by omega
      have n2 := o.n2
      go_wp2_with fail
      refine wp_region_G (fun _ => True) [(0, .at_), (1, .at_), (2, .at_), (3, .at_), (4, .at_), (5, .at_), (6, .at_), (7, .eff)] ?L1 (by kernel_rfl) (by kernel_rfl) ?hL1 (trivial) ?hG1
      case hL1 => simp only [pickOps, List.map_cons, List.map_nil, List.getD_cons_zero, List.getD_cons_succ]; rfl
      repeat (first | (refine wpG_at (v := ?_) (by rfl) ?_ ?_; rotate_left; (focus (first | (go_simp; with_reducible rfl) | (go_simp; done))); simp only [Act.put, List.setIfInBounds_toArray, List.set_cons_zero, List.set_cons_succ]) | (refine wpG_at_skip (by rfl) ?_; simp only [Act.put, List.setIfInBounds_toArray, List.set_cons_zero, List.set_cons_succ]) | (refine wpG_held_skip (by rfl) ?_; simp only [Act.put, List.setIfInBounds_toArray, List.set_cons_zero, List.set_cons_succ]) | (refine wpG_held (v := ?_) (by rfl) ?_ ?_; rotate_left; (focus (intro w' hSw; (try dsimp only at hSw); go_split_ands; first | (go_simp; with_reducible rfl) | (go_simp; done))); simp only [Act.put, List.setIfInBounds_toArray, List.set_cons_zero, List.set_cons_succ]))
      refine wpG_eff (by rfl) (fun K hK => ?_)
      go_simp
      refine hK _ _ trivial ?_
      clear hK K
      refine wpG_nil (NoPanic.normal ?_)
      go_wp2_with fail
      go_ret
      refine ⟨by rw [HE.out]; rfl, ?_, ?_⟩
      · rw [HU.out, HE.out, if_pos rfl]
        exact ((hq1.set hk t1 t2).alloc _).drew
      · exact (((K1.setCell (p := ⟨b, k * 2, none⟩) _ (fun _ => rfl)).setCell (p := ⟨b, k * 2 + 1, none⟩) _ (fun _ => rfl)).alloc _).drew
    · have h3' : (t3 != 0) = true := by simpa using h3
      go_wp2_with fail
      go_ret
      refine ⟨by rw [HE.out]; rfl, ?_, K1.alloc _⟩
      rw [HU.out, HE.out, if_neg h3]
      exact hq1.alloc _
  · have hh' : hasB u.length i = false := by simpa using hh
    have HA := hid (show askedE u.length [i] = 2 from by simp [askedE, hh'])
    have HE := hid (show putE u lk lb i d1 d2 m1 m2 = 2 from by simp [putE, hh'])
    have HU := hid (show putU u lk lb i d1 d2 m1 m2 = u from by simp [putU, putE, hh'])
    have HQ' := hid HQ
    clear hh hh' HQ
    go_enter Try.func27, Try.ntmps27
    go_wp2_with fail
    refine (HQ'.out _ _ (((h.alloc _).alloc _).alloc _) (blk_new' _ _ (by simp)) (by simp)).mono ?_
    rintro e w' ⟨rfl, rfl⟩
    rw [HA.out]
    go_wp2_with fail
    go_ret
    refine ⟨by rw [HE.out]; rfl, ?_, (((Kp.refl _ w).alloc _).alloc _).alloc _⟩
    rw [HU.out]
    exact ((h.alloc _).alloc _).alloc _

theorem B0 : B64 0 := ⟨by decide, by decide⟩
theorem charge_any {p b : Nat} {u : List (Int × Int)} {lk lb : Int} {w : World} (i m1 m2 : Int) (h : QAt w p b u lk lb) (o : Ok u lk lb) (hm1 : B64 m1) (hm2 : B64 m2) :
   Calls Try.prog 11 #[.pointer (some ⟨p, 0, none⟩), .int .i64 i, .int .u64 m1, .int .u64 m2] w fun e w' =>
     e = .returned (.int .i64 (putE u lk lb i 0 0 m1 m2)) ∧ QAt w' p b (putU u lk lb i 0 0 m1 m2) lk lb ∧ Kp (· = b) w w' := by
  have HP := hid (put_any i 0 0 m1 m2 h o B0 B0 hm1 hm2)
  go_enter Try.func11, Try.ntmps11
  go_wp2_with fail
  refine HP.out.mono ?_
  rintro e w' ⟨rfl, h1, h2⟩
  go_wp2_with fail
  go_ret
  exact ⟨rfl, h1, h2⟩
theorem release_any {p b : Nat} {u : List (Int × Int)} {lk lb : Int} {w : World} (i m1 m2 : Int) (h : QAt w p b u lk lb) (o : Ok u lk lb) (hm1 : B64 m1) (hm2 : B64 m2) :
   Calls Try.prog 12 #[.pointer (some ⟨p, 0, none⟩), .int .i64 i, .int .u64 m1, .int .u64 m2] w fun e w' =>
     e = .returned (.int .i64 (putE u lk lb i m1 m2 0 0)) ∧ QAt w' p b (putU u lk lb i m1 m2 0 0) lk lb ∧ Kp (· = b) w w' := by
  have HP := hid (put_any i m1 m2 0 0 h o hm1 hm2 B0 B0)
  go_enter Try.func12, Try.ntmps12
  go_wp2_with fail
  refine HP.out.mono ?_
  rintro e w' ⟨rfl, h1, h2⟩
  go_wp2_with fail
  go_ret
  exact ⟨rfl, h1, h2⟩
theorem change_any {p b : Nat} {u : List (Int × Int)} {lk lb : Int} {w : World} (i m1 m2 : Int) (h : QAt w p b u lk lb) (o : Ok u lk lb) (hm1 : B64 m1) (hm2 : B64 m2) :
   Calls Try.prog 13 #[.pointer (some ⟨p, 0, none⟩), .int .i64 i, .int .u64 m1, .int .u64 m2] w fun e w' =>
     e = .returned (.int .i64 (putE u lk lb i 0 m1 0 m2)) ∧ QAt w' p b (putU u lk lb i 0 m1 0 m2) lk lb ∧ Kp (· = b) w w' := by
  have HP := hid (put_any i 0 m1 0 m2 h o B0 hm1 B0 hm2)
  go_enter Try.func13, Try.ntmps13
  go_wp2_with fail
  refine HP.out.mono ?_
  rintro e w' ⟨rfl, h1, h2⟩
  go_wp2_with fail
  go_ret
  exact ⟨rfl, h1, h2⟩

theorem users_any {p b : Nat} {u : List (Int × Int)} {lk lb : Int} {w : World} (h : QAt w p b u lk lb) (o : Ok u lk lb) :
   Calls Try.prog 25 #[.pointer (some ⟨p, 0, none⟩)] w fun e w' => e = .returned (.int .i64 u.length) ∧ w = w' := by
  obtain ⟨cq, Lp⟩ := h.cs
  have HT := hid (there_any h o)
  go_enter Try.func25, Try.ntmps25
  go_wp2_with fail
  refine HT.out.mono ?_
  rintro e w' ⟨rfl, rfl⟩
  go_wp2_with fail
  go_ret
  exact ⟨rfl, rfl⟩
theorem limits_any {p b : Nat} {u : List (Int × Int)} {lk lb : Int} {w : World} (h : QAt w p b u lk lb) (o : Ok u lk lb) :
   Calls Try.prog 24 #[.pointer (some ⟨p, 0, none⟩)] w fun e w' => e = .returned (.tuple #[.int .u64 lk, .int .u64 lb]) ∧ w.drew = w' := by
  obtain ⟨cq, Lp⟩ := h.cs
  have HT := hid (there_any h o)
  go_enter Try.func24, Try.ntmps24
  go_wp2_with fail
  refine HT.out.mono ?_
  rintro e w' ⟨rfl, rfl⟩
  go_wp2_with fail
  refine wp_region_G (fun _ => True) [(0, .at_), (1, .at_), (2, .at_), (3, .at_), (4, .at_), (5, .at_), (6, .at_), (7, .at_), (8, .at_), (9, .at_), (10, .at_), (11, .at_)] ?L2 (by kernel_rfl) (by kernel_rfl) ?hL2 (trivial) ?hG2
  case hL2 => simp only [pickOps, List.map_cons, List.map_nil, List.getD_cons_zero, List.getD_cons_succ]; rfl
  repeat (first | (refine wpG_at (v := ?_) (by rfl) ?_ ?_; rotate_left; (focus (first | (go_simp; with_reducible rfl) | (go_simp; done))); simp only [Act.put, List.setIfInBounds_toArray, List.set_cons_zero, List.set_cons_succ]) | (refine wpG_at_skip (by rfl) ?_; simp only [Act.put, List.setIfInBounds_toArray, List.set_cons_zero, List.set_cons_succ]) | (refine wpG_held_skip (by rfl) ?_; simp only [Act.put, List.setIfInBounds_toArray, List.set_cons_zero, List.set_cons_succ]) | (refine wpG_held (v := ?_) (by rfl) ?_ ?_; rotate_left; (focus (intro w' hSw; (try dsimp only at hSw); go_split_ands; first | (go_simp; with_reducible rfl) | (go_simp; done))); simp only [Act.put, List.setIfInBounds_toArray, List.set_cons_zero, List.set_cons_succ]))
  refine wpG_nil (NoPanic.normal ?_)
  go_wp2_with fail
  go_ret2
  exact ⟨rfl, rfl⟩
def ofV (u : List (Int × Int)) (i : Int) : Int × Int := if hasB u.length i then u[i.toNat]?.getD (0, 0) else (0, 0)
theorem of_any {p b : Nat} {u : List (Int × Int)} {lk lb : Int} {w : World} (i : Int) (h : QAt w p b u lk lb) (o : Ok u lk lb) :
   Calls Try.prog 15 #[.pointer (some ⟨p, 0, none⟩), .int .i64 i] w fun e w' => e = .returned (.tuple #[.int .u64 (ofV u i).1, .int .u64 (ofV u i).2]) ∧ Kp NoB w w' := by
  have HQ := hid (fun (w1 : World) (g : Nat) (hq : QAt w1 p b u lk lb) => asked_any g [i] hq o)
  by_cases hh : hasB u.length i = true
  · have HA := hid (show askedE u.length [i] = 0 from by simp [askedE, hh])
    obtain ⟨k, rfl, hk⟩ := has_nat hh
    obtain ⟨⟨x, y⟩, hxy⟩ : ∃ xy, u[k]? = some xy := ⟨_, List.getElem?_eq_getElem hk⟩
    have HE := hid (show ofV u k = (x, y) from by simp [ofV, hh, hxy])
    obtain ⟨cq, Lp⟩ := h.cs
    have Le := h.e hxy
    have up := ups Lp.2.2.2.2.2.2
    have ub := ups Le.2.2.2.2
    have hbk : (0 : Int) ≤ (k : Int) := Int.natCast_nonneg _
    have hbl : (k : Int) < (u.length : Int) := by omega
    have n2 := o.n2
    clear hh hxy
    go_enter Try.func15, Try.ntmps15
    go_wp2_with fail
    refine (HQ.out _ _ (h.alloc _) (blk_new' _ _ (by simp)) (by simp)).mono ?_
    rintro e w' ⟨rfl, rfl⟩
    rw [HA.out]
    go_wp2_with fail
    refine wp_region_G (fun _ => True) [(0, .at_), (1, .at_), (2, .at_), (3, .at_), (4, .at_), (5, .at_), (6, .at_), (7, .at_), (8, .at_), (9, .at_), (10, .at_), (11, .at_), (12, .at_), (13, .at_), (14, .at_), (15, .at_), (16, .at_), (17, .at_)] ?L3 (by kernel_rfl) (by kernel_rfl) ?hL3 (trivial) ?hG3
    case hL3 => simp only [pickOps, List.map_cons, List.map_nil, List.getD_cons_zero, List.getD_cons_succ]; rfl
    repeat (first | (refine wpG_at (v := ?_) (by rfl) ?_ ?_; rotate_left; (focus (first | (go_simp; with_reducible rfl) | (go_simp; done))); simp only [Act.put, List.setIfInBounds_toArray, List.set_cons_zero, List.set_cons_succ]) | (refine wpG_at_skip (by rfl) ?_; simp only [Act.put, List.setIfInBounds_toArray, List.set_cons_zero, List.set_cons_succ]) | (refine wpG_held_skip (by rfl) ?_; simp only [Act.put, List.setIfInBounds_toArray, List.set_cons_zero, List.set_cons_succ]) | (refine wpG_held (v := ?_) (by rfl) ?_ ?_; rotate_left; (focus (intro w' hSw; (try dsimp only at hSw); go_split_ands; first | (go_simp; with_reducible rfl) | (go_simp; done))); simp only [Act.put, List.setIfInBounds_toArray, List.set_cons_zero, List.set_cons_succ]))
    refine wpG_nil (NoPanic.normal ?_)
    go_wp2_with fail
    go_ret2
    exact ⟨by rw [HE.out]; rfl, ((Kp.refl _ w).alloc _).drew⟩
  · have hh' : hasB u.length i = false := by simpa using hh
    have HA := hid (show askedE u.length [i] = 2 from by simp [askedE, hh'])
    have HE := hid (show ofV u i = (0, 0) from by simp [ofV, hh'])
    clear hh hh'
    go_enter Try.func15, Try.ntmps15
    go_wp2_with fail
    refine (HQ.out _ _ (h.alloc _) (blk_new' _ _ (by simp)) (by simp)).mono ?_
    rintro e w' ⟨rfl, rfl⟩
    rw [HA.out]
    go_wp2_with fail
    go_ret2
    exact ⟨by rw [HE.out]; rfl, (Kp.refl _ w).alloc _⟩
end Go.Proofs.Ytaghkgddnjdjcaa
