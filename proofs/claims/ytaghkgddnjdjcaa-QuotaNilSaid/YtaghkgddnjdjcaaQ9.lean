/- Walks through the accounts of a quota: what each function returns and leaves, at any accounts that are well formed (the conditions stand in each theorem). -/
import Derived.Test.YtaghkgddnjdjcaaQ8
namespace Go.Proofs.Ytaghkgddnjdjcaa
set_option linter.unusedSimpArgs false
set_option linter.unusedVariables false
open Go.RowKit
attribute [local go_sem ↓] Go.wp_at_zero Go.wp_at_succ

def actE (u : List (Int × Int)) (lk lb what i j m1 m2 : Int) : Int :=
  if what = 1 then putE u lk lb i 0 0 m1 m2 else if what = 2 then putE u lk lb i m1 m2 0 0 else if what = 3 then putE u lk lb i 0 m1 0 m2 else if what = 4 then moveE u lk lb i j m1 m2 else 0
def actU (u : List (Int × Int)) (lk lb what i j m1 m2 : Int) : List (Int × Int) :=
  if what = 1 then putU u lk lb i 0 0 m1 m2 else if what = 2 then putU u lk lb i m1 m2 0 0 else if what = 3 then putU u lk lb i 0 m1 0 m2 else if what = 4 then moveU u lk lb i j m1 m2 else u
theorem actU_ok {u : List (Int × Int)} {lk lb : Int} (o : Ok u lk lb) (what i j m1 m2 : Int) (h1 : 0 ≤ m1) (h2 : 0 ≤ m2) : Ok (actU u lk lb what i j m1 m2) lk lb := by
  unfold actU
  split
  · exact putU_ok o _ _ _ _ _ (by omega) (by omega) h1 h2
  split
  · exact putU_ok o _ _ _ _ _ h1 h2 (by omega) (by omega)
  split
  · exact putU_ok o _ _ _ _ _ (by omega) h1 (by omega) h2
  split
  · exact moveU_ok o _ _ _ _ h1 h2
  · exact o
theorem actU_len (u : List (Int × Int)) (lk lb what i j m1 m2 : Int) : (actU u lk lb what i j m1 m2).length = u.length := by
  unfold actU
  repeat' split
  all_goals simp [putU_len, moveU_len]

theorem loc5 {w : World} {g : Nat} {v0 v1 v2 v3 v4 : Value} {t : TypeId} (h : w.heap[g]? = some (.cells #[v0, v1, v2, v3, v4] t (0, 0))) :
    w.cell? ⟨g, 0, none⟩ = some v0 ∧ w.cell? ⟨g, 1, none⟩ = some v1 ∧ w.cell? ⟨g, 2, none⟩ = some v2 ∧ w.cell? ⟨g, 3, none⟩ = some v3 ∧ w.cell? ⟨g, 4, none⟩ = some v4 ∧ g < w.heap.size :=
  ⟨by rw [cell_of h]; rfl, by rw [cell_of h]; rfl, by rw [cell_of h]; rfl, by rw [cell_of h]; rfl, by rw [cell_of h]; rfl, blk_lt h⟩
def ActS (g : Nat) (v0 v1 v2 v3 v4 : Value) (w : World) : Prop := w.cell? ⟨g, 0, none⟩ = some v0 ∧ w.cell? ⟨g, 1, none⟩ = some v1 ∧ w.cell? ⟨g, 2, none⟩ = some v2 ∧ w.cell? ⟨g, 3, none⟩ = some v3 ∧ w.cell? ⟨g, 4, none⟩ = some v4
theorem ActS_of {w : World} {g : Nat} {v0 v1 v2 v3 v4 : Value} {t : TypeId} (h : w.heap[g]? = some (.cells #[v0, v1, v2, v3, v4] t (0, 0))) : ActS g v0 v1 v2 v3 v4 w :=
  ⟨by rw [cell_of h]; rfl, by rw [cell_of h]; rfl, by rw [cell_of h]; rfl, by rw [cell_of h]; rfl, by rw [cell_of h]; rfl⟩

def actV (what i j m1 m2 : Int) : Value := .agg #[.int .i64 what, .int .i64 i, .int .i64 j, .int .u64 m1, .int .u64 m2]
/-- what the program's and the document's come to, together -/
structure Two (w : World) (p b r a c : Nat) (u : List (Int × Int)) (lk lb : Int) : Prop where
  q : QAt w p b u lk lb
  r : RAt w r a c u lk lb
def TwoF (b a c : Nat) : Nat → Prop := fun x => x = b ∨ x = a ∨ x = c
section
variable {w w' : World} {p b r a c : Nat} {u u' : List (Int × Int)} {lk lb lk' lb' : Int}
theorem QAt.notR (h : QAt w p b u lk lb) (h' : RAt w r a c u' lk' lb') : b ≠ r ∧ b ≠ a ∧ b ≠ c ∧ p ≠ r ∧ p ≠ a ∧ p ≠ c := by
  obtain ⟨cq, A, h1, h2, _⟩ := h.ex
  obtain ⟨ca, cb, A', B', g1, g2, g3, _⟩ := h'.ex
  exact ⟨ne_of_types h2 g1 (by decide), ne_of_types h2 g2 (by decide), ne_of_types h2 g3 (by decide), ne_of_types h1 g1 (by decide), ne_of_types h1 g2 (by decide), ne_of_types h1 g3 (by decide)⟩
end

set_option maxRecDepth 100000 in
set_option maxHeartbeats 8000000 in
theorem do_any {p b r a c : Nat} {u : List (Int × Int)} {lk lb : Int} {w : World} (what i j m1 m2 : Int) (h : QAt w p b u lk lb) (hr : RAt w r a c u lk lb) (o : Ok u lk lb)
    (hm1 : B64 m1) (hm2 : B64 m2) :
   Calls Try.prog 16 #[.pointer (some ⟨p, 0, none⟩), .pointer (some ⟨r, 0, none⟩), actV what i j m1 m2] w fun e w' =>
     e = .returned (.bool true) ∧ QAt w' p b (actU u lk lb what i j m1 m2) lk lb ∧ RAt w' r a c (actU u lk lb what i j m1 m2) lk lb ∧ Kp (TwoF b a c) w w' := by
  unfold actV
  have hn := h.notR hr
  have hbg := h.lt.2
  have hag := hr.lt.2.1
  have hcg := hr.lt.2.2
  have hN := hid (blk_new w (.cells #[.int .i64 what, .int .i64 i, .int .i64 j, .int .u64 m1, .int .u64 m2] 30))
  have h0 := h.alloc (.cells #[.int .i64 what, .int .i64 i, .int .i64 j, .int .u64 m1, .int .u64 m2] 30)
  have hr0 := hr.alloc (.cells #[.int .i64 what, .int .i64 i, .int .i64 j, .int .u64 m1, .int .u64 m2] 30)
  have K0 : Kp (TwoF b a c) w (w.alloc (.cells #[.int .i64 what, .int .i64 i, .int .i64 j, .int .u64 m1, .int .u64 m2] 30)) := (Kp.refl _ w).alloc _
  by_cases c1 : what = 1
  · subst c1
    have HP := hid (charge_any i m1 m2 h0.drew o hm1 hm2)
    have HR := hid (fun (w1 : World) (h1 : RAt w1 r a c u lk lb) => rcharge_any i m1 m2 h1 o hm1 hm2)
    have HU := hid (show actU u lk lb 1 i j m1 m2 = putU u lk lb i 0 0 m1 m2 from rfl)
    go_enter Try.func16, Try.ntmps16
    go_wp2_with fail
    refine wp_region_G (fun W => W.cell? ⟨w.heap.size, 0, none⟩ = some (.int .i64 1) ∧ W.cell? ⟨w.heap.size, 1, none⟩ = some (.int .i64 i) ∧ W.cell? ⟨w.heap.size, 2, none⟩ = some (.int .i64 j) ∧ W.cell? ⟨w.heap.size, 3, none⟩ = some (.int .u64 m1) ∧ W.cell? ⟨w.heap.size, 4, none⟩ = some (.int .u64 m2)) [(0, .at_), (1, .at_), (2, .at_), (3, .at_), (4, .at_), (5, .at_), (6, .at_), (8, .held), (9, .held), (10, .held), (11, .held), (12, .held), (13, .held), (14, .held), (7, .eff), (15, .eff), (16, .at_), (17, .at_)] ?L1 (by kernel_rfl) (by kernel_rfl) ?hL1 (ActS_of hN.out) ?hG1
    case hL1 => simp only [pickOps, List.map_cons, List.map_nil, List.getD_cons_zero, List.getD_cons_succ]; rfl
    repeat (first | (refine wpG_at (v := ?_) (by rfl) ?_ ?_; rotate_left; (focus (first | (go_simp; with_reducible rfl) | (go_simp; done))); simp only [Act.put, List.setIfInBounds_toArray, List.set_cons_zero, List.set_cons_succ]) | (refine wpG_at_skip (by rfl) ?_; simp only [Act.put, List.setIfInBounds_toArray, List.set_cons_zero, List.set_cons_succ]) | (refine wpG_held_skip (by rfl) ?_; simp only [Act.put, List.setIfInBounds_toArray, List.set_cons_zero, List.set_cons_succ]) | (refine wpG_held (v := ?_) (by rfl) ?_ ?_; rotate_left; (focus (intro w' hSw; (try dsimp only at hSw); go_split_ands; first | (go_simp; with_reducible rfl) | (go_simp; done))); simp only [Act.put, List.setIfInBounds_toArray, List.set_cons_zero, List.set_cons_succ]))
    refine wpG_eff (by rfl) (fun K hK => ?_)
    go_simp
    refine HP.out.mono ?_
    rintro e w1 ⟨rfl, h1, k1⟩
    refine hK _ _ (ActS_of (k1.get (blk_drew hN.out) (by omega))) ?_
    clear hK K
    have hr1 := hr0.drew.kp k1 (Ne.symm hn.1) (Ne.symm hn.2.1) (Ne.symm hn.2.2.1)
    repeat (first | (refine wpG_at (v := ?_) (by rfl) ?_ ?_; rotate_left; (focus (first | (go_simp; with_reducible rfl) | (go_simp; done))); simp only [Act.put, List.setIfInBounds_toArray, List.set_cons_zero, List.set_cons_succ]) | (refine wpG_at_skip (by rfl) ?_; simp only [Act.put, List.setIfInBounds_toArray, List.set_cons_zero, List.set_cons_succ]) | (refine wpG_held_skip (by rfl) ?_; simp only [Act.put, List.setIfInBounds_toArray, List.set_cons_zero, List.set_cons_succ]) | (refine wpG_held (v := ?_) (by rfl) ?_ ?_; rotate_left; (focus (intro w' hSw; (try dsimp only at hSw); go_split_ands; first | (go_simp; with_reducible rfl) | (go_simp; done))); simp only [Act.put, List.setIfInBounds_toArray, List.set_cons_zero, List.set_cons_succ]))
    refine wpG_eff (by rfl) (fun K hK => ?_)
    go_simp
    refine (HR.out _ hr1).mono ?_
    rintro e w2 ⟨rfl, h2, k2⟩
    refine hK _ _ (ActS_of (k2.get (k1.get (blk_drew hN.out) (by omega)) (by omega))) ?_
    clear hK K
    repeat (first | (refine wpG_at (v := ?_) (by rfl) ?_ ?_; rotate_left; (focus (first | (go_simp; with_reducible rfl) | (go_simp; done))); simp only [Act.put, List.setIfInBounds_toArray, List.set_cons_zero, List.set_cons_succ]) | (refine wpG_at_skip (by rfl) ?_; simp only [Act.put, List.setIfInBounds_toArray, List.set_cons_zero, List.set_cons_succ]) | (refine wpG_held_skip (by rfl) ?_; simp only [Act.put, List.setIfInBounds_toArray, List.set_cons_zero, List.set_cons_succ]) | (refine wpG_held (v := ?_) (by rfl) ?_ ?_; rotate_left; (focus (intro w' hSw; (try dsimp only at hSw); go_split_ands; first | (go_simp; with_reducible rfl) | (go_simp; done))); simp only [Act.put, List.setIfInBounds_toArray, List.set_cons_zero, List.set_cons_succ]))
    refine wpG_nil (NoPanic.normal ?_)
    go_wp2_with fail
    go_ret
    refine ⟨by simp, ?_, ?_, ?_⟩
    · rw [HU.out]; exact h1.kp k2 (by omega) (by omega)
    · rw [HU.out]; exact h2
    · exact (K0.drew.trans (k1.mono (fun _ h => .inl h))).trans (k2.mono (fun _ h => .inr h))
  by_cases c2 : what = 2
  · subst c2
    have HP := hid (release_any i m1 m2 h0.drew o hm1 hm2)
    have HR := hid (fun (w1 : World) (h1 : RAt w1 r a c u lk lb) => rrelease_any i m1 m2 h1 o hm1 hm2)
    have HU := hid (show actU u lk lb 2 i j m1 m2 = putU u lk lb i m1 m2 0 0 from rfl)
    go_enter Try.func16, Try.ntmps16
    go_wp2_with fail
    refine wp_region_G (fun W => W.cell? ⟨w.heap.size, 0, none⟩ = some (.int .i64 2) ∧ W.cell? ⟨w.heap.size, 1, none⟩ = some (.int .i64 i) ∧ W.cell? ⟨w.heap.size, 2, none⟩ = some (.int .i64 j) ∧ W.cell? ⟨w.heap.size, 3, none⟩ = some (.int .u64 m1) ∧ W.cell? ⟨w.heap.size, 4, none⟩ = some (.int .u64 m2)) [(0, .at_), (1, .at_), (2, .at_), (3, .at_), (4, .at_), (5, .at_), (6, .at_), (8, .held), (9, .held), (10, .held), (11, .held), (12, .held), (13, .held), (14, .held), (7, .eff), (15, .eff), (16, .at_), (17, .at_)] ?L2 (by kernel_rfl) (by kernel_rfl) ?hL2 (ActS_of hN.out) ?hG2
    case hL2 => simp only [pickOps, List.map_cons, List.map_nil, List.getD_cons_zero, List.getD_cons_succ]; rfl
    repeat (first | (refine wpG_at (v := ?_) (by rfl) ?_ ?_; rotate_left; (focus (first | (go_simp; with_reducible rfl) | (go_simp; done))); simp only [Act.put, List.setIfInBounds_toArray, List.set_cons_zero, List.set_cons_succ]) | (refine wpG_at_skip (by rfl) ?_; simp only [Act.put, List.setIfInBounds_toArray, List.set_cons_zero, List.set_cons_succ]) | (refine wpG_held_skip (by rfl) ?_; simp only [Act.put, List.setIfInBounds_toArray, List.set_cons_zero, List.set_cons_succ]) | (refine wpG_held (v := ?_) (by rfl) ?_ ?_; rotate_left; (focus (intro w' hSw; (try dsimp only at hSw); go_split_ands; first | (go_simp; with_reducible rfl) | (go_simp; done))); simp only [Act.put, List.setIfInBounds_toArray, List.set_cons_zero, List.set_cons_succ]))
    refine wpG_eff (by rfl) (fun K hK => ?_)
    go_simp
    refine HP.out.mono ?_
    rintro e w1 ⟨rfl, h1, k1⟩
    refine hK _ _ (ActS_of (k1.get (blk_drew hN.out) (by omega))) ?_
    clear hK K
    have hr1 := hr0.drew.kp k1 (Ne.symm hn.1) (Ne.symm hn.2.1) (Ne.symm hn.2.2.1)
    repeat (first | (refine wpG_at (v := ?_) (by rfl) ?_ ?_; rotate_left; (focus (first | (go_simp; with_reducible rfl) | (go_simp; done))); simp only [Act.put, List.setIfInBounds_toArray, List.set_cons_zero, List.set_cons_succ]) | (refine wpG_at_skip (by rfl) ?_; simp only [Act.put, List.setIfInBounds_toArray, List.set_cons_zero, List.set_cons_succ]) | (refine wpG_held_skip (by rfl) ?_; simp only [Act.put, List.setIfInBounds_toArray, List.set_cons_zero, List.set_cons_succ]) | (refine wpG_held (v := ?_) (by rfl) ?_ ?_; rotate_left; (focus (intro w' hSw; (try dsimp only at hSw); go_split_ands; first | (go_simp; with_reducible rfl) | (go_simp; done))); simp only [Act.put, List.setIfInBounds_toArray, List.set_cons_zero, List.set_cons_succ]))
    refine wpG_eff (by rfl) (fun K hK => ?_)
    go_simp
    refine (HR.out _ hr1).mono ?_
    rintro e w2 ⟨rfl, h2, k2⟩
    refine hK _ _ (ActS_of (k2.get (k1.get (blk_drew hN.out) (by omega)) (by omega))) ?_
    clear hK K
    repeat (first | (refine wpG_at (v := ?_) (by rfl) ?_ ?_; rotate_left; (focus (first | (go_simp; with_reducible rfl) | (go_simp; done))); simp only [Act.put, List.setIfInBounds_toArray, List.set_cons_zero, List.set_cons_succ]) | (refine wpG_at_skip (by rfl) ?_; simp only [Act.put, List.setIfInBounds_toArray, List.set_cons_zero, List.set_cons_succ]) | (refine wpG_held_skip (by rfl) ?_; simp only [Act.put, List.setIfInBounds_toArray, List.set_cons_zero, List.set_cons_succ]) | (refine wpG_held (v := ?_) (by rfl) ?_ ?_; rotate_left; (focus (intro w' hSw; (try dsimp only at hSw); go_split_ands; first | (go_simp; with_reducible rfl) | (go_simp; done))); simp only [Act.put, List.setIfInBounds_toArray, List.set_cons_zero, List.set_cons_succ]))
    refine wpG_nil (NoPanic.normal ?_)
    go_wp2_with fail
    go_ret
    refine ⟨by simp, ?_, ?_, ?_⟩
    · rw [HU.out]; exact h1.kp k2 (by omega) (by omega)
    · rw [HU.out]; exact h2
    · exact (K0.drew.trans (k1.mono (fun _ h => .inl h))).trans (k2.mono (fun _ h => .inr h))
  by_cases c3 : what = 3
  · subst c3
    have HP := hid (change_any i m1 m2 h0.drew o hm1 hm2)
    have HR := hid (fun (w1 : World) (h1 : RAt w1 r a c u lk lb) => rchange_any i m1 m2 h1 o hm1 hm2)
    have HU := hid (show actU u lk lb 3 i j m1 m2 = putU u lk lb i 0 m1 0 m2 from rfl)
    go_enter Try.func16, Try.ntmps16
    go_wp2_with fail
    refine wp_region_G (fun W => W.cell? ⟨w.heap.size, 0, none⟩ = some (.int .i64 3) ∧ W.cell? ⟨w.heap.size, 1, none⟩ = some (.int .i64 i) ∧ W.cell? ⟨w.heap.size, 2, none⟩ = some (.int .i64 j) ∧ W.cell? ⟨w.heap.size, 3, none⟩ = some (.int .u64 m1) ∧ W.cell? ⟨w.heap.size, 4, none⟩ = some (.int .u64 m2)) [(0, .at_), (1, .at_), (2, .at_), (3, .at_), (4, .at_), (5, .at_), (6, .at_), (8, .held), (9, .held), (10, .held), (11, .held), (12, .held), (13, .held), (14, .held), (7, .eff), (15, .eff), (16, .at_), (17, .at_)] ?L3 (by kernel_rfl) (by kernel_rfl) ?hL3 (ActS_of hN.out) ?hG3
    case hL3 => simp only [pickOps, List.map_cons, List.map_nil, List.getD_cons_zero, List.getD_cons_succ]; rfl
    repeat (first | (refine wpG_at (v := ?_) (by rfl) ?_ ?_; rotate_left; (focus (first | (go_simp; with_reducible rfl) | (go_simp; done))); simp only [Act.put, List.setIfInBounds_toArray, List.set_cons_zero, List.set_cons_succ]) | (refine wpG_at_skip (by rfl) ?_; simp only [Act.put, List.setIfInBounds_toArray, List.set_cons_zero, List.set_cons_succ]) | (refine wpG_held_skip (by rfl) ?_; simp only [Act.put, List.setIfInBounds_toArray, List.set_cons_zero, List.set_cons_succ]) | (refine wpG_held (v := ?_) (by rfl) ?_ ?_; rotate_left; (focus (intro w' hSw; (try dsimp only at hSw); go_split_ands; first | (go_simp; with_reducible rfl) | (go_simp; done))); simp only [Act.put, List.setIfInBounds_toArray, List.set_cons_zero, List.set_cons_succ]))
    refine wpG_eff (by rfl) (fun K hK => ?_)
    go_simp
    refine HP.out.mono ?_
    rintro e w1 ⟨rfl, h1, k1⟩
    refine hK _ _ (ActS_of (k1.get (blk_drew hN.out) (by omega))) ?_
    clear hK K
    have hr1 := hr0.drew.kp k1 (Ne.symm hn.1) (Ne.symm hn.2.1) (Ne.symm hn.2.2.1)
    repeat (first | (refine wpG_at (v := ?_) (by rfl) ?_ ?_; rotate_left; (focus (first | (go_simp; with_reducible rfl) | (go_simp; done))); simp only [Act.put, List.setIfInBounds_toArray, List.set_cons_zero, List.set_cons_succ]) | (refine wpG_at_skip (by rfl) ?_; simp only [Act.put, List.setIfInBounds_toArray, List.set_cons_zero, List.set_cons_succ]) | (refine wpG_held_skip (by rfl) ?_; simp only [Act.put, List.setIfInBounds_toArray, List.set_cons_zero, List.set_cons_succ]) | (refine wpG_held (v := ?_) (by rfl) ?_ ?_; rotate_left; (focus (intro w' hSw; (try dsimp only at hSw); go_split_ands; first | (go_simp; with_reducible rfl) | (go_simp; done))); simp only [Act.put, List.setIfInBounds_toArray, List.set_cons_zero, List.set_cons_succ]))
    refine wpG_eff (by rfl) (fun K hK => ?_)
    go_simp
    refine (HR.out _ hr1).mono ?_
    rintro e w2 ⟨rfl, h2, k2⟩
    refine hK _ _ (ActS_of (k2.get (k1.get (blk_drew hN.out) (by omega)) (by omega))) ?_
    clear hK K
    repeat (first | (refine wpG_at (v := ?_) (by rfl) ?_ ?_; rotate_left; (focus (first | (go_simp; with_reducible rfl) | (go_simp; done))); simp only [Act.put, List.setIfInBounds_toArray, List.set_cons_zero, List.set_cons_succ]) | (refine wpG_at_skip (by rfl) ?_; simp only [Act.put, List.setIfInBounds_toArray, List.set_cons_zero, List.set_cons_succ]) | (refine wpG_held_skip (by rfl) ?_; simp only [Act.put, List.setIfInBounds_toArray, List.set_cons_zero, List.set_cons_succ]) | (refine wpG_held (v := ?_) (by rfl) ?_ ?_; rotate_left; (focus (intro w' hSw; (try dsimp only at hSw); go_split_ands; first | (go_simp; with_reducible rfl) | (go_simp; done))); simp only [Act.put, List.setIfInBounds_toArray, List.set_cons_zero, List.set_cons_succ]))
    refine wpG_nil (NoPanic.normal ?_)
    go_wp2_with fail
    go_ret
    refine ⟨by simp, ?_, ?_, ?_⟩
    · rw [HU.out]; exact h1.kp k2 (by omega) (by omega)
    · rw [HU.out]; exact h2
    · exact (K0.drew.trans (k1.mono (fun _ h => .inl h))).trans (k2.mono (fun _ h => .inr h))
  by_cases c4 : what = 4
  · subst c4
    have HP := hid (move_any i j m1 m2 h0.drew o hm1 hm2)
    have HR := hid (fun (w1 : World) (h1 : RAt w1 r a c u lk lb) => rmove_any i j m1 m2 h1 o hm1 hm2)
    have HU := hid (show actU u lk lb 4 i j m1 m2 = moveU u lk lb i j m1 m2 from rfl)
    go_enter Try.func16, Try.ntmps16
    go_wp2_with fail
    refine wp_region_G (fun W => W.cell? ⟨w.heap.size, 0, none⟩ = some (.int .i64 4) ∧ W.cell? ⟨w.heap.size, 1, none⟩ = some (.int .i64 i) ∧ W.cell? ⟨w.heap.size, 2, none⟩ = some (.int .i64 j) ∧ W.cell? ⟨w.heap.size, 3, none⟩ = some (.int .u64 m1) ∧ W.cell? ⟨w.heap.size, 4, none⟩ = some (.int .u64 m2)) [(0, .at_), (1, .at_), (2, .at_), (3, .at_), (4, .at_), (5, .at_), (6, .at_), (7, .at_), (8, .at_), (10, .held), (11, .held), (12, .held), (13, .held), (14, .held), (15, .held), (16, .held), (17, .held), (18, .held), (9, .eff), (19, .eff), (20, .at_), (21, .at_)] ?L4 (by kernel_rfl) (by kernel_rfl) ?hL4 (ActS_of hN.out) ?hG4
    case hL4 => simp only [pickOps, List.map_cons, List.map_nil, List.getD_cons_zero, List.getD_cons_succ]; rfl
    repeat (first | (refine wpG_at (v := ?_) (by rfl) ?_ ?_; rotate_left; (focus (first | (go_simp; with_reducible rfl) | (go_simp; done))); simp only [Act.put, List.setIfInBounds_toArray, List.set_cons_zero, List.set_cons_succ]) | (refine wpG_at_skip (by rfl) ?_; simp only [Act.put, List.setIfInBounds_toArray, List.set_cons_zero, List.set_cons_succ]) | (refine wpG_held_skip (by rfl) ?_; simp only [Act.put, List.setIfInBounds_toArray, List.set_cons_zero, List.set_cons_succ]) | (refine wpG_held (v := ?_) (by rfl) ?_ ?_; rotate_left; (focus (intro w' hSw; (try dsimp only at hSw); go_split_ands; first | (go_simp; with_reducible rfl) | (go_simp; done))); simp only [Act.put, List.setIfInBounds_toArray, List.set_cons_zero, List.set_cons_succ]))
    refine wpG_eff (by rfl) (fun K hK => ?_)
    go_simp
    refine HP.out.mono ?_
    rintro e w1 ⟨rfl, h1, k1⟩
    refine hK _ _ (ActS_of (k1.get (blk_drew hN.out) (by omega))) ?_
    clear hK K
    have hr1 := hr0.drew.kp k1 (Ne.symm hn.1) (Ne.symm hn.2.1) (Ne.symm hn.2.2.1)
    repeat (first | (refine wpG_at (v := ?_) (by rfl) ?_ ?_; rotate_left; (focus (first | (go_simp; with_reducible rfl) | (go_simp; done))); simp only [Act.put, List.setIfInBounds_toArray, List.set_cons_zero, List.set_cons_succ]) | (refine wpG_at_skip (by rfl) ?_; simp only [Act.put, List.setIfInBounds_toArray, List.set_cons_zero, List.set_cons_succ]) | (refine wpG_held_skip (by rfl) ?_; simp only [Act.put, List.setIfInBounds_toArray, List.set_cons_zero, List.set_cons_succ]) | (refine wpG_held (v := ?_) (by rfl) ?_ ?_; rotate_left; (focus (intro w' hSw; (try dsimp only at hSw); go_split_ands; first | (go_simp; with_reducible rfl) | (go_simp; done))); simp only [Act.put, List.setIfInBounds_toArray, List.set_cons_zero, List.set_cons_succ]))
    refine wpG_eff (by rfl) (fun K hK => ?_)
    go_simp
    refine (HR.out _ hr1).mono ?_
    rintro e w2 ⟨rfl, h2, k2⟩
    refine hK _ _ (ActS_of (k2.get (k1.get (blk_drew hN.out) (by omega)) (by omega))) ?_
    clear hK K
    repeat (first | (refine wpG_at (v := ?_) (by rfl) ?_ ?_; rotate_left; (focus (first | (go_simp; with_reducible rfl) | (go_simp; done))); simp only [Act.put, List.setIfInBounds_toArray, List.set_cons_zero, List.set_cons_succ]) | (refine wpG_at_skip (by rfl) ?_; simp only [Act.put, List.setIfInBounds_toArray, List.set_cons_zero, List.set_cons_succ]) | (refine wpG_held_skip (by rfl) ?_; simp only [Act.put, List.setIfInBounds_toArray, List.set_cons_zero, List.set_cons_succ]) | (refine wpG_held (v := ?_) (by rfl) ?_ ?_; rotate_left; (focus (intro w' hSw; (try dsimp only at hSw); go_split_ands; first | (go_simp; with_reducible rfl) | (go_simp; done))); simp only [Act.put, List.setIfInBounds_toArray, List.set_cons_zero, List.set_cons_succ]))
    refine wpG_nil (NoPanic.normal ?_)
    go_wp2_with fail
    go_ret
    refine ⟨by simp, ?_, ?_, ?_⟩
    · rw [HU.out]; exact h1.kp k2 (by omega) (by omega)
    · rw [HU.out]; exact h2
    · exact (K0.drew.trans (k1.mono (fun _ h => .inl h))).trans (k2.mono (fun _ h => .inr h))
  have HU := hid (show actU u lk lb what i j m1 m2 = u from by unfold actU; simp [c1, c2, c3, c4])
  have d1 : (what == 1) = false := by simpa using c1
  have d2 : (what == 2) = false := by simpa using c2
  have d3 : (what == 3) = false := by simpa using c3
  have d4 : (what == 4) = false := by simpa using c4
  go_enter Try.func16, Try.ntmps16
  go_wp2_with fail
  go_ret
  exact ⟨rfl, by rw [HU.out]; exact h0, by rw [HU.out]; exact hr0, K0⟩
end Go.Proofs.Ytaghkgddnjdjcaa
