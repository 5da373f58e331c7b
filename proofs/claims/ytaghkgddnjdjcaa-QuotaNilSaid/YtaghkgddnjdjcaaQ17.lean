/- Walks: a copy of the program's accounts, and whether two of hers are the same; what is answered of accounts that are not there. -/
import Derived.Test.YtaghkgddnjdjcaaQ15
import Derived.Lib.SliceRun
namespace Go.Proofs.Ytaghkgddnjdjcaa
set_option linter.unusedSimpArgs false
set_option linter.unusedVariables false
open Go.RowKit
attribute [local go_sem ↓] Go.wp_at_zero Go.wp_at_succ

set_option maxRecDepth 100000 in
set_option maxHeartbeats 4000000 in
theorem clone_any {b c : Nat} {u : List (Int × Int)} {A : Array Value} {w : World} (hb : w.heap[b]? = some (.cells A 49 (0, 0))) (hA : Pre eA 2 A u) (n1 : 1 ≤ u.length) (n2 : u.length ≤ 16) :
   Calls Try.prog 35 #[.slice (some ⟨b, 0, none⟩) u.length c] w fun e w' => ∃ b' c' N, e = .returned (.slice (some ⟨b', 0, none⟩) u.length c') ∧ w.heap.size ≤ b' ∧ w'.heap[b']? = some (.cells N 49 (0, 0)) ∧ Pre eA 2 N u ∧ Kp NoB w w' := by
  have HB := hid hb
  have en := fun w => Lib.run_eql_slice_nil (P := Try.prog) w 47 49 (some ⟨b, 0, none⟩) u.length c 0 0 u47
  clear hb
  go_enter Try.func35, Try.ntmps35
  go_wp2_with (at_builtin; refine wpList_plain rfl fun K hK => ?_; refine wp_copy_empty eA_len (by omega) _ _ 47 49 _ 16 rfl u47 i49 _ rfl b c u rfl A (by first | exact HB.out | exact blk_alloc HB.out) hA n1 (by omega) (by omega) ?_; intro c' N hN hc'; refine hK _ _ ?_; clear hK K)
  trace_state
  go_ret
  refine ⟨_, c', N, rfl, ?_, ?_, hN, ?_⟩
  rotate_left
  · exact blk_new' _ _ (by simp)
  · first | exact ((Kp.refl _ w).drew).alloc _ | exact (((Kp.refl _ w).alloc _).drew).alloc _
  · simp

set_option maxRecDepth 100000 in
set_option maxHeartbeats 4000000 in
theorem equal_any {b c b' c' : Nat} {u v : List (Int × Int)} {A B : Array Value} {w : World} (hb : w.heap[b]? = some (.cells A 49 (0, 0))) (hA : Pre eA 2 A u) (hb' : w.heap[b']? = some (.cells B 49 (0, 0))) (hB : Pre eA 2 B v)
    (n2 : u.length ≤ 16) (hl : u.length = v.length) :
   Calls Try.prog 36 #[.slice (some ⟨b, 0, none⟩) u.length c, .slice (some ⟨b', 0, none⟩) v.length c'] w fun e w' => e = .returned (.bool (decide (u = v))) ∧ Kp NoB w w' := by
  rw [← hl]
  have HB := hid hb
  have HB' := hid hb'
  clear hb hb'
  go_enter Try.func36, Try.ntmps36
  go_wp2_with fail
  go_loopw [13] (fun i W => ∃ j : Nat, j ≤ u.length ∧ i = .int .i64 j ∧ Kp NoB w W ∧ Hid (u.take j = v.take j)) (fun i _ => u.length - (intOf i).toNat)
  case atStart => exact ⟨0, Nat.zero_le _, rfl, Kp.refl _ w, rfl⟩
  case round =>
    obtain ⟨j, hj, rfl, hK, hT⟩ := hrel
    by_cases hlt : j < u.length
    · obtain ⟨⟨x, y⟩, hxy⟩ : ∃ xy, u[j]? = some xy := ⟨_, List.getElem?_eq_getElem hlt⟩
      obtain ⟨⟨x', y'⟩, hxy'⟩ : ∃ xy, v[j]? = some xy := ⟨_, List.getElem?_eq_getElem (by omega)⟩
      have b1 : (0 : Int) ≤ (j : Int) := Int.natCast_nonneg _
      have b2 : (j : Int) < (u.length : Int) := by omega
      have g1 := hK.get HB.out (fun h => h)
      have g2 := hK.get HB'.out (fun h => h)
      have e0 : wr.cell? ⟨b, j * 2, none⟩ = some (.int .u64 x) := by rw [cell_of g1]; exact hA j 0 _ hxy (by omega)
      have e1 : wr.cell? ⟨b, j * 2 + 1, none⟩ = some (.int .u64 y) := by rw [cell_of g1]; exact hA j 1 _ hxy (by omega)
      have f0 : wr.cell? ⟨b', j * 2, none⟩ = some (.int .u64 x') := by rw [cell_of g2]; exact hB j 0 _ hxy' (by omega)
      have f1 : wr.cell? ⟨b', j * 2 + 1, none⟩ = some (.int .u64 y') := by rw [cell_of g2]; exact hB j 1 _ hxy' (by omega)
      have HX := hid hxy
      have HX' := hid hxy'
      clear hxy hxy' g1 g2
      by_cases ee : x = x' ∧ y = y'
      · obtain ⟨rfl, rfl⟩ := ee
        go_wp2_with fail
        refine wp_region_G (fun _ => True) [(0, .at_), (1, .at_), (2, .at_), (3, .at_), (4, .at_), (5, .at_), (6, .at_), (7, .at_), (8, .at_)] ?L1 (by kernel_rfl) (by kernel_rfl) ?hL1 (trivial) ?hG1
        case hL1 => simp only [pickOps, List.map_cons, List.map_nil, List.getD_cons_zero, List.getD_cons_succ]; rfl
        repeat (first | (refine wpG_at (v := ?_) (by rfl) ?_ ?_; rotate_left; (focus (first | (go_simp; with_reducible rfl) | (go_simp; done))); simp only [Act.put, List.setIfInBounds_toArray, List.set_cons_zero, List.set_cons_succ]) | (refine wpG_at_skip (by rfl) ?_; simp only [Act.put, List.setIfInBounds_toArray, List.set_cons_zero, List.set_cons_succ]) | (refine wpG_held_skip (by rfl) ?_; simp only [Act.put, List.setIfInBounds_toArray, List.set_cons_zero, List.set_cons_succ]) | (refine wpG_held (v := ?_) (by rfl) ?_ ?_; rotate_left; (focus (intro w' hSw; (try dsimp only at hSw); go_split_ands; first | (go_simp; with_reducible rfl) | (go_simp; done))); simp only [Act.put, List.setIfInBounds_toArray, List.set_cons_zero, List.set_cons_succ]))
        refine wpG_nil (NoPanic.normal ?_)
        go_wp2_with fail
        go_roundw
        case rel => exact ⟨j + 1, by omega, by go_num, hK.drew, by
          obtain ⟨p1, q1⟩ := List.getElem?_eq_some_iff.1 HX.out
          obtain ⟨p2, q2⟩ := List.getElem?_eq_some_iff.1 HX'.out
          show _ = _
          rw [take_snoc u p1, take_snoc v p2, hT.out, q1, q2]⟩
        case measure => simp [intOf]; omega
      · have D := hid (show decide (u = v) = false from by
          simp only [decide_eq_false_iff_not]
          intro he; subst he; have := HX.out; rw [HX'.out] at this; injection this with this; injection this with t1 t2; exact ee ⟨t1.symm, t2.symm⟩)
        by_cases ex : x = x'
        · have ey : ¬ y = y' := fun h => ee ⟨ex, h⟩
          subst ex
          go_wp2_with fail
          refine wp_region_G (fun _ => True) [(0, .at_), (1, .at_), (2, .at_), (3, .at_), (4, .at_), (5, .at_), (6, .at_), (7, .at_), (8, .at_)] ?L2 (by kernel_rfl) (by kernel_rfl) ?hL2 (trivial) ?hG2
          case hL2 => simp only [pickOps, List.map_cons, List.map_nil, List.getD_cons_zero, List.getD_cons_succ]; rfl
          repeat (first | (refine wpG_at (v := ?_) (by rfl) ?_ ?_; rotate_left; (focus (first | (go_simp; with_reducible rfl) | (go_simp; done))); simp only [Act.put, List.setIfInBounds_toArray, List.set_cons_zero, List.set_cons_succ]) | (refine wpG_at_skip (by rfl) ?_; simp only [Act.put, List.setIfInBounds_toArray, List.set_cons_zero, List.set_cons_succ]) | (refine wpG_held_skip (by rfl) ?_; simp only [Act.put, List.setIfInBounds_toArray, List.set_cons_zero, List.set_cons_succ]) | (refine wpG_held (v := ?_) (by rfl) ?_ ?_; rotate_left; (focus (intro w' hSw; (try dsimp only at hSw); go_split_ands; first | (go_simp; with_reducible rfl) | (go_simp; done))); simp only [Act.put, List.setIfInBounds_toArray, List.set_cons_zero, List.set_cons_succ]))
          refine wpG_nil (NoPanic.normal ?_)
          go_wp2_with fail
          go_ret
          exact ⟨by rw [D.out]; rfl, hK.drew⟩
        · go_wp2_with fail
          refine wp_region_G (fun _ => True) [(0, .at_), (1, .at_), (2, .at_), (3, .at_), (4, .at_), (5, .at_), (6, .at_), (7, .at_), (8, .at_)] ?L3 (by kernel_rfl) (by kernel_rfl) ?hL3 (trivial) ?hG3
          case hL3 => simp only [pickOps, List.map_cons, List.map_nil, List.getD_cons_zero, List.getD_cons_succ]; rfl
          repeat (first | (refine wpG_at (v := ?_) (by rfl) ?_ ?_; rotate_left; (focus (first | (go_simp; with_reducible rfl) | (go_simp; done))); simp only [Act.put, List.setIfInBounds_toArray, List.set_cons_zero, List.set_cons_succ]) | (refine wpG_at_skip (by rfl) ?_; simp only [Act.put, List.setIfInBounds_toArray, List.set_cons_zero, List.set_cons_succ]) | (refine wpG_held_skip (by rfl) ?_; simp only [Act.put, List.setIfInBounds_toArray, List.set_cons_zero, List.set_cons_succ]) | (refine wpG_held (v := ?_) (by rfl) ?_ ?_; rotate_left; (focus (intro w' hSw; (try dsimp only at hSw); go_split_ands; first | (go_simp; with_reducible rfl) | (go_simp; done))); simp only [Act.put, List.setIfInBounds_toArray, List.set_cons_zero, List.set_cons_succ]))
          refine wpG_nil (NoPanic.normal ?_)
          go_wp2_with fail
          go_ret
          exact ⟨by rw [D.out]; rfl, hK.drew⟩
    · have hj' : j = u.length := by omega
      have D := hid (show decide (u = v) = true from by
        have := hT.out
        rw [hj', List.take_length, hl, List.take_length] at this
        simpa using this)
      go_wp2_with fail
      go_ret
      exact ⟨by rw [D.out]; rfl, hK⟩

set_option maxRecDepth 100000 in
set_option maxHeartbeats 4000000 in
theorem copyq_any {p b : Nat} {u : List (Int × Int)} {lk lb : Int} {w : World} (h : QAt w p b u lk lb) (o : Ok u lk lb) :
   Calls Try.prog 21 #[.pointer (some ⟨p, 0, none⟩)] w fun e w' => ∃ p' b', e = .returned (.pointer (some ⟨p', 0, none⟩)) ∧ w.heap.size ≤ p' ∧ w.heap.size ≤ b' ∧ QAt w' p' b' u lk lb ∧ Kp NoB w w' := by
  have HT := hid (there_any h o)
  obtain ⟨cq, A, h1, h2, hA⟩ := h.ex
  have H1 := hid h1
  have H2 := hid h2
  have Lp := loc3 h1
  have n1 := o.n1
  have n2 := o.n2
  clear h1 h2 h
  have up := ups Lp.2.2.2.2.2.2
  go_enter Try.func21, Try.ntmps21
  go_wp2_with fail
  refine HT.out.mono ?_
  rintro e w' ⟨rfl, rfl⟩
  go_wp2_with fail
  refine wp_region_G (fun W => W.cell? ⟨p, 1, none⟩ = some (.int .u64 lk) ∧ W.cell? ⟨p, 2, none⟩ = some (.int .u64 lb)) [(0, .at_), (1, .at_), (2, .at_), (3, .at_), (5, .held), (6, .held), (7, .held), (8, .held), (4, .eff), (9, .at_), (10, .eff), (11, .at_)] ?L4 (by kernel_rfl) (by kernel_rfl) ?hL4 (⟨Lp.2.1, Lp.2.2.1⟩) ?hG4
  case hL4 => simp only [pickOps, List.map_cons, List.map_nil, List.getD_cons_zero, List.getD_cons_succ]; rfl
  repeat (first | (refine wpG_at (v := ?_) (by rfl) ?_ ?_; rotate_left; (focus (first | (go_simp; with_reducible rfl) | (go_simp; done))); simp only [Act.put, List.setIfInBounds_toArray, List.set_cons_zero, List.set_cons_succ]) | (refine wpG_at_skip (by rfl) ?_; simp only [Act.put, List.setIfInBounds_toArray, List.set_cons_zero, List.set_cons_succ]) | (refine wpG_held_skip (by rfl) ?_; simp only [Act.put, List.setIfInBounds_toArray, List.set_cons_zero, List.set_cons_succ]) | (refine wpG_held (v := ?_) (by rfl) ?_ ?_; rotate_left; (focus (intro w' hSw; (try dsimp only at hSw); go_split_ands; first | (go_simp; with_reducible rfl) | (go_simp; done))); simp only [Act.put, List.setIfInBounds_toArray, List.set_cons_zero, List.set_cons_succ]))
  refine wpG_eff (by rfl) (fun K hK => ?_)
  go_simp
  refine (clone_any (c := cq) (blk_drew H2.out) hA n1 n2).mono ?_
  rintro e w1 ⟨b', c', N, rfl, g1, g2, hN, k1⟩
  have P1 := k1.get (blk_drew H1.out) (fun h => h)
  have Lq := loc3 P1
  refine hK _ _ ⟨Lq.2.1, Lq.2.2.1⟩ ?_
  clear hK K
  repeat (first | (refine wpG_at (v := ?_) (by rfl) ?_ ?_; rotate_left; (focus (first | (go_simp; with_reducible rfl) | (go_simp; done))); simp only [Act.put, List.setIfInBounds_toArray, List.set_cons_zero, List.set_cons_succ]) | (refine wpG_at_skip (by rfl) ?_; simp only [Act.put, List.setIfInBounds_toArray, List.set_cons_zero, List.set_cons_succ]) | (refine wpG_held_skip (by rfl) ?_; simp only [Act.put, List.setIfInBounds_toArray, List.set_cons_zero, List.set_cons_succ]) | (refine wpG_held (v := ?_) (by rfl) ?_ ?_; rotate_left; (focus (intro w' hSw; (try dsimp only at hSw); go_split_ands; first | (go_simp; with_reducible rfl) | (go_simp; done))); simp only [Act.put, List.setIfInBounds_toArray, List.set_cons_zero, List.set_cons_succ]))
  refine wpG_eff (by rfl) (fun K hK => ?_)
  go_simp
  refine hK _ _ (by constructor <;> go_simp) ?_
  clear hK K
  repeat (first | (refine wpG_at (v := ?_) (by rfl) ?_ ?_; rotate_left; (focus (first | (go_simp; with_reducible rfl) | (go_simp; done))); simp only [Act.put, List.setIfInBounds_toArray, List.set_cons_zero, List.set_cons_succ]) | (refine wpG_at_skip (by rfl) ?_; simp only [Act.put, List.setIfInBounds_toArray, List.set_cons_zero, List.set_cons_succ]) | (refine wpG_held_skip (by rfl) ?_; simp only [Act.put, List.setIfInBounds_toArray, List.set_cons_zero, List.set_cons_succ]) | (refine wpG_held (v := ?_) (by rfl) ?_ ?_; rotate_left; (focus (intro w' hSw; (try dsimp only at hSw); go_split_ands; first | (go_simp; with_reducible rfl) | (go_simp; done))); simp only [Act.put, List.setIfInBounds_toArray, List.set_cons_zero, List.set_cons_succ]))
  refine wpG_nil (NoPanic.normal ?_)
  go_wp2_with fail
  go_ret
  have s1 := k1.size
  refine ⟨w1.heap.size, b', rfl, by simp at s1; omega, by simp at g1; omega, ⟨c', N, blk_new' _ _ rfl, blk_alloc g2, hN⟩, ?_⟩
  exact (((Kp.refl _ w).drew).trans k1).alloc _

end Go.Proofs.Ytaghkgddnjdjcaa
