/- Walks: a copy of the document's accounts, and whether two of hers are the same. -/
import Derived.Test.YtaghkgddnjdjcaaQ11
import Derived.Test.YtaghkgddnjdjcaaLibG
import Derived.OwnWalk
namespace Go.Proofs.Ytaghkgddnjdjcaa
set_option linter.unusedSimpArgs false
set_option linter.unusedVariables false
open Go.RowKit
attribute [local go_sem ↓] Go.wp_at_zero Go.wp_at_succ

set_option maxRecDepth 100000 in
set_option maxHeartbeats 4000000 in
theorem rcopy_any {r a b : Nat} {u : List (Int × Int)} {lk lb : Int} {w : World} (h : RAt w r a b u lk lb) (o : Ok u lk lb) :
   Calls Try.prog 18 #[.pointer (some ⟨r, 0, none⟩)] w fun e w' => ∃ r' a' b', e = .returned (.pointer (some ⟨r', 0, none⟩)) ∧ w.heap.size ≤ r' ∧ w.heap.size ≤ a' ∧ w.heap.size ≤ b' ∧ RAt w' r' a' b' u lk lb ∧ Kp NoB w w' := by
  obtain ⟨ca, cb, A, B, h1, h2, h3, hA, hB, hab⟩ := h.ex
  have H1 := hid h1
  have H2 := hid h2
  have H3 := hid h3
  have c0 : w.cell? ⟨r, 0, none⟩ = some (.slice (some ⟨a, 0, none⟩) u.length ca) := by rw [cell_of h1]; rfl
  have c1 : w.cell? ⟨r, 1, none⟩ = some (.slice (some ⟨b, 0, none⟩) u.length cb) := by rw [cell_of h1]; rfl
  have c2 : w.cell? ⟨r, 2, none⟩ = some (.int .u64 lk) := by rw [cell_of h1]; rfl
  have c3 : w.cell? ⟨r, 3, none⟩ = some (.int .u64 lb) := by rw [cell_of h1]; rfl
  have hrl := ups (blk_lt h1)
  have n1 := o.n1
  have n2 := o.n2
  clear h1 h2 h3 h
  go_enter Try.func18, Try.ntmps18
  go_wp2_with fail
  refine wp_region_G (fun W => W.cell? ⟨r, 0, none⟩ = some (.slice (some ⟨a, 0, none⟩) u.length ca) ∧ W.cell? ⟨r, 1, none⟩ = some (.slice (some ⟨b, 0, none⟩) u.length cb) ∧ W.cell? ⟨r, 2, none⟩ = some (.int .u64 lk) ∧ W.cell? ⟨r, 3, none⟩ = some (.int .u64 lb)) [(0, .at_), (1, .at_), (2, .at_), (3, .at_), (5, .held), (6, .held), (7, .held), (8, .held), (10, .held), (11, .held), (12, .held), (13, .held), (14, .held), (15, .held), (16, .held), (17, .held), (4, .eff), (9, .eff), (18, .at_), (19, .eff), (20, .at_)] ?L1 (by kernel_rfl) (by kernel_rfl) ?hL1 (⟨c0, c1, c2, c3⟩) ?hG1
  case hL1 => simp only [pickOps, List.map_cons, List.map_nil, List.getD_cons_zero, List.getD_cons_succ]; rfl
  repeat (first | (refine wpG_at (v := ?_) (by rfl) ?_ ?_; rotate_left; (focus (first | (go_simp; with_reducible rfl) | (go_simp; done))); simp only [Act.put, List.setIfInBounds_toArray, List.set_cons_zero, List.set_cons_succ]) | (refine wpG_at_skip (by rfl) ?_; simp only [Act.put, List.setIfInBounds_toArray, List.set_cons_zero, List.set_cons_succ]) | (refine wpG_held_skip (by rfl) ?_; simp only [Act.put, List.setIfInBounds_toArray, List.set_cons_zero, List.set_cons_succ]) | (refine wpG_held (v := ?_) (by rfl) ?_ ?_; rotate_left; (focus (intro w' hSw; (try dsimp only at hSw); go_split_ands; first | (go_simp; with_reducible rfl) | (go_simp; done))); simp only [Act.put, List.setIfInBounds_toArray, List.set_cons_zero, List.set_cons_succ]))
  refine wpG_eff (by rfl) (fun K hK => ?_)
  refine wp_copy_nil eK_len (by omega) _ _ 64 22 _ 8 rfl u64' i22 rfl a ca u rfl A H2.out hA n1 (by omega) (by omega) ?_
  intro c' N hN hc'
  refine hK _ _ (by refine ⟨?_, ?_, ?_, ?_⟩ <;> go_simp) ?_
  clear hK K
  repeat (first | (refine wpG_at (v := ?_) (by rfl) ?_ ?_; rotate_left; (focus (first | (go_simp; with_reducible rfl) | (go_simp; done))); simp only [Act.put, List.setIfInBounds_toArray, List.set_cons_zero, List.set_cons_succ]) | (refine wpG_at_skip (by rfl) ?_; simp only [Act.put, List.setIfInBounds_toArray, List.set_cons_zero, List.set_cons_succ]) | (refine wpG_held_skip (by rfl) ?_; simp only [Act.put, List.setIfInBounds_toArray, List.set_cons_zero, List.set_cons_succ]) | (refine wpG_held (v := ?_) (by rfl) ?_ ?_; rotate_left; (focus (intro w' hSw; (try dsimp only at hSw); go_split_ands; first | (go_simp; with_reducible rfl) | (go_simp; done))); simp only [Act.put, List.setIfInBounds_toArray, List.set_cons_zero, List.set_cons_succ]))
  refine wpG_eff (by rfl) (fun K hK => ?_)
  refine wp_copy_nil eY_len (by omega) _ _ 64 22 _ 8 rfl u64' i22 rfl b cb u rfl B (blk_alloc (blk_drew H3.out)) hB n1 (by omega) (by omega) ?_
  intro c2' N2 hN2 hc2'
  refine hK _ _ (by refine ⟨?_, ?_, ?_, ?_⟩ <;> go_simp) ?_
  clear hK K
  repeat (first | (refine wpG_at (v := ?_) (by rfl) ?_ ?_; rotate_left; (focus (first | (go_simp; with_reducible rfl) | (go_simp; done))); simp only [Act.put, List.setIfInBounds_toArray, List.set_cons_zero, List.set_cons_succ]) | (refine wpG_at_skip (by rfl) ?_; simp only [Act.put, List.setIfInBounds_toArray, List.set_cons_zero, List.set_cons_succ]) | (refine wpG_held_skip (by rfl) ?_; simp only [Act.put, List.setIfInBounds_toArray, List.set_cons_zero, List.set_cons_succ]) | (refine wpG_held (v := ?_) (by rfl) ?_ ?_; rotate_left; (focus (intro w' hSw; (try dsimp only at hSw); go_split_ands; first | (go_simp; with_reducible rfl) | (go_simp; done))); simp only [Act.put, List.setIfInBounds_toArray, List.set_cons_zero, List.set_cons_succ]))
  refine wpG_eff (by rfl) (fun K hK => ?_)
  go_simp
  refine hK _ _ (by refine ⟨?_, ?_, ?_, ?_⟩ <;> go_simp) ?_
  clear hK K
  repeat (first | (refine wpG_at (v := ?_) (by rfl) ?_ ?_; rotate_left; (focus (first | (go_simp; with_reducible rfl) | (go_simp; done))); simp only [Act.put, List.setIfInBounds_toArray, List.set_cons_zero, List.set_cons_succ]) | (refine wpG_at_skip (by rfl) ?_; simp only [Act.put, List.setIfInBounds_toArray, List.set_cons_zero, List.set_cons_succ]) | (refine wpG_held_skip (by rfl) ?_; simp only [Act.put, List.setIfInBounds_toArray, List.set_cons_zero, List.set_cons_succ]) | (refine wpG_held (v := ?_) (by rfl) ?_ ?_; rotate_left; (focus (intro w' hSw; (try dsimp only at hSw); go_split_ands; first | (go_simp; with_reducible rfl) | (go_simp; done))); simp only [Act.put, List.setIfInBounds_toArray, List.set_cons_zero, List.set_cons_succ]))
  refine wpG_nil (NoPanic.normal ?_)
  go_wp2_with fail
  go_ret
  refine ⟨w.heap.size + 1 + 1, w.heap.size, w.heap.size + 1, rfl, by omega, by omega, by omega, ⟨c', c2', N, N2, ?_, ?_, ?_, hN, hN2, by omega⟩, ?_⟩
  · exact blk_new' _ _ (by simp)
  · exact blk_alloc (blk_drew (blk_alloc (blk_drew (blk_new' _ _ (by simp)))))
  · exact blk_alloc (blk_new' _ _ (by simp))
  · exact (((((Kp.refl _ w).drew.drew.alloc _).drew.alloc _)).alloc _)

set_option maxRecDepth 100000 in
set_option maxHeartbeats 4000000 in
theorem rsame_any {r a b r' a' b' : Nat} {u v : List (Int × Int)} {lk lb : Int} {w : World} (h : RAt w r a b u lk lb) (h' : RAt w r' a' b' v lk lb) (n2 : u.length ≤ 16) (hl : u.length = v.length) :
   Calls Try.prog 19 #[.pointer (some ⟨r, 0, none⟩), .pointer (some ⟨r', 0, none⟩)] w fun e w' => e = .returned (.bool (decide (u = v))) ∧ Kp NoB w w' := by
  obtain ⟨ca, cb, Lc⟩ := h.cs
  obtain ⟨ca', cb', Lc'⟩ := h'.cs
  rw [← hl] at Lc'
  go_enter Try.func19, Try.ntmps19
  go_wp2_with fail
  refine wp_region_G (fun _ => True) [(0, .at_), (1, .at_), (2, .at_), (3, .at_), (4, .at_), (5, .at_), (6, .at_), (7, .at_), (8, .at_), (9, .at_), (10, .at_), (11, .at_), (12, .at_), (13, .at_), (14, .at_), (15, .at_), (16, .at_), (17, .at_), (18, .at_), (19, .at_), (20, .at_), (21, .at_), (22, .at_), (23, .at_), (24, .at_), (25, .at_), (26, .at_), (27, .at_), (28, .at_), (29, .at_), (30, .at_), (31, .at_), (32, .at_)] ?L2 (by kernel_rfl) (by kernel_rfl) ?hL2 (trivial) ?hG2
  case hL2 => simp only [pickOps, List.map_cons, List.map_nil, List.getD_cons_zero, List.getD_cons_succ]; rfl
  repeat (first | (refine wpG_at (v := ?_) (by rfl) ?_ ?_; rotate_left; (focus (first | (go_simp; with_reducible rfl) | (go_simp; done))); simp only [Act.put, List.setIfInBounds_toArray, List.set_cons_zero, List.set_cons_succ]) | (refine wpG_at_skip (by rfl) ?_; simp only [Act.put, List.setIfInBounds_toArray, List.set_cons_zero, List.set_cons_succ]) | (refine wpG_held_skip (by rfl) ?_; simp only [Act.put, List.setIfInBounds_toArray, List.set_cons_zero, List.set_cons_succ]) | (refine wpG_held (v := ?_) (by rfl) ?_ ?_; rotate_left; (focus (intro w' hSw; (try dsimp only at hSw); go_split_ands; first | (go_simp; with_reducible rfl) | (go_simp; done))); simp only [Act.put, List.setIfInBounds_toArray, List.set_cons_zero, List.set_cons_succ]))
  refine wpG_nil (NoPanic.normal ?_)
  go_wp2_with fail
  go_loopw [5] (fun i W => ∃ j : Nat, j ≤ u.length ∧ i = .int .i64 j ∧ RAt W r a b u lk lb ∧ RAt W r' a' b' v lk lb ∧ Kp NoB w W ∧ Hid (u.take j = v.take j)) (fun i _ => u.length - (intOf i).toNat)
  case atStart => exact ⟨0, Nat.zero_le _, rfl, by first | exact h | exact h.drew, by first | exact h' | exact h'.drew, by first | exact Kp.refl _ w | exact (Kp.refl _ w).drew, rfl⟩
  case round =>
    obtain ⟨j, hj, rfl, hr, hr', hK, hT⟩ := hrel
    clear Lc Lc' h h'
    obtain ⟨ca, cb, Lc⟩ := hr.cs
    obtain ⟨ca', cb', Lc'⟩ := hr'.cs
    rw [← hl] at Lc'
    by_cases hlt : j < u.length
    · obtain ⟨⟨x, y⟩, hxy⟩ : ∃ xy, u[j]? = some xy := ⟨_, List.getElem?_eq_getElem hlt⟩
      obtain ⟨⟨x', y'⟩, hxy'⟩ : ∃ xy, v[j]? = some xy := ⟨_, List.getElem?_eq_getElem (by omega)⟩
      have b1 : (0 : Int) ≤ (j : Int) := Int.natCast_nonneg _
      have b2 : (j : Int) < (u.length : Int) := by omega
      have Le := hr.es hxy
      have Le' := hr'.es hxy'
      have HX := hid hxy
      have HX' := hid hxy'
      clear hxy hxy'
      by_cases e1 : x = x'
      · by_cases e2 : y = y'
        · subst e1
          subst e2
          go_wp2_with fail
          refine wp_region_G (fun _ => True) [(0, .at_), (1, .at_), (2, .at_), (3, .at_), (4, .at_), (5, .at_), (6, .at_), (7, .at_), (8, .at_), (9, .at_), (10, .at_), (11, .at_), (12, .at_), (13, .at_), (14, .at_), (15, .at_), (16, .at_), (17, .at_), (18, .at_), (19, .at_), (20, .at_), (21, .at_), (22, .at_), (23, .at_), (24, .at_), (25, .at_), (26, .at_), (27, .at_), (28, .at_), (29, .at_), (30, .at_), (31, .at_)] ?L3 (by kernel_rfl) (by kernel_rfl) ?hL3 (trivial) ?hG3
          case hL3 => simp only [pickOps, List.map_cons, List.map_nil, List.getD_cons_zero, List.getD_cons_succ]; rfl
          repeat (first | (refine wpG_at (v := ?_) (by rfl) ?_ ?_; rotate_left; (focus (first | (go_simp; with_reducible rfl) | (go_simp; done))); simp only [Act.put, List.setIfInBounds_toArray, List.set_cons_zero, List.set_cons_succ]) | (refine wpG_at_skip (by rfl) ?_; simp only [Act.put, List.setIfInBounds_toArray, List.set_cons_zero, List.set_cons_succ]) | (refine wpG_held_skip (by rfl) ?_; simp only [Act.put, List.setIfInBounds_toArray, List.set_cons_zero, List.set_cons_succ]) | (refine wpG_held (v := ?_) (by rfl) ?_ ?_; rotate_left; (focus (intro w' hSw; (try dsimp only at hSw); go_split_ands; first | (go_simp; with_reducible rfl) | (go_simp; done))); simp only [Act.put, List.setIfInBounds_toArray, List.set_cons_zero, List.set_cons_succ]))
          refine wpG_nil (NoPanic.normal ?_)
          go_wp2_with fail
          go_roundw
          case rel => exact ⟨j + 1, by omega, by go_num, hr.drew, hr'.drew, hK.drew, by
            obtain ⟨p1, q1⟩ := List.getElem?_eq_some_iff.1 HX.out
            obtain ⟨p2, q2⟩ := List.getElem?_eq_some_iff.1 HX'.out
            show _ = _
            rw [take_snoc u p1, take_snoc v p2, hT.out, q1, q2]⟩
          case measure => simp [intOf]; omega
        · subst e1
          have e2' : (y != y') = true := by simpa using e2
          have D := hid (show decide (u = v) = false from by
            simp only [decide_eq_false_iff_not]
            intro he; subst he; have := HX.out; rw [HX'.out] at this; injection this with this; injection this with _ this; exact e2 this.symm)
          clear e2
          go_wp2_with fail
          refine wp_region_G (fun _ => True) [(0, .at_), (1, .at_), (2, .at_), (3, .at_), (4, .at_), (5, .at_), (6, .at_), (7, .at_), (8, .at_), (9, .at_), (10, .at_), (11, .at_), (12, .at_), (13, .at_), (14, .at_), (15, .at_), (16, .at_), (17, .at_), (18, .at_), (19, .at_), (20, .at_), (21, .at_), (22, .at_), (23, .at_), (24, .at_), (25, .at_), (26, .at_), (27, .at_), (28, .at_), (29, .at_), (30, .at_), (31, .at_)] ?L4 (by kernel_rfl) (by kernel_rfl) ?hL4 (trivial) ?hG4
          case hL4 => simp only [pickOps, List.map_cons, List.map_nil, List.getD_cons_zero, List.getD_cons_succ]; rfl
          repeat (first | (refine wpG_at (v := ?_) (by rfl) ?_ ?_; rotate_left; (focus (first | (go_simp; with_reducible rfl) | (go_simp; done))); simp only [Act.put, List.setIfInBounds_toArray, List.set_cons_zero, List.set_cons_succ]) | (refine wpG_at_skip (by rfl) ?_; simp only [Act.put, List.setIfInBounds_toArray, List.set_cons_zero, List.set_cons_succ]) | (refine wpG_held_skip (by rfl) ?_; simp only [Act.put, List.setIfInBounds_toArray, List.set_cons_zero, List.set_cons_succ]) | (refine wpG_held (v := ?_) (by rfl) ?_ ?_; rotate_left; (focus (intro w' hSw; (try dsimp only at hSw); go_split_ands; first | (go_simp; with_reducible rfl) | (go_simp; done))); simp only [Act.put, List.setIfInBounds_toArray, List.set_cons_zero, List.set_cons_succ]))
          refine wpG_nil (NoPanic.normal ?_)
          go_wp2_with fail
          go_ret
          exact ⟨by rw [D.out]; rfl, hK.drew⟩
      · have e1' : (x != x') = true := by simpa using e1
        have D := hid (show decide (u = v) = false from by
          simp only [decide_eq_false_iff_not]
          intro he; subst he; have := HX.out; rw [HX'.out] at this; injection this with this; injection this with this _; exact e1 this.symm)
        clear e1
        go_wp2_with fail
        refine wp_region_G (fun _ => True) [(0, .at_), (1, .at_), (2, .at_), (3, .at_), (4, .at_), (5, .at_), (6, .at_), (7, .at_), (8, .at_), (9, .at_), (10, .at_), (11, .at_), (12, .at_), (13, .at_), (14, .at_), (15, .at_), (16, .at_), (17, .at_), (18, .at_), (19, .at_), (20, .at_), (21, .at_), (22, .at_), (23, .at_), (24, .at_), (25, .at_), (26, .at_), (27, .at_), (28, .at_), (29, .at_), (30, .at_), (31, .at_)] ?L5 (by kernel_rfl) (by kernel_rfl) ?hL5 (trivial) ?hG5
        case hL5 => simp only [pickOps, List.map_cons, List.map_nil, List.getD_cons_zero, List.getD_cons_succ]; rfl
        repeat (first | (refine wpG_at (v := ?_) (by rfl) ?_ ?_; rotate_left; (focus (first | (go_simp; with_reducible rfl) | (go_simp; done))); simp only [Act.put, List.setIfInBounds_toArray, List.set_cons_zero, List.set_cons_succ]) | (refine wpG_at_skip (by rfl) ?_; simp only [Act.put, List.setIfInBounds_toArray, List.set_cons_zero, List.set_cons_succ]) | (refine wpG_held_skip (by rfl) ?_; simp only [Act.put, List.setIfInBounds_toArray, List.set_cons_zero, List.set_cons_succ]) | (refine wpG_held (v := ?_) (by rfl) ?_ ?_; rotate_left; (focus (intro w' hSw; (try dsimp only at hSw); go_split_ands; first | (go_simp; with_reducible rfl) | (go_simp; done))); simp only [Act.put, List.setIfInBounds_toArray, List.set_cons_zero, List.set_cons_succ]))
        refine wpG_nil (NoPanic.normal ?_)
        go_wp2_with fail
        go_ret
        exact ⟨by rw [D.out]; rfl, hK.drew⟩
    · have hj' : j = u.length := by omega
      have D := hid (show decide (u = v) = true from by
        have := hT.out
        rw [hj', List.take_length, hl, List.take_length] at this
        simpa using this)
      go_wp2_with fail
      go_ret
      exact ⟨by rw [D.out]; rfl, hK⟩
end Go.Proofs.Ytaghkgddnjdjcaa
