/- Walks: an act, of both. -/
import Derived.Test.YtpfhjfijpmcnkaaK11
namespace Go.Proofs.Ytpfhjfijpmcnkaa
set_option linter.unusedSimpArgs false
set_option linter.unusedVariables false
open Go.RowKit
attribute [local go_sem ↓] Go.wp_at_zero Go.wp_at_succ
def doL (n : Nat) (L : List (Int × Int)) (k t id : Int) : List (Int × Int) := if k = 1 then tryL n L t id else if k = 2 then relL L t id else if k = 3 then dropL L t else L
theorem do_len (n : Nat) (L : List (Int × Int)) (k t id : Int) : (doL n L k t id).length ≤ L.length + 1 := by
  unfold doL
  split
  · exact try_len n L t id
  · split
    · unfold relL; split
      · have := out_len L t id; omega
      · omega
    · split
      · have := drop_len L t; omega
      · omega
def actV (k t id : Int) : Value := .agg #[.int .i64 k, .int .i64 t, .int .i64 id]
section
variable {w w' : World} {p m q n : Nat} {M : List (Int × Value)} {v v1 v2 : Value} {L : List (Int × Int)} {l l' : List Int}
set_option maxRecDepth 100000 in
set_option maxHeartbeats 4000000 in
theorem do_any (h : JAt w p m q n M v L) (n2 : L.length ≤ 3999) {k t id : Int} (hw : (Lit.int .i64 id).wf = true) :
    Calls Try.prog 18 #[.pointer (some ⟨p, 0, none⟩), .pointer (some ⟨q, 0, none⟩), actV k t id] w fun e w' => e = .returned (.bool true) ∧ ∃ M' v', JAt w' p m q n M' v' (doL n L k t id) ∧ Kp (fun b => b = m ∨ b = q) w w' := by
  have hml := h.c.lt.2
  have hql := blk_lt h.r.hq
  have J0 := hid (h.kn ((Kp.refl _ w).alloc (.cells #[.int .i64 k, .int .i64 t, .int .i64 id] 39)))
  have hb := hid (blk_new w (.cells #[.int .i64 k, .int .i64 t, .int .i64 id] 39))
  have K0 := hid ((Kp.refl NoB w).alloc (.cells #[.int .i64 k, .int .i64 t, .int .i64 id] 39))
  have hbm : w.heap.size ≠ m := by omega
  clear h
  unfold actV
  by_cases c1 : k = 1
  · subst c1
    have hd := hid (show doL n L 1 t id = tryL n L t id from by simp [doL])
    have HB := hid (fun W (k : Kp NoB (w.alloc (.cells #[.int .i64 1, .int .i64 t, .int .i64 id] 39)) W) => both_try (J0.out.kn k) n2 (t := t) hw)
    have L0 := loc3 hb.out
    go_enter Try.func18, Try.ntmps18
    go_wp2_with fail
    refine wp_region_G (fun W => W.cell? ⟨w.heap.size, 1, none⟩ = some (.int .i64 t) ∧ W.cell? ⟨w.heap.size, 2, none⟩ = some (.int .i64 id)) [(0, .at_), (1, .at_), (2, .at_), (3, .at_), (4, .at_), (6, .held), (7, .held), (8, .held), (9, .held), (10, .held), (5, .eff), (11, .fin), (12, .at_), (13, .at_)] ?L1 (by kernel_rfl) (by kernel_rfl) ?hL1 (⟨L0.2.1, L0.2.2.1⟩) ?hG1
    case hL1 => simp only [pickOps, List.map_cons, List.map_nil, List.getD_cons_zero, List.getD_cons_succ]; rfl
    repeat (first | (refine wpG_at (v := ?_) (by rfl) ?_ ?_; rotate_left; (focus (first | (go_simp; with_reducible rfl) | (go_simp; done))); simp only [Act.put, List.setIfInBounds_toArray, List.set_cons_zero, List.set_cons_succ]) | (refine wpG_at_skip (by rfl) ?_; simp only [Act.put, List.setIfInBounds_toArray, List.set_cons_zero, List.set_cons_succ]) | (refine wpG_held_skip (by rfl) ?_; simp only [Act.put, List.setIfInBounds_toArray, List.set_cons_zero, List.set_cons_succ]) | (refine wpG_held (v := ?_) (by rfl) ?_ ?_; rotate_left; (focus (intro w' hSw; (try dsimp only at hSw); go_split_ands; first | (go_simp; with_reducible rfl) | (go_simp; done))); simp only [Act.put, List.setIfInBounds_toArray, List.set_cons_zero, List.set_cons_succ]))
    refine wpG_eff (by rfl) (fun K hK => ?_)
    go_simp
    refine (HB.out _ ((Kp.refl _ _).drew)).mono ?_
    rintro e w1 ⟨rfl, k1, r1, HR⟩
    have hb1 := k1.get (blk_drew hb.out) hbm
    have L1 := loc3 hb1
    refine hK _ _ ⟨L1.2.1, L1.2.2.1⟩ ?_
    clear hK K L0
    replace r1 := hid r1
    replace hb1 := hid hb1
    repeat (first | (refine wpG_at (v := ?_) (by rfl) ?_ ?_; rotate_left; (focus (first | (go_simp; with_reducible rfl) | (go_simp; done))); simp only [Act.put, List.setIfInBounds_toArray, List.set_cons_zero, List.set_cons_succ]) | (refine wpG_at_skip (by rfl) ?_; simp only [Act.put, List.setIfInBounds_toArray, List.set_cons_zero, List.set_cons_succ]) | (refine wpG_held_skip (by rfl) ?_; simp only [Act.put, List.setIfInBounds_toArray, List.set_cons_zero, List.set_cons_succ]) | (refine wpG_held (v := ?_) (by rfl) ?_ ?_; rotate_left; (focus (intro w' hSw; (try dsimp only at hSw); go_split_ands; first | (go_simp; with_reducible rfl) | (go_simp; done))); simp only [Act.put, List.setIfInBounds_toArray, List.set_cons_zero, List.set_cons_succ]))
    refine wpG_fin (by rfl) (fun K hK => ?_)
    go_simp
    refine (HR.out _ (Kp.refl _ _)).mono ?_
    rintro e w2 ⟨rfl, k2, M', v', J2⟩
    refine hK _ _ ?_
    clear hK K L1
    replace J2 := hid J2
    repeat (first | (refine wpG_at (v := ?_) (by rfl) ?_ ?_; rotate_left; (focus (first | (go_simp; with_reducible rfl) | (go_simp; done))); simp only [Act.put, List.setIfInBounds_toArray, List.set_cons_zero, List.set_cons_succ]) | (refine wpG_at_skip (by rfl) ?_; simp only [Act.put, List.setIfInBounds_toArray, List.set_cons_zero, List.set_cons_succ]) | (refine wpG_held_skip (by rfl) ?_; simp only [Act.put, List.setIfInBounds_toArray, List.set_cons_zero, List.set_cons_succ]) | (refine wpG_held (v := ?_) (by rfl) ?_ ?_; rotate_left; (focus (intro w' hSw; (try dsimp only at hSw); go_split_ands; first | (go_simp; with_reducible rfl) | (go_simp; done))); simp only [Act.put, List.setIfInBounds_toArray, List.set_cons_zero, List.set_cons_succ]))
    refine wpG_nil (NoPanic.normal ?_)
    go_wp2_with fail
    go_ret
    exact ⟨by simp, M', v', by rw [hd.out]; exact J2.out, ((K0.out.drew.mono (fun _ h => h.elim)).trans (k1.mono (fun _ h => Or.inl h))).trans (k2.mono (fun _ h => Or.inr h))⟩
  · by_cases c2 : k = 2
    · subst c2
      clear c1
      have hd := hid (show doL n L 2 t id = relL L t id from by simp [doL])
      have HB := hid (fun W (k : Kp NoB (w.alloc (.cells #[.int .i64 2, .int .i64 t, .int .i64 id] 39)) W) => both_release (J0.out.kn k) n2 (t := t) hw)
      have L0 := loc3 hb.out
      go_enter Try.func18, Try.ntmps18
      go_wp2_with fail
      refine wp_region_G (fun W => W.cell? ⟨w.heap.size, 1, none⟩ = some (.int .i64 t) ∧ W.cell? ⟨w.heap.size, 2, none⟩ = some (.int .i64 id)) [(0, .at_), (1, .at_), (2, .at_), (3, .at_), (4, .at_), (6, .held), (7, .held), (8, .held), (9, .held), (10, .held), (5, .eff), (11, .fin), (12, .at_), (13, .at_)] ?L2 (by kernel_rfl) (by kernel_rfl) ?hL2 (⟨L0.2.1, L0.2.2.1⟩) ?hG2
      case hL2 => simp only [pickOps, List.map_cons, List.map_nil, List.getD_cons_zero, List.getD_cons_succ]; rfl
      repeat (first | (refine wpG_at (v := ?_) (by rfl) ?_ ?_; rotate_left; (focus (first | (go_simp; with_reducible rfl) | (go_simp; done))); simp only [Act.put, List.setIfInBounds_toArray, List.set_cons_zero, List.set_cons_succ]) | (refine wpG_at_skip (by rfl) ?_; simp only [Act.put, List.setIfInBounds_toArray, List.set_cons_zero, List.set_cons_succ]) | (refine wpG_held_skip (by rfl) ?_; simp only [Act.put, List.setIfInBounds_toArray, List.set_cons_zero, List.set_cons_succ]) | (refine wpG_held (v := ?_) (by rfl) ?_ ?_; rotate_left; (focus (intro w' hSw; (try dsimp only at hSw); go_split_ands; first | (go_simp; with_reducible rfl) | (go_simp; done))); simp only [Act.put, List.setIfInBounds_toArray, List.set_cons_zero, List.set_cons_succ]))
      refine wpG_eff (by rfl) (fun K hK => ?_)
      go_simp
      refine (HB.out _ ((Kp.refl _ _).drew)).mono ?_
      rintro e w1 ⟨rfl, k1, r1, HR⟩
      have hb1 := k1.get (blk_drew hb.out) hbm
      have L1 := loc3 hb1
      refine hK _ _ ⟨L1.2.1, L1.2.2.1⟩ ?_
      clear hK K L0
      replace r1 := hid r1
      replace hb1 := hid hb1
      repeat (first | (refine wpG_at (v := ?_) (by rfl) ?_ ?_; rotate_left; (focus (first | (go_simp; with_reducible rfl) | (go_simp; done))); simp only [Act.put, List.setIfInBounds_toArray, List.set_cons_zero, List.set_cons_succ]) | (refine wpG_at_skip (by rfl) ?_; simp only [Act.put, List.setIfInBounds_toArray, List.set_cons_zero, List.set_cons_succ]) | (refine wpG_held_skip (by rfl) ?_; simp only [Act.put, List.setIfInBounds_toArray, List.set_cons_zero, List.set_cons_succ]) | (refine wpG_held (v := ?_) (by rfl) ?_ ?_; rotate_left; (focus (intro w' hSw; (try dsimp only at hSw); go_split_ands; first | (go_simp; with_reducible rfl) | (go_simp; done))); simp only [Act.put, List.setIfInBounds_toArray, List.set_cons_zero, List.set_cons_succ]))
      refine wpG_fin (by rfl) (fun K hK => ?_)
      go_simp
      refine (HR.out _ (Kp.refl _ _)).mono ?_
      rintro e w2 ⟨rfl, k2, M', v', J2⟩
      refine hK _ _ ?_
      clear hK K L1
      replace J2 := hid J2
      repeat (first | (refine wpG_at (v := ?_) (by rfl) ?_ ?_; rotate_left; (focus (first | (go_simp; with_reducible rfl) | (go_simp; done))); simp only [Act.put, List.setIfInBounds_toArray, List.set_cons_zero, List.set_cons_succ]) | (refine wpG_at_skip (by rfl) ?_; simp only [Act.put, List.setIfInBounds_toArray, List.set_cons_zero, List.set_cons_succ]) | (refine wpG_held_skip (by rfl) ?_; simp only [Act.put, List.setIfInBounds_toArray, List.set_cons_zero, List.set_cons_succ]) | (refine wpG_held (v := ?_) (by rfl) ?_ ?_; rotate_left; (focus (intro w' hSw; (try dsimp only at hSw); go_split_ands; first | (go_simp; with_reducible rfl) | (go_simp; done))); simp only [Act.put, List.setIfInBounds_toArray, List.set_cons_zero, List.set_cons_succ]))
      refine wpG_nil (NoPanic.normal ?_)
      go_wp2_with fail
      go_ret
      exact ⟨by simp, M', v', by rw [hd.out]; exact J2.out, ((K0.out.drew.mono (fun _ h => h.elim)).trans (k1.mono (fun _ h => Or.inl h))).trans (k2.mono (fun _ h => Or.inr h))⟩
    · by_cases c3 : k = 3
      · subst c3
        clear c1 c2
        have hd := hid (show doL n L 3 t id = dropL L t from by simp [doL])
        have HB := hid (fun W (k : Kp NoB (w.alloc (.cells #[.int .i64 3, .int .i64 t, .int .i64 id] 39)) W) => both_drop (J0.out.kn k) n2 (t := t))
        have L0 := loc3 hb.out
        go_enter Try.func18, Try.ntmps18
        go_wp2_with fail
        refine (HB.out _ (Kp.refl _ _)).mono ?_
        rintro e w1 ⟨rfl, k1, r1, HR⟩
        have hb1 := k1.get hb.out hbm
        have L1 := loc3 hb1
        clear L0
        replace r1 := hid r1
        replace hb1 := hid hb1
        go_wp2_with fail
        refine (HR.out _ (Kp.refl _ _)).mono ?_
        rintro e w2 ⟨rfl, k2, M', v', J2⟩
        clear L1
        replace J2 := hid J2
        go_wp2_with fail
        go_ret
        exact ⟨rfl, M', v', by rw [hd.out]; exact J2.out, ((K0.out.mono (fun _ h => h.elim)).trans (k1.mono (fun _ h => Or.inl h))).trans (k2.mono (fun _ h => Or.inr h))⟩
      ·
        have hd := hid (show doL n L k t id = L from by simp [doL, c1, c2, c3])
        have e1 : (k == 1) = false := by simpa using c1
        have e2 : (k == 2) = false := by simpa using c2
        have e3 : (k == 3) = false := by simpa using c3
        have L0 := loc3 hb.out
        clear c1 c2 c3
        go_enter Try.func18, Try.ntmps18
        go_wp2_with fail
        go_ret
        exact ⟨rfl, M, v, by rw [hd.out]; exact J0.out, K0.out.mono (fun _ h => h.elim)⟩
end
end Go.Proofs.Ytpfhjfijpmcnkaa
