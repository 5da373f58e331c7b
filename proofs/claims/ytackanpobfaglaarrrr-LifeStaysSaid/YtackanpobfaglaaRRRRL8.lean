/- Walks through timers: Len, Next, New, EqualSerials. -/
import Derived.Test.YtackanpobfaglaaRRRRL7
namespace Go.Proofs.YtackanpobfaglaaRRRR
set_option linter.unusedSimpArgs false
set_option linter.unusedVariables false
open Go.RowKit
attribute [local go_sem ↓] Go.wp_at_zero Go.wp_at_succ
section
variable {w w' : World} {p : Nat} {v : Value} {l : List (Int × Int)}
theorem len_any (h : TAt w p v l) : Calls Try.prog 20 #[.pointer (some ⟨p, 0, none⟩)] w fun e w' => e = .returned (.int .i64 l.length) ∧ w' = w := by
  obtain ⟨ov, cv, hvv, _⟩ := h.hv.form
  subst hvv
  have Lp := loc1 h.hp
  clear h
  go_enter Try.func20, Try.ntmps20
  go_wp2_with fail
  go_ret
  exact ⟨rfl, rfl⟩
theorem next_some {x y : Int} (h : TAt w p v ((x, y) :: l)) : Calls Try.prog 13 #[.pointer (some ⟨p, 0, none⟩)] w fun e w' => e = .returned (.tuple #[.int .u64 x, .bool true]) ∧ w' = w := by
  have HL := hid (len_any h)
  obtain ⟨b, c, hv, hc, hcell⟩ := row_cells h.hv (k := 0) (x := x) (y := y) rfl
  subst hv
  have Lp := loc1 h.hp
  have Le := hcell w (Kp.refl _ _)
  have hn : (((((x, y) :: l).length : Nat) : Int) == 0) = false := by rw [beq_eq_false_iff_ne, List.length_cons]; omega
  have hn2 : (0 : Int) < ((((x, y) :: l).length : Nat) : Int) := by simp <;> omega
  clear h hcell
  generalize ((x, y) :: l).length = n at *
  go_enter Try.func13, Try.ntmps13
  go_wp2_with fail
  refine HL.out.mono ?_
  rintro e w1 ⟨rfl, rfl⟩
  go_wp2_with fail
  go_ret2
  exact ⟨rfl, rfl⟩
theorem next_none (h : TAt w p v []) : Calls Try.prog 13 #[.pointer (some ⟨p, 0, none⟩)] w fun e w' => e = .returned (.tuple #[.int .u64 0, .bool false]) ∧ w' = w := by
  have HL := hid (len_any h)
  clear h
  go_enter Try.func13, Try.ntmps13
  go_wp2_with fail
  refine HL.out.mono ?_
  rintro e w1 ⟨rfl, rfl⟩
  go_wp2_with fail
  go_ret2
  exact ⟨rfl, rfl⟩
theorem new_any (w : World) : Calls Try.prog 10 #[] w fun e w' => e = .returned (.pointer (some ⟨w.heap.size, 0, none⟩)) ∧ TAt w' w.heap.size (.slice none 0 0) [] ∧ Kp NoB w w' := by
  have H := hid (show TAt (w.alloc (.cells #[.slice none 0 0] 55)) w.heap.size (.slice none 0 0) [] from ⟨blk_new w _, RowAt.nil _ 58 eT 2⟩)
  go_enter Try.func10, Try.ntmps10
  go_wp2_with fail
  go_ret
  exact ⟨rfl, H.out, (Kp.refl _ w).alloc _⟩
def eS (x : Int) : List Value := [.int .i64 x]
theorem eS_len (x : Int) : (eS x).length = 1 := rfl
theorem row_ser {v : Value} {L : List Int} (h : RowAt w 22 eS 1 v L) {k : Nat} {x : Int} (hk : L[k]? = some x) : ∃ b c, v = .slice (some ⟨b, 0, none⟩) L.length c ∧ L.length ≤ c ∧ ∀ W, Kp NoB w W → W.cell? ⟨b, k, none⟩ = some (.int .i64 x) ∧ b < W.heap.size := by
  obtain ⟨b, c, A, hv, hb, hA, hc, _⟩ := h.pos eS_len (by have := (List.getElem?_eq_some_iff.1 hk).1; omega)
  refine ⟨b, c, hv, hc, fun W kW => ?_⟩
  have hb' := kW.get hb (fun h => h)
  exact ⟨by rw [cell_of hb']; exact (by have := hA k 0 _ hk (by omega); rw [Nat.mul_one] at this; exact this), blk_lt hb'⟩
set_option maxRecDepth 100000 in
set_option maxHeartbeats 2000000 in
theorem eq_yes {v1 v2 : Value} {L : List Int} (h1 : RowAt w 22 eS 1 v1 L) (h2 : RowAt w 22 eS 1 v2 L) (n2 : L.length ≤ 4000) :
    Calls Try.prog 14 #[v1, v2] w fun e w' => e = .returned (.bool true) ∧ Kp NoB w w' := by
  obtain ⟨o1, c1, hv1, _⟩ := h1.form
  obtain ⟨o2, c2, hv2, _⟩ := h2.form
  subst hv1; subst hv2
  go_enter Try.func14, Try.ntmps14
  go_wp2_with fail
  go_loopw [4, 5] (fun _ i W => ∃ j : Nat, j ≤ L.length ∧ i = .int .i64 j ∧ Kp NoB w W) (fun _ i _ => L.length - (intOf i).toNat)
  case atStart => exact ⟨0, Nat.zero_le _, rfl, Kp.refl _ w⟩
  case round =>
    obtain ⟨j, hj, rfl, hK⟩ := hrel
    by_cases hlt : j < L.length
    · obtain ⟨x, hk⟩ : ∃ s, L[j]? = some s := ⟨_, List.getElem?_eq_getElem hlt⟩
      obtain ⟨b1, d1, e1, l1, q1⟩ := row_ser h1 hk
      obtain ⟨b2, d2, e2, l2, q2⟩ := row_ser h2 hk
      injection e1 with e11 _ e13
      injection e2 with e21 _ e23
      subst e11; subst e13; subst e21; subst e23
      have Le1 := q1 _ hK
      have Le2 := q2 _ hK
      have b3 : (0 : Int) ≤ (j : Int) := Int.natCast_nonneg _
      have b4 : (j : Int) < (L.length : Int) := by omega
      replace h1 := hid h1
      replace h2 := hid h2
      clear hk q1 q2
      go_wp2_with fail
      refine wp_region_G (fun _ => True) [(0, .at_), (1, .at_), (2, .at_), (3, .at_), (4, .at_), (5, .at_), (6, .at_), (7, .at_), (8, .at_)] ?L1 (by kernel_rfl) (by kernel_rfl) ?hL1 (trivial) ?hG1
      case hL1 => simp only [pickOps, List.map_cons, List.map_nil, List.getD_cons_zero, List.getD_cons_succ]; rfl
      repeat (first | (refine wpG_at (v := ?_) (by rfl) ?_ ?_; rotate_left; (focus (first | (go_simp; with_reducible rfl) | (go_simp; done))); simp only [Act.put, List.setIfInBounds_toArray, List.set_cons_zero, List.set_cons_succ]) | (refine wpG_at_skip (by rfl) ?_; simp only [Act.put, List.setIfInBounds_toArray, List.set_cons_zero, List.set_cons_succ]) | (refine wpG_held_skip (by rfl) ?_; simp only [Act.put, List.setIfInBounds_toArray, List.set_cons_zero, List.set_cons_succ]) | (refine wpG_held (v := ?_) (by rfl) ?_ ?_; rotate_left; (focus (intro w' hSw; (try dsimp only at hSw); go_split_ands; first | (go_simp; with_reducible rfl) | (go_simp; done))); simp only [Act.put, List.setIfInBounds_toArray, List.set_cons_zero, List.set_cons_succ]))
      refine wpG_nil (NoPanic.normal ?_)
      go_wp2_with fail
      go_roundw
      case rel => exact ⟨j + 1, by omega, by go_num, hK.drew⟩
      case measure => simp [intOf]; omega
    · obtain rfl : j = L.length := by omega
      replace h1 := hid h1
      replace h2 := hid h2
      go_wp2_with fail
      go_ret
      exact ⟨rfl, hK⟩
end
end Go.Proofs.YtackanpobfaglaaRRRR
