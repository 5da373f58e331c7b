/- Walks: few, may. -/
import Derived.Test.YtplbkjgkocnehaaU22
import Derived.Test.YtplbkjgkocnehaaU23
namespace Go.Proofs.Ytplbkjgkocnehaa
set_option linter.unusedSimpArgs false
set_option linter.unusedVariables false
open Go.RowKit Go.Shelf
attribute [local go_sem ↓] Go.wp_at_zero Go.wp_at_succ
def FewPost (w : World) (len most : Nat) (L : List Ac) (e : Ending) (w' : World) : Prop := ∃ b, e = .returned (.bool b) ∧ (b = true → len ≤ most ∧ ∀ z ∈ L, z.x.few) ∧ Kp NoB w w'
section
variable {w w' : World}
theorem may_any (s : Int) (w : World) : Calls Try.prog 10 #[.int .i64 s] w fun e w' => e = .returned (.bool (decide (1 ≤ s) && decide (s ≤ 8))) ∧ w = w' := by
  by_cases h1 : 1 ≤ s
  · go_enter Try.func10, Try.ntmps10
    go_wp2
    go_ret
    exact ⟨by simp [h1], rfl⟩
  · have h2 : decide (1 ≤ s) = false := by simpa using h1
    rw [h2]
    go_enter Try.func10, Try.ntmps10
    go_wp2
    go_ret
    exact ⟨rfl, rfl⟩
set_option maxRecDepth 100000 in
set_option maxHeartbeats 8000000 in
theorem few_any {B : Nat} {x : Option Addr} {len cap : Nat} {L : List Ac} (h : ActsAt w B x len L) (hB : B ≤ w.heap.size) {most : Nat} (hm : most ≤ 1000) :
    Calls Try.prog 9 #[.slice x len cap, .int .i64 most] w (FewPost w len most L) := by
  have HA := hid h
  have hmx := h.mx
  clear h
  go_enter Try.func9, Try.ntmps9
  go_wp2_with fail
  go_loopw [5, 6] (fun n i W => ∃ j s : Nat, j ≤ len ∧ i = .int .i64 j ∧ n = .int .i64 s ∧ s ≤ 3000 ∧ Kp NoB w W ∧ Hid (∀ k z, k < j → L[k]? = some z → z.x.few)) (fun _ i _ => len - (intOf i).toNat)
  case atStart => exact ⟨0, 0, Nat.zero_le _, rfl, rfl, Nat.zero_le _, Kp.refl _ _, hid (fun k z hk => by omega)⟩
  case round =>
    obtain ⟨j, s, hj, rfl, rfl, hs, kp, hf⟩ := hrel
    have c1 : (0 : Int) ≤ (j : Int) := Int.natCast_nonneg _
    by_cases hlt : j < len
    · have hjl : j < L.length := by rw [HA.out.ln]; exact hlt
      have c2 : (j : Int) < (len : Int) := by omega
      by_cases hmo : j ≤ most
      · have c3 : (j : Int) ≤ (most : Int) := by omega
        obtain ⟨z, hz⟩ : ∃ z, L[j]? = some z := ⟨_, List.getElem?_eq_getElem hjl⟩
        obtain ⟨y, rfl, hy, d0, d1, d2, d3, d4⟩ := (HA.out.kp kp hB (fun _ h => h.elim)).at_ j z hz
        obtain ⟨z1, z2, z3⟩ := HA.out.sz z (List.mem_of_getElem? hz)
        obtain ⟨_, _, ea, _⟩ := (HA.out.sl z (List.mem_of_getElem? hz)).a.form
        obtain ⟨_, _, eb, _⟩ := (HA.out.sl z (List.mem_of_getElem? hz)).b.form
        obtain ⟨_, _, ec, _⟩ := (HA.out.sl z (List.mem_of_getElem? hz)).c.form
        rw [ea] at d2
        rw [eb] at d3
        rw [ec] at d4
        replace hz := hid hz
        clear d0 d1 ea eb ec
        by_cases hgt : 3000 < s + z.x.a.length + z.x.b.length + z.x.c.length
        · have c4 : (3000 : Int) < (s : Int) + (z.x.a.length : Int) + (z.x.b.length : Int) + (z.x.c.length : Int) := by omega
          have c5 : IntKind.i64.wrap ((s : Int) + (z.x.a.length : Int)) = (s : Int) + (z.x.a.length : Int) := wi_in (by omega)
          have c6 : IntKind.i64.wrap ((s : Int) + (z.x.a.length : Int) + (z.x.b.length : Int)) = (s : Int) + (z.x.a.length : Int) + (z.x.b.length : Int) := wi_in (by omega)
          have c7 : IntKind.i64.wrap ((s : Int) + (z.x.a.length : Int) + (z.x.b.length : Int) + (z.x.c.length : Int)) = (s : Int) + (z.x.a.length : Int) + (z.x.b.length : Int) + (z.x.c.length : Int) := wi_in (by omega)
          go_wp2_with fail
          refine wp_region_G (fun _ => True) [(0, .at_), (1, .at_), (2, .at_), (3, .at_), (4, .at_), (5, .at_), (6, .at_), (7, .at_), (8, .at_), (9, .at_), (10, .at_), (11, .at_), (12, .at_), (13, .at_), (14, .at_), (15, .at_), (16, .at_), (17, .at_), (18, .at_), (19, .at_), (20, .at_), (21, .at_), (22, .at_), (23, .at_), (24, .at_), (25, .at_)] ?L1 (by kernel_rfl) (by kernel_rfl) ?hL1 (trivial) ?hG1
          case hL1 => simp only [pickOps, List.map_cons, List.map_nil, List.getD_cons_zero, List.getD_cons_succ]; rfl
          repeat (first | (refine wpG_at (v := ?_) (by rfl) ?_ ?_; rotate_left; (focus (first | (go_simp; with_reducible rfl) | (go_simp; done))); simp only [Act.put, List.setIfInBounds_toArray, List.set_cons_zero, List.set_cons_succ]) | (refine wpG_at_skip (by rfl) ?_; simp only [Act.put, List.setIfInBounds_toArray, List.set_cons_zero, List.set_cons_succ]) | (refine wpG_held_skip (by rfl) ?_; simp only [Act.put, List.setIfInBounds_toArray, List.set_cons_zero, List.set_cons_succ]) | (refine wpG_held (v := ?_) (by rfl) ?_ ?_; rotate_left; (focus (intro w' hSw; (try dsimp only at hSw); go_split_ands; first | (go_simp; with_reducible rfl) | (go_simp; done))); simp only [Act.put, List.setIfInBounds_toArray, List.set_cons_zero, List.set_cons_succ]))
          refine wpG_nil (NoPanic.normal ?_)
          go_wp2_with fail
          go_ret
          exact ⟨_, rfl, fun h => (by cases h), kp.drew⟩
        · have c4 : ¬ (3000 : Int) < (s : Int) + (z.x.a.length : Int) + (z.x.b.length : Int) + (z.x.c.length : Int) := by omega
          have c5 : IntKind.i64.wrap ((s : Int) + (z.x.a.length : Int)) = (s : Int) + (z.x.a.length : Int) := wi_in (by omega)
          have c6 : IntKind.i64.wrap ((s : Int) + (z.x.a.length : Int) + (z.x.b.length : Int)) = (s : Int) + (z.x.a.length : Int) + (z.x.b.length : Int) := wi_in (by omega)
          have c7 : IntKind.i64.wrap ((s : Int) + (z.x.a.length : Int) + (z.x.b.length : Int) + (z.x.c.length : Int)) = (s : Int) + (z.x.a.length : Int) + (z.x.b.length : Int) + (z.x.c.length : Int) := wi_in (by omega)
          go_wp2_with fail
          refine wp_region_G (fun _ => True) [(0, .at_), (1, .at_), (2, .at_), (3, .at_), (4, .at_), (5, .at_), (6, .at_), (7, .at_), (8, .at_), (9, .at_), (10, .at_), (11, .at_), (12, .at_), (13, .at_), (14, .at_), (15, .at_), (16, .at_), (17, .at_), (18, .at_), (19, .at_), (20, .at_), (21, .at_), (22, .at_), (23, .at_), (24, .at_), (25, .at_)] ?L2 (by kernel_rfl) (by kernel_rfl) ?hL2 (trivial) ?hG2
          case hL2 => simp only [pickOps, List.map_cons, List.map_nil, List.getD_cons_zero, List.getD_cons_succ]; rfl
          repeat (first | (refine wpG_at (v := ?_) (by rfl) ?_ ?_; rotate_left; (focus (first | (go_simp; with_reducible rfl) | (go_simp; done))); simp only [Act.put, List.setIfInBounds_toArray, List.set_cons_zero, List.set_cons_succ]) | (refine wpG_at_skip (by rfl) ?_; simp only [Act.put, List.setIfInBounds_toArray, List.set_cons_zero, List.set_cons_succ]) | (refine wpG_held_skip (by rfl) ?_; simp only [Act.put, List.setIfInBounds_toArray, List.set_cons_zero, List.set_cons_succ]) | (refine wpG_held (v := ?_) (by rfl) ?_ ?_; rotate_left; (focus (intro w' hSw; (try dsimp only at hSw); go_split_ands; first | (go_simp; with_reducible rfl) | (go_simp; done))); simp only [Act.put, List.setIfInBounds_toArray, List.set_cons_zero, List.set_cons_succ]))
          refine wpG_nil (NoPanic.normal ?_)
          go_wp2_with fail
          go_roundw
          case rel => exact ⟨j + 1, s + z.x.a.length + z.x.b.length + z.x.c.length, by omega, by go_num, by go_num, by omega, kp.drew, hid (fun k y hk hy => by
            rcases Nat.lt_succ_iff_lt_or_eq.1 hk with h | h
            · exact hf.out k y h hy
            · subst h
              rw [hz.out] at hy; injection hy with hy; subst hy
              exact ⟨by omega, by omega, by omega⟩)⟩
          case measure => simp [intOf]; omega
      · have c3 : ¬ (j : Int) ≤ (most : Int) := by omega
        have c4 : ¬ (len : Int) ≤ (most : Int) := by omega
        go_wp2_with fail
        go_ret
        refine ⟨_, rfl, fun h => ?_, by first | exact kp | exact kp.drew⟩
        simp at h; try omega
    · have c2 : ¬ (j : Int) < (len : Int) := by omega
      have e : j = len := by omega
      subst e
      go_wp2_with fail
      go_ret
      refine ⟨_, rfl, fun h => ⟨?_, fun z hz => ?_⟩, by first | exact kp | exact kp.drew⟩
      · simp at h; omega
      · obtain ⟨i, hi⟩ := List.mem_iff_getElem?.1 hz
        have hil := (List.getElem?_eq_some_iff.1 hi).1
        rw [HA.out.ln] at hil
        exact hf.out i z (by omega) hi
end
end Go.Proofs.Ytplbkjgkocnehaa
