/- Walks through locks: who waits; new ones. -/
import Derived.Test.YtpfhjfijpmcnkaaK2
namespace Go.Proofs.Ytpfhjfijpmcnkaa
set_option linter.unusedSimpArgs false
set_option linter.unusedVariables false
open Go.RowKit
attribute [local go_sem ↓] Go.wp_at_zero Go.wp_at_succ
section
variable {w w' : World} {p m n : Nat} {M : List (Int × Value)} {L : List (Int × Int)} {v : Value} {l : List Int}
set_option maxRecDepth 100000 in
theorem waiting_any (h : LAt w p m n M L) (n1 : 1 ≤ n) {id : Int} (hw : (Lit.int .i64 id).wf = true) (n2 : (rowL L id).length ≤ 4096) :
    Calls Try.prog 12 #[.pointer (some ⟨p, 0, none⟩), .int .i64 id] w fun e w' => ∃ v', e = .returned v' ∧ Rs 3 w' v' (rowL L id).tail ∧ Kp NoB w w' := by
  have HH := hid (holder_any h n1 hw)
  obtain ⟨v, hl, hv⟩ := h.look hw
  replace hl := hl w (Kp.refl _ _)
  have Lp := loc2 h.hp
  cases hr : rowL L id with
  | nil =>
    rw [hr] at HH
    simp only [hdL, isL] at HH
    clear h
    go_enter Try.func12, Try.ntmps12
    go_wp2_with fail
    refine HH.out.mono ?_
    rintro e w1 ⟨rfl, rfl⟩
    go_wp2_with fail
    go_ret
    exact ⟨_, rfl, Rs.nil _ _, Kp.refl _ _⟩
  | cons t r =>
    rw [hr] at HH hv n2
    simp only [hdL, isL] at HH
    rcases hv with ⟨_, hv⟩ | ⟨b, f, c, A, rfl, hb, hA, hc⟩
    · cases hv
    have hR : ∀ g c', r ≠ [] → g = f + 1 → r.length ≤ c' → Rs 3 w (.slice (some ⟨b, g, none⟩) r.length c') r := fun g c' _ hg hc' =>
      .inr ⟨b, g, c', A, rfl, hb, fun j x hj => by subst hg; have := hA (j + 1) x (by simpa using hj); rw [show f + (j + 1) = f + 1 + j from by omega] at this; exact this, hc'⟩
    have hR0 : ∀ g c', r = [] → Rs 3 w (.slice (some ⟨b, g, none⟩) 0 c') r := fun g c' hg => by
      subst hg
      exact .inr ⟨b, g, c', A, rfl, hb, by simp, Nat.zero_le _⟩
    have HC := hid (fun v (hv : Rs 3 w v r) => clone_any hv (by simp at n2; omega))
    simp only [List.length_cons, List.tail_cons] at hl hc ⊢
    have e2 : (1 : Int) ≤ (r.length : Int) + 1 := by omega
    have e3 : (r.length : Int) + 1 ≤ (c : Int) := by omega
    clear h
    replace hR := hid hR
    replace hR0 := hid hR0
    replace hb := hid hb
    replace hA := hid hA
    by_cases hc1 : c = 1
    · subst hc1
      obtain rfl : r = [] := List.eq_nil_of_length_eq_zero (by omega)
      go_enter Try.func12, Try.ntmps12
      go_wp2_with fail
      refine HH.out.mono ?_
      rintro e w1 ⟨rfl, rfl⟩
      go_wp2_with fail
      refine (HC.out _ (hR0.out _ _ (by simp))).mono ?_
      rintro e w2 ⟨v', rfl, q1, q2⟩
      go_wp2_with fail
      go_ret
      exact ⟨_, rfl, q1, q2⟩
    · go_enter Try.func12, Try.ntmps12
      go_wp2_with fail
      refine HH.out.mono ?_
      rintro e w1 ⟨rfl, rfl⟩
      go_wp2_with fail
      refine (HC.out _ (by by_cases hr0 : r = [] <;> first | (subst hr0; exact hR0.out _ _ (by simp)) | exact hR.out _ _ hr0 rfl (by omega))).mono ?_
      rintro e w2 ⟨v', rfl, q1, q2⟩
      go_wp2_with fail
      go_ret
      exact ⟨_, rfl, q1, q2⟩
theorem new_any (w : World) {n : Nat} (n1 : 1 ≤ n) (n2 : n ≤ 8) : Calls Try.prog 26 #[.int .i64 n] w fun e w' => ∃ p m, e = .returned (.tuple #[.pointer (some ⟨p, 0, none⟩), .int .i64 0]) ∧ LAt w' p m n [] [] ∧ w.heap.size ≤ p ∧ w.heap.size ≤ m ∧ Kp NoB w w' := by
  have b1 : (1 : Int) ≤ n := by omega
  have b2 : (n : Int) ≤ 8 := by omega
  have hmk := fun w => run_makeMap (P := Try.prog) 51 w
  go_enter Try.func26, Try.ntmps26
  go_wp2_with fail
  go_ret2
  refine ⟨w.heap.size + 1, w.heap.size, rfl, ⟨?_, ?_, ?_, ?_, ?_⟩, ?_, ?_, ((Kp.refl _ w).alloc _).alloc _⟩
  · exact blk_new' _ _ (by simp)
  · exact (MapAt.new .i64 w).alloc _
  · exact ⟨by simp, by simp⟩
  · intro id; exact Rs.nil _ _
  · intro id h; simp [mget] at h
  · simp
  · simp
theorem new_no (w : World) {n : Int} (hn : ¬ (1 ≤ n ∧ n ≤ 8)) : Calls Try.prog 26 #[.int .i64 n] w fun e w' => e = .returned (.tuple #[.pointer none, .int .i64 2]) ∧ w = w' := by
  rcases (by omega : n < 1 ∨ (¬ n < 1 ∧ 8 < n)) with h | ⟨h, h'⟩
  all_goals
    go_enter Try.func26, Try.ntmps26
    go_wp2_with fail
    go_ret2
    exact ⟨rfl, rfl⟩
end
end Go.Proofs.Ytpfhjfijpmcnkaa
