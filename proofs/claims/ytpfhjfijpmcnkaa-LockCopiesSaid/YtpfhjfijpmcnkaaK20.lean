/- Walks: what is answered of no locks, and of zero ones. -/
import Derived.Test.YtpfhjfijpmcnkaaK19
namespace Go.Proofs.Ytpfhjfijpmcnkaa
set_option linter.unusedSimpArgs false
set_option linter.unusedVariables false
open Go.RowKit
attribute [local go_sem ↓] Go.wp_at_zero Go.wp_at_succ
/-- no locks: nil, or zero ones -/
def NoL (w : World) (v : Value) : Prop := v = .pointer none ∨ ∃ g m, v = .pointer (some ⟨g, 0, none⟩) ∧ w.heap[g]? = some (.cells #[.int .i64 0, m] 53 (0, 0))
section
variable {w w' : World} {p m n : Nat} {M : List (Int × Value)} {L : List (Int × Int)} {v u : Value}
theorem NoL.kn (h : NoL w v) (k : Kp NoB w w') : NoL w' v := by
  rcases h with h | ⟨g, m, h1, h2⟩
  · exact .inl h
  · exact .inr ⟨g, m, h1, k.get h2 (fun h => h)⟩
theorem NoL.ptr (h : NoL w v) : ∃ a, v = .pointer a := by
  rcases h with h | ⟨g, m, h1, h2⟩
  · exact ⟨_, h⟩
  · exact ⟨_, h1⟩
theorem there_no (h : NoL w v) : Calls Try.prog 28 #[v] w fun e w' => e = .returned (.bool false) ∧ w = w' := by
  rcases h with rfl | ⟨g, m, rfl, h⟩
  · go_enter Try.func28, Try.ntmps28
    go_wp2
    go_ret
    exact ⟨rfl, rfl⟩
  · have Lp := loc2 h
    clear h
    go_enter Try.func28, Try.ntmps28
    go_wp2
    go_ret
    exact ⟨rfl, rfl⟩
theorem drop_no (h : NoL w v) (t : Int) : Calls Try.prog 20 #[v, .int .i64 t] w fun e w' => e = .returned (.tuple #[]) ∧ w = w' := by
  have HN := hid (there_no h)
  obtain ⟨a, rfl⟩ := h.ptr
  clear h
  go_enter Try.func20, Try.ntmps20
  go_wp2_with fail
  refine HN.out.mono ?_
  rintro e w1 ⟨rfl, rfl⟩
  go_wp2_with fail
  exact bodyPost_ret (results_none rfl _ _ _) rfl ⟨rfl, rfl⟩
theorem may_bad (h : NoL w v) (t id : Int) : Calls Try.prog 30 #[v, .int .i64 t, .int .i64 id] w fun e w' => e = .returned (.bool false) ∧ w = w' := by
  have HN := hid (there_no h)
  obtain ⟨a, rfl⟩ := h.ptr
  clear h
  go_enter Try.func30, Try.ntmps30
  go_wp2_with fail
  refine HN.out.mono ?_
  rintro e w1 ⟨rfl, rfl⟩
  go_wp2_with fail
  go_ret
  exact ⟨rfl, rfl⟩
theorem holder_no (h : NoL w v) (id : Int) : Calls Try.prog 11 #[v, .int .i64 id] w fun e w' => e = .returned (.tuple #[.int .i64 0, .bool false]) ∧ w = w' := by
  have HN := hid (there_no h)
  obtain ⟨a, rfl⟩ := h.ptr
  clear h
  go_enter Try.func11, Try.ntmps11
  go_wp2_with fail
  refine HN.out.mono ?_
  rintro e w1 ⟨rfl, rfl⟩
  go_wp2_with fail
  go_ret2
  exact ⟨rfl, rfl⟩
theorem try_no (h : NoL w v) (t id : Int) : Calls Try.prog 13 #[v, .int .i64 t, .int .i64 id] w fun e w' => e = .returned (.bool false) ∧ w = w' := by
  have HN := hid (may_bad h t id)
  obtain ⟨a, rfl⟩ := h.ptr
  clear h
  go_enter Try.func13, Try.ntmps13
  go_wp2_with fail
  refine HN.out.mono ?_
  rintro e w1 ⟨rfl, rfl⟩
  go_wp2_with fail
  go_ret
  exact ⟨rfl, rfl⟩
theorem has_no (h : NoL w v) (t id : Int) : Calls Try.prog 15 #[v, .int .i64 t, .int .i64 id] w fun e w' => e = .returned (.bool false) ∧ w = w' := by
  have HN := hid (holder_no h id)
  obtain ⟨a, rfl⟩ := h.ptr
  clear h
  go_enter Try.func15, Try.ntmps15
  go_wp2_with fail
  refine HN.out.mono ?_
  rintro e w1 ⟨rfl, rfl⟩
  go_wp2_with fail
  go_ret
  exact ⟨rfl, rfl⟩
theorem release_no (h : NoL w v) (t id : Int) : Calls Try.prog 17 #[v, .int .i64 t, .int .i64 id] w fun e w' => e = .returned (.bool false) ∧ w = w' := by
  have HN := hid (has_no h t id)
  obtain ⟨a, rfl⟩ := h.ptr
  clear h
  go_enter Try.func17, Try.ntmps17
  go_wp2_with fail
  refine HN.out.mono ?_
  rintro e w1 ⟨rfl, rfl⟩
  go_wp2_with fail
  go_ret
  exact ⟨rfl, rfl⟩
theorem waiting_no (h : NoL w v) (id : Int) : Calls Try.prog 12 #[v, .int .i64 id] w fun e w' => e = .returned (.slice none 0 0) ∧ w = w' := by
  have HN := hid (holder_no h id)
  obtain ⟨a, rfl⟩ := h.ptr
  clear h
  go_enter Try.func12, Try.ntmps12
  go_wp2_with fail
  refine HN.out.mono ?_
  rintro e w1 ⟨rfl, rfl⟩
  go_wp2_with fail
  go_ret
  exact ⟨rfl, rfl⟩
theorem copy_no (h : NoL w v) : Calls Try.prog 22 #[v] w fun e w' => e = .returned (.pointer none) ∧ w = w' := by
  have HN := hid (there_no h)
  obtain ⟨a, rfl⟩ := h.ptr
  clear h
  go_enter Try.func22, Try.ntmps22
  go_wp2_with fail
  refine HN.out.mono ?_
  rintro e w1 ⟨rfl, rfl⟩
  go_wp2_with fail
  go_ret
  exact ⟨rfl, rfl⟩
theorem held_no (h : NoL w v) (t : Int) : Calls Try.prog 21 #[v, .int .i64 t] w fun e w' => e = .returned (.slice none 0 0) ∧ w = w' := by
  have HN := hid (there_no h)
  obtain ⟨a, rfl⟩ := h.ptr
  clear h
  go_enter Try.func21, Try.ntmps21
  go_wp2_with fail
  refine wp_scope_jumps 0 (fun _ _ => False) (fun _ _ => 0) rfl ?_ ?_
  · go_wp2_with fail
    refine HN.out.mono ?_
    rintro e w1 ⟨rfl, rfl⟩
    go_wp2_with fail
    simp only [Exit.jump]
    go_ret
    exact ⟨rfl, rfl⟩
  · intro a' w' h
    exact h.elim
theorem same_bb (h : NoL w v) (h' : NoL w u) : Calls Try.prog 24 #[v, u] w fun e w' => e = .returned (.bool true) ∧ w = w' := by
  have HN := hid (there_no h)
  have HN' := hid (there_no h')
  obtain ⟨a, rfl⟩ := h.ptr
  obtain ⟨b, rfl⟩ := h'.ptr
  clear h h'
  go_enter Try.func24, Try.ntmps24
  go_wp2_with fail
  refine HN.out.mono ?_
  rintro e w1 ⟨rfl, rfl⟩
  go_wp2_with fail
  refine HN.out.mono ?_
  rintro e w1 ⟨rfl, rfl⟩
  go_wp2_with fail
  refine HN'.out.mono ?_
  rintro e w1 ⟨rfl, rfl⟩
  go_wp2_with fail
  go_ret
  exact ⟨rfl, rfl⟩
theorem same_br (h : NoL w v) (h' : LAt w p m n M L) (n1 : 1 ≤ n) : Calls Try.prog 24 #[v, .pointer (some ⟨p, 0, none⟩)] w fun e w' => e = .returned (.bool false) ∧ w = w' := by
  have HN := hid (there_no h)
  have HN' := hid (there_yes h' n1)
  obtain ⟨a, rfl⟩ := h.ptr
  clear h h'
  go_enter Try.func24, Try.ntmps24
  go_wp2_with fail
  refine HN.out.mono ?_
  rintro e w1 ⟨rfl, rfl⟩
  go_wp2_with fail
  refine HN.out.mono ?_
  rintro e w1 ⟨rfl, rfl⟩
  go_wp2_with fail
  refine HN'.out.mono ?_
  rintro e w1 ⟨rfl, rfl⟩
  go_wp2_with fail
  go_ret
  exact ⟨rfl, rfl⟩
theorem same_rb (h : NoL w v) (h' : LAt w p m n M L) (n1 : 1 ≤ n) : Calls Try.prog 24 #[.pointer (some ⟨p, 0, none⟩), v] w fun e w' => e = .returned (.bool false) ∧ w = w' := by
  have HN := hid (there_no h)
  have HN' := hid (there_yes h' n1)
  obtain ⟨a, rfl⟩ := h.ptr
  clear h h'
  go_enter Try.func24, Try.ntmps24
  go_wp2_with fail
  refine HN'.out.mono ?_
  rintro e w1 ⟨rfl, rfl⟩
  go_wp2_with fail
  refine HN.out.mono ?_
  rintro e w1 ⟨rfl, rfl⟩
  go_wp2_with fail
  refine HN'.out.mono ?_
  rintro e w1 ⟨rfl, rfl⟩
  go_wp2_with fail
  go_ret
  exact ⟨rfl, rfl⟩
end
end Go.Proofs.Ytpfhjfijpmcnkaa
