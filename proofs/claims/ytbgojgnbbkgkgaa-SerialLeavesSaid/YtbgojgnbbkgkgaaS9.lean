/- Walks: what is answered of no table, and of a zero one. -/
import Derived.Test.YtbgojgnbbkgkgaaS4
import Derived.RangeFuncNested
import Derived.RangeFuncBound
import Derived.RangeFuncCalls
import Derived.RangeFuncLeaves
import Derived.RangeFuncWrites
namespace Go.Proofs.Ytbgojgnbbkgkgaa
set_option linter.unusedSimpArgs false
set_option linter.unusedVariables false
open Go.RowKit
attribute [local go_sem ↓] Go.wp_at_zero Go.wp_at_succ
/-- no table: nil, or a zero one -/
def NoT (w : World) (v : Value) : Prop := v = .pointer none ∨ ∃ g m, v = .pointer (some ⟨g, 0, none⟩) ∧ w.heap[g]? = some (.cells #[m, .int .i64 0] 66 (0, 0))
section
variable {w w' : World} {v u : Value}
theorem NoT.kn (h : NoT w v) (k : Kp NoB w w') : NoT w' v := by
  rcases h with h | ⟨g, m, h1, h2⟩
  · exact .inl h
  · exact .inr ⟨g, m, h1, k.get h2 (fun h => h)⟩
theorem NoT.ptr (h : NoT w v) : ∃ a, v = .pointer a := by
  rcases h with h | ⟨g, m, h1, h2⟩
  · exact ⟨_, h⟩
  · exact ⟨_, h1⟩
theorem none_no (h : NoT w v) : Calls Try.prog 26 #[v] w fun e w' => e = .returned (.bool true) ∧ w = w' := by
  rcases h with rfl | ⟨g, m, rfl, h⟩
  · go_enter Try.func26, Try.ntmps26
    go_wp2
    go_ret
    exact ⟨rfl, rfl⟩
  · have Lp := loc2 h
    clear h
    go_enter Try.func26, Try.ntmps26
    go_wp2
    go_ret
    exact ⟨rfl, rfl⟩
theorem next_no (h : NoT w v) (d : Int) : Calls Try.prog 14 #[v, .int .u64 d] w fun e w' => e = .returned (.tuple #[.int .i64 0, .int .i64 1]) ∧ Kp NoB w w' := by
  have HN := hid (fun w1 (k : Kp NoB w w1) => none_no (h.kn k))
  obtain ⟨a, rfl⟩ := h.ptr
  clear h
  go_enter Try.func14, Try.ntmps14
  go_wp2_with fail
  refine wp_scope_jumps 0 (fun _ _ => False) (fun _ _ => 0) rfl ?_ ?_
  · go_wp2_with fail
    refine (HN.out _ (Kp.refl _ w)).mono ?_
    rintro e w1 ⟨rfl, rfl⟩
    go_wp2_with fail
    simp only [Exit.jump]
    go_ret2
    exact ⟨rfl, Kp.refl _ _⟩
  · intro a' w' h
    exact h.elim
theorem get_no (h : NoT w v) (s : Int) : Calls Try.prog 11 #[v, .int .i64 s] w fun e w' => e = .returned (.tuple #[hV 0 0, .bool false]) ∧ Kp NoB w w' := by
  have HN := hid (fun w1 (k : Kp NoB w w1) => none_no (h.kn k))
  obtain ⟨a, rfl⟩ := h.ptr
  clear h
  go_enter Try.func11, Try.ntmps11
  go_wp2_with fail
  refine (HN.out _ ((Kp.refl _ w).alloc _)).mono ?_
  rintro e w1 ⟨rfl, rfl⟩
  go_wp2_with fail
  refine bodyPost_ret (v := .tuple #[.agg #[.int .i64 0, .int .u64 0], .bool false]) (by simp [results, Try.results11, go_sem]) rfl ⟨rfl, (Kp.refl _ w).alloc _⟩
theorem put_no (h : NoT w v) (s i g : Int) : Calls Try.prog 10 #[v, .int .i64 s, hV i g] w fun e w' => e = .returned (.int .i64 1) ∧ Kp NoB w w' := by
  have HN := hid (fun w1 (k : Kp NoB w w1) => none_no (h.kn k))
  have HG := hid (fun w1 (k : Kp NoB w w1) => get_no (h.kn k) s)
  obtain ⟨a, rfl⟩ := h.ptr
  clear h
  unfold hV at *
  go_enter Try.func10, Try.ntmps10
  go_wp2_with fail
  refine (HG.out _ ((Kp.refl _ w).alloc _)).mono ?_
  rintro e w1 ⟨rfl, k1⟩
  have K1 := hid (((Kp.refl NoB w).alloc (.cells #[.int .i64 i, .int .u64 g] 25)).trans k1)
  go_wp2_with fail
  refine (HN.out _ (K1.out.alloc _)).mono ?_
  rintro e w2 ⟨rfl, rfl⟩
  go_wp2_with fail
  go_ret
  exact ⟨rfl, K1.out.alloc _⟩
theorem drop_no (h : NoT w v) (s : Int) : Calls Try.prog 20 #[v, .int .i64 s] w fun e w' => e = .returned (.int .i64 1) ∧ Kp NoB w w' := by
  have HN := hid (fun w1 (k : Kp NoB w w1) => none_no (h.kn k))
  have HG := hid (fun w1 (k : Kp NoB w w1) => get_no (h.kn k) s)
  obtain ⟨a, rfl⟩ := h.ptr
  clear h
  unfold hV at *
  go_enter Try.func20, Try.ntmps20
  go_wp2_with fail
  refine (HG.out _ (Kp.refl _ w)).mono ?_
  rintro e w1 ⟨rfl, k1⟩
  have K1 := hid k1
  go_wp2_with fail
  refine (HN.out _ (K1.out.alloc _)).mono ?_
  rintro e w2 ⟨rfl, rfl⟩
  go_wp2_with fail
  go_ret
  exact ⟨rfl, K1.out.alloc _⟩
theorem len_no (h : NoT w v) : Calls Try.prog 16 #[v] w fun e w' => e = .returned (.int .i64 0) ∧ w = w' := by
  have HN := hid (none_no h)
  obtain ⟨a, rfl⟩ := h.ptr
  clear h
  go_enter Try.func16, Try.ntmps16
  go_wp2_with fail
  refine HN.out.mono ?_
  rintro e w1 ⟨rfl, rfl⟩
  go_wp2_with fail
  go_ret
  exact ⟨rfl, rfl⟩
theorem copy_no (h : NoT w v) : Calls Try.prog 21 #[v] w fun e w' => e = .returned (.pointer none) ∧ w = w' := by
  have HN := hid (none_no h)
  obtain ⟨a, rfl⟩ := h.ptr
  clear h
  go_enter Try.func21, Try.ntmps21
  go_wp2_with fail
  refine HN.out.mono ?_
  rintro e w1 ⟨rfl, rfl⟩
  go_wp2_with fail
  go_ret
  exact ⟨rfl, rfl⟩
theorem same_no (h : NoT w v) (h' : NoT w u) : Calls Try.prog 23 #[v, u] w fun e w' => e = .returned (.bool true) ∧ w = w' := by
  have HN := hid (none_no h)
  have HN' := hid (none_no h')
  obtain ⟨a, rfl⟩ := h.ptr
  obtain ⟨b, rfl⟩ := h'.ptr
  clear h h'
  go_enter Try.func23, Try.ntmps23
  go_wp2_with fail
  refine HN.out.mono ?_
  rintro e w1 ⟨rfl, rfl⟩
  go_wp2_with fail
  refine HN.out.mono ?_
  rintro e w1 ⟨rfl, rfl⟩
  go_wp2_with fail
  refine HN'.out.mono ?_
  rintro e w1 ⟨rfl, rfl⟩
  go_wp2_with fail
  go_ret
  exact ⟨rfl, rfl⟩
theorem all_any (v : Value) (a : Option Addr) (hv : v = .pointer a) (w : World) : Calls Try.prog 19 #[v] w fun e w' => e = .returned (.func (.func 31) #[] #[.pointer (some ⟨w.heap.size, 0, none⟩)]) ∧ w' = w.alloc (.cells #[v] 26) := by
  have hmf : ∀ (fn : Fn) (first cap : Array Value) (w : World), (Instr.makeFunc fn first cap).run Try.prog w = .ok (.func fn first cap) w := fun _ _ _ _ => rfl
  subst hv
  go_enter Try.func19, Try.ntmps19
  go_wp2_with fail
  go_ret
  exact ⟨rfl, rfl⟩
theorem iter_no {c : Nat} (y : Value) (h : NoT w v) (hc : w.heap[c]? = some (.cells #[v] 26 (0, 0))) : Calls Try.prog 31 #[y, .pointer (some ⟨c, 0, none⟩)] w fun e w' => e = .returned (.tuple #[]) ∧ w = w' := by
  have HN := hid (none_no h)
  obtain ⟨a, rfl⟩ := h.ptr
  have Lc := loc1 hc
  clear h
  go_enter Try.func31, Try.ntmps31
  go_wp2_with fail
  refine HN.out.mono ?_
  rintro e w1 ⟨rfl, rfl⟩
  go_wp2_with fail
  exact bodyPost_ret (results_none rfl _ _ _) rfl ⟨rfl, rfl⟩
end
end Go.Proofs.Ytbgojgnbbkgkgaa
