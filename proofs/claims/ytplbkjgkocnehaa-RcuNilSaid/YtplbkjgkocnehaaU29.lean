/- Walks: what is answered of none, and of a zero one; RcuNil. -/
import Derived.Test.YtplbkjgkocnehaaU12
namespace Go.Proofs.Ytplbkjgkocnehaa
set_option linter.unusedSimpArgs false
set_option linter.unusedVariables false
open Go.RowKit
attribute [local go_sem ↓] Go.wp_at_zero Go.wp_at_succ
/-- none: nil, or a zero one -/
def NoU (w : World) (v : Value) : Prop := v = .pointer none ∨ ∃ g, v = .pointer (some ⟨g, 0, none⟩) ∧ w.heap[g]? = some (.cells #[.slice none 0 0, .slice none 0 0] 68 (0, 0))
section
variable {w w' : World} {v u : Value}
theorem NoU.kn (h : NoU w v) (k : Kp NoB w w') : NoU w' v := by
  rcases h with h | ⟨g, h1, h2⟩
  · exact .inl h
  · exact .inr ⟨g, h1, k.get h2 (fun h => h)⟩
theorem NoU.ptr (h : NoU w v) : ∃ a, v = .pointer a := by
  rcases h with h | ⟨g, h1, h2⟩
  · exact ⟨_, h⟩
  · exact ⟨_, h1⟩
theorem tasks_no (h : NoU w v) : Calls Try.prog 37 #[v] w fun e w' => e = .returned (.int .i64 0) ∧ w = w' := by
  rcases h with rfl | ⟨g, rfl, h⟩
  · go_enter Try.func37, Try.ntmps37
    go_wp2
    go_ret
    exact ⟨rfl, rfl⟩
  · have Lp := loc2 h
    clear h
    go_enter Try.func37, Try.ntmps37
    go_wp2
    go_ret
    exact ⟨rfl, rfl⟩
theorem len_no (h : NoU w v) : Calls Try.prog 16 #[v] w fun e w' => e = .returned (.int .i64 0) ∧ w = w' := by
  rcases h with rfl | ⟨g, rfl, h⟩
  · go_enter Try.func16, Try.ntmps16
    go_wp2
    go_ret
    exact ⟨rfl, rfl⟩
  · have Lp := loc2 h
    clear h
    go_enter Try.func16, Try.ntmps16
    go_wp2
    go_ret
    exact ⟨rfl, rfl⟩
theorem is_no (h : NoU w v) (t : Int) : Calls Try.prog 36 #[v, .int .i64 t] w fun e w' => e = .returned (.int .i64 1) ∧ w = w' := by
  have HN := hid (tasks_no h)
  obtain ⟨a, rfl⟩ := h.ptr
  clear h
  go_enter Try.func36, Try.ntmps36
  go_wp2_with fail
  refine HN.out.mono ?_
  rintro e w1 ⟨rfl, rfl⟩
  go_wp2_with fail
  go_ret
  exact ⟨rfl, rfl⟩
theorem depth_no (h : NoU w v) (t : Int) : Calls Try.prog 15 #[v, .int .i64 t] w fun e w' => e = .returned (.int .i64 0) ∧ w = w' := by
  have HN := hid (is_no h t)
  obtain ⟨a, rfl⟩ := h.ptr
  clear h
  go_enter Try.func15, Try.ntmps15
  go_wp2_with fail
  refine HN.out.mono ?_
  rintro e w1 ⟨rfl, rfl⟩
  go_wp2_with fail
  go_ret
  exact ⟨rfl, rfl⟩
theorem enter_no (h : NoU w v) (t : Int) : Calls Try.prog 21 #[v, .int .i64 t] w fun e w' => e = .returned (.int .i64 1) ∧ w = w' := by
  have HN := hid (is_no h t)
  obtain ⟨a, rfl⟩ := h.ptr
  clear h
  go_enter Try.func21, Try.ntmps21
  go_wp2_with fail
  refine HN.out.mono ?_
  rintro e w1 ⟨rfl, rfl⟩
  go_wp2_with fail
  go_ret
  exact ⟨rfl, rfl⟩
theorem leave_no (h : NoU w v) (t : Int) : Calls Try.prog 22 #[v, .int .i64 t] w fun e w' => e = .returned (.int .i64 1) ∧ w = w' := by
  have HN := hid (is_no h t)
  obtain ⟨a, rfl⟩ := h.ptr
  clear h
  go_enter Try.func22, Try.ntmps22
  go_wp2_with fail
  refine HN.out.mono ?_
  rintro e w1 ⟨rfl, rfl⟩
  go_wp2_with fail
  go_ret
  exact ⟨rfl, rfl⟩
theorem ripe_no (h : NoU w v) : Calls Try.prog 19 #[v] w fun e w' => e = .returned (.bool false) ∧ w = w' := by
  have HN := hid (len_no h)
  obtain ⟨a, rfl⟩ := h.ptr
  clear h
  go_enter Try.func19, Try.ntmps19
  go_wp2_with fail
  refine HN.out.mono ?_
  rintro e w1 ⟨rfl, rfl⟩
  go_wp2_with fail
  go_ret
  exact ⟨rfl, rfl⟩
theorem waits_no (h : NoU w v) : Calls Try.prog 20 #[v] w fun e w' => e = .returned (.slice none 0 0) ∧ w = w' := by
  have HN := hid (len_no h)
  obtain ⟨a, rfl⟩ := h.ptr
  clear h
  go_enter Try.func20, Try.ntmps20
  go_wp2_with fail
  refine HN.out.mono ?_
  rintro e w1 ⟨rfl, rfl⟩
  go_wp2_with fail
  go_ret
  exact ⟨rfl, rfl⟩
theorem copy_no (h : NoU w v) : Calls Try.prog 27 #[v] w fun e w' => e = .returned (.pointer none) ∧ w = w' := by
  have HN := hid (tasks_no h)
  obtain ⟨a, rfl⟩ := h.ptr
  clear h
  go_enter Try.func27, Try.ntmps27
  go_wp2_with fail
  refine HN.out.mono ?_
  rintro e w1 ⟨rfl, rfl⟩
  go_wp2_with fail
  go_ret
  exact ⟨rfl, rfl⟩
theorem all_no (h : NoU w v) : Calls Try.prog 26 #[v] w fun e w' => e = .returned (.slice none 0 0) ∧ w = w' := by
  have HN := hid (len_no h)
  obtain ⟨a, rfl⟩ := h.ptr
  clear h
  go_enter Try.func26, Try.ntmps26
  go_wp2_with fail
  refine HN.out.mono ?_
  rintro e w1 ⟨rfl, rfl⟩
  go_wp2_with fail
  go_loopw [2, 6] (fun x i W => x = .slice none 0 0 ∧ i = .int .i64 0 ∧ w = W) (fun _ _ _ => 0)
  case atStart => exact ⟨rfl, rfl, rfl⟩
  case round =>
    obtain ⟨rfl, rfl, rfl⟩ := hrel
    go_wp2_with fail
    go_ret
    exact ⟨rfl, rfl⟩
theorem retire_no (h : NoU w v) {a b c : Value} : Calls Try.prog 17 #[v, .agg #[a, b, c]] w fun e w' => e = .returned (.int .i64 1) ∧ Kp NoB w w' := by
  have HN := hid (tasks_no (h.kn ((Kp.refl NoB w).alloc (.cells #[a, b, c] 35))))
  obtain ⟨o, rfl⟩ := h.ptr
  clear h
  go_enter Try.func17, Try.ntmps17
  go_wp2_with fail
  refine HN.out.mono ?_
  rintro e w1 ⟨rfl, rfl⟩
  go_wp2_with fail
  go_ret
  exact ⟨rfl, (Kp.refl _ w).alloc _⟩
set_option maxRecDepth 100000 in
theorem nextno_no (h : NoU w v) : Calls Try.prog 23 #[v] w fun e w' => e = .returned (.tuple #[.agg #[.slice none 0 0, .slice none 0 0, .slice none 0 0], .bool false]) ∧ Kp NoB w w' := by
  have HR := hid (ripe_no (h.kn ((Kp.refl NoB w).alloc (.cells #[.slice none 0 0, .slice none 0 0, .slice none 0 0] 35))))
  have L := loc3 (blk_new w (.cells #[.slice none 0 0, .slice none 0 0, .slice none 0 0] 35))
  obtain ⟨o, rfl⟩ := h.ptr
  clear h
  go_enter Try.func23, Try.ntmps23
  go_wp2_with fail
  refine HR.out.mono ?_
  rintro e w1 ⟨rfl, rfl⟩
  go_wp2_with fail
  refine bodyPost_ret (v := .tuple #[.agg #[.slice none 0 0, .slice none 0 0, .slice none 0 0], .bool false]) (by simp [results, Try.results23, go_sem, L]) rfl ⟨rfl, ?_⟩
  exact (Kp.refl _ w).alloc _
theorem same_no (h : NoU w v) (k : NoU w u) : Calls Try.prog 29 #[v, u] w fun e w' => e = .returned (.bool true) ∧ w = w' := by
  have HN := hid (tasks_no h)
  have HM := hid (tasks_no k)
  obtain ⟨a, rfl⟩ := h.ptr
  obtain ⟨b, rfl⟩ := k.ptr
  clear h k
  go_enter Try.func29, Try.ntmps29
  go_wp2_with fail
  refine HN.out.mono ?_
  rintro e w1 ⟨rfl, rfl⟩
  go_wp2_with fail
  refine HN.out.mono ?_
  rintro e w1 ⟨rfl, rfl⟩
  go_wp2_with fail
  refine HM.out.mono ?_
  rintro e w1 ⟨rfl, rfl⟩
  go_wp2_with fail
  go_ret
  exact ⟨rfl, rfl⟩
set_option maxRecDepth 100000 in
set_option maxHeartbeats 8000000 in
theorem nil_law (w : World) : Calls Try.prog 8 #[] w fun e w' => e = .returned (.bool true) ∧ Kp NoB w w' := by
  have Z0 : NoU (w.alloc (.cells #[.slice none 0 0, .slice none 0 0] 68)) (.pointer (some ⟨w.heap.size, 0, none⟩)) := .inr ⟨_, rfl, blk_new _ _⟩
  have HK := hid known_any
  have HZ := hid (fun W (k : Kp NoB (w.alloc (.cells #[.slice none 0 0, .slice none 0 0] 68)) W) => Z0.kn k)
  have k0 := (Kp.refl NoB (w.alloc (.cells #[.slice none 0 0, .slice none 0 0] 68)))
  have hN := hid (fun W => (show NoU W (.pointer none) from .inl rfl))
  have HO := hid (one_any 1)
  have kw := hid ((Kp.refl NoB w).alloc (.cells #[.slice none 0 0, .slice none 0 0] 68))
  clear Z0
  go_enter Try.func8, Try.ntmps8
  go_wp2_with fail
  generalize (w.alloc (.cells #[.slice none 0 0, .slice none 0 0] 68)) = w0 at *
  refine (nextno_no (hN.out _)).mono ?_
  rintro e w1 ⟨rfl, k1⟩
  replace k1 := k0.trans k1
  clear k0
  replace k1 := hid (k1.alloc (.cells #[.slice none 0 0, .slice none 0 0, .slice none 0 0] 35))
  go_wp2_with fail
  generalize (w1.alloc (.cells #[.slice none 0 0, .slice none 0 0, .slice none 0 0] 35)) = w2 at *
  refine (nextno_no (HZ.out _ k1.out)).mono ?_
  rintro e w3 ⟨rfl, k3⟩
  replace k3 := hid ((k1.out.trans k3).alloc (.cells #[.slice none 0 0, .slice none 0 0, .slice none 0 0] 35))
  clear k1
  go_wp2_with fail
  generalize (w3.alloc (.cells #[.slice none 0 0, .slice none 0 0, .slice none 0 0] 35)) = w4 at *
  refine (enter_no (hN.out _) 0).mono ?_
  rintro e w5 ⟨rfl, rfl⟩
  go_wp2_with fail
  refine (leave_no (HZ.out _ k3.out) 0).mono ?_
  rintro e w5 ⟨rfl, rfl⟩
  go_wp2_with fail
  refine (HO.out _).mono ?_
  rintro e w5 ⟨x, rfl, hx, _, k5⟩
  clear hx
  replace k5 := hid (k3.out.trans k5)
  clear k3
  go_wp2_with fail
  refine (retire_no (hN.out _)).mono ?_
  rintro e w6 ⟨rfl, k6⟩
  replace k6 := hid (k5.out.trans k6)
  clear k5
  go_wp2_with fail
  refine (retire_no (HZ.out _ k6.out)).mono ?_
  rintro e w7 ⟨rfl, k7⟩
  replace k7 := hid (k6.out.trans k7)
  clear k6
  go_wp2_with fail
  refine (depth_no (hN.out _) 0).mono ?_
  rintro e w8 ⟨rfl, rfl⟩
  go_wp2_with fail
  refine (depth_no (HZ.out _ k7.out) 0).mono ?_
  rintro e w8 ⟨rfl, rfl⟩
  go_wp2_with fail
  refine (len_no (hN.out _)).mono ?_
  rintro e w8 ⟨rfl, rfl⟩
  go_wp2_with fail
  refine (len_no (HZ.out _ k7.out)).mono ?_
  rintro e w8 ⟨rfl, rfl⟩
  go_wp2_with fail
  refine (waits_no (hN.out _)).mono ?_
  rintro e w8 ⟨rfl, rfl⟩
  go_wp2_with fail
  refine (all_no (HZ.out _ k7.out)).mono ?_
  rintro e w8 ⟨rfl, rfl⟩
  go_wp2_with fail
  refine (ripe_no (hN.out _)).mono ?_
  rintro e w8 ⟨rfl, rfl⟩
  go_wp2_with fail
  refine (ripe_no (HZ.out _ k7.out)).mono ?_
  rintro e w8 ⟨rfl, rfl⟩
  go_wp2_with fail
  refine (copy_no (hN.out _)).mono ?_
  rintro e w8 ⟨rfl, rfl⟩
  go_wp2_with fail
  refine (copy_no (HZ.out _ k7.out)).mono ?_
  rintro e w8 ⟨rfl, rfl⟩
  go_wp2_with fail
  refine (same_no (hN.out _) (HZ.out _ k7.out)).mono ?_
  rintro e w8 ⟨rfl, rfl⟩
  go_wp2_with fail
  refine (same_no (HZ.out _ k7.out) (hN.out _)).mono ?_
  rintro e w8 ⟨rfl, rfl⟩
  go_wp2_with fail
  refine (HK.out _).mono ?_
  rintro e w8 ⟨rfl, k8⟩
  go_wp2_with fail
  go_ret
  exact ⟨rfl, (kw.out.trans k7.out).trans k8⟩
end
end Go.Proofs.Ytplbkjgkocnehaa
