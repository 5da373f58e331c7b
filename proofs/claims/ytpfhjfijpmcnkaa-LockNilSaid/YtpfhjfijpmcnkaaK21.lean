/- Walk: LockNil. -/
import Derived.Test.YtpfhjfijpmcnkaaK20
namespace Go.Proofs.Ytpfhjfijpmcnkaa
set_option linter.unusedSimpArgs false
set_option linter.unusedVariables false
open Go.RowKit
attribute [local go_sem ↓] Go.wp_at_zero Go.wp_at_succ
section
variable {w0 w w' : World} {p n : Nat} {v u : Value} {L : List (Int × Int)}
theorem same_br' (h : NoL w v) (h' : LNew w0 w p n L) : Calls Try.prog 24 #[v, .pointer (some ⟨p, 0, none⟩)] w fun e w' => e = .returned (.bool false) ∧ w = w' := by
  obtain ⟨m, M, h1, h2, h3, h4⟩ := h'
  exact same_br h h1 h2.n1
theorem same_rb' (h : NoL w v) (h' : LNew w0 w p n L) : Calls Try.prog 24 #[.pointer (some ⟨p, 0, none⟩), v] w fun e w' => e = .returned (.bool false) ∧ w = w' := by
  obtain ⟨m, M, h1, h2, h3, h4⟩ := h'
  exact same_rb h h1 h2.n1
set_option maxRecDepth 100000 in
set_option maxHeartbeats 8000000 in
theorem nil_any (w : World) : Calls Try.prog 8 #[] w fun e w' => e = .returned (.bool true) ∧ Kp NoB w w' := by
  have N0 : ∀ W, NoL W (.pointer none) := fun W => .inl rfl
  have HK := hid known_any
  have hz0 := hid (show NoL (w.alloc (.cells #[.int .i64 0, .map none] 53)) (.pointer (some ⟨w.heap.size, 0, none⟩)) from .inr ⟨_, _, rfl, blk_new w _⟩)
  have K0 := hid ((Kp.refl NoB w).alloc (.cells #[.int .i64 0, .map none] 53))
  have w0 : (Lit.int .i64 0).wf = true := by decide
  have wm : (Lit.int .i64 (-1)).wf = true := by decide
  have G26 := hid (fun W => new_no W (n := 0) (by omega))
  have G26' := hid (fun W => new_no W (n := 9) (by omega))
  have GN := hid (fun W => new_new W (n := 8) (by omega) (by omega))
  have Z := hid (fun W (k : Kp NoB (w.alloc (.cells #[.int .i64 0, .map none] 53)) W) => hz0.out.kn k)
  have A20 := hid (fun W => drop_no (N0 W) 0)
  have A11 := hid (fun W => holder_no (N0 W) 0)
  have A13 := hid (fun W => try_no (N0 W) 0 0)
  have A17 := hid (fun W => release_no (N0 W) 0 0)
  have A12 := hid (fun W => waiting_no (N0 W) 0)
  have A22 := hid (fun W => copy_no (N0 W))
  have N0' := hid N0
  clear N0
  go_enter Try.func8, Try.ntmps8
  go_wp2_with fail
  refine (G26.out _).mono ?_
  rintro e w1 ⟨rfl, rfl⟩
  go_wp2_with fail
  refine (G26'.out _).mono ?_
  rintro e w1 ⟨rfl, rfl⟩
  go_wp2_with fail
  refine (GN.out _).mono ?_
  rintro e w1 ⟨o, rfl, L1, _⟩
  have Z1 := hid (Z.out _ L1.k)
  replace L1 := hid L1
  go_wp2_with fail
  refine (A20.out _).mono ?_
  rintro e w2 ⟨rfl, rfl⟩
  go_wp2_with fail
  refine (drop_no Z1.out 0).mono ?_
  rintro e w2 ⟨rfl, rfl⟩
  go_wp2_with fail
  refine (A11.out _).mono ?_
  rintro e w2 ⟨rfl, rfl⟩
  go_wp2_with fail
  refine (holder_no Z1.out 0).mono ?_
  rintro e w2 ⟨rfl, rfl⟩
  go_wp2_with fail
  refine (A13.out _).mono ?_
  rintro e w2 ⟨rfl, rfl⟩
  go_wp2_with fail
  refine (try_no Z1.out 0 0).mono ?_
  rintro e w2 ⟨rfl, rfl⟩
  go_wp2_with fail
  refine (A17.out _).mono ?_
  rintro e w2 ⟨rfl, rfl⟩
  go_wp2_with fail
  refine (has_no Z1.out 0 0).mono ?_
  rintro e w2 ⟨rfl, rfl⟩
  go_wp2_with fail
  refine (A12.out _).mono ?_
  rintro e w2 ⟨rfl, rfl⟩
  go_wp2_with fail
  refine (held_no Z1.out 0).mono ?_
  rintro e w2 ⟨rfl, rfl⟩
  go_wp2_with fail
  refine (A22.out _).mono ?_
  rintro e w2 ⟨rfl, rfl⟩
  go_wp2_with fail
  refine (copy_no Z1.out).mono ?_
  rintro e w2 ⟨rfl, rfl⟩
  go_wp2_with fail
  refine (same_bb (N0'.out _) Z1.out).mono ?_
  rintro e w2 ⟨rfl, rfl⟩
  go_wp2_with fail
  refine (same_br' (N0'.out _) L1.out).mono ?_
  rintro e w2 ⟨rfl, rfl⟩
  go_wp2_with fail
  refine (same_rb' (N0'.out _) L1.out).mono ?_
  rintro e w2 ⟨rfl, rfl⟩
  go_wp2_with fail
  refine (try_new' L1.out (t := 8) (id := 0) w0 (by simp) (b := false) (L' := []) (by decide) (by decide)).mono ?_
  rintro e w3 ⟨rfl, L2⟩
  replace L2 := hid L2
  go_wp2_with fail
  refine (try_new' L2.out (t := 0) (id := (-1)) wm (by simp) (b := false) (L' := []) (by decide) (by decide)).mono ?_
  rintro e w4 ⟨rfl, L3⟩
  replace L3 := hid L3
  go_wp2_with fail
  refine (try_new' L3.out (t := 7) (id := 0) w0 (by simp) (b := true) (L' := [(0, 7)]) (by decide) (by decide)).mono ?_
  rintro e w5 ⟨rfl, L4⟩
  replace L4 := hid L4
  go_wp2_with fail
  refine (release_new L4.out (t := 0) (id := 0) w0 (by simp) (b := false) (L' := [(0, 7)]) (by decide) (by decide)).mono ?_
  rintro e w6 ⟨rfl, L5⟩
  replace L5 := hid L5
  go_wp2_with fail
  refine (HK.out _).mono ?_
  rintro e w7 ⟨rfl, k7⟩
  go_wp2_with fail
  go_ret
  exact ⟨rfl, (K0.out.trans L5.out.k).trans k7⟩
end
end Go.Proofs.Ytpfhjfijpmcnkaa
