/- What is answered of accounts that are not there, or are zero ones. -/
import Derived.Test.YtaghkgddnjdjcaaQ18
namespace Go.Proofs.Ytaghkgddnjdjcaa
set_option linter.unusedSimpArgs false
set_option linter.unusedVariables false
open Go.RowKit
attribute [local go_sem ↓] Go.wp_at_zero Go.wp_at_succ

def Gone (w : World) (pv : Value) : Prop := pv = .pointer none ∨ ∃ z, pv = .pointer (some ⟨z, 0, none⟩) ∧ ∃ A t, w.heap[z]? = some (.cells A t (0, 0)) ∧ A[0]? = some (.slice none 0 0)
section
variable {w w' : World} {pv : Value}
theorem Gone.kp {F : Nat → Prop} (h : Gone w pv) (k : Kp F w w') (hF : ∀ b, b < w.heap.size → ¬ F b) : Gone w' pv := by
  rcases h with h | ⟨z, rfl, A, t, h, h0⟩
  · exact .inl h
  · exact .inr ⟨z, rfl, A, t, k.get h (hF _ (blk_lt h)), h0⟩
theorem Gone.alloc (h : Gone w pv) (o : Obj) : Gone (w.alloc o) pv := h.kp ((Kp.refl NoB w).alloc o) (fun _ _ h => h)
theorem Gone.drew (h : Gone w pv) : Gone w.drew pv := h
theorem there_gone (h : Gone w pv) : Calls Try.prog 34 #[pv] w fun e w' => e = .returned (.bool false) ∧ w = w' := by
  rcases h with rfl | ⟨z, rfl, A, t, h, h0⟩
  · exact there_nil w
  · exact there_zero z w (by rw [cell_of h]; exact h0)
theorem asked_gone (h : Gone w pv) (x : Option Addr) (len cap : Nat) : Calls Try.prog 28 #[pv, .slice x len cap] w fun e w' => e = .returned (.int .i64 1) ∧ w = w' := by
  have HT := hid (there_gone h)
  clear h
  go_enter Try.func28, Try.ntmps28
  go_wp2_with fail
  refine HT.out.mono ?_
  rintro e w' ⟨rfl, rfl⟩
  go_wp2_with fail
  go_ret
  exact ⟨rfl, rfl⟩
theorem put_gone (h : Gone w pv) (i d1 d2 m1 m2 : Int) : Calls Try.prog 27 #[pv, .int .i64 i, .agg #[.int .u64 d1, .int .u64 d2], .agg #[.int .u64 m1, .int .u64 m2]] w fun e w' => e = .returned (.int .i64 1) ∧ Kp NoB w w' := by
  have HQ := hid (fun (w1 : World) (x : Option Addr) (len cap : Nat) (h1 : Gone w1 pv) => asked_gone h1 x len cap)
  have H := hid h
  clear h
  go_enter Try.func27, Try.ntmps27
  go_wp2_with fail
  refine (HQ.out _ _ _ _ (((H.out.alloc _).alloc _).alloc _)).mono ?_
  rintro e w' ⟨rfl, rfl⟩
  go_wp2_with fail
  go_ret
  exact ⟨rfl, (((Kp.refl _ w).alloc _).alloc _).alloc _⟩
theorem charge_gone (h : Gone w pv) (i m1 m2 : Int) : Calls Try.prog 11 #[pv, .int .i64 i, .int .u64 m1, .int .u64 m2] w fun e w' => e = .returned (.int .i64 1) ∧ Kp NoB w w' := by
  have HP := hid (put_gone h i 0 0 m1 m2)
  clear h
  go_enter Try.func11, Try.ntmps11
  go_wp2_with fail
  refine HP.out.mono ?_
  rintro e w' ⟨rfl, h2⟩
  go_wp2_with fail
  go_ret
  exact ⟨rfl, h2⟩
theorem release_gone (h : Gone w pv) (i m1 m2 : Int) : Calls Try.prog 12 #[pv, .int .i64 i, .int .u64 m1, .int .u64 m2] w fun e w' => e = .returned (.int .i64 1) ∧ Kp NoB w w' := by
  have HP := hid (put_gone h i m1 m2 0 0)
  clear h
  go_enter Try.func12, Try.ntmps12
  go_wp2_with fail
  refine HP.out.mono ?_
  rintro e w' ⟨rfl, h2⟩
  go_wp2_with fail
  go_ret
  exact ⟨rfl, h2⟩
theorem change_gone (h : Gone w pv) (i m1 m2 : Int) : Calls Try.prog 13 #[pv, .int .i64 i, .int .u64 m1, .int .u64 m2] w fun e w' => e = .returned (.int .i64 1) ∧ Kp NoB w w' := by
  have HP := hid (put_gone h i 0 m1 0 m2)
  clear h
  go_enter Try.func13, Try.ntmps13
  go_wp2_with fail
  refine HP.out.mono ?_
  rintro e w' ⟨rfl, h2⟩
  go_wp2_with fail
  go_ret
  exact ⟨rfl, h2⟩
theorem move_gone (h : Gone w pv) (i j m1 m2 : Int) : Calls Try.prog 14 #[pv, .int .i64 i, .int .i64 j, .int .u64 m1, .int .u64 m2] w fun e w' => e = .returned (.int .i64 1) ∧ Kp NoB w w' := by
  have HQ := hid (fun (w1 : World) (x : Option Addr) (len cap : Nat) (h1 : Gone w1 pv) => asked_gone h1 x len cap)
  have H := hid h
  clear h
  go_enter Try.func14, Try.ntmps14
  go_wp2_with fail
  refine (HQ.out _ _ _ _ (H.out.alloc _)).mono ?_
  rintro e w' ⟨rfl, rfl⟩
  go_wp2_with fail
  go_ret
  exact ⟨rfl, (Kp.refl _ w).alloc _⟩
theorem of_gone (h : Gone w pv) (i : Int) : Calls Try.prog 15 #[pv, .int .i64 i] w fun e w' => e = .returned (.tuple #[.int .u64 0, .int .u64 0]) ∧ Kp NoB w w' := by
  have HQ := hid (fun (w1 : World) (x : Option Addr) (len cap : Nat) (h1 : Gone w1 pv) => asked_gone h1 x len cap)
  have H := hid h
  clear h
  go_enter Try.func15, Try.ntmps15
  go_wp2_with fail
  refine (HQ.out _ _ _ _ (H.out.alloc _)).mono ?_
  rintro e w' ⟨rfl, rfl⟩
  go_wp2_with fail
  go_ret2
  exact ⟨rfl, (Kp.refl _ w).alloc _⟩
theorem limits_gone (h : Gone w pv) : Calls Try.prog 24 #[pv] w fun e w' => e = .returned (.tuple #[.int .u64 0, .int .u64 0]) ∧ w = w' := by
  have HT := hid (there_gone h)
  clear h
  go_enter Try.func24, Try.ntmps24
  go_wp2_with fail
  refine HT.out.mono ?_
  rintro e w' ⟨rfl, rfl⟩
  go_wp2_with fail
  go_ret2
  exact ⟨rfl, rfl⟩
theorem users_gone (h : Gone w pv) : Calls Try.prog 25 #[pv] w fun e w' => e = .returned (.int .i64 0) ∧ w = w' := by
  have HT := hid (there_gone h)
  clear h
  go_enter Try.func25, Try.ntmps25
  go_wp2_with fail
  refine HT.out.mono ?_
  rintro e w' ⟨rfl, rfl⟩
  go_wp2_with fail
  go_ret
  exact ⟨rfl, rfl⟩
theorem copyq_gone (h : Gone w pv) : Calls Try.prog 21 #[pv] w fun e w' => e = .returned (.pointer none) ∧ w = w' := by
  have HT := hid (there_gone h)
  clear h
  go_enter Try.func21, Try.ntmps21
  go_wp2_with fail
  refine HT.out.mono ?_
  rintro e w' ⟨rfl, rfl⟩
  go_wp2_with fail
  go_ret
  exact ⟨rfl, rfl⟩
/-- whether both are there -/
theorem sameq_gone {pu : Value} (a b : Bool) (h : Calls Try.prog 34 #[pv] w fun e w' => e = .returned (.bool a) ∧ w = w') (h' : Calls Try.prog 34 #[pu] w fun e w' => e = .returned (.bool b) ∧ w = w') (hab : (a && b) = false) :
    Calls Try.prog 22 #[pv, pu] w fun e w' => e = .returned (.bool (!a && !b)) ∧ w = w' := by
  have HT := hid h
  have HT' := hid h'
  clear h h'
  cases a <;> cases b <;> simp at hab
  · go_enter Try.func22, Try.ntmps22
    go_wp2_with fail
    refine HT.out.mono ?_
    rintro e w' ⟨rfl, rfl⟩
    go_wp2_with fail
    refine HT.out.mono ?_
    rintro e w' ⟨rfl, rfl⟩
    go_wp2_with fail
    refine HT'.out.mono ?_
    rintro e w' ⟨rfl, rfl⟩
    go_wp2_with fail
    go_ret
    exact ⟨rfl, rfl⟩
  · go_enter Try.func22, Try.ntmps22
    go_wp2_with fail
    refine HT.out.mono ?_
    rintro e w' ⟨rfl, rfl⟩
    go_wp2_with fail
    refine HT.out.mono ?_
    rintro e w' ⟨rfl, rfl⟩
    go_wp2_with fail
    refine HT'.out.mono ?_
    rintro e w' ⟨rfl, rfl⟩
    go_wp2_with fail
    go_ret
    exact ⟨rfl, rfl⟩
  · go_enter Try.func22, Try.ntmps22
    go_wp2_with fail
    refine HT.out.mono ?_
    rintro e w' ⟨rfl, rfl⟩
    go_wp2_with fail
    refine HT'.out.mono ?_
    rintro e w' ⟨rfl, rfl⟩
    go_wp2_with fail
    refine HT.out.mono ?_
    rintro e w' ⟨rfl, rfl⟩
    go_wp2_with fail
    go_ret
    exact ⟨rfl, rfl⟩
end
end Go.Proofs.Ytaghkgddnjdjcaa
