/- Walks through locks: who has one, who waits. -/
import Derived.Test.YtpfhjfijpmcnkaaK1
namespace Go.Proofs.Ytpfhjfijpmcnkaa
set_option linter.unusedSimpArgs false
set_option linter.unusedVariables false
open Go.RowKit
attribute [local go_sem ↓] Go.wp_at_zero Go.wp_at_succ
section
variable {w w' : World} {p m n : Nat} {M : List (Int × Value)} {L : List (Int × Int)} {v : Value} {l : List Int}
theorem LAt.look (h : LAt w p m n M L) {id : Int} (hw : (Lit.int .i64 id).wf = true) : ∃ v, (∀ W, Kp NoB w W → (Instr.lookup 51 (.map (some m)) (.int .i64 id) false).run Try.prog W = .ok v W) ∧ Rs 3 w v (rowL L id) := by
  refine ⟨_, fun W k => ?_, h.rows id⟩
  have := (h.kn k).hm.look (P := Try.prog) h.k k23 k51 (zero31 W) id hw false
  simpa using this
set_option maxRecDepth 100000 in
theorem holder_some (h : LAt w p m n M L) (n1 : 1 ≤ n) {id : Int} (hw : (Lit.int .i64 id).wf = true) {t : Int} {r : List Int} (hr : rowL L id = t :: r) :
    Calls Try.prog 11 #[.pointer (some ⟨p, 0, none⟩), .int .i64 id] w fun e w' => e = .returned (.tuple #[.int .i64 t, .bool true]) ∧ w = w' := by
  have HT := hid (there_yes h n1)
  obtain ⟨v, hl, hv⟩ := h.look hw
  replace hl := hl w (Kp.refl _ _)
  rw [hr] at hv
  obtain ⟨b, f, c, rfl, hc, _, hcell⟩ := hv.cells (by simp)
  have Le := hcell w (Kp.refl _ _) 0 t rfl
  rw [Nat.add_zero] at Le
  have Lp := loc2 h.hp
  have e1 : (((t :: r).length : Int) == 0) = false := by rw [beq_eq_false_iff_ne, List.length_cons]; omega
  have e2 : (0 : Int) < ((t :: r).length : Int) := by rw [List.length_cons]; omega
  generalize (t :: r).length = q at *
  clear h hv hcell
  go_enter Try.func11, Try.ntmps11
  go_wp2_with fail
  refine HT.out.mono ?_
  rintro e w1 ⟨rfl, rfl⟩
  go_wp2_with fail
  go_ret2
  exact ⟨rfl, rfl⟩
set_option maxRecDepth 100000 in
theorem holder_none (h : LAt w p m n M L) (n1 : 1 ≤ n) {id : Int} (hw : (Lit.int .i64 id).wf = true) (hr : rowL L id = []) :
    Calls Try.prog 11 #[.pointer (some ⟨p, 0, none⟩), .int .i64 id] w fun e w' => e = .returned (.tuple #[.int .i64 0, .bool false]) ∧ w = w' := by
  have HT := hid (there_yes h n1)
  obtain ⟨v, hl, hv⟩ := h.look hw
  replace hl := hl w (Kp.refl _ _)
  rw [hr] at hv
  obtain ⟨o, c, rfl, _⟩ := hv.form
  have Lp := loc2 h.hp
  clear h hv
  go_enter Try.func11, Try.ntmps11
  go_wp2_with fail
  refine HT.out.mono ?_
  rintro e w1 ⟨rfl, rfl⟩
  go_wp2_with fail
  go_ret2
  exact ⟨rfl, rfl⟩
def hdL : List Int → Int | [] => 0 | t :: _ => t
def isL : List Int → Bool | [] => false | _ :: _ => true
theorem holder_any (h : LAt w p m n M L) (n1 : 1 ≤ n) {id : Int} (hw : (Lit.int .i64 id).wf = true) :
    Calls Try.prog 11 #[.pointer (some ⟨p, 0, none⟩), .int .i64 id] w fun e w' => e = .returned (.tuple #[.int .i64 (hdL (rowL L id)), .bool (isL (rowL L id))]) ∧ w = w' := by
  cases hr : rowL L id with
  | nil => exact holder_none h n1 hw hr
  | cons t r => exact holder_some h n1 hw hr
set_option maxRecDepth 100000 in
theorem has_any (h : LAt w p m n M L) (n1 : 1 ≤ n) {t id : Int} (hw : (Lit.int .i64 id).wf = true) :
    Calls Try.prog 15 #[.pointer (some ⟨p, 0, none⟩), .int .i64 t, .int .i64 id] w fun e w' => e = .returned (.bool (isL (rowL L id) && hdL (rowL L id) == t)) ∧ w = w' := by
  have HH := hid (holder_any h n1 hw)
  generalize isL (rowL L id) = b at *
  generalize hdL (rowL L id) = x at *
  clear h
  cases b
  · go_enter Try.func15, Try.ntmps15
    go_wp2_with fail
    refine HH.out.mono ?_
    rintro e w1 ⟨rfl, rfl⟩
    go_wp2_with fail
    go_ret
    exact ⟨by simp, rfl⟩
  · go_enter Try.func15, Try.ntmps15
    go_wp2_with fail
    refine HH.out.mono ?_
    rintro e w1 ⟨rfl, rfl⟩
    go_wp2_with fail
    go_ret
    exact ⟨by simp, rfl⟩
set_option maxRecDepth 100000 in
/-- slices.Clone -/
theorem clone_any (hv : Rs 3 w v l) (n2 : l.length ≤ 4096) : Calls Try.prog 29 #[v] w fun e w' => ∃ v', e = .returned v' ∧ Rs 3 w' v' l ∧ Kp NoB w w' := by
  have heq1 : ∀ w, (binOp .eql 31 (.slice none 0 0) (.slice none 0 0)).run Try.prog w = .ok (.bool true) w := fun _ => by kernel_rfl
  have heq2 : ∀ a n c w, (binOp .eql 31 (.slice (some a) n c) (.slice none 0 0)).run Try.prog w = .ok (.bool false) w := fun _ _ _ _ => by kernel_rfl
  rcases hv with ⟨rfl, rfl⟩ | ⟨b, f, c, A, rfl, hb, hA, hc⟩
  · go_enter Try.func29, Try.ntmps29
    go_wp2_with fail
    go_ret
    exact ⟨_, rfl, Rs.nil _ _, Kp.refl _ _⟩
  · have h0 : Rs 3 (w.alloc (.cells #[] 3)) (.slice (some ⟨w.heap.size, 0, none⟩) 0 0) [] := .inr ⟨_, 0, 0, _, rfl, blk_new w _, by simp, Nat.le_refl _⟩
    have h1 : Rs 3 (w.alloc (.cells #[] 3)) (.slice (some ⟨b, f, none⟩) l.length c) l := Rs.alloc (.inr ⟨b, f, c, A, rfl, hb, hA, hc⟩) _
    obtain ⟨v', w', hr, q1, q2⟩ := run_append_rs (P := Try.prog) (t := 31) (ty := 31) u31 i3 h0 _ rfl h1 (by simp; omega)
    replace hr := hid hr
    replace q1 := hid q1
    replace q2 := hid q2
    clear h0 h1
    replace hb := hid hb
    replace hA := hid hA
    go_enter Try.func29, Try.ntmps29
    go_wp2_with (at_builtin; refine Lib.wpList_append_run _ rfl _ _ 31 31 rfl (.slice (some ⟨w.heap.size, 0, none⟩) 0 0) (.slice (some ⟨b, f, none⟩) l.length c) rfl rfl _ _ hr.out ?_)
    go_ret
    exact ⟨_, rfl, by simpa using q1.out, ((Kp.refl _ w).alloc _).trans q2.out⟩
end
end Go.Proofs.Ytpfhjfijpmcnkaa
