/- Walks: what must be known of locks; acts that came in; locks behind acts. -/
import Derived.Test.YtpfhjfijpmcnkaaK12
import Derived.Test.YtpfhjfijpmcnkaaLibF
namespace Go.Proofs.Ytpfhjfijpmcnkaa
set_option linter.unusedSimpArgs false
set_option linter.unusedVariables false
open Go.RowKit Go.ChangeShapes Go.WideShapes Go.Deep
attribute [local go_sem ↓] Go.wp_at_zero Go.wp_at_succ
/-- locks of one's own, new since w0 -/
def LNew (w0 w : World) (p n : Nat) (L : List (Int × Int)) : Prop := ∃ m M, LAt w p m n M L ∧ LOk n L ∧ w0.heap.size ≤ m ∧ Kp NoB w0 w
section
variable {w0 w w' : World} {p m q n : Nat} {M : List (Int × Value)} {v v1 v2 : Value} {L : List (Int × Int)} {l l' : List Int}
theorem LNew.kn (h : LNew w0 w p n L) (k : Kp NoB w w') : LNew w0 w' p n L := by
  obtain ⟨m, M, h1, h2, h3, h4⟩ := h
  exact ⟨m, M, h1.kn k, h2, h3, h4.trans k⟩
theorem LNew.k (h : LNew w0 w p n L) : Kp NoB w0 w := by obtain ⟨m, M, h1, h2, h3, h4⟩ := h; exact h4
theorem try_new' (h : LNew w0 w p n L) {t id : Int} (hw : (Lit.int .i64 id).wf = true) (n2 : L.length ≤ 4000) {b : Bool} {L' : List (Int × Int)} (hb : tryB n L t id = b) (hL : tryL n L t id = L') :
    Calls Try.prog 13 #[.pointer (some ⟨p, 0, none⟩), .int .i64 t, .int .i64 id] w fun e w' => e = .returned (.bool b) ∧ LNew w0 w' p n L' := by
  obtain ⟨m, M, h1, h2, h3, h4⟩ := h
  subst hb; subst hL
  refine (try_any h1 h2 hw n2).mono ?_
  rintro e w1 ⟨rfl, M', q, k⟩
  exact ⟨rfl, m, M', q, h2.try_ t id, h3, h4.trans' k (fun b hb e => by omega)⟩
theorem release_new (h : LNew w0 w p n L) {t id : Int} (hw : (Lit.int .i64 id).wf = true) (n2 : L.length ≤ 4000) {b : Bool} {L' : List (Int × Int)} (hb : hasB L t id = b) (hL : relL L t id = L') :
    Calls Try.prog 17 #[.pointer (some ⟨p, 0, none⟩), .int .i64 t, .int .i64 id] w fun e w' => e = .returned (.bool b) ∧ LNew w0 w' p n L' := by
  obtain ⟨m, M, h1, h2, h3, h4⟩ := h
  subst hb; subst hL
  refine (release_any h1 h2 hw n2).mono ?_
  rintro e w1 ⟨rfl, M', q, k⟩
  exact ⟨rfl, m, M', q, by unfold relL; split; exact h2.out t id; exact h2, h3, h4.trans' k (fun b hb e => by omega)⟩
theorem holder_new (h : LNew w0 w p n L) {id : Int} (hw : (Lit.int .i64 id).wf = true) :
    Calls Try.prog 11 #[.pointer (some ⟨p, 0, none⟩), .int .i64 id] w fun e w' => e = .returned (.tuple #[.int .i64 (hdL (rowL L id)), .bool (isL (rowL L id))]) ∧ w = w' := by
  obtain ⟨m, M, h1, h2, h3, h4⟩ := h
  exact holder_any h1 h2.n1 hw
theorem waiting_new (h : LNew w0 w p n L) {id : Int} (hw : (Lit.int .i64 id).wf = true) (n2 : L.length ≤ 4000) :
    Calls Try.prog 12 #[.pointer (some ⟨p, 0, none⟩), .int .i64 id] w fun e w' => ∃ v', e = .returned v' ∧ Rs 3 w' v' (rowL L id).tail ∧ LNew w0 w' p n L ∧ Kp NoB w w' := by
  have h' := h
  obtain ⟨m, M, h1, h2, h3, h4⟩ := h
  refine (waiting_any h1 h2.n1 hw (by have := row_len L id; omega)).mono ?_
  rintro e w1 ⟨v', rfl, q, k⟩
  exact ⟨v', rfl, q, h'.kn k, k⟩
theorem new_new (w : World) {n : Nat} (n1 : 1 ≤ n) (n2 : n ≤ 8) : Calls Try.prog 26 #[.int .i64 n] w fun e w' => ∃ p, e = .returned (.tuple #[.pointer (some ⟨p, 0, none⟩), .int .i64 0]) ∧ LNew w w' p n [] ∧ w.heap.size ≤ p := by
  refine (new_any w n1 n2).mono ?_
  rintro e w1 ⟨p, m, rfl, q, h1, h2, k⟩
  exact ⟨p, rfl, ⟨m, [], q, LOk.nil n1 n2, h2, k⟩, h1⟩
set_option maxRecDepth 100000 in
set_option maxHeartbeats 4000000 in
theorem known_any (w : World) : Calls Try.prog 10 #[] w fun e w' => e = .returned (.bool true) ∧ Kp NoB w w' := by
  have wf5 : (Lit.int .i64 5).wf = true := by decide
  have HN := hid (new_new w (n := 3) (by omega) (by omega))
  go_enter Try.func10, Try.ntmps10
  go_wp2_with fail
  refine HN.out.mono ?_
  rintro e w1 ⟨p, rfl, N1, _⟩
  have P1 := hid (try_new' N1 (t := 0) (id := 5) wf5 (by simp) (b := true) (L' := [(5, 0)]) (by decide) (by decide))
  clear N1
  go_wp2_with fail
  refine P1.out.mono ?_
  rintro e w2 ⟨rfl, N2⟩
  have P2 := hid (try_new' N2 (t := 1) (id := 5) wf5 (by simp) (b := false) (L' := [(5, 0), (5, 1)]) (by decide) (by decide))
  clear N2 P1
  go_wp2_with fail
  refine P2.out.mono ?_
  rintro e w3 ⟨rfl, N3⟩
  have P3 := hid (try_new' N3 (t := 2) (id := 5) wf5 (by simp) (b := false) (L' := [(5, 0), (5, 1), (5, 2)]) (by decide) (by decide))
  clear N3 P2
  go_wp2_with fail
  refine P3.out.mono ?_
  rintro e w4 ⟨rfl, N4⟩
  have P4 := hid (try_new' N4 (t := 1) (id := 5) wf5 (by simp) (b := false) (L' := [(5, 0), (5, 1), (5, 2)]) (by decide) (by decide))
  clear N4 P3
  go_wp2_with fail
  refine P4.out.mono ?_
  rintro e w5 ⟨rfl, N5⟩
  have P5 := hid (release_new N5 (t := 0) (id := 5) wf5 (by simp) (b := true) (L' := [(5, 1), (5, 2)]) (by decide) (by decide))
  clear N5 P4
  go_wp2_with fail
  refine P5.out.mono ?_
  rintro e w6 ⟨rfl, N6⟩
  have P6 := hid (holder_new N6 (id := 5) wf5)
  have P7 := hid (waiting_new N6 (id := 5) wf5 (by simp))
  have r5 : rowL [(5, 1), (5, 2)] 5 = [1, 2] := by decide
  rw [r5] at P6 P7
  simp only [hdL, isL, List.tail_cons] at P6 P7
  replace N6 := hid N6
  clear P5 r5
  go_wp2_with fail
  refine P6.out.mono ?_
  rintro e w7 ⟨rfl, rfl⟩
  go_wp2_with fail
  refine P7.out.mono ?_
  rintro e w8 ⟨v', rfl, q1, N8, _⟩
  have P8 := hid (equal_any (q1.alloc (.cells #[.int .i64 2] 3)) (Rs.one w8 2) (by simp))
  have K8 := hid (N8.k.alloc (.cells #[.int .i64 2] 3))
  rw [show decide (([2] : List Int) = [2]) = true from by decide] at P8
  obtain ⟨o, c, hv, _⟩ := q1.form
  subst hv
  replace q1 := hid q1
  replace N8 := hid N8
  clear P6 P7
  go_wp2_with fail
  refine P8.out.mono ?_
  rintro e w9 ⟨rfl, k⟩
  have K9 := hid (K8.out.trans k)
  go_wp2_with fail
  go_ret
  exact ⟨rfl, K9.out⟩
end
end Go.Proofs.Ytpfhjfijpmcnkaa
