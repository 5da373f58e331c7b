/- Walks: a writer's step, where nothing is to be made, or no slot is free. -/
import Derived.Test.YtaanbonbdhjbpaaE6
namespace Go.Proofs.Ytaanbonbdhjbpaa
set_option linter.unusedSimpArgs false
set_option linter.unusedVariables false
open Go.RowKit
attribute [local go_sem ↓] Go.wp_at_zero Go.wp_at_succ
section
variable {ops : Array Oper} {a : Act} {o : Oper}
theorem ex_ldX {W : World} (y : Operand) (ho : o.op = .load 35 y) (b f : Nat) (hx : a.eval y = .pointer (some ⟨b, f, none⟩)) (x : X) (hc : W.rangeAt b f x.1) : (execOp a.eval o).run Try.prog W = .ok (.value (.agg x.1.toArray)) W := by
  unfold execOp
  simp only [ho, hx, Instr.loadAt, Instr.sureAddr, Sem.run_bind, Sem.run_pure, Result.andThen_ok, run_loadVar_mid W b f 35 x.1 _ hc structX rfl (by rw [x.len]; exact infoX)]
end
theorem cf30 : ∀ args w, (callFunc 30 args).run Try.prog w = .ok (.enter 30 args) w := fun _ _ => rfl
section
variable {w w' : World} {q p l : Nat} {v lv mv : Value} {over : Bool} {Ls : List X} {Hs : List (Int × Int)} {S : List Sl3} {B : List Nat} {E : Nat}
theorem step_over (h : WAt w q p lv mv true Ls Hs) : Calls Try.prog 21 #[.pointer (some ⟨q, 0, none⟩)] w fun e w' => e = .returned (.tuple #[.bool false, .int .i64 18]) ∧ w = w' := by
  have hmf : ∀ (fn : Fn) (first cap : Array Value) (w : World), (Instr.makeFunc fn first cap).run Try.prog w = .ok (.func fn first cap) w := fun _ _ _ _ => rfl
  have cf := cf30
  have HR := hid (ready_over h)
  clear h
  go_enter Try.func21, Try.ntmps21
  go_wp2_with fail
  refine HR.out.mono ?_
  rintro e w1 ⟨rfl, rfl⟩
  go_wp2_with fail
  go_ret2
  exact ⟨rfl, rfl⟩
theorem step_none (w : World) : Calls Try.prog 21 #[.pointer none] w fun e w' => e = .returned (.tuple #[.bool false, .int .i64 1]) ∧ w = w' := by
  have hmf : ∀ (fn : Fn) (first cap : Array Value) (w : World), (Instr.makeFunc fn first cap).run Try.prog w = .ok (.func fn first cap) w := fun _ _ _ _ => rfl
  have cf := cf30
  have HR := hid (ready_none w)
  go_enter Try.func21, Try.ntmps21
  go_wp2_with fail
  refine HR.out.mono ?_
  rintro e w1 ⟨rfl, rfl⟩
  go_wp2_with fail
  go_ret2
  exact ⟨rfl, rfl⟩
theorem step_end (h : WAt w q p lv mv false [] Hs) : Calls Try.prog 21 #[.pointer (some ⟨q, 0, none⟩)] w fun e w' => e = .returned (.tuple #[.bool true, .int .i64 0]) ∧ w = w' := by
  have hmf : ∀ (fn : Fn) (first cap : Array Value) (w : World), (Instr.makeFunc fn first cap).run Try.prog w = .ok (.func fn first cap) w := fun _ _ _ _ => rfl
  have cf := cf30
  have HR := hid (ready_go h)
  obtain ⟨o, c, hv, hc, _⟩ := h.hl.form
  subst hv
  have Lq := h.cs
  clear h
  go_enter Try.func21, Try.ntmps21
  go_wp2_with fail
  refine HR.out.mono ?_
  rintro e w1 ⟨rfl, rfl⟩
  go_wp2_with fail
  go_ret2
  exact ⟨rfl, rfl⟩
theorem room_zero (I : AInv S B E) (h : room S B E = 0) : B = [] ∧ E = S.length := by
  have := I.e
  unfold room at h
  exact ⟨List.eq_nil_of_length_eq_zero (by omega), by omega⟩
set_option maxRecDepth 100000 in
set_option maxHeartbeats 4000000 in
/-- none is free: all is given back -/
theorem step_full (h : AAt w p l v S B E) (inv : AInv S B E) (hw : WAt w q p lv mv false Ls Hs) (hL : Live S Hs) (hl : Hs.length ≤ 100000) (h0 : 0 < Ls.length) (hr : room S B E = 0) : Calls Try.prog 21 #[.pointer (some ⟨q, 0, none⟩)] w fun e w' => e = .returned (.tuple #[.bool false, .int .i64 3]) ∧
    ∃ v' S' B', AAt w' p l v' S' B' E ∧ AInv S' B' E ∧ S'.length = S.length ∧ room S' B' E = room S B E + Hs.length ∧ WAt w' q p lv mv true Ls Hs ∧ (v'.ownBlock = v.ownBlock ∨ ∃ b, v'.ownBlock = some b ∧ w.heap.size ≤ b) ∧ Kp (fun b => b = q ∨ b = p ∨ b = l ∨ v.ownBlock = some b) w w' := by
  have hmf : ∀ (fn : Fn) (first cap : Array Value) (w : World), (Instr.makeFunc fn first cap).run Try.prog w = .ok (.func fn first cap) w := fun _ _ _ _ => rfl
  have cf := cf30
  have HR := hid (ready_go hw)
  obtain ⟨e1, e2⟩ := room_zero inv hr
  have HA : Hid (Calls Try.prog 14 #[.pointer (some ⟨p, 0, none⟩)] w fun e w' => e = .returned (.tuple #[.agg #[.int .i64 0, .int .u64 0], .int .i64 3]) ∧ Kp NoB w w') := by
    subst e1; subst e2
    exact alloc_full h inv.ok
  have HU := hid (fun (W : World) (h : AAt W p l v S B E) (hw : WAt W q p lv mv false Ls Hs) => undo_go h inv hw hL hl)
  have Lq := hw.cs
  obtain ⟨o, c, hv, hc, _⟩ := hw.hl.form
  subst hv
  have h0' : ((Ls.length : Int) == 0) = false := by simp; intro e; rw [e] at h0; simp at h0
  replace e1 := hid e1
  replace e2 := hid e2
  replace hr := hid hr
  replace h := hid h
  replace hw := hid hw
  clear inv hL
  go_enter Try.func21, Try.ntmps21
  go_wp2_with fail
  refine HR.out.mono ?_
  rintro e w1 ⟨rfl, rfl⟩
  go_wp2_with fail
  refine HA.out.mono ?_
  rintro e w1 ⟨rfl, k1⟩
  have A1 := (h.out.kn k1).alloc (.cells #[.int .i64 0, .int .u64 0] 33)
  have W1 := (hw.out.kn k1).alloc (.cells #[.int .i64 0, .int .u64 0] 33)
  replace A1 := hid A1
  replace W1 := hid W1
  clear Lq
  go_wp2_with fail
  refine (HU.out _ A1.out W1.out).mono ?_
  rintro e w2 ⟨rfl, v', S', B', p1, p2, p3, p4, p5, p6, p7⟩
  have k0 : Kp NoB w (w1.alloc (.cells #[.int .i64 0, .int .u64 0] 33)) := k1.alloc _
  replace p3 := hid p3
  replace p4 := hid p4
  clear A1 W1
  go_wp2_with fail
  go_ret2
  refine ⟨rfl, v', S', B', p1, p2, p3.out, p4.out, p5, ?_, (k0.mono (fun _ h => h.elim)).trans p7⟩
  rcases p6 with e | ⟨b, e, hb⟩
  · exact .inl e
  · exact .inr ⟨b, e, by have := k0.size; omega⟩
end
end Go.Proofs.Ytaanbonbdhjbpaa
