/- Walk: the chapter's rows. -/
import Derived.Test.YtaanbonbdhjbpaaE9
namespace Go.Proofs.Ytaanbonbdhjbpaa
set_option linter.unusedSimpArgs false
set_option linter.unusedVariables false
open Go.RowKit
attribute [local go_sem ↓] Go.wp_at_zero Go.wp_at_succ
theorem i5 : (Try.prog.info? 5).map (fun i => (i.zero, i.size, i.bytes)) = some (some (.int .u8 0), 1, 1) := by kernel_rfl
theorem need_is (n m : Int) (h : needI n = m) (hn : -9223372036854775808 ≤ n ∧ n ≤ 9223372036854775807) (w : World) : Calls Try.prog 10 #[.int .i64 n] w fun e w' => e = .returned (.int .i64 m) ∧ w = w' := by
  subst h; exact need_any n hn w
theorem kn_new {w w1 w2 : World} (h : Kp NoB w w1) {B0 : Nat} (k : Kp (fun b => B0 ≤ b) w1 w2) (hB : w.heap.size ≤ B0) : Kp NoB w w2 := h.trans' k (fun b hb hf => absurd hf (by omega))
theorem wg_zero {w : World} {q p l : Nat} {v lv : Value} {S : List Sl3} {B : List Nat} {E N B0 r : Nat} {Xs : List X} (A : AAt w p l v S B E) (I : AInv S B E) (hN : S.length = N) (hr : room S B E = r) (W : WAt w q p lv (.slice none 0 0) false Xs []) (hG : Gok S)
    (hF : ∀ b, WF q p l v (.slice none 0 0) b → B0 ≤ b) : Wg w q p l N Xs B0 0 r [] :=
  ⟨v, S, B, E, lv, _, A, I, hN, hr, by rw [Nat.sub_zero, List.take_length]; exact W, rfl, Nat.zero_le _, Wr.nil _ _, hG, hF⟩
set_option maxRecDepth 100000 in
set_option maxHeartbeats 4000000 in
theorem known_any (w : World) : Calls Try.prog 8 #[] w fun e w' => e = .returned (.bool true) ∧ Kp NoB w w' := by
  have HN := hid (new_any 1 (by omega) (by omega) w)
  have n0 := hid (need_is 0 0 (by decide) (by omega))
  have n1 := hid (need_is 16 1 (by decide) (by omega))
  have n2 := hid (need_is 17 2 (by decide) (by omega))
  have n3 := hid (need_is 257 0 (by decide) (by omega))
  have hmk := fun w => run_make_rows (P := Try.prog) eB_len (by omega) (0 : Int) 22 5 _ 1 sl22 i5 rfl 17 (by omega) (by omega) w
  replace hmk : ∀ w, (Instr.makeSlice 22 (.int .i64 17) (.int .i64 17)).run Try.prog w = .ok (.slice (some ⟨w.heap.size, 0, none⟩) 17 17) (w.alloc (.cells (rows eB (List.replicate 17 0)) 5)) := hmk
  go_enter Try.func8, Try.ntmps8
  go_wp2_with fail
  refine HN.out.mono ?_
  rintro e w1 ⟨p, l, rfl, A1, hp, hl, k1⟩
  have R1 : RowAt (w1.alloc (.cells (rows eB (List.replicate 17 0)) 5)) 5 eB 1 (.slice (some ⟨w1.heap.size, 0, none⟩) 17 17) (List.replicate 17 0) := RowAt.new eB_len w1 5 (List.replicate 17 0) (by simp [maxLen])
  have A2 := A1.alloc (.cells (rows eB (List.replicate 17 0)) 5)
  have HW := hid (write_go A2 (by simp) (R1.sg eB_len (by omega)) (by simp))
  replace A2 := hid A2
  clear A1 R1
  go_wp2_with fail
  refine HW.out.mono ?_
  rintro e w2 ⟨q, lv, rfl, W2, hq, hlv, k2⟩
  have k02 : Kp NoB w w2 := (k1.alloc _).trans k2
  have hq' : w.heap.size ≤ q := Nat.le_trans (k1.alloc _).size hq
  have G0 := wg_zero (B0 := w.heap.size) (N := 1) (r := 1) (A2.out.kn k2) (AInv.new 1 (by omega) (by omega)) rfl rfl W2 (Gok.new 1) (by
    rintro b (rfl | rfl | rfl | e | e)
    · exact hq'
    · exact hp
    · exact hl
    · cases e
    · cases e)
  have hX : (pcs (List.replicate 17 0)).length = 2 := by rw [pcs_len]; rfl
  have HS := hid (wg_step G0 (by omega) (by omega) (by decide) k02.size)
  clear A2 W2 HW
  go_wp2_with fail
  refine HS.out.mono ?_
  rintro e w3 ⟨rfl, ⟨hh, G1⟩, _, k3⟩
  have k03 := kn_new k02 k3 (Nat.le_refl _)
  have HS2 := hid (wg_full G1 (by omega) (by omega) k03.size)
  rw [hX]
  replace G1 := hid G1
  replace hX := hid hX
  clear G0 HS
  go_wp2_with fail
  refine HS2.out.mono ?_
  rintro e w4 ⟨rfl, G2, _, k4⟩
  have k04 := kn_new k03 k4 (Nat.le_refl _)
  have HR := hid (wo_room G2)
  replace G2 := hid G2
  go_wp2_with fail
  refine (n0.out _).mono ?_
  rintro e wx ⟨rfl, rfl⟩
  go_wp2_with fail
  refine (n1.out _).mono ?_
  rintro e wx ⟨rfl, rfl⟩
  go_wp2_with fail
  refine (n2.out _).mono ?_
  rintro e wx ⟨rfl, rfl⟩
  go_wp2_with fail
  refine (n3.out _).mono ?_
  rintro e wx ⟨rfl, rfl⟩
  go_wp2_with fail
  refine HR.out.mono ?_
  rintro e w5 ⟨rfl, k5⟩
  go_wp2_with fail
  go_ret
  exact ⟨rfl, k04.trans k5⟩
end Go.Proofs.Ytaanbonbdhjbpaa
