/- Walks: a payload, written whole. -/
import Derived.Test.YtaanbonbdhjbpaaE18
namespace Go.Proofs.Ytaanbonbdhjbpaa
set_option linter.unusedSimpArgs false
set_option linter.unusedVariables false
open Go.RowKit
attribute [local go_sem ↓] Go.wp_at_zero Go.wp_at_succ
section
variable {w w' : World} {q p l N B0 r : Nat} {Xs : List X} {Hs : List (Int × Int)} {L : List Int}
theorem Wg.ag {i : Nat} (h : Wg w q p l N Xs B0 i r Hs) : Ag w p l N B0 r := by
  obtain ⟨v, S, B, E, lv, mv, A, I, hN, hrm, W, hH, hi', R, hG, hF⟩ := h
  refine ⟨v, S, B, E, A, I, hN, hrm, hG, ?_⟩
  rintro b (e | e | e)
  · exact hF b (.inr (.inl e))
  · exact hF b (.inr (.inr (.inl e)))
  · exact hF b (.inr (.inr (.inr (.inl e))))
def WrPost (w : World) (p l N B0 r : Nat) (L : List Int) (e : Ending) (w' : World) : Prop :=
  ∃ (v' : Value) (q : Nat) (Hs : List (Int × Int)), e = .returned (.tuple #[v', .bool true]) ∧ RowAt w' 33 eH 2 v' Hs.reverse ∧ (∀ b, v'.ownBlock = some b → w.heap.size ≤ b) ∧ Wg w' q p l N (pcs L) B0 (pcs L).length (r - (pcs L).length) Hs ∧ Kt w w' ∧ Kp (fun b => B0 ≤ b) w w'
set_option maxRecDepth 100000 in
set_option maxHeartbeats 4000000 in
theorem written_go (h : Ag w p l N B0 r) (hB : B0 ≤ w.heap.size) {u : Value} (hu : Sg w eB u L) (hl : L.length ≤ 256) (hr : (pcs L).length ≤ r) : Calls Try.prog 28 #[.pointer (some ⟨p, 0, none⟩), u] w (WrPost w p l N B0 r L) := by
  have HW := hid (ag_write h hB hu hl)
  have hnl : (pcs L).length ≤ 16 := by rw [pcs_len]; unfold need; omega
  obtain ⟨n, hn⟩ : ∃ n, n = (pcs L).length := ⟨_, rfl⟩
  rw [← hn] at hnl hr
  replace hn := hid hn
  clear h
  go_enter Try.func28, Try.ntmps28
  go_wp2_with fail
  refine HW.out.mono ?_
  rintro e w1 ⟨q, rfl, G0, k1⟩
  replace G0 := hid G0
  clear HW
  go_wp2_with fail
  go_loopw [8] (fun i V => ∃ (j : Nat) (Hs : List (Int × Int)), j ≤ n ∧ i = .int .i64 j ∧ Wg V q p l N (pcs L) B0 j (r - j) Hs ∧ Kt w1 V ∧ Kp (fun b => B0 ≤ b) w1 V) (fun i _ => n - (intOf i).toNat)
  case atStart => exact ⟨0, [], Nat.zero_le _, rfl, G0.out, Kt.refl _, Kp.refl _ _⟩
  case round =>
    obtain ⟨j, Hs, hj, rfl, G, kt, kk⟩ := hrel
    have HNd : Hid (Calls Try.prog 18 #[.pointer (some ⟨q, 0, none⟩)] wr fun e w' => e = .returned (.int .i64 ((n : Int) - j)) ∧ wr = w') := by rw [hn.out]; exact wg_need G
    have c1 : (0 : Int) ≤ (j : Int) := Int.natCast_nonneg _
    have c20 : (j : Int) < 20 := by omega
    have hBr : B0 ≤ wr.heap.size := Nat.le_trans hB (Nat.le_trans k1.size kk.size)
    by_cases hlt : j < n
    · have c2 : (0 : Int) < (n : Int) - j := by omega
      have HS := hid (wg_step G (by rw [← hn.out]; exact hlt) (by rw [← hn.out]; omega) (by omega) hBr)
      clear G
      go_wp2_with fail
      refine HNd.out.mono ?_
      rintro e v1 ⟨rfl, rfl⟩
      go_wp2_with fail
      refine HS.out.mono ?_
      rintro e v2 ⟨rfl, ⟨hh, G2⟩, kt2, kk2⟩
      rw [show r - j - 1 = r - (j + 1) from by omega] at G2
      replace G2 := hid G2
      go_wp2_with fail
      go_roundw
      case rel => exact ⟨j + 1, _, by omega, by go_num, G2.out, kt.trans kt2, kk.trans kk2⟩
      case measure => simp [intOf]; omega
    · obtain rfl : j = n := by omega
      have c2 : ¬ (0 : Int) < (j : Int) - j := by omega
      have G' : Wg wr q p l N (pcs L) B0 (pcs L).length (r - (pcs L).length) Hs := by rw [← hn.out]; exact G
      have HM := hid (wg_made G' (by rw [← hn.out]; omega))
      replace G' := hid G'
      clear G
      go_wp2_with fail
      refine HNd.out.mono ?_
      rintro e v1 ⟨rfl, rfl⟩
      go_wp2_with fail
      refine HM.out.mono ?_
      rintro e v1 ⟨v', rfl, RL, nL, x1⟩
      go_wp2_with fail
      go_ret2
      exact ⟨_, q, Hs, rfl, RL, fun b hb => Nat.le_trans (Nat.le_trans k1.size kk.size) (nL b hb), G'.out.kn x1, (Kt.kn k1).trans (kt.trans (Kt.kn x1)), (k1.mono (fun _ h => h.elim)).trans (kk.trans (x1.mono (fun _ h => h.elim)))⟩
end
end Go.Proofs.Ytaanbonbdhjbpaa
