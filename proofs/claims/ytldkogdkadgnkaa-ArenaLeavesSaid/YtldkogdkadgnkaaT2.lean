/- Walks: how many an arena holds. -/
import Derived.Test.YtldkogdkadgnkaaT1
namespace Go.Proofs.Ytldkogdkadgnkaa
set_option linter.unusedSimpArgs false
set_option linter.unusedVariables false
open Go.RowKit Go.Shelf
attribute [local go_sem ↓] Go.wp_at_zero Go.wp_at_succ
attribute [local go_sem] Oper.semAt_some
theorem ax_fun (T : Array Value) {R : (Nat → Value) → Array Value} (h : T = R (fun i => T.toList.getD i undef)) : ∃ u, ({ tmps := T, defers := [] } : Act) = { tmps := R u, defers := [] } := ⟨_, congrArg (fun t => ({ tmps := t, defers := [] } : Act)) h⟩
theorem live_len (S : List (Int × Int × Bool)) : (liveL S).length ≤ S.length := by
  unfold liveL
  have := List.length_filterMap_le liveF S.zipIdx
  rwa [List.length_zipIdx] at this
section
variable {w w' : World} {p l c : Nat} {v : Value} {S : List (Int × Int × Bool)} {B : List Nat} {E : Nat}
def LnI (w : World) (B : Nat) (pre : List (Nat × Int × Int)) (W : World) : Prop :=
  W.heap[w.heap.size]? = some (.cells #[.int .i64 pre.length] 3 (0, 0)) ∧ Kp NoB w W ∧ B ≤ W.heap.size
def LnX (c : Code) (pre : List (Nat × Int × Int)) (W : World) : Prop := False
set_option maxRecDepth 100000 in
set_option maxHeartbeats 8000000 in
theorem len_any (h : AAt w p l v S B E) (o : AOk S B E) :
    Calls Try.prog 19 #[.pointer (some ⟨p, 0, none⟩)] w fun e w' => e = .returned (.int .i64 (liveL S).length) ∧ Kp NoB w w' := by
  have HA := hid (fun W => all_any (.pointer (some ⟨p, 0, none⟩)) _ rfl W)
  have n2 := o.n2
  have hll := live_len S
  have H2 := hid (blk_new w (.cells #[.int .i64 0] 3))
  have K0 := hid ((Kp.refl NoB w).alloc (.cells #[.int .i64 0] 3))
  have hsz : (w.alloc (.cells #[.int .i64 0] 3)).heap.size = w.heap.size + 1 := by simp
  have H0 := hid h
  have O0 := hid o
  clear h o
  refine calls_of_wp_marks Try.func19 rfl ?_
  simp only [Try.ntmps19, List.size_toArray, List.length_cons, List.length_nil, Nat.reduceAdd, Nat.reduceSub, Array.replicate_succ, Array.replicate_zero, List.push_toArray, List.append_toArray, List.nil_append, List.cons_append]
  go_wp2_with fail
  refine (HA.out _).mono ?_
  rintro e w1 ⟨rfl, hw1⟩
  generalize (w.alloc (.cells #[.int .i64 0] 3)) = W0 at *
  have hc1 : w1.heap[w.heap.size + 1]? = some (.cells #[.pointer (some ⟨p, 0, none⟩)] 28 (0, 0)) := by rw [hw1, ← hsz]; exact blk_new _ _
  have k1 : Kp NoB W0 w1 := by rw [hw1]; exact (Kp.refl _ W0).alloc _
  have K1 := hid (K0.out.trans k1)
  have G2 := hid (k1.get H2.out (fun h => h))
  have hseq := hid (all_seq (H0.out.kn K1.out) O0.out hc1)
  rw [hsz]
  have hb1 : w.heap.size + 1 < w1.heap.size := blk_lt hc1
  clear H2 K0 hw1 hsz k1 hc1
  go_wp2_with fail
  refine wp_range_listT (t := 72) (gf := 31) (lb := #[.pointer (some ⟨w.heap.size + 1, 0, none⟩)]) rfl (enters_of Try.func31 (by kernel_rfl) rfl) (encs := encL) (L := liveL S) hseq.out (fun _ => rfl)
    (LnI w w1.heap.size) LnX
    (own_of_kp (fun s W W' h k => ⟨k.get h.1 (by omega), h.2.1.trans' k (fun b hb e => by omega), Nat.le_trans h.2.2 k.size⟩))
    (fun c => own_of_kp (fun s W W' h k => h))
    ⟨G2.out, K1.out, Nat.le_refl _⟩
    (fun x a' _ => ∃ u : Nat → Value, a' = { tmps := #[u 0, u 1, .pointer (some ⟨w.heap.size, 0, none⟩), u 3, u 4, u 5, u 6, u 7, u 8, u 9], defers := [] })
    (fun x a' s W W' row h _ _ => h) ?_ ?_ ?_ ?_
  · rintro l' pre ⟨x1, x2, x3⟩ W K hI hK
    unfold encL
    replace hI := hid hI
    gi_wp2_with fail
    go_simp
    exact hK _ _ (Kp.refl _ W) hI.out (ax_fun _ (by rfl))
  · rintro l' pre ⟨x1, x2, x3⟩ a' W hl ⟨h1, h2, h3⟩ ⟨u, rfl⟩ hn
    obtain ⟨k, hpl⟩ : ∃ k, pre.length = k := ⟨_, rfl⟩
    rw [hpl] at h1 hn
    have L2 := loc1 h1
    have c1 : (0 : Int) ≤ (k : Int) := Int.natCast_nonneg _
    have c2 : k ≤ 4096 := by omega
    have KS : Kp (fun b => b = w.heap.size) W (W.setCell ⟨w.heap.size, 0, none⟩ (.int .i64 ((k : Int) + 1))) := (Kp.refl (fun b => b = w.heap.size) W).setCell (p := ⟨w.heap.size, 0, none⟩) _ (fun _ => rfl)
    have HI := hid (show LnI w w1.heap.size (pre ++ [(x1, x2, x3)]) (W.setCell ⟨w.heap.size, 0, none⟩ (.int .i64 ((k : Int) + 1))) from
      ⟨by rw [List.length_append, hpl]; exact blk_setCell h1 0 _, h2.trans' KS (fun b hb e => by omega), Nat.le_trans h3 KS.size⟩)
    have KF := hid (keepsFrom_kp (KS.mono (fun b hb => (by omega : b < w1.heap.size))))
    have KNN := hid (KT.of_kp (B := w1.heap.size) (t := 72) KS (fun b hb hB => by omega))
    replace h1 := hid h1
    replace KS := hid KS
    replace hpl := hid hpl
    gi_wp2_with fail
    exact ⟨KF.out, KNN.out, HI.out⟩
  · rintro D W hD ⟨h1, h2, h3⟩ hk
    have L2 := loc1 h1
    replace h1 := hid h1
    replace hk := hid hk
    have hll' := hid hll
    clear hll
    generalize hn : (liveL S).length = n at *
    replace hn := hid hn
    go_wp2_with fail
    have n1 : w.heap.size ≠ D := by omega
    have hK2 : (W.setCell ⟨w.heap.size, 0, none⟩ (.int .i64 n)).heap[D]? = some (.deferred (some [])) := (Below.heap_setCell _ _ _ _ (Ne.symm n1)).trans hk.out
    have g4 := blk_setCell h1.out 0 (.int .i64 n)
    have KF : Kp NoB w (W.setCell ⟨w.heap.size, 0, none⟩ (.int .i64 n)) := h2.setCell (p := ⟨w.heap.size, 0, none⟩) _ (fun h => absurd h (by simp))
    generalize (W.setCell ⟨w.heap.size, 0, none⟩ (.int .i64 n)) = W3 at *
    have L4' := loc1 ((World.putObj_heap_other n1 (o := .deferred none) (w := W3)).trans g4)
    have KP := KF.putObj (D := D) (.deferred none) (fun h => absurd h (by omega))
    refine leaves_one hK2 (v := .int .i64 n) ?_ ⟨by rw [hn.out], KP⟩
    generalize W3.putObj D (.deferred none) = W4 at *
    simp [results, Try.results19, go_sem, L4'.1]
  · rintro D c' pre W hD hp h hk
    exact h.elim
end
end Go.Proofs.Ytldkogdkadgnkaa
