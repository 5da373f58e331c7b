/- Walks: whose serial a handle is. -/
import Derived.Test.YtbgojgnbbkgkgaaS15
namespace Go.Proofs.Ytbgojgnbbkgkgaa
set_option linter.unusedSimpArgs false
set_option linter.unusedVariables false
open Go.RowKit Go.Shelf
attribute [local go_sem ↓] Go.wp_at_zero Go.wp_at_succ
attribute [local go_sem] Oper.semAt_some
def ofR (L : List (Int × Int × Int)) (i g : Int) : Int × Bool := match L.find? (fun x => x.2 == (i, g)) with | some x => (x.1, true) | none => (0, false)
def OfI (w : World) (B : Nat) (i g : Int) (pre : List (Int × Int × Int)) (W : World) : Prop :=
  W.heap[w.heap.size]? = some (.cells #[.int .i64 i, .int .u64 g] 25 (0, 0)) ∧ W.heap[w.heap.size + 1]? = some (.cells #[.int .i64 0] 22 (0, 0)) ∧ W.heap[w.heap.size + 1 + 1]? = some (.cells #[.bool false] 4 (0, 0)) ∧ Kp NoB w W ∧ (∀ x ∈ pre, x.2 ≠ (i, g)) ∧ B ≤ W.heap.size
def OfX (w : World) (i g : Int) (c : Code) (pre : List (Int × Int × Int)) (W : World) : Prop :=
  c = .ret ∧ ∃ ys x, pre = ys ++ [x] ∧ (∀ y ∈ ys, y.2 ≠ (i, g)) ∧ x.2 = (i, g) ∧ W.heap[w.heap.size + 1]? = some (.cells #[.int .i64 x.1] 22 (0, 0)) ∧ W.heap[w.heap.size + 1 + 1]? = some (.cells #[.bool true] 4 (0, 0)) ∧ Kp NoB w W
section
variable {w w' : World} {p m c room : Nat} {M : List (Int × Value)}
set_option maxRecDepth 100000 in
set_option maxHeartbeats 8000000 in
theorem of_any (T : TAt w p m M room) (o : TOk M room) (i g : Int) :
    Calls Try.prog 25 #[.pointer (some ⟨p, 0, none⟩), hV i g] w fun e w' => e = .returned (.tuple #[.int .i64 (ofR (rowsL M) i g).1, .bool (ofR (rowsL M) i g).2]) ∧ Kp NoB w w' := by
  have HA := hid (fun W => all_any (.pointer (some ⟨p, 0, none⟩)) _ rfl W)
  have H3 := hid (show (((w.alloc (.cells #[.int .i64 i, .int .u64 g] 25)).alloc (.cells #[.int .i64 0] 22)).alloc (.cells #[.bool false] 4)).heap[w.heap.size]? = some (.cells #[.int .i64 i, .int .u64 g] 25 (0, 0)) from blk_alloc (blk_alloc (blk_new _ _)))
  have H4 := hid (show (((w.alloc (.cells #[.int .i64 i, .int .u64 g] 25)).alloc (.cells #[.int .i64 0] 22)).alloc (.cells #[.bool false] 4)).heap[w.heap.size + 1]? = some (.cells #[.int .i64 0] 22 (0, 0)) from blk_alloc (blk_new' _ _ (by simp)))
  have H5 := hid (show (((w.alloc (.cells #[.int .i64 i, .int .u64 g] 25)).alloc (.cells #[.int .i64 0] 22)).alloc (.cells #[.bool false] 4)).heap[w.heap.size + 1 + 1]? = some (.cells #[.bool false] 4 (0, 0)) from blk_new' _ _ (by simp))
  have K0 := hid ((((Kp.refl NoB w).alloc (.cells #[.int .i64 i, .int .u64 g] 25)).alloc (.cells #[.int .i64 0] 22)).alloc (.cells #[.bool false] 4))
  have hsz : (((w.alloc (.cells #[.int .i64 i, .int .u64 g] 25)).alloc (.cells #[.int .i64 0] 22)).alloc (.cells #[.bool false] 4)).heap.size = w.heap.size + 3 := by simp
  unfold hV
  replace T := hid T
  refine calls_of_wp_marks Try.func25 rfl ?_
  simp only [Try.ntmps25, List.size_toArray, List.length_cons, List.length_nil, Nat.reduceAdd, Nat.reduceSub, Array.replicate_succ, Array.replicate_zero, List.push_toArray, List.append_toArray, List.nil_append, List.cons_append]
  go_wp2_with fail
  refine (HA.out _).mono ?_
  rintro e w1 ⟨rfl, hw1⟩
  generalize (((w.alloc (.cells #[.int .i64 i, .int .u64 g] 25)).alloc (.cells #[.int .i64 0] 22)).alloc (.cells #[.bool false] 4)) = W0 at *
  have hc1 : w1.heap[w.heap.size + 3]? = some (.cells #[.pointer (some ⟨p, 0, none⟩)] 26 (0, 0)) := by rw [hw1, ← hsz]; exact blk_new _ _
  have k1 : Kp NoB W0 w1 := by rw [hw1]; exact (Kp.refl _ W0).alloc _
  have hs1 : w1.heap.size = w.heap.size + 4 := by rw [hw1]; simp [hsz]
  have hseq := all_seq (T.out.kp (K0.out.trans k1) (fun h => h) (fun h => h)) o hc1
  have G3 := k1.get H3.out (fun h => h)
  have G4 := k1.get H4.out (fun h => h)
  have G5 := k1.get H5.out (fun h => h)
  have K1 := K0.out.trans k1
  rw [hsz]
  have hs2 : w.heap.size + 3 < w1.heap.size := by omega
  clear H3 H4 H5 K0 hw1 hsz hc1 k1 hs1
  go_wp2_with fail
  have hB : ∀ k, k < 3 → ¬ w1.heap.size ≤ w.heap.size + k := fun k hk => by omega
  refine wp_range_list (gf := 31) (lb := #[.pointer (some ⟨w.heap.size + 3, 0, none⟩)]) rfl (enters_of Try.func31 (by kernel_rfl) rfl) (encs := encR) (L := rowsL M) (by rw [rowsL_len]; exact hseq) (fun _ => rfl)
    (OfI w w1.heap.size i g) (OfX w i g)
    (own_of_kp (fun s W W' h k => ⟨k.get h.1 (by omega), k.get h.2.1 (by omega), k.get h.2.2.1 (by omega), h.2.2.2.1.trans' k (fun b hb e => by omega), h.2.2.2.2.1, Nat.le_trans h.2.2.2.2.2 k.size⟩))
    (fun c => own_of_kp (fun s W W' h k => by
      obtain ⟨h0, ys, x, h1, h2, h3, h4, h5, h6⟩ := h
      exact ⟨h0, ys, x, h1, h2, h3, k.get h4 (by omega), k.get h5 (by omega), h6.trans' k (fun b hb e => by omega)⟩))
    ⟨G3, G4, G5, K1, by simp, Nat.le_refl _⟩
    (fun x a' W => ∃ b7, w1.heap.size ≤ b7 ∧ W.heap[b7]? = some (.cells #[.int .i64 x.2.1, .int .u64 x.2.2] 25 (0, 0)) ∧ a' = { tmps := #[.pointer (some ⟨p, 0, none⟩), .agg #[.int .i64 i, .int .u64 g], undef, .pointer (some ⟨w.heap.size, 0, none⟩), .pointer (some ⟨w.heap.size + 1, 0, none⟩), .pointer (some ⟨w.heap.size + 1 + 1, 0, none⟩), .int .i64 x.1, .pointer (some ⟨b7, 0, none⟩), .pointer (some ⟨p, 0, none⟩), .func (.func 31) #[] #[.pointer (some ⟨w.heap.size + 3, 0, none⟩)], .int .i64 x.1, .agg #[.int .i64 x.2.1, .int .u64 x.2.2], undef, undef, undef, undef], defers := [] })
    ?_ ?_ ?_ ?_ ?_
  · -- the row's box is the round's own
    rintro x a' s W W' row ⟨b7, h1, h2, h3⟩ hg hr
    exact ⟨b7, h1, grown_get hg h2 (fun e => by obtain ⟨_, o, ho, hc⟩ := hr _ e; rw [h2] at ho; injection ho with ho; subst ho; cases hc), h3⟩
  · -- the loop's variables
    rintro l pre ⟨x1, x2, x3⟩ W K ⟨h1, h2, h3, h4, h5, h6⟩ hK
    unfold encR hV
    have hWs := h4.size
    have hnb := hid (blk_new W (.cells #[.int .i64 0, .int .u64 0] 25))
    replace h1 := hid h1
    replace h2 := hid h2
    replace h3 := hid h3
    gi_wp2_with fail
    have KW : Kp NoB W (W.alloc (.cells #[.int .i64 x2, .int .u64 x3] 25)) := (Kp.refl _ W).alloc _
    exact hK _ _ (KW.mono (fun _ h => h.elim)) ⟨KW.get h1.out (fun h => h), KW.get h2.out (fun h => h), KW.get h3.out (fun h => h), h4.trans KW, h5, Nat.le_trans h6 KW.size⟩ ⟨W.heap.size, h6, blk_new W _, rfl⟩
  · -- a round
    rintro l pre ⟨x1, x2, x3⟩ a' W hl ⟨h1, h2, h3, h4, h5, h6⟩ ⟨b7, hb7, h7, rfl⟩ hn
    have L3 := loc2 h1
    have L4 := loc1 h2
    have L5 := loc1 h3
    have L7 := loc2 h7
    dsimp only at L7
    replace h1 := hid h1
    replace h2 := hid h2
    replace h3 := hid h3
    replace h5 := hid h5
    replace h7 := hid h7
    replace G3 := hid G3
    replace G4 := hid G4
    replace G5 := hid G5
    have hnorm : (x2 ≠ i ∨ x3 ≠ g) → KeepsFrom w1.heap.size W W ∧ KN w1.heap.size W W ∧ OfI w w1.heap.size i g (pre ++ [(x1, x2, x3)]) W := fun hx =>
      ⟨KeepsFrom.refl _ _, KN.refl _ _, h1.out, h2.out, h3.out, h4, fun y hy => by
        rcases List.mem_append.1 hy with h | h
        · exact h5.out y h
        · rw [List.mem_singleton] at h; subst h
          intro e; injection e with e1 e2
          rcases hx with h | h
          · exact h e1
          · exact h e2, h6⟩
    replace hnorm := hid hnorm
    by_cases hx1 : x2 = i
    · subst hx1
      by_cases hx2 : x3 = g
      · subst hx2
        clear hnorm
        gi_wp2_with fail
        have g4 := blk_far (blk_setCell h2.out 0 (.int .i64 x1)) (a := ⟨w.heap.size + 1 + 1, 0, none⟩) (.bool true) (by simp)
        have g5 := blk_setCell (blk_far h3.out (a := ⟨w.heap.size + 1, 0, none⟩) (.int .i64 x1) (by simp)) 0 (.bool true)
        have KS : Kp (fun b => b < w1.heap.size ∧ w.heap.size ≤ b) W ((W.setCell ⟨w.heap.size + 1, 0, none⟩ (.int .i64 x1)).setCell ⟨w.heap.size + 1 + 1, 0, none⟩ (.bool true)) :=
          ((Kp.refl _ W).setCell _ (fun _ => by show w.heap.size + 1 < w1.heap.size ∧ w.heap.size ≤ w.heap.size + 1; omega)).setCell _ (fun _ => by show w.heap.size + 1 + 1 < w1.heap.size ∧ w.heap.size ≤ w.heap.size + 1 + 1; omega)
        exact ⟨keepsFrom_kp (KS.mono (fun b hb => by omega)), rfl, pre, (x1, x2, x3), rfl, h5.out, rfl, g4, g5, h4.trans' KS (fun b hb e => by omega)⟩
      · have e2 : (x3 == g) = false := by simpa using hx2
        have hst := hid (hnorm.out (.inr hx2))
        clear hx2 hnorm
        gi_wp2_with fail
        exact hst.out
    · have e1 : (x2 == i) = false := by simpa using hx1
      have hst := hid (hnorm.out (.inl hx1))
      clear hx1 hnorm
      gi_wp2_with fail
      exact hst.out
  · -- all have come
    rintro D W hD ⟨h1, h2, h3, h4, h5, h6⟩ hk
    have L4 := loc1 h2
    have L5 := loc1 h3
    replace h2 := hid h2
    replace h3 := hid h3
    replace hk := hid hk
    replace G3 := hid G3
    replace G4 := hid G4
    replace G5 := hid G5
    have hof : ofR (rowsL M) i g = (0, false) := by
      unfold ofR
      rw [List.find?_eq_none.2 (fun x hx => by simpa using h5 x hx)]
    replace hof := hid hof
    replace h1 := hid h1
    clear h5
    go_wp2_with fail
    have n1 : w.heap.size + 1 ≠ D := by omega
    have n2 : w.heap.size + 1 + 1 ≠ D := by omega
    have hK2 : ((W.setCell ⟨w.heap.size + 1, 0, none⟩ (.int .i64 0)).setCell ⟨w.heap.size + 1 + 1, 0, none⟩ (.bool false)).heap[D]? = some (.deferred (some [])) :=
      (Below.heap_setCell _ _ _ _ (Ne.symm n2)).trans ((Below.heap_setCell _ _ _ _ (Ne.symm n1)).trans hk.out)
    have g4 := blk_far (blk_setCell h2.out 0 (.int .i64 0)) (a := ⟨w.heap.size + 1 + 1, 0, none⟩) (.bool false) (by simp)
    have g5 := blk_setCell (blk_far h3.out (a := ⟨w.heap.size + 1, 0, none⟩) (.int .i64 0) (by simp)) 0 (.bool false)
    have KF : Kp NoB w ((W.setCell ⟨w.heap.size + 1, 0, none⟩ (.int .i64 0)).setCell ⟨w.heap.size + 1 + 1, 0, none⟩ (.bool false)) :=
      (h4.setCell (p := ⟨w.heap.size + 1, 0, none⟩) _ (fun h => absurd h (by simp))).setCell (p := ⟨w.heap.size + 1 + 1, 0, none⟩) _ (fun h => absurd h (by simp; omega))
    generalize ((W.setCell ⟨w.heap.size + 1, 0, none⟩ (.int .i64 0)).setCell ⟨w.heap.size + 1 + 1, 0, none⟩ (.bool false)) = W3 at *
    have L4' := loc1 ((World.putObj_heap_other n1 (o := .deferred none) (w := W3)).trans g4)
    have L5' := loc1 ((World.putObj_heap_other n2 (o := .deferred none) (w := W3)).trans g5)
    have KP := KF.putObj (D := D) (.deferred none) (fun h => absurd h (by omega))
    refine leaves_one hK2 (v := .tuple #[.int .i64 0, .bool false]) ?_ ⟨by rw [hof.out], KP⟩
    generalize W3.putObj D (.deferred none) = W4 at *
    simp [results, Try.results25, go_sem, L4'.1, L5'.1]
  · -- left early
    rintro D c' pre W hD hp ⟨rfl, ys, x, h1, h2, h3, h4, h5, h6⟩ hk
    have hof : ofR (rowsL M) i g = (x.1, true) := by
      obtain ⟨t, ht⟩ := hp
      unfold ofR
      rw [← ht, h1, List.append_assoc, List.find?_append, List.find?_eq_none.2 (fun y hy => by simpa using h2 y hy)]
      simp [h3]
    replace hof := hid hof
    have n1 : w.heap.size + 1 ≠ D := by omega
    have n2 : w.heap.size + 1 + 1 ≠ D := by omega
    have L4' := loc1 ((World.putObj_heap_other n1 (o := .deferred none) (w := W)).trans h4)
    have L5' := loc1 ((World.putObj_heap_other n2 (o := .deferred none) (w := W)).trans h5)
    have KP := h6.putObj (D := D) (.deferred none) (fun h => absurd h (by omega))
    replace h4 := hid h4
    replace h5 := hid h5
    replace hk := hid hk
    replace G3 := hid G3
    replace G4 := hid G4
    replace G5 := hid G5
    go_wp2_with fail
    refine leaves_one hk.out (v := .tuple #[.int .i64 x.1, .bool true]) ?_ ⟨by rw [hof.out], KP⟩
    generalize W.putObj D (.deferred none) = W4 at *
    simp [results, Try.results25, go_sem, L4'.1, L5'.1]
end
end Go.Proofs.Ytbgojgnbbkgkgaa
