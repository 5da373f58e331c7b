/- Walks: what is so stays so. -/
import Derived.Test.YtackanpobfaglaaRRRRL12
namespace Go.Proofs.YtackanpobfaglaaRRRR
set_option linter.unusedSimpArgs false
set_option linter.unusedVariables false
open Go.RowKit
attribute [local go_sem ↓] Go.wp_at_zero Go.wp_at_succ
theorem of_later {r z : Bool} {x lo hi : Int} (h : lo ≤ hi) : ofV r z x lo = ofV r z x hi ∨ (ofV r z x lo = 1 ∧ ofV r z x hi = 3) := by
  unfold ofV
  cases z <;> cases r <;> simp
  by_cases h0 : x = 0
  · simp [h0]
  · by_cases h1 : x ≤ lo
    · have h2 : x ≤ hi := by omega
      simp [h0, h1, h2]
    · by_cases h2 : x ≤ hi
      · simp [h0, h1, h2] <;> omega
      · simp [h0, h1, h2]
/-- the four ways of the last test -/
theorem ways (r z : Bool) {x : Int} (hx : 0 ≤ x) : x = 0 ∨ (x ≠ 0 ∧ 1099511627776 < x) ∨ (x ≠ 0 ∧ x ≤ 1099511627776 ∧ z = true) ∨ (x ≠ 0 ∧ x ≤ 1099511627776 ∧ z = false ∧ r = true) ∨ (x ≠ 0 ∧ x ≤ 1099511627776 ∧ z = false ∧ r = false) := by
  cases z <;> cases r <;> simp <;> omega
section
variable {w w' : World} {c0 c1 c2 c3 c4 c5 c9 c10 c11 c12 c13 c14 c15 c16 c17 c18 c19 c20 c21 : Value} {r z : Bool} {x a b : Int} {A : Array Value}
set_option maxRecDepth 100000 in
set_option maxHeartbeats 8000000 in
theorem stays_le (hA : A = #[c0, c1, c2, c3, c4, c5, .bool r, .bool z, .int .u64 x, c9, c10, c11, c12, c13, c14, c15, c16, c17, c18, c19, c20, c21]) (hx : 0 ≤ x ∧ x < 18446744073709551616) (hab : a ≤ b) (w : World) : Calls Try.prog 4 #[.agg A, .int .u64 a, .int .u64 b] w fun e w' => e = .returned (.bool true) ∧ Kp NoB w w' := by
  have HG := hid (gone_A hA hx)
  have HK := hid known_any
  have hAs := hid (rsize hA)
  have hA6 := hid (show A[6]? = some (.bool r) from by rw [hA]; rfl)
  have hA7 := hid (show A[7]? = some (.bool z) from by rw [hA]; rfl)
  have hA8 := hid (show A[8]? = some (.int .u64 x) from by rw [hA]; rfl)
  have hb := hid (blk_new w (.cells A 36))
  have HO : ∀ now, Hid (∀ w, Calls Try.prog 6 #[.agg A, .int .u64 now] w fun e w' => e = .returned (.int .i64 (ofV r z x now)) ∧ Kp NoB w w') := fun now => hid (of_A hA now)
  have HO1 := HO a
  have HO2 := HO b
  have HO3 := HO (goneV x)
  have hlt := of_later (r := r) (z := z) (x := x) (lo := a) (hi := b) (by omega)
  have hway := ways r z hx.1
  have hxx := hid hx
  clear hA HO hx
  generalize he1 : ofV r z x a = e1 at *
  generalize he2 : ofV r z x b = e2 at *
  clear he1 he2
  rcases hlt with rfl | ⟨rfl, rfl⟩
  all_goals
    go_enter Try.func4, Try.ntmps4
    go_wp2_with fail

  ·
    refine wp_region_G (fun W => W.heap[w.heap.size]? = some (.cells A 36 (0, 0))) [(0, .at_), (1, .at_), (3, .held), (4, .held), (2, .eff), (5, .eff), (6, .at_), (7, .at_)] ?L1 (by kernel_rfl) (by kernel_rfl) ?hL1 (hb.out) ?hG1
    case hL1 => simp only [pickOps, List.map_cons, List.map_nil, List.getD_cons_zero, List.getD_cons_succ]; rfl
    refine wpG_at (v := .agg A) (by rfl) (exec_load 36 _ rfl w.heap.size rfl 36 A (0, 0) _ hb.out Try.underlying36 rfl (i36.trans (by rw [hAs.out]))) ?_
    repeat (first | (refine wpG_at (v := ?_) (by rfl) ?_ ?_; rotate_left; (focus (first | (go_simp; with_reducible rfl) | (go_simp; done))); simp only [Act.put, List.setIfInBounds_toArray, List.set_cons_zero, List.set_cons_succ]) | (refine wpG_at_skip (by rfl) ?_; simp only [Act.put, List.setIfInBounds_toArray, List.set_cons_zero, List.set_cons_succ]) | (refine wpG_held_skip (by rfl) ?_; simp only [Act.put, List.setIfInBounds_toArray, List.set_cons_zero, List.set_cons_succ]) | (refine wpG_held (v := ?_) (by rfl) ?_ ?_; rotate_left; (focus (intro w' hSw; (try dsimp only at hSw); go_split_ands; first | (go_simp; with_reducible rfl) | (go_simp; done))); simp only [Act.put, List.setIfInBounds_toArray, List.set_cons_zero, List.set_cons_succ]))
    refine wpG_held (v := .agg A) (by rfl) (fun W hS => exec_load 36 _ rfl w.heap.size rfl 36 A (0, 0) _ hS Try.underlying36 rfl (i36.trans (by rw [hAs.out]))) ?_
    repeat (first | (refine wpG_at (v := ?_) (by rfl) ?_ ?_; rotate_left; (focus (first | (go_simp; with_reducible rfl) | (go_simp; done))); simp only [Act.put, List.setIfInBounds_toArray, List.set_cons_zero, List.set_cons_succ]) | (refine wpG_at_skip (by rfl) ?_; simp only [Act.put, List.setIfInBounds_toArray, List.set_cons_zero, List.set_cons_succ]) | (refine wpG_held_skip (by rfl) ?_; simp only [Act.put, List.setIfInBounds_toArray, List.set_cons_zero, List.set_cons_succ]) | (refine wpG_held (v := ?_) (by rfl) ?_ ?_; rotate_left; (focus (intro w' hSw; (try dsimp only at hSw); go_split_ands; first | (go_simp; with_reducible rfl) | (go_simp; done))); simp only [Act.put, List.setIfInBounds_toArray, List.set_cons_zero, List.set_cons_succ]))
    refine wpG_eff (by rfl) (fun K hK => ?_)
    go_simp
    refine (HO1.out _).mono ?_
    rintro e W2 ⟨rfl, k1⟩
    have hb2 := hid (k1.get (blk_drew hb.out) (fun h => h))
    have K2 := hid (((Kp.refl NoB w).alloc (.cells A 36)).drew.trans k1)
    refine hK _ _ hb2.out ?_
    clear hK K k1 HO1
    repeat (first | (refine wpG_at (v := ?_) (by rfl) ?_ ?_; rotate_left; (focus (first | (go_simp; with_reducible rfl) | (go_simp; done))); simp only [Act.put, List.setIfInBounds_toArray, List.set_cons_zero, List.set_cons_succ]) | (refine wpG_at_skip (by rfl) ?_; simp only [Act.put, List.setIfInBounds_toArray, List.set_cons_zero, List.set_cons_succ]) | (refine wpG_held_skip (by rfl) ?_; simp only [Act.put, List.setIfInBounds_toArray, List.set_cons_zero, List.set_cons_succ]) | (refine wpG_held (v := ?_) (by rfl) ?_ ?_; rotate_left; (focus (intro w' hSw; (try dsimp only at hSw); go_split_ands; first | (go_simp; with_reducible rfl) | (go_simp; done))); simp only [Act.put, List.setIfInBounds_toArray, List.set_cons_zero, List.set_cons_succ]))
    refine wpG_eff (by rfl) (fun K hK => ?_)
    go_simp
    refine (HO2.out _).mono ?_
    rintro e W3 ⟨rfl, k1⟩
    have hb3 := hid (k1.get hb2.out (fun h => h))
    have K3 := hid (K2.out.trans k1)
    refine hK _ _ hb3.out ?_
    clear hK K k1 hb2 K2 HO2
    repeat (first | (refine wpG_at (v := ?_) (by rfl) ?_ ?_; rotate_left; (focus (first | (go_simp; with_reducible rfl) | (go_simp; done))); simp only [Act.put, List.setIfInBounds_toArray, List.set_cons_zero, List.set_cons_succ]) | (refine wpG_at_skip (by rfl) ?_; simp only [Act.put, List.setIfInBounds_toArray, List.set_cons_zero, List.set_cons_succ]) | (refine wpG_held_skip (by rfl) ?_; simp only [Act.put, List.setIfInBounds_toArray, List.set_cons_zero, List.set_cons_succ]) | (refine wpG_held (v := ?_) (by rfl) ?_ ?_; rotate_left; (focus (intro w' hSw; (try dsimp only at hSw); go_split_ands; first | (go_simp; with_reducible rfl) | (go_simp; done))); simp only [Act.put, List.setIfInBounds_toArray, List.set_cons_zero, List.set_cons_succ]))
    refine wpG_nil (NoPanic.normal ?_)
    go_wp2_with (first | (refine wpList_loadW rfl 36 _ rfl w.heap.size rfl 36 A (0, 0) _ hb3.out Try.underlying36 rfl (i36.trans (by rw [hAs.out])) ?_))
    refine (HG.out _).mono ?_
    rintro e W4 ⟨rfl, k1⟩
    have hb4 := hid (k1.get hb3.out (fun h => h))
    have K4 := hid (K3.out.trans k1)
    clear k1 hb3 K3 hb HG
    have L4 : W4.cell? ⟨w.heap.size, 8, none⟩ = some (.int .u64 x) ∧ W4.cell? ⟨w.heap.size, 7, none⟩ = some (.bool z) ∧ W4.cell? ⟨w.heap.size, 6, none⟩ = some (.bool r) := ⟨by rw [cell_of hb4.out]; exact hA8.out, by rw [cell_of hb4.out]; exact hA7.out, by rw [cell_of hb4.out]; exact hA6.out⟩
    clear hA6 hA7 hA8
    rcases hway with rfl | ⟨n0, n1⟩ | ⟨n0, n1, rfl⟩ | ⟨n0, n1, rfl, rfl⟩ | ⟨n0, n1, rfl, rfl⟩
    · clear HO3
      go_wp2_with fail
      refine (HK.out _).mono ?_
      rintro e W5 ⟨rfl, k1⟩
      go_wp2_with fail
      go_ret
      exact ⟨rfl, K4.out.trans k1⟩
    · clear HO3
      have hb0 : (x != 0) = true := by simpa using n0
      have hg : ¬ x ≤ 1099511627776 := by omega
      go_wp2_with fail
      refine (HK.out _).mono ?_
      rintro e W5 ⟨rfl, k1⟩
      go_wp2_with fail
      go_ret
      exact ⟨rfl, K4.out.trans k1⟩
    · have hb0 : (x != 0) = true := by simpa using n0
      have hg : goneV x = x + 5 := by rw [goneV, if_neg n0, if_neg (by omega)]
      rw [hg] at HO3 ⊢
      have g1 : ¬ x + 5 < x := by omega
      have g2 : x + 5 - x = 5 := by omega
      have g3 : IntKind.u64.wrap 5 = 5 := by decide
      clear HO3
      go_wp2_with fail
      refine (HK.out _).mono ?_
      rintro e W5 ⟨rfl, k1⟩
      go_wp2_with fail
      go_ret
      exact ⟨rfl, K4.out.trans k1⟩
    · have hb0 : (x != 0) = true := by simpa using n0
      have hg : goneV x = x + 5 := by rw [goneV, if_neg n0, if_neg (by omega)]
      rw [hg] at HO3 ⊢
      have g1 : ¬ x + 5 < x := by omega
      have g2 : x + 5 - x = 5 := by omega
      have g3 : IntKind.u64.wrap 5 = 5 := by decide
      clear HO3
      go_wp2_with fail
      refine (HK.out _).mono ?_
      rintro e W5 ⟨rfl, k1⟩
      go_wp2_with fail
      go_ret
      exact ⟨rfl, K4.out.trans k1⟩
    · have hb0 : (x != 0) = true := by simpa using n0
      have hg : goneV x = x + 5 := by rw [goneV, if_neg n0, if_neg (by omega)]
      rw [hg] at HO3 ⊢
      have g1 : ¬ x + 5 < x := by omega
      have g2 : x + 5 - x = 5 := by omega
      have g3 : IntKind.u64.wrap 5 = 5 := by decide
      have ho : ofV false false x (x + 5) = 3 := by simp [ofV, n0]; omega
      rw [ho] at HO3
      go_wp2_with (first | (refine wpList_loadW rfl 36 _ rfl w.heap.size rfl 36 A (0, 0) _ hb4.out Try.underlying36 rfl (i36.trans (by rw [hAs.out])) ?_))
      refine (HO3.out _).mono ?_
      rintro e W6 ⟨rfl, k1⟩
      replace K4 := hid (K4.out.trans k1)
      go_wp2_with fail
      refine (HK.out _).mono ?_
      rintro e W5 ⟨rfl, k1⟩
      go_wp2_with fail
      go_ret
      exact ⟨rfl, K4.out.trans k1⟩

  ·
    refine wp_region_G (fun W => W.heap[w.heap.size]? = some (.cells A 36 (0, 0))) [(0, .at_), (1, .at_), (3, .held), (4, .held), (2, .eff), (5, .eff), (6, .at_), (7, .at_)] ?L2 (by kernel_rfl) (by kernel_rfl) ?hL2 (hb.out) ?hG2
    case hL2 => simp only [pickOps, List.map_cons, List.map_nil, List.getD_cons_zero, List.getD_cons_succ]; rfl
    refine wpG_at (v := .agg A) (by rfl) (exec_load 36 _ rfl w.heap.size rfl 36 A (0, 0) _ hb.out Try.underlying36 rfl (i36.trans (by rw [hAs.out]))) ?_
    repeat (first | (refine wpG_at (v := ?_) (by rfl) ?_ ?_; rotate_left; (focus (first | (go_simp; with_reducible rfl) | (go_simp; done))); simp only [Act.put, List.setIfInBounds_toArray, List.set_cons_zero, List.set_cons_succ]) | (refine wpG_at_skip (by rfl) ?_; simp only [Act.put, List.setIfInBounds_toArray, List.set_cons_zero, List.set_cons_succ]) | (refine wpG_held_skip (by rfl) ?_; simp only [Act.put, List.setIfInBounds_toArray, List.set_cons_zero, List.set_cons_succ]) | (refine wpG_held (v := ?_) (by rfl) ?_ ?_; rotate_left; (focus (intro w' hSw; (try dsimp only at hSw); go_split_ands; first | (go_simp; with_reducible rfl) | (go_simp; done))); simp only [Act.put, List.setIfInBounds_toArray, List.set_cons_zero, List.set_cons_succ]))
    refine wpG_held (v := .agg A) (by rfl) (fun W hS => exec_load 36 _ rfl w.heap.size rfl 36 A (0, 0) _ hS Try.underlying36 rfl (i36.trans (by rw [hAs.out]))) ?_
    repeat (first | (refine wpG_at (v := ?_) (by rfl) ?_ ?_; rotate_left; (focus (first | (go_simp; with_reducible rfl) | (go_simp; done))); simp only [Act.put, List.setIfInBounds_toArray, List.set_cons_zero, List.set_cons_succ]) | (refine wpG_at_skip (by rfl) ?_; simp only [Act.put, List.setIfInBounds_toArray, List.set_cons_zero, List.set_cons_succ]) | (refine wpG_held_skip (by rfl) ?_; simp only [Act.put, List.setIfInBounds_toArray, List.set_cons_zero, List.set_cons_succ]) | (refine wpG_held (v := ?_) (by rfl) ?_ ?_; rotate_left; (focus (intro w' hSw; (try dsimp only at hSw); go_split_ands; first | (go_simp; with_reducible rfl) | (go_simp; done))); simp only [Act.put, List.setIfInBounds_toArray, List.set_cons_zero, List.set_cons_succ]))
    refine wpG_eff (by rfl) (fun K hK => ?_)
    go_simp
    refine (HO1.out _).mono ?_
    rintro e W2 ⟨rfl, k1⟩
    have hb2 := hid (k1.get (blk_drew hb.out) (fun h => h))
    have K2 := hid (((Kp.refl NoB w).alloc (.cells A 36)).drew.trans k1)
    refine hK _ _ hb2.out ?_
    clear hK K k1 HO1
    repeat (first | (refine wpG_at (v := ?_) (by rfl) ?_ ?_; rotate_left; (focus (first | (go_simp; with_reducible rfl) | (go_simp; done))); simp only [Act.put, List.setIfInBounds_toArray, List.set_cons_zero, List.set_cons_succ]) | (refine wpG_at_skip (by rfl) ?_; simp only [Act.put, List.setIfInBounds_toArray, List.set_cons_zero, List.set_cons_succ]) | (refine wpG_held_skip (by rfl) ?_; simp only [Act.put, List.setIfInBounds_toArray, List.set_cons_zero, List.set_cons_succ]) | (refine wpG_held (v := ?_) (by rfl) ?_ ?_; rotate_left; (focus (intro w' hSw; (try dsimp only at hSw); go_split_ands; first | (go_simp; with_reducible rfl) | (go_simp; done))); simp only [Act.put, List.setIfInBounds_toArray, List.set_cons_zero, List.set_cons_succ]))
    refine wpG_eff (by rfl) (fun K hK => ?_)
    go_simp
    refine (HO2.out _).mono ?_
    rintro e W3 ⟨rfl, k1⟩
    have hb3 := hid (k1.get hb2.out (fun h => h))
    have K3 := hid (K2.out.trans k1)
    refine hK _ _ hb3.out ?_
    clear hK K k1 hb2 K2 HO2
    repeat (first | (refine wpG_at (v := ?_) (by rfl) ?_ ?_; rotate_left; (focus (first | (go_simp; with_reducible rfl) | (go_simp; done))); simp only [Act.put, List.setIfInBounds_toArray, List.set_cons_zero, List.set_cons_succ]) | (refine wpG_at_skip (by rfl) ?_; simp only [Act.put, List.setIfInBounds_toArray, List.set_cons_zero, List.set_cons_succ]) | (refine wpG_held_skip (by rfl) ?_; simp only [Act.put, List.setIfInBounds_toArray, List.set_cons_zero, List.set_cons_succ]) | (refine wpG_held (v := ?_) (by rfl) ?_ ?_; rotate_left; (focus (intro w' hSw; (try dsimp only at hSw); go_split_ands; first | (go_simp; with_reducible rfl) | (go_simp; done))); simp only [Act.put, List.setIfInBounds_toArray, List.set_cons_zero, List.set_cons_succ]))
    refine wpG_nil (NoPanic.normal ?_)
    go_wp2_with (first | (refine wpList_loadW rfl 36 _ rfl w.heap.size rfl 36 A (0, 0) _ hb3.out Try.underlying36 rfl (i36.trans (by rw [hAs.out])) ?_))
    refine (HG.out _).mono ?_
    rintro e W4 ⟨rfl, k1⟩
    have hb4 := hid (k1.get hb3.out (fun h => h))
    have K4 := hid (K3.out.trans k1)
    clear k1 hb3 K3 hb HG
    have L4 : W4.cell? ⟨w.heap.size, 8, none⟩ = some (.int .u64 x) ∧ W4.cell? ⟨w.heap.size, 7, none⟩ = some (.bool z) ∧ W4.cell? ⟨w.heap.size, 6, none⟩ = some (.bool r) := ⟨by rw [cell_of hb4.out]; exact hA8.out, by rw [cell_of hb4.out]; exact hA7.out, by rw [cell_of hb4.out]; exact hA6.out⟩
    clear hA6 hA7 hA8
    rcases hway with rfl | ⟨n0, n1⟩ | ⟨n0, n1, rfl⟩ | ⟨n0, n1, rfl, rfl⟩ | ⟨n0, n1, rfl, rfl⟩
    · clear HO3
      go_wp2_with fail
      refine (HK.out _).mono ?_
      rintro e W5 ⟨rfl, k1⟩
      go_wp2_with fail
      go_ret
      exact ⟨rfl, K4.out.trans k1⟩
    · clear HO3
      have hb0 : (x != 0) = true := by simpa using n0
      have hg : ¬ x ≤ 1099511627776 := by omega
      go_wp2_with fail
      refine (HK.out _).mono ?_
      rintro e W5 ⟨rfl, k1⟩
      go_wp2_with fail
      go_ret
      exact ⟨rfl, K4.out.trans k1⟩
    · have hb0 : (x != 0) = true := by simpa using n0
      have hg : goneV x = x + 5 := by rw [goneV, if_neg n0, if_neg (by omega)]
      rw [hg] at HO3 ⊢
      have g1 : ¬ x + 5 < x := by omega
      have g2 : x + 5 - x = 5 := by omega
      have g3 : IntKind.u64.wrap 5 = 5 := by decide
      clear HO3
      go_wp2_with fail
      refine (HK.out _).mono ?_
      rintro e W5 ⟨rfl, k1⟩
      go_wp2_with fail
      go_ret
      exact ⟨rfl, K4.out.trans k1⟩
    · have hb0 : (x != 0) = true := by simpa using n0
      have hg : goneV x = x + 5 := by rw [goneV, if_neg n0, if_neg (by omega)]
      rw [hg] at HO3 ⊢
      have g1 : ¬ x + 5 < x := by omega
      have g2 : x + 5 - x = 5 := by omega
      have g3 : IntKind.u64.wrap 5 = 5 := by decide
      clear HO3
      go_wp2_with fail
      refine (HK.out _).mono ?_
      rintro e W5 ⟨rfl, k1⟩
      go_wp2_with fail
      go_ret
      exact ⟨rfl, K4.out.trans k1⟩
    · have hb0 : (x != 0) = true := by simpa using n0
      have hg : goneV x = x + 5 := by rw [goneV, if_neg n0, if_neg (by omega)]
      rw [hg] at HO3 ⊢
      have g1 : ¬ x + 5 < x := by omega
      have g2 : x + 5 - x = 5 := by omega
      have g3 : IntKind.u64.wrap 5 = 5 := by decide
      have ho : ofV false false x (x + 5) = 3 := by simp [ofV, n0]; omega
      rw [ho] at HO3
      go_wp2_with (first | (refine wpList_loadW rfl 36 _ rfl w.heap.size rfl 36 A (0, 0) _ hb4.out Try.underlying36 rfl (i36.trans (by rw [hAs.out])) ?_))
      refine (HO3.out _).mono ?_
      rintro e W6 ⟨rfl, k1⟩
      replace K4 := hid (K4.out.trans k1)
      go_wp2_with fail
      refine (HK.out _).mono ?_
      rintro e W5 ⟨rfl, k1⟩
      go_wp2_with fail
      go_ret
      exact ⟨rfl, K4.out.trans k1⟩

set_option maxRecDepth 100000 in
set_option maxHeartbeats 8000000 in
theorem stays_gt (hA : A = #[c0, c1, c2, c3, c4, c5, .bool r, .bool z, .int .u64 x, c9, c10, c11, c12, c13, c14, c15, c16, c17, c18, c19, c20, c21]) (hx : 0 ≤ x ∧ x < 18446744073709551616) (hab : b < a) (w : World) : Calls Try.prog 4 #[.agg A, .int .u64 a, .int .u64 b] w fun e w' => e = .returned (.bool true) ∧ Kp NoB w w' := by
  have HG := hid (gone_A hA hx)
  have HK := hid known_any
  have hAs := hid (rsize hA)
  have hA6 := hid (show A[6]? = some (.bool r) from by rw [hA]; rfl)
  have hA7 := hid (show A[7]? = some (.bool z) from by rw [hA]; rfl)
  have hA8 := hid (show A[8]? = some (.int .u64 x) from by rw [hA]; rfl)
  have hb := hid (blk_new w (.cells A 36))
  have HO : ∀ now, Hid (∀ w, Calls Try.prog 6 #[.agg A, .int .u64 now] w fun e w' => e = .returned (.int .i64 (ofV r z x now)) ∧ Kp NoB w w') := fun now => hid (of_A hA now)
  have HO1 := HO b
  have HO2 := HO a
  have HO3 := HO (goneV x)
  have hlt := of_later (r := r) (z := z) (x := x) (lo := b) (hi := a) (by omega)
  have hway := ways r z hx.1
  have hxx := hid hx
  clear hA HO hx
  generalize he1 : ofV r z x b = e1 at *
  generalize he2 : ofV r z x a = e2 at *
  clear he1 he2
  rcases hlt with rfl | ⟨rfl, rfl⟩
  all_goals
    go_enter Try.func4, Try.ntmps4
    go_wp2_with fail

  ·
    refine wp_region_G (fun W => W.heap[w.heap.size]? = some (.cells A 36 (0, 0))) [(0, .at_), (1, .at_), (3, .held), (4, .held), (2, .eff), (5, .eff), (6, .at_), (7, .at_)] ?L3 (by kernel_rfl) (by kernel_rfl) ?hL3 (hb.out) ?hG3
    case hL3 => simp only [pickOps, List.map_cons, List.map_nil, List.getD_cons_zero, List.getD_cons_succ]; rfl
    refine wpG_at (v := .agg A) (by rfl) (exec_load 36 _ rfl w.heap.size rfl 36 A (0, 0) _ hb.out Try.underlying36 rfl (i36.trans (by rw [hAs.out]))) ?_
    repeat (first | (refine wpG_at (v := ?_) (by rfl) ?_ ?_; rotate_left; (focus (first | (go_simp; with_reducible rfl) | (go_simp; done))); simp only [Act.put, List.setIfInBounds_toArray, List.set_cons_zero, List.set_cons_succ]) | (refine wpG_at_skip (by rfl) ?_; simp only [Act.put, List.setIfInBounds_toArray, List.set_cons_zero, List.set_cons_succ]) | (refine wpG_held_skip (by rfl) ?_; simp only [Act.put, List.setIfInBounds_toArray, List.set_cons_zero, List.set_cons_succ]) | (refine wpG_held (v := ?_) (by rfl) ?_ ?_; rotate_left; (focus (intro w' hSw; (try dsimp only at hSw); go_split_ands; first | (go_simp; with_reducible rfl) | (go_simp; done))); simp only [Act.put, List.setIfInBounds_toArray, List.set_cons_zero, List.set_cons_succ]))
    refine wpG_held (v := .agg A) (by rfl) (fun W hS => exec_load 36 _ rfl w.heap.size rfl 36 A (0, 0) _ hS Try.underlying36 rfl (i36.trans (by rw [hAs.out]))) ?_
    repeat (first | (refine wpG_at (v := ?_) (by rfl) ?_ ?_; rotate_left; (focus (first | (go_simp; with_reducible rfl) | (go_simp; done))); simp only [Act.put, List.setIfInBounds_toArray, List.set_cons_zero, List.set_cons_succ]) | (refine wpG_at_skip (by rfl) ?_; simp only [Act.put, List.setIfInBounds_toArray, List.set_cons_zero, List.set_cons_succ]) | (refine wpG_held_skip (by rfl) ?_; simp only [Act.put, List.setIfInBounds_toArray, List.set_cons_zero, List.set_cons_succ]) | (refine wpG_held (v := ?_) (by rfl) ?_ ?_; rotate_left; (focus (intro w' hSw; (try dsimp only at hSw); go_split_ands; first | (go_simp; with_reducible rfl) | (go_simp; done))); simp only [Act.put, List.setIfInBounds_toArray, List.set_cons_zero, List.set_cons_succ]))
    refine wpG_eff (by rfl) (fun K hK => ?_)
    go_simp
    refine (HO1.out _).mono ?_
    rintro e W2 ⟨rfl, k1⟩
    have hb2 := hid (k1.get (blk_drew hb.out) (fun h => h))
    have K2 := hid (((Kp.refl NoB w).alloc (.cells A 36)).drew.trans k1)
    refine hK _ _ hb2.out ?_
    clear hK K k1 HO1
    repeat (first | (refine wpG_at (v := ?_) (by rfl) ?_ ?_; rotate_left; (focus (first | (go_simp; with_reducible rfl) | (go_simp; done))); simp only [Act.put, List.setIfInBounds_toArray, List.set_cons_zero, List.set_cons_succ]) | (refine wpG_at_skip (by rfl) ?_; simp only [Act.put, List.setIfInBounds_toArray, List.set_cons_zero, List.set_cons_succ]) | (refine wpG_held_skip (by rfl) ?_; simp only [Act.put, List.setIfInBounds_toArray, List.set_cons_zero, List.set_cons_succ]) | (refine wpG_held (v := ?_) (by rfl) ?_ ?_; rotate_left; (focus (intro w' hSw; (try dsimp only at hSw); go_split_ands; first | (go_simp; with_reducible rfl) | (go_simp; done))); simp only [Act.put, List.setIfInBounds_toArray, List.set_cons_zero, List.set_cons_succ]))
    refine wpG_eff (by rfl) (fun K hK => ?_)
    go_simp
    refine (HO2.out _).mono ?_
    rintro e W3 ⟨rfl, k1⟩
    have hb3 := hid (k1.get hb2.out (fun h => h))
    have K3 := hid (K2.out.trans k1)
    refine hK _ _ hb3.out ?_
    clear hK K k1 hb2 K2 HO2
    repeat (first | (refine wpG_at (v := ?_) (by rfl) ?_ ?_; rotate_left; (focus (first | (go_simp; with_reducible rfl) | (go_simp; done))); simp only [Act.put, List.setIfInBounds_toArray, List.set_cons_zero, List.set_cons_succ]) | (refine wpG_at_skip (by rfl) ?_; simp only [Act.put, List.setIfInBounds_toArray, List.set_cons_zero, List.set_cons_succ]) | (refine wpG_held_skip (by rfl) ?_; simp only [Act.put, List.setIfInBounds_toArray, List.set_cons_zero, List.set_cons_succ]) | (refine wpG_held (v := ?_) (by rfl) ?_ ?_; rotate_left; (focus (intro w' hSw; (try dsimp only at hSw); go_split_ands; first | (go_simp; with_reducible rfl) | (go_simp; done))); simp only [Act.put, List.setIfInBounds_toArray, List.set_cons_zero, List.set_cons_succ]))
    refine wpG_nil (NoPanic.normal ?_)
    go_wp2_with (first | (refine wpList_loadW rfl 36 _ rfl w.heap.size rfl 36 A (0, 0) _ hb3.out Try.underlying36 rfl (i36.trans (by rw [hAs.out])) ?_))
    refine (HG.out _).mono ?_
    rintro e W4 ⟨rfl, k1⟩
    have hb4 := hid (k1.get hb3.out (fun h => h))
    have K4 := hid (K3.out.trans k1)
    clear k1 hb3 K3 hb HG
    have L4 : W4.cell? ⟨w.heap.size, 8, none⟩ = some (.int .u64 x) ∧ W4.cell? ⟨w.heap.size, 7, none⟩ = some (.bool z) ∧ W4.cell? ⟨w.heap.size, 6, none⟩ = some (.bool r) := ⟨by rw [cell_of hb4.out]; exact hA8.out, by rw [cell_of hb4.out]; exact hA7.out, by rw [cell_of hb4.out]; exact hA6.out⟩
    clear hA6 hA7 hA8
    rcases hway with rfl | ⟨n0, n1⟩ | ⟨n0, n1, rfl⟩ | ⟨n0, n1, rfl, rfl⟩ | ⟨n0, n1, rfl, rfl⟩
    · clear HO3
      go_wp2_with fail
      refine (HK.out _).mono ?_
      rintro e W5 ⟨rfl, k1⟩
      go_wp2_with fail
      go_ret
      exact ⟨rfl, K4.out.trans k1⟩
    · clear HO3
      have hb0 : (x != 0) = true := by simpa using n0
      have hg : ¬ x ≤ 1099511627776 := by omega
      go_wp2_with fail
      refine (HK.out _).mono ?_
      rintro e W5 ⟨rfl, k1⟩
      go_wp2_with fail
      go_ret
      exact ⟨rfl, K4.out.trans k1⟩
    · have hb0 : (x != 0) = true := by simpa using n0
      have hg : goneV x = x + 5 := by rw [goneV, if_neg n0, if_neg (by omega)]
      rw [hg] at HO3 ⊢
      have g1 : ¬ x + 5 < x := by omega
      have g2 : x + 5 - x = 5 := by omega
      have g3 : IntKind.u64.wrap 5 = 5 := by decide
      clear HO3
      go_wp2_with fail
      refine (HK.out _).mono ?_
      rintro e W5 ⟨rfl, k1⟩
      go_wp2_with fail
      go_ret
      exact ⟨rfl, K4.out.trans k1⟩
    · have hb0 : (x != 0) = true := by simpa using n0
      have hg : goneV x = x + 5 := by rw [goneV, if_neg n0, if_neg (by omega)]
      rw [hg] at HO3 ⊢
      have g1 : ¬ x + 5 < x := by omega
      have g2 : x + 5 - x = 5 := by omega
      have g3 : IntKind.u64.wrap 5 = 5 := by decide
      clear HO3
      go_wp2_with fail
      refine (HK.out _).mono ?_
      rintro e W5 ⟨rfl, k1⟩
      go_wp2_with fail
      go_ret
      exact ⟨rfl, K4.out.trans k1⟩
    · have hb0 : (x != 0) = true := by simpa using n0
      have hg : goneV x = x + 5 := by rw [goneV, if_neg n0, if_neg (by omega)]
      rw [hg] at HO3 ⊢
      have g1 : ¬ x + 5 < x := by omega
      have g2 : x + 5 - x = 5 := by omega
      have g3 : IntKind.u64.wrap 5 = 5 := by decide
      have ho : ofV false false x (x + 5) = 3 := by simp [ofV, n0]; omega
      rw [ho] at HO3
      go_wp2_with (first | (refine wpList_loadW rfl 36 _ rfl w.heap.size rfl 36 A (0, 0) _ hb4.out Try.underlying36 rfl (i36.trans (by rw [hAs.out])) ?_))
      refine (HO3.out _).mono ?_
      rintro e W6 ⟨rfl, k1⟩
      replace K4 := hid (K4.out.trans k1)
      go_wp2_with fail
      refine (HK.out _).mono ?_
      rintro e W5 ⟨rfl, k1⟩
      go_wp2_with fail
      go_ret
      exact ⟨rfl, K4.out.trans k1⟩

  ·
    refine wp_region_G (fun W => W.heap[w.heap.size]? = some (.cells A 36 (0, 0))) [(0, .at_), (1, .at_), (3, .held), (4, .held), (2, .eff), (5, .eff), (6, .at_), (7, .at_)] ?L4 (by kernel_rfl) (by kernel_rfl) ?hL4 (hb.out) ?hG4
    case hL4 => simp only [pickOps, List.map_cons, List.map_nil, List.getD_cons_zero, List.getD_cons_succ]; rfl
    refine wpG_at (v := .agg A) (by rfl) (exec_load 36 _ rfl w.heap.size rfl 36 A (0, 0) _ hb.out Try.underlying36 rfl (i36.trans (by rw [hAs.out]))) ?_
    repeat (first | (refine wpG_at (v := ?_) (by rfl) ?_ ?_; rotate_left; (focus (first | (go_simp; with_reducible rfl) | (go_simp; done))); simp only [Act.put, List.setIfInBounds_toArray, List.set_cons_zero, List.set_cons_succ]) | (refine wpG_at_skip (by rfl) ?_; simp only [Act.put, List.setIfInBounds_toArray, List.set_cons_zero, List.set_cons_succ]) | (refine wpG_held_skip (by rfl) ?_; simp only [Act.put, List.setIfInBounds_toArray, List.set_cons_zero, List.set_cons_succ]) | (refine wpG_held (v := ?_) (by rfl) ?_ ?_; rotate_left; (focus (intro w' hSw; (try dsimp only at hSw); go_split_ands; first | (go_simp; with_reducible rfl) | (go_simp; done))); simp only [Act.put, List.setIfInBounds_toArray, List.set_cons_zero, List.set_cons_succ]))
    refine wpG_held (v := .agg A) (by rfl) (fun W hS => exec_load 36 _ rfl w.heap.size rfl 36 A (0, 0) _ hS Try.underlying36 rfl (i36.trans (by rw [hAs.out]))) ?_
    repeat (first | (refine wpG_at (v := ?_) (by rfl) ?_ ?_; rotate_left; (focus (first | (go_simp; with_reducible rfl) | (go_simp; done))); simp only [Act.put, List.setIfInBounds_toArray, List.set_cons_zero, List.set_cons_succ]) | (refine wpG_at_skip (by rfl) ?_; simp only [Act.put, List.setIfInBounds_toArray, List.set_cons_zero, List.set_cons_succ]) | (refine wpG_held_skip (by rfl) ?_; simp only [Act.put, List.setIfInBounds_toArray, List.set_cons_zero, List.set_cons_succ]) | (refine wpG_held (v := ?_) (by rfl) ?_ ?_; rotate_left; (focus (intro w' hSw; (try dsimp only at hSw); go_split_ands; first | (go_simp; with_reducible rfl) | (go_simp; done))); simp only [Act.put, List.setIfInBounds_toArray, List.set_cons_zero, List.set_cons_succ]))
    refine wpG_eff (by rfl) (fun K hK => ?_)
    go_simp
    refine (HO1.out _).mono ?_
    rintro e W2 ⟨rfl, k1⟩
    have hb2 := hid (k1.get (blk_drew hb.out) (fun h => h))
    have K2 := hid (((Kp.refl NoB w).alloc (.cells A 36)).drew.trans k1)
    refine hK _ _ hb2.out ?_
    clear hK K k1 HO1
    repeat (first | (refine wpG_at (v := ?_) (by rfl) ?_ ?_; rotate_left; (focus (first | (go_simp; with_reducible rfl) | (go_simp; done))); simp only [Act.put, List.setIfInBounds_toArray, List.set_cons_zero, List.set_cons_succ]) | (refine wpG_at_skip (by rfl) ?_; simp only [Act.put, List.setIfInBounds_toArray, List.set_cons_zero, List.set_cons_succ]) | (refine wpG_held_skip (by rfl) ?_; simp only [Act.put, List.setIfInBounds_toArray, List.set_cons_zero, List.set_cons_succ]) | (refine wpG_held (v := ?_) (by rfl) ?_ ?_; rotate_left; (focus (intro w' hSw; (try dsimp only at hSw); go_split_ands; first | (go_simp; with_reducible rfl) | (go_simp; done))); simp only [Act.put, List.setIfInBounds_toArray, List.set_cons_zero, List.set_cons_succ]))
    refine wpG_eff (by rfl) (fun K hK => ?_)
    go_simp
    refine (HO2.out _).mono ?_
    rintro e W3 ⟨rfl, k1⟩
    have hb3 := hid (k1.get hb2.out (fun h => h))
    have K3 := hid (K2.out.trans k1)
    refine hK _ _ hb3.out ?_
    clear hK K k1 hb2 K2 HO2
    repeat (first | (refine wpG_at (v := ?_) (by rfl) ?_ ?_; rotate_left; (focus (first | (go_simp; with_reducible rfl) | (go_simp; done))); simp only [Act.put, List.setIfInBounds_toArray, List.set_cons_zero, List.set_cons_succ]) | (refine wpG_at_skip (by rfl) ?_; simp only [Act.put, List.setIfInBounds_toArray, List.set_cons_zero, List.set_cons_succ]) | (refine wpG_held_skip (by rfl) ?_; simp only [Act.put, List.setIfInBounds_toArray, List.set_cons_zero, List.set_cons_succ]) | (refine wpG_held (v := ?_) (by rfl) ?_ ?_; rotate_left; (focus (intro w' hSw; (try dsimp only at hSw); go_split_ands; first | (go_simp; with_reducible rfl) | (go_simp; done))); simp only [Act.put, List.setIfInBounds_toArray, List.set_cons_zero, List.set_cons_succ]))
    refine wpG_nil (NoPanic.normal ?_)
    go_wp2_with (first | (refine wpList_loadW rfl 36 _ rfl w.heap.size rfl 36 A (0, 0) _ hb3.out Try.underlying36 rfl (i36.trans (by rw [hAs.out])) ?_))
    refine (HG.out _).mono ?_
    rintro e W4 ⟨rfl, k1⟩
    have hb4 := hid (k1.get hb3.out (fun h => h))
    have K4 := hid (K3.out.trans k1)
    clear k1 hb3 K3 hb HG
    have L4 : W4.cell? ⟨w.heap.size, 8, none⟩ = some (.int .u64 x) ∧ W4.cell? ⟨w.heap.size, 7, none⟩ = some (.bool z) ∧ W4.cell? ⟨w.heap.size, 6, none⟩ = some (.bool r) := ⟨by rw [cell_of hb4.out]; exact hA8.out, by rw [cell_of hb4.out]; exact hA7.out, by rw [cell_of hb4.out]; exact hA6.out⟩
    clear hA6 hA7 hA8
    rcases hway with rfl | ⟨n0, n1⟩ | ⟨n0, n1, rfl⟩ | ⟨n0, n1, rfl, rfl⟩ | ⟨n0, n1, rfl, rfl⟩
    · clear HO3
      go_wp2_with fail
      refine (HK.out _).mono ?_
      rintro e W5 ⟨rfl, k1⟩
      go_wp2_with fail
      go_ret
      exact ⟨rfl, K4.out.trans k1⟩
    · clear HO3
      have hb0 : (x != 0) = true := by simpa using n0
      have hg : ¬ x ≤ 1099511627776 := by omega
      go_wp2_with fail
      refine (HK.out _).mono ?_
      rintro e W5 ⟨rfl, k1⟩
      go_wp2_with fail
      go_ret
      exact ⟨rfl, K4.out.trans k1⟩
    · have hb0 : (x != 0) = true := by simpa using n0
      have hg : goneV x = x + 5 := by rw [goneV, if_neg n0, if_neg (by omega)]
      rw [hg] at HO3 ⊢
      have g1 : ¬ x + 5 < x := by omega
      have g2 : x + 5 - x = 5 := by omega
      have g3 : IntKind.u64.wrap 5 = 5 := by decide
      clear HO3
      go_wp2_with fail
      refine (HK.out _).mono ?_
      rintro e W5 ⟨rfl, k1⟩
      go_wp2_with fail
      go_ret
      exact ⟨rfl, K4.out.trans k1⟩
    · have hb0 : (x != 0) = true := by simpa using n0
      have hg : goneV x = x + 5 := by rw [goneV, if_neg n0, if_neg (by omega)]
      rw [hg] at HO3 ⊢
      have g1 : ¬ x + 5 < x := by omega
      have g2 : x + 5 - x = 5 := by omega
      have g3 : IntKind.u64.wrap 5 = 5 := by decide
      clear HO3
      go_wp2_with fail
      refine (HK.out _).mono ?_
      rintro e W5 ⟨rfl, k1⟩
      go_wp2_with fail
      go_ret
      exact ⟨rfl, K4.out.trans k1⟩
    · have hb0 : (x != 0) = true := by simpa using n0
      have hg : goneV x = x + 5 := by rw [goneV, if_neg n0, if_neg (by omega)]
      rw [hg] at HO3 ⊢
      have g1 : ¬ x + 5 < x := by omega
      have g2 : x + 5 - x = 5 := by omega
      have g3 : IntKind.u64.wrap 5 = 5 := by decide
      have ho : ofV false false x (x + 5) = 3 := by simp [ofV, n0]; omega
      rw [ho] at HO3
      go_wp2_with (first | (refine wpList_loadW rfl 36 _ rfl w.heap.size rfl 36 A (0, 0) _ hb4.out Try.underlying36 rfl (i36.trans (by rw [hAs.out])) ?_))
      refine (HO3.out _).mono ?_
      rintro e W6 ⟨rfl, k1⟩
      replace K4 := hid (K4.out.trans k1)
      go_wp2_with fail
      refine (HK.out _).mono ?_
      rintro e W5 ⟨rfl, k1⟩
      go_wp2_with fail
      go_ret
      exact ⟨rfl, K4.out.trans k1⟩

end
end Go.Proofs.YtackanpobfaglaaRRRR
