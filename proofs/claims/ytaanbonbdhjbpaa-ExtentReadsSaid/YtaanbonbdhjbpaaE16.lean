/- Walks: a reader's step. -/
import Derived.Test.YtaanbonbdhjbpaaE15
import Derived.Lib.AppendZeros
namespace Go.Proofs.Ytaanbonbdhjbpaa
set_option linter.unusedSimpArgs false
set_option linter.unusedVariables false
open Go.RowKit
attribute [local go_sem ↓] Go.wp_at_zero Go.wp_at_succ
section
variable {w w' : World} {q p l : Nat} {g : Int} {v bv : Value} {M : List Int} {S : List Sl3} {B : List Nat} {E : Nat}
set_option maxRecDepth 100000 in
set_option maxHeartbeats 4000000 in
theorem rstep_bad (h : AAt w p l v S B E) (o : AOk S B E) {k : Nat} (hr : RAt w q p k g bv M) (hM : M.length ≤ 256) (hg : g ≠ 0) {n i' g' : Int} {b : Nat → Int} (hk : S[k]? = some (mkE n b i' g', g, true)) (hn : n < 1 ∨ 16 < n ∨ 256 < (M.length : Int) + n) : Calls Try.prog 26 #[.pointer (some ⟨q, 0, none⟩)] w fun e w' =>
    e = .returned (.tuple #[.bool false, .int .i64 16]) ∧ Kp NoB w w' := by
  obtain ⟨ob, cb, hbv, _⟩ := hr.hb.form
  subst hbv
  have Lq := hr.cs
  have hg0 : (g == 0) = false := by simpa using hg
  have HG := hid (fun (W : World) (h : AAt W p l v S B E) => get_yes h o hk)
  have HR := hid hr
  replace h := hid h
  clear hr hk
  have upq := ups Lq.2.2.2.2.2.2.2
  have hkn : (0 : Int) ≤ (k : Int) := Int.natCast_nonneg _
  obtain ⟨X0, hX0⟩ : ∃ X0, X0 = mkE n b i' g' := ⟨_, rfl⟩
  rw [← hX0] at HG
  replace hX0 := hid hX0
  go_enter Try.func26, Try.ntmps26
  go_wp2_with fail
  refine wp_region_two 8 12 (fun W => W.cell? ⟨q, 0, none⟩ = some (.pointer (some ⟨p, 0, none⟩)) ∧ W.cell? ⟨q, 1, none⟩ = some (.int .i64 k) ∧ W.cell? ⟨q, 2, none⟩ = some (.int .u64 g)) [(0, .at_), (1, .at_), (2, .at_), (3, .at_), (4, .at_), (5, .at_), (6, .at_), (7, .at_), (8, .eff), (9, .held), (10, .held), (11, .held), (12, .eff), (13, .eff), (14, .at_)] [(0, .held), (1, .held), (2, .held), (3, .held), (4, .held), (5, .held), (6, .held), (7, .held), (12, .eff), (8, .eff), (9, .at_), (10, .at_), (11, .held), (13, .eff), (14, .at_)] ?La1 ?Lb1 (by kernel_rfl) (by kernel_rfl) ?hLa1 ?hLb1 (⟨Lq.1, Lq.2.1, Lq.2.2.1⟩) ?hGa1 ?hGb1
  case hLa1 => simp only [pickOps, List.map_cons, List.map_nil, List.getD_cons_zero, List.getD_cons_succ]; rfl
  case hLb1 => simp only [pickOps, List.map_cons, List.map_nil, List.getD_cons_zero, List.getD_cons_succ]; rfl
  ·
    repeat (first | (refine wpG_at (v := ?_) (by rfl) ?_ ?_; rotate_left; (focus (first | (go_simp; with_reducible rfl) | (go_simp; done))); simp only [Act.put, List.setIfInBounds_toArray, List.set_cons_zero, List.set_cons_succ]) | (refine wpG_at_skip (by rfl) ?_; simp only [Act.put, List.setIfInBounds_toArray, List.set_cons_zero, List.set_cons_succ]) | (refine wpG_held_skip (by rfl) ?_; simp only [Act.put, List.setIfInBounds_toArray, List.set_cons_zero, List.set_cons_succ]) | (refine wpG_held (v := ?_) (by rfl) ?_ ?_; rotate_left; (focus (intro w' hSw; (try dsimp only at hSw); go_split_ands; first | (go_simp; with_reducible rfl) | (go_simp; done))); simp only [Act.put, List.setIfInBounds_toArray, List.set_cons_zero, List.set_cons_succ]))
    refine wpG_eff (by rfl) (fun K hK => ?_)
    go_simp
    refine (HG.out _ h.out.drew).mono ?_
    rintro e w1 ⟨rfl, k1⟩
    have k1' : Kp NoB w w1 := (Kp.refl NoB w).drew.trans k1
    have R1 := HR.out.kn k1'
    refine hK _ _ ⟨R1.cs.1, R1.cs.2.1, R1.cs.2.2.1⟩ ?_
    clear hK K k1 Lq
    have Lq1 := R1.cs
    have upq1 := ups Lq1.2.2.2.2.2.2.2
    repeat (first | (refine wpG_at (v := ?_) (by rfl) ?_ ?_; rotate_left; (focus (first | (go_simp; with_reducible rfl) | (go_simp; done))); simp only [Act.put, List.setIfInBounds_toArray, List.set_cons_zero, List.set_cons_succ]) | (refine wpG_at_skip (by rfl) ?_; simp only [Act.put, List.setIfInBounds_toArray, List.set_cons_zero, List.set_cons_succ]) | (refine wpG_held_skip (by rfl) ?_; simp only [Act.put, List.setIfInBounds_toArray, List.set_cons_zero, List.set_cons_succ]) | (refine wpG_held (v := ?_) (by rfl) ?_ ?_; rotate_left; (focus (intro w' hSw; (try dsimp only at hSw); go_split_ands; first | (go_simp; with_reducible rfl) | (go_simp; done))); simp only [Act.put, List.setIfInBounds_toArray, List.set_cons_zero, List.set_cons_succ]))
    refine wpG_eff (by rfl) (fun K hK => ?_)
    go_simp
    obtain ⟨b4, h4⟩ : ∃ b4, b4 = w1.heap.size := ⟨_, rfl⟩
    obtain ⟨W2, hW2⟩ : ∃ W2, W2 = w1.alloc (.cells #[.int .i64 0, .int .u8 0, .int .u8 0, .int .u8 0, .int .u8 0, .int .u8 0, .int .u8 0, .int .u8 0, .int .u8 0, .int .u8 0, .int .u8 0, .int .u8 0, .int .u8 0, .int .u8 0, .int .u8 0, .int .u8 0, .int .u8 0, .int .i64 0, .int .u64 0] 35) := ⟨_, rfl⟩
    have R2 := R1.kn ((Kp.refl NoB w1).alloc (.cells zX.1.toArray 35))
    have H4 := blk_new' w1 (.cells zX.1.toArray 35) h4
    have K2 := k1'.alloc (.cells zX.1.toArray 35)
    have eW : w1.alloc (.cells zX.1.toArray 35) = W2 := hW2.symm
    rw [eW] at R2 H4 K2
    rw [← hW2, ← h4]
    have hb4 : w.heap.size ≤ b4 := by rw [h4]; exact k1'.size
    have hq4 : q ≠ b4 := by have := blk_lt HR.out.hq; omega
    clear hW2 eW h4 R1 k1' Lq1 upq1
    refine hK _ _ ⟨R2.cs.1, R2.cs.2.1, R2.cs.2.2.1⟩ ?_
    clear hK K
    repeat (first | (refine wpG_at (v := ?_) (by rfl) ?_ ?_; rotate_left; (focus (first | (go_simp; with_reducible rfl) | (go_simp; done))); simp only [Act.put, List.setIfInBounds_toArray, List.set_cons_zero, List.set_cons_succ]) | (refine wpG_at_skip (by rfl) ?_; simp only [Act.put, List.setIfInBounds_toArray, List.set_cons_zero, List.set_cons_succ]) | (refine wpG_held_skip (by rfl) ?_; simp only [Act.put, List.setIfInBounds_toArray, List.set_cons_zero, List.set_cons_succ]) | (refine wpG_held (v := ?_) (by rfl) ?_ ?_; rotate_left; (focus (intro w' hSw; (try dsimp only at hSw); go_split_ands; first | (go_simp; with_reducible rfl) | (go_simp; done))); simp only [Act.put, List.setIfInBounds_toArray, List.set_cons_zero, List.set_cons_succ]))
    refine wpG_eff (by rfl) (fun K hK => ?_)

    refine wp_stX _ _ rfl b4 0 X0 rfl rfl (rowX H4) ?_
    have kS : Kp (· = b4) W2 (W2.setCells b4 0 X0.1) := (Kp.refl _ W2).setCells _ (fun _ => rfl)
    have R3 := R2.kp kS hq4 (fun b hb e => by subst e; exact R2.hb.ne H4 (by decide) hb)
    have H5 := putX H4 X0
    have K3 : Kp NoB w (W2.setCells b4 0 X0.1) := K2.setCells _ (fun h => absurd h (by omega))
    obtain ⟨W3, hW3⟩ : ∃ W3, W3 = W2.setCells b4 0 X0.1 := ⟨_, rfl⟩
    rw [← hW3] at R3 H5 K3 ⊢
    clear hW3 kS R2 H4 K2
    refine hK _ _ ⟨R3.cs.1, R3.cs.2.1, R3.cs.2.2.1⟩ ?_
    clear hK K
    repeat (first | (refine wpG_at (v := ?_) (by rfl) ?_ ?_; rotate_left; (focus (first | (go_simp; with_reducible rfl) | (go_simp; done))); simp only [Act.put, List.setIfInBounds_toArray, List.set_cons_zero, List.set_cons_succ]) | (refine wpG_at_skip (by rfl) ?_; simp only [Act.put, List.setIfInBounds_toArray, List.set_cons_zero, List.set_cons_succ]) | (refine wpG_held_skip (by rfl) ?_; simp only [Act.put, List.setIfInBounds_toArray, List.set_cons_zero, List.set_cons_succ]) | (refine wpG_held (v := ?_) (by rfl) ?_ ?_; rotate_left; (focus (intro w' hSw; (try dsimp only at hSw); go_split_ands; first | (go_simp; with_reducible rfl) | (go_simp; done))); simp only [Act.put, List.setIfInBounds_toArray, List.set_cons_zero, List.set_cons_succ]))
    refine wpG_nil (NoPanic.normal ?_)
    have hX := hX0.out
    rw [hX] at H5
    have c0 : W3.cell? ⟨b4, 0, none⟩ = some (.int .i64 n) := by rw [cell_of H5]; rfl
    have LR := R3.cs
    clear H5 R3 hX upq
    by_cases n1 : n < 1
    · have d1 : decide (n < 1) = true := by simpa using n1
      go_wp2_with fail
      refine wp_region_G (fun _ => True) [(0, .at_), (1, .at_), (2, .at_), (3, .at_), (4, .at_), (5, .at_), (6, .at_), (7, .at_), (8, .at_), (9, .at_), (10, .at_), (11, .at_), (12, .at_), (13, .at_), (14, .at_), (15, .at_), (16, .at_), (17, .at_), (18, .at_), (19, .at_)] ?L3 (by kernel_rfl) (by kernel_rfl) ?hL3 (trivial) ?hG3
      case hL3 => simp only [pickOps, List.map_cons, List.map_nil, List.getD_cons_zero, List.getD_cons_succ]; rfl
      repeat (first | (refine wpG_at (v := ?_) (by rfl) ?_ ?_; rotate_left; (focus (first | (go_simp; with_reducible rfl) | (go_simp; done))); simp only [Act.put, List.setIfInBounds_toArray, List.set_cons_zero, List.set_cons_succ]) | (refine wpG_at_skip (by rfl) ?_; simp only [Act.put, List.setIfInBounds_toArray, List.set_cons_zero, List.set_cons_succ]) | (refine wpG_held_skip (by rfl) ?_; simp only [Act.put, List.setIfInBounds_toArray, List.set_cons_zero, List.set_cons_succ]) | (refine wpG_held (v := ?_) (by rfl) ?_ ?_; rotate_left; (focus (intro w' hSw; (try dsimp only at hSw); go_split_ands; first | (go_simp; with_reducible rfl) | (go_simp; done))); simp only [Act.put, List.setIfInBounds_toArray, List.set_cons_zero, List.set_cons_succ]))
      refine wpG_nil (NoPanic.normal ?_)
      go_wp2_with fail
      go_ret2
      exact ⟨rfl, K3.drew⟩
    · have d1 : decide (n < 1) = false := by simpa using n1
      by_cases n16 : 16 < n
      · have d2 : decide (16 < n) = true := by simpa using n16
        go_wp2_with fail
        refine wp_region_G (fun _ => True) [(0, .at_), (1, .at_), (2, .at_), (3, .at_), (4, .at_), (5, .at_), (6, .at_), (7, .at_), (8, .at_), (9, .at_), (10, .at_), (11, .at_), (12, .at_), (13, .at_), (14, .at_), (15, .at_), (16, .at_), (17, .at_), (18, .at_), (19, .at_)] ?L4 (by kernel_rfl) (by kernel_rfl) ?hL4 (trivial) ?hG4
        case hL4 => simp only [pickOps, List.map_cons, List.map_nil, List.getD_cons_zero, List.getD_cons_succ]; rfl
        repeat (first | (refine wpG_at (v := ?_) (by rfl) ?_ ?_; rotate_left; (focus (first | (go_simp; with_reducible rfl) | (go_simp; done))); simp only [Act.put, List.setIfInBounds_toArray, List.set_cons_zero, List.set_cons_succ]) | (refine wpG_at_skip (by rfl) ?_; simp only [Act.put, List.setIfInBounds_toArray, List.set_cons_zero, List.set_cons_succ]) | (refine wpG_held_skip (by rfl) ?_; simp only [Act.put, List.setIfInBounds_toArray, List.set_cons_zero, List.set_cons_succ]) | (refine wpG_held (v := ?_) (by rfl) ?_ ?_; rotate_left; (focus (intro w' hSw; (try dsimp only at hSw); go_split_ands; first | (go_simp; with_reducible rfl) | (go_simp; done))); simp only [Act.put, List.setIfInBounds_toArray, List.set_cons_zero, List.set_cons_succ]))
        refine wpG_nil (NoPanic.normal ?_)
        go_wp2_with fail
        go_ret2
        exact ⟨rfl, K3.drew⟩
      · have hnn : 256 < (M.length : Int) + n := by omega
        have hwr : IntKind.i64.wrap ((M.length : Int) + n) = (M.length : Int) + n := wi_in (by omega)
        have d2 : decide (16 < n) = false := by simpa using n16
        have d3 : decide (256 < (M.length : Int) + n) = true := by simpa using hnn
        clear hn
        go_wp2_with fail
        refine wp_region_G (fun _ => True) [(0, .at_), (1, .at_), (2, .at_), (3, .at_), (4, .at_), (5, .at_), (6, .at_), (7, .at_), (8, .at_), (9, .at_), (10, .at_), (11, .at_), (12, .at_), (13, .at_), (14, .at_), (15, .at_), (16, .at_), (17, .at_), (18, .at_), (19, .at_)] ?L5 (by kernel_rfl) (by kernel_rfl) ?hL5 (trivial) ?hG5
        case hL5 => simp only [pickOps, List.map_cons, List.map_nil, List.getD_cons_zero, List.getD_cons_succ]; rfl
        repeat (first | (refine wpG_at (v := ?_) (by rfl) ?_ ?_; rotate_left; (focus (first | (go_simp; with_reducible rfl) | (go_simp; done))); simp only [Act.put, List.setIfInBounds_toArray, List.set_cons_zero, List.set_cons_succ]) | (refine wpG_at_skip (by rfl) ?_; simp only [Act.put, List.setIfInBounds_toArray, List.set_cons_zero, List.set_cons_succ]) | (refine wpG_held_skip (by rfl) ?_; simp only [Act.put, List.setIfInBounds_toArray, List.set_cons_zero, List.set_cons_succ]) | (refine wpG_held (v := ?_) (by rfl) ?_ ?_; rotate_left; (focus (intro w' hSw; (try dsimp only at hSw); go_split_ands; first | (go_simp; with_reducible rfl) | (go_simp; done))); simp only [Act.put, List.setIfInBounds_toArray, List.set_cons_zero, List.set_cons_succ]))
        refine wpG_nil (NoPanic.normal ?_)
        go_wp2_with fail
        go_ret2
        exact ⟨rfl, K3.drew⟩
  ·
    repeat (first | (refine wpG_at (v := ?_) (by rfl) ?_ ?_; rotate_left; (focus (first | (go_simp; with_reducible rfl) | (go_simp; done))); simp only [Act.put, List.setIfInBounds_toArray, List.set_cons_zero, List.set_cons_succ]) | (refine wpG_at_skip (by rfl) ?_; simp only [Act.put, List.setIfInBounds_toArray, List.set_cons_zero, List.set_cons_succ]) | (refine wpG_held_skip (by rfl) ?_; simp only [Act.put, List.setIfInBounds_toArray, List.set_cons_zero, List.set_cons_succ]) | (refine wpG_held (v := ?_) (by rfl) ?_ ?_; rotate_left; (focus (intro w' hSw; (try dsimp only at hSw); go_split_ands; first | (go_simp; with_reducible rfl) | (go_simp; done))); simp only [Act.put, List.setIfInBounds_toArray, List.set_cons_zero, List.set_cons_succ]))
    refine wpG_eff (by rfl) (fun K hK => ?_)
    go_simp
    obtain ⟨b4, h4⟩ : ∃ b4, b4 = w.heap.size := ⟨_, rfl⟩
    obtain ⟨W1, hW1⟩ : ∃ W1, W1 = (w.alloc (.cells #[.int .i64 0, .int .u8 0, .int .u8 0, .int .u8 0, .int .u8 0, .int .u8 0, .int .u8 0, .int .u8 0, .int .u8 0, .int .u8 0, .int .u8 0, .int .u8 0, .int .u8 0, .int .u8 0, .int .u8 0, .int .u8 0, .int .u8 0, .int .i64 0, .int .u64 0] 35)).drew := ⟨_, rfl⟩
    have R1 := HR.out.kn ((Kp.refl NoB w).alloc (.cells zX.1.toArray 35)).drew
    have H1 := blk_drew (blk_new' w (.cells zX.1.toArray 35) h4)
    have A1 := (h.out.alloc (.cells zX.1.toArray 35)).drew
    have K1 := ((Kp.refl NoB w).alloc (.cells zX.1.toArray 35)).drew
    have eW : (w.alloc (.cells zX.1.toArray 35)).drew = W1 := hW1.symm
    rw [eW] at R1 H1 A1 K1
    rw [← hW1, ← h4]
    have hb4 : w.heap.size ≤ b4 := by rw [h4]; exact Nat.le_refl _
    have hq4 : q ≠ b4 := by have := blk_lt HR.out.hq; omega
    refine hK _ _ ⟨R1.cs.1, R1.cs.2.1, R1.cs.2.2.1⟩ ?_
    clear hK K hW1 eW h4 Lq
    have Lq1 := R1.cs
    have upq1 := ups Lq1.2.2.2.2.2.2.2
    repeat (first | (refine wpG_at (v := ?_) (by rfl) ?_ ?_; rotate_left; (focus (first | (go_simp; with_reducible rfl) | (go_simp; done))); simp only [Act.put, List.setIfInBounds_toArray, List.set_cons_zero, List.set_cons_succ]) | (refine wpG_at_skip (by rfl) ?_; simp only [Act.put, List.setIfInBounds_toArray, List.set_cons_zero, List.set_cons_succ]) | (refine wpG_held_skip (by rfl) ?_; simp only [Act.put, List.setIfInBounds_toArray, List.set_cons_zero, List.set_cons_succ]) | (refine wpG_held (v := ?_) (by rfl) ?_ ?_; rotate_left; (focus (intro w' hSw; (try dsimp only at hSw); go_split_ands; first | (go_simp; with_reducible rfl) | (go_simp; done))); simp only [Act.put, List.setIfInBounds_toArray, List.set_cons_zero, List.set_cons_succ]))
    refine wpG_eff (by rfl) (fun K hK => ?_)
    go_simp
    refine (HG.out _ A1).mono ?_
    rintro e W2 ⟨rfl, k1⟩
    have R2 := R1.kn k1
    have H4 := k1.get H1 (fun h => h)
    have K2 := K1.trans k1
    clear R1 H1 A1 K1 k1 Lq1 upq1
    refine hK _ _ ⟨R2.cs.1, R2.cs.2.1, R2.cs.2.2.1⟩ ?_
    clear hK K
    repeat (first | (refine wpG_at (v := ?_) (by rfl) ?_ ?_; rotate_left; (focus (first | (go_simp; with_reducible rfl) | (go_simp; done))); simp only [Act.put, List.setIfInBounds_toArray, List.set_cons_zero, List.set_cons_succ]) | (refine wpG_at_skip (by rfl) ?_; simp only [Act.put, List.setIfInBounds_toArray, List.set_cons_zero, List.set_cons_succ]) | (refine wpG_held_skip (by rfl) ?_; simp only [Act.put, List.setIfInBounds_toArray, List.set_cons_zero, List.set_cons_succ]) | (refine wpG_held (v := ?_) (by rfl) ?_ ?_; rotate_left; (focus (intro w' hSw; (try dsimp only at hSw); go_split_ands; first | (go_simp; with_reducible rfl) | (go_simp; done))); simp only [Act.put, List.setIfInBounds_toArray, List.set_cons_zero, List.set_cons_succ]))
    refine wpG_eff (by rfl) (fun K hK => ?_)
    refine wp_stX _ _ rfl b4 0 X0 rfl rfl (rowX H4) ?_
    have kS : Kp (· = b4) W2 (W2.setCells b4 0 X0.1) := (Kp.refl _ W2).setCells _ (fun _ => rfl)
    have R3 := R2.kp kS hq4 (fun b hb e => by subst e; exact R2.hb.ne H4 (by decide) hb)
    have H5 := putX H4 X0
    have K3 : Kp NoB w (W2.setCells b4 0 X0.1) := K2.setCells _ (fun h => absurd h (by omega))
    obtain ⟨W3, hW3⟩ : ∃ W3, W3 = W2.setCells b4 0 X0.1 := ⟨_, rfl⟩
    rw [← hW3] at R3 H5 K3 ⊢
    clear hW3 kS R2 H4 K2
    refine hK _ _ ⟨R3.cs.1, R3.cs.2.1, R3.cs.2.2.1⟩ ?_
    clear hK K
    repeat (first | (refine wpG_at (v := ?_) (by rfl) ?_ ?_; rotate_left; (focus (first | (go_simp; with_reducible rfl) | (go_simp; done))); simp only [Act.put, List.setIfInBounds_toArray, List.set_cons_zero, List.set_cons_succ]) | (refine wpG_at_skip (by rfl) ?_; simp only [Act.put, List.setIfInBounds_toArray, List.set_cons_zero, List.set_cons_succ]) | (refine wpG_held_skip (by rfl) ?_; simp only [Act.put, List.setIfInBounds_toArray, List.set_cons_zero, List.set_cons_succ]) | (refine wpG_held (v := ?_) (by rfl) ?_ ?_; rotate_left; (focus (intro w' hSw; (try dsimp only at hSw); go_split_ands; first | (go_simp; with_reducible rfl) | (go_simp; done))); simp only [Act.put, List.setIfInBounds_toArray, List.set_cons_zero, List.set_cons_succ]))
    refine wpG_nil (NoPanic.normal ?_)
    have hX := hX0.out
    rw [hX] at H5
    have c0 : W3.cell? ⟨b4, 0, none⟩ = some (.int .i64 n) := by rw [cell_of H5]; rfl
    have LR := R3.cs
    clear H5 R3 hX upq
    by_cases n1 : n < 1
    · have d1 : decide (n < 1) = true := by simpa using n1
      go_wp2_with fail
      refine wp_region_G (fun _ => True) [(0, .at_), (1, .at_), (2, .at_), (3, .at_), (4, .at_), (5, .at_), (6, .at_), (7, .at_), (8, .at_), (9, .at_), (10, .at_), (11, .at_), (12, .at_), (13, .at_), (14, .at_), (15, .at_), (16, .at_), (17, .at_), (18, .at_), (19, .at_)] ?L6 (by kernel_rfl) (by kernel_rfl) ?hL6 (trivial) ?hG6
      case hL6 => simp only [pickOps, List.map_cons, List.map_nil, List.getD_cons_zero, List.getD_cons_succ]; rfl
      repeat (first | (refine wpG_at (v := ?_) (by rfl) ?_ ?_; rotate_left; (focus (first | (go_simp; with_reducible rfl) | (go_simp; done))); simp only [Act.put, List.setIfInBounds_toArray, List.set_cons_zero, List.set_cons_succ]) | (refine wpG_at_skip (by rfl) ?_; simp only [Act.put, List.setIfInBounds_toArray, List.set_cons_zero, List.set_cons_succ]) | (refine wpG_held_skip (by rfl) ?_; simp only [Act.put, List.setIfInBounds_toArray, List.set_cons_zero, List.set_cons_succ]) | (refine wpG_held (v := ?_) (by rfl) ?_ ?_; rotate_left; (focus (intro w' hSw; (try dsimp only at hSw); go_split_ands; first | (go_simp; with_reducible rfl) | (go_simp; done))); simp only [Act.put, List.setIfInBounds_toArray, List.set_cons_zero, List.set_cons_succ]))
      refine wpG_nil (NoPanic.normal ?_)
      go_wp2_with fail
      go_ret2
      exact ⟨rfl, K3.drew⟩
    · have d1 : decide (n < 1) = false := by simpa using n1
      by_cases n16 : 16 < n
      · have d2 : decide (16 < n) = true := by simpa using n16
        go_wp2_with fail
        refine wp_region_G (fun _ => True) [(0, .at_), (1, .at_), (2, .at_), (3, .at_), (4, .at_), (5, .at_), (6, .at_), (7, .at_), (8, .at_), (9, .at_), (10, .at_), (11, .at_), (12, .at_), (13, .at_), (14, .at_), (15, .at_), (16, .at_), (17, .at_), (18, .at_), (19, .at_)] ?L7 (by kernel_rfl) (by kernel_rfl) ?hL7 (trivial) ?hG7
        case hL7 => simp only [pickOps, List.map_cons, List.map_nil, List.getD_cons_zero, List.getD_cons_succ]; rfl
        repeat (first | (refine wpG_at (v := ?_) (by rfl) ?_ ?_; rotate_left; (focus (first | (go_simp; with_reducible rfl) | (go_simp; done))); simp only [Act.put, List.setIfInBounds_toArray, List.set_cons_zero, List.set_cons_succ]) | (refine wpG_at_skip (by rfl) ?_; simp only [Act.put, List.setIfInBounds_toArray, List.set_cons_zero, List.set_cons_succ]) | (refine wpG_held_skip (by rfl) ?_; simp only [Act.put, List.setIfInBounds_toArray, List.set_cons_zero, List.set_cons_succ]) | (refine wpG_held (v := ?_) (by rfl) ?_ ?_; rotate_left; (focus (intro w' hSw; (try dsimp only at hSw); go_split_ands; first | (go_simp; with_reducible rfl) | (go_simp; done))); simp only [Act.put, List.setIfInBounds_toArray, List.set_cons_zero, List.set_cons_succ]))
        refine wpG_nil (NoPanic.normal ?_)
        go_wp2_with fail
        go_ret2
        exact ⟨rfl, K3.drew⟩
      · have hnn : 256 < (M.length : Int) + n := by omega
        have hwr : IntKind.i64.wrap ((M.length : Int) + n) = (M.length : Int) + n := wi_in (by omega)
        have d2 : decide (16 < n) = false := by simpa using n16
        have d3 : decide (256 < (M.length : Int) + n) = true := by simpa using hnn
        clear hn
        go_wp2_with fail
        refine wp_region_G (fun _ => True) [(0, .at_), (1, .at_), (2, .at_), (3, .at_), (4, .at_), (5, .at_), (6, .at_), (7, .at_), (8, .at_), (9, .at_), (10, .at_), (11, .at_), (12, .at_), (13, .at_), (14, .at_), (15, .at_), (16, .at_), (17, .at_), (18, .at_), (19, .at_)] ?L8 (by kernel_rfl) (by kernel_rfl) ?hL8 (trivial) ?hG8
        case hL8 => simp only [pickOps, List.map_cons, List.map_nil, List.getD_cons_zero, List.getD_cons_succ]; rfl
        repeat (first | (refine wpG_at (v := ?_) (by rfl) ?_ ?_; rotate_left; (focus (first | (go_simp; with_reducible rfl) | (go_simp; done))); simp only [Act.put, List.setIfInBounds_toArray, List.set_cons_zero, List.set_cons_succ]) | (refine wpG_at_skip (by rfl) ?_; simp only [Act.put, List.setIfInBounds_toArray, List.set_cons_zero, List.set_cons_succ]) | (refine wpG_held_skip (by rfl) ?_; simp only [Act.put, List.setIfInBounds_toArray, List.set_cons_zero, List.set_cons_succ]) | (refine wpG_held (v := ?_) (by rfl) ?_ ?_; rotate_left; (focus (intro w' hSw; (try dsimp only at hSw); go_split_ands; first | (go_simp; with_reducible rfl) | (go_simp; done))); simp only [Act.put, List.setIfInBounds_toArray, List.set_cons_zero, List.set_cons_succ]))
        refine wpG_nil (NoPanic.normal ?_)
        go_wp2_with fail
        go_ret2
        exact ⟨rfl, K3.drew⟩
theorem grow_bytes {W : World} {u : Value} {M : List Int} (h : RowAt W 5 eB 1 u M) (a : Addr) (N : List Int) (c : Nat) (hN : ∀ j x, N[j]? = some x → W.cell? (a.add j) = some (.int .u8 x)) (hl : M.length + N.length ≤ 100000) :
    ∃ v' W', (Builtin.append_ #[22, 22] 22 #[u, .slice (some a) N.length c]).run Try.prog W = .ok v' W' ∧ RowAt W' 5 eB 1 v' (M ++ N) ∧ W.grownBy W' u.ownBlock ∧ (v'.ownBlock = u.ownBlock ∨ ∃ b, v'.ownBlock = some b ∧ W.heap.size ≤ b) := by
  obtain ⟨i, hi, hzz⟩ := Option.map_eq_some_iff.1 i5
  simp only [Prod.mk.injEq] at hzz
  obtain ⟨hz, hsz, hby⟩ := hzz
  refine run_grow (P := Try.prog) eB_len (by omega) 22 22 5 i _ 1 sl22 hi hz hsz hby rfl u M h a N c ?_ (one_B N) (by omega) (by omega)
  intro j x hj
  rw [flatB, List.getElem?_map] at hj
  obtain ⟨z, hz1, rfl⟩ := Option.map_eq_some_iff.1 hj
  exact hN j z hz1
theorem range_get {b : Nat → Int} {n j : Nat} {x : Int} (h : ((List.range n).map b)[j]? = some x) : j < n ∧ x = b j := by
  rw [List.getElem?_map] at h
  obtain ⟨z, hz, rfl⟩ := Option.map_eq_some_iff.1 h
  have := List.getElem?_eq_some_iff.1 hz
  obtain ⟨h1, h2⟩ := this
  simp at h1 h2
  subst h2
  exact ⟨h1, rfl⟩
def RsPost (w : World) (q p : Nat) (bv : Value) (M : List Int) (n : Nat) (b : Nat → Int) (i' g' : Int) (e : Ending) (w' : World) : Prop :=
  e = .returned (.tuple #[.bool (g' == 0), .int .i64 0]) ∧ ∃ bv', RAt w' q p i' g' bv' (M ++ (List.range n).map b) ∧ (bv'.ownBlock = bv.ownBlock ∨ ∃ x, bv'.ownBlock = some x ∧ w.heap.size ≤ x) ∧ Kp (fun x => x = q ∨ bv.ownBlock = some x) w w'
set_option maxRecDepth 100000 in
set_option maxHeartbeats 8000000 in
theorem rstep_go (h : AAt w p l v S B E) (o : AOk S B E) {k : Nat} (hr : RAt w q p k g bv M) (hg : g ≠ 0) {n : Nat} {i' g' : Int} {b : Nat → Int} (hk : S[k]? = some (mkE n b i' g', g, true)) (n1 : 1 ≤ n) (n16 : n ≤ 16) (hM : M.length + n ≤ 256) : Calls Try.prog 26 #[.pointer (some ⟨q, 0, none⟩)] w
    (RsPost w q p bv M n b i' g') := by
  obtain ⟨ob, cb, hbv, _⟩ := hr.hb.form
  subst hbv
  have hown := hr.hb.lt
  have Lq := hr.cs
  have hg0 : (g == 0) = false := by simpa using hg
  have HG := hid (fun (W : World) (h : AAt W p l v S B E) => get_yes h o hk)
  have HR := hid hr
  replace h := hid h
  clear hr hk
  have upq := ups Lq.2.2.2.2.2.2.2
  have hkn : (0 : Int) ≤ (k : Int) := Int.natCast_nonneg _
  obtain ⟨X0, hX0⟩ : ∃ X0, X0 = mkE n b i' g' := ⟨_, rfl⟩
  rw [← hX0] at HG
  replace hX0 := hid hX0
  go_enter Try.func26, Try.ntmps26
  go_wp2_with fail
  refine wp_region_two 8 12 (fun W => W.cell? ⟨q, 0, none⟩ = some (.pointer (some ⟨p, 0, none⟩)) ∧ W.cell? ⟨q, 1, none⟩ = some (.int .i64 k) ∧ W.cell? ⟨q, 2, none⟩ = some (.int .u64 g)) [(0, .at_), (1, .at_), (2, .at_), (3, .at_), (4, .at_), (5, .at_), (6, .at_), (7, .at_), (8, .eff), (9, .held), (10, .held), (11, .held), (12, .eff), (13, .eff), (14, .at_)] [(0, .held), (1, .held), (2, .held), (3, .held), (4, .held), (5, .held), (6, .held), (7, .held), (12, .eff), (8, .eff), (9, .at_), (10, .at_), (11, .held), (13, .eff), (14, .at_)] ?La2 ?Lb2 (by kernel_rfl) (by kernel_rfl) ?hLa2 ?hLb2 (⟨Lq.1, Lq.2.1, Lq.2.2.1⟩) ?hGa2 ?hGb2
  case hLa2 => simp only [pickOps, List.map_cons, List.map_nil, List.getD_cons_zero, List.getD_cons_succ]; rfl
  case hLb2 => simp only [pickOps, List.map_cons, List.map_nil, List.getD_cons_zero, List.getD_cons_succ]; rfl
  ·
    repeat (first | (refine wpG_at (v := ?_) (by rfl) ?_ ?_; rotate_left; (focus (first | (go_simp; with_reducible rfl) | (go_simp; done))); simp only [Act.put, List.setIfInBounds_toArray, List.set_cons_zero, List.set_cons_succ]) | (refine wpG_at_skip (by rfl) ?_; simp only [Act.put, List.setIfInBounds_toArray, List.set_cons_zero, List.set_cons_succ]) | (refine wpG_held_skip (by rfl) ?_; simp only [Act.put, List.setIfInBounds_toArray, List.set_cons_zero, List.set_cons_succ]) | (refine wpG_held (v := ?_) (by rfl) ?_ ?_; rotate_left; (focus (intro w' hSw; (try dsimp only at hSw); go_split_ands; first | (go_simp; with_reducible rfl) | (go_simp; done))); simp only [Act.put, List.setIfInBounds_toArray, List.set_cons_zero, List.set_cons_succ]))
    refine wpG_eff (by rfl) (fun K hK => ?_)
    go_simp
    refine (HG.out _ h.out.drew).mono ?_
    rintro e w1 ⟨rfl, k1⟩
    have k1' : Kp NoB w w1 := (Kp.refl NoB w).drew.trans k1
    have R1 := HR.out.kn k1'
    refine hK _ _ ⟨R1.cs.1, R1.cs.2.1, R1.cs.2.2.1⟩ ?_
    clear hK K k1 Lq
    have Lq1 := R1.cs
    have upq1 := ups Lq1.2.2.2.2.2.2.2
    repeat (first | (refine wpG_at (v := ?_) (by rfl) ?_ ?_; rotate_left; (focus (first | (go_simp; with_reducible rfl) | (go_simp; done))); simp only [Act.put, List.setIfInBounds_toArray, List.set_cons_zero, List.set_cons_succ]) | (refine wpG_at_skip (by rfl) ?_; simp only [Act.put, List.setIfInBounds_toArray, List.set_cons_zero, List.set_cons_succ]) | (refine wpG_held_skip (by rfl) ?_; simp only [Act.put, List.setIfInBounds_toArray, List.set_cons_zero, List.set_cons_succ]) | (refine wpG_held (v := ?_) (by rfl) ?_ ?_; rotate_left; (focus (intro w' hSw; (try dsimp only at hSw); go_split_ands; first | (go_simp; with_reducible rfl) | (go_simp; done))); simp only [Act.put, List.setIfInBounds_toArray, List.set_cons_zero, List.set_cons_succ]))
    refine wpG_eff (by rfl) (fun K hK => ?_)
    go_simp
    obtain ⟨b4, h4⟩ : ∃ b4, b4 = w1.heap.size := ⟨_, rfl⟩
    obtain ⟨W2, hW2⟩ : ∃ W2, W2 = w1.alloc (.cells #[.int .i64 0, .int .u8 0, .int .u8 0, .int .u8 0, .int .u8 0, .int .u8 0, .int .u8 0, .int .u8 0, .int .u8 0, .int .u8 0, .int .u8 0, .int .u8 0, .int .u8 0, .int .u8 0, .int .u8 0, .int .u8 0, .int .u8 0, .int .i64 0, .int .u64 0] 35) := ⟨_, rfl⟩
    have R2 := R1.kn ((Kp.refl NoB w1).alloc (.cells zX.1.toArray 35))
    have H4 := blk_new' w1 (.cells zX.1.toArray 35) h4
    have K2 := k1'.alloc (.cells zX.1.toArray 35)
    have eW : w1.alloc (.cells zX.1.toArray 35) = W2 := hW2.symm
    rw [eW] at R2 H4 K2
    rw [← hW2, ← h4]
    have hb4 : w.heap.size ≤ b4 := by rw [h4]; exact k1'.size
    have hq4 : q ≠ b4 := by have := blk_lt HR.out.hq; omega
    clear hW2 eW h4 R1 k1' Lq1 upq1
    refine hK _ _ ⟨R2.cs.1, R2.cs.2.1, R2.cs.2.2.1⟩ ?_
    clear hK K
    repeat (first | (refine wpG_at (v := ?_) (by rfl) ?_ ?_; rotate_left; (focus (first | (go_simp; with_reducible rfl) | (go_simp; done))); simp only [Act.put, List.setIfInBounds_toArray, List.set_cons_zero, List.set_cons_succ]) | (refine wpG_at_skip (by rfl) ?_; simp only [Act.put, List.setIfInBounds_toArray, List.set_cons_zero, List.set_cons_succ]) | (refine wpG_held_skip (by rfl) ?_; simp only [Act.put, List.setIfInBounds_toArray, List.set_cons_zero, List.set_cons_succ]) | (refine wpG_held (v := ?_) (by rfl) ?_ ?_; rotate_left; (focus (intro w' hSw; (try dsimp only at hSw); go_split_ands; first | (go_simp; with_reducible rfl) | (go_simp; done))); simp only [Act.put, List.setIfInBounds_toArray, List.set_cons_zero, List.set_cons_succ]))
    refine wpG_eff (by rfl) (fun K hK => ?_)

    refine wp_stX _ _ rfl b4 0 X0 rfl rfl (rowX H4) ?_
    have kS : Kp (· = b4) W2 (W2.setCells b4 0 X0.1) := (Kp.refl _ W2).setCells _ (fun _ => rfl)
    have R3 := R2.kp kS hq4 (fun b hb e => by subst e; exact R2.hb.ne H4 (by decide) hb)
    have H5 := putX H4 X0
    have K3 : Kp NoB w (W2.setCells b4 0 X0.1) := K2.setCells _ (fun h => absurd h (by omega))
    obtain ⟨W3, hW3⟩ : ∃ W3, W3 = W2.setCells b4 0 X0.1 := ⟨_, rfl⟩
    rw [← hW3] at R3 H5 K3 ⊢
    clear hW3 kS R2 H4 K2
    refine hK _ _ ⟨R3.cs.1, R3.cs.2.1, R3.cs.2.2.1⟩ ?_
    clear hK K
    repeat (first | (refine wpG_at (v := ?_) (by rfl) ?_ ?_; rotate_left; (focus (first | (go_simp; with_reducible rfl) | (go_simp; done))); simp only [Act.put, List.setIfInBounds_toArray, List.set_cons_zero, List.set_cons_succ]) | (refine wpG_at_skip (by rfl) ?_; simp only [Act.put, List.setIfInBounds_toArray, List.set_cons_zero, List.set_cons_succ]) | (refine wpG_held_skip (by rfl) ?_; simp only [Act.put, List.setIfInBounds_toArray, List.set_cons_zero, List.set_cons_succ]) | (refine wpG_held (v := ?_) (by rfl) ?_ ?_; rotate_left; (focus (intro w' hSw; (try dsimp only at hSw); go_split_ands; first | (go_simp; with_reducible rfl) | (go_simp; done))); simp only [Act.put, List.setIfInBounds_toArray, List.set_cons_zero, List.set_cons_succ]))
    refine wpG_nil (NoPanic.normal ?_)
    have hX := hX0.out
    rw [hX] at H5
    have c0 : W3.cell? ⟨b4, 0, none⟩ = some (.int .i64 n) := by rw [cell_of H5]; rfl
    have c17 : W3.cell? ⟨b4, 17, none⟩ = some (.int .i64 i') := by rw [cell_of H5]; rfl
    have c18 : W3.cell? ⟨b4, 18, none⟩ = some (.int .u64 g') := by rw [cell_of H5]; rfl
    have LR := R3.cs
    have hN : ∀ j x, ((List.range n).map b)[j]? = some x → W3.drew.drew.cell? ((⟨b4, 1, none⟩ : Addr).add j) = some (.int .u8 x) := fun j x hj => by
      obtain ⟨hj1, rfl⟩ := range_get hj
      rw [Addr.add_lit]
      show W3.cell? _ = _
      rw [cell_of H5, List.getElem?_toArray, mkE_b _ _ _ _ (by omega)]
    obtain ⟨v', W4, hrun, q1, q2, q3⟩ := grow_bytes (W := W3.drew.drew) R3.hb.drew.drew ⟨b4, 1, none⟩ ((List.range n).map b) 16 hN (by simp; omega)
    have hln : ((List.range n).map b).length = n := by simp
    rw [hln] at hrun
    obtain ⟨oo, nn, cc, hv'⟩ : ∃ oo nn cc, v' = .slice oo nn cc := by obtain ⟨o, c, h, _⟩ := q1.form; exact ⟨_, _, _, h⟩
    subst hv'
    have kG : Kp (fun x => (Value.slice ob M.length cb).ownBlock = some x) W3.drew.drew W4 := kp_grown q2 (fun b hb => hb)
    have hq4' := kG.get (blk_drew (blk_drew R3.hq)) (fun e => R3.hb.ne R3.hq (by decide) e)
    have H54 := kG.get (blk_drew (blk_drew H5)) (fun e => R3.hb.ne H5 (by decide) e)
    have hbo : (Value.slice oo nn cc).ownBlock = (Value.slice ob M.length cb).ownBlock ∨ ∃ x, (Value.slice oo nn cc).ownBlock = some x ∧ w.heap.size ≤ x := q3.imp id (fun ⟨b, e, h⟩ => ⟨b, e, Nat.le_trans K3.size h⟩)
    have K4 : Kp (fun x => x = q ∨ (Value.slice ob M.length cb).ownBlock = some x) w W4 := (K3.mono (fun _ h => h.elim)).trans (⟨kG.os, kG.tape, kG.output, kG.size, fun b hb hf => kG.blk b hb (fun e => hf (.inr e))⟩ : Kp _ W3 W4)
    have hvq : (Value.slice oo nn cc).ownBlock ≠ some q := q1.ne hq4' (by decide)
    have FR : RAt (((W4.setCell ⟨q, 3, none⟩ (.slice oo nn cc)).setCell ⟨q, 1, none⟩ (.int .i64 i')).setCell ⟨q, 2, none⟩ (.int .u64 g')) q p i' g' (.slice oo nn cc) (M ++ (List.range n).map b) :=
      ⟨blk_setCell (blk_setCell (blk_setCell hq4' 3 _) 1 _) 2 _, ((q1.setCell _ _ hvq).setCell _ _ hvq).setCell _ _ hvq⟩
    have FK : Kp (fun x => x = q ∨ (Value.slice ob M.length cb).ownBlock = some x) w (((W4.setCell ⟨q, 3, none⟩ (.slice oo nn cc)).setCell ⟨q, 1, none⟩ (.int .i64 i')).setCell ⟨q, 2, none⟩ (.int .u64 g')) := ((K4.setCell _ (fun _ => .inl rfl)).setCell _ (fun _ => .inl rfl)).setCell _ (fun _ => .inl rfl)
    have e0 : W4.cell? ⟨q, 0, none⟩ = some (.pointer (some ⟨p, 0, none⟩)) := by rw [cell_of hq4']; rfl
    have e1 : W4.cell? ⟨q, 1, none⟩ = some (.int .i64 k) := by rw [cell_of hq4']; rfl
    have e2 : W4.cell? ⟨q, 2, none⟩ = some (.int .u64 g) := by rw [cell_of hq4']; rfl
    have e3 : W4.cell? ⟨q, 3, none⟩ = some (.slice ob M.length cb) := by rw [cell_of hq4']; rfl
    have f1 := frozen_of hq4' 1
    have f2 := frozen_of hq4' 2
    have f3 := frozen_of hq4' 3
    have x17 : W4.cell? ⟨b4, 17, none⟩ = some (.int .i64 i') := by rw [cell_of H54]; rfl
    have x18 : W4.cell? ⟨b4, 18, none⟩ = some (.int .u64 g') := by rw [cell_of H54]; rfl
    have hq4n : b4 ≠ q := Ne.symm hq4
    have d1 : decide ((n : Int) < 1) = false := by simp; omega
    have d2 : decide (16 < (n : Int)) = false := by simp; omega
    have hwr : IntKind.i64.wrap ((M.length : Int) + n) = (M.length : Int) + n := wi_in (by omega)
    have d3 : decide (256 < (M.length : Int) + n) = false := by simp; omega
    have a1 : (0 : Int) ≤ (n : Int) := Int.natCast_nonneg _
    have a2 : (n : Int) ≤ 16 := by omega
    replace FR := hid FR
    replace FK := hid FK
    replace hrun := hid hrun
    replace hbo := hid hbo
    replace hq4' := hid hq4'
    replace H54 := hid H54
    replace hN := hid hN
    replace hln := hid hln
    clear H5 R3 hX upq q1 q2 q3 kG K3 K4
    go_wp2_with fail
    refine wp_region_G (fun _ => True) [(0, .at_), (1, .at_), (2, .at_), (3, .at_), (4, .at_), (5, .at_), (6, .at_), (7, .at_), (8, .at_), (9, .at_), (10, .at_), (11, .at_), (12, .at_), (13, .at_), (14, .at_), (15, .at_), (16, .at_), (17, .at_), (18, .at_), (19, .at_)] ?L9 (by kernel_rfl) (by kernel_rfl) ?hL9 (trivial) ?hG9
    case hL9 => simp only [pickOps, List.map_cons, List.map_nil, List.getD_cons_zero, List.getD_cons_succ]; rfl
    repeat (first | (refine wpG_at (v := ?_) (by rfl) ?_ ?_; rotate_left; (focus (first | (go_simp; with_reducible rfl) | (go_simp; done))); simp only [Act.put, List.setIfInBounds_toArray, List.set_cons_zero, List.set_cons_succ]) | (refine wpG_at_skip (by rfl) ?_; simp only [Act.put, List.setIfInBounds_toArray, List.set_cons_zero, List.set_cons_succ]) | (refine wpG_held_skip (by rfl) ?_; simp only [Act.put, List.setIfInBounds_toArray, List.set_cons_zero, List.set_cons_succ]) | (refine wpG_held (v := ?_) (by rfl) ?_ ?_; rotate_left; (focus (intro w' hSw; (try dsimp only at hSw); go_split_ands; first | (go_simp; with_reducible rfl) | (go_simp; done))); simp only [Act.put, List.setIfInBounds_toArray, List.set_cons_zero, List.set_cons_succ]))
    refine wpG_nil (NoPanic.normal ?_)
    go_wp2_with fail
    refine wp_region_G (fun _ => True) [(0, .held), (1, .at_), (2, .at_), (3, .at_), (4, .at_), (5, .at_), (6, .at_), (7, .at_), (8, .at_), (9, .eff), (10, .at_), (11, .at_), (12, .eff)] ?L10 (by kernel_rfl) (by kernel_rfl) ?hL10 (trivial) ?hG10
    case hL10 => simp only [pickOps, List.map_cons, List.map_nil, List.getD_cons_zero, List.getD_cons_succ]; rfl
    repeat (first | (refine wpG_at (v := ?_) (by rfl) ?_ ?_; rotate_left; (focus (first | (go_simp; with_reducible rfl) | (go_simp; done))); simp only [Act.put, List.setIfInBounds_toArray, List.set_cons_zero, List.set_cons_succ]) | (refine wpG_at_skip (by rfl) ?_; simp only [Act.put, List.setIfInBounds_toArray, List.set_cons_zero, List.set_cons_succ]) | (refine wpG_held_skip (by rfl) ?_; simp only [Act.put, List.setIfInBounds_toArray, List.set_cons_zero, List.set_cons_succ]) | (refine wpG_held (v := ?_) (by rfl) ?_ ?_; rotate_left; (focus (intro w' hSw; (try dsimp only at hSw); go_split_ands; first | (go_simp; with_reducible rfl) | (go_simp; done))); simp only [Act.put, List.setIfInBounds_toArray, List.set_cons_zero, List.set_cons_succ]))
    refine wpG_eff (by rfl) (fun K hK => ?_)
    refine Lib.wp_append_run _ _ _ 22 22 rfl (.slice ob M.length cb) (.slice (some ⟨b4, 1, none⟩) n 16) rfl rfl _ _ hrun.out ?_
    refine hK _ _ trivial ?_
    clear hK K c0 c17 c18 LR
    repeat (first | (refine wpG_at (v := ?_) (by rfl) ?_ ?_; rotate_left; (focus (first | (go_simp; with_reducible rfl) | (go_simp; done))); simp only [Act.put, List.setIfInBounds_toArray, List.set_cons_zero, List.set_cons_succ]) | (refine wpG_at_skip (by rfl) ?_; simp only [Act.put, List.setIfInBounds_toArray, List.set_cons_zero, List.set_cons_succ]) | (refine wpG_held_skip (by rfl) ?_; simp only [Act.put, List.setIfInBounds_toArray, List.set_cons_zero, List.set_cons_succ]) | (refine wpG_held (v := ?_) (by rfl) ?_ ?_; rotate_left; (focus (intro w' hSw; (try dsimp only at hSw); go_split_ands; first | (go_simp; with_reducible rfl) | (go_simp; done))); simp only [Act.put, List.setIfInBounds_toArray, List.set_cons_zero, List.set_cons_succ]))
    refine wpG_eff (by rfl) (fun K hK => ?_)
    go_simp
    refine hK _ _ trivial ?_
    clear hK K
    repeat (first | (refine wpG_at (v := ?_) (by rfl) ?_ ?_; rotate_left; (focus (first | (go_simp; with_reducible rfl) | (go_simp; done))); simp only [Act.put, List.setIfInBounds_toArray, List.set_cons_zero, List.set_cons_succ]) | (refine wpG_at_skip (by rfl) ?_; simp only [Act.put, List.setIfInBounds_toArray, List.set_cons_zero, List.set_cons_succ]) | (refine wpG_held_skip (by rfl) ?_; simp only [Act.put, List.setIfInBounds_toArray, List.set_cons_zero, List.set_cons_succ]) | (refine wpG_held (v := ?_) (by rfl) ?_ ?_; rotate_left; (focus (intro w' hSw; (try dsimp only at hSw); go_split_ands; first | (go_simp; with_reducible rfl) | (go_simp; done))); simp only [Act.put, List.setIfInBounds_toArray, List.set_cons_zero, List.set_cons_succ]))
    refine wpG_nil (NoPanic.normal ?_)
    go_wp2_with fail
    go_ret2
    exact ⟨rfl, _, FR.out, hbo.out, FK.out⟩
  ·
    repeat (first | (refine wpG_at (v := ?_) (by rfl) ?_ ?_; rotate_left; (focus (first | (go_simp; with_reducible rfl) | (go_simp; done))); simp only [Act.put, List.setIfInBounds_toArray, List.set_cons_zero, List.set_cons_succ]) | (refine wpG_at_skip (by rfl) ?_; simp only [Act.put, List.setIfInBounds_toArray, List.set_cons_zero, List.set_cons_succ]) | (refine wpG_held_skip (by rfl) ?_; simp only [Act.put, List.setIfInBounds_toArray, List.set_cons_zero, List.set_cons_succ]) | (refine wpG_held (v := ?_) (by rfl) ?_ ?_; rotate_left; (focus (intro w' hSw; (try dsimp only at hSw); go_split_ands; first | (go_simp; with_reducible rfl) | (go_simp; done))); simp only [Act.put, List.setIfInBounds_toArray, List.set_cons_zero, List.set_cons_succ]))
    refine wpG_eff (by rfl) (fun K hK => ?_)
    go_simp
    obtain ⟨b4, h4⟩ : ∃ b4, b4 = w.heap.size := ⟨_, rfl⟩
    obtain ⟨W1, hW1⟩ : ∃ W1, W1 = (w.alloc (.cells #[.int .i64 0, .int .u8 0, .int .u8 0, .int .u8 0, .int .u8 0, .int .u8 0, .int .u8 0, .int .u8 0, .int .u8 0, .int .u8 0, .int .u8 0, .int .u8 0, .int .u8 0, .int .u8 0, .int .u8 0, .int .u8 0, .int .u8 0, .int .i64 0, .int .u64 0] 35)).drew := ⟨_, rfl⟩
    have R1 := HR.out.kn ((Kp.refl NoB w).alloc (.cells zX.1.toArray 35)).drew
    have H1 := blk_drew (blk_new' w (.cells zX.1.toArray 35) h4)
    have A1 := (h.out.alloc (.cells zX.1.toArray 35)).drew
    have K1 := ((Kp.refl NoB w).alloc (.cells zX.1.toArray 35)).drew
    have eW : (w.alloc (.cells zX.1.toArray 35)).drew = W1 := hW1.symm
    rw [eW] at R1 H1 A1 K1
    rw [← hW1, ← h4]
    have hb4 : w.heap.size ≤ b4 := by rw [h4]; exact Nat.le_refl _
    have hq4 : q ≠ b4 := by have := blk_lt HR.out.hq; omega
    refine hK _ _ ⟨R1.cs.1, R1.cs.2.1, R1.cs.2.2.1⟩ ?_
    clear hK K hW1 eW h4 Lq
    have Lq1 := R1.cs
    have upq1 := ups Lq1.2.2.2.2.2.2.2
    repeat (first | (refine wpG_at (v := ?_) (by rfl) ?_ ?_; rotate_left; (focus (first | (go_simp; with_reducible rfl) | (go_simp; done))); simp only [Act.put, List.setIfInBounds_toArray, List.set_cons_zero, List.set_cons_succ]) | (refine wpG_at_skip (by rfl) ?_; simp only [Act.put, List.setIfInBounds_toArray, List.set_cons_zero, List.set_cons_succ]) | (refine wpG_held_skip (by rfl) ?_; simp only [Act.put, List.setIfInBounds_toArray, List.set_cons_zero, List.set_cons_succ]) | (refine wpG_held (v := ?_) (by rfl) ?_ ?_; rotate_left; (focus (intro w' hSw; (try dsimp only at hSw); go_split_ands; first | (go_simp; with_reducible rfl) | (go_simp; done))); simp only [Act.put, List.setIfInBounds_toArray, List.set_cons_zero, List.set_cons_succ]))
    refine wpG_eff (by rfl) (fun K hK => ?_)
    go_simp
    refine (HG.out _ A1).mono ?_
    rintro e W2 ⟨rfl, k1⟩
    have R2 := R1.kn k1
    have H4 := k1.get H1 (fun h => h)
    have K2 := K1.trans k1
    clear R1 H1 A1 K1 k1 Lq1 upq1
    refine hK _ _ ⟨R2.cs.1, R2.cs.2.1, R2.cs.2.2.1⟩ ?_
    clear hK K
    repeat (first | (refine wpG_at (v := ?_) (by rfl) ?_ ?_; rotate_left; (focus (first | (go_simp; with_reducible rfl) | (go_simp; done))); simp only [Act.put, List.setIfInBounds_toArray, List.set_cons_zero, List.set_cons_succ]) | (refine wpG_at_skip (by rfl) ?_; simp only [Act.put, List.setIfInBounds_toArray, List.set_cons_zero, List.set_cons_succ]) | (refine wpG_held_skip (by rfl) ?_; simp only [Act.put, List.setIfInBounds_toArray, List.set_cons_zero, List.set_cons_succ]) | (refine wpG_held (v := ?_) (by rfl) ?_ ?_; rotate_left; (focus (intro w' hSw; (try dsimp only at hSw); go_split_ands; first | (go_simp; with_reducible rfl) | (go_simp; done))); simp only [Act.put, List.setIfInBounds_toArray, List.set_cons_zero, List.set_cons_succ]))
    refine wpG_eff (by rfl) (fun K hK => ?_)
    refine wp_stX _ _ rfl b4 0 X0 rfl rfl (rowX H4) ?_
    have kS : Kp (· = b4) W2 (W2.setCells b4 0 X0.1) := (Kp.refl _ W2).setCells _ (fun _ => rfl)
    have R3 := R2.kp kS hq4 (fun b hb e => by subst e; exact R2.hb.ne H4 (by decide) hb)
    have H5 := putX H4 X0
    have K3 : Kp NoB w (W2.setCells b4 0 X0.1) := K2.setCells _ (fun h => absurd h (by omega))
    obtain ⟨W3, hW3⟩ : ∃ W3, W3 = W2.setCells b4 0 X0.1 := ⟨_, rfl⟩
    rw [← hW3] at R3 H5 K3 ⊢
    clear hW3 kS R2 H4 K2
    refine hK _ _ ⟨R3.cs.1, R3.cs.2.1, R3.cs.2.2.1⟩ ?_
    clear hK K
    repeat (first | (refine wpG_at (v := ?_) (by rfl) ?_ ?_; rotate_left; (focus (first | (go_simp; with_reducible rfl) | (go_simp; done))); simp only [Act.put, List.setIfInBounds_toArray, List.set_cons_zero, List.set_cons_succ]) | (refine wpG_at_skip (by rfl) ?_; simp only [Act.put, List.setIfInBounds_toArray, List.set_cons_zero, List.set_cons_succ]) | (refine wpG_held_skip (by rfl) ?_; simp only [Act.put, List.setIfInBounds_toArray, List.set_cons_zero, List.set_cons_succ]) | (refine wpG_held (v := ?_) (by rfl) ?_ ?_; rotate_left; (focus (intro w' hSw; (try dsimp only at hSw); go_split_ands; first | (go_simp; with_reducible rfl) | (go_simp; done))); simp only [Act.put, List.setIfInBounds_toArray, List.set_cons_zero, List.set_cons_succ]))
    refine wpG_nil (NoPanic.normal ?_)
    have hX := hX0.out
    rw [hX] at H5
    have c0 : W3.cell? ⟨b4, 0, none⟩ = some (.int .i64 n) := by rw [cell_of H5]; rfl
    have c17 : W3.cell? ⟨b4, 17, none⟩ = some (.int .i64 i') := by rw [cell_of H5]; rfl
    have c18 : W3.cell? ⟨b4, 18, none⟩ = some (.int .u64 g') := by rw [cell_of H5]; rfl
    have LR := R3.cs
    have hN : ∀ j x, ((List.range n).map b)[j]? = some x → W3.drew.drew.cell? ((⟨b4, 1, none⟩ : Addr).add j) = some (.int .u8 x) := fun j x hj => by
      obtain ⟨hj1, rfl⟩ := range_get hj
      rw [Addr.add_lit]
      show W3.cell? _ = _
      rw [cell_of H5, List.getElem?_toArray, mkE_b _ _ _ _ (by omega)]
    obtain ⟨v', W4, hrun, q1, q2, q3⟩ := grow_bytes (W := W3.drew.drew) R3.hb.drew.drew ⟨b4, 1, none⟩ ((List.range n).map b) 16 hN (by simp; omega)
    have hln : ((List.range n).map b).length = n := by simp
    rw [hln] at hrun
    obtain ⟨oo, nn, cc, hv'⟩ : ∃ oo nn cc, v' = .slice oo nn cc := by obtain ⟨o, c, h, _⟩ := q1.form; exact ⟨_, _, _, h⟩
    subst hv'
    have kG : Kp (fun x => (Value.slice ob M.length cb).ownBlock = some x) W3.drew.drew W4 := kp_grown q2 (fun b hb => hb)
    have hq4' := kG.get (blk_drew (blk_drew R3.hq)) (fun e => R3.hb.ne R3.hq (by decide) e)
    have H54 := kG.get (blk_drew (blk_drew H5)) (fun e => R3.hb.ne H5 (by decide) e)
    have hbo : (Value.slice oo nn cc).ownBlock = (Value.slice ob M.length cb).ownBlock ∨ ∃ x, (Value.slice oo nn cc).ownBlock = some x ∧ w.heap.size ≤ x := q3.imp id (fun ⟨b, e, h⟩ => ⟨b, e, Nat.le_trans K3.size h⟩)
    have K4 : Kp (fun x => x = q ∨ (Value.slice ob M.length cb).ownBlock = some x) w W4 := (K3.mono (fun _ h => h.elim)).trans (⟨kG.os, kG.tape, kG.output, kG.size, fun b hb hf => kG.blk b hb (fun e => hf (.inr e))⟩ : Kp _ W3 W4)
    have hvq : (Value.slice oo nn cc).ownBlock ≠ some q := q1.ne hq4' (by decide)
    have FR : RAt (((W4.setCell ⟨q, 3, none⟩ (.slice oo nn cc)).setCell ⟨q, 1, none⟩ (.int .i64 i')).setCell ⟨q, 2, none⟩ (.int .u64 g')) q p i' g' (.slice oo nn cc) (M ++ (List.range n).map b) :=
      ⟨blk_setCell (blk_setCell (blk_setCell hq4' 3 _) 1 _) 2 _, ((q1.setCell _ _ hvq).setCell _ _ hvq).setCell _ _ hvq⟩
    have FK : Kp (fun x => x = q ∨ (Value.slice ob M.length cb).ownBlock = some x) w (((W4.setCell ⟨q, 3, none⟩ (.slice oo nn cc)).setCell ⟨q, 1, none⟩ (.int .i64 i')).setCell ⟨q, 2, none⟩ (.int .u64 g')) := ((K4.setCell _ (fun _ => .inl rfl)).setCell _ (fun _ => .inl rfl)).setCell _ (fun _ => .inl rfl)
    have e0 : W4.cell? ⟨q, 0, none⟩ = some (.pointer (some ⟨p, 0, none⟩)) := by rw [cell_of hq4']; rfl
    have e1 : W4.cell? ⟨q, 1, none⟩ = some (.int .i64 k) := by rw [cell_of hq4']; rfl
    have e2 : W4.cell? ⟨q, 2, none⟩ = some (.int .u64 g) := by rw [cell_of hq4']; rfl
    have e3 : W4.cell? ⟨q, 3, none⟩ = some (.slice ob M.length cb) := by rw [cell_of hq4']; rfl
    have f1 := frozen_of hq4' 1
    have f2 := frozen_of hq4' 2
    have f3 := frozen_of hq4' 3
    have x17 : W4.cell? ⟨b4, 17, none⟩ = some (.int .i64 i') := by rw [cell_of H54]; rfl
    have x18 : W4.cell? ⟨b4, 18, none⟩ = some (.int .u64 g') := by rw [cell_of H54]; rfl
    have hq4n : b4 ≠ q := Ne.symm hq4
    have d1 : decide ((n : Int) < 1) = false := by simp; omega
    have d2 : decide (16 < (n : Int)) = false := by simp; omega
    have hwr : IntKind.i64.wrap ((M.length : Int) + n) = (M.length : Int) + n := wi_in (by omega)
    have d3 : decide (256 < (M.length : Int) + n) = false := by simp; omega
    have a1 : (0 : Int) ≤ (n : Int) := Int.natCast_nonneg _
    have a2 : (n : Int) ≤ 16 := by omega
    replace FR := hid FR
    replace FK := hid FK
    replace hrun := hid hrun
    replace hbo := hid hbo
    replace hq4' := hid hq4'
    replace H54 := hid H54
    replace hN := hid hN
    replace hln := hid hln
    clear H5 R3 hX upq q1 q2 q3 kG K3 K4
    go_wp2_with fail
    refine wp_region_G (fun _ => True) [(0, .at_), (1, .at_), (2, .at_), (3, .at_), (4, .at_), (5, .at_), (6, .at_), (7, .at_), (8, .at_), (9, .at_), (10, .at_), (11, .at_), (12, .at_), (13, .at_), (14, .at_), (15, .at_), (16, .at_), (17, .at_), (18, .at_), (19, .at_)] ?L11 (by kernel_rfl) (by kernel_rfl) ?hL11 (trivial) ?hG11
    case hL11 => simp only [pickOps, List.map_cons, List.map_nil, List.getD_cons_zero, List.getD_cons_succ]; rfl
    repeat (first | (refine wpG_at (v := ?_) (by rfl) ?_ ?_; rotate_left; (focus (first | (go_simp; with_reducible rfl) | (go_simp; done))); simp only [Act.put, List.setIfInBounds_toArray, List.set_cons_zero, List.set_cons_succ]) | (refine wpG_at_skip (by rfl) ?_; simp only [Act.put, List.setIfInBounds_toArray, List.set_cons_zero, List.set_cons_succ]) | (refine wpG_held_skip (by rfl) ?_; simp only [Act.put, List.setIfInBounds_toArray, List.set_cons_zero, List.set_cons_succ]) | (refine wpG_held (v := ?_) (by rfl) ?_ ?_; rotate_left; (focus (intro w' hSw; (try dsimp only at hSw); go_split_ands; first | (go_simp; with_reducible rfl) | (go_simp; done))); simp only [Act.put, List.setIfInBounds_toArray, List.set_cons_zero, List.set_cons_succ]))
    refine wpG_nil (NoPanic.normal ?_)
    go_wp2_with fail
    refine wp_region_G (fun _ => True) [(0, .held), (1, .at_), (2, .at_), (3, .at_), (4, .at_), (5, .at_), (6, .at_), (7, .at_), (8, .at_), (9, .eff), (10, .at_), (11, .at_), (12, .eff)] ?L12 (by kernel_rfl) (by kernel_rfl) ?hL12 (trivial) ?hG12
    case hL12 => simp only [pickOps, List.map_cons, List.map_nil, List.getD_cons_zero, List.getD_cons_succ]; rfl
    repeat (first | (refine wpG_at (v := ?_) (by rfl) ?_ ?_; rotate_left; (focus (first | (go_simp; with_reducible rfl) | (go_simp; done))); simp only [Act.put, List.setIfInBounds_toArray, List.set_cons_zero, List.set_cons_succ]) | (refine wpG_at_skip (by rfl) ?_; simp only [Act.put, List.setIfInBounds_toArray, List.set_cons_zero, List.set_cons_succ]) | (refine wpG_held_skip (by rfl) ?_; simp only [Act.put, List.setIfInBounds_toArray, List.set_cons_zero, List.set_cons_succ]) | (refine wpG_held (v := ?_) (by rfl) ?_ ?_; rotate_left; (focus (intro w' hSw; (try dsimp only at hSw); go_split_ands; first | (go_simp; with_reducible rfl) | (go_simp; done))); simp only [Act.put, List.setIfInBounds_toArray, List.set_cons_zero, List.set_cons_succ]))
    refine wpG_eff (by rfl) (fun K hK => ?_)
    refine Lib.wp_append_run _ _ _ 22 22 rfl (.slice ob M.length cb) (.slice (some ⟨b4, 1, none⟩) n 16) rfl rfl _ _ hrun.out ?_
    refine hK _ _ trivial ?_
    clear hK K c0 c17 c18 LR
    repeat (first | (refine wpG_at (v := ?_) (by rfl) ?_ ?_; rotate_left; (focus (first | (go_simp; with_reducible rfl) | (go_simp; done))); simp only [Act.put, List.setIfInBounds_toArray, List.set_cons_zero, List.set_cons_succ]) | (refine wpG_at_skip (by rfl) ?_; simp only [Act.put, List.setIfInBounds_toArray, List.set_cons_zero, List.set_cons_succ]) | (refine wpG_held_skip (by rfl) ?_; simp only [Act.put, List.setIfInBounds_toArray, List.set_cons_zero, List.set_cons_succ]) | (refine wpG_held (v := ?_) (by rfl) ?_ ?_; rotate_left; (focus (intro w' hSw; (try dsimp only at hSw); go_split_ands; first | (go_simp; with_reducible rfl) | (go_simp; done))); simp only [Act.put, List.setIfInBounds_toArray, List.set_cons_zero, List.set_cons_succ]))
    refine wpG_eff (by rfl) (fun K hK => ?_)
    go_simp
    refine hK _ _ trivial ?_
    clear hK K
    repeat (first | (refine wpG_at (v := ?_) (by rfl) ?_ ?_; rotate_left; (focus (first | (go_simp; with_reducible rfl) | (go_simp; done))); simp only [Act.put, List.setIfInBounds_toArray, List.set_cons_zero, List.set_cons_succ]) | (refine wpG_at_skip (by rfl) ?_; simp only [Act.put, List.setIfInBounds_toArray, List.set_cons_zero, List.set_cons_succ]) | (refine wpG_held_skip (by rfl) ?_; simp only [Act.put, List.setIfInBounds_toArray, List.set_cons_zero, List.set_cons_succ]) | (refine wpG_held (v := ?_) (by rfl) ?_ ?_; rotate_left; (focus (intro w' hSw; (try dsimp only at hSw); go_split_ands; first | (go_simp; with_reducible rfl) | (go_simp; done))); simp only [Act.put, List.setIfInBounds_toArray, List.set_cons_zero, List.set_cons_succ]))
    refine wpG_nil (NoPanic.normal ?_)
    go_wp2_with fail
    go_ret2
    exact ⟨rfl, _, FR.out, hbo.out, FK.out⟩
end
end Go.Proofs.Ytaanbonbdhjbpaa
