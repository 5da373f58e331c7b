/- The law of the bad, walked. -/
import Derived.Test.YtaanbonbdhjbpaaE18
import Derived.Deep.Cut
namespace Go.Proofs.Ytaanbonbdhjbpaa
set_option linter.unusedSimpArgs false
set_option linter.unusedVariables false
open Go.RowKit
attribute [local go_sem ↓] Go.wp_at_zero Go.wp_at_succ
theorem MM_const (N : Nat) (b : Nat → Nat → Int) (j : Nat) : (MM (fun _ => N) b j).length = j * N := by
  induction j with
  | zero => simp [MM]
  | succ j ih => simp [MM, ih, Nat.succ_mul]
abbrev S2 (n : Int) (i' g' : Int) : List Sl3 := [(mkE n (fun _ => 0) i' g', 1, true), (zX, 1, false)]
section
variable {W : World} {p l q : Nat} {v : Value} {n : Int}
theorem one_bad {g' : Int} (A : AAt W p l v (S2 n 0 g') [] 1) (o : AOk (S2 n 0 g') [] 1) (hb : n < 1 ∨ 16 < n) :
    Calls Try.prog 24 #[.pointer (some ⟨p, 0, none⟩), .agg #[.int .i64 0, .int .u64 1]] W fun e w' => ∃ u, e = .returned (.tuple #[u, .int .i64 16]) ∧ Kp NoB W w' := by
  refine (chain_any (st := fun _ => (0, 1)) (n := fun _ => 0) (b := fun _ _ => 0) (m := 0) A o ⟨fun j hj => absurd hj (by omega), fun j hj => absurd hj (by omega), fun j hj => absurd hj (by omega), by simp [MM]⟩ true
    ⟨0, n, fun _ => 0, 0, g', rfl, by decide, rfl, by simp only [MM, List.length_nil]; omega⟩).mono ?_
  rintro e w' ⟨rfl, k⟩
  exact ⟨_, rfl, k⟩
theorem one_round {N : Nat} (A : AAt W p l v (S2 N 0 1) [] 1) (o : AOk (S2 N 0 1) [] 1) (h1 : 1 ≤ N) (h2 : N ≤ 16) :
    Calls Try.prog 24 #[.pointer (some ⟨p, 0, none⟩), .agg #[.int .i64 0, .int .u64 1]] W fun e w' => ∃ u, e = .returned (.tuple #[u, .int .i64 16]) ∧ Kp NoB W w' := by
  have hd := Nat.div_add_mod 256 N
  have hm := Nat.mod_lt 256 (show N > 0 by omega)
  have hc : 256 / N * N = N * (256 / N) := Nat.mul_comm _ _
  refine (chain_any (st := fun _ => (0, 1)) (n := fun _ => N) (b := fun _ _ => 0) (m := 256 / N) A o ⟨fun j hj => ⟨0, rfl, by decide, rfl⟩, fun j hj => h1, fun j hj => h2, by rw [MM_const]; omega⟩ true
    ⟨0, N, fun _ => 0, 0, 1, rfl, Int.one_pos, rfl, by rw [MM_const]; omega⟩).mono ?_
  rintro e w' ⟨rfl, k⟩
  exact ⟨_, rfl, k⟩
theorem one_good {N : Nat} (A : AAt W p l v (S2 N 0 0) [] 1) (o : AOk (S2 N 0 0) [] 1) (h1 : 1 ≤ N) (h2 : N ≤ 16) :
    Calls Try.prog 24 #[.pointer (some ⟨p, 0, none⟩), .agg #[.int .i64 0, .int .u64 1]] W fun e w' => ∃ u, e = .returned (.tuple #[u, .int .i64 0]) ∧ Kp NoB W w' := by
  refine (chain_any (st := fun j => (0, if j = 0 then 1 else 0)) (n := fun _ => N) (b := fun _ _ => 0) (m := 1) A o ⟨fun j hj => ?_, fun j hj => h1, fun j hj => h2, by rw [MM_const]; omega⟩ false rfl).mono ?_
  · obtain rfl : j = 0 := by omega
    exact ⟨0, rfl, by decide, rfl⟩
  · rintro e w' ⟨u, rfl, _, _, k⟩
    exact ⟨_, rfl, k⟩
end
set_option maxRecDepth 100000 in
set_option maxHeartbeats 8000000 in
theorem bad_law (w : World) (n : Int) (round : Bool) : Calls Try.prog 5 #[.int .i64 n, .bool round] w fun e w' => e = .returned (.bool true) ∧ Kp NoB w w' := by
  have HK := hid known_any
  have HN := hid (new_any 2 (by omega) (by omega) w)
  go_enter Try.func5, Try.ntmps5
  go_wp2_with fail
  refine HN.out.mono ?_
  rintro e w1 ⟨p, l, rfl, A1, hp, hl, k1⟩
  have I1 := AInv.new 2 (by omega) (by omega)
  have HA := hid (alloc_any A1 I1.ok (x := zX) (g := 1) (b := false) rfl)
  have I2 : AInv [(zX, 1, true), (zX, 1, false)] [] 1 := (I1.alloc (by decide) (x := zX) (g := 1)).1
  clear A1 I1 HN
  go_wp2_with fail
  refine HA.out.mono ?_
  rintro e w2 ⟨rfl, v, A2, _, k2⟩
  replace A2 : AAt w2 p l v [(zX, 1, true), (zX, 1, false)] [] 1 := A2
  have kk2 : Kp NoB w w2 := k1.trans' k2 (fun b hb h => by rcases h with h | h <;> omega)
  clear k1 k2 HA
  go_upto_region 5 with fail
  obtain ⟨b7, e7⟩ : ∃ b, b = w2.heap.size := ⟨_, rfl⟩
  obtain ⟨W3, hW3⟩ : ∃ W, W = w2.alloc (.cells #[.int .i64 0, .int .u64 1] 33) := ⟨_, rfl⟩
  have H7 : W3.heap[b7]? = some (.cells #[.int .i64 0, .int .u64 1] 33 (0, 0)) := by rw [hW3]; exact blk_new' _ _ e7
  have A3 := A2.alloc (.cells #[.int .i64 0, .int .u64 1] 33)
  have k3 := kk2.alloc (.cells #[.int .i64 0, .int .u64 1] 33)
  rw [← hW3] at A3 k3
  have e0 : nextI [] 0 = 0 := rfl
  rw [e0]
  simp only [Int.ofNat_zero, Int.natCast_zero]
  rw [← hW3, ← e7]
  clear hW3 e7 A2 kk2 e0
  go_upto_region 6 with (refine stX (by rfl) _ _ rfl _ _ (mkE n (fun _ => 0) 0 0) rfl rfl (there_of (blk_new _ _) (by decide)) ?_)
  obtain ⟨b9, e9⟩ : ∃ b, b = W3.heap.size := ⟨_, rfl⟩
  obtain ⟨W4, hW4⟩ : ∃ W, W = (W3.alloc (.cells #[.int .i64 0, .int .u8 0, .int .u8 0, .int .u8 0, .int .u8 0, .int .u8 0, .int .u8 0, .int .u8 0, .int .u8 0, .int .u8 0, .int .u8 0, .int .u8 0, .int .u8 0, .int .u8 0, .int .u8 0, .int .u8 0, .int .u8 0, .int .i64 0, .int .u64 0] 35)).setCells W3.heap.size 0 (mkE n (fun _ => 0) 0 0).1 := ⟨_, rfl⟩
  have H9 : W4.heap[b9]? = some (.cells (mkE n (fun _ => 0) 0 0).1.toArray 35 (0, 0)) := by rw [hW4, e9]; exact putX (y := zX) (blk_new W3 _) _
  have k43 : Kp NoB W3 W4 := by rw [hW4]; exact ((Kp.refl _ W3).alloc _).setCells _ (fun h => absurd h (by simp))
  rw [← hW4, ← e9]
  have h9n : w.heap.size ≤ b9 := by rw [e9]; exact k3.size
  have h79 : b7 ≠ b9 := by have := blk_lt H7; omega
  have k4 := k3.trans k43
  have A4 := A3.kn k43
  replace H7 := k43.get H7 (fun h => h)
  have l1 : W4.cell? ⟨b7, 0, none⟩ = some (.int .i64 0) := by rw [cell_of H7]; rfl
  have l2 : W4.cell? ⟨b7, 1, none⟩ = some (.int .u64 1) := by rw [cell_of H7]; rfl
  replace e9 := hid e9
  replace I2 := hid I2
  clear hW4 A3 k3 k43
  cases round
  · go_upto_region 8 with fail
    obtain ⟨W5, e5⟩ : ∃ W, W = W4 := ⟨_, rfl⟩
    rw [← e5] at H7 H9 A4 k4 l1 l2 ⊢
    clear e5
    have LY := whole_of H9
    have HS := hid (set_yes A4 I2.out.ok (k := 0) (x := zX) (g := 1) (mkE n (fun _ => 0) 0 0) rfl)
    replace H7 := hid H7
    clear H9
    go_wp2_with (refine ldX (by rfl) _ rfl _ _ rfl (mkE n (fun _ => 0) 0 0) LY ?_)
    refine HS.out.mono ?_
    rintro e W6 ⟨rfl, A6, q6⟩
    replace A6 : AAt W6 p l v (S2 n 0 0) [] 1 := A6
    have o6 : AOk (S2 n 0 0) [] 1 := (I2.out.set (k := 0) (x := zX) (y := mkE n (fun _ => 0) 0 0) rfl).ok
    have H7' := q6.get H7.out (ne_of_types H7.out A4.hl (by decide))
    have k6 := k4.trans' q6 (fun b hb e => by omega)
    clear HS LY q6 H7 l1 l2 A4 k4
    have l1 : W6.cell? ⟨b7, 0, none⟩ = some (.int .i64 0) := by rw [cell_of H7']; rfl
    have l2 : W6.cell? ⟨b7, 1, none⟩ = some (.int .u64 1) := by rw [cell_of H7']; rfl
    replace H7' := hid H7'
    by_cases hb : n < 1 ∨ 16 < n
    · have HC := hid (one_bad A6 o6 hb)
      go_wp2_with fail
      refine HC.out.mono ?_
      rintro e W7 ⟨u, rfl, q7⟩
      have A7 := A6.kn q7
      have k7 := k6.trans q7
      have l1' : W7.cell? ⟨b7, 0, none⟩ = some (.int .i64 0) := by rw [cell_of (q7.get H7'.out (fun h => h))]; rfl
      have l2' : W7.cell? ⟨b7, 1, none⟩ = some (.int .u64 1) := by rw [cell_of (q7.get H7'.out (fun h => h))]; rfl
      have HR := hid (read_go (i := 0) (g := 1) A7 o6.n1)
      clear HC q7 l1 l2 A6 k6
      go_wp2_with fail
      refine HR.out.mono ?_
      rintro e W8 ⟨q, rfl, R8, _, q8⟩
      have A8 := A7.kn q8
      have k8 := k7.trans q8
      have HB := hid (rstep_bad (k := 0) A8 o6 R8 (by simp) (by decide) (n := n) (i' := 0) (g' := 0) (b := fun _ => 0) rfl (by simp only [List.length_nil]; omega))
      clear HR q8 l1' l2' A7 k7
      rcases hb with hb | hb
      · go_wp2_with fail
        refine HB.out.mono ?_
        rintro e W9 ⟨rfl, q9⟩
        go_wp2_with fail
        refine (HK.out _).mono ?_
        rintro e Wa ⟨rfl, qa⟩
        go_wp2_with fail
        go_ret
        exact ⟨rfl, (k8.trans q9).trans qa⟩
      · have hb' : ¬ n < 1 := by omega
        go_wp2_with fail
        refine HB.out.mono ?_
        rintro e W9 ⟨rfl, q9⟩
        go_wp2_with fail
        refine (HK.out _).mono ?_
        rintro e Wa ⟨rfl, qa⟩
        go_wp2_with fail
        go_ret
        exact ⟨rfl, (k8.trans q9).trans qa⟩
    · have hb1 : ¬ n < 1 := by omega
      have hb2 : ¬ 16 < n := by omega
      obtain ⟨N, rfl⟩ : ∃ N : Nat, n = N := ⟨n.toNat, by omega⟩
      have hN1 : 1 ≤ N := by omega
      have hN2 : N ≤ 16 := by omega
      have d1 : decide ((N : Int) < 1) = false := by simp; omega
      have d2 : decide (16 < (N : Int)) = false := by simp; omega
      have HC := hid (one_good A6 o6 hN1 hN2)
      clear hb
      go_wp2_with fail
      refine HC.out.mono ?_
      rintro e W7 ⟨u, rfl, q7⟩
      have A7 := A6.kn q7
      have k7 := k6.trans q7
      have l1' : W7.cell? ⟨b7, 0, none⟩ = some (.int .i64 0) := by rw [cell_of (q7.get H7'.out (fun h => h))]; rfl
      have l2' : W7.cell? ⟨b7, 1, none⟩ = some (.int .u64 1) := by rw [cell_of (q7.get H7'.out (fun h => h))]; rfl
      have HR := hid (read_go (i := 0) (g := 1) A7 o6.n1)
      clear HC q7 l1 l2 A6 k6
      go_wp2_with fail
      refine HR.out.mono ?_
      rintro e W8 ⟨q, rfl, R8, hq, q8⟩
      have A8 := A7.kn q8
      have k8 := k7.trans q8
      have hq' : w.heap.size ≤ q := Nat.le_trans k7.size hq
      have HB := hid (rstep_go (k := 0) A8 o6 R8 (by decide) (n := N) (i' := 0) (g' := 0) (b := fun _ => 0) rfl hN1 hN2 (by simp only [List.length_nil]; omega))
      clear HR q8 l1' l2' A7 k7
      go_wp2_with fail
      refine HB.out.mono ?_
      rintro e W9 ⟨rfl, bv, R9, _, q9⟩
      have k9 := k8.trans' q9 (fun b hb e => by
        rcases e with e | e
        · omega
        · cases e)
      have HBy := hid (bytes_go R9 (by simp; omega))
      clear HB R8 A8 q9
      go_wp2_with fail
      refine HBy.out.mono ?_
      rintro e Wb ⟨bb, rfl, Rb, _, qb⟩
      obtain ⟨ob, cb, hbb, _⟩ := Rb.form
      have hlb : ([] ++ (List.range N).map (fun _ : Nat => (0 : Int))).length = N := by simp
      rw [hlb] at hbb
      subst hbb
      go_wp2_with fail
      refine (HK.out _).mono ?_
      rintro e Wc ⟨rfl, qc⟩
      go_wp2_with fail
      go_ret
      exact ⟨rfl, (k9.trans qb).trans qc⟩
  · have f1 := frozen_of H9 17
    have f2 := frozen_of H9 18
    obtain ⟨u17, e17⟩ := Option.isSome_iff_exists.1 (rowX H9 17 (by omega)).1
    obtain ⟨u18, e18⟩ := Option.isSome_iff_exists.1 (rowX H9 18 (by omega)).1
    rw [Nat.zero_add] at e17 e18
    have kX : Kp (· = b9) W4 ((W4.setCell ⟨b9, 17, none⟩ (.int .i64 0)).setCell ⟨b9, 18, none⟩ (.int .u64 1)) := (Kp.refl _ W4).setCells (b := b9) (o := 17) [.int .i64 0, .int .u64 1] (fun _ => rfl)
    have HX : ((W4.setCell ⟨b9, 17, none⟩ (.int .i64 0)).setCell ⟨b9, 18, none⟩ (.int .u64 1)).heap[b9]? = some (.cells (mkE n (fun _ => 0) 0 1).1.toArray 35 (0, 0)) := by
      rw [blk_setCell (blk_setCell H9 17 _) 18 _, setN_put, setN_mk]
    go_upto_region 8 with fail
    obtain ⟨W5, e5⟩ : ∃ W, W = (W4.setCell ⟨b9, 17, none⟩ (.int .i64 0)).setCell ⟨b9, 18, none⟩ (.int .u64 1) := ⟨_, rfl⟩
    rw [← e5] at kX HX ⊢
    have A5 := A4.kp kX (ne_of_types A4.hp H9 (by decide)) (ne_of_types A4.hl H9 (by decide)) (fun b hb e => by subst e; exact A4.hv.ne H9 (by decide) hb)
    replace H7 := kX.get H7 h79
    replace k4 := k4.trans' kX (fun b hb e => by omega)
    clear f1 f2 e17 e18 l1 l2 e5 A4 H9
    have A4 := A5
    have H9 := HX
    clear A5 HX kX u17 u18
    have l1 : W5.cell? ⟨b7, 0, none⟩ = some (.int .i64 0) := by rw [cell_of H7]; rfl
    have l2 : W5.cell? ⟨b7, 1, none⟩ = some (.int .u64 1) := by rw [cell_of H7]; rfl
    have LY := whole_of H9
    have HS := hid (set_yes A4 I2.out.ok (k := 0) (x := zX) (g := 1) (mkE n (fun _ => 0) 0 1) rfl)
    replace H7 := hid H7
    clear H9
    go_wp2_with (refine ldX (by rfl) _ rfl _ _ rfl (mkE n (fun _ => 0) 0 1) LY ?_)
    refine HS.out.mono ?_
    rintro e W6 ⟨rfl, A6, q6⟩
    replace A6 : AAt W6 p l v (S2 n 0 1) [] 1 := A6
    have o6 : AOk (S2 n 0 1) [] 1 := (I2.out.set (k := 0) (x := zX) (y := mkE n (fun _ => 0) 0 1) rfl).ok
    have H7' := q6.get H7.out (ne_of_types H7.out A4.hl (by decide))
    have k6 := k4.trans' q6 (fun b hb e => by omega)
    clear HS LY q6 H7 l1 l2 A4 k4
    have l1 : W6.cell? ⟨b7, 0, none⟩ = some (.int .i64 0) := by rw [cell_of H7']; rfl
    have l2 : W6.cell? ⟨b7, 1, none⟩ = some (.int .u64 1) := by rw [cell_of H7']; rfl
    replace H7' := hid H7'
    by_cases hb : n < 1 ∨ 16 < n
    · have HC := hid (one_bad A6 o6 hb)
      go_wp2_with fail
      refine HC.out.mono ?_
      rintro e W7 ⟨u, rfl, q7⟩
      have A7 := A6.kn q7
      have k7 := k6.trans q7
      have l1' : W7.cell? ⟨b7, 0, none⟩ = some (.int .i64 0) := by rw [cell_of (q7.get H7'.out (fun h => h))]; rfl
      have l2' : W7.cell? ⟨b7, 1, none⟩ = some (.int .u64 1) := by rw [cell_of (q7.get H7'.out (fun h => h))]; rfl
      have HR := hid (read_go (i := 0) (g := 1) A7 o6.n1)
      clear HC q7 l1 l2 A6 k6
      go_wp2_with fail
      refine HR.out.mono ?_
      rintro e W8 ⟨q, rfl, R8, _, q8⟩
      have A8 := A7.kn q8
      have k8 := k7.trans q8
      have HB := hid (rstep_bad (k := 0) A8 o6 R8 (by simp) (by decide) (n := n) (i' := 0) (g' := 1) (b := fun _ => 0) rfl (by simp only [List.length_nil]; omega))
      clear HR q8 l1' l2' A7 k7
      rcases hb with hb | hb
      · go_wp2_with fail
        refine HB.out.mono ?_
        rintro e W9 ⟨rfl, q9⟩
        go_wp2_with fail
        refine (HK.out _).mono ?_
        rintro e Wa ⟨rfl, qa⟩
        go_wp2_with fail
        go_ret
        exact ⟨rfl, (k8.trans q9).trans qa⟩
      · have hb' : ¬ n < 1 := by omega
        go_wp2_with fail
        refine HB.out.mono ?_
        rintro e W9 ⟨rfl, q9⟩
        go_wp2_with fail
        refine (HK.out _).mono ?_
        rintro e Wa ⟨rfl, qa⟩
        go_wp2_with fail
        go_ret
        exact ⟨rfl, (k8.trans q9).trans qa⟩
    · have hb1 : ¬ n < 1 := by omega
      have hb2 : ¬ 16 < n := by omega
      obtain ⟨N, rfl⟩ : ∃ N : Nat, n = N := ⟨n.toNat, by omega⟩
      have hN1 : 1 ≤ N := by omega
      have hN2 : N ≤ 16 := by omega
      have d1 : decide ((N : Int) < 1) = false := by simp; omega
      have d2 : decide (16 < (N : Int)) = false := by simp; omega
      have HC := hid (one_round A6 o6 hN1 hN2)
      clear hb
      go_wp2_with fail
      refine HC.out.mono ?_
      rintro e W7 ⟨u, rfl, q7⟩
      have A7 := A6.kn q7
      have k7 := k6.trans q7
      have l1' : W7.cell? ⟨b7, 0, none⟩ = some (.int .i64 0) := by rw [cell_of (q7.get H7'.out (fun h => h))]; rfl
      have l2' : W7.cell? ⟨b7, 1, none⟩ = some (.int .u64 1) := by rw [cell_of (q7.get H7'.out (fun h => h))]; rfl
      have HR := hid (read_go (i := 0) (g := 1) A7 o6.n1)
      clear HC q7 l1 l2 A6 k6
      go_wp2_with fail
      refine HR.out.mono ?_
      rintro e W8 ⟨q, rfl, R8, hq, q8⟩
      have A8 := A7.kn q8
      have k8 := k7.trans q8
      have hq' : w.heap.size ≤ q := Nat.le_trans k7.size hq
      have HB := hid (rstep_go (k := 0) A8 o6 R8 (by decide) (n := N) (i' := 0) (g' := 1) (b := fun _ => 0) rfl hN1 hN2 (by simp only [List.length_nil]; omega))
      clear HR q8 l1' l2' A7 k7
      go_wp2_with fail
      refine HB.out.mono ?_
      rintro e W9 ⟨rfl, bv, R9, _, q9⟩
      have k9 := k8.trans' q9 (fun b hb e => by
        rcases e with e | e
        · omega
        · cases e)
      have HBy := hid (bytes_go R9 (by simp; omega))
      clear HB R8 A8 q9
      go_wp2_with fail
      refine HBy.out.mono ?_
      rintro e Wb ⟨bb, rfl, Rb, _, qb⟩
      obtain ⟨ob, cb, hbb, _⟩ := Rb.form
      have hlb : ([] ++ (List.range N).map (fun _ : Nat => (0 : Int))).length = N := by simp
      rw [hlb] at hbb
      subst hbb
      go_wp2_with fail
      refine (HK.out _).mono ?_
      rintro e Wc ⟨rfl, qc⟩
      go_wp2_with fail
      go_ret
      exact ⟨rfl, (k9.trans qb).trans qc⟩
end Go.Proofs.Ytaanbonbdhjbpaa
