/- Walks: all the same in both. -/
import Derived.Test.YtpfhjfijpmcnkaaK24
namespace Go.Proofs.Ytpfhjfijpmcnkaa
set_option linter.unusedSimpArgs false
set_option linter.unusedVariables false
open Go.RowKit
attribute [local go_sem ↓] Go.wp_at_zero Go.wp_at_succ
section
variable {w0 w w' : World} {p m q n : Nat} {M : List (Int × Value)} {v : Value} {L : List (Int × Int)}
theorem has_anyB (h : LAt w p m n M L) (n1 : 1 ≤ n) {t id : Int} (hw : (Lit.int .i64 id).wf = true) :
    Calls Try.prog 15 #[.pointer (some ⟨p, 0, none⟩), .int .i64 t, .int .i64 id] w fun e w' => e = .returned (.bool (hasB L t id)) ∧ w = w' := has_any h n1 hw
set_option maxRecDepth 100000 in
set_option maxHeartbeats 8000000 in
theorem same_any (h : JAt w p m q n M v L) (n2 : L.length ≤ 3999) {x : Option Addr} {len cap B : Nat} {A : List A3} (hL : ActsAt w B x len A) (hB : B ≤ w.heap.size) :
    Calls Try.prog 19 #[.pointer (some ⟨p, 0, none⟩), .pointer (some ⟨q, 0, none⟩), .slice x len cap] w fun e w' => e = .returned (.bool true) ∧ Kp NoB w w' := by
  have H0 := hid h
  have HA := hid hL
  have hmx := hL.mx
  have hn8 := h.o.n2
  have HO := hid (fun W (k : Kp NoB w W) id (hw : (Lit.int .i64 id).wf = true) => one_both (h.kn k) n2 hw)
  have HB1 := hid (fun W (k : Kp NoB w W) t id (hw : (Lit.int .i64 id).wf = true) => has_anyB (t := t) (h.c.kn k) h.o.n1 hw)
  have HB2 := hid (fun W (k : Kp NoB w W) t id => rhas_any (h.r.kn k) (by omega) t id)
  have HE1 := hid (fun W (k : Kp NoB w W) t => held_any (h.c.kn k) h.o t (by omega))
  have HE2 := hid (fun W (k : Kp NoB w W) t => rheld_any (h.r.kn k) h.o (by omega) t)
  have hhl := hid (fun t => show (heldL L t).length ≤ L.length from Nat.le_trans (Nat.le_of_eq (List.length_mergeSort (le := le2) (heldU L t))) (heldU_len L t))
  clear h hL
  go_enter Try.func19, Try.ntmps19
  go_wp2_with fail
  go_loopw [7] (fun i W => ∃ j : Nat, j ≤ len ∧ i = .int .i64 j ∧ Kp NoB w W) (fun i _ => len - (intOf i).toNat)
  case atStart => exact ⟨0, Nat.zero_le _, rfl, Kp.refl _ _⟩
  case round =>
    obtain ⟨j, hj, rfl, hK⟩ := hrel
    have b1 : (0 : Int) ≤ (j : Int) := Int.natCast_nonneg _
    by_cases hlt : j < len
    · have ha := HA.out.kp hK hB (fun _ h => h.elim)
      have hjl : j < A.length := by rw [HA.out.ln]; exact hlt
      obtain ⟨z, hz⟩ : ∃ z, A[j]? = some z := ⟨_, List.getElem?_eq_getElem hjl⟩
      obtain ⟨y, rfl, hy, c0, c1, c2⟩ := ha.at_ j z hz
      have hwf := HA.out.wf z (List.mem_of_getElem? hz)
      obtain ⟨zk, zt, zi⟩ := z
      dsimp only at c0 c1 c2 hwf
      have HO1 := hid (HO.out _ hK.drew zi hwf)
      have b2 : (j : Int) < (len : Int) := by omega
      have c12 : ∀ W, Kp NoB wr W → W.cell? ⟨(y.add (j * 3)).block, (y.add (j * 3)).off + 1, none⟩ = some (.int .i64 zt) ∧ W.cell? ⟨(y.add (j * 3)).block, (y.add (j * 3)).off + 2, none⟩ = some (.int .i64 zi) := fun W k => by
        have hb : ∀ q : Addr, q.block = (y.add (j * 3)).block → W.cell? q = wr.cell? q := fun q hq => by
          rw [add_blk] at hq
          exact cell_blk (k.blk _ (by have := hK.size; omega) (fun f => f))
        exact ⟨(hb ⟨_, _, none⟩ rfl).trans c1, (hb ⟨_, _, none⟩ rfl).trans c2⟩
      replace c12 := hid c12
      replace ha := hid ha
      replace hz := hid hz
      replace hK := hid hK
      replace hwf := hid hwf
      clear c0
      have HB1' := hid (HB1.out · · zt zi hwf.out)
      have HB2' := hid (HB2.out · · zt zi)
      generalize hasB L zt zi = bb at *
      go_wp2_with fail
      refine wp_region_G (fun W => W.cell? ⟨(y.add (j * 3)).block, (y.add (j * 3)).off + 1, none⟩ = some (.int .i64 zt) ∧ W.cell? ⟨(y.add (j * 3)).block, (y.add (j * 3)).off + 2, none⟩ = some (.int .i64 zi)) [(0, .at_), (1, .at_), (2, .at_), (3, .at_), (4, .at_), (5, .at_), (6, .at_), (7, .eff), (8, .at_), (9, .at_), (10, .at_), (11, .at_), (12, .at_), (13, .at_), (14, .at_), (15, .at_), (16, .at_), (17, .at_), (18, .at_), (19, .at_), (20, .at_), (22, .held), (23, .held), (24, .held), (25, .held), (26, .held), (27, .held), (28, .held), (29, .held), (30, .held), (31, .held), (32, .held), (21, .eff), (33, .eff), (34, .at_), (35, .at_)] ?L1 (by kernel_rfl) (by kernel_rfl) ?hL1 (⟨c1, c2⟩) ?hG1
      case hL1 => simp only [pickOps, List.map_cons, List.map_nil, List.getD_cons_zero, List.getD_cons_succ]; rfl
      repeat (first | (refine wpG_at (v := ?_) (by rfl) ?_ ?_; rotate_left; (focus (first | (go_simp; with_reducible rfl) | (go_simp; done))); simp only [Act.put, List.setIfInBounds_toArray, List.set_cons_zero, List.set_cons_succ]) | (refine wpG_at_skip (by rfl) ?_; simp only [Act.put, List.setIfInBounds_toArray, List.set_cons_zero, List.set_cons_succ]) | (refine wpG_held_skip (by rfl) ?_; simp only [Act.put, List.setIfInBounds_toArray, List.set_cons_zero, List.set_cons_succ]) | (refine wpG_held (v := ?_) (by rfl) ?_ ?_; rotate_left; (focus (intro w' hSw; (try dsimp only at hSw); go_split_ands; first | (go_simp; with_reducible rfl) | (go_simp; done))); simp only [Act.put, List.setIfInBounds_toArray, List.set_cons_zero, List.set_cons_succ]))
      refine wpG_eff (by rfl) (fun K hK' => ?_)
      go_simp
      refine HO1.out.mono ?_
      rintro e w1 ⟨rfl, k1⟩
      have K1 := hid (show Kp NoB wr w1 from ((Kp.refl _ wr).drew).trans k1)
      clear k1 c1 c2
      obtain ⟨c1, c2⟩ := c12.out _ K1.out
      refine hK' _ _ ⟨c1, c2⟩ ?_
      clear hK' K
      repeat (first | (refine wpG_at (v := ?_) (by rfl) ?_ ?_; rotate_left; (focus (first | (go_simp; with_reducible rfl) | (go_simp; done))); simp only [Act.put, List.setIfInBounds_toArray, List.set_cons_zero, List.set_cons_succ]) | (refine wpG_at_skip (by rfl) ?_; simp only [Act.put, List.setIfInBounds_toArray, List.set_cons_zero, List.set_cons_succ]) | (refine wpG_held_skip (by rfl) ?_; simp only [Act.put, List.setIfInBounds_toArray, List.set_cons_zero, List.set_cons_succ]) | (refine wpG_held (v := ?_) (by rfl) ?_ ?_; rotate_left; (focus (intro w' hSw; (try dsimp only at hSw); go_split_ands; first | (go_simp; with_reducible rfl) | (go_simp; done))); simp only [Act.put, List.setIfInBounds_toArray, List.set_cons_zero, List.set_cons_succ]))
      refine wpG_eff (by rfl) (fun K hK' => ?_)
      go_simp
      refine (HB1'.out _ (hK.out.trans K1.out)).mono ?_
      rintro e w2 ⟨rfl, rfl⟩
      refine hK' _ _ ⟨c1, c2⟩ ?_
      clear hK' K
      repeat (first | (refine wpG_at (v := ?_) (by rfl) ?_ ?_; rotate_left; (focus (first | (go_simp; with_reducible rfl) | (go_simp; done))); simp only [Act.put, List.setIfInBounds_toArray, List.set_cons_zero, List.set_cons_succ]) | (refine wpG_at_skip (by rfl) ?_; simp only [Act.put, List.setIfInBounds_toArray, List.set_cons_zero, List.set_cons_succ]) | (refine wpG_held_skip (by rfl) ?_; simp only [Act.put, List.setIfInBounds_toArray, List.set_cons_zero, List.set_cons_succ]) | (refine wpG_held (v := ?_) (by rfl) ?_ ?_; rotate_left; (focus (intro w' hSw; (try dsimp only at hSw); go_split_ands; first | (go_simp; with_reducible rfl) | (go_simp; done))); simp only [Act.put, List.setIfInBounds_toArray, List.set_cons_zero, List.set_cons_succ]))
      refine wpG_eff (by rfl) (fun K hK' => ?_)
      go_simp
      refine (HB2'.out _ (hK.out.trans K1.out)).mono ?_
      rintro e w2 ⟨rfl, k2⟩
      have K2 := hid (K1.out.trans k2)
      clear k2 c1 c2
      obtain ⟨c1, c2⟩ := c12.out _ K2.out
      refine hK' _ _ ⟨c1, c2⟩ ?_
      clear hK' K
      repeat (first | (refine wpG_at (v := ?_) (by rfl) ?_ ?_; rotate_left; (focus (first | (go_simp; with_reducible rfl) | (go_simp; done))); simp only [Act.put, List.setIfInBounds_toArray, List.set_cons_zero, List.set_cons_succ]) | (refine wpG_at_skip (by rfl) ?_; simp only [Act.put, List.setIfInBounds_toArray, List.set_cons_zero, List.set_cons_succ]) | (refine wpG_held_skip (by rfl) ?_; simp only [Act.put, List.setIfInBounds_toArray, List.set_cons_zero, List.set_cons_succ]) | (refine wpG_held (v := ?_) (by rfl) ?_ ?_; rotate_left; (focus (intro w' hSw; (try dsimp only at hSw); go_split_ands; first | (go_simp; with_reducible rfl) | (go_simp; done))); simp only [Act.put, List.setIfInBounds_toArray, List.set_cons_zero, List.set_cons_succ]))
      refine wpG_nil (NoPanic.normal ?_)
      go_wp2_with fail
      go_roundw
      case rel => exact ⟨j + 1, by omega, by go_num, hK.out.trans K2.out⟩
      case measure => simp [intOf]; omega
    · go_wp2_with fail
      go_loopw [8] (fun i W => ∃ k : Nat, k ≤ n + 2 ∧ i = .int .i64 ((k : Int) - 1) ∧ Kp NoB w W) (fun i _ => ((n : Int) + 1 - intOf i).toNat)
      case atStart => exact ⟨0, Nat.zero_le _, rfl, hK⟩
      case round =>
        clear hK
        obtain ⟨k, hk, rfl, hK⟩ := hrel
        have HA2 := (H0.out.kn hK).r
        have Lq := loc2 HA2.hq
        have b1 : (-1 : Int) ≤ (k : Int) - 1 := by omega
        have b2 : (k : Int) - 1 ≤ 10 := by omega
        replace HA2 := hid HA2
        by_cases hlt : (k : Int) - 1 ≤ (n : Int)
        · have H1 := hid (HE1.out _ hK ((k : Int) - 1))
          have H2 := hid (HE2.out · · ((k : Int) - 1))
          have hl := hhl.out ((k : Int) - 1)
          replace hK := hid hK
          go_wp2_with fail
          refine H1.out.mono ?_
          rintro e w1 ⟨v1, rfl, r1, k1⟩
          have K1 := hid (hK.out.trans k1)
          replace r1 := hid r1
          clear k1
          go_wp2_with fail
          refine (H2.out _ K1.out).mono ?_
          rintro e w2 ⟨v2, rfl, r2, k2⟩
          have K2 := hid (K1.out.trans k2)
          have R1 := hid (r1.out.kn k2)
          replace r2 := hid r2
          clear k2
          go_wp2_with fail
          refine (equals_any R1.out r2.out (by omega)).mono ?_
          rintro e w3 ⟨rfl, k3⟩
          rw [dec_self']
          have K3 := hid (K2.out.trans k3)
          go_wp2_with fail
          go_roundw
          case rel => exact ⟨k + 1, by omega, by first | go_num | exact congrArg (Value.int .i64) (by omega), K3.out⟩
          case measure => simp [intOf]; omega
        · replace hK := hid hK
          go_wp2_with fail
          go_ret
          exact ⟨rfl, hK.out⟩
end
end Go.Proofs.Ytpfhjfijpmcnkaa
