/- Walk: a payload's extents, the document's. -/
import Derived.Test.YtaanbonbdhjbpaaE3
import Derived.Test.YtaanbonbdhjbpaaLibK
namespace Go.Proofs.Ytaanbonbdhjbpaa
set_option linter.unusedSimpArgs false
set_option linter.unusedVariables false
open Go.RowKit
attribute [local go_sem ↓] Go.wp_at_zero Go.wp_at_succ
/-- one byte more in an extent's cells -/
theorem mkE_put (n : Nat) (hn : n < 16) (b : Nat → Int) (v : Int) :
    ((mkE n b 0 0).1.toArray.setIfInBounds (1 + n) (.int .u8 v)).setIfInBounds 0 (.int .i64 ((n : Int) + 1)) = (mkE ((n : Int) + 1) (fun j => if j = n then v else b j) 0 0).1.toArray := by
  apply Array.ext_getElem?
  intro q
  have hs : (mkE n b 0 0).1.toArray.size = 19 := rfl
  rcases Nat.eq_zero_or_pos q with rfl | hq
  · rw [Array.getElem?_setIfInBounds_self, if_pos (by simp only [Array.size_setIfInBounds, hs]; omega)]; rfl
  · rw [Array.getElem?_setIfInBounds_ne (by omega)]
    obtain ⟨j, rfl⟩ : ∃ j, q = 1 + j := ⟨q - 1, by omega⟩
    by_cases hj : j = n
    · subst hj
      rw [Array.getElem?_setIfInBounds_self, if_pos (by rw [hs]; omega), List.getElem?_toArray, mkE_b _ _ _ _ hn, if_pos rfl]
    · rw [Array.getElem?_setIfInBounds_ne (by omega), List.getElem?_toArray, List.getElem?_toArray]
      by_cases hj16 : j < 16
      · rw [mkE_b _ _ _ _ hj16, mkE_b _ _ _ _ hj16, if_neg hj]
      · rcases (by omega : j = 16 ∨ j = 17 ∨ 18 ≤ j) with rfl | rfl | h18
        · rfl
        · rfl
        · rw [List.getElem?_eq_none (by show 19 ≤ _; omega), List.getElem?_eq_none (by show 19 ≤ _; omega)]
theorem _root_.Go.Proofs.Ytaanbonbdhjbpaa.RowAt.last {α : Type} {f : α → List Value} {n : Nat} {w : World} {e : TypeId} {v : Value} {l : List α} {x : α} (h : RowAt w e f n v (l ++ [x])) {m : Nat} (hm : l.length = m) : ∃ b c, v = .slice (some ⟨b, 0, none⟩) (m + 1) c ∧ v.ownBlock = some b ∧ b < w.heap.size ∧ m + 1 ≤ c := by
  obtain ⟨b, c, h1, h2, h3, h4⟩ := h.blk (by simp)
  rw [List.length_append, hm] at h1 h4
  exact ⟨b, c, h1, h2, h3, h4⟩
theorem _root_.Go.Proofs.Ytaanbonbdhjbpaa.RowAt.range_last {w : World} {b m c : Nat} {l : List X} {x : X} (h : RowAt w 35 eXv 19 (.slice (some ⟨b, 0, none⟩) (m + 1) c) (l ++ [x])) (hm : l.length = m) : w.rangeAt b (m * 19) x.1 := by
  subst hm
  exact RowAt.range (l := l ++ [x]) eXv_len (c := c) (by rw [List.length_append]; exact h) (by simp)
theorem rem_yes {j : Nat} (h : j % 16 = 0) : ((j : Int) % 16 == 0) = true := by
  have : (j : Int) % 16 = 0 := by omega
  rw [this]; rfl
theorem rem_no {j : Nat} (h : ¬ j % 16 = 0) : ((j : Int) % 16 == 0) = false := by
  have : ¬ (j : Int) % 16 = 0 := by omega
  simpa using this
theorem _root_.Go.Proofs.Ytaanbonbdhjbpaa.RowAt.there_last {w : World} {b m c : Nat} {R : List X} (h : RowAt w 35 eXv 19 (.slice (some ⟨b, 0, none⟩) (m + 1) c) R) (hm : R.length = m + 1) : w.there b (m * 19) 19 :=
  RowAt.there (l := R) (k := m) eXv_len (c := c) (by rw [hm]; exact h) (by omega)
theorem _root_.Go.Proofs.Ytaanbonbdhjbpaa.RowAt.put_last {w : World} {b m c : Nat} {R : List X} (h : RowAt w 35 eXv 19 (.slice (some ⟨b, 0, none⟩) (m + 1) c) R) (hm : R.length = m + 1) (x : X) : RowAt (w.setCells b (m * 19) x.1) 35 eXv 19 (.slice (some ⟨b, 0, none⟩) (m + 1) c) (R.set m x) := by
  have := RowAt.put (l := R) (k := m) (x := x) eXv_len (by omega) (c := c) (by rw [hm]; exact h) (by omega)
  rw [hm] at this; exact this
theorem _root_.Go.Proofs.Ytaanbonbdhjbpaa.RowAt.range_mid {w : World} {b m c : Nat} {R : List X} {x : X} (h : RowAt w 35 eXv 19 (.slice (some ⟨b, 0, none⟩) (m + 1) c) R) (hm : R.length = m + 1) (hx : R[m]? = some x) : w.rangeAt b (m * 19) x.1 :=
  RowAt.range (l := R) eXv_len (c := c) (by rw [hm]; exact h) hx
/-- behind so many bytes -/
def RR (w : World) (L : List Int) (i : Nat) (ov : Value) (W : World) : Prop := RowAt W 35 eXv 19 ov (pcs (L.take i)) ∧ (∀ b, ov.ownBlock = some b → w.heap.size ≤ b) ∧ Kp NoB w W
theorem pcs_nil (L : List Int) : pcs (L.take 0) = [] := by simp [pcs, need]
theorem int_rem (i : Nat) : (i : Int).tmod 16 = ((i % 16 : Nat) : Int) := by rw [Int.tmod_eq_emod_of_nonneg (by omega)]; omega
theorem flat_at {L : List Int} {i : Nat} (hi : i < L.length) : (L.flatMap eB)[i]? = some (.int .u8 L[i]) := by rw [flatB]; simp [hi]
set_option maxRecDepth 100000 in
set_option maxHeartbeats 4000000 in
theorem rpieces_any {w : World} {v : Value} {L : List Int} (h : Sg w eB v L) (hl : L.length ≤ 1000) : Calls Try.prog 12 #[v] w fun e w' => ∃ ov, e = .returned ov ∧ RowAt w' 35 eXv 19 ov (pcs L) ∧ (∀ b, ov.ownBlock = some b → w.heap.size ≤ b) ∧ Kp NoB w w' := by
  obtain ⟨y, c, hv, hc⟩ := h.form
  subst hv
  replace h := hid h
  go_enter Try.func12, Try.ntmps12
  go_wp2_with fail
  go_loopw [3, 4] (fun ov i W => ∃ j : Nat, j ≤ L.length ∧ i = .int .i64 j ∧ RR w L j ov W) (fun _ i _ => L.length - (intOf i).toNat)
  case atStart => exact ⟨0, Nat.zero_le _, rfl, by rw [pcs_nil]; exact RowAt.nil _ _ _ _, by simp [Value.ownBlock], Kp.refl _ _⟩
  case round =>
    obtain ⟨j, hj, rfl, hR⟩ := hrel
    obtain ⟨ov, hov⟩ : ∃ ov, ov = u3 := ⟨_, rfl⟩
    subst hov
    by_cases hlt : j < L.length
    · have b1 : (0 : Int) ≤ (j : Int) := Int.natCast_nonneg _
      have b2 : (j : Int) < (L.length : Int) := by omega
      rcases h.out with ⟨_, hnil⟩ | ⟨yy, cc, he, hcc, hy, hcell⟩
      · rw [hnil] at hlt; simp at hlt
      injection he with he _ he2
      subst he
      subst he2
      have hcj := hcell j _ (flat_at hlt)
      obtain ⟨ho, hn, hK⟩ := hR
      have er := int_rem j
      have hpl : (pcs (L.take j)).length ≤ 1000 := by rw [pcs_len]; unfold need; rw [List.length_take]; omega
      by_cases hm : j % 16 = 0
      · have e0 := rem_yes hm
        clear hcell er
        have hM := pcs_zero L hlt hm
        have hnew := pcs_new L hlt hm
        obtain ⟨m, hmm⟩ : ∃ m, m = j / 16 := ⟨_, rfl⟩
        rw [← hmm] at hM
        obtain ⟨M, hMM⟩ : ∃ M, M = pcs (L.take j) := ⟨_, rfl⟩
        rw [← hMM] at hM hpl ho hnew
        have gc : (m : Int) < (m : Int) + 1 := by omega
        have gm : m ≤ 1000 := by omega
        replace hm := hid hm
        replace hmm := hid hmm
        replace hMM := hid hMM
        replace hM := hid hM
        replace ho := hid ho
        replace hnew := hid hnew
        go_wp2_with (first | (refine BigFrame.wpList_want (by rfl) fun K hK' => ?_; refine wp_build1 24 35 (.tmp 16) rfl zX.1 rfl sl24 (by rw [zX.len]; exact i35') (by rw [zX.len]; omega) (by rw [zX.len]; omega) ?_; refine hK' _ _ ?_; clear hK' K) | (refine BigFrame.wpList_want (by rfl) fun K hK' => ?_; refine wp_grow eXv_len (by omega) _ _ 24 35 _ 40 rfl sl24 i35 rfl ov M rfl (ho.out.alloc _) wr.heap.size 1 [zX] rfl zX.1.toArray 35 (blk_new _ _) (pre1 zX) (one1 zX) (by rw [List.length_singleton]; omega) (by omega) ?_; intro vb W q1 q2 q3; obtain ⟨g, cg, hvb, hgo, hgl, hgc⟩ := q1.last hM.out; subst hvb; have HQ1 := hid q1; have HQ2 := hid q2; have HQ3 := hid q3; clear q1 q2 q3; have Lr := HQ1.out.range_last hM.out; refine hK' _ _ ?_; clear hK' K) | refine ldX (by rfl) _ rfl _ _ rfl zX Lr ?_ | refine stX (by rfl) _ _ rfl _ _ zX rfl rfl (there_of (blk_new _ _) (by decide)) ?_)
        obtain ⟨n0, hn0⟩ : ∃ n0 : Nat, n0 = 0 := ⟨_, rfl⟩
        have hE : zX = mkE n0 (fun _ => 0) 0 0 := by rw [hn0]; rfl
        have KW0 : Kp NoB w W := (hK.alloc _).trans' (kp_grown HQ2.out (fun b hb => hb)) (fun b hb hf => absurd (hn b hf) (by omega))
        have hgn : w.heap.size ≤ g := by
          rcases HQ3.out with o | ⟨b2', o, hb2⟩
          · exact hn g (o.symm.trans hgo)
          · rw [hgo] at o; injection o with o; subst o
            have := hK.size; simp at hb2; omega
        have hRl : (M ++ [zX]).length = m + 1 := by rw [List.length_append, hM.out]; rfl
        have hn16 : n0 < 16 := by omega
        have hfin : (M ++ [zX]).set m (mkE ((n0 : Int) + 1) (fun q => if q = n0 then L[j] else 0) 0 0) = pcs (L.take (j + 1)) := by
          rw [hnew.out, List.set_append_right _ _ (by rw [hM.out]; exact Nat.le_refl _), hM.out, Nat.sub_self, List.set_cons_zero]
          congr 2
          refine mkE_eq (by rw [hn0]; rfl) (fun q _ => ?_) rfl rfl
          rw [hn0]
          simp [hlt]
        clear hnew HQ2 HQ3
        obtain ⟨W1, hW1⟩ : ∃ W1, W1 = (W.alloc (.cells #[.int .i64 0, .int .u8 0, .int .u8 0, .int .u8 0, .int .u8 0, .int .u8 0, .int .u8 0, .int .u8 0, .int .u8 0, .int .u8 0, .int .u8 0, .int .u8 0, .int .u8 0, .int .u8 0, .int .u8 0, .int .u8 0, .int .u8 0, .int .i64 0, .int .u64 0] 35)).setCells W.heap.size 0 zX.1 := ⟨_, rfl⟩
        rw [← hW1]
        have HB : W1.heap[W.heap.size]? = some (.cells zX.1.toArray 35 (0, 0)) := by rw [hW1]; exact putX (y := zX) (blk_new W _) _
        have KW : Kp NoB W W1 := by rw [hW1]; exact ((Kp.refl _ W).alloc _).setCells _ (fun h => absurd h (by simp))
        clear hW1
        obtain ⟨b, hb⟩ : ∃ b, b = W.heap.size := ⟨_, rfl⟩
        rw [← hb] at HB ⊢
        have HR1 := HQ1.out.kp KW (fun _ _ h => h)
        rw [hE] at HB
        have c0 : W1.cell? ⟨b, 0, none⟩ = some (.int .i64 n0) := by rw [cell_of HB]; rfl
        have f0 := frozen_of HB 0
        have c1 : W1.cell? ⟨b, 1 + n0, none⟩ = some (.int .u8 ((fun _ => 0) n0)) := by rw [cell_of HB, List.getElem?_toArray, mkE_b _ _ _ _ hn16]
        have f1 := frozen_of HB (1 + n0)
        have cj : W1.cell? (yy.add j) = some (.int .u8 L[j]) := by
          rw [cell_blk (w := w) (by rw [add_blk]; exact (KW0.trans KW).blk yy.block (hy (by intro e; rw [e] at hlt; simp at hlt)) (fun h => h))]; exact hcj
        have bn : (n0 : Int) < 16 := by omega
        replace hE := hid hE
        replace hn0 := hid hn0
        replace HB := hid HB
        replace HR1 := hid HR1
        replace hb := hid hb
        replace hRl := hid hRl
        replace hfin := hid hfin
        replace hcj := hid hcj
        clear HQ1 Lr
        refine wp_region_G (fun _ => True) [(0, .at_), (1, .at_), (2, .at_), (3, .at_), (4, .at_), (5, .at_), (6, .at_), (7, .at_), (8, .eff)] ?L1 (by kernel_rfl) (by kernel_rfl) ?hL1 (trivial) ?hG1
        case hL1 => simp only [pickOps, List.map_cons, List.map_nil, List.getD_cons_zero, List.getD_cons_succ]; rfl
        repeat (first | (refine wpG_at (v := ?_) (by rfl) ?_ ?_; rotate_left; (focus (first | (go_simp; with_reducible rfl) | (go_simp; done))); simp only [Act.put, List.setIfInBounds_toArray, List.set_cons_zero, List.set_cons_succ]) | (refine wpG_at_skip (by rfl) ?_; simp only [Act.put, List.setIfInBounds_toArray, List.set_cons_zero, List.set_cons_succ]) | (refine wpG_held_skip (by rfl) ?_; simp only [Act.put, List.setIfInBounds_toArray, List.set_cons_zero, List.set_cons_succ]) | (refine wpG_held (v := ?_) (by rfl) ?_ ?_; rotate_left; (focus (intro w' hSw; (try dsimp only at hSw); go_split_ands; first | (go_simp; with_reducible rfl) | (go_simp; done))); simp only [Act.put, List.setIfInBounds_toArray, List.set_cons_zero, List.set_cons_succ]))
        refine wpG_eff (by rfl) (fun K hK => ?_)
        go_simp
        refine hK _ _ trivial ?_
        clear hK K
        refine wpG_nil (NoPanic.normal ?_)
        have K2 : Kp NoB w (W1.setCell ⟨b, 1 + n0, none⟩ (.int .u8 L[j])).drew := ((KW0.trans KW).setCell _ (fun h => by have := hb.out; have := KW0.size; simp at h; omega)).drew
        have HB2 := blk_drew (blk_setCell HB.out (1 + n0) (.int .u8 L[j]))
        have HR2 := (HR1.out.setCell ⟨b, 1 + n0, none⟩ (.int .u8 L[j]) (by rw [hgo]; intro e; injection e with e; have := hb.out; simp only at e; omega)).drew
        obtain ⟨W2, hW2⟩ : ∃ W2, W2 = (W1.setCell ⟨b, 1 + n0, none⟩ (.int .u8 L[j])).drew := ⟨_, rfl⟩
        rw [← hW2] at K2 HB2 HR2 ⊢
        clear hW2 c0 f0 c1 f1 cj HB HR1 KW
        have c0 : W2.cell? ⟨b, 0, none⟩ = some (.int .i64 n0) := by rw [cell_of HB2, Array.getElem?_setIfInBounds_ne (by omega)]; rfl
        have f0 := frozen_of HB2 0
        have HB3 := blk_setCell HB2 0 (.int .i64 ((n0 : Int) + 1))
        rw [mkE_put n0 hn16] at HB3
        have HR3 := HR2.setCell ⟨b, 0, none⟩ (.int .i64 ((n0 : Int) + 1)) (by rw [hgo]; intro e; injection e with e; have := hb.out; simp only at e; omega)
        have K3 : Kp NoB w (W2.setCell ⟨b, 0, none⟩ (.int .i64 ((n0 : Int) + 1))) := K2.setCell _ (fun h => by have := hb.out; have := KW0.size; simp at h; omega)
        obtain ⟨F, hF⟩ : ∃ F, F = mkE ((n0 : Int) + 1) (fun q => if q = n0 then L[j] else (fun _ => 0) q) 0 0 := ⟨_, rfl⟩
        have hFe : mkE ((n0 : Int) + 1) (fun q => if q = n0 then L[j] else (fun _ => 0) q) 0 0 = F := hF.symm
        rw [hFe] at HB3
        have Lx := whole_of HB3
        have Lw : (W2.setCell ⟨b, 0, none⟩ (.int .i64 ((n0 : Int) + 1))).there g (m * 19) 19 := HR3.there_last hRl.out
        replace HB2 := hid HB2
        replace HR2 := hid HR2
        replace HB3 := hid HB3
        replace HR3 := hid HR3
        replace hF := hid hF
        replace hFe := hid hFe
        go_wp2_with (first | refine ldX (by rfl) _ rfl _ _ rfl F Lx ?_ | refine stX (by rfl) _ _ rfl _ _ F rfl rfl Lw ?_)
        go_roundw
        case rel =>
          refine ⟨j + 1, by omega, by go_num, ?_, ?_, K3.setCells _ (fun h => absurd h (by omega))⟩
          · have := HR3.out.put_last hRl.out F
            rw [hF.out] at this ⊢
            rw [← hfin.out]
            exact this
          · intro b' hb'
            rw [hgo] at hb'; injection hb' with hb'; subst hb'; exact hgn
        case measure => simp [intOf]; omega
      · have e0 := rem_no hm
        clear hcell er
        obtain ⟨hlast, hM⟩ := pcs_last L hlt hm
        have hmore := pcs_more L hlt hm
        obtain ⟨m, hmm⟩ : ∃ m, m = j / 16 := ⟨_, rfl⟩
        obtain ⟨n0, hn0⟩ : ∃ n0, n0 = j % 16 := ⟨_, rfl⟩
        rw [← hmm] at hM hlast hmore
        rw [← hn0] at hlast hmore
        obtain ⟨M, hMM⟩ : ∃ M, M = pcs (L.take j) := ⟨_, rfl⟩
        rw [← hMM] at hM hpl ho hmore hlast
        have gc : (m : Int) < (m : Int) + 1 := by omega
        have gm : m ≤ 1000 := by omega
        have hn16 : n0 < 16 := by omega
        obtain ⟨b0, hb0⟩ : ∃ b0 : Nat → Int, b0 = fun q => ((L.take j)[16 * m + q]?).getD 0 := ⟨_, rfl⟩
        have hE1 : mkE (n0 : Int) (fun q => ((L.take j)[16 * m + q]?).getD 0) 0 0 = mkE n0 b0 0 0 := by rw [hb0]
        rw [hE1] at hlast
        obtain ⟨E, hE⟩ : ∃ E, E = mkE (n0 : Int) b0 0 0 := ⟨_, rfl⟩
        rw [← hE] at hlast
        obtain ⟨g, cg, hvb, hgo, hgl, hgc⟩ := ho.blk (by omega)
        rw [hM] at hvb hgc
        subst hvb
        have hgn := hn g hgo
        have hRl := hM
        have KW0 := hK
        have hfin : M.set m (mkE ((n0 : Int) + 1) (fun q => if q = n0 then L[j] else b0 q) 0 0) = pcs (L.take (j + 1)) := by
          rw [hmore]
          congr 1
          refine mkE_eq rfl (fun q _ => ?_) rfl rfl
          rw [hb0]
          simp [hlt]
        have Lr : wr.rangeAt g (m * 19) E.1 := ho.range_mid hM hlast
        have HQ1 := hid ho
        clear ho hmore hlast hE1 hb0 hM
        replace hm := hid hm
        replace hmm := hid hmm
        replace hMM := hid hMM
        replace hn0 := hid hn0
        replace hE := hid hE
        replace hRl := hid hRl
        go_wp2_with (first | refine ldX (by rfl) _ rfl _ _ rfl E Lr ?_ | refine stX (by rfl) _ _ rfl _ _ E rfl rfl (there_of (blk_new _ _) (by decide)) ?_)
        replace hE := hE.out
        replace hRl := hRl.out
        replace hn0 := hn0.out
        obtain ⟨W1, hW1⟩ : ∃ W1, W1 = (wr.alloc (.cells #[.int .i64 0, .int .u8 0, .int .u8 0, .int .u8 0, .int .u8 0, .int .u8 0, .int .u8 0, .int .u8 0, .int .u8 0, .int .u8 0, .int .u8 0, .int .u8 0, .int .u8 0, .int .u8 0, .int .u8 0, .int .u8 0, .int .u8 0, .int .i64 0, .int .u64 0] 35)).setCells wr.heap.size 0 E.1 := ⟨_, rfl⟩
        rw [← hW1]
        have HB : W1.heap[wr.heap.size]? = some (.cells E.1.toArray 35 (0, 0)) := by rw [hW1]; exact putX (y := zX) (blk_new wr _) _
        have KW : Kp NoB wr W1 := by rw [hW1]; exact ((Kp.refl _ wr).alloc _).setCells _ (fun h => absurd h (by simp))
        clear hW1
        obtain ⟨b, hb⟩ : ∃ b, b = wr.heap.size := ⟨_, rfl⟩
        rw [← hb] at HB ⊢
        have HR1 := HQ1.out.kp KW (fun _ _ h => h)
        rw [hE] at HB
        have c0 : W1.cell? ⟨b, 0, none⟩ = some (.int .i64 n0) := by rw [cell_of HB]; rfl
        have f0 := frozen_of HB 0
        have c1 : W1.cell? ⟨b, 1 + n0, none⟩ = some (.int .u8 (b0 n0)) := by rw [cell_of HB, List.getElem?_toArray, mkE_b _ _ _ _ hn16]
        have f1 := frozen_of HB (1 + n0)
        have cj : W1.cell? (yy.add j) = some (.int .u8 L[j]) := by
          rw [cell_blk (w := w) (by rw [add_blk]; exact (KW0.trans KW).blk yy.block (hy (by intro e; rw [e] at hlt; simp at hlt)) (fun h => h))]; exact hcj
        have bn : (n0 : Int) < 16 := by omega
        replace hE := hid hE
        replace hn0 := hid hn0
        replace HB := hid HB
        replace HR1 := hid HR1
        replace hb := hid hb
        replace hRl := hid hRl
        replace hfin := hid hfin
        replace hcj := hid hcj
        clear HQ1 Lr
        refine wp_region_G (fun _ => True) [(0, .at_), (1, .at_), (2, .at_), (3, .at_), (4, .at_), (5, .at_), (6, .at_), (7, .at_), (8, .eff)] ?L2 (by kernel_rfl) (by kernel_rfl) ?hL2 (trivial) ?hG2
        case hL2 => simp only [pickOps, List.map_cons, List.map_nil, List.getD_cons_zero, List.getD_cons_succ]; rfl
        repeat (first | (refine wpG_at (v := ?_) (by rfl) ?_ ?_; rotate_left; (focus (first | (go_simp; with_reducible rfl) | (go_simp; done))); simp only [Act.put, List.setIfInBounds_toArray, List.set_cons_zero, List.set_cons_succ]) | (refine wpG_at_skip (by rfl) ?_; simp only [Act.put, List.setIfInBounds_toArray, List.set_cons_zero, List.set_cons_succ]) | (refine wpG_held_skip (by rfl) ?_; simp only [Act.put, List.setIfInBounds_toArray, List.set_cons_zero, List.set_cons_succ]) | (refine wpG_held (v := ?_) (by rfl) ?_ ?_; rotate_left; (focus (intro w' hSw; (try dsimp only at hSw); go_split_ands; first | (go_simp; with_reducible rfl) | (go_simp; done))); simp only [Act.put, List.setIfInBounds_toArray, List.set_cons_zero, List.set_cons_succ]))
        refine wpG_eff (by rfl) (fun K hK => ?_)
        go_simp
        refine hK _ _ trivial ?_
        clear hK K
        refine wpG_nil (NoPanic.normal ?_)
        have K2 : Kp NoB w (W1.setCell ⟨b, 1 + n0, none⟩ (.int .u8 L[j])).drew := ((KW0.trans KW).setCell _ (fun h => by have := hb.out; have := KW0.size; simp at h; omega)).drew
        have HB2 := blk_drew (blk_setCell HB.out (1 + n0) (.int .u8 L[j]))
        have HR2 := (HR1.out.setCell ⟨b, 1 + n0, none⟩ (.int .u8 L[j]) (by rw [hgo]; intro e; injection e with e; have := hb.out; simp only at e; omega)).drew
        obtain ⟨W2, hW2⟩ : ∃ W2, W2 = (W1.setCell ⟨b, 1 + n0, none⟩ (.int .u8 L[j])).drew := ⟨_, rfl⟩
        rw [← hW2] at K2 HB2 HR2 ⊢
        clear hW2 c0 f0 c1 f1 cj HB HR1 KW
        have c0 : W2.cell? ⟨b, 0, none⟩ = some (.int .i64 n0) := by rw [cell_of HB2, Array.getElem?_setIfInBounds_ne (by omega)]; rfl
        have f0 := frozen_of HB2 0
        have HB3 := blk_setCell HB2 0 (.int .i64 ((n0 : Int) + 1))
        rw [mkE_put n0 hn16] at HB3
        have HR3 := HR2.setCell ⟨b, 0, none⟩ (.int .i64 ((n0 : Int) + 1)) (by rw [hgo]; intro e; injection e with e; have := hb.out; simp only at e; omega)
        have K3 : Kp NoB w (W2.setCell ⟨b, 0, none⟩ (.int .i64 ((n0 : Int) + 1))) := K2.setCell _ (fun h => by have := hb.out; have := KW0.size; simp at h; omega)
        obtain ⟨F, hF⟩ : ∃ F, F = mkE ((n0 : Int) + 1) (fun q => if q = n0 then L[j] else b0 q) 0 0 := ⟨_, rfl⟩
        have hFe : mkE ((n0 : Int) + 1) (fun q => if q = n0 then L[j] else b0 q) 0 0 = F := hF.symm
        rw [hFe] at HB3
        have Lx := whole_of HB3
        have Lw : (W2.setCell ⟨b, 0, none⟩ (.int .i64 ((n0 : Int) + 1))).there g (m * 19) 19 := HR3.there_last hRl.out
        replace HB2 := hid HB2
        replace HR2 := hid HR2
        replace HB3 := hid HB3
        replace HR3 := hid HR3
        replace hF := hid hF
        replace hFe := hid hFe
        go_wp2_with (first | refine ldX (by rfl) _ rfl _ _ rfl F Lx ?_ | refine stX (by rfl) _ _ rfl _ _ F rfl rfl Lw ?_)
        go_roundw
        case rel =>
          refine ⟨j + 1, by omega, by go_num, ?_, ?_, K3.setCells _ (fun h => absurd h (by omega))⟩
          · have := HR3.out.put_last hRl.out F
            rw [hF.out] at this ⊢
            rw [← hfin.out]
            exact this
          · intro b' hb'
            rw [hgo] at hb'; injection hb' with hb'; subst hb'; exact hgn
        case measure => simp [intOf]; omega
    · obtain rfl : j = L.length := by omega
      obtain ⟨ho, hn, hK⟩ := hR
      rw [List.take_length] at ho
      replace ho := hid ho
      go_wp2_with fail
      go_ret
      exact ⟨_, rfl, ho.out, hn, hK⟩
end Go.Proofs.Ytaanbonbdhjbpaa
