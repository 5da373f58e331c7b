/- The law ArenaOnce, walked. -/
import Derived.Test.YtldkogdkadgnkaaR8
namespace Go.Proofs.Ytldkogdkadgnkaa
set_option linter.unusedSimpArgs false
set_option linter.unusedVariables false
open Go.RowKit
attribute [local go_sem ↓] Go.wp_at_zero Go.wp_at_succ

def eB (b : Bool) : List Value := [.bool b]
theorem eB_len (b : Bool) : (eB b).length = 1 := rfl
def lenV : Value → Nat
  | .slice _ n _ => n
  | _ => 0
theorem u27 : Try.prog.underlying 27 = some (.slice 4) := by kernel_rfl
theorem i4 : (Try.prog.info? 4).map (fun i => (i.zero, i.size, i.bytes)) = some (some (.bool false), 1, 1) := by kernel_rfl
theorem row_set {w : World} {b c : Nat} {L : List Bool} (h : RowAt w 4 eB 1 (.slice (some ⟨b, 0, none⟩) L.length c) L) {k : Nat} (hk : k < L.length) (x : Bool) : RowAt (w.setCell ⟨b, k, none⟩ (.bool x)) 4 eB 1 (.slice (some ⟨b, 0, none⟩) L.length c) (L.set k x) := by
  obtain ⟨b', c', A, hv, hb, hA, hc, hm, hs⟩ := h.pos eB_len (by omega)
  injection hv with hv1 _ hv3
  injection hv1 with hv1
  injection hv1 with hv1
  subst hv1; subst hv3
  have h2 := hA.set eB_len (by omega) hk x
  have h3 := RowAt.own (w := w.setCell ⟨b, k, none⟩ (.bool x)) (e := 4) (c := c) eB_len (blk_setCell hb k (.bool x)) (l := L.set k x) (by
    have e : setRow A (k * 1) (eB x) = A.setIfInBounds k (.bool x) := by rw [Nat.mul_one]; rfl
    rw [← e]; exact h2) (by simpa using hc) hm (by simpa using hs)
  rw [List.length_set] at h3
  exact h3
theorem row_far {w : World} {v : Value} {L : List Bool} (h : RowAt w 4 eB 1 v L) : ∀ b, v.ownBlock = some b → Far w b := by
  intro b hb
  rcases h.2 with ⟨rfl, _⟩ | ⟨g, cap, cur, rfl, _, hg, _⟩
  · cases hb
  · injection hb with hb; subst hb
    exact ⟨cur, 4, hg, by decide⟩
theorem make_gone (w : World) : (Instr.makeSlice 27 (.int .i64 0) (.int .i64 160)).run Try.prog w = .ok (.slice (some ⟨w.heap.size, 0, none⟩) 0 160) (w.alloc (.cells (madeCells (Value.cells (.bool false)) 160) 4)) := by
  obtain ⟨i, hi, hzz⟩ := Option.map_eq_some_iff.1 i4
  simp only [Prod.mk.injEq] at hzz
  obtain ⟨hz, hs, hb⟩ := hzz
  have hr := run_make (P := Try.prog) w 27 4 i (.bool false) u27 hi hz .i64 .i64 0 160 (by omega) (by omega) (by rw [hb]; omega) (by omega)
  rw [hs] at hr
  exact hr
/-- what was told gone is stale -/
def StaleL (S : List (Int × Int × Bool)) (H : List (Nat × Int)) (L : List Bool) : Prop := ∀ (k : Nat) (h : Nat × Int), H[k]? = some h → L[k]? = some true → ¬ HOk S h.1 h.2
set_option maxRecDepth 100000 in
set_option maxHeartbeats 8000000 in
theorem once_law (w : World) (n : Int) (xl : Option Addr) (ll lc : Nat) (D : List Ac) (hD : ActsAt w w.heap.size xl ll D) :
    Calls Try.prog 3 #[.int .i64 n, .slice xl ll lc] w fun e w' => e = .returned (.bool true) ∧ Kp NoB w w' := by
  have HK := hid known_any
  have HM := hid (may_any n w)
  by_cases hn : 1 ≤ n ∧ n ≤ 100
  · obtain ⟨m, rfl⟩ : ∃ m : Nat, n = m := ⟨n.toNat, by omega⟩
    obtain ⟨m1, m2⟩ := hn
    have HN := hid (begin_any m (by omega) (by omega) w)
    by_cases hl : ll ≤ 150
    · have hm := hid (show (decide (1 ≤ (m : Int)) && decide ((m : Int) ≤ 4096)) = true from by simp; omega)
      have hl' : ¬ (150 : Int) < (ll : Int) := by omega
      have hm' : ¬ (100 : Int) < (m : Int) := by omega
      have hmk := make_gone
      replace hD := hid hD
      go_enter Try.func3, Try.ntmps3
      go_wp2_with fail
      refine HM.out.mono ?_
      rintro e w1 ⟨rfl, rfl⟩
      rw [hm.out]
      go_wp2_with fail
      refine HN.out.mono ?_
      rintro e w1 ⟨pg, p, l, r, lb, c, rfl, G1, k1⟩
      replace G1 := hid G1
      go_wp2_with fail
      go_loopw [6, 7, 8, 9, 10, 11, 12] (fun gv i _ _ _ _ _ W => ∃ (j : Nat) (S : List (Int × Int × Bool)) (B : List Nat) (E : Nat) (H : List (Nat × Int)) (L : List Bool), j ≤ ll ∧ i = .int .i64 j ∧ Game w.heap.size W pg p l r lb c S B E H ∧ GOk S B E H (1 + j) ∧
        Hid (H.length ≤ j) ∧ RowAt W 4 eB 1 gv L ∧ New w gv ∧ Hid (L.length = H.length) ∧ StaleL S H L ∧ Kp NoB w W) (fun _ i _ _ _ _ _ _ => ll - (intOf i).toNat)
      case atStart =>
        refine ⟨0, _, _, _, _, [], Nat.zero_le _, rfl, ⟨_, _, _, G1.out.alloc _⟩, ⟨AInv.new m (by omega) (by omega), ?_, ?_⟩, hid (Nat.le_refl _), ?_, ?_, hid rfl, ?_, k1.alloc _⟩
        · intro i s hs
          rw [List.getElem?_replicate] at hs
          split at hs
          · injection hs with hs; subst hs; simp
          · cases hs
        · intro h hh; cases hh
        · exact RowAt.own (c := 160) eB_len (blk_new _ _) (by intro k j x hk; simp at hk) (by simp) (by simp [maxLen]) (by simp [size_madeCells])
        · intro b hb; injection hb with hb; have := k1.size; have hb' : w1.heap.size = b := hb; omega
        · intro k h hk; simp at hk
      case round =>
        obtain ⟨j, S, B, E, H, L, hj, rfl, hG, hO, hHl, hR, hN, hLl, hS, hK⟩ := hrel
        by_cases hlt : j < ll
        · obtain ⟨v, vb, hv, hGG⟩ := hG
          obtain ⟨oh, ch, hhv, _⟩ := hGG.hh.form
          subst hhv
          have Lg := loc3 hGG.hg
          obtain ⟨z, hz⟩ : ∃ z, D[j]? = some z := ⟨_, List.getElem?_eq_getElem (by rw [hD.out.ln]; exact hlt)⟩
          obtain ⟨y, rfl, hy, y0, y1, y2, y3, y4⟩ := (hD.out.kp hK (Nat.le_refl _) (fun _ h => h.elim)).at_ j z hz
          have hwz := hD.out.wf z (List.mem_of_getElem? hz)
          have b1 : (0 : Int) ≤ (j : Int) := Int.natCast_nonneg _
          have b2 : (j : Int) < (ll : Int) := by omega
          have HD := hid (do_game ⟨v, vb, _, hGG⟩ hO (by omega) (by have := hHl.out; omega) z.kind z.hi z.hg z.at_ z.x hwz)
          replace hz := hid hz
          replace hGG := hid hGG
          replace hO := hid hO
          go_wp2_with fail
          refine HD.out.mono ?_
          clear HD y0 y1 y2 y3 y4 Lg
          rintro e w2 ⟨rfl, S2, B2, E2, H2, G2, O2, M2, hH2, k2⟩
          have hfar := row_far hR
          have R2 := hR.kp k2 (fun b hb h => h.2 (hfar b hb))
          have K2 := kp_new hK k2 (fun b hb => hb.1)
          have S2s : StaleL S2 H2 L := by
            intro q h hq hl
            have hqL : q < L.length := (List.getElem?_eq_some_iff.1 hl).1
            have hqH : H[q]? = some h := by
              rcases hH2 with rfl | ⟨h', rfl, _⟩
              · exact hq
              · rw [List.getElem?_append_left (by have := hLl.out; omega)] at hq; exact hq
            exact stale hO.out.h M2 (List.mem_of_getElem? hqH) (hS q h hqH hl)
          have hne : ∀ (q : Nat) (a b : Nat × Int), q < H.length → H2[q]? = some a → H2[H.length]? = some b → a ≠ b := by
            intro q a b hq ha hb
            rcases hH2 with rfl | ⟨h', rfl, hn'⟩
            · rw [List.getElem?_eq_none (Nat.le_refl _)] at hb; cases hb
            · rw [List.getElem?_append_left hq] at ha
              rw [List.getElem?_append_right (Nat.le_refl _)] at hb
              simp at hb; subst hb
              rintro rfl; exact hn' (List.mem_of_getElem? ha)
          have hlen2 : H.length ≤ H2.length ∧ H2.length ≤ H.length + 1 := by
            rcases hH2 with rfl | ⟨h', rfl, _⟩
            · omega
            · simp
          clear hfar hS hR hK hH2
          have hHm : H.length ≤ 150 := by have := hHl.out; omega
          replace G2 := hid G2
          replace S2s := hid S2s
          replace hne := hid hne
          replace O2 := hid O2
          go_wp2_with fail
          go_loopw [9] (fun i9 W => ∃ q : Nat, q ≤ H.length ∧ i9 = .int .i64 q ∧ Kp NoB w2 W) (fun i9 _ => H.length - (intOf i9).toNat)
          case atStart => exact ⟨0, Nat.zero_le _, rfl, Kp.refl _ _⟩
          case round =>
            obtain ⟨q, hq, rfl, hKq⟩ := hrel
            obtain ⟨v2, vb2, hv2, hGq⟩ := G2.out.kn hKq
            obtain ⟨oh2, ch2, hhv2, _⟩ := hGq.hh.form
            subst hhv2
            have Lg := loc3 hGq.hg
            replace hGq := hid hGq
            go_upto_region 14 with fail
            go_cut [60] (fun s60 wx => s60 = .bool (decide (q < H.length) && decide (H.length < H2.length)) ∧ wx = wr)
            case first =>
              by_cases c1 : q < H.length
              · have b3 : (q : Int) < (H.length : Int) := by omega
                by_cases c2 : H.length < H2.length
                · have b4 : (H.length : Int) < (H2.length : Int) := by omega
                  go_wp2_with fail
                  go_meet
                  case rel => exact ⟨by simp [c1, c2], rfl⟩
                · have b4 : ¬ (H.length : Int) < (H2.length : Int) := by omega
                  go_wp2_with fail
                  go_meet
                  case rel => exact ⟨congrArg Value.bool (and_no (fun h => c2 h.2)).symm, rfl⟩
              · have b3 : ¬ (q : Int) < (H.length : Int) := by omega
                go_wp2_with fail
                go_meet
                case rel => exact ⟨congrArg Value.bool (and_no (fun h => c1 h.1)).symm, rfl⟩
            case rest =>
              obtain ⟨rfl, rfl⟩ := hcut
              by_cases cc : q < H.length ∧ H.length < H2.length
              · have hc := hid (show (decide (q < H.length) && decide (H.length < H2.length)) = true from by simp [cc])
                rw [hc.out]
                obtain ⟨⟨a1, g1⟩, h1⟩ : ∃ s, H2[q]? = some s := ⟨_, List.getElem?_eq_getElem (by omega)⟩
                obtain ⟨⟨a2, g2⟩, h2⟩ : ∃ s, H2[H.length]? = some s := ⟨_, List.getElem?_eq_getElem cc.2⟩
                have hd := hne.out q _ _ cc.1 h1 h2
                obtain ⟨b', c', A, hv', hb, hA, hcc, _⟩ := hGq.out.hh.pos eH_len (by omega)
                injection hv' with hv1 _ hv3
                subst hv1; subst hv3
                have e0 : wc.cell? ⟨b', q * 2, none⟩ = some (.int .i64 a1) := by rw [cell_of hb]; exact hA q 0 _ h1 (by omega)
                have e1 : wc.cell? ⟨b', q * 2 + 1, none⟩ = some (.int .u64 g1) := by rw [cell_of hb]; exact hA q 1 _ h1 (by omega)
                have e2 : wc.cell? ⟨b', H.length * 2, none⟩ = some (.int .i64 a2) := by rw [cell_of hb]; exact hA H.length 0 _ h2 (by omega)
                have e3 : wc.cell? ⟨b', H.length * 2 + 1, none⟩ = some (.int .u64 g2) := by rw [cell_of hb]; exact hA H.length 1 _ h2 (by omega)
                have b3 : (q : Int) < (H.length : Int) := by omega
                have b4 : (q : Int) < (H2.length : Int) := by omega
                have b5 : (H.length : Int) < (H2.length : Int) := by omega
                have b6 : (0 : Int) ≤ (q : Int) := Int.natCast_nonneg _
                have b7 : (0 : Int) ≤ (H.length : Int) := Int.natCast_nonneg _
                replace h1 := hid h1
                replace h2 := hid h2
                replace hb := hid hb
                have cq := hid cc.1
                have cq2 : q ≤ 150 := by omega
                by_cases ea : a1 = a2
                · subst ea
                  have eg : (g1 == g2) = false := by
                    simp
                    rintro rfl
                    exact hd rfl
                  replace hd := hid hd
                  go_wp2_with fail
                  refine wp_region_G (fun _ => True) [(0, .at_), (1, .at_), (2, .at_), (3, .at_), (4, .at_), (5, .at_), (6, .at_), (7, .at_), (8, .at_), (9, .at_), (10, .at_), (11, .at_), (12, .at_), (13, .at_), (14, .at_)] ?L1 (by kernel_rfl) (by kernel_rfl) ?hL1 (trivial) ?hG1
                  case hL1 => simp only [pickOps, List.map_cons, List.map_nil, List.getD_cons_zero, List.getD_cons_succ]; rfl
                  repeat (first | (refine wpG_at (v := ?_) (by rfl) ?_ ?_; rotate_left; (focus (first | (go_simp; with_reducible rfl) | (go_simp; done))); simp only [Act.put, List.setIfInBounds_toArray, List.set_cons_zero, List.set_cons_succ]) | (refine wpG_at_skip (by rfl) ?_; simp only [Act.put, List.setIfInBounds_toArray, List.set_cons_zero, List.set_cons_succ]) | (refine wpG_held_skip (by rfl) ?_; simp only [Act.put, List.setIfInBounds_toArray, List.set_cons_zero, List.set_cons_succ]) | (refine wpG_held (v := ?_) (by rfl) ?_ ?_; rotate_left; (focus (intro w' hSw; (try dsimp only at hSw); go_split_ands; first | (go_simp; with_reducible rfl) | (go_simp; done))); simp only [Act.put, List.setIfInBounds_toArray, List.set_cons_zero, List.set_cons_succ]))
                  refine wpG_nil (NoPanic.normal ?_)
                  go_wp2_with fail
                  go_roundw
                  case rel => exact ⟨q + 1, by have := cq.out; omega, by go_num, hKq.drew⟩
                  case measure => have := cq.out; simp [intOf]; omega
                · have eg : ((a1 : Int) == (a2 : Int)) = false := by simp; omega
                  have eg' : ¬ a1 = a2 := ea
                  replace hd := hid hd
                  go_wp2_with fail
                  refine wp_region_G (fun _ => True) [(0, .at_), (1, .at_), (2, .at_), (3, .at_), (4, .at_), (5, .at_), (6, .at_), (7, .at_), (8, .at_), (9, .at_), (10, .at_), (11, .at_), (12, .at_), (13, .at_), (14, .at_)] ?L2 (by kernel_rfl) (by kernel_rfl) ?hL2 (trivial) ?hG2
                  case hL2 => simp only [pickOps, List.map_cons, List.map_nil, List.getD_cons_zero, List.getD_cons_succ]; rfl
                  repeat (first | (refine wpG_at (v := ?_) (by rfl) ?_ ?_; rotate_left; (focus (first | (go_simp; with_reducible rfl) | (go_simp; done))); simp only [Act.put, List.setIfInBounds_toArray, List.set_cons_zero, List.set_cons_succ]) | (refine wpG_at_skip (by rfl) ?_; simp only [Act.put, List.setIfInBounds_toArray, List.set_cons_zero, List.set_cons_succ]) | (refine wpG_held_skip (by rfl) ?_; simp only [Act.put, List.setIfInBounds_toArray, List.set_cons_zero, List.set_cons_succ]) | (refine wpG_held (v := ?_) (by rfl) ?_ ?_; rotate_left; (focus (intro w' hSw; (try dsimp only at hSw); go_split_ands; first | (go_simp; with_reducible rfl) | (go_simp; done))); simp only [Act.put, List.setIfInBounds_toArray, List.set_cons_zero, List.set_cons_succ]))
                  refine wpG_nil (NoPanic.normal ?_)
                  go_wp2_with fail
                  go_roundw
                  case rel => exact ⟨q + 1, by have := cq.out; omega, by go_num, hKq.drew⟩
                  case measure => have := cq.out; simp [intOf]; omega
              · have hc := hid (show (decide (q < H.length) && decide (H.length < H2.length)) = false from and_no cc)
                rw [hc.out]
                clear hGq Lg
                have G3 := G2.out.kn hKq
                have R3 := R2.kp hKq (fun _ _ h => h)
                have K3 := K2.trans hKq
                clear hlt G2 R2 K2 k2 hKq hne hc cc hq
                replace G3 := hid G3
                have hlen3 : L.length ≤ H2.length ∧ H2.length ≤ L.length + 1 := by rw [hLl.out]; exact hlen2
                go_wp2_with fail
                go_loopw [6] (fun gv W => ∃ L2 : List Bool, RowAt W 4 eB 1 gv L2 ∧ New w gv ∧ L2.length ≤ H2.length ∧ Hid (∀ k : Nat, L2[k]? = some true → L[k]? = some true) ∧ Game w.heap.size W pg p l r lb c S2 B2 E2 H2 ∧ Kp NoB w W) (fun gv _ => H2.length - lenV gv)
                case atStart => exact ⟨L, R3, hN, hlen3.1, hid (fun k h => h), G3.out, K3⟩
                case round =>
                  clear G3 R3 K3
                  obtain ⟨L2, hR2, hN2, hL2, hT2, ⟨v2, vb2, hv2, hGq⟩, hK2⟩ := hrel
                  obtain ⟨oh2, ch2, hhv2, _⟩ := hGq.hh.form
                  subst hhv2
                  have Lg := loc3 hGq.hg
                  obtain ⟨og, cg, hgv, _⟩ := hR2.form
                  subst hgv
                  by_cases c5 : L2.length < H2.length
                  · have b3 : (L2.length : Int) < (H2.length : Int) := by omega
                    have hfar := row_far hR2
                    have hlm : L2.length ≤ 4096 := by have := hHl.out; omega
                    replace hGq := hid hGq
                    go_wp2_with (at_builtin; refine wpList_plain rfl fun K hK => ?_; refine wp_grow eB_len (by omega) _ _ 27 4 _ 1 rfl u27 i4 rfl (.slice og L2.length cg) L2 rfl (hR2.alloc _) wr.heap.size 1 [false] rfl #[.bool false] 4 (blk_new' _ _ (by simp)) (by intro a b x ha hb; match a, ha with | 0, ha => simp at ha; subst ha; match b, hb with | 0, _ => rfl) (by simp [eB, Value.oneCell']) (by simp; omega) (by omega) ?_; intro v4 w4 q1 q2 q3; obtain ⟨ov, cv, hv', _⟩ := q1.form; subst hv'; refine hK _ _ ?_; clear hK K)
                    rw [show (L2 ++ [false]).length = L2.length + 1 from by simp] at q1 q3
                    have k4 := kp_grown (F := fun b => (Value.slice og L2.length cg).ownBlock = some b) q2 (fun b hb => hb)
                    have K4 := kp_new (hK2.alloc (.cells #[.bool false] 4)) k4 (fun b hb => hN2 b hb)
                    have G4 : Game w.heap.size w4 pg p l r lb c S2 B2 E2 H2 := by
                      refine ⟨v2, vb2, _, (hGq.out.alloc (.cells #[.bool false] 4)).kp k4 ?_⟩
                      intro b hb hb'
                      obtain ⟨A, t, hbb, ht⟩ := hfar b hb'
                      exact hGq.out.not_fp hbb ht hb
                    go_roundw
                    case rel => exact ⟨L2 ++ [false], q1, hN2.grow (hK2.alloc _).size q3, by simp; omega, hid (by
                      intro k hk
                      by_cases hkl : k < L2.length
                      · rw [List.getElem?_append_left hkl] at hk
                        exact hT2.out k hk
                      · rw [List.getElem?_append_right (by omega)] at hk
                        rcases hkk : k - L2.length with _ | k'
                        · rw [hkk] at hk; simp at hk
                        · rw [hkk] at hk; simp at hk), G4, K4⟩
                    case measure => simp [lenV]; omega
                  · have b3 : ¬ (L2.length : Int) < (H2.length : Int) := by omega
                    have hL2e : L2.length = H2.length := by omega
                    replace hL2e := hid hL2e
                    have hGg : Game w.heap.size wr pg p l r lb c S2 B2 E2 H2 := ⟨v2, vb2, _, hGq⟩
                    replace hGq := hid hGq
                    replace hR2 := hid hR2
                    have hH2m : H2.length ≤ 4096 := by have := hHl.out; omega
                    go_wp2_with fail
                    clear hGq Lg
                    replace hR2 := hR2.out
                    go_loopw [10, 11, 12] (fun i10 _ _ W => ∃ (q : Nat) (L3 : List Bool), q ≤ H2.length ∧ i10 = .int .i64 q ∧ RowAt W 4 eB 1 (.slice og L2.length cg) L3 ∧ Hid (L3.length = L2.length) ∧
                      Hid (∀ (k : Nat) (h : Nat × Int), H2[k]? = some h → L3[k]? = some true → ¬ HOk S2 h.1 h.2) ∧ Game w.heap.size W pg p l r lb c S2 B2 E2 H2 ∧ Kp NoB w W) (fun i10 _ _ _ => H2.length - (intOf i10).toNat)
                    case atStart => exact ⟨0, L2, Nat.zero_le _, rfl, hR2, hid rfl, hid (fun k h hk hl => S2s.out k h hk (hT2.out k hl)), hGg, hK2⟩
                    case round =>
                      clear hR2 hGg hK2
                      obtain ⟨q, L3, hq, rfl, hR3, hL3, hT3, ⟨v3, vb3, hv3, hGq⟩, hK3⟩ := hrel
                      obtain ⟨oh3, ch3, hhv3, _⟩ := hGq.hh.form
                      subst hhv3
                      have Lg := loc3 hGq.hg
                      by_cases c6 : q < H2.length
                      · have b4 : (q : Int) < (H2.length : Int) := by omega
                        have b5 : (0 : Int) ≤ (q : Int) := Int.natCast_nonneg _
                        have hqm : q ≤ 4096 := by omega
                        obtain ⟨⟨a1, g1⟩, h1⟩ : ∃ s, H2[q]? = some s := ⟨_, List.getElem?_eq_getElem c6⟩
                        obtain ⟨b', c', A, hv', hb, hA, hcc, _⟩ := hGq.hh.pos eH_len (by omega)
                        injection hv' with hv1 _ hv3
                        subst hv1; subst hv3
                        have e0 : wr.cell? ⟨b', q * 2, none⟩ = some (.int .i64 a1) := by rw [cell_of hb]; exact hA q 0 _ h1 (by omega)
                        have e1 : wr.cell? ⟨b', q * 2 + 1, none⟩ = some (.int .u64 g1) := by rw [cell_of hb]; exact hA q 1 _ h1 (by omega)
                        have hLL := hL3.out.trans hL2e.out
                        obtain ⟨bg, cg', Ag, hvg, hbg, hAg, hccg, _⟩ := hR3.pos eB_len (by omega)
                        rw [hL3.out] at hvg
                        injection hvg with hvg1 _ hvg3
                        subst hvg1; subst hvg3
                        obtain ⟨lq, hlq⟩ : ∃ x, L3[q]? = some x := ⟨_, List.getElem?_eq_getElem (by omega)⟩
                        have eg0 : ∀ W, Kp NoB wr W → W.cell? ⟨bg, q, none⟩ = some (.bool lq) ∧ W.frozen? ⟨bg, q, none⟩ = false ∧ bg < W.heap.size := fun W kW => by
                          have hbg' := kW.get hbg (fun h => h)
                          exact ⟨by rw [cell_of hbg']; exact Pre.one (f := fun x => Value.bool x) hAg hlq, frozen_of hbg' _, blk_lt hbg'⟩
                        have b6 : (q : Int) < (L2.length : Int) := by have := hL2e.out; omega
                        have RS := hid (fun (W : World) (kW : Kp NoB wr W) (x : Bool) => row_set (w := W) (b := bg) (c := cg) (L := L3) (by rw [hL3.out]; exact hR3.kp kW (fun _ _ h => h)) (k := q) (by rw [hLL]; exact c6) x)
                        have FG := hid (row_far hR3 bg rfl)
                        have nbg : w.heap.size ≤ bg := hN2 bg rfl
                        have hstep : ∀ x : Bool, (x = true → ¬ HOk S2 a1 g1) → Hid (∀ (k : Nat) (h : Nat × Int), H2[k]? = some h → (L3.set q x)[k]? = some true → ¬ HOk S2 h.1 h.2) := by
                          intro x hx
                          refine hid (fun k h hk hl => ?_)
                          by_cases e : k = q
                          · subst e
                            rw [List.getElem?_set_self (by omega)] at hl
                            rw [h1] at hk; injection hk with hk; subst hk
                            injection hl with hl
                            exact hx hl
                          · rw [List.getElem?_set_ne (Ne.symm e)] at hl
                            exact hT3.out k h hk hl
                        have hnq := hT3.out q _ h1
                        rw [hlq] at hnq
                        replace hstep := hid hstep
                        replace hb := hid hb
                        replace hbg := hid hbg
                        replace hlq := hid hlq
                        replace hLL := hid hLL
                        replace eg0 := hid eg0
                        replace hR3 := hid hR3
                        have HG0 : Game w.heap.size wr pg p l r lb c S2 B2 E2 H2 := ⟨v3, vb3, _, hGq⟩
                        by_cases ho : HOk S2 a1 g1
                        · obtain ⟨k5, x5, hik5, hk5⟩ := ho
                          have hik6 := Int.ofNat.inj hik5
                          subst hik6
                          have lqf : lq = false := by
                            cases lq
                            · rfl
                            · exact absurd ⟨a1, x5, rfl, hk5⟩ (hnq rfl)
                          subst lqf
                          have HX := hid (get_yes hGq.ha.drew O2.out.i.ok hk5)
                          replace hGq := hid hGq
                          replace hk5 := hid hk5
                          replace h1 := hid h1
                          replace hnq := hid hnq
                          go_wp2_with fail
                          refine wp_region_G (fun _ => True) [(0, .at_), (1, .at_), (2, .at_), (3, .at_), (4, .at_), (5, .at_), (6, .at_), (7, .at_), (8, .at_), (9, .at_), (10, .at_), (11, .eff), (12, .at_), (13, .at_), (14, .at_), (15, .at_), (16, .at_)] ?L3 (by kernel_rfl) (by kernel_rfl) ?hL3 (trivial) ?hG3
                          case hL3 => simp only [pickOps, List.map_cons, List.map_nil, List.getD_cons_zero, List.getD_cons_succ]; rfl
                          repeat (first | (refine wpG_at (v := ?_) (by rfl) ?_ ?_; rotate_left; (focus (first | (go_simp; with_reducible rfl) | (go_simp; done))); simp only [Act.put, List.setIfInBounds_toArray, List.set_cons_zero, List.set_cons_succ]) | (refine wpG_at_skip (by rfl) ?_; simp only [Act.put, List.setIfInBounds_toArray, List.set_cons_zero, List.set_cons_succ]) | (refine wpG_held_skip (by rfl) ?_; simp only [Act.put, List.setIfInBounds_toArray, List.set_cons_zero, List.set_cons_succ]) | (refine wpG_held (v := ?_) (by rfl) ?_ ?_; rotate_left; (focus (intro w' hSw; (try dsimp only at hSw); go_split_ands; first | (go_simp; with_reducible rfl) | (go_simp; done))); simp only [Act.put, List.setIfInBounds_toArray, List.set_cons_zero, List.set_cons_succ]))
                          refine wpG_eff (by rfl) (fun K hK => ?_)
                          go_simp
                          refine HX.out.mono ?_
                          rintro e w5 ⟨rfl, k5'⟩
                          have k5 : Kp NoB wr w5 := (Kp.refl _ wr).drew.trans k5'
                          have Lq := eg0.out w5 k5
                          refine hK _ _ trivial ?_
                          clear hK K
                          clear Lg e0 e1
                          repeat (first | (refine wpG_at (v := ?_) (by rfl) ?_ ?_; rotate_left; (focus (first | (go_simp; with_reducible rfl) | (go_simp; done))); simp only [Act.put, List.setIfInBounds_toArray, List.set_cons_zero, List.set_cons_succ]) | (refine wpG_at_skip (by rfl) ?_; simp only [Act.put, List.setIfInBounds_toArray, List.set_cons_zero, List.set_cons_succ]) | (refine wpG_held_skip (by rfl) ?_; simp only [Act.put, List.setIfInBounds_toArray, List.set_cons_zero, List.set_cons_succ]) | (refine wpG_held (v := ?_) (by rfl) ?_ ?_; rotate_left; (focus (intro w' hSw; (try dsimp only at hSw); go_split_ands; first | (go_simp; with_reducible rfl) | (go_simp; done))); simp only [Act.put, List.setIfInBounds_toArray, List.set_cons_zero, List.set_cons_succ]))
                          refine wpG_nil (NoPanic.normal ?_)
                          go_wp2_with fail
                          have F5 : Far w5 bg := ⟨Ag, 4, k5.get hbg.out (fun h => h), by decide⟩
                          have RSX := RS.out w5 k5 false
                          rw [hL3.out] at RSX
                          go_roundw
                          case rel => exact ⟨q + 1, L3.set q false, by omega, by go_num, RSX, hid (by rw [List.length_set]; exact hL3.out), (hstep.out false (by simp)).out, (HG0.kn k5).far F5 ((Kp.refl (· = bg) w5).setCell _ (fun _ => rfl)), kp_new (hK3.trans k5) ((Kp.refl (· = bg) w5).setCell _ (fun _ => rfl)) (by rintro b rfl; exact nbg)⟩
                          case measure => simp [intOf]; omega
                        · have HX := hid (get_no hGq.ha.drew O2.out.i.ok ho)
                          replace hGq := hid hGq
                          replace h1 := hid h1
                          replace hnq := hid hnq
                          replace ho := hid ho
                          cases lq
                          · go_wp2_with fail
                            refine wp_region_G (fun _ => True) [(0, .at_), (1, .at_), (2, .at_), (3, .at_), (4, .at_), (5, .at_), (6, .at_), (7, .at_), (8, .at_), (9, .at_), (10, .at_), (11, .eff), (12, .at_), (13, .at_), (14, .at_), (15, .at_), (16, .at_)] ?L4 (by kernel_rfl) (by kernel_rfl) ?hL4 (trivial) ?hG4
                            case hL4 => simp only [pickOps, List.map_cons, List.map_nil, List.getD_cons_zero, List.getD_cons_succ]; rfl
                            repeat (first | (refine wpG_at (v := ?_) (by rfl) ?_ ?_; rotate_left; (focus (first | (go_simp; with_reducible rfl) | (go_simp; done))); simp only [Act.put, List.setIfInBounds_toArray, List.set_cons_zero, List.set_cons_succ]) | (refine wpG_at_skip (by rfl) ?_; simp only [Act.put, List.setIfInBounds_toArray, List.set_cons_zero, List.set_cons_succ]) | (refine wpG_held_skip (by rfl) ?_; simp only [Act.put, List.setIfInBounds_toArray, List.set_cons_zero, List.set_cons_succ]) | (refine wpG_held (v := ?_) (by rfl) ?_ ?_; rotate_left; (focus (intro w' hSw; (try dsimp only at hSw); go_split_ands; first | (go_simp; with_reducible rfl) | (go_simp; done))); simp only [Act.put, List.setIfInBounds_toArray, List.set_cons_zero, List.set_cons_succ]))
                            refine wpG_eff (by rfl) (fun K hK => ?_)
                            go_simp
                            refine HX.out.mono ?_
                            rintro e w5 ⟨rfl, k5'⟩
                            have k5 : Kp NoB wr w5 := (Kp.refl _ wr).drew.trans k5'
                            have Lq := eg0.out w5 k5
                            refine hK _ _ trivial ?_
                            clear hK K
                            clear Lg e0 e1
                            repeat (first | (refine wpG_at (v := ?_) (by rfl) ?_ ?_; rotate_left; (focus (first | (go_simp; with_reducible rfl) | (go_simp; done))); simp only [Act.put, List.setIfInBounds_toArray, List.set_cons_zero, List.set_cons_succ]) | (refine wpG_at_skip (by rfl) ?_; simp only [Act.put, List.setIfInBounds_toArray, List.set_cons_zero, List.set_cons_succ]) | (refine wpG_held_skip (by rfl) ?_; simp only [Act.put, List.setIfInBounds_toArray, List.set_cons_zero, List.set_cons_succ]) | (refine wpG_held (v := ?_) (by rfl) ?_ ?_; rotate_left; (focus (intro w' hSw; (try dsimp only at hSw); go_split_ands; first | (go_simp; with_reducible rfl) | (go_simp; done))); simp only [Act.put, List.setIfInBounds_toArray, List.set_cons_zero, List.set_cons_succ]))
                            refine wpG_nil (NoPanic.normal ?_)
                            go_wp2_with fail
                            have F5 : Far w5 bg := ⟨Ag, 4, k5.get hbg.out (fun h => h), by decide⟩
                            have RSX := RS.out w5 k5 true
                            rw [hL3.out] at RSX
                            go_roundw
                            case rel => exact ⟨q + 1, L3.set q true, by omega, by go_num, RSX, hid (by rw [List.length_set]; exact hL3.out), (hstep.out true (fun _ => ho.out)).out, (HG0.kn k5).far F5 ((Kp.refl (· = bg) w5).setCell _ (fun _ => rfl)), kp_new (hK3.trans k5) ((Kp.refl (· = bg) w5).setCell _ (fun _ => rfl)) (by rintro b rfl; exact nbg)⟩
                            case measure => simp [intOf]; omega
                          · go_wp2_with fail
                            refine wp_region_G (fun _ => True) [(0, .at_), (1, .at_), (2, .at_), (3, .at_), (4, .at_), (5, .at_), (6, .at_), (7, .at_), (8, .at_), (9, .at_), (10, .at_), (11, .eff), (12, .at_), (13, .at_), (14, .at_), (15, .at_), (16, .at_)] ?L5 (by kernel_rfl) (by kernel_rfl) ?hL5 (trivial) ?hG5
                            case hL5 => simp only [pickOps, List.map_cons, List.map_nil, List.getD_cons_zero, List.getD_cons_succ]; rfl
                            repeat (first | (refine wpG_at (v := ?_) (by rfl) ?_ ?_; rotate_left; (focus (first | (go_simp; with_reducible rfl) | (go_simp; done))); simp only [Act.put, List.setIfInBounds_toArray, List.set_cons_zero, List.set_cons_succ]) | (refine wpG_at_skip (by rfl) ?_; simp only [Act.put, List.setIfInBounds_toArray, List.set_cons_zero, List.set_cons_succ]) | (refine wpG_held_skip (by rfl) ?_; simp only [Act.put, List.setIfInBounds_toArray, List.set_cons_zero, List.set_cons_succ]) | (refine wpG_held (v := ?_) (by rfl) ?_ ?_; rotate_left; (focus (intro w' hSw; (try dsimp only at hSw); go_split_ands; first | (go_simp; with_reducible rfl) | (go_simp; done))); simp only [Act.put, List.setIfInBounds_toArray, List.set_cons_zero, List.set_cons_succ]))
                            refine wpG_eff (by rfl) (fun K hK => ?_)
                            go_simp
                            refine HX.out.mono ?_
                            rintro e w5 ⟨rfl, k5'⟩
                            have k5 : Kp NoB wr w5 := (Kp.refl _ wr).drew.trans k5'
                            have Lq := eg0.out w5 k5
                            refine hK _ _ trivial ?_
                            clear hK K
                            clear Lg e0 e1
                            repeat (first | (refine wpG_at (v := ?_) (by rfl) ?_ ?_; rotate_left; (focus (first | (go_simp; with_reducible rfl) | (go_simp; done))); simp only [Act.put, List.setIfInBounds_toArray, List.set_cons_zero, List.set_cons_succ]) | (refine wpG_at_skip (by rfl) ?_; simp only [Act.put, List.setIfInBounds_toArray, List.set_cons_zero, List.set_cons_succ]) | (refine wpG_held_skip (by rfl) ?_; simp only [Act.put, List.setIfInBounds_toArray, List.set_cons_zero, List.set_cons_succ]) | (refine wpG_held (v := ?_) (by rfl) ?_ ?_; rotate_left; (focus (intro w' hSw; (try dsimp only at hSw); go_split_ands; first | (go_simp; with_reducible rfl) | (go_simp; done))); simp only [Act.put, List.setIfInBounds_toArray, List.set_cons_zero, List.set_cons_succ]))
                            refine wpG_nil (NoPanic.normal ?_)
                            go_wp2_with fail
                            have F5 : Far w5 bg := ⟨Ag, 4, k5.get hbg.out (fun h => h), by decide⟩
                            have RSX := RS.out w5 k5 true
                            rw [hL3.out] at RSX
                            go_roundw
                            case rel => exact ⟨q + 1, L3.set q true, by omega, by go_num, RSX, hid (by rw [List.length_set]; exact hL3.out), (hstep.out true (fun _ => ho.out)).out, (HG0.kn k5).far F5 ((Kp.refl (· = bg) w5).setCell _ (fun _ => rfl)), kp_new (hK3.trans k5) ((Kp.refl (· = bg) w5).setCell _ (fun _ => rfl)) (by rintro b rfl; exact nbg)⟩
                            case measure => simp [intOf]; omega
                      · have b4 : ¬ (q : Int) < (H2.length : Int) := by omega
                        have hGf : Game w.heap.size wr pg p l r lb c S2 B2 E2 H2 := ⟨v3, vb3, _, hGq⟩
                        replace hGq := hid hGq
                        go_wp2_with fail
                        go_roundw
                        case rel => exact ⟨j + 1, S2, B2, E2, H2, L3, by omega, by go_num, hGf, by have := O2.out; rw [show (1 : Int) + (j : Int) + 1 = 1 + ((j + 1 : Nat) : Int) from by omega] at this; exact this, hid (by have := hHl.out; omega), hR3, hN2, hid (hL3.out.trans hL2e.out), hT3.out, hK3⟩
                        case measure => simp [intOf]; omega
        · go_wp2_with fail
          refine (HK.out _).mono ?_
          rintro e w4 ⟨rfl, k4⟩
          go_wp2_with fail
          go_ret
          exact ⟨rfl, hK.trans k4⟩
    · have hm := hid (show (decide (1 ≤ (m : Int)) && decide ((m : Int) ≤ 4096)) = true from by simp; omega)
      have hl' : (150 : Int) < (ll : Int) := by omega
      have hm' : ¬ (100 : Int) < (m : Int) := by omega
      clear hD HN
      go_enter Try.func3, Try.ntmps3
      go_wp2_with fail
      refine HM.out.mono ?_
      rintro e w1 ⟨rfl, rfl⟩
      rw [hm.out]
      go_wp2_with fail
      refine (HK.out _).mono ?_
      rintro e w1 ⟨rfl, k1⟩
      go_wp2_with fail
      go_ret
      exact ⟨rfl, k1⟩
  · clear hD
    by_cases hm : 1 ≤ n ∧ n ≤ 4096
    · have hmm := hid (show (decide (1 ≤ n) && decide (n ≤ 4096)) = true from by simp; omega)
      have hm' : (100 : Int) < n := by omega
      clear hn
      go_enter Try.func3, Try.ntmps3
      go_wp2_with fail
      refine HM.out.mono ?_
      rintro e w1 ⟨rfl, rfl⟩
      rw [hmm.out]
      go_wp2_with fail
      refine (HK.out _).mono ?_
      rintro e w1 ⟨rfl, k1⟩
      go_wp2_with fail
      go_ret
      exact ⟨rfl, k1⟩
    · have hmm := hid (show (decide (1 ≤ n) && decide (n ≤ 4096)) = false from and_no hm)
      clear hn hm
      go_enter Try.func3, Try.ntmps3
      go_wp2_with fail
      refine HM.out.mono ?_
      rintro e w1 ⟨rfl, rfl⟩
      rw [hmm.out]
      go_wp2_with fail
      refine (HK.out _).mono ?_
      rintro e w1 ⟨rfl, k1⟩
      go_wp2_with fail
      go_ret
      exact ⟨rfl, k1⟩
end Go.Proofs.Ytldkogdkadgnkaa
