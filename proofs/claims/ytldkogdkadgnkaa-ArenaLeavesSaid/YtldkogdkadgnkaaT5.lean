/- Walks: ArenaLeaves. -/
import Derived.Test.YtldkogdkadgnkaaT4
namespace Go.Proofs.Ytldkogdkadgnkaa
set_option linter.unusedSimpArgs false
set_option linter.unusedVariables false
open Go.RowKit Go.Shelf
attribute [local go_sem ↓] Go.wp_at_zero Go.wp_at_succ
attribute [local go_sem] Oper.semAt_some
theorem ax_fun2 {A B : Prop} (T : Array Value) {R : (Nat → Value) → Array Value} (hA : A) (hB : B) (h : T = R (fun i => T.toList.getD i undef)) : ∃ u, A ∧ B ∧ ({ tmps := T, defers := [] } : Act) = { tmps := R u, defers := [] } := ⟨_, hA, hB, congrArg (fun t => ({ tmps := t, defers := [] } : Act)) h⟩
theorem pre_at {α : Type} {L pre : List α} {x : α} (h : pre ++ [x] <+: L) : L[pre.length]? = some x := by
  obtain ⟨t, ht⟩ := h
  rw [← ht, List.append_assoc, List.getElem?_append_right (Nat.le_refl _), Nat.sub_self]
  rfl
theorem row_at2 {W : World} {o : Option Addr} {c : Nat} {L : List (Nat × Int)} (h : RowAt W 36 eH 2 (.slice o L.length c) L) {k i : Nat} {g : Int} (hk : L[k]? = some (i, g)) : ∃ b, W.cell? ⟨b, k * 2, none⟩ = some (.int .i64 i) ∧ W.cell? ⟨b, k * 2 + 1, none⟩ = some (.int .u64 g) ∧ o = some ⟨b, 0, none⟩ ∧ (L.length : Int) ≤ (c : Int) := by
  have h0 := (List.getElem?_eq_some_iff.1 hk).1
  obtain ⟨b, c', A, hv, hb, hA, hc, _⟩ := h.pos eH_len (by omega)
  injection hv with h1 _ h3
  subst h1; subst h3
  exact ⟨b, by rw [cell_of hb]; exact hA k 0 _ hk (by omega), by rw [cell_of hb]; exact hA k 1 _ hk (by omega), rfl, by omega⟩
def ArI (w0 : World) (b7 b9 pg p l b12 c10 B : Nat) (v wv : Value) (S : List (Int × Int × Bool)) (Bk : List Nat) (E : Nat) (at_ : Int) (pre : List (Nat × Int × Int)) (W : World) : Prop :=
  Av w0 W b7 b9 pg p l v wv S Bk E (wantL S) at_ ∧ W.heap[b12]? = some (.cells #[.int .i64 pre.length] 3 (0, 0)) ∧ pre.length ≤ (liveL S).length ∧ B ≤ W.heap.size ∧ W.heap[c10]? = some (.cells #[.pointer (some ⟨p, 0, none⟩)] 28 (0, 0))
def ArX (w0 : World) (b7 b9 pg p l b12 c10 B : Nat) (v wv : Value) (S : List (Int × Int × Bool)) (Bk : List Nat) (E : Nat) (at_ : Int) (c : Code) (pre : List (Nat × Int × Int)) (W : World) : Prop :=
  (c = .ret ∧ ¬ pre <+: liveL S) ∨ (c = .exit 4 ∧ Av w0 W b7 b9 pg p l v wv S Bk E (wantL S) at_ ∧ (∃ n : Int, W.heap[b12]? = some (.cells #[.int .i64 n] 3 (0, 0))) ∧ B ≤ W.heap.size ∧ W.heap[c10]? = some (.cells #[.pointer (some ⟨p, 0, none⟩)] 28 (0, 0)))
def ArJ (w0 : World) (b7 b9 pg p l b12 D B : Nat) (wv : Value) (S : List (Int × Int × Bool)) (E : Nat) (at_ : Int) (pre : List (Nat × Int × Int)) (W : World) : Prop :=
  ∃ (v : Value) (S2 : List (Int × Int × Bool)) (B2 : List Nat), Av w0 W b7 b9 pg p l v wv S2 B2 E (wantL S) at_ ∧ Gone S S2 pre ∧ W.heap[b12]? = some (.cells #[.int .i64 pre.length] 3 (0, 0)) ∧ v.ownBlock ≠ some b12 ∧ pre.length ≤ (liveL S).length ∧
    pre.map hd = (wantL S).take pre.length ∧ B ≤ W.heap.size ∧ W.heap[D]? = some (.deferred (some []))
def ArY (S : List (Int × Int × Bool)) (c : Code) (pre : List (Nat × Int × Int)) (_ : World) : Prop := c = .ret ∧ ¬ pre <+: liveL S
section
set_option maxRecDepth 100000 in
set_option maxHeartbeats 32000000 in
theorem leaves_law (w : World) (n : Int) (x : Option Addr) (len cap : Nat) (D : List Ac) (hD : ActsAt w w.heap.size x len D) (at_ : Int) :
   Calls Try.prog 5 #[.int .i64 n, .slice x len cap, .int .i64 at_] w fun e w' => e = .returned (.bool true) ∧ Kp NoB w w' := by
  have HM := hid (fun W => may_any n W)
  have HA := hid (fun p W => all_any (.pointer (some ⟨p, 0, none⟩)) _ rfl W)
  have HK := hid known_any
  have HL := hid hD
  have hnf : ∀ W lb, (binOp .eql 61 (.func (.func 31) #[] lb) .nilFunc).run Try.prog W = .ok (.bool false) W := fun _ _ => by kernel_rfl
  have H3 := hid (show ((w.alloc (.cells #[.int .i64 at_] 3)).alloc (.cells #[.bool false] 4)).heap[w.heap.size]? = some (.cells #[.int .i64 at_] 3 (0, 0)) from blk_alloc (blk_new _ _))
  have H4 := hid (show ((w.alloc (.cells #[.int .i64 at_] 3)).alloc (.cells #[.bool false] 4)).heap[w.heap.size + 1]? = some (.cells #[.bool false] 4 (0, 0)) from blk_new' _ _ (by simp))
  have K0 := hid (((Kp.refl NoB w).alloc (.cells #[.int .i64 at_] 3)).alloc (.cells #[.bool false] 4))
  have hsz := hid (show ((w.alloc (.cells #[.int .i64 at_] 3)).alloc (.cells #[.bool false] 4)).heap.size = w.heap.size + 2 by simp)
  have hmx := hD.mx
  clear hD
  by_cases hg : (1 ≤ n ∧ n ≤ 100) ∧ len ≤ 100
  · obtain ⟨⟨m1, m2⟩, hl⟩ := hg
    obtain ⟨m, rfl⟩ : ∃ m : Nat, n = m := ⟨n.toNat, by omega⟩
    have hl' : ¬ ((100 : Int) < (len : Int)) := by omega
    have hm2 : ¬ ((100 : Int) < (m : Int)) := by omega
    rw [show (decide (1 ≤ (m : Int)) && decide ((m : Int) ≤ 4096)) = true from by simp; omega] at HM
    have HN := hid (fun W => begin_any m (by omega) (by omega) W)
    refine calls_of_wp_marks Try.func5 rfl ?_
    simp only [Try.ntmps5, List.size_toArray, List.length_cons, List.length_nil, Nat.reduceAdd, Nat.reduceSub, Array.replicate_succ, Array.replicate_zero, List.push_toArray, List.append_toArray, List.nil_append, List.cons_append]
    go_wp2_with fail
    refine (HM.out _).mono ?_
    rintro e w1 ⟨rfl, rfl⟩
    generalize ((w.alloc (.cells #[.int .i64 at_] 3)).alloc (.cells #[.bool false] 4)) = W0 at *
    go_wp2_with fail
    refine (HN.out _).mono ?_
    rintro e w1 ⟨pg, p, l, r, lb, c, rfl, G1, k1⟩
    obtain ⟨b7, hb7⟩ : ∃ b7, w1.heap.size = b7 := ⟨_, rfl⟩
    have D1 := hid (show (w1.alloc (.cells #[.pointer (some ⟨pg, 0, none⟩)] 25)).heap[b7]? = some (.cells #[.pointer (some ⟨pg, 0, none⟩)] 25 (0, 0)) from blk_new' _ _ hb7.symm)
    have G2 := hid (G1.alloc (.cells #[.pointer (some ⟨pg, 0, none⟩)] 25))
    have K2 := hid (k1.alloc (.cells #[.pointer (some ⟨pg, 0, none⟩)] 25))
    clear G1 k1
    go_wp2_with fail
    try rw [hb7]
    generalize (w1.alloc (.cells #[.pointer (some ⟨pg, 0, none⟩)] 25)) = w2 at *
    replace hb7 := hid hb7
    go_loopw [8] (fun i W => ∃ (j : Nat) (S : List (Int × Int × Bool)) (B : List Nat) (E : Nat) (H : List (Nat × Int)), j ≤ len ∧ i = .int .i64 j ∧ Game W0.heap.size W pg p l r lb c S B E H ∧ GOk S B E H (1 + j) ∧
      Hid (H.length ≤ j) ∧ Hid (S.length = m) ∧ W.heap[b7]? = some (.cells #[.pointer (some ⟨pg, 0, none⟩)] 25 (0, 0)) ∧ Kp NoB W0 W) (fun i _ => len - (intOf i).toNat)
    case atStart =>
      refine ⟨0, _, _, _, _, Nat.zero_le _, rfl, ⟨_, _, _, G2.out⟩, ⟨AInv.new m (by omega) (by omega), ?_, ?_⟩, hid (Nat.le_refl _), hid (by simp), D1.out, K2.out⟩
      · intro i s hs
        rw [List.getElem?_replicate] at hs
        split at hs
        · injection hs with hs; subst hs; simp
        · cases hs
      · intro h hh; cases hh
    case round =>
      clear G2 D1 K2
      obtain ⟨j, S, B, E, H, hj, rfl, hG, hO, hHl, hSm, hD7, hKk⟩ := hrel
      have d1 : (0 : Int) ≤ (j : Int) := Int.natCast_nonneg _
      by_cases hlt : j < len
      · obtain ⟨z, hz⟩ : ∃ z, D[j]? = some z := ⟨_, List.getElem?_eq_getElem (by rw [HL.out.ln]; exact hlt)⟩
        obtain ⟨y, rfl, hy, y0, y1, y2, y3, y4⟩ := (HL.out.kp (K0.out.trans hKk) (Nat.le_refl _) (fun _ h => h.elim)).at_ j z hz
        have hwz := HL.out.wf z (List.mem_of_getElem? hz)
        have b2 : (j : Int) < (len : Int) := by omega
        have HD := hid (do_game (hG.kn ((Kp.refl _ wr).drew)) hO (by omega) (by have := hHl.out; omega) z.kind z.hi z.hg z.at_ z.x hwz)
        have L7 := loc1 hD7
        have hD7' := hid hD7
        replace hz := hid hz
        replace hG := hid hG
        replace hO := hid hO
        replace hKk := hid hKk
        clear hD7
        go_wp2_with fail
        refine wp_region_G (fun _ => True) [(0, .at_), (1, .at_), (2, .at_), (3, .at_), (4, .at_), (5, .eff)] ?L13 (by kernel_rfl) (by kernel_rfl) ?hL13 (trivial) ?hG13
        case hL13 => simp only [pickOps, List.map_cons, List.map_nil, List.getD_cons_zero, List.getD_cons_succ]; rfl
        repeat (first | (refine wpG_at (v := ?_) (by rfl) ?_ ?_; rotate_left; (focus (first | (go_simp; with_reducible rfl) | (go_simp; done))); simp only [Act.put, List.setIfInBounds_toArray, List.set_cons_zero, List.set_cons_succ]) | (refine wpG_at_skip (by rfl) ?_; simp only [Act.put, List.setIfInBounds_toArray, List.set_cons_zero, List.set_cons_succ]) | (refine wpG_held_skip (by rfl) ?_; simp only [Act.put, List.setIfInBounds_toArray, List.set_cons_zero, List.set_cons_succ]) | (refine wpG_held (v := ?_) (by rfl) ?_ ?_; rotate_left; (focus (intro w' hSw; (try dsimp only at hSw); go_split_ands; first | (go_simp; with_reducible rfl) | (go_simp; done))); simp only [Act.put, List.setIfInBounds_toArray, List.set_cons_zero, List.set_cons_succ]))
        refine wpG_eff (by rfl) (fun K hK => ?_)
        go_simp
        refine HD.out.mono ?_
        rintro e w3 ⟨rfl, S2, B2, E2, H2, G2, O2, M2, hH2, k2⟩
        have hlen2 := hid (show H2.length ≤ j + 1 from by
          have := hHl.out
          rcases hH2 with rfl | ⟨h', rfl, _⟩
          · omega
          · simp; omega)
        have D2 := hid (k2.get (show wr.drew.heap[b7]? = _ from hD7'.out) (fun h => h.2 ⟨_, 25, hD7'.out, by decide, by decide, by decide, by decide, by decide, by decide, by decide⟩))
        have K2 := hid (kp_new (hKk.out.drew) k2 (fun b hb => hb.1))
        have hS2 := hid (show S2.length = m from by rw [M2.1]; exact hSm.out)
        have O3 := hid (show GOk S2 B2 E2 H2 (1 + ((j + 1 : Nat) : Int)) from by
          have e : (1 : Int) + (j : Int) + 1 = 1 + ((j + 1 : Nat) : Int) := by omega
          rw [← e]; exact O2)
        replace G2 := hid G2
        clear O2 M2 hH2 k2
        refine hK _ _ trivial ?_
        clear hK K
        repeat (first | (refine wpG_at (v := ?_) (by rfl) ?_ ?_; rotate_left; (focus (first | (go_simp; with_reducible rfl) | (go_simp; done))); simp only [Act.put, List.setIfInBounds_toArray, List.set_cons_zero, List.set_cons_succ]) | (refine wpG_at_skip (by rfl) ?_; simp only [Act.put, List.setIfInBounds_toArray, List.set_cons_zero, List.set_cons_succ]) | (refine wpG_held_skip (by rfl) ?_; simp only [Act.put, List.setIfInBounds_toArray, List.set_cons_zero, List.set_cons_succ]) | (refine wpG_held (v := ?_) (by rfl) ?_ ?_; rotate_left; (focus (intro w' hSw; (try dsimp only at hSw); go_split_ands; first | (go_simp; with_reducible rfl) | (go_simp; done))); simp only [Act.put, List.setIfInBounds_toArray, List.set_cons_zero, List.set_cons_succ]))
        refine wpG_nil (NoPanic.normal ?_)
        go_wp2_with fail
        go_roundw
        case rel => exact ⟨j + 1, S2, B2, E2, H2, by omega, by go_num, G2.out, O3.out, hlen2, hS2, D2.out, K2.out⟩
        case measure => simp [intOf]; omega
      · have hG0 := hid hG
        have hO0 := hid hO
        have hD70 := hid hD7
        have hK9 := hid hKk
        clear hG hO hD7 hKk
        go_wp2_with fail
        obtain ⟨v, vb, hv, hG1⟩ := hG0.out
        obtain ⟨b9, hb9⟩ : ∃ b9, wr.heap.size = b9 := ⟨_, rfl⟩
        have G4 := hid (hG1.alloc (.cells #[.slice none 0 0] 30))
        have D4 := hid (show (wr.alloc (.cells #[.slice none 0 0] 30)).heap[b7]? = some (.cells #[.pointer (some ⟨pg, 0, none⟩)] 25 (0, 0)) from blk_alloc hD70.out)
        have N4 := hid (show (wr.alloc (.cells #[.slice none 0 0] 30)).heap[b9]? = some (.cells #[.slice none 0 0] 30 (0, 0)) from blk_new' _ _ hb9.symm)
        have K4 := hid (hK9.out.alloc (.cells #[.slice none 0 0] 30))
        have hb9W : W0.heap.size ≤ b9 := by rw [← hb9]; exact hK9.out.size
        have nb7 : b7 ≠ b9 := by have := blk_lt hD70.out; omega
        try rw [hb9]
        generalize (wr.alloc (.cells #[.slice none 0 0] 30)) = w4 at *
        clear hG1 hG0 hD70 hK9 hlt d1 hj
        replace hb9 := hid hb9
        have N40 := hid N4.out
        go_loopw [10] (fun i W => ∃ (k : Nat) (wv : Value), k ≤ m ∧ i = .int .i64 k ∧ W.heap[b9]? = some (.cells #[wv] 30 (0, 0)) ∧ RowAt W 36 eH 2 wv (wantK S k) ∧ (∀ b, wv.ownBlock = some b → w4.heap.size ≤ b) ∧ Kp (· = b9) w4 W) (fun i _ => m - (intOf i).toNat)
        case atStart => exact ⟨0, _, Nat.zero_le _, rfl, N4.out, by rw [wantK_zero]; exact RowAt.nil _ _ _ _, (by intro b hb; cases hb), Kp.refl _ _⟩
        case round =>
          clear N4
          obtain ⟨k, wv, hk, rfl, hN, hR, hO9, hK9⟩ := hrel
          have d1 : (0 : Int) ≤ (k : Int) := Int.natCast_nonneg _
          have hGk := G4.out.kp hK9 (fun b hb e => G4.out.not_fp (show w4.heap[b]? = _ from e ▸ N40.out) (by decide) hb)
          have D5 := hK9.get D4.out nb7
          obtain ⟨ow, cw, hwv, hcw, _⟩ := hR.form
          subst hwv
          by_cases hlt : k < m
          · have d2 : (k : Int) < (m : Int) := by omega
            obtain ⟨⟨x, g, bb⟩, hs⟩ : ∃ s, S[k]? = some s := ⟨_, List.getElem?_eq_getElem (by have := hSm.out; omega)⟩
            have L7 := loc1 D5
            have L9 := loc1 hN
            have Lg := loc3 hGk.hg
            have Lw := hGk.hw.cs
            have Ls := hGk.hw.es hs
            have hsu := wantK_succ hs
            have d3 : (k : Int) < (S.length : Int) := by have := hSm.out; omega
            have hwl := wantK_len S k
            have hGk' := hid hGk
            replace hs := hid hs
            have hN' := hid hN
            have D5' := hid D5
            have hlb := hid hGk.hw.lt
            clear hGk hN D5
            cases bb with
            | false =>
              simp only [Bool.false_eq_true, if_false, List.append_nil] at hsu
              rw [← hsu] at hR
              replace hsu := hid hsu
              replace hR := hid hR
              go_wp2_with fail
              go_roundw
              case rel => exact ⟨k + 1, _, by omega, by go_num, hN'.out, by have := hR.out; rw [hsu.out] at this ⊢; exact this, hO9, hK9⟩
              case measure => simp [intOf]; omega
            | true =>
              simp only [if_true] at hsu
              have hob9 : ∀ b, (Value.slice ow (wantK S k).length cw).ownBlock = some b → b ≠ b9 := fun b hb e => by have := hO9 b hb; have := blk_lt N40.out; omega
              have HR := hid hR
              replace hR := hid hR
              replace hsu := hid hsu
              replace hob9 := hid hob9
              replace hO9 := hid hO9
              go_wp2_with fail
              refine wp_region_G (fun W => W.cell? ⟨b9, 0, none⟩ = some (.slice ow (wantK S k).length cw)) [(0, .held), (1, .at_), (2, .at_), (3, .at_), (4, .at_), (5, .at_), (6, .at_), (7, .at_), (8, .at_), (9, .at_), (10, .at_), (11, .at_), (12, .at_), (13, .at_), (14, .eff), (15, .fin), (16, .fin)] ?L14 (by kernel_rfl) (by kernel_rfl) ?hL14 (L9.1) ?hG14
              case hL14 => simp only [pickOps, List.map_cons, List.map_nil, List.getD_cons_zero, List.getD_cons_succ]; rfl
              repeat (first | (refine wpG_at (v := ?_) (by rfl) ?_ ?_; rotate_left; (focus (first | (go_simp; with_reducible rfl) | (go_simp; done))); simp only [Act.put, List.setIfInBounds_toArray, List.set_cons_zero, List.set_cons_succ]) | (refine wpG_at_skip (by rfl) ?_; simp only [Act.put, List.setIfInBounds_toArray, List.set_cons_zero, List.set_cons_succ]) | (refine wpG_held_skip (by rfl) ?_; simp only [Act.put, List.setIfInBounds_toArray, List.set_cons_zero, List.set_cons_succ]) | (refine wpG_held (v := ?_) (by rfl) ?_ ?_; rotate_left; (focus (intro w' hSw; (try dsimp only at hSw); go_split_ands; first | (go_simp; with_reducible rfl) | (go_simp; done))); simp only [Act.put, List.setIfInBounds_toArray, List.set_cons_zero, List.set_cons_succ]))
              refine wpG_eff (by rfl) (fun K hK => ?_)
              go_simp
              refine hK _ _ (loc1 (blk_alloc (blk_drew hN'.out))).1 ?_
              clear hK K
              repeat (first | (refine wpG_at (v := ?_) (by rfl) ?_ ?_; rotate_left; (focus (first | (go_simp; with_reducible rfl) | (go_simp; done))); simp only [Act.put, List.setIfInBounds_toArray, List.set_cons_zero, List.set_cons_succ]) | (refine wpG_at_skip (by rfl) ?_; simp only [Act.put, List.setIfInBounds_toArray, List.set_cons_zero, List.set_cons_succ]) | (refine wpG_held_skip (by rfl) ?_; simp only [Act.put, List.setIfInBounds_toArray, List.set_cons_zero, List.set_cons_succ]) | (refine wpG_held (v := ?_) (by rfl) ?_ ?_; rotate_left; (focus (intro w' hSw; (try dsimp only at hSw); go_split_ands; first | (go_simp; with_reducible rfl) | (go_simp; done))); simp only [Act.put, List.setIfInBounds_toArray, List.set_cons_zero, List.set_cons_succ]))
              refine wpG_fin (by rfl) (fun K hK => ?_)
              refine wp_grow eH_len (by omega) _ _ 30 36 _ 16 rfl u30 i36 rfl (.slice ow (wantK S k).length cw) (wantK S k) rfl (HR.out.drew.alloc _) wr.heap.size 1 [(k, g)] rfl #[.int .i64 k, .int .u64 g] 36 (blk_new' _ _ (by simp)) (by intro a b x ha hb; match a, ha with | 0, ha => simp at ha; subst ha; match b, hb with | 0, _ => rfl | 1, _ => rfl) (by simp [eH, Value.oneCell']) (by simp; omega) (by omega) ?_
              intro v5 w5 q1 q2 q3
              have N5 := grown_get q2 (blk_alloc (blk_drew hN'.out)) (fun e => hob9.out _ e rfl)
              have L5 := loc1 N5
              have O5 := hid (show ∀ b, v5.ownBlock = some b → w4.heap.size ≤ b from fun b hb => by
                rcases q3 with e | ⟨b', e, hb'⟩
                · exact hO9.out b (e ▸ hb)
                · rw [hb] at e; injection e with e; subst e
                  refine Nat.le_trans hK9.size (Nat.le_trans ?_ hb')
                  simp)
              have K5 := hid (hK9.trans' (((Kp.refl NoB wr).drew.alloc (.cells #[.int .i64 k, .int .u64 g] 36)).mono (fun _ h => h.elim) |>.trans (kp_grown (F := fun b => (Value.slice ow (wantK S k).length cw).ownBlock = some b) q2 (fun b hb => hb))) (fun b hb e => by have := hO9.out b e; omega))
              have o59 := hid (show v5.ownBlock ≠ some b9 from fun e => by have := O5.out _ e; have := blk_lt N40.out; omega)
              rw [← hsu.out] at q1
              obtain ⟨o5, c5, hv5, _⟩ := q1.form
              subst hv5
              have q1' := hid q1
              have N5' := hid N5
              clear q1 q2 q3 N5
              refine hK _ _ ?_
              clear hK K
              repeat (first | (refine wpG_at (v := ?_) (by rfl) ?_ ?_; rotate_left; (focus (first | (go_simp; with_reducible rfl) | (go_simp; done))); simp only [Act.put, List.setIfInBounds_toArray, List.set_cons_zero, List.set_cons_succ]) | (refine wpG_at_skip (by rfl) ?_; simp only [Act.put, List.setIfInBounds_toArray, List.set_cons_zero, List.set_cons_succ]) | (refine wpG_held_skip (by rfl) ?_; simp only [Act.put, List.setIfInBounds_toArray, List.set_cons_zero, List.set_cons_succ]) | (refine wpG_held (v := ?_) (by rfl) ?_ ?_; rotate_left; (focus (intro w' hSw; (try dsimp only at hSw); go_split_ands; first | (go_simp; with_reducible rfl) | (go_simp; done))); simp only [Act.put, List.setIfInBounds_toArray, List.set_cons_zero, List.set_cons_succ]))
              refine wpG_fin (by rfl) (fun K hK => ?_)
              go_simp
              refine hK _ _ ?_
              clear hK K
              repeat (first | (refine wpG_at (v := ?_) (by rfl) ?_ ?_; rotate_left; (focus (first | (go_simp; with_reducible rfl) | (go_simp; done))); simp only [Act.put, List.setIfInBounds_toArray, List.set_cons_zero, List.set_cons_succ]) | (refine wpG_at_skip (by rfl) ?_; simp only [Act.put, List.setIfInBounds_toArray, List.set_cons_zero, List.set_cons_succ]) | (refine wpG_held_skip (by rfl) ?_; simp only [Act.put, List.setIfInBounds_toArray, List.set_cons_zero, List.set_cons_succ]) | (refine wpG_held (v := ?_) (by rfl) ?_ ?_; rotate_left; (focus (intro w' hSw; (try dsimp only at hSw); go_split_ands; first | (go_simp; with_reducible rfl) | (go_simp; done))); simp only [Act.put, List.setIfInBounds_toArray, List.set_cons_zero, List.set_cons_succ]))
              refine wpG_nil (NoPanic.normal ?_)
              go_wp2_with fail
              go_roundw
              case rel => exact ⟨k + 1, _, by omega, by go_num, blk_setCell N5'.out 0 _, q1'.out.setCell _ _ o59.out, O5.out, K5.out.setCell (p := ⟨b9, 0, none⟩) _ (fun _ => rfl)⟩
              case measure => simp [intOf]; omega
          · obtain rfl : k = m := by omega
            have hSk := hSm.out
            have hwm : wantK S k = wantL S := by rw [← hSk]; exact wantK_all S
            rw [hwm] at hR hN
            have KW := K4.out.trans' hK9 (fun b hb e => by omega)
            have AV := hid (show Av w wr b7 b9 pg p l v (.slice ow (wantL S).length cw) S B E (wantL S) at_ from
              ⟨KW.get H3.out (fun h => h), KW.get H4.out (fun h => h), D5, ⟨_, _, hGk.hg⟩, hN, hR, hGk.ha, hO0.out.i, K0.out.trans KW, ⟨by have := hsz.out; have := hGk.nn.2.1; omega, by have := hsz.out; have := hGk.nn.2.2.1; omega⟩, fun b hb => by have := hsz.out; have := hGk.nv b hb; omega⟩)
            have L7 := loc1 D5
            have Lg := loc3 hGk.hg
            clear hGk D5 hN hR KW G4 D4 K4 hO9 hK9 hSm hwm hlt
            go_wp2_with fail
            refine (HA.out _ _).mono ?_
            rintro e w5 ⟨rfl, hw5⟩
            obtain ⟨c10, hc10⟩ : ∃ c10, wr.heap.size = c10 := ⟨_, rfl⟩
            have hC5 := hid (show w5.heap[c10]? = some (.cells #[.pointer (some ⟨p, 0, none⟩)] 28 (0, 0)) from by rw [hw5, ← hc10]; exact blk_new _ _)
            have V5 := hid (AV.out.kn (show Kp NoB wr w5 from by rw [hw5]; exact (Kp.refl _ _).alloc _))
            rw [hc10]
            clear hw5 L7 Lg hc10 AV
            go_wp2_with fail
            obtain ⟨b12, hb12⟩ : ∃ b12, w5.heap.size = b12 := ⟨_, rfl⟩
            have V6 := hid (V5.out.kn ((Kp.refl _ _).alloc (.cells #[.int .i64 0] 3)))
            have G12 := hid (show (w5.alloc (.cells #[.int .i64 0] 3)).heap[b12]? = some (.cells #[.int .i64 0] 3 (0, 0)) from blk_new' _ _ hb12.symm)
            have C6 := hid (show (w5.alloc (.cells #[.int .i64 0] 3)).heap[c10]? = some (.cells #[.pointer (some ⟨p, 0, none⟩)] 28 (0, 0)) from blk_alloc hC5.out)
            have hv12 := hid (show v.ownBlock ≠ some b12 from fun e => by obtain ⟨A, hA⟩ := row_cells V5.out.h.hv e; have := blk_lt hA; omega)
            have hs12 : w.heap.size + 1 < b12 := by rw [← hb12]; exact blk_lt V5.out.r
            have hcb : c10 ≠ b12 := by have := blk_lt hC5.out; omega
            have hbl := blk_lt G12.out
            try rw [hb12]
            generalize (w5.alloc (.cells #[.int .i64 0] 3)) = w6 at *
            have hlen : (liveL S).length ≤ 4096 := by have h1 := live_len S; have h2 := V6.out.i.ok.n2; omega
            have hwl := wantL_len S
            replace hwl := hid hwl
            have hseq := hid (fun W (A : AAt W p l v S B E) (hc : W.heap[c10]? = some (.cells #[.pointer (some ⟨p, 0, none⟩)] 28 (0, 0))) => all_seq A V6.out.i.ok hc)
            clear V5 hC5 hb12
            refine wp_range_listT (t := 72) (gf := 31) (lb := #[.pointer (some ⟨c10, 0, none⟩)]) rfl (enters_of Try.func31 (by kernel_rfl) rfl) (encs := encL) (L := liveL S) (hseq.out _ V6.out.h C6.out) (fun _ => rfl)
              (ArI w b7 b9 pg p l b12 c10 w6.heap.size v (.slice ow (wantL S).length cw) S B E at_) (ArX w b7 b9 pg p l b12 c10 w6.heap.size v (.slice ow (wantL S).length cw) S B E at_)
              (own_of_cells (fun s W W' h k => by
                have hn : ∀ b, (w6.heap.size ≤ b ∧ ∃ o : Obj, W.heap[b]? = some o ∧ o.isCells = false) → ∀ A t f, W.heap[b]? ≠ some (.cells A t f) := by
                  rintro b ⟨_, o, ho, hc⟩ A t f hb
                  rw [hb] at ho; injection ho with ho; subst ho; cases hc
                exact ⟨h.1.cells k hn (fun b hb => by have := V6.out.k.size; omega), k.get h.2.1 (fun e => hn _ e _ _ _ h.2.1), h.2.2.1, Nat.le_trans h.2.2.2.1 k.size, k.get h.2.2.2.2 (fun e => hn _ e _ _ _ h.2.2.2.2)⟩))
              (fun c => own_of_cells (fun s W W' h k => by
                have hn : ∀ b, (w6.heap.size ≤ b ∧ ∃ o : Obj, W.heap[b]? = some o ∧ o.isCells = false) → ∀ A t f, W.heap[b]? ≠ some (.cells A t f) := by
                  rintro b ⟨_, o, ho, hc⟩ A t f hb
                  rw [hb] at ho; injection ho with ho; subst ho; cases hc
                rcases h with h | ⟨h1, h2, ⟨n, h3⟩, h4, h5⟩
                · exact .inl h
                · exact .inr ⟨h1, h2.cells k hn (fun b hb => by have := V6.out.k.size; omega), ⟨n, k.get h3 (fun e => hn _ e _ _ _ h3)⟩, Nat.le_trans h4 k.size, k.get h5 (fun e => hn _ e _ _ _ h5)⟩))
              ⟨V6.out, G12.out, Nat.zero_le _, Nat.le_refl _, C6.out⟩
              (fun x a' W => ∃ (b13 : Nat) (u : Nat → Value), w6.heap.size ≤ b13 ∧ W.heap[b13]? = some (.cells #[.int .i64 x.1, .int .u64 x.2.1] 36 (0, 0)) ∧ a' = { tmps := #[u 0, u 1, u 2, u 3, u 4, .pointer (some ⟨w.heap.size, 0, none⟩), .pointer (some ⟨w.heap.size + 1, 0, none⟩), .pointer (some ⟨b7, 0, none⟩), u 8, .pointer (some ⟨b9, 0, none⟩), u 10, u 11, .pointer (some ⟨b12, 0, none⟩), .pointer (some ⟨b13, 0, none⟩), u 14, u 15, u 16, u 17, u 18, u 19, u 20, u 21, u 22, u 23, u 24, u 25, u 26, u 27, u 28, u 29, u 30, u 31, u 32, u 33, u 34, u 35, u 36, u 37, u 38, u 39, u 40, u 41, u 42, u 43, u 44, u 45, u 46, u 47, u 48, u 49, u 50, u 51, u 52, u 53, u 54, u 55, u 56, u 57, u 58, u 59, u 60, u 61, u 62, u 63, u 64, u 65, u 66, u 67, u 68, u 69, u 70, u 71, u 72, u 73, u 74, u 75, u 76, u 77, u 78, u 79, u 80, u 81, u 82, u 83, u 84, u 85, u 86, u 87, u 88, u 89, u 90, u 91, u 92, u 93, u 94, u 95, u 96, u 97, u 98, u 99, u 100, u 101, u 102, u 103, u 104, u 105, u 106, u 107, u 108, u 109, u 110, u 111, u 112, u 113, u 114, u 115, u 116, u 117, u 118, u 119, u 120, u 121, u 122, u 123, u 124, u 125, u 126, u 127, u 128, u 129, u 130, u 131, u 132, u 133, u 134, u 135, u 136, u 137, u 138, u 139, u 140], defers := [] })
              ?_ ?_ ?_ ?_ ?_
            · -- the handle's box is the round's own
              rintro x a' s W W' row ⟨b13, u, h1, h2, h3⟩ hg hr
              exact ⟨b13, u, h1, grown_get hg h2 (fun e => by obtain ⟨_, o, ho, hc⟩ := hr _ e; rw [h2] at ho; injection ho with ho; subst ho; cases hc), h3⟩
            · -- the loop's variables
              rintro l' pre ⟨x1, x2, x3⟩ W K ⟨h1, h2, h3, h4, h5⟩ hK
              unfold encL
              have hnb := hid (blk_new W (.cells #[.int .i64 0, .int .u64 0] 36))
              replace h1 := hid h1
              replace h2 := hid h2
              replace h5 := hid h5
              gi_wp2_with fail
              have KW : Kp NoB W (W.alloc (.cells #[.int .i64 x1, .int .u64 x2] 36)) := (Kp.refl _ W).alloc _
              refine hK _ _ KW ⟨h1.out.kn KW, KW.get h2.out (fun h => h), h3, Nat.le_trans h4 KW.size, KW.get h5.out (fun h => h)⟩ ?_
              exact ⟨W.heap.size, ax_fun2 _ h4 (blk_new W _) (by rfl)⟩
            · -- a round
              rintro l' pre ⟨x1, x2, x3⟩ a' W hl ⟨h1, h2, h3, h4, h5⟩ ⟨b13, u, hb13, h13, rfl⟩ hn
              obtain ⟨k, hpl⟩ : ∃ k, pre.length = k := ⟨_, rfl⟩
              rw [hpl] at h2 h3 hn
              have L3 := loc1 h1.a
              have L4 := loc1 h1.r
              have L9 := loc1 h1.n
              have L12 := loc1 h2
              have L13 := loc2 h13
              dsimp only at L13
              obtain ⟨⟨i, g⟩, hig⟩ : ∃ y, (wantL S)[k]? = some y := ⟨_, List.getElem?_eq_getElem (by have := hwl.out; omega)⟩
              obtain ⟨b, Le1, Le2, hbv⟩ := row_at2 h1.q hig
              have c1 : (0 : Int) ≤ (k : Int) := Int.natCast_nonneg _
              have c2 : (k : Int) < ((wantL S).length : Int) := by have := hwl.out; omega
              have c4 : decide ((wantL S).length ≤ k) = false := decide_eq_false (by omega)
              have c5 : k ≤ 4096 := by omega
              have hbad : (x1, x2) ≠ (i, g) → Hid (¬ pre ++ [(x1, x2, x3)] <+: liveL S) := fun hne => hid (fun hp => hne (by
                have h := pre_at hp
                rw [hpl] at h
                have h2 : (wantL S)[k]? = some (hd (x1, x2, x3)) := by unfold wantL; rw [List.getElem?_map, h]; rfl
                rw [hig] at h2
                injection h2 with h2
                exact h2.symm))
              replace hbad := hid hbad
              replace hpl := hid hpl
              replace hig := hid hig
              replace h1 := hid h1
              replace h2 := hid h2
              replace h13 := hid h13
              obtain ⟨rfl, c3⟩ := hbv
              by_cases e1 : x1 = i
              · by_cases e2 : x2 = g
                · subst e1; subst e2
                  have KS : Kp (fun b => b = b12) W (W.setCell ⟨b12, 0, none⟩ (.int .i64 ((k : Int) + 1))).drew := ((Kp.refl (fun b => b = b12) W).setCell (p := ⟨b12, 0, none⟩) _ (fun _ => rfl)).drew
                  have V7 := hid (h1.out.num h2.out hs12 hv12.out KS)
                  have G7 := hid (blk_drew (blk_setCell h2.out 0 (.int .i64 ((k : Int) + 1))))
                  have C7 := hid (KS.get h5 hcb)
                  have HI := hid (show ArI w b7 b9 pg p l b12 c10 w6.heap.size v (.slice (some ⟨b, 0, none⟩) (wantL S).length cw) S B E at_ (pre ++ [(x1, x2, x3)]) (W.setCell ⟨b12, 0, none⟩ (.int .i64 ((k : Int) + 1))).drew from
                    ⟨V7.out, by rw [List.length_append, hpl.out]; exact G7.out, by rw [List.length_append, hpl.out]; simp; omega, Nat.le_trans h4 KS.size, C7.out⟩)
                  have KF := hid (keepsFrom_kp (KS.mono (fun b hb => (by omega : b < w6.heap.size))))
                  have KNN := hid (KT.of_kp (B := w6.heap.size) (t := 72) KS (fun b hb hB => by omega))
                  replace KS := hid KS
                  clear hbad
                  by_cases hgt : at_ < (k : Int) + 1
                  · gi_wp2_with fail
                    refine wpIn_region_G (fun _ => True) [(0, .at_), (1, .at_), (2, .at_), (3, .at_), (4, .at_), (5, .at_), (6, .at_), (7, .at_), (8, .at_), (9, .at_), (10, .at_), (11, .at_)] ?L1 (by kernel_rfl) (by kernel_rfl) (by kernel_rfl) ?hL1 (trivial) ?hG1
                    case hL1 => simp only [pickOps, List.map_cons, List.map_nil, List.getD_cons_zero, List.getD_cons_succ]; rfl
                    repeat (first | (refine wpGS_at (v := ?_) (by rfl) ?_ ?_; rotate_left; (focus (first | (go_simp; with_reducible rfl) | (go_simp; done))); simp only [Act.put, List.setIfInBounds_toArray, List.set_cons_zero, List.set_cons_succ]) | (refine wpGS_at_skip (by rfl) ?_; simp only [Act.put, List.setIfInBounds_toArray, List.set_cons_zero, List.set_cons_succ]) | (refine wpGS_held_skip (by rfl) ?_; simp only [Act.put, List.setIfInBounds_toArray, List.set_cons_zero, List.set_cons_succ]) | (refine wpGS_held (v := ?_) (by rfl) ?_ ?_; rotate_left; (focus (intro w' hSw; (try dsimp only at hSw); go_split_ands; first | (go_simp; with_reducible rfl) | (go_simp; done))); simp only [Act.put, List.setIfInBounds_toArray, List.set_cons_zero, List.set_cons_succ]))
                    refine wpGS_nil (NoPanic.normal ?_)
                    gi_wp2_with fail
                    exact ⟨KF.out, .inr ⟨rfl, V7.out, ⟨_, G7.out⟩, Nat.le_trans h4 KS.out.size, C7.out⟩⟩
                  · gi_wp2_with fail
                    refine wpIn_region_G (fun _ => True) [(0, .at_), (1, .at_), (2, .at_), (3, .at_), (4, .at_), (5, .at_), (6, .at_), (7, .at_), (8, .at_), (9, .at_), (10, .at_), (11, .at_)] ?L2 (by kernel_rfl) (by kernel_rfl) (by kernel_rfl) ?hL2 (trivial) ?hG2
                    case hL2 => simp only [pickOps, List.map_cons, List.map_nil, List.getD_cons_zero, List.getD_cons_succ]; rfl
                    repeat (first | (refine wpGS_at (v := ?_) (by rfl) ?_ ?_; rotate_left; (focus (first | (go_simp; with_reducible rfl) | (go_simp; done))); simp only [Act.put, List.setIfInBounds_toArray, List.set_cons_zero, List.set_cons_succ]) | (refine wpGS_at_skip (by rfl) ?_; simp only [Act.put, List.setIfInBounds_toArray, List.set_cons_zero, List.set_cons_succ]) | (refine wpGS_held_skip (by rfl) ?_; simp only [Act.put, List.setIfInBounds_toArray, List.set_cons_zero, List.set_cons_succ]) | (refine wpGS_held (v := ?_) (by rfl) ?_ ?_; rotate_left; (focus (intro w' hSw; (try dsimp only at hSw); go_split_ands; first | (go_simp; with_reducible rfl) | (go_simp; done))); simp only [Act.put, List.setIfInBounds_toArray, List.set_cons_zero, List.set_cons_succ]))
                    refine wpGS_nil (NoPanic.normal ?_)
                    gi_wp2_with fail
                    exact ⟨KF.out, KNN.out, HI.out⟩
                · have e4 : (x2 == g) = false := by simpa using e2
                  have hb := hid (hbad.out (fun e => e2 (by injection e))).out
                  subst e1
                  clear e2 hbad
                  gi_wp2_with fail
                  refine wpIn_region_G (fun _ => True) [(0, .at_), (1, .at_), (2, .at_), (3, .at_), (4, .at_), (5, .at_), (6, .at_), (7, .at_), (8, .at_), (9, .at_), (10, .at_), (11, .at_)] ?L3 (by kernel_rfl) (by kernel_rfl) (by kernel_rfl) ?hL3 (trivial) ?hG3
                  case hL3 => simp only [pickOps, List.map_cons, List.map_nil, List.getD_cons_zero, List.getD_cons_succ]; rfl
                  repeat (first | (refine wpGS_at (v := ?_) (by rfl) ?_ ?_; rotate_left; (focus (first | (go_simp; with_reducible rfl) | (go_simp; done))); simp only [Act.put, List.setIfInBounds_toArray, List.set_cons_zero, List.set_cons_succ]) | (refine wpGS_at_skip (by rfl) ?_; simp only [Act.put, List.setIfInBounds_toArray, List.set_cons_zero, List.set_cons_succ]) | (refine wpGS_held_skip (by rfl) ?_; simp only [Act.put, List.setIfInBounds_toArray, List.set_cons_zero, List.set_cons_succ]) | (refine wpGS_held (v := ?_) (by rfl) ?_ ?_; rotate_left; (focus (intro w' hSw; (try dsimp only at hSw); go_split_ands; first | (go_simp; with_reducible rfl) | (go_simp; done))); simp only [Act.put, List.setIfInBounds_toArray, List.set_cons_zero, List.set_cons_succ]))
                  refine wpGS_nil (NoPanic.normal ?_)
                  gi_wp2_with fail
                  have KS : Kp (fun b => b = w.heap.size + 1) W (W.setCell ⟨w.heap.size + 1, 0, none⟩ (.bool false)).drew := ((Kp.refl (fun b => b = w.heap.size + 1) W).setCell (p := ⟨w.heap.size + 1, 0, none⟩) _ (fun _ => rfl)).drew
                  exact ⟨keepsFrom_kp (KS.mono (fun b hb => (by omega : b < w6.heap.size))), .inl ⟨rfl, hb.out⟩⟩
              · have e4 : (x1 == i) = false := by simpa using e1
                have e5 : ((x1 : Int) == (i : Int)) = false := by rw [beq_eq_false_iff_ne]; omega
                have hb := hid (hbad.out (fun e => e1 (by injection e))).out
                clear e1 hbad
                gi_wp2_with fail
                refine wpIn_region_G (fun _ => True) [(0, .at_), (1, .at_), (2, .at_), (3, .at_), (4, .at_), (5, .at_), (6, .at_), (7, .at_), (8, .at_), (9, .at_), (10, .at_), (11, .at_)] ?L4 (by kernel_rfl) (by kernel_rfl) (by kernel_rfl) ?hL4 (trivial) ?hG4
                case hL4 => simp only [pickOps, List.map_cons, List.map_nil, List.getD_cons_zero, List.getD_cons_succ]; rfl
                repeat (first | (refine wpGS_at (v := ?_) (by rfl) ?_ ?_; rotate_left; (focus (first | (go_simp; with_reducible rfl) | (go_simp; done))); simp only [Act.put, List.setIfInBounds_toArray, List.set_cons_zero, List.set_cons_succ]) | (refine wpGS_at_skip (by rfl) ?_; simp only [Act.put, List.setIfInBounds_toArray, List.set_cons_zero, List.set_cons_succ]) | (refine wpGS_held_skip (by rfl) ?_; simp only [Act.put, List.setIfInBounds_toArray, List.set_cons_zero, List.set_cons_succ]) | (refine wpGS_held (v := ?_) (by rfl) ?_ ?_; rotate_left; (focus (intro w' hSw; (try dsimp only at hSw); go_split_ands; first | (go_simp; with_reducible rfl) | (go_simp; done))); simp only [Act.put, List.setIfInBounds_toArray, List.set_cons_zero, List.set_cons_succ]))
                refine wpGS_nil (NoPanic.normal ?_)
                gi_wp2_with fail
                have KS : Kp (fun b => b = w.heap.size + 1) W (W.setCell ⟨w.heap.size + 1, 0, none⟩ (.bool false)).drew := ((Kp.refl (fun b => b = w.heap.size + 1) W).setCell (p := ⟨w.heap.size + 1, 0, none⟩) _ (fun _ => rfl)).drew
                exact ⟨keepsFrom_kp (KS.mono (fun b hb => (by omega : b < w6.heap.size))), .inl ⟨rfl, hb.out⟩⟩
            · -- all have come
              rintro D W hD ⟨h1, h2, h3, h4, h5⟩ hDk
              have L12 := loc1 h2
              have hDm : D ≠ b12 := by omega
              have KZ : Kp (fun b => b = b12) W (W.setCell ⟨b12, 0, none⟩ (.int .i64 0)) := (Kp.refl (fun b => b = b12) W).setCell (p := ⟨b12, 0, none⟩) _ (fun _ => rfl)
              have V8 := hid (h1.num h2 hs12 hv12.out KZ)
              have G8 := hid (blk_setCell h2 0 (.int .i64 0))
              have C8 := hid (KZ.get h5 hcb)
              have D8 := hid (KZ.get hDk hDm)
              have hs8 : w6.heap.size ≤ (W.setCell ⟨b12, 0, none⟩ (.int .i64 0)).heap.size := Nat.le_trans h4 KZ.size
              have hDl := hid (blk_lt D8.out)
              clear h1 h2 h4 h5 hDk V6 G12 C6 KZ
              try clear h3
              go_wp2_with fail
              generalize (W.setCell ⟨b12, 0, none⟩ (.int .i64 0)) = w8 at *
              clear L12
              refine wp_range_listT (t := 72) (gf := 31) (lb := #[.pointer (some ⟨c10, 0, none⟩)]) rfl (enters_of Try.func31 (by kernel_rfl) rfl) (encs := encL) (L := liveL S) (hseq.out _ V8.out.h C8.out) (fun _ => rfl)
                (ArJ w b7 b9 pg p l b12 D w8.heap.size (.slice ow (wantL S).length cw) S E at_) (ArY S)
                (own_of_cells (fun s W W' h k => by
                  have hn : ∀ b, (w8.heap.size ≤ b ∧ ∃ o : Obj, W.heap[b]? = some o ∧ o.isCells = false) → ∀ A t f, W.heap[b]? ≠ some (.cells A t f) := by
                    rintro b ⟨_, o, ho, hc⟩ A t f hb
                    rw [hb] at ho; injection ho with ho; subst ho; cases hc
                  obtain ⟨v2, S2, B2, h1, h2, h3, h4, h5, h6, h7, h8⟩ := h
                  have hDl' := hDl.out
                  exact ⟨v2, S2, B2, h1.cells k hn (fun b hb => by have := V8.out.k.size; omega), h2, k.get h3 (fun e => hn _ e _ _ _ h3), h4, h5, h6, Nat.le_trans h7 k.size, k.get h8 (fun e => by omega)⟩))
                (fun c => own_of_cells (fun s W W' h k => h))
                ⟨v, S, B, V8.out, Gone.nil S, G8.out, hv12.out, Nat.zero_le _, rfl, Nat.le_refl _, D8.out⟩
                (fun x a' W => ∃ (b14 : Nat) (u : Nat → Value), w8.heap.size ≤ b14 ∧ W.heap[b14]? = some (.cells #[.int .i64 x.1, .int .u64 x.2.1] 36 (0, 0)) ∧ a' = { tmps := #[u 0, u 1, u 2, u 3, u 4, .pointer (some ⟨w.heap.size, 0, none⟩), .pointer (some ⟨w.heap.size + 1, 0, none⟩), .pointer (some ⟨b7, 0, none⟩), u 8, .pointer (some ⟨b9, 0, none⟩), u 10, u 11, .pointer (some ⟨b12, 0, none⟩), u 13, .pointer (some ⟨b14, 0, none⟩), u 15, u 16, u 17, u 18, u 19, u 20, u 21, u 22, u 23, u 24, u 25, u 26, u 27, u 28, u 29, u 30, u 31, u 32, u 33, u 34, u 35, u 36, u 37, u 38, u 39, u 40, u 41, u 42, u 43, u 44, u 45, u 46, u 47, u 48, u 49, u 50, u 51, u 52, u 53, u 54, u 55, u 56, u 57, u 58, u 59, u 60, u 61, u 62, u 63, u 64, u 65, u 66, u 67, u 68, u 69, u 70, u 71, u 72, u 73, u 74, u 75, u 76, u 77, u 78, u 79, u 80, u 81, u 82, u 83, u 84, u 85, u 86, u 87, u 88, u 89, u 90, u 91, u 92, u 93, u 94, u 95, u 96, u 97, u 98, u 99, u 100, u 101, u 102, u 103, u 104, u 105, u 106, u 107, u 108, u 109, u 110, u 111, u 112, u 113, u 114, u 115, u 116, u 117, u 118, u 119, u 120, u 121, u 122, u 123, u 124, u 125, u 126, u 127, u 128, u 129, u 130, u 131, u 132, u 133, u 134, u 135, u 136, u 137, u 138, u 139, u 140], defers := [] })
                ?_ ?_ ?_ ?_ ?_
              · -- the handle's box is the round's own
                rintro x a' s W W' row ⟨b13, u, h1, h2, h3⟩ hg hr
                exact ⟨b13, u, h1, grown_get hg h2 (fun e => by obtain ⟨_, o, ho, hc⟩ := hr _ e; rw [h2] at ho; injection ho with ho; subst ho; cases hc), h3⟩
              · -- the loop's variables
                rintro l' pre ⟨x1, x2, x3⟩ W K hI hK
                have hs : w8.heap.size ≤ W.heap.size := by obtain ⟨_, _, _, _, _, _, _, _, _, h, _⟩ := hI; exact h
                have hI' : ArJ w b7 b9 pg p l b12 D w8.heap.size (.slice ow (wantL S).length cw) S E at_ pre (W.alloc (.cells #[.int .i64 x1, .int .u64 x2] 36)) := by
                  obtain ⟨v2, S2, B2, h1, h2, h3, h4, h5, h6, h7, h8⟩ := hI
                  have KW : Kp NoB W (W.alloc (.cells #[.int .i64 x1, .int .u64 x2] 36)) := (Kp.refl _ W).alloc _
                  exact ⟨v2, S2, B2, h1.kn KW, h2, KW.get h3 (fun h => h), h4, h5, h6, Nat.le_trans h7 KW.size, KW.get h8 (fun h => h)⟩
                unfold encL
                have hnb := hid (blk_new W (.cells #[.int .i64 0, .int .u64 0] 36))
                replace hI' := hid hI'
                clear hI
                gi_wp2_with fail
                refine hK _ _ ((Kp.refl _ W).alloc _) hI'.out ?_
                exact ⟨W.heap.size, ax_fun2 _ hs (blk_new W _) (by rfl)⟩
              · -- a round
                rintro l' pre ⟨x1, x2, x3⟩ a' W hl ⟨v2, S2, B2, h1, hgo, h2, hv2, h3, hpm, h4, h5⟩ ⟨b14, u, hb14, h14, rfl⟩ hn
                obtain ⟨k, hpl⟩ : ∃ k, pre.length = k := ⟨_, rfl⟩
                rw [hpl] at h2 h3 hn hpm
                have L4 := loc1 h1.r
                have L7 := loc1 h1.d
                obtain ⟨rr, hvv, hgg⟩ := h1.g
                have Lg := loc3 hgg
                have L9 := loc1 h1.n
                have L12 := loc1 h2
                have L14 := loc2 h14
                dsimp only at L14
                obtain ⟨⟨i, g⟩, hig⟩ : ∃ y, (wantL S)[k]? = some y := ⟨_, List.getElem?_eq_getElem (by have := hwl.out; omega)⟩
                obtain ⟨b, Le1, Le2, hbv⟩ := row_at2 h1.q hig
                have c1 : (0 : Int) ≤ (k : Int) := Int.natCast_nonneg _
                have c2 : (k : Int) < ((wantL S).length : Int) := by have := hwl.out; omega
                have c4 : decide ((wantL S).length ≤ k) = false := decide_eq_false (by omega)
                have c5 : k ≤ 4096 := by omega
                have hbad : (x1, x2) ≠ (i, g) → Hid (¬ pre ++ [(x1, x2, x3)] <+: liveL S) := fun hne => hid (fun hp => hne (by
                  have h := pre_at hp
                  rw [hpl] at h
                  have h2 : (wantL S)[k]? = some (hd (x1, x2, x3)) := by unfold wantL; rw [List.getElem?_map, h]; rfl
                  rw [hig] at h2
                  injection h2 with h2
                  exact h2.symm))
                replace hbad := hid hbad
                replace hpl := hid hpl
                replace hig := hid hig
                replace h1 := hid h1
                replace h2 := hid h2
                replace h14 := hid h14
                replace hgo := hid hgo
                replace hpm := hid hpm
                replace hv2 := hid hv2
                replace h5 := hid h5
                clear hgg
                obtain ⟨rfl, c3⟩ := hbv
                by_cases e1 : x1 = i
                · by_cases e2 : x2 = g
                  · subst e1; subst e2
                    obtain ⟨⟨y, hs0⟩, hni⟩ := want_at hig.out
                    have hs2 : S2[x1]? = some (y, x2, true) := by
                      rw [(hgo.out.2 x1).2 (by
                        rw [← hpm.out, List.map_map] at hni
                        exact hni)]
                      exact hs0
                    have HF := hid (free_yes (w := W.drew.drew) (h1.out.h.drew.drew) h1.out.i.ok (h1.out.i.free (g' := 0) hs2).2 hs2)
                    have hxl := hid (List.getElem?_eq_some_iff.1 hs0).1
                    replace hs2 := hid hs2
                    clear hbad hni hs0
                    gi_wp2_with fail
                    refine wpIn_region_G (fun _ => True) [(0, .at_), (1, .at_), (2, .at_), (3, .at_), (4, .at_), (5, .at_), (6, .at_), (7, .at_), (8, .at_), (9, .at_), (10, .at_), (11, .at_)] ?L5 (by kernel_rfl) (by kernel_rfl) (by kernel_rfl) ?hL5 (trivial) ?hG5
                    case hL5 => simp only [pickOps, List.map_cons, List.map_nil, List.getD_cons_zero, List.getD_cons_succ]; rfl
                    repeat (first | (refine wpGS_at (v := ?_) (by rfl) ?_ ?_; rotate_left; (focus (first | (go_simp; with_reducible rfl) | (go_simp; done))); simp only [Act.put, List.setIfInBounds_toArray, List.set_cons_zero, List.set_cons_succ]) | (refine wpGS_at_skip (by rfl) ?_; simp only [Act.put, List.setIfInBounds_toArray, List.set_cons_zero, List.set_cons_succ]) | (refine wpGS_held_skip (by rfl) ?_; simp only [Act.put, List.setIfInBounds_toArray, List.set_cons_zero, List.set_cons_succ]) | (refine wpGS_held (v := ?_) (by rfl) ?_ ?_; rotate_left; (focus (intro w' hSw; (try dsimp only at hSw); go_split_ands; first | (go_simp; with_reducible rfl) | (go_simp; done))); simp only [Act.put, List.setIfInBounds_toArray, List.set_cons_zero, List.set_cons_succ]))
                    refine wpGS_nil (NoPanic.normal ?_)
                    gi_wp2_with fail
                    refine wpIn_region_G (fun _ => True) [(0, .at_), (1, .at_), (2, .at_), (3, .at_), (4, .at_), (5, .eff)] ?L6 (by kernel_rfl) (by kernel_rfl) (by kernel_rfl) ?hL6 (trivial) ?hG6
                    case hL6 => simp only [pickOps, List.map_cons, List.map_nil, List.getD_cons_zero, List.getD_cons_succ]; rfl
                    repeat (first | (refine wpGS_at (v := ?_) (by rfl) ?_ ?_; rotate_left; (focus (first | (go_simp; with_reducible rfl) | (go_simp; done))); simp only [Act.put, List.setIfInBounds_toArray, List.set_cons_zero, List.set_cons_succ]) | (refine wpGS_at_skip (by rfl) ?_; simp only [Act.put, List.setIfInBounds_toArray, List.set_cons_zero, List.set_cons_succ]) | (refine wpGS_held_skip (by rfl) ?_; simp only [Act.put, List.setIfInBounds_toArray, List.set_cons_zero, List.set_cons_succ]) | (refine wpGS_held (v := ?_) (by rfl) ?_ ?_; rotate_left; (focus (intro w' hSw; (try dsimp only at hSw); go_split_ands; first | (go_simp; with_reducible rfl) | (go_simp; done))); simp only [Act.put, List.setIfInBounds_toArray, List.set_cons_zero, List.set_cons_succ]))
                    refine wpGS_eff (by rfl) (fun K hK => ?_)
                    go_simp
                    refine HF.out.mono ?_
                    rintro e w9 ⟨rfl, v9, A9, o9, k9⟩
                    have k9' := hid ((((Kp.refl (fun b => b = p ∨ b = l ∨ v2.ownBlock = some b) W).drew).drew).trans k9)
                    have V9 := hid (h1.out.free A9 (h1.out.i.free hs2.out).1 o9 k9'.out)
                    have G9 := hid (k9'.out.get h2.out (fun e => by
                      rcases e with e | e | e
                      · exact ne_of_types h2.out h1.out.h.hp (by decide) e
                      · exact ne_of_types h2.out h1.out.h.hl (by decide) e
                      · exact hv2.out e))
                    have D9 := hid (k9'.out.get h5.out (fun e => by
                      have h5' := h5.out
                      rcases e with rfl | rfl | e
                      · rw [h1.out.h.hp] at h5'; cases h5'
                      · rw [h1.out.h.hl] at h5'; cases h5'
                      · obtain ⟨A, hA⟩ := row_cells h1.out.h.hv e; rw [hA] at h5'; cases h5'))
                    have hv9 := hid (show v9.ownBlock ≠ some b12 from fun e => by
                      rcases o9 with o | ⟨b', o, hb'⟩
                      · exact hv2.out (o ▸ e)
                      · rw [e] at o; injection o with o; subst o
                        have := blk_lt h2.out
                        exact Nat.lt_irrefl _ (Nat.lt_of_lt_of_le this hb'))
                    have L12' := loc1 G9.out
                    clear A9 o9 k9 L4 L7 Lg L9 L12 L14 Le1 Le2
                    refine hK _ _ trivial ?_
                    clear hK K
                    repeat (first | (refine wpGS_at (v := ?_) (by rfl) ?_ ?_; rotate_left; (focus (first | (go_simp; with_reducible rfl) | (go_simp; done))); simp only [Act.put, List.setIfInBounds_toArray, List.set_cons_zero, List.set_cons_succ]) | (refine wpGS_at_skip (by rfl) ?_; simp only [Act.put, List.setIfInBounds_toArray, List.set_cons_zero, List.set_cons_succ]) | (refine wpGS_held_skip (by rfl) ?_; simp only [Act.put, List.setIfInBounds_toArray, List.set_cons_zero, List.set_cons_succ]) | (refine wpGS_held (v := ?_) (by rfl) ?_ ?_; rotate_left; (focus (intro w' hSw; (try dsimp only at hSw); go_split_ands; first | (go_simp; with_reducible rfl) | (go_simp; done))); simp only [Act.put, List.setIfInBounds_toArray, List.set_cons_zero, List.set_cons_succ]))
                    refine wpGS_nil (NoPanic.normal ?_)
                    gi_wp2_with fail
                    have KS : Kp (fun b => b = b12) w9 (w9.setCell ⟨b12, 0, none⟩ (.int .i64 ((k : Int) + 1))) := (Kp.refl (fun b => b = b12) w9).setCell (p := ⟨b12, 0, none⟩) _ (fun _ => rfl)
                    have KA : Kp (fun b => b = b12 ∨ b = p ∨ b = l ∨ v2.ownBlock = some b) W (w9.setCell ⟨b12, 0, none⟩ (.int .i64 ((k : Int) + 1))) := (k9'.out.mono (fun b hb => .inr hb)).trans (KS.mono (fun b hb => .inl hb))
                    have V10 := V9.out.num G9.out hs12 hv9.out KS
                    have hl8 := V8.out.h.lt
                    have hD8' := hDl.out
                    refine ⟨keepsFrom_cells KA (fun b hb o ho => ?_), KT.of_kp KA (fun b hb hB A f hA => ?_), ?_⟩
                    · rcases hb with rfl | rfl | rfl | hb
                      · rw [h2.out] at ho; injection ho with ho; subst ho; rfl
                      · rw [h1.out.h.hp] at ho; injection ho with ho; subst ho; rfl
                      · rw [h1.out.h.hl] at ho; injection ho with ho; subst ho; rfl
                      · obtain ⟨A, hA⟩ := row_cells h1.out.h.hv hb; rw [hA] at ho; injection ho with ho; subst ho; rfl
                    · rcases hb with rfl | rfl | rfl | hb
                      · omega
                      · omega
                      · omega
                      · obtain ⟨A', hA'⟩ := row_cells h1.out.h.hv hb; rw [hA'] at hA; injection hA with hA; injection hA with _ h3 _; exact absurd h3 (by decide)
                    · exact ⟨v9, _, _, V10, hgo.out.step hxl.out x2 x3 _, by rw [List.length_append, hpl.out]; exact blk_setCell G9.out 0 _, hv9.out, by rw [List.length_append, hpl.out]; simp; omega,
                        by rw [List.map_append, hpm.out, List.length_append, hpl.out, List.length_singleton, List.take_add_one, hig.out]; rfl, Nat.le_trans h4 KA.size, KS.get D9.out (by omega)⟩
                  · have e4 : (x2 == g) = false := by simpa using e2
                    have hb := hid (hbad.out (fun e => e2 (by injection e))).out
                    subst e1
                    clear e2 hbad
                    gi_wp2_with fail
                    refine wpIn_region_G (fun _ => True) [(0, .at_), (1, .at_), (2, .at_), (3, .at_), (4, .at_), (5, .at_), (6, .at_), (7, .at_), (8, .at_), (9, .at_), (10, .at_), (11, .at_)] ?L7 (by kernel_rfl) (by kernel_rfl) (by kernel_rfl) ?hL7 (trivial) ?hG7
                    case hL7 => simp only [pickOps, List.map_cons, List.map_nil, List.getD_cons_zero, List.getD_cons_succ]; rfl
                    repeat (first | (refine wpGS_at (v := ?_) (by rfl) ?_ ?_; rotate_left; (focus (first | (go_simp; with_reducible rfl) | (go_simp; done))); simp only [Act.put, List.setIfInBounds_toArray, List.set_cons_zero, List.set_cons_succ]) | (refine wpGS_at_skip (by rfl) ?_; simp only [Act.put, List.setIfInBounds_toArray, List.set_cons_zero, List.set_cons_succ]) | (refine wpGS_held_skip (by rfl) ?_; simp only [Act.put, List.setIfInBounds_toArray, List.set_cons_zero, List.set_cons_succ]) | (refine wpGS_held (v := ?_) (by rfl) ?_ ?_; rotate_left; (focus (intro w' hSw; (try dsimp only at hSw); go_split_ands; first | (go_simp; with_reducible rfl) | (go_simp; done))); simp only [Act.put, List.setIfInBounds_toArray, List.set_cons_zero, List.set_cons_succ]))
                    refine wpGS_nil (NoPanic.normal ?_)
                    gi_wp2_with fail
                    have KS : Kp (fun b => b = w.heap.size + 1) W (W.setCell ⟨w.heap.size + 1, 0, none⟩ (.bool false)).drew := ((Kp.refl (fun b => b = w.heap.size + 1) W).setCell (p := ⟨w.heap.size + 1, 0, none⟩) _ (fun _ => rfl)).drew
                    exact ⟨keepsFrom_kp (KS.mono (fun b hb => (by omega : b < w8.heap.size))), rfl, hb.out⟩
                · have e4 : (x1 == i) = false := by simpa using e1
                  have e5 : ((x1 : Int) == (i : Int)) = false := by rw [beq_eq_false_iff_ne]; omega
                  have hb := hid (hbad.out (fun e => e1 (by injection e))).out
                  clear e1 hbad
                  gi_wp2_with fail
                  refine wpIn_region_G (fun _ => True) [(0, .at_), (1, .at_), (2, .at_), (3, .at_), (4, .at_), (5, .at_), (6, .at_), (7, .at_), (8, .at_), (9, .at_), (10, .at_), (11, .at_)] ?L8 (by kernel_rfl) (by kernel_rfl) (by kernel_rfl) ?hL8 (trivial) ?hG8
                  case hL8 => simp only [pickOps, List.map_cons, List.map_nil, List.getD_cons_zero, List.getD_cons_succ]; rfl
                  repeat (first | (refine wpGS_at (v := ?_) (by rfl) ?_ ?_; rotate_left; (focus (first | (go_simp; with_reducible rfl) | (go_simp; done))); simp only [Act.put, List.setIfInBounds_toArray, List.set_cons_zero, List.set_cons_succ]) | (refine wpGS_at_skip (by rfl) ?_; simp only [Act.put, List.setIfInBounds_toArray, List.set_cons_zero, List.set_cons_succ]) | (refine wpGS_held_skip (by rfl) ?_; simp only [Act.put, List.setIfInBounds_toArray, List.set_cons_zero, List.set_cons_succ]) | (refine wpGS_held (v := ?_) (by rfl) ?_ ?_; rotate_left; (focus (intro w' hSw; (try dsimp only at hSw); go_split_ands; first | (go_simp; with_reducible rfl) | (go_simp; done))); simp only [Act.put, List.setIfInBounds_toArray, List.set_cons_zero, List.set_cons_succ]))
                  refine wpGS_nil (NoPanic.normal ?_)
                  gi_wp2_with fail
                  have KS : Kp (fun b => b = w.heap.size + 1) W (W.setCell ⟨w.heap.size + 1, 0, none⟩ (.bool false)).drew := ((Kp.refl (fun b => b = w.heap.size + 1) W).setCell (p := ⟨w.heap.size + 1, 0, none⟩) _ (fun _ => rfl)).drew
                  exact ⟨keepsFrom_kp (KS.mono (fun b hb => (by omega : b < w8.heap.size))), rfl, hb.out⟩
              · -- all have come
                rintro D2 W hD2 ⟨v2, S2, B2, h1, hgo, h2, hv2, h3, hpm, h4, h5⟩ hk
                have hz := hgo.all rfl
                have HLn := hid (len_any h1.h h1.i.ok)
                rw [hz] at HLn
                simp only [List.length_nil] at HLn
                rw [← hwl.out] at h2
                have L4 := loc1 h1.r
                have L7 := loc1 h1.d
                obtain ⟨rr, hvv, hgg⟩ := h1.g
                have Lg := loc3 hgg
                have L9 := loc1 h1.n
                have L12 := loc1 h2
                replace h1 := hid h1
                replace h2 := hid h2
                replace hk := hid hk
                replace h5 := hid h5
                clear h3 hgo hpm hgg hz
                go_wp2_with fail
                refine HLn.out.mono ?_
                rintro e w9 ⟨rfl, k8⟩
                go_wp2_with fail
                refine (HK.out _).mono ?_
                rintro e w10 ⟨rfl, k9⟩
                have V9 := hid ((h1.out.kn k8).kn k9)
                have hk9 := hid (k9.get (k8.get hk.out (fun h => h)) (fun h => h))
                have h59 := hid (k9.get (k8.get h5.out (fun h => h)) (fun h => h))
                have L10 := loc1 V9.out.r
                clear k8 k9 L4 L7 Lg L9 L12
                go_wp2_with fail
                have hDl' := hDl.out
                have n1 : w.heap.size + 1 ≠ D2 := by omega
                have n2 : w.heap.size + 1 ≠ D := by omega
                have n3 : D2 ≠ D := by omega
                have hK2 : (w10.setCell ⟨w.heap.size + 1, 0, none⟩ (.bool true)).heap[D2]? = some (.deferred (some [])) := (Below.heap_setCell _ _ _ _ (Ne.symm n1)).trans hk9.out
                have hK1 : (w10.setCell ⟨w.heap.size + 1, 0, none⟩ (.bool true)).heap[D]? = some (.deferred (some [])) := (Below.heap_setCell _ _ _ _ (Ne.symm n2)).trans h59.out
                have g4 := blk_setCell V9.out.r 0 (.bool true)
                have KF : Kp NoB w (w10.setCell ⟨w.heap.size + 1, 0, none⟩ (.bool true)) := V9.out.k.setCell (p := ⟨w.heap.size + 1, 0, none⟩) _ (fun h => absurd h (by simp))
                generalize (w10.setCell ⟨w.heap.size + 1, 0, none⟩ (.bool true)) = W3 at *
                have g5 := (World.putObj_heap_other n1 (o := .deferred none) (w := W3)).trans g4
                have KP := KF.putObj (D := D2) (.deferred none) (fun h => absurd h (by omega))
                have L4' := loc1 ((World.putObj_heap_other n2 (o := .deferred none) (w := W3.putObj D2 (.deferred none))).trans g5)
                have KP2 := KP.putObj (D := D) (.deferred none) (fun h => absurd h (by omega))
                refine leaves_two hK2 hK1 n3 (v := .bool true) ?_ ⟨rfl, KP2⟩
                generalize (W3.putObj D2 (.deferred none)).putObj D (.deferred none) = W4 at *
                simp [results, Try.results5, go_sem, L4'.1]
              · -- left early
                rintro D2 c' pre W hD2 hp ⟨rfl, hx⟩ hk
                exact absurd hp hx
            · -- left early
              rintro D c' pre W hD hp (⟨rfl, hx⟩ | ⟨rfl, h1, ⟨n, h2⟩, h4, h5⟩) hDk
              · exact absurd hp hx
              · skip
                clear hp
                have L12 := loc1 h2
                have hDm : D ≠ b12 := by omega
                have KZ : Kp (fun b => b = b12) W (W.setCell ⟨b12, 0, none⟩ (.int .i64 0)) := (Kp.refl (fun b => b = b12) W).setCell (p := ⟨b12, 0, none⟩) _ (fun _ => rfl)
                have V8 := hid (h1.num h2 hs12 hv12.out KZ)
                have G8 := hid (blk_setCell h2 0 (.int .i64 0))
                have C8 := hid (KZ.get h5 hcb)
                have D8 := hid (KZ.get hDk hDm)
                have hs8 : w6.heap.size ≤ (W.setCell ⟨b12, 0, none⟩ (.int .i64 0)).heap.size := Nat.le_trans h4 KZ.size
                have hDl := hid (blk_lt D8.out)
                clear h1 h2 h4 h5 hDk V6 G12 C6 KZ
                try clear h3
                go_wp2_with fail
                generalize (W.setCell ⟨b12, 0, none⟩ (.int .i64 0)) = w8 at *
                clear L12
                refine wp_range_listT (t := 72) (gf := 31) (lb := #[.pointer (some ⟨c10, 0, none⟩)]) rfl (enters_of Try.func31 (by kernel_rfl) rfl) (encs := encL) (L := liveL S) (hseq.out _ V8.out.h C8.out) (fun _ => rfl)
                  (ArJ w b7 b9 pg p l b12 D w8.heap.size (.slice ow (wantL S).length cw) S E at_) (ArY S)
                  (own_of_cells (fun s W W' h k => by
                    have hn : ∀ b, (w8.heap.size ≤ b ∧ ∃ o : Obj, W.heap[b]? = some o ∧ o.isCells = false) → ∀ A t f, W.heap[b]? ≠ some (.cells A t f) := by
                      rintro b ⟨_, o, ho, hc⟩ A t f hb
                      rw [hb] at ho; injection ho with ho; subst ho; cases hc
                    obtain ⟨v2, S2, B2, h1, h2, h3, h4, h5, h6, h7, h8⟩ := h
                    have hDl' := hDl.out
                    exact ⟨v2, S2, B2, h1.cells k hn (fun b hb => by have := V8.out.k.size; omega), h2, k.get h3 (fun e => hn _ e _ _ _ h3), h4, h5, h6, Nat.le_trans h7 k.size, k.get h8 (fun e => by omega)⟩))
                  (fun c => own_of_cells (fun s W W' h k => h))
                  ⟨v, S, B, V8.out, Gone.nil S, G8.out, hv12.out, Nat.zero_le _, rfl, Nat.le_refl _, D8.out⟩
                  (fun x a' W => ∃ (b14 : Nat) (u : Nat → Value), w8.heap.size ≤ b14 ∧ W.heap[b14]? = some (.cells #[.int .i64 x.1, .int .u64 x.2.1] 36 (0, 0)) ∧ a' = { tmps := #[u 0, u 1, u 2, u 3, u 4, .pointer (some ⟨w.heap.size, 0, none⟩), .pointer (some ⟨w.heap.size + 1, 0, none⟩), .pointer (some ⟨b7, 0, none⟩), u 8, .pointer (some ⟨b9, 0, none⟩), u 10, u 11, .pointer (some ⟨b12, 0, none⟩), u 13, .pointer (some ⟨b14, 0, none⟩), u 15, u 16, u 17, u 18, u 19, u 20, u 21, u 22, u 23, u 24, u 25, u 26, u 27, u 28, u 29, u 30, u 31, u 32, u 33, u 34, u 35, u 36, u 37, u 38, u 39, u 40, u 41, u 42, u 43, u 44, u 45, u 46, u 47, u 48, u 49, u 50, u 51, u 52, u 53, u 54, u 55, u 56, u 57, u 58, u 59, u 60, u 61, u 62, u 63, u 64, u 65, u 66, u 67, u 68, u 69, u 70, u 71, u 72, u 73, u 74, u 75, u 76, u 77, u 78, u 79, u 80, u 81, u 82, u 83, u 84, u 85, u 86, u 87, u 88, u 89, u 90, u 91, u 92, u 93, u 94, u 95, u 96, u 97, u 98, u 99, u 100, u 101, u 102, u 103, u 104, u 105, u 106, u 107, u 108, u 109, u 110, u 111, u 112, u 113, u 114, u 115, u 116, u 117, u 118, u 119, u 120, u 121, u 122, u 123, u 124, u 125, u 126, u 127, u 128, u 129, u 130, u 131, u 132, u 133, u 134, u 135, u 136, u 137, u 138, u 139, u 140], defers := [] })
                  ?_ ?_ ?_ ?_ ?_
                · -- the handle's box is the round's own
                  rintro x a' s W W' row ⟨b13, u, h1, h2, h3⟩ hg hr
                  exact ⟨b13, u, h1, grown_get hg h2 (fun e => by obtain ⟨_, o, ho, hc⟩ := hr _ e; rw [h2] at ho; injection ho with ho; subst ho; cases hc), h3⟩
                · -- the loop's variables
                  rintro l' pre ⟨x1, x2, x3⟩ W K hI hK
                  have hs : w8.heap.size ≤ W.heap.size := by obtain ⟨_, _, _, _, _, _, _, _, _, h, _⟩ := hI; exact h
                  have hI' : ArJ w b7 b9 pg p l b12 D w8.heap.size (.slice ow (wantL S).length cw) S E at_ pre (W.alloc (.cells #[.int .i64 x1, .int .u64 x2] 36)) := by
                    obtain ⟨v2, S2, B2, h1, h2, h3, h4, h5, h6, h7, h8⟩ := hI
                    have KW : Kp NoB W (W.alloc (.cells #[.int .i64 x1, .int .u64 x2] 36)) := (Kp.refl _ W).alloc _
                    exact ⟨v2, S2, B2, h1.kn KW, h2, KW.get h3 (fun h => h), h4, h5, h6, Nat.le_trans h7 KW.size, KW.get h8 (fun h => h)⟩
                  unfold encL
                  have hnb := hid (blk_new W (.cells #[.int .i64 0, .int .u64 0] 36))
                  replace hI' := hid hI'
                  clear hI
                  gi_wp2_with fail
                  refine hK _ _ ((Kp.refl _ W).alloc _) hI'.out ?_
                  exact ⟨W.heap.size, ax_fun2 _ hs (blk_new W _) (by rfl)⟩
                · -- a round
                  rintro l' pre ⟨x1, x2, x3⟩ a' W hl ⟨v2, S2, B2, h1, hgo, h2, hv2, h3, hpm, h4, h5⟩ ⟨b14, u, hb14, h14, rfl⟩ hn
                  obtain ⟨k, hpl⟩ : ∃ k, pre.length = k := ⟨_, rfl⟩
                  rw [hpl] at h2 h3 hn hpm
                  have L4 := loc1 h1.r
                  have L7 := loc1 h1.d
                  obtain ⟨rr, hvv, hgg⟩ := h1.g
                  have Lg := loc3 hgg
                  have L9 := loc1 h1.n
                  have L12 := loc1 h2
                  have L14 := loc2 h14
                  dsimp only at L14
                  obtain ⟨⟨i, g⟩, hig⟩ : ∃ y, (wantL S)[k]? = some y := ⟨_, List.getElem?_eq_getElem (by have := hwl.out; omega)⟩
                  obtain ⟨b, Le1, Le2, hbv⟩ := row_at2 h1.q hig
                  have c1 : (0 : Int) ≤ (k : Int) := Int.natCast_nonneg _
                  have c2 : (k : Int) < ((wantL S).length : Int) := by have := hwl.out; omega
                  have c4 : decide ((wantL S).length ≤ k) = false := decide_eq_false (by omega)
                  have c5 : k ≤ 4096 := by omega
                  have hbad : (x1, x2) ≠ (i, g) → Hid (¬ pre ++ [(x1, x2, x3)] <+: liveL S) := fun hne => hid (fun hp => hne (by
                    have h := pre_at hp
                    rw [hpl] at h
                    have h2 : (wantL S)[k]? = some (hd (x1, x2, x3)) := by unfold wantL; rw [List.getElem?_map, h]; rfl
                    rw [hig] at h2
                    injection h2 with h2
                    exact h2.symm))
                  replace hbad := hid hbad
                  replace hpl := hid hpl
                  replace hig := hid hig
                  replace h1 := hid h1
                  replace h2 := hid h2
                  replace h14 := hid h14
                  replace hgo := hid hgo
                  replace hpm := hid hpm
                  replace hv2 := hid hv2
                  replace h5 := hid h5
                  clear hgg
                  obtain ⟨rfl, c3⟩ := hbv
                  by_cases e1 : x1 = i
                  · by_cases e2 : x2 = g
                    · subst e1; subst e2
                      obtain ⟨⟨y, hs0⟩, hni⟩ := want_at hig.out
                      have hs2 : S2[x1]? = some (y, x2, true) := by
                        rw [(hgo.out.2 x1).2 (by
                          rw [← hpm.out, List.map_map] at hni
                          exact hni)]
                        exact hs0
                      have HF := hid (free_yes (w := W.drew.drew) (h1.out.h.drew.drew) h1.out.i.ok (h1.out.i.free (g' := 0) hs2).2 hs2)
                      have hxl := hid (List.getElem?_eq_some_iff.1 hs0).1
                      replace hs2 := hid hs2
                      clear hbad hni hs0
                      gi_wp2_with fail
                      refine wpIn_region_G (fun _ => True) [(0, .at_), (1, .at_), (2, .at_), (3, .at_), (4, .at_), (5, .at_), (6, .at_), (7, .at_), (8, .at_), (9, .at_), (10, .at_), (11, .at_)] ?L9 (by kernel_rfl) (by kernel_rfl) (by kernel_rfl) ?hL9 (trivial) ?hG9
                      case hL9 => simp only [pickOps, List.map_cons, List.map_nil, List.getD_cons_zero, List.getD_cons_succ]; rfl
                      repeat (first | (refine wpGS_at (v := ?_) (by rfl) ?_ ?_; rotate_left; (focus (first | (go_simp; with_reducible rfl) | (go_simp; done))); simp only [Act.put, List.setIfInBounds_toArray, List.set_cons_zero, List.set_cons_succ]) | (refine wpGS_at_skip (by rfl) ?_; simp only [Act.put, List.setIfInBounds_toArray, List.set_cons_zero, List.set_cons_succ]) | (refine wpGS_held_skip (by rfl) ?_; simp only [Act.put, List.setIfInBounds_toArray, List.set_cons_zero, List.set_cons_succ]) | (refine wpGS_held (v := ?_) (by rfl) ?_ ?_; rotate_left; (focus (intro w' hSw; (try dsimp only at hSw); go_split_ands; first | (go_simp; with_reducible rfl) | (go_simp; done))); simp only [Act.put, List.setIfInBounds_toArray, List.set_cons_zero, List.set_cons_succ]))
                      refine wpGS_nil (NoPanic.normal ?_)
                      gi_wp2_with fail
                      refine wpIn_region_G (fun _ => True) [(0, .at_), (1, .at_), (2, .at_), (3, .at_), (4, .at_), (5, .eff)] ?L10 (by kernel_rfl) (by kernel_rfl) (by kernel_rfl) ?hL10 (trivial) ?hG10
                      case hL10 => simp only [pickOps, List.map_cons, List.map_nil, List.getD_cons_zero, List.getD_cons_succ]; rfl
                      repeat (first | (refine wpGS_at (v := ?_) (by rfl) ?_ ?_; rotate_left; (focus (first | (go_simp; with_reducible rfl) | (go_simp; done))); simp only [Act.put, List.setIfInBounds_toArray, List.set_cons_zero, List.set_cons_succ]) | (refine wpGS_at_skip (by rfl) ?_; simp only [Act.put, List.setIfInBounds_toArray, List.set_cons_zero, List.set_cons_succ]) | (refine wpGS_held_skip (by rfl) ?_; simp only [Act.put, List.setIfInBounds_toArray, List.set_cons_zero, List.set_cons_succ]) | (refine wpGS_held (v := ?_) (by rfl) ?_ ?_; rotate_left; (focus (intro w' hSw; (try dsimp only at hSw); go_split_ands; first | (go_simp; with_reducible rfl) | (go_simp; done))); simp only [Act.put, List.setIfInBounds_toArray, List.set_cons_zero, List.set_cons_succ]))
                      refine wpGS_eff (by rfl) (fun K hK => ?_)
                      go_simp
                      refine HF.out.mono ?_
                      rintro e w9 ⟨rfl, v9, A9, o9, k9⟩
                      have k9' := hid ((((Kp.refl (fun b => b = p ∨ b = l ∨ v2.ownBlock = some b) W).drew).drew).trans k9)
                      have V9 := hid (h1.out.free A9 (h1.out.i.free hs2.out).1 o9 k9'.out)
                      have G9 := hid (k9'.out.get h2.out (fun e => by
                        rcases e with e | e | e
                        · exact ne_of_types h2.out h1.out.h.hp (by decide) e
                        · exact ne_of_types h2.out h1.out.h.hl (by decide) e
                        · exact hv2.out e))
                      have D9 := hid (k9'.out.get h5.out (fun e => by
                        have h5' := h5.out
                        rcases e with rfl | rfl | e
                        · rw [h1.out.h.hp] at h5'; cases h5'
                        · rw [h1.out.h.hl] at h5'; cases h5'
                        · obtain ⟨A, hA⟩ := row_cells h1.out.h.hv e; rw [hA] at h5'; cases h5'))
                      have hv9 := hid (show v9.ownBlock ≠ some b12 from fun e => by
                        rcases o9 with o | ⟨b', o, hb'⟩
                        · exact hv2.out (o ▸ e)
                        · rw [e] at o; injection o with o; subst o
                          have := blk_lt h2.out
                          exact Nat.lt_irrefl _ (Nat.lt_of_lt_of_le this hb'))
                      have L12' := loc1 G9.out
                      clear A9 o9 k9 L4 L7 Lg L9 L12 L14 Le1 Le2
                      refine hK _ _ trivial ?_
                      clear hK K
                      repeat (first | (refine wpGS_at (v := ?_) (by rfl) ?_ ?_; rotate_left; (focus (first | (go_simp; with_reducible rfl) | (go_simp; done))); simp only [Act.put, List.setIfInBounds_toArray, List.set_cons_zero, List.set_cons_succ]) | (refine wpGS_at_skip (by rfl) ?_; simp only [Act.put, List.setIfInBounds_toArray, List.set_cons_zero, List.set_cons_succ]) | (refine wpGS_held_skip (by rfl) ?_; simp only [Act.put, List.setIfInBounds_toArray, List.set_cons_zero, List.set_cons_succ]) | (refine wpGS_held (v := ?_) (by rfl) ?_ ?_; rotate_left; (focus (intro w' hSw; (try dsimp only at hSw); go_split_ands; first | (go_simp; with_reducible rfl) | (go_simp; done))); simp only [Act.put, List.setIfInBounds_toArray, List.set_cons_zero, List.set_cons_succ]))
                      refine wpGS_nil (NoPanic.normal ?_)
                      gi_wp2_with fail
                      have KS : Kp (fun b => b = b12) w9 (w9.setCell ⟨b12, 0, none⟩ (.int .i64 ((k : Int) + 1))) := (Kp.refl (fun b => b = b12) w9).setCell (p := ⟨b12, 0, none⟩) _ (fun _ => rfl)
                      have KA : Kp (fun b => b = b12 ∨ b = p ∨ b = l ∨ v2.ownBlock = some b) W (w9.setCell ⟨b12, 0, none⟩ (.int .i64 ((k : Int) + 1))) := (k9'.out.mono (fun b hb => .inr hb)).trans (KS.mono (fun b hb => .inl hb))
                      have V10 := V9.out.num G9.out hs12 hv9.out KS
                      have hl8 := V8.out.h.lt
                      have hD8' := hDl.out
                      refine ⟨keepsFrom_cells KA (fun b hb o ho => ?_), KT.of_kp KA (fun b hb hB A f hA => ?_), ?_⟩
                      · rcases hb with rfl | rfl | rfl | hb
                        · rw [h2.out] at ho; injection ho with ho; subst ho; rfl
                        · rw [h1.out.h.hp] at ho; injection ho with ho; subst ho; rfl
                        · rw [h1.out.h.hl] at ho; injection ho with ho; subst ho; rfl
                        · obtain ⟨A, hA⟩ := row_cells h1.out.h.hv hb; rw [hA] at ho; injection ho with ho; subst ho; rfl
                      · rcases hb with rfl | rfl | rfl | hb
                        · omega
                        · omega
                        · omega
                        · obtain ⟨A', hA'⟩ := row_cells h1.out.h.hv hb; rw [hA'] at hA; injection hA with hA; injection hA with _ h3 _; exact absurd h3 (by decide)
                      · exact ⟨v9, _, _, V10, hgo.out.step hxl.out x2 x3 _, by rw [List.length_append, hpl.out]; exact blk_setCell G9.out 0 _, hv9.out, by rw [List.length_append, hpl.out]; simp; omega,
                          by rw [List.map_append, hpm.out, List.length_append, hpl.out, List.length_singleton, List.take_add_one, hig.out]; rfl, Nat.le_trans h4 KA.size, KS.get D9.out (by omega)⟩
                    · have e4 : (x2 == g) = false := by simpa using e2
                      have hb := hid (hbad.out (fun e => e2 (by injection e))).out
                      subst e1
                      clear e2 hbad
                      gi_wp2_with fail
                      refine wpIn_region_G (fun _ => True) [(0, .at_), (1, .at_), (2, .at_), (3, .at_), (4, .at_), (5, .at_), (6, .at_), (7, .at_), (8, .at_), (9, .at_), (10, .at_), (11, .at_)] ?L11 (by kernel_rfl) (by kernel_rfl) (by kernel_rfl) ?hL11 (trivial) ?hG11
                      case hL11 => simp only [pickOps, List.map_cons, List.map_nil, List.getD_cons_zero, List.getD_cons_succ]; rfl
                      repeat (first | (refine wpGS_at (v := ?_) (by rfl) ?_ ?_; rotate_left; (focus (first | (go_simp; with_reducible rfl) | (go_simp; done))); simp only [Act.put, List.setIfInBounds_toArray, List.set_cons_zero, List.set_cons_succ]) | (refine wpGS_at_skip (by rfl) ?_; simp only [Act.put, List.setIfInBounds_toArray, List.set_cons_zero, List.set_cons_succ]) | (refine wpGS_held_skip (by rfl) ?_; simp only [Act.put, List.setIfInBounds_toArray, List.set_cons_zero, List.set_cons_succ]) | (refine wpGS_held (v := ?_) (by rfl) ?_ ?_; rotate_left; (focus (intro w' hSw; (try dsimp only at hSw); go_split_ands; first | (go_simp; with_reducible rfl) | (go_simp; done))); simp only [Act.put, List.setIfInBounds_toArray, List.set_cons_zero, List.set_cons_succ]))
                      refine wpGS_nil (NoPanic.normal ?_)
                      gi_wp2_with fail
                      have KS : Kp (fun b => b = w.heap.size + 1) W (W.setCell ⟨w.heap.size + 1, 0, none⟩ (.bool false)).drew := ((Kp.refl (fun b => b = w.heap.size + 1) W).setCell (p := ⟨w.heap.size + 1, 0, none⟩) _ (fun _ => rfl)).drew
                      exact ⟨keepsFrom_kp (KS.mono (fun b hb => (by omega : b < w8.heap.size))), rfl, hb.out⟩
                  · have e4 : (x1 == i) = false := by simpa using e1
                    have e5 : ((x1 : Int) == (i : Int)) = false := by rw [beq_eq_false_iff_ne]; omega
                    have hb := hid (hbad.out (fun e => e1 (by injection e))).out
                    clear e1 hbad
                    gi_wp2_with fail
                    refine wpIn_region_G (fun _ => True) [(0, .at_), (1, .at_), (2, .at_), (3, .at_), (4, .at_), (5, .at_), (6, .at_), (7, .at_), (8, .at_), (9, .at_), (10, .at_), (11, .at_)] ?L12 (by kernel_rfl) (by kernel_rfl) (by kernel_rfl) ?hL12 (trivial) ?hG12
                    case hL12 => simp only [pickOps, List.map_cons, List.map_nil, List.getD_cons_zero, List.getD_cons_succ]; rfl
                    repeat (first | (refine wpGS_at (v := ?_) (by rfl) ?_ ?_; rotate_left; (focus (first | (go_simp; with_reducible rfl) | (go_simp; done))); simp only [Act.put, List.setIfInBounds_toArray, List.set_cons_zero, List.set_cons_succ]) | (refine wpGS_at_skip (by rfl) ?_; simp only [Act.put, List.setIfInBounds_toArray, List.set_cons_zero, List.set_cons_succ]) | (refine wpGS_held_skip (by rfl) ?_; simp only [Act.put, List.setIfInBounds_toArray, List.set_cons_zero, List.set_cons_succ]) | (refine wpGS_held (v := ?_) (by rfl) ?_ ?_; rotate_left; (focus (intro w' hSw; (try dsimp only at hSw); go_split_ands; first | (go_simp; with_reducible rfl) | (go_simp; done))); simp only [Act.put, List.setIfInBounds_toArray, List.set_cons_zero, List.set_cons_succ]))
                    refine wpGS_nil (NoPanic.normal ?_)
                    gi_wp2_with fail
                    have KS : Kp (fun b => b = w.heap.size + 1) W (W.setCell ⟨w.heap.size + 1, 0, none⟩ (.bool false)).drew := ((Kp.refl (fun b => b = w.heap.size + 1) W).setCell (p := ⟨w.heap.size + 1, 0, none⟩) _ (fun _ => rfl)).drew
                    exact ⟨keepsFrom_kp (KS.mono (fun b hb => (by omega : b < w8.heap.size))), rfl, hb.out⟩
                · -- all have come
                  rintro D2 W hD2 ⟨v2, S2, B2, h1, hgo, h2, hv2, h3, hpm, h4, h5⟩ hk
                  have hz := hgo.all rfl
                  have HLn := hid (len_any h1.h h1.i.ok)
                  rw [hz] at HLn
                  simp only [List.length_nil] at HLn
                  rw [← hwl.out] at h2
                  have L4 := loc1 h1.r
                  have L7 := loc1 h1.d
                  obtain ⟨rr, hvv, hgg⟩ := h1.g
                  have Lg := loc3 hgg
                  have L9 := loc1 h1.n
                  have L12 := loc1 h2
                  replace h1 := hid h1
                  replace h2 := hid h2
                  replace hk := hid hk
                  replace h5 := hid h5
                  clear h3 hgo hpm hgg hz
                  go_wp2_with fail
                  refine HLn.out.mono ?_
                  rintro e w9 ⟨rfl, k8⟩
                  go_wp2_with fail
                  refine (HK.out _).mono ?_
                  rintro e w10 ⟨rfl, k9⟩
                  have V9 := hid ((h1.out.kn k8).kn k9)
                  have hk9 := hid (k9.get (k8.get hk.out (fun h => h)) (fun h => h))
                  have h59 := hid (k9.get (k8.get h5.out (fun h => h)) (fun h => h))
                  have L10 := loc1 V9.out.r
                  clear k8 k9 L4 L7 Lg L9 L12
                  go_wp2_with fail
                  have hDl' := hDl.out
                  have n1 : w.heap.size + 1 ≠ D2 := by omega
                  have n2 : w.heap.size + 1 ≠ D := by omega
                  have n3 : D2 ≠ D := by omega
                  have hK2 : (w10.setCell ⟨w.heap.size + 1, 0, none⟩ (.bool true)).heap[D2]? = some (.deferred (some [])) := (Below.heap_setCell _ _ _ _ (Ne.symm n1)).trans hk9.out
                  have hK1 : (w10.setCell ⟨w.heap.size + 1, 0, none⟩ (.bool true)).heap[D]? = some (.deferred (some [])) := (Below.heap_setCell _ _ _ _ (Ne.symm n2)).trans h59.out
                  have g4 := blk_setCell V9.out.r 0 (.bool true)
                  have KF : Kp NoB w (w10.setCell ⟨w.heap.size + 1, 0, none⟩ (.bool true)) := V9.out.k.setCell (p := ⟨w.heap.size + 1, 0, none⟩) _ (fun h => absurd h (by simp))
                  generalize (w10.setCell ⟨w.heap.size + 1, 0, none⟩ (.bool true)) = W3 at *
                  have g5 := (World.putObj_heap_other n1 (o := .deferred none) (w := W3)).trans g4
                  have KP := KF.putObj (D := D2) (.deferred none) (fun h => absurd h (by omega))
                  have L4' := loc1 ((World.putObj_heap_other n2 (o := .deferred none) (w := W3.putObj D2 (.deferred none))).trans g5)
                  have KP2 := KP.putObj (D := D) (.deferred none) (fun h => absurd h (by omega))
                  refine leaves_two hK2 hK1 n3 (v := .bool true) ?_ ⟨rfl, KP2⟩
                  generalize (W3.putObj D2 (.deferred none)).putObj D (.deferred none) = W4 at *
                  simp [results, Try.results5, go_sem, L4'.1]
                · -- left early
                  rintro D2 c' pre W hD2 hp ⟨rfl, hx⟩ hk
                  exact absurd hp hx
  · rcases (show ¬ (1 ≤ n ∧ n ≤ 4096) ∨ ((1 ≤ n ∧ n ≤ 4096) ∧ 100 < n) ∨ ((1 ≤ n ∧ n ≤ 4096) ∧ ¬ 100 < n ∧ (100 : Int) < len) from by omega) with h | ⟨h, h2⟩ | ⟨h, h2, h3⟩
    · rw [show (decide (1 ≤ n) && decide (n ≤ 4096)) = false from by simp; omega] at HM
      clear hg
      refine calls_of_wp_marks Try.func5 rfl ?_
      simp only [Try.ntmps5, List.size_toArray, List.length_cons, List.length_nil, Nat.reduceAdd, Nat.reduceSub, Array.replicate_succ, Array.replicate_zero, List.push_toArray, List.append_toArray, List.nil_append, List.cons_append]
      go_wp2_with fail
      refine (HM.out _).mono ?_
      rintro e w1 ⟨rfl, rfl⟩
      generalize ((w.alloc (.cells #[.int .i64 at_] 3)).alloc (.cells #[.bool false] 4)) = W0 at *
      go_wp2_with fail
      refine (HK.out _).mono ?_
      rintro e w2 ⟨rfl, k2⟩
      have g4 := hid (k2.get H4.out (fun h => h))
      have K2 := hid (K0.out.trans k2)
      have L4 := loc1 g4.out
      clear k2
      go_wp2_with fail
      have g4' := blk_setCell g4.out 0 (.bool true)
      have KF : Kp NoB w (w2.setCell ⟨w.heap.size + 1, 0, none⟩ (.bool true)) := K2.out.setCell (p := ⟨w.heap.size + 1, 0, none⟩) _ (fun h => absurd h (by simp))
      generalize (w2.setCell ⟨w.heap.size + 1, 0, none⟩ (.bool true)) = W3 at *
      have L4' := loc1 g4'
      refine leaves_none (v := .bool true) ?_ ⟨rfl, KF⟩
      simp [results, Try.results5, go_sem, L4'.1]
    · rw [show (decide (1 ≤ n) && decide (n ≤ 4096)) = true from by simp; omega] at HM
      clear hg
      refine calls_of_wp_marks Try.func5 rfl ?_
      simp only [Try.ntmps5, List.size_toArray, List.length_cons, List.length_nil, Nat.reduceAdd, Nat.reduceSub, Array.replicate_succ, Array.replicate_zero, List.push_toArray, List.append_toArray, List.nil_append, List.cons_append]
      go_wp2_with fail
      refine (HM.out _).mono ?_
      rintro e w1 ⟨rfl, rfl⟩
      generalize ((w.alloc (.cells #[.int .i64 at_] 3)).alloc (.cells #[.bool false] 4)) = W0 at *
      go_wp2_with fail
      refine (HK.out _).mono ?_
      rintro e w2 ⟨rfl, k2⟩
      have g4 := hid (k2.get H4.out (fun h => h))
      have K2 := hid (K0.out.trans k2)
      have L4 := loc1 g4.out
      clear k2
      go_wp2_with fail
      have g4' := blk_setCell g4.out 0 (.bool true)
      have KF : Kp NoB w (w2.setCell ⟨w.heap.size + 1, 0, none⟩ (.bool true)) := K2.out.setCell (p := ⟨w.heap.size + 1, 0, none⟩) _ (fun h => absurd h (by simp))
      generalize (w2.setCell ⟨w.heap.size + 1, 0, none⟩ (.bool true)) = W3 at *
      have L4' := loc1 g4'
      refine leaves_none (v := .bool true) ?_ ⟨rfl, KF⟩
      simp [results, Try.results5, go_sem, L4'.1]
    · rw [show (decide (1 ≤ n) && decide (n ≤ 4096)) = true from by simp; omega] at HM
      clear hg
      refine calls_of_wp_marks Try.func5 rfl ?_
      simp only [Try.ntmps5, List.size_toArray, List.length_cons, List.length_nil, Nat.reduceAdd, Nat.reduceSub, Array.replicate_succ, Array.replicate_zero, List.push_toArray, List.append_toArray, List.nil_append, List.cons_append]
      go_wp2_with fail
      refine (HM.out _).mono ?_
      rintro e w1 ⟨rfl, rfl⟩
      generalize ((w.alloc (.cells #[.int .i64 at_] 3)).alloc (.cells #[.bool false] 4)) = W0 at *
      go_wp2_with fail
      refine (HK.out _).mono ?_
      rintro e w2 ⟨rfl, k2⟩
      have g4 := hid (k2.get H4.out (fun h => h))
      have K2 := hid (K0.out.trans k2)
      have L4 := loc1 g4.out
      clear k2
      go_wp2_with fail
      have g4' := blk_setCell g4.out 0 (.bool true)
      have KF : Kp NoB w (w2.setCell ⟨w.heap.size + 1, 0, none⟩ (.bool true)) := K2.out.setCell (p := ⟨w.heap.size + 1, 0, none⟩) _ (fun h => absurd h (by simp))
      generalize (w2.setCell ⟨w.heap.size + 1, 0, none⟩ (.bool true)) = W3 at *
      have L4' := loc1 g4'
      refine leaves_none (v := .bool true) ?_ ⟨rfl, KF⟩
      simp [results, Try.results5, go_sem, L4'.1]
end
end Go.Proofs.Ytldkogdkadgnkaa
