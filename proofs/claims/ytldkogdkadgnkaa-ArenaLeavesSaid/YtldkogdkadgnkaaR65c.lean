/- Walks through a game: an act of the kind 5. -/
import Derived.Test.YtldkogdkadgnkaaR6
namespace Go.Proofs.Ytldkogdkadgnkaa
set_option linter.unusedSimpArgs false
set_option linter.unusedVariables false
open Go.RowKit
attribute [local go_sem ↓] Go.wp_at_zero Go.wp_at_succ
section
variable {N : Nat} {w w' : World} {pg p l r lb c : Nat} {v vb hv : Value} {S : List (Int × Int × Bool)} {B : List Nat} {E : Nat} {H : List (Nat × Int)} {G : Int}
set_option maxRecDepth 100000 in
set_option maxHeartbeats 8000000 in
theorem do5c (h : GAt N w pg p l r lb c v vb hv S B E H) (hI : AInv S B E) (hG : Gens S E G) (hGG : G ≤ 4096) (hH : H.length ≤ 4096) (hi hg at_ x : Int) (wat : -9223372036854775808 ≤ at_ ∧ at_ < 9223372036854775808) (c1 : 1 ≤ at_) (c2 : 0 < H.length) :
    Calls Try.prog 9 #[.pointer (some ⟨pg, 0, none⟩), .agg #[.int .i64 5, .int .i64 hi, .int .u64 hg, .int .i64 at_, .int .i64 x]] w fun e w' => e = .returned (.bool true) ∧ Done N w w' pg p l r lb c v vb hv S B E H := by
  obtain ⟨oh, ch, hhv, _⟩ := h.hh.form
  subst hhv
  have Lg := loc3 h.hg
  have up := ups Lg.2.2.2.2.2.2
  have n2 := hI.n2
  obtain ⟨b', c', A, hv', hb, hA, hcc, _⟩ := h.hh.pos eH_len c2
  injection hv' with hv1 _ hv3
  subst hv1; subst hv3
  have b2 : (0 : Int) < (H.length : Int) := by omega
  have w1 : IntKind.i64.wrap ((H.length : Int) - 1) = (H.length : Int) - 1 := wi_in (by omega)
  have w2 : IntKind.i64.wrap (at_ - 1) = at_ - 1 := wi_in (by omega)
  have hH0 : ¬ H = [] := by rintro rfl; simp at c2
  obtain ⟨k, hk, w3⟩ := back_idx at_ c1 c2 hH
  obtain ⟨⟨i, g⟩, hik⟩ : ∃ s, H[k]? = some s := ⟨_, List.getElem?_eq_getElem hk⟩
  have e0 : w.cell? ⟨b', k * 2, none⟩ = some (.int .i64 i) := by rw [cell_of hb]; exact hA k 0 _ hik (by omega)
  have e1 : w.cell? ⟨b', k * 2 + 1, none⟩ = some (.int .u64 g) := by rw [cell_of hb]; exact hA k 1 _ hik (by omega)
  have ub := ups (blk_lt hb)
  have b4 : (0 : Int) ≤ (k : Int) := Int.natCast_nonneg _
  have b5 : (k : Int) < (H.length : Int) := by omega
  replace hb := hid hb
  replace hik := hid hik
  replace h := hid h
  go_enter Try.func9, Try.ntmps9
  go_wp2_with fail
  refine wp_region_G (fun _ => True) [(0, .at_), (1, .at_), (2, .at_), (3, .at_), (4, .at_), (5, .at_), (6, .at_), (7, .at_), (8, .at_), (9, .at_), (10, .at_), (11, .at_), (12, .at_), (13, .at_), (14, .at_), (15, .at_), (16, .at_), (17, .at_), (18, .at_), (19, .at_), (20, .at_), (21, .at_), (22, .eff)] ?L4 (by kernel_rfl) (by kernel_rfl) ?hL4 (trivial) ?hG4
  case hL4 => simp only [pickOps, List.map_cons, List.map_nil, List.getD_cons_zero, List.getD_cons_succ]; rfl
  repeat (first | (refine wpG_at (v := ?_) (by rfl) ?_ ?_; rotate_left; (focus (first | (go_simp; with_reducible rfl) | (go_simp; done))); simp only [Act.put, List.setIfInBounds_toArray, List.set_cons_zero, List.set_cons_succ]) | (refine wpG_at_skip (by rfl) ?_; simp only [Act.put, List.setIfInBounds_toArray, List.set_cons_zero, List.set_cons_succ]) | (refine wpG_held_skip (by rfl) ?_; simp only [Act.put, List.setIfInBounds_toArray, List.set_cons_zero, List.set_cons_succ]) | (refine wpG_held (v := ?_) (by rfl) ?_ ?_; rotate_left; (focus (intro w' hSw; (try dsimp only at hSw); go_split_ands; first | (go_simp; with_reducible rfl) | (go_simp; done))); simp only [Act.put, List.setIfInBounds_toArray, List.set_cons_zero, List.set_cons_succ]))
  refine wpG_eff (by rfl) (fun K hK => ?_)
  go_simp
  refine hK _ _ trivial ?_
  clear hK K
  repeat (first | (refine wpG_at (v := ?_) (by rfl) ?_ ?_; rotate_left; (focus (first | (go_simp; with_reducible rfl) | (go_simp; done))); simp only [Act.put, List.setIfInBounds_toArray, List.set_cons_zero, List.set_cons_succ]) | (refine wpG_at_skip (by rfl) ?_; simp only [Act.put, List.setIfInBounds_toArray, List.set_cons_zero, List.set_cons_succ]) | (refine wpG_held_skip (by rfl) ?_; simp only [Act.put, List.setIfInBounds_toArray, List.set_cons_zero, List.set_cons_succ]) | (refine wpG_held (v := ?_) (by rfl) ?_ ?_; rotate_left; (focus (intro w' hSw; (try dsimp only at hSw); go_split_ands; first | (go_simp; with_reducible rfl) | (go_simp; done))); simp only [Act.put, List.setIfInBounds_toArray, List.set_cons_zero, List.set_cons_succ]))
  refine wpG_nil (NoPanic.normal ?_)
  clear e0 e1 ub b4 b5 w1 w2 w3
  go_wp2_with fail
  have X1 : (((w.alloc (.cells #[.int .i64 5, .int .i64 hi, .int .u64 hg, .int .i64 at_, .int .i64 x] 38)).alloc (.cells #[.int .i64 i, .int .u64 g] 36)).drew).heap[w.heap.size + 1]? = some (.cells #[.int .i64 i, .int .u64 g] 36 (0, 0)) := blk_drew (blk_new' _ _ (by simp))
  have X2 : (((w.alloc (.cells #[.int .i64 5, .int .i64 hi, .int .u64 hg, .int .i64 at_, .int .i64 x] 38)).alloc (.cells #[.int .i64 i, .int .u64 g] 36)).drew).heap[w.heap.size]? = some (.cells #[.int .i64 5, .int .i64 hi, .int .u64 hg, .int .i64 at_, .int .i64 x] 38 (0, 0)) := blk_drew (blk_alloc (blk_new _ _))
  have K1 : Kp NoB w (((w.alloc (.cells #[.int .i64 5, .int .i64 hi, .int .u64 hg, .int .i64 at_, .int .i64 x] 38)).alloc (.cells #[.int .i64 i, .int .u64 g] 36)).drew) := (((Kp.refl _ w).alloc _).alloc _).drew
  have h1 := h.out.kn K1
  have HIs := hid (is_any (h1.drew.hw) n2 i g)
  replace h1 := hid h1
  replace X1 := hid X1
  replace X2 := hid X2
  refine wp_region_G (fun _ => True) [(0, .at_), (1, .at_), (2, .at_), (3, .at_), (4, .at_), (5, .eff), (6, .at_)] ?L5 (by kernel_rfl) (by kernel_rfl) ?hL5 (trivial) ?hG5
  case hL5 => simp only [pickOps, List.map_cons, List.map_nil, List.getD_cons_zero, List.getD_cons_succ]; rfl
  repeat (first | (refine wpG_at (v := ?_) (by rfl) ?_ ?_; rotate_left; (focus (first | (go_simp; with_reducible rfl) | (go_simp; done))); simp only [Act.put, List.setIfInBounds_toArray, List.set_cons_zero, List.set_cons_succ]) | (refine wpG_at_skip (by rfl) ?_; simp only [Act.put, List.setIfInBounds_toArray, List.set_cons_zero, List.set_cons_succ]) | (refine wpG_held_skip (by rfl) ?_; simp only [Act.put, List.setIfInBounds_toArray, List.set_cons_zero, List.set_cons_succ]) | (refine wpG_held (v := ?_) (by rfl) ?_ ?_; rotate_left; (focus (intro w' hSw; (try dsimp only at hSw); go_split_ands; first | (go_simp; with_reducible rfl) | (go_simp; done))); simp only [Act.put, List.setIfInBounds_toArray, List.set_cons_zero, List.set_cons_succ]))
  refine wpG_eff (by rfl) (fun K hK => ?_)
  go_simp
  refine HIs.out.mono ?_
  rintro e wc ⟨bb, rfl, hbb, k2⟩
  refine hK _ _ trivial ?_
  clear hK K
  repeat (first | (refine wpG_at (v := ?_) (by rfl) ?_ ?_; rotate_left; (focus (first | (go_simp; with_reducible rfl) | (go_simp; done))); simp only [Act.put, List.setIfInBounds_toArray, List.set_cons_zero, List.set_cons_succ]) | (refine wpG_at_skip (by rfl) ?_; simp only [Act.put, List.setIfInBounds_toArray, List.set_cons_zero, List.set_cons_succ]) | (refine wpG_held_skip (by rfl) ?_; simp only [Act.put, List.setIfInBounds_toArray, List.set_cons_zero, List.set_cons_succ]) | (refine wpG_held (v := ?_) (by rfl) ?_ ?_; rotate_left; (focus (intro w' hSw; (try dsimp only at hSw); go_split_ands; first | (go_simp; with_reducible rfl) | (go_simp; done))); simp only [Act.put, List.setIfInBounds_toArray, List.set_cons_zero, List.set_cons_succ]))
  refine wpG_nil (NoPanic.normal ?_)
  have h2 := h1.out.drew.kn k2
  have XB := k2.get (blk_drew X1.out) (fun h => h)
  have XA := k2.get (blk_drew X2.out) (fun h => h)
  have K2 := K1.drew.trans k2
  clear h1 K1 k2 HIs Lg up X1 X2
  have Lg := loc3 h2.hg
  have LX := loc2 XB
  have LA := loc5 XA
  replace h2 := hid h2
  replace XB := hid XB
  replace XA := hid XA
  by_cases hx : 0 ≤ x ∧ x < S.length
  · obtain ⟨k5, rfl⟩ : ∃ k : Nat, x = k := ⟨x.toNat, by omega⟩
    obtain ⟨⟨y5, g5, b5⟩, hk5⟩ : ∃ s, S[k5]? = some s := ⟨_, List.getElem?_eq_getElem (by omega)⟩
    have HG := hid (slot_in h2.out.ha.drew hI.ok hk5)
    have HG2 := hid (slot_in (h2.out.ha.drew.alloc (.cells #[.int .i64 0, .int .u64 0] 36)) hI.ok hk5)
    have q6 : (k5 : Int) < (S.length : Int) := hx.2
    have q7 : (0 : Int) ≤ (k5 : Int) := Int.natCast_nonneg _
    have q8 : ¬ (k5 : Int) < 0 := by omega
    have q9 : ¬ S.length ≤ k5 := by omega
    clear hx
    replace hI := hid hI
    replace hbb := hid hbb
    replace hk5 := hid hk5
    go_wp2_with fail
    refine wp_region_two 6 11 (fun W => W.cell? ⟨pg, 0, none⟩ = some (.pointer (some ⟨p, 0, none⟩)) ∧ W.cell? ⟨w.heap.size, 4, none⟩ = some (.int .i64 k5)) [(0, .at_), (1, .at_), (2, .at_), (3, .at_), (4, .at_), (5, .at_), (6, .eff), (7, .held), (8, .held), (9, .held), (10, .held), (11, .eff), (12, .eff), (13, .at_), (14, .at_)] [(0, .held), (1, .held), (2, .held), (3, .held), (4, .held), (5, .held), (11, .eff), (6, .eff), (7, .at_), (8, .at_), (9, .held), (10, .held), (12, .eff), (13, .at_), (14, .at_)] ?La1 ?Lb1 (by kernel_rfl) (by kernel_rfl) ?hLa1 ?hLb1 (⟨Lg.1, LA.2.2.2.2.1⟩) ?hGa1 ?hGb1
    case hLa1 => simp only [pickOps, List.map_cons, List.map_nil, List.getD_cons_zero, List.getD_cons_succ]; rfl
    case hLb1 => simp only [pickOps, List.map_cons, List.map_nil, List.getD_cons_zero, List.getD_cons_succ]; rfl
    ·
      repeat (first | (refine wpG_at (v := ?_) (by rfl) ?_ ?_; rotate_left; (focus (first | (go_simp; with_reducible rfl) | (go_simp; done))); simp only [Act.put, List.setIfInBounds_toArray, List.set_cons_zero, List.set_cons_succ]) | (refine wpG_at_skip (by rfl) ?_; simp only [Act.put, List.setIfInBounds_toArray, List.set_cons_zero, List.set_cons_succ]) | (refine wpG_held_skip (by rfl) ?_; simp only [Act.put, List.setIfInBounds_toArray, List.set_cons_zero, List.set_cons_succ]) | (refine wpG_held (v := ?_) (by rfl) ?_ ?_; rotate_left; (focus (intro w' hSw; (try dsimp only at hSw); go_split_ands; first | (go_simp; with_reducible rfl) | (go_simp; done))); simp only [Act.put, List.setIfInBounds_toArray, List.set_cons_zero, List.set_cons_succ]))
      refine wpG_eff (by rfl) (fun K hK => ?_)
      go_simp
      refine HG.out.mono ?_
      rintro e w3 ⟨rfl, k3⟩
      have h3 := h2.out.drew.kn k3
      have XA3 := k3.get (blk_drew XA.out) (fun h => h)
      have Lg3 := loc3 h3.hg
      have LA3 := loc5 XA3
      have up1 := ups Lg3.2.2.2.2.2.2
      have up5 := ups LA3.2.2.2.2.2
      refine hK _ _ ⟨Lg3.1, LA3.2.2.2.2.1⟩ ?_
      clear hK K
      clear Lg LX LA
      repeat (first | (refine wpG_at (v := ?_) (by rfl) ?_ ?_; rotate_left; (focus (first | (go_simp; with_reducible rfl) | (go_simp; done))); simp only [Act.put, List.setIfInBounds_toArray, List.set_cons_zero, List.set_cons_succ]) | (refine wpG_at_skip (by rfl) ?_; simp only [Act.put, List.setIfInBounds_toArray, List.set_cons_zero, List.set_cons_succ]) | (refine wpG_held_skip (by rfl) ?_; simp only [Act.put, List.setIfInBounds_toArray, List.set_cons_zero, List.set_cons_succ]) | (refine wpG_held (v := ?_) (by rfl) ?_ ?_; rotate_left; (focus (intro w' hSw; (try dsimp only at hSw); go_split_ands; first | (go_simp; with_reducible rfl) | (go_simp; done))); simp only [Act.put, List.setIfInBounds_toArray, List.set_cons_zero, List.set_cons_succ]))
      refine wpG_eff (by rfl) (fun K hK => ?_)
      go_simp
      refine hK _ _ (by refine ⟨?_, ?_⟩ <;> go_simp) ?_
      clear hK K
      repeat (first | (refine wpG_at (v := ?_) (by rfl) ?_ ?_; rotate_left; (focus (first | (go_simp; with_reducible rfl) | (go_simp; done))); simp only [Act.put, List.setIfInBounds_toArray, List.set_cons_zero, List.set_cons_succ]) | (refine wpG_at_skip (by rfl) ?_; simp only [Act.put, List.setIfInBounds_toArray, List.set_cons_zero, List.set_cons_succ]) | (refine wpG_held_skip (by rfl) ?_; simp only [Act.put, List.setIfInBounds_toArray, List.set_cons_zero, List.set_cons_succ]) | (refine wpG_held (v := ?_) (by rfl) ?_ ?_; rotate_left; (focus (intro w' hSw; (try dsimp only at hSw); go_split_ands; first | (go_simp; with_reducible rfl) | (go_simp; done))); simp only [Act.put, List.setIfInBounds_toArray, List.set_cons_zero, List.set_cons_succ]))
      refine wpG_eff (by rfl) (fun K hK => ?_)
      go_simp
      refine hK _ _ (by refine ⟨?_, ?_⟩ <;> go_simp) ?_
      clear hK K
      repeat (first | (refine wpG_at (v := ?_) (by rfl) ?_ ?_; rotate_left; (focus (first | (go_simp; with_reducible rfl) | (go_simp; done))); simp only [Act.put, List.setIfInBounds_toArray, List.set_cons_zero, List.set_cons_succ]) | (refine wpG_at_skip (by rfl) ?_; simp only [Act.put, List.setIfInBounds_toArray, List.set_cons_zero, List.set_cons_succ]) | (refine wpG_held_skip (by rfl) ?_; simp only [Act.put, List.setIfInBounds_toArray, List.set_cons_zero, List.set_cons_succ]) | (refine wpG_held (v := ?_) (by rfl) ?_ ?_; rotate_left; (focus (intro w' hSw; (try dsimp only at hSw); go_split_ands; first | (go_simp; with_reducible rfl) | (go_simp; done))); simp only [Act.put, List.setIfInBounds_toArray, List.set_cons_zero, List.set_cons_succ]))
      refine wpG_nil (NoPanic.normal ?_)
      have GQ := h3.alloc (.cells #[.int .i64 k5, .int .u64 g5] 36)
      have XQ := blk_new w3 (.cells #[.int .i64 k5, .int .u64 g5] 36)
      have XAQ := blk_alloc (o' := .cells #[.int .i64 k5, .int .u64 g5] 36) XA3
      have KQ := (K2.drew.trans k3).alloc (.cells #[.int .i64 k5, .int .u64 g5] 36)
      clear Lg3 LA3 up1 up5 h3 XA3 k3
      generalize w3.alloc (.cells #[.int .i64 k5, .int .u64 g5] 36) = wq at *
      generalize w3.heap.size = q at *
      have Lg3 := loc3 GQ.hg
      have Lw3 := GQ.hw.cs
      have Le3 := GQ.hw.es hk5.out
      have LX3 := loc2 XQ
      have LA3 := loc5 XAQ
      have up1 := ups Lg3.2.2.2.2.2.2
      have up2 := ups Lw3.2.2.2.2
      have up3 := ups Le3.2.2.2.2.2.2
      have up4 := ups LX3.2.2.2.2
      have up5 := ups LA3.2.2.2.2.2
      replace GQ := hid GQ
      replace XQ := hid XQ
      replace XAQ := hid XAQ
      go_wp2_with fail
      refine wp_region_G (fun _ => True) [(0, .at_), (1, .at_), (2, .at_), (3, .at_), (4, .at_), (5, .at_), (6, .at_), (7, .at_), (8, .at_), (9, .at_), (10, .at_), (11, .at_), (12, .at_), (13, .at_), (14, .at_), (15, .at_)] ?L6 (by kernel_rfl) (by kernel_rfl) ?hL6 (trivial) ?hG6
      case hL6 => simp only [pickOps, List.map_cons, List.map_nil, List.getD_cons_zero, List.getD_cons_succ]; rfl
      repeat (first | (refine wpG_at (v := ?_) (by rfl) ?_ ?_; rotate_left; (focus (first | (go_simp; with_reducible rfl) | (go_simp; done))); simp only [Act.put, List.setIfInBounds_toArray, List.set_cons_zero, List.set_cons_succ]) | (refine wpG_at_skip (by rfl) ?_; simp only [Act.put, List.setIfInBounds_toArray, List.set_cons_zero, List.set_cons_succ]) | (refine wpG_held_skip (by rfl) ?_; simp only [Act.put, List.setIfInBounds_toArray, List.set_cons_zero, List.set_cons_succ]) | (refine wpG_held (v := ?_) (by rfl) ?_ ?_; rotate_left; (focus (intro w' hSw; (try dsimp only at hSw); go_split_ands; first | (go_simp; with_reducible rfl) | (go_simp; done))); simp only [Act.put, List.setIfInBounds_toArray, List.set_cons_zero, List.set_cons_succ]))
      refine wpG_nil (NoPanic.normal ?_)
      go_wp2_with fail
      refine wp_region_G (fun W => W.cell? ⟨pg, 1, none⟩ = some (.pointer (some ⟨r, 0, none⟩)) ∧ W.cell? ⟨r, 0, none⟩ = some (.slice (some ⟨lb, 0, none⟩) S.length c) ∧ W.cell? ⟨w.heap.size, 4, none⟩ = some (.int .i64 k5) ∧ W.cell? ⟨lb, k5 * 3, none⟩ = some (.int .i64 y5) ∧ W.cell? ⟨lb, k5 * 3 + 1, none⟩ = some (.int .u64 g5) ∧ W.cell? ⟨lb, k5 * 3 + 2, none⟩ = some (.bool b5)) [(0, .held), (1, .held), (2, .held), (3, .held), (4, .held), (5, .held), (6, .held), (7, .held), (8, .held), (9, .held), (10, .held), (11, .eff), (12, .eff)] ?L7 (by kernel_rfl) (by kernel_rfl) ?hL7 (⟨Lg3.2.1, Lw3.1, LA3.2.2.2.2.1, Le3.1, Le3.2.1, Le3.2.2.1⟩) ?hG7
      case hL7 => simp only [pickOps, List.map_cons, List.map_nil, List.getD_cons_zero, List.getD_cons_succ]; rfl
      repeat (first | (refine wpG_at (v := ?_) (by rfl) ?_ ?_; rotate_left; (focus (first | (go_simp; with_reducible rfl) | (go_simp; done))); simp only [Act.put, List.setIfInBounds_toArray, List.set_cons_zero, List.set_cons_succ]) | (refine wpG_at_skip (by rfl) ?_; simp only [Act.put, List.setIfInBounds_toArray, List.set_cons_zero, List.set_cons_succ]) | (refine wpG_held_skip (by rfl) ?_; simp only [Act.put, List.setIfInBounds_toArray, List.set_cons_zero, List.set_cons_succ]) | (refine wpG_held (v := ?_) (by rfl) ?_ ?_; rotate_left; (focus (intro w' hSw; (try dsimp only at hSw); go_split_ands; first | (go_simp; with_reducible rfl) | (go_simp; done))); simp only [Act.put, List.setIfInBounds_toArray, List.set_cons_zero, List.set_cons_succ]))
      refine wpG_eff (by rfl) (fun K hK => ?_)
      go_simp
      refine hK _ _ (by refine ⟨?_, ?_, ?_, ?_, ?_, ?_⟩ <;> go_simp) ?_
      clear hK K
      repeat (first | (refine wpG_at (v := ?_) (by rfl) ?_ ?_; rotate_left; (focus (first | (go_simp; with_reducible rfl) | (go_simp; done))); simp only [Act.put, List.setIfInBounds_toArray, List.set_cons_zero, List.set_cons_succ]) | (refine wpG_at_skip (by rfl) ?_; simp only [Act.put, List.setIfInBounds_toArray, List.set_cons_zero, List.set_cons_succ]) | (refine wpG_held_skip (by rfl) ?_; simp only [Act.put, List.setIfInBounds_toArray, List.set_cons_zero, List.set_cons_succ]) | (refine wpG_held (v := ?_) (by rfl) ?_ ?_; rotate_left; (focus (intro w' hSw; (try dsimp only at hSw); go_split_ands; first | (go_simp; with_reducible rfl) | (go_simp; done))); simp only [Act.put, List.setIfInBounds_toArray, List.set_cons_zero, List.set_cons_succ]))
      refine wpG_eff (by rfl) (fun K hK => ?_)
      go_simp
      refine hK _ _ (by refine ⟨?_, ?_, ?_, ?_, ?_, ?_⟩ <;> go_simp) ?_
      clear hK K
      repeat (first | (refine wpG_at (v := ?_) (by rfl) ?_ ?_; rotate_left; (focus (first | (go_simp; with_reducible rfl) | (go_simp; done))); simp only [Act.put, List.setIfInBounds_toArray, List.set_cons_zero, List.set_cons_succ]) | (refine wpG_at_skip (by rfl) ?_; simp only [Act.put, List.setIfInBounds_toArray, List.set_cons_zero, List.set_cons_succ]) | (refine wpG_held_skip (by rfl) ?_; simp only [Act.put, List.setIfInBounds_toArray, List.set_cons_zero, List.set_cons_succ]) | (refine wpG_held (v := ?_) (by rfl) ?_ ?_; rotate_left; (focus (intro w' hSw; (try dsimp only at hSw); go_split_ands; first | (go_simp; with_reducible rfl) | (go_simp; done))); simp only [Act.put, List.setIfInBounds_toArray, List.set_cons_zero, List.set_cons_succ]))
      refine wpG_nil (NoPanic.normal ?_)
      go_wp2_with fail
      go_ret
      refine ⟨by simp, _, _, _, _, _, _, _, ?_, .same, fun b hb => .inl hb, ?_⟩
      · repeat (first | exact GQ.out | refine GAt.drew ?_ | refine GAt.alloc ?_ _)
      · repeat (first | exact KQ.mono (fun _ h => h.elim) | refine Kp.drew ?_ | refine Kp.alloc ?_ _)
    ·
      repeat (first | (refine wpG_at (v := ?_) (by rfl) ?_ ?_; rotate_left; (focus (first | (go_simp; with_reducible rfl) | (go_simp; done))); simp only [Act.put, List.setIfInBounds_toArray, List.set_cons_zero, List.set_cons_succ]) | (refine wpG_at_skip (by rfl) ?_; simp only [Act.put, List.setIfInBounds_toArray, List.set_cons_zero, List.set_cons_succ]) | (refine wpG_held_skip (by rfl) ?_; simp only [Act.put, List.setIfInBounds_toArray, List.set_cons_zero, List.set_cons_succ]) | (refine wpG_held (v := ?_) (by rfl) ?_ ?_; rotate_left; (focus (intro w' hSw; (try dsimp only at hSw); go_split_ands; first | (go_simp; with_reducible rfl) | (go_simp; done))); simp only [Act.put, List.setIfInBounds_toArray, List.set_cons_zero, List.set_cons_succ]))
      refine wpG_eff (by rfl) (fun K hK => ?_)
      go_simp
      have up1 := ups Lg.2.2.2.2.2.2
      have up5 := ups LA.2.2.2.2.2
      refine hK _ _ (by refine ⟨?_, ?_⟩ <;> go_simp) ?_
      clear hK K
      repeat (first | (refine wpG_at (v := ?_) (by rfl) ?_ ?_; rotate_left; (focus (first | (go_simp; with_reducible rfl) | (go_simp; done))); simp only [Act.put, List.setIfInBounds_toArray, List.set_cons_zero, List.set_cons_succ]) | (refine wpG_at_skip (by rfl) ?_; simp only [Act.put, List.setIfInBounds_toArray, List.set_cons_zero, List.set_cons_succ]) | (refine wpG_held_skip (by rfl) ?_; simp only [Act.put, List.setIfInBounds_toArray, List.set_cons_zero, List.set_cons_succ]) | (refine wpG_held (v := ?_) (by rfl) ?_ ?_; rotate_left; (focus (intro w' hSw; (try dsimp only at hSw); go_split_ands; first | (go_simp; with_reducible rfl) | (go_simp; done))); simp only [Act.put, List.setIfInBounds_toArray, List.set_cons_zero, List.set_cons_succ]))
      refine wpG_eff (by rfl) (fun K hK => ?_)
      go_simp
      refine (HG2.out).mono ?_
      rintro e w3 ⟨rfl, k3⟩
      have h3 := (h2.out.drew.alloc (.cells #[.int .i64 0, .int .u64 0] 36)).kn k3
      have XA3 := k3.get (blk_alloc (o' := .cells #[.int .i64 0, .int .u64 0] 36) (blk_drew XA.out)) (fun h => h)
      have XQ3 : w3.heap[wc.heap.size]? = some (.cells #[.int .i64 0, .int .u64 0] 36 (0, 0)) := k3.get (blk_new wc.drew (.cells #[.int .i64 0, .int .u64 0] 36)) (fun h => h)
      have Lg3 := loc3 h3.hg
      have LA3 := loc5 XA3
      have LQ3 := loc2 XQ3
      refine hK _ _ ⟨Lg3.1, LA3.2.2.2.2.1⟩ ?_
      clear hK K
      clear Lg LX LA
      have sQ := fun b (hb : FP pg p l r lb v vb (.slice (some ⟨b', 0, none⟩) H.length ch) b) => h2.out.lt b hb
      have hqa : w.heap.size ≠ wc.heap.size := by have := up5.1; omega
      have XQ : ((w3.setCell ⟨wc.heap.size, 0, none⟩ (.int .i64 k5)).setCell ⟨wc.heap.size, 1, none⟩ (.int .u64 g5)).heap[wc.heap.size]? = some (.cells #[.int .i64 k5, .int .u64 g5] 36 (0, 0)) := blk_setCell (blk_setCell XQ3 0 (.int .i64 k5)) 1 (.int .u64 g5)
      have kQ : Kp (fun b => b = wc.heap.size) w3 ((w3.setCell ⟨wc.heap.size, 0, none⟩ (.int .i64 k5)).setCell ⟨wc.heap.size, 1, none⟩ (.int .u64 g5)) := ((Kp.refl (fun b => b = wc.heap.size) w3).setCell _ (fun _ => rfl)).setCell _ (fun _ => rfl)
      have GQ := h3.kp kQ (fun b hb e => by have := sQ b hb; omega)
      have XAQ := kQ.get XA3 hqa
      have KQ := kp_new ((K2.drew.alloc (.cells #[.int .i64 0, .int .u64 0] 36)).trans k3) kQ (by rintro b rfl; exact K2.size)
      have SQ := hid (show _ ∧ _ from ⟨(loc3 GQ.hg).1, (loc5 XAQ).2.2.2.2.1⟩)
      replace GQ := hid GQ
      replace XQ := hid XQ
      replace XAQ := hid XAQ
      replace KQ := hid KQ
      replace kQ := hid kQ
      repeat (first | (refine wpG_at (v := ?_) (by rfl) ?_ ?_; rotate_left; (focus (first | (go_simp; with_reducible rfl) | (go_simp; done))); simp only [Act.put, List.setIfInBounds_toArray, List.set_cons_zero, List.set_cons_succ]) | (refine wpG_at_skip (by rfl) ?_; simp only [Act.put, List.setIfInBounds_toArray, List.set_cons_zero, List.set_cons_succ]) | (refine wpG_held_skip (by rfl) ?_; simp only [Act.put, List.setIfInBounds_toArray, List.set_cons_zero, List.set_cons_succ]) | (refine wpG_held (v := ?_) (by rfl) ?_ ?_; rotate_left; (focus (intro w' hSw; (try dsimp only at hSw); go_split_ands; first | (go_simp; with_reducible rfl) | (go_simp; done))); simp only [Act.put, List.setIfInBounds_toArray, List.set_cons_zero, List.set_cons_succ]))
      refine wpG_eff (by rfl) (fun K hK => ?_)
      go_simp
      refine hK _ _ SQ.out ?_
      clear hK K
      repeat (first | (refine wpG_at (v := ?_) (by rfl) ?_ ?_; rotate_left; (focus (first | (go_simp; with_reducible rfl) | (go_simp; done))); simp only [Act.put, List.setIfInBounds_toArray, List.set_cons_zero, List.set_cons_succ]) | (refine wpG_at_skip (by rfl) ?_; simp only [Act.put, List.setIfInBounds_toArray, List.set_cons_zero, List.set_cons_succ]) | (refine wpG_held_skip (by rfl) ?_; simp only [Act.put, List.setIfInBounds_toArray, List.set_cons_zero, List.set_cons_succ]) | (refine wpG_held (v := ?_) (by rfl) ?_ ?_; rotate_left; (focus (intro w' hSw; (try dsimp only at hSw); go_split_ands; first | (go_simp; with_reducible rfl) | (go_simp; done))); simp only [Act.put, List.setIfInBounds_toArray, List.set_cons_zero, List.set_cons_succ]))
      refine wpG_nil (NoPanic.normal ?_)
      replace GQ := GQ.out
      replace XQ := XQ.out
      replace XAQ := XAQ.out
      replace KQ := KQ.out
      clear SQ Lg3 LA3 LQ3 up1 up5 h3 XA3 XQ3 k3 kQ sQ hqa
      generalize (w3.setCell ⟨wc.heap.size, 0, none⟩ (.int .i64 k5)).setCell ⟨wc.heap.size, 1, none⟩ (.int .u64 g5) = wq at *
      generalize wc.heap.size = q at *
      have Lg3 := loc3 GQ.hg
      have Lw3 := GQ.hw.cs
      have Le3 := GQ.hw.es hk5.out
      have LX3 := loc2 XQ
      have LA3 := loc5 XAQ
      have up1 := ups Lg3.2.2.2.2.2.2
      have up2 := ups Lw3.2.2.2.2
      have up3 := ups Le3.2.2.2.2.2.2
      have up4 := ups LX3.2.2.2.2
      have up5 := ups LA3.2.2.2.2.2
      replace GQ := hid GQ
      replace XQ := hid XQ
      replace XAQ := hid XAQ
      go_wp2_with fail
      refine wp_region_G (fun _ => True) [(0, .at_), (1, .at_), (2, .at_), (3, .at_), (4, .at_), (5, .at_), (6, .at_), (7, .at_), (8, .at_), (9, .at_), (10, .at_), (11, .at_), (12, .at_), (13, .at_), (14, .at_), (15, .at_)] ?L8 (by kernel_rfl) (by kernel_rfl) ?hL8 (trivial) ?hG8
      case hL8 => simp only [pickOps, List.map_cons, List.map_nil, List.getD_cons_zero, List.getD_cons_succ]; rfl
      repeat (first | (refine wpG_at (v := ?_) (by rfl) ?_ ?_; rotate_left; (focus (first | (go_simp; with_reducible rfl) | (go_simp; done))); simp only [Act.put, List.setIfInBounds_toArray, List.set_cons_zero, List.set_cons_succ]) | (refine wpG_at_skip (by rfl) ?_; simp only [Act.put, List.setIfInBounds_toArray, List.set_cons_zero, List.set_cons_succ]) | (refine wpG_held_skip (by rfl) ?_; simp only [Act.put, List.setIfInBounds_toArray, List.set_cons_zero, List.set_cons_succ]) | (refine wpG_held (v := ?_) (by rfl) ?_ ?_; rotate_left; (focus (intro w' hSw; (try dsimp only at hSw); go_split_ands; first | (go_simp; with_reducible rfl) | (go_simp; done))); simp only [Act.put, List.setIfInBounds_toArray, List.set_cons_zero, List.set_cons_succ]))
      refine wpG_nil (NoPanic.normal ?_)
      go_wp2_with fail
      refine wp_region_G (fun W => W.cell? ⟨pg, 1, none⟩ = some (.pointer (some ⟨r, 0, none⟩)) ∧ W.cell? ⟨r, 0, none⟩ = some (.slice (some ⟨lb, 0, none⟩) S.length c) ∧ W.cell? ⟨w.heap.size, 4, none⟩ = some (.int .i64 k5) ∧ W.cell? ⟨lb, k5 * 3, none⟩ = some (.int .i64 y5) ∧ W.cell? ⟨lb, k5 * 3 + 1, none⟩ = some (.int .u64 g5) ∧ W.cell? ⟨lb, k5 * 3 + 2, none⟩ = some (.bool b5)) [(0, .held), (1, .held), (2, .held), (3, .held), (4, .held), (5, .held), (6, .held), (7, .held), (8, .held), (9, .held), (10, .held), (11, .eff), (12, .eff)] ?L9 (by kernel_rfl) (by kernel_rfl) ?hL9 (⟨Lg3.2.1, Lw3.1, LA3.2.2.2.2.1, Le3.1, Le3.2.1, Le3.2.2.1⟩) ?hG9
      case hL9 => simp only [pickOps, List.map_cons, List.map_nil, List.getD_cons_zero, List.getD_cons_succ]; rfl
      repeat (first | (refine wpG_at (v := ?_) (by rfl) ?_ ?_; rotate_left; (focus (first | (go_simp; with_reducible rfl) | (go_simp; done))); simp only [Act.put, List.setIfInBounds_toArray, List.set_cons_zero, List.set_cons_succ]) | (refine wpG_at_skip (by rfl) ?_; simp only [Act.put, List.setIfInBounds_toArray, List.set_cons_zero, List.set_cons_succ]) | (refine wpG_held_skip (by rfl) ?_; simp only [Act.put, List.setIfInBounds_toArray, List.set_cons_zero, List.set_cons_succ]) | (refine wpG_held (v := ?_) (by rfl) ?_ ?_; rotate_left; (focus (intro w' hSw; (try dsimp only at hSw); go_split_ands; first | (go_simp; with_reducible rfl) | (go_simp; done))); simp only [Act.put, List.setIfInBounds_toArray, List.set_cons_zero, List.set_cons_succ]))
      refine wpG_eff (by rfl) (fun K hK => ?_)
      go_simp
      refine hK _ _ (by refine ⟨?_, ?_, ?_, ?_, ?_, ?_⟩ <;> go_simp) ?_
      clear hK K
      repeat (first | (refine wpG_at (v := ?_) (by rfl) ?_ ?_; rotate_left; (focus (first | (go_simp; with_reducible rfl) | (go_simp; done))); simp only [Act.put, List.setIfInBounds_toArray, List.set_cons_zero, List.set_cons_succ]) | (refine wpG_at_skip (by rfl) ?_; simp only [Act.put, List.setIfInBounds_toArray, List.set_cons_zero, List.set_cons_succ]) | (refine wpG_held_skip (by rfl) ?_; simp only [Act.put, List.setIfInBounds_toArray, List.set_cons_zero, List.set_cons_succ]) | (refine wpG_held (v := ?_) (by rfl) ?_ ?_; rotate_left; (focus (intro w' hSw; (try dsimp only at hSw); go_split_ands; first | (go_simp; with_reducible rfl) | (go_simp; done))); simp only [Act.put, List.setIfInBounds_toArray, List.set_cons_zero, List.set_cons_succ]))
      refine wpG_eff (by rfl) (fun K hK => ?_)
      go_simp
      refine hK _ _ (by refine ⟨?_, ?_, ?_, ?_, ?_, ?_⟩ <;> go_simp) ?_
      clear hK K
      repeat (first | (refine wpG_at (v := ?_) (by rfl) ?_ ?_; rotate_left; (focus (first | (go_simp; with_reducible rfl) | (go_simp; done))); simp only [Act.put, List.setIfInBounds_toArray, List.set_cons_zero, List.set_cons_succ]) | (refine wpG_at_skip (by rfl) ?_; simp only [Act.put, List.setIfInBounds_toArray, List.set_cons_zero, List.set_cons_succ]) | (refine wpG_held_skip (by rfl) ?_; simp only [Act.put, List.setIfInBounds_toArray, List.set_cons_zero, List.set_cons_succ]) | (refine wpG_held (v := ?_) (by rfl) ?_ ?_; rotate_left; (focus (intro w' hSw; (try dsimp only at hSw); go_split_ands; first | (go_simp; with_reducible rfl) | (go_simp; done))); simp only [Act.put, List.setIfInBounds_toArray, List.set_cons_zero, List.set_cons_succ]))
      refine wpG_nil (NoPanic.normal ?_)
      go_wp2_with fail
      go_ret
      refine ⟨by simp, _, _, _, _, _, _, _, ?_, .same, fun b hb => .inl hb, ?_⟩
      · repeat (first | exact GQ.out | refine GAt.drew ?_ | refine GAt.alloc ?_ _)
      · repeat (first | exact KQ.mono (fun _ h => h.elim) | refine Kp.drew ?_ | refine Kp.alloc ?_ _)
  · have HG := hid (slot_out h2.out.ha.drew x hx)
    have HG2 := hid (slot_out (h2.out.ha.drew.alloc (.cells #[.int .i64 0, .int .u64 0] 36)) x hx)
    replace hI := hid hI
    replace hbb := hid hbb
    by_cases hx0 : x < 0
    · clear hx
      go_wp2_with fail
      refine wp_region_two 6 11 (fun W => W.cell? ⟨pg, 0, none⟩ = some (.pointer (some ⟨p, 0, none⟩)) ∧ W.cell? ⟨w.heap.size, 4, none⟩ = some (.int .i64 x)) [(0, .at_), (1, .at_), (2, .at_), (3, .at_), (4, .at_), (5, .at_), (6, .eff), (7, .held), (8, .held), (9, .held), (10, .held), (11, .eff), (12, .eff), (13, .at_), (14, .at_)] [(0, .held), (1, .held), (2, .held), (3, .held), (4, .held), (5, .held), (11, .eff), (6, .eff), (7, .at_), (8, .at_), (9, .held), (10, .held), (12, .eff), (13, .at_), (14, .at_)] ?La2 ?Lb2 (by kernel_rfl) (by kernel_rfl) ?hLa2 ?hLb2 (⟨Lg.1, LA.2.2.2.2.1⟩) ?hGa2 ?hGb2
      case hLa2 => simp only [pickOps, List.map_cons, List.map_nil, List.getD_cons_zero, List.getD_cons_succ]; rfl
      case hLb2 => simp only [pickOps, List.map_cons, List.map_nil, List.getD_cons_zero, List.getD_cons_succ]; rfl
      ·
        repeat (first | (refine wpG_at (v := ?_) (by rfl) ?_ ?_; rotate_left; (focus (first | (go_simp; with_reducible rfl) | (go_simp; done))); simp only [Act.put, List.setIfInBounds_toArray, List.set_cons_zero, List.set_cons_succ]) | (refine wpG_at_skip (by rfl) ?_; simp only [Act.put, List.setIfInBounds_toArray, List.set_cons_zero, List.set_cons_succ]) | (refine wpG_held_skip (by rfl) ?_; simp only [Act.put, List.setIfInBounds_toArray, List.set_cons_zero, List.set_cons_succ]) | (refine wpG_held (v := ?_) (by rfl) ?_ ?_; rotate_left; (focus (intro w' hSw; (try dsimp only at hSw); go_split_ands; first | (go_simp; with_reducible rfl) | (go_simp; done))); simp only [Act.put, List.setIfInBounds_toArray, List.set_cons_zero, List.set_cons_succ]))
        refine wpG_eff (by rfl) (fun K hK => ?_)
        go_simp
        refine HG.out.mono ?_
        rintro e w3 ⟨rfl, k3⟩
        have h3 := h2.out.drew.kn k3
        have XA3 := k3.get (blk_drew XA.out) (fun h => h)
        have Lg3 := loc3 h3.hg
        have LA3 := loc5 XA3
        have up1 := ups Lg3.2.2.2.2.2.2
        have up5 := ups LA3.2.2.2.2.2
        refine hK _ _ ⟨Lg3.1, LA3.2.2.2.2.1⟩ ?_
        clear hK K
        clear Lg LX LA
        repeat (first | (refine wpG_at (v := ?_) (by rfl) ?_ ?_; rotate_left; (focus (first | (go_simp; with_reducible rfl) | (go_simp; done))); simp only [Act.put, List.setIfInBounds_toArray, List.set_cons_zero, List.set_cons_succ]) | (refine wpG_at_skip (by rfl) ?_; simp only [Act.put, List.setIfInBounds_toArray, List.set_cons_zero, List.set_cons_succ]) | (refine wpG_held_skip (by rfl) ?_; simp only [Act.put, List.setIfInBounds_toArray, List.set_cons_zero, List.set_cons_succ]) | (refine wpG_held (v := ?_) (by rfl) ?_ ?_; rotate_left; (focus (intro w' hSw; (try dsimp only at hSw); go_split_ands; first | (go_simp; with_reducible rfl) | (go_simp; done))); simp only [Act.put, List.setIfInBounds_toArray, List.set_cons_zero, List.set_cons_succ]))
        refine wpG_eff (by rfl) (fun K hK => ?_)
        go_simp
        refine hK _ _ (by refine ⟨?_, ?_⟩ <;> go_simp) ?_
        clear hK K
        repeat (first | (refine wpG_at (v := ?_) (by rfl) ?_ ?_; rotate_left; (focus (first | (go_simp; with_reducible rfl) | (go_simp; done))); simp only [Act.put, List.setIfInBounds_toArray, List.set_cons_zero, List.set_cons_succ]) | (refine wpG_at_skip (by rfl) ?_; simp only [Act.put, List.setIfInBounds_toArray, List.set_cons_zero, List.set_cons_succ]) | (refine wpG_held_skip (by rfl) ?_; simp only [Act.put, List.setIfInBounds_toArray, List.set_cons_zero, List.set_cons_succ]) | (refine wpG_held (v := ?_) (by rfl) ?_ ?_; rotate_left; (focus (intro w' hSw; (try dsimp only at hSw); go_split_ands; first | (go_simp; with_reducible rfl) | (go_simp; done))); simp only [Act.put, List.setIfInBounds_toArray, List.set_cons_zero, List.set_cons_succ]))
        refine wpG_eff (by rfl) (fun K hK => ?_)
        go_simp
        refine hK _ _ (by refine ⟨?_, ?_⟩ <;> go_simp) ?_
        clear hK K
        repeat (first | (refine wpG_at (v := ?_) (by rfl) ?_ ?_; rotate_left; (focus (first | (go_simp; with_reducible rfl) | (go_simp; done))); simp only [Act.put, List.setIfInBounds_toArray, List.set_cons_zero, List.set_cons_succ]) | (refine wpG_at_skip (by rfl) ?_; simp only [Act.put, List.setIfInBounds_toArray, List.set_cons_zero, List.set_cons_succ]) | (refine wpG_held_skip (by rfl) ?_; simp only [Act.put, List.setIfInBounds_toArray, List.set_cons_zero, List.set_cons_succ]) | (refine wpG_held (v := ?_) (by rfl) ?_ ?_; rotate_left; (focus (intro w' hSw; (try dsimp only at hSw); go_split_ands; first | (go_simp; with_reducible rfl) | (go_simp; done))); simp only [Act.put, List.setIfInBounds_toArray, List.set_cons_zero, List.set_cons_succ]))
        refine wpG_nil (NoPanic.normal ?_)
        have GQ := h3.alloc (.cells #[.int .i64 0, .int .u64 0] 36)
        have XQ := blk_new w3 (.cells #[.int .i64 0, .int .u64 0] 36)
        have XAQ := blk_alloc (o' := .cells #[.int .i64 0, .int .u64 0] 36) XA3
        have KQ := (K2.drew.trans k3).alloc (.cells #[.int .i64 0, .int .u64 0] 36)
        clear Lg3 LA3 up1 up5 h3 XA3 k3
        generalize w3.alloc (.cells #[.int .i64 0, .int .u64 0] 36) = wq at *
        generalize w3.heap.size = q at *
        have Lg3 := loc3 GQ.hg
        have Lw3 := GQ.hw.cs
        have LX3 := loc2 XQ
        have LA3 := loc5 XAQ
        have up1 := ups Lg3.2.2.2.2.2.2
        have up2 := ups Lw3.2.2.2.2
        have up4 := ups LX3.2.2.2.2
        have up5 := ups LA3.2.2.2.2.2
        replace GQ := hid GQ
        replace XQ := hid XQ
        replace XAQ := hid XAQ
        go_wp2_with fail
        refine wp_region_G (fun _ => True) [(0, .at_), (1, .at_), (2, .at_), (3, .at_), (4, .at_), (5, .at_), (6, .at_), (7, .at_), (8, .at_), (9, .at_), (10, .at_), (11, .at_), (12, .at_), (13, .at_), (14, .at_), (15, .at_)] ?L10 (by kernel_rfl) (by kernel_rfl) ?hL10 (trivial) ?hG10
        case hL10 => simp only [pickOps, List.map_cons, List.map_nil, List.getD_cons_zero, List.getD_cons_succ]; rfl
        repeat (first | (refine wpG_at (v := ?_) (by rfl) ?_ ?_; rotate_left; (focus (first | (go_simp; with_reducible rfl) | (go_simp; done))); simp only [Act.put, List.setIfInBounds_toArray, List.set_cons_zero, List.set_cons_succ]) | (refine wpG_at_skip (by rfl) ?_; simp only [Act.put, List.setIfInBounds_toArray, List.set_cons_zero, List.set_cons_succ]) | (refine wpG_held_skip (by rfl) ?_; simp only [Act.put, List.setIfInBounds_toArray, List.set_cons_zero, List.set_cons_succ]) | (refine wpG_held (v := ?_) (by rfl) ?_ ?_; rotate_left; (focus (intro w' hSw; (try dsimp only at hSw); go_split_ands; first | (go_simp; with_reducible rfl) | (go_simp; done))); simp only [Act.put, List.setIfInBounds_toArray, List.set_cons_zero, List.set_cons_succ]))
        refine wpG_nil (NoPanic.normal ?_)
        go_wp2_with fail
        go_ret
        refine ⟨by simp, _, _, _, _, _, _, _, ?_, .same, fun b hb => .inl hb, ?_⟩
        · repeat (first | exact GQ.out | refine GAt.drew ?_ | refine GAt.alloc ?_ _)
        · repeat (first | exact KQ.mono (fun _ h => h.elim) | refine Kp.drew ?_ | refine Kp.alloc ?_ _)
      ·
        repeat (first | (refine wpG_at (v := ?_) (by rfl) ?_ ?_; rotate_left; (focus (first | (go_simp; with_reducible rfl) | (go_simp; done))); simp only [Act.put, List.setIfInBounds_toArray, List.set_cons_zero, List.set_cons_succ]) | (refine wpG_at_skip (by rfl) ?_; simp only [Act.put, List.setIfInBounds_toArray, List.set_cons_zero, List.set_cons_succ]) | (refine wpG_held_skip (by rfl) ?_; simp only [Act.put, List.setIfInBounds_toArray, List.set_cons_zero, List.set_cons_succ]) | (refine wpG_held (v := ?_) (by rfl) ?_ ?_; rotate_left; (focus (intro w' hSw; (try dsimp only at hSw); go_split_ands; first | (go_simp; with_reducible rfl) | (go_simp; done))); simp only [Act.put, List.setIfInBounds_toArray, List.set_cons_zero, List.set_cons_succ]))
        refine wpG_eff (by rfl) (fun K hK => ?_)
        go_simp
        have up1 := ups Lg.2.2.2.2.2.2
        have up5 := ups LA.2.2.2.2.2
        refine hK _ _ (by refine ⟨?_, ?_⟩ <;> go_simp) ?_
        clear hK K
        repeat (first | (refine wpG_at (v := ?_) (by rfl) ?_ ?_; rotate_left; (focus (first | (go_simp; with_reducible rfl) | (go_simp; done))); simp only [Act.put, List.setIfInBounds_toArray, List.set_cons_zero, List.set_cons_succ]) | (refine wpG_at_skip (by rfl) ?_; simp only [Act.put, List.setIfInBounds_toArray, List.set_cons_zero, List.set_cons_succ]) | (refine wpG_held_skip (by rfl) ?_; simp only [Act.put, List.setIfInBounds_toArray, List.set_cons_zero, List.set_cons_succ]) | (refine wpG_held (v := ?_) (by rfl) ?_ ?_; rotate_left; (focus (intro w' hSw; (try dsimp only at hSw); go_split_ands; first | (go_simp; with_reducible rfl) | (go_simp; done))); simp only [Act.put, List.setIfInBounds_toArray, List.set_cons_zero, List.set_cons_succ]))
        refine wpG_eff (by rfl) (fun K hK => ?_)
        go_simp
        refine (HG2.out).mono ?_
        rintro e w3 ⟨rfl, k3⟩
        have h3 := (h2.out.drew.alloc (.cells #[.int .i64 0, .int .u64 0] 36)).kn k3
        have XA3 := k3.get (blk_alloc (o' := .cells #[.int .i64 0, .int .u64 0] 36) (blk_drew XA.out)) (fun h => h)
        have XQ3 : w3.heap[wc.heap.size]? = some (.cells #[.int .i64 0, .int .u64 0] 36 (0, 0)) := k3.get (blk_new wc.drew (.cells #[.int .i64 0, .int .u64 0] 36)) (fun h => h)
        have Lg3 := loc3 h3.hg
        have LA3 := loc5 XA3
        have LQ3 := loc2 XQ3
        refine hK _ _ ⟨Lg3.1, LA3.2.2.2.2.1⟩ ?_
        clear hK K
        clear Lg LX LA
        have sQ := fun b (hb : FP pg p l r lb v vb (.slice (some ⟨b', 0, none⟩) H.length ch) b) => h2.out.lt b hb
        have hqa : w.heap.size ≠ wc.heap.size := by have := up5.1; omega
        have XQ : ((w3.setCell ⟨wc.heap.size, 0, none⟩ (.int .i64 0)).setCell ⟨wc.heap.size, 1, none⟩ (.int .u64 0)).heap[wc.heap.size]? = some (.cells #[.int .i64 0, .int .u64 0] 36 (0, 0)) := blk_setCell (blk_setCell XQ3 0 (.int .i64 0)) 1 (.int .u64 0)
        have kQ : Kp (fun b => b = wc.heap.size) w3 ((w3.setCell ⟨wc.heap.size, 0, none⟩ (.int .i64 0)).setCell ⟨wc.heap.size, 1, none⟩ (.int .u64 0)) := ((Kp.refl (fun b => b = wc.heap.size) w3).setCell _ (fun _ => rfl)).setCell _ (fun _ => rfl)
        have GQ := h3.kp kQ (fun b hb e => by have := sQ b hb; omega)
        have XAQ := kQ.get XA3 hqa
        have KQ := kp_new ((K2.drew.alloc (.cells #[.int .i64 0, .int .u64 0] 36)).trans k3) kQ (by rintro b rfl; exact K2.size)
        have SQ := hid (show _ ∧ _ from ⟨(loc3 GQ.hg).1, (loc5 XAQ).2.2.2.2.1⟩)
        replace GQ := hid GQ
        replace XQ := hid XQ
        replace XAQ := hid XAQ
        replace KQ := hid KQ
        replace kQ := hid kQ
        repeat (first | (refine wpG_at (v := ?_) (by rfl) ?_ ?_; rotate_left; (focus (first | (go_simp; with_reducible rfl) | (go_simp; done))); simp only [Act.put, List.setIfInBounds_toArray, List.set_cons_zero, List.set_cons_succ]) | (refine wpG_at_skip (by rfl) ?_; simp only [Act.put, List.setIfInBounds_toArray, List.set_cons_zero, List.set_cons_succ]) | (refine wpG_held_skip (by rfl) ?_; simp only [Act.put, List.setIfInBounds_toArray, List.set_cons_zero, List.set_cons_succ]) | (refine wpG_held (v := ?_) (by rfl) ?_ ?_; rotate_left; (focus (intro w' hSw; (try dsimp only at hSw); go_split_ands; first | (go_simp; with_reducible rfl) | (go_simp; done))); simp only [Act.put, List.setIfInBounds_toArray, List.set_cons_zero, List.set_cons_succ]))
        refine wpG_eff (by rfl) (fun K hK => ?_)
        go_simp
        refine hK _ _ SQ.out ?_
        clear hK K
        repeat (first | (refine wpG_at (v := ?_) (by rfl) ?_ ?_; rotate_left; (focus (first | (go_simp; with_reducible rfl) | (go_simp; done))); simp only [Act.put, List.setIfInBounds_toArray, List.set_cons_zero, List.set_cons_succ]) | (refine wpG_at_skip (by rfl) ?_; simp only [Act.put, List.setIfInBounds_toArray, List.set_cons_zero, List.set_cons_succ]) | (refine wpG_held_skip (by rfl) ?_; simp only [Act.put, List.setIfInBounds_toArray, List.set_cons_zero, List.set_cons_succ]) | (refine wpG_held (v := ?_) (by rfl) ?_ ?_; rotate_left; (focus (intro w' hSw; (try dsimp only at hSw); go_split_ands; first | (go_simp; with_reducible rfl) | (go_simp; done))); simp only [Act.put, List.setIfInBounds_toArray, List.set_cons_zero, List.set_cons_succ]))
        refine wpG_nil (NoPanic.normal ?_)
        replace GQ := GQ.out
        replace XQ := XQ.out
        replace XAQ := XAQ.out
        replace KQ := KQ.out
        clear SQ Lg3 LA3 LQ3 up1 up5 h3 XA3 XQ3 k3 kQ sQ hqa
        generalize (w3.setCell ⟨wc.heap.size, 0, none⟩ (.int .i64 0)).setCell ⟨wc.heap.size, 1, none⟩ (.int .u64 0) = wq at *
        generalize wc.heap.size = q at *
        have Lg3 := loc3 GQ.hg
        have Lw3 := GQ.hw.cs
        have LX3 := loc2 XQ
        have LA3 := loc5 XAQ
        have up1 := ups Lg3.2.2.2.2.2.2
        have up2 := ups Lw3.2.2.2.2
        have up4 := ups LX3.2.2.2.2
        have up5 := ups LA3.2.2.2.2.2
        replace GQ := hid GQ
        replace XQ := hid XQ
        replace XAQ := hid XAQ
        go_wp2_with fail
        refine wp_region_G (fun _ => True) [(0, .at_), (1, .at_), (2, .at_), (3, .at_), (4, .at_), (5, .at_), (6, .at_), (7, .at_), (8, .at_), (9, .at_), (10, .at_), (11, .at_), (12, .at_), (13, .at_), (14, .at_), (15, .at_)] ?L11 (by kernel_rfl) (by kernel_rfl) ?hL11 (trivial) ?hG11
        case hL11 => simp only [pickOps, List.map_cons, List.map_nil, List.getD_cons_zero, List.getD_cons_succ]; rfl
        repeat (first | (refine wpG_at (v := ?_) (by rfl) ?_ ?_; rotate_left; (focus (first | (go_simp; with_reducible rfl) | (go_simp; done))); simp only [Act.put, List.setIfInBounds_toArray, List.set_cons_zero, List.set_cons_succ]) | (refine wpG_at_skip (by rfl) ?_; simp only [Act.put, List.setIfInBounds_toArray, List.set_cons_zero, List.set_cons_succ]) | (refine wpG_held_skip (by rfl) ?_; simp only [Act.put, List.setIfInBounds_toArray, List.set_cons_zero, List.set_cons_succ]) | (refine wpG_held (v := ?_) (by rfl) ?_ ?_; rotate_left; (focus (intro w' hSw; (try dsimp only at hSw); go_split_ands; first | (go_simp; with_reducible rfl) | (go_simp; done))); simp only [Act.put, List.setIfInBounds_toArray, List.set_cons_zero, List.set_cons_succ]))
        refine wpG_nil (NoPanic.normal ?_)
        go_wp2_with fail
        go_ret
        refine ⟨by simp, _, _, _, _, _, _, _, ?_, .same, fun b hb => .inl hb, ?_⟩
        · repeat (first | exact GQ.out | refine GAt.drew ?_ | refine GAt.alloc ?_ _)
        · repeat (first | exact KQ.mono (fun _ h => h.elim) | refine Kp.drew ?_ | refine Kp.alloc ?_ _)
    · have hx1 : (S.length : Int) ≤ x := by omega
      have hx2 : 0 ≤ x := by omega
      clear hx
      go_wp2_with fail
      refine wp_region_two 6 11 (fun W => W.cell? ⟨pg, 0, none⟩ = some (.pointer (some ⟨p, 0, none⟩)) ∧ W.cell? ⟨w.heap.size, 4, none⟩ = some (.int .i64 x)) [(0, .at_), (1, .at_), (2, .at_), (3, .at_), (4, .at_), (5, .at_), (6, .eff), (7, .held), (8, .held), (9, .held), (10, .held), (11, .eff), (12, .eff), (13, .at_), (14, .at_)] [(0, .held), (1, .held), (2, .held), (3, .held), (4, .held), (5, .held), (11, .eff), (6, .eff), (7, .at_), (8, .at_), (9, .held), (10, .held), (12, .eff), (13, .at_), (14, .at_)] ?La3 ?Lb3 (by kernel_rfl) (by kernel_rfl) ?hLa3 ?hLb3 (⟨Lg.1, LA.2.2.2.2.1⟩) ?hGa3 ?hGb3
      case hLa3 => simp only [pickOps, List.map_cons, List.map_nil, List.getD_cons_zero, List.getD_cons_succ]; rfl
      case hLb3 => simp only [pickOps, List.map_cons, List.map_nil, List.getD_cons_zero, List.getD_cons_succ]; rfl
      ·
        repeat (first | (refine wpG_at (v := ?_) (by rfl) ?_ ?_; rotate_left; (focus (first | (go_simp; with_reducible rfl) | (go_simp; done))); simp only [Act.put, List.setIfInBounds_toArray, List.set_cons_zero, List.set_cons_succ]) | (refine wpG_at_skip (by rfl) ?_; simp only [Act.put, List.setIfInBounds_toArray, List.set_cons_zero, List.set_cons_succ]) | (refine wpG_held_skip (by rfl) ?_; simp only [Act.put, List.setIfInBounds_toArray, List.set_cons_zero, List.set_cons_succ]) | (refine wpG_held (v := ?_) (by rfl) ?_ ?_; rotate_left; (focus (intro w' hSw; (try dsimp only at hSw); go_split_ands; first | (go_simp; with_reducible rfl) | (go_simp; done))); simp only [Act.put, List.setIfInBounds_toArray, List.set_cons_zero, List.set_cons_succ]))
        refine wpG_eff (by rfl) (fun K hK => ?_)
        go_simp
        refine HG.out.mono ?_
        rintro e w3 ⟨rfl, k3⟩
        have h3 := h2.out.drew.kn k3
        have XA3 := k3.get (blk_drew XA.out) (fun h => h)
        have Lg3 := loc3 h3.hg
        have LA3 := loc5 XA3
        have up1 := ups Lg3.2.2.2.2.2.2
        have up5 := ups LA3.2.2.2.2.2
        refine hK _ _ ⟨Lg3.1, LA3.2.2.2.2.1⟩ ?_
        clear hK K
        clear Lg LX LA
        repeat (first | (refine wpG_at (v := ?_) (by rfl) ?_ ?_; rotate_left; (focus (first | (go_simp; with_reducible rfl) | (go_simp; done))); simp only [Act.put, List.setIfInBounds_toArray, List.set_cons_zero, List.set_cons_succ]) | (refine wpG_at_skip (by rfl) ?_; simp only [Act.put, List.setIfInBounds_toArray, List.set_cons_zero, List.set_cons_succ]) | (refine wpG_held_skip (by rfl) ?_; simp only [Act.put, List.setIfInBounds_toArray, List.set_cons_zero, List.set_cons_succ]) | (refine wpG_held (v := ?_) (by rfl) ?_ ?_; rotate_left; (focus (intro w' hSw; (try dsimp only at hSw); go_split_ands; first | (go_simp; with_reducible rfl) | (go_simp; done))); simp only [Act.put, List.setIfInBounds_toArray, List.set_cons_zero, List.set_cons_succ]))
        refine wpG_eff (by rfl) (fun K hK => ?_)
        go_simp
        refine hK _ _ (by refine ⟨?_, ?_⟩ <;> go_simp) ?_
        clear hK K
        repeat (first | (refine wpG_at (v := ?_) (by rfl) ?_ ?_; rotate_left; (focus (first | (go_simp; with_reducible rfl) | (go_simp; done))); simp only [Act.put, List.setIfInBounds_toArray, List.set_cons_zero, List.set_cons_succ]) | (refine wpG_at_skip (by rfl) ?_; simp only [Act.put, List.setIfInBounds_toArray, List.set_cons_zero, List.set_cons_succ]) | (refine wpG_held_skip (by rfl) ?_; simp only [Act.put, List.setIfInBounds_toArray, List.set_cons_zero, List.set_cons_succ]) | (refine wpG_held (v := ?_) (by rfl) ?_ ?_; rotate_left; (focus (intro w' hSw; (try dsimp only at hSw); go_split_ands; first | (go_simp; with_reducible rfl) | (go_simp; done))); simp only [Act.put, List.setIfInBounds_toArray, List.set_cons_zero, List.set_cons_succ]))
        refine wpG_eff (by rfl) (fun K hK => ?_)
        go_simp
        refine hK _ _ (by refine ⟨?_, ?_⟩ <;> go_simp) ?_
        clear hK K
        repeat (first | (refine wpG_at (v := ?_) (by rfl) ?_ ?_; rotate_left; (focus (first | (go_simp; with_reducible rfl) | (go_simp; done))); simp only [Act.put, List.setIfInBounds_toArray, List.set_cons_zero, List.set_cons_succ]) | (refine wpG_at_skip (by rfl) ?_; simp only [Act.put, List.setIfInBounds_toArray, List.set_cons_zero, List.set_cons_succ]) | (refine wpG_held_skip (by rfl) ?_; simp only [Act.put, List.setIfInBounds_toArray, List.set_cons_zero, List.set_cons_succ]) | (refine wpG_held (v := ?_) (by rfl) ?_ ?_; rotate_left; (focus (intro w' hSw; (try dsimp only at hSw); go_split_ands; first | (go_simp; with_reducible rfl) | (go_simp; done))); simp only [Act.put, List.setIfInBounds_toArray, List.set_cons_zero, List.set_cons_succ]))
        refine wpG_nil (NoPanic.normal ?_)
        have GQ := h3.alloc (.cells #[.int .i64 0, .int .u64 0] 36)
        have XQ := blk_new w3 (.cells #[.int .i64 0, .int .u64 0] 36)
        have XAQ := blk_alloc (o' := .cells #[.int .i64 0, .int .u64 0] 36) XA3
        have KQ := (K2.drew.trans k3).alloc (.cells #[.int .i64 0, .int .u64 0] 36)
        clear Lg3 LA3 up1 up5 h3 XA3 k3
        generalize w3.alloc (.cells #[.int .i64 0, .int .u64 0] 36) = wq at *
        generalize w3.heap.size = q at *
        have Lg3 := loc3 GQ.hg
        have Lw3 := GQ.hw.cs
        have LX3 := loc2 XQ
        have LA3 := loc5 XAQ
        have up1 := ups Lg3.2.2.2.2.2.2
        have up2 := ups Lw3.2.2.2.2
        have up4 := ups LX3.2.2.2.2
        have up5 := ups LA3.2.2.2.2.2
        replace GQ := hid GQ
        replace XQ := hid XQ
        replace XAQ := hid XAQ
        go_wp2_with fail
        have hx3 : decide (x < 0) = false := by simpa using hx2
        have hx4 : decide ((S.length : Int) ≤ x) = true := by simpa using hx1
        refine wp_region_G (fun _ => True) [(0, .at_), (1, .at_), (2, .at_), (3, .at_), (4, .at_), (5, .at_), (6, .at_), (7, .at_), (8, .at_), (9, .at_), (10, .at_), (11, .at_), (12, .at_), (13, .at_), (14, .at_), (15, .at_)] ?L12 (by kernel_rfl) (by kernel_rfl) ?hL12 (trivial) ?hG12
        case hL12 => simp only [pickOps, List.map_cons, List.map_nil, List.getD_cons_zero, List.getD_cons_succ]; rfl
        repeat (first | (refine wpG_at (v := ?_) (by rfl) ?_ ?_; rotate_left; (focus (first | (go_simp; with_reducible rfl) | (go_simp; done))); simp only [Act.put, List.setIfInBounds_toArray, List.set_cons_zero, List.set_cons_succ]) | (refine wpG_at_skip (by rfl) ?_; simp only [Act.put, List.setIfInBounds_toArray, List.set_cons_zero, List.set_cons_succ]) | (refine wpG_held_skip (by rfl) ?_; simp only [Act.put, List.setIfInBounds_toArray, List.set_cons_zero, List.set_cons_succ]) | (refine wpG_held (v := ?_) (by rfl) ?_ ?_; rotate_left; (focus (intro w' hSw; (try dsimp only at hSw); go_split_ands; first | (go_simp; with_reducible rfl) | (go_simp; done))); simp only [Act.put, List.setIfInBounds_toArray, List.set_cons_zero, List.set_cons_succ]))
        refine wpG_nil (NoPanic.normal ?_)
        go_wp2_with fail
        go_ret
        refine ⟨by simp, _, _, _, _, _, _, _, ?_, .same, fun b hb => .inl hb, ?_⟩
        · repeat (first | exact GQ.out | refine GAt.drew ?_ | refine GAt.alloc ?_ _)
        · repeat (first | exact KQ.mono (fun _ h => h.elim) | refine Kp.drew ?_ | refine Kp.alloc ?_ _)
      ·
        repeat (first | (refine wpG_at (v := ?_) (by rfl) ?_ ?_; rotate_left; (focus (first | (go_simp; with_reducible rfl) | (go_simp; done))); simp only [Act.put, List.setIfInBounds_toArray, List.set_cons_zero, List.set_cons_succ]) | (refine wpG_at_skip (by rfl) ?_; simp only [Act.put, List.setIfInBounds_toArray, List.set_cons_zero, List.set_cons_succ]) | (refine wpG_held_skip (by rfl) ?_; simp only [Act.put, List.setIfInBounds_toArray, List.set_cons_zero, List.set_cons_succ]) | (refine wpG_held (v := ?_) (by rfl) ?_ ?_; rotate_left; (focus (intro w' hSw; (try dsimp only at hSw); go_split_ands; first | (go_simp; with_reducible rfl) | (go_simp; done))); simp only [Act.put, List.setIfInBounds_toArray, List.set_cons_zero, List.set_cons_succ]))
        refine wpG_eff (by rfl) (fun K hK => ?_)
        go_simp
        have up1 := ups Lg.2.2.2.2.2.2
        have up5 := ups LA.2.2.2.2.2
        refine hK _ _ (by refine ⟨?_, ?_⟩ <;> go_simp) ?_
        clear hK K
        repeat (first | (refine wpG_at (v := ?_) (by rfl) ?_ ?_; rotate_left; (focus (first | (go_simp; with_reducible rfl) | (go_simp; done))); simp only [Act.put, List.setIfInBounds_toArray, List.set_cons_zero, List.set_cons_succ]) | (refine wpG_at_skip (by rfl) ?_; simp only [Act.put, List.setIfInBounds_toArray, List.set_cons_zero, List.set_cons_succ]) | (refine wpG_held_skip (by rfl) ?_; simp only [Act.put, List.setIfInBounds_toArray, List.set_cons_zero, List.set_cons_succ]) | (refine wpG_held (v := ?_) (by rfl) ?_ ?_; rotate_left; (focus (intro w' hSw; (try dsimp only at hSw); go_split_ands; first | (go_simp; with_reducible rfl) | (go_simp; done))); simp only [Act.put, List.setIfInBounds_toArray, List.set_cons_zero, List.set_cons_succ]))
        refine wpG_eff (by rfl) (fun K hK => ?_)
        go_simp
        refine (HG2.out).mono ?_
        rintro e w3 ⟨rfl, k3⟩
        have h3 := (h2.out.drew.alloc (.cells #[.int .i64 0, .int .u64 0] 36)).kn k3
        have XA3 := k3.get (blk_alloc (o' := .cells #[.int .i64 0, .int .u64 0] 36) (blk_drew XA.out)) (fun h => h)
        have XQ3 : w3.heap[wc.heap.size]? = some (.cells #[.int .i64 0, .int .u64 0] 36 (0, 0)) := k3.get (blk_new wc.drew (.cells #[.int .i64 0, .int .u64 0] 36)) (fun h => h)
        have Lg3 := loc3 h3.hg
        have LA3 := loc5 XA3
        have LQ3 := loc2 XQ3
        refine hK _ _ ⟨Lg3.1, LA3.2.2.2.2.1⟩ ?_
        clear hK K
        clear Lg LX LA
        have sQ := fun b (hb : FP pg p l r lb v vb (.slice (some ⟨b', 0, none⟩) H.length ch) b) => h2.out.lt b hb
        have hqa : w.heap.size ≠ wc.heap.size := by have := up5.1; omega
        have XQ : ((w3.setCell ⟨wc.heap.size, 0, none⟩ (.int .i64 0)).setCell ⟨wc.heap.size, 1, none⟩ (.int .u64 0)).heap[wc.heap.size]? = some (.cells #[.int .i64 0, .int .u64 0] 36 (0, 0)) := blk_setCell (blk_setCell XQ3 0 (.int .i64 0)) 1 (.int .u64 0)
        have kQ : Kp (fun b => b = wc.heap.size) w3 ((w3.setCell ⟨wc.heap.size, 0, none⟩ (.int .i64 0)).setCell ⟨wc.heap.size, 1, none⟩ (.int .u64 0)) := ((Kp.refl (fun b => b = wc.heap.size) w3).setCell _ (fun _ => rfl)).setCell _ (fun _ => rfl)
        have GQ := h3.kp kQ (fun b hb e => by have := sQ b hb; omega)
        have XAQ := kQ.get XA3 hqa
        have KQ := kp_new ((K2.drew.alloc (.cells #[.int .i64 0, .int .u64 0] 36)).trans k3) kQ (by rintro b rfl; exact K2.size)
        have SQ := hid (show _ ∧ _ from ⟨(loc3 GQ.hg).1, (loc5 XAQ).2.2.2.2.1⟩)
        replace GQ := hid GQ
        replace XQ := hid XQ
        replace XAQ := hid XAQ
        replace KQ := hid KQ
        replace kQ := hid kQ
        repeat (first | (refine wpG_at (v := ?_) (by rfl) ?_ ?_; rotate_left; (focus (first | (go_simp; with_reducible rfl) | (go_simp; done))); simp only [Act.put, List.setIfInBounds_toArray, List.set_cons_zero, List.set_cons_succ]) | (refine wpG_at_skip (by rfl) ?_; simp only [Act.put, List.setIfInBounds_toArray, List.set_cons_zero, List.set_cons_succ]) | (refine wpG_held_skip (by rfl) ?_; simp only [Act.put, List.setIfInBounds_toArray, List.set_cons_zero, List.set_cons_succ]) | (refine wpG_held (v := ?_) (by rfl) ?_ ?_; rotate_left; (focus (intro w' hSw; (try dsimp only at hSw); go_split_ands; first | (go_simp; with_reducible rfl) | (go_simp; done))); simp only [Act.put, List.setIfInBounds_toArray, List.set_cons_zero, List.set_cons_succ]))
        refine wpG_eff (by rfl) (fun K hK => ?_)
        go_simp
        refine hK _ _ SQ.out ?_
        clear hK K
        repeat (first | (refine wpG_at (v := ?_) (by rfl) ?_ ?_; rotate_left; (focus (first | (go_simp; with_reducible rfl) | (go_simp; done))); simp only [Act.put, List.setIfInBounds_toArray, List.set_cons_zero, List.set_cons_succ]) | (refine wpG_at_skip (by rfl) ?_; simp only [Act.put, List.setIfInBounds_toArray, List.set_cons_zero, List.set_cons_succ]) | (refine wpG_held_skip (by rfl) ?_; simp only [Act.put, List.setIfInBounds_toArray, List.set_cons_zero, List.set_cons_succ]) | (refine wpG_held (v := ?_) (by rfl) ?_ ?_; rotate_left; (focus (intro w' hSw; (try dsimp only at hSw); go_split_ands; first | (go_simp; with_reducible rfl) | (go_simp; done))); simp only [Act.put, List.setIfInBounds_toArray, List.set_cons_zero, List.set_cons_succ]))
        refine wpG_nil (NoPanic.normal ?_)
        replace GQ := GQ.out
        replace XQ := XQ.out
        replace XAQ := XAQ.out
        replace KQ := KQ.out
        clear SQ Lg3 LA3 LQ3 up1 up5 h3 XA3 XQ3 k3 kQ sQ hqa
        generalize (w3.setCell ⟨wc.heap.size, 0, none⟩ (.int .i64 0)).setCell ⟨wc.heap.size, 1, none⟩ (.int .u64 0) = wq at *
        generalize wc.heap.size = q at *
        have Lg3 := loc3 GQ.hg
        have Lw3 := GQ.hw.cs
        have LX3 := loc2 XQ
        have LA3 := loc5 XAQ
        have up1 := ups Lg3.2.2.2.2.2.2
        have up2 := ups Lw3.2.2.2.2
        have up4 := ups LX3.2.2.2.2
        have up5 := ups LA3.2.2.2.2.2
        replace GQ := hid GQ
        replace XQ := hid XQ
        replace XAQ := hid XAQ
        go_wp2_with fail
        have hx3 : decide (x < 0) = false := by simpa using hx2
        have hx4 : decide ((S.length : Int) ≤ x) = true := by simpa using hx1
        refine wp_region_G (fun _ => True) [(0, .at_), (1, .at_), (2, .at_), (3, .at_), (4, .at_), (5, .at_), (6, .at_), (7, .at_), (8, .at_), (9, .at_), (10, .at_), (11, .at_), (12, .at_), (13, .at_), (14, .at_), (15, .at_)] ?L13 (by kernel_rfl) (by kernel_rfl) ?hL13 (trivial) ?hG13
        case hL13 => simp only [pickOps, List.map_cons, List.map_nil, List.getD_cons_zero, List.getD_cons_succ]; rfl
        repeat (first | (refine wpG_at (v := ?_) (by rfl) ?_ ?_; rotate_left; (focus (first | (go_simp; with_reducible rfl) | (go_simp; done))); simp only [Act.put, List.setIfInBounds_toArray, List.set_cons_zero, List.set_cons_succ]) | (refine wpG_at_skip (by rfl) ?_; simp only [Act.put, List.setIfInBounds_toArray, List.set_cons_zero, List.set_cons_succ]) | (refine wpG_held_skip (by rfl) ?_; simp only [Act.put, List.setIfInBounds_toArray, List.set_cons_zero, List.set_cons_succ]) | (refine wpG_held (v := ?_) (by rfl) ?_ ?_; rotate_left; (focus (intro w' hSw; (try dsimp only at hSw); go_split_ands; first | (go_simp; with_reducible rfl) | (go_simp; done))); simp only [Act.put, List.setIfInBounds_toArray, List.set_cons_zero, List.set_cons_succ]))
        refine wpG_nil (NoPanic.normal ?_)
        go_wp2_with fail
        go_ret
        refine ⟨by simp, _, _, _, _, _, _, _, ?_, .same, fun b hb => .inl hb, ?_⟩
        · repeat (first | exact GQ.out | refine GAt.drew ?_ | refine GAt.alloc ?_ _)
        · repeat (first | exact KQ.mono (fun _ h => h.elim) | refine Kp.drew ?_ | refine Kp.alloc ?_ _)
end
end Go.Proofs.Ytldkogdkadgnkaa
