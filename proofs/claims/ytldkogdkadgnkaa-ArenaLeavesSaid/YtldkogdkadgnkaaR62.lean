/- Walks through a game: an act of the kind 2. -/
import Derived.Test.YtldkogdkadgnkaaR6
namespace Go.Proofs.Ytldkogdkadgnkaa
set_option linter.unusedSimpArgs false
set_option linter.unusedVariables false
open Go.RowKit
attribute [local go_sem ↓] Go.wp_at_zero Go.wp_at_succ
section
variable {N : Nat} {w w' : World} {pg p l r lb c : Nat} {v vb hv : Value} {S : List (Int × Int × Bool)} {B : List Nat} {E : Nat} {H : List (Nat × Int)} {G : Int}
set_option maxRecDepth 100000 in
set_option maxHeartbeats 8000000 in
theorem do2a (h : GAt N w pg p l r lb c v vb hv S B E H) (hI : AInv S B E) (hG : Gens S E G) (hGG : G ≤ 4096) (hH : H.length ≤ 4096) (hi hg at_ x : Int) (wat : -9223372036854775808 ≤ at_ ∧ at_ < 9223372036854775808) (c1 : at_ < 1) :
    Calls Try.prog 9 #[.pointer (some ⟨pg, 0, none⟩), .agg #[.int .i64 2, .int .i64 hi, .int .u64 hg, .int .i64 at_, .int .i64 x]] w fun e w' => e = .returned (.bool true) ∧ Done N w w' pg p l r lb c v vb hv S B E H := by
  obtain ⟨oh, ch, hhv, _⟩ := h.hh.form
  subst hhv
  have Lg := loc3 h.hg
  have up := ups Lg.2.2.2.2.2.2
  have n2 := hI.n2
  replace h := hid h
  go_enter Try.func9, Try.ntmps9
  go_wp2_with fail
  have X1 : ((w.alloc (.cells #[.int .i64 2, .int .i64 hi, .int .u64 hg, .int .i64 at_, .int .i64 x] 38)).alloc (.cells #[.int .i64 hi, .int .u64 hg] 36)).heap[w.heap.size + 1]? = some (.cells #[.int .i64 hi, .int .u64 hg] 36 (0, 0)) := blk_new' _ _ (by simp)
  have X2 : ((w.alloc (.cells #[.int .i64 2, .int .i64 hi, .int .u64 hg, .int .i64 at_, .int .i64 x] 38)).alloc (.cells #[.int .i64 hi, .int .u64 hg] 36)).heap[w.heap.size]? = some (.cells #[.int .i64 2, .int .i64 hi, .int .u64 hg, .int .i64 at_, .int .i64 x] 38 (0, 0)) := blk_alloc (blk_new _ _)
  have K1 : Kp NoB w ((w.alloc (.cells #[.int .i64 2, .int .i64 hi, .int .u64 hg, .int .i64 at_, .int .i64 x] 38)).alloc (.cells #[.int .i64 hi, .int .u64 hg] 36)) := ((Kp.refl _ w).alloc _).alloc _
  have h1 := h.out.kn K1
  have HIs := hid (is_any (h1.drew.hw) n2 hi hg)
  replace h1 := hid h1
  replace X1 := hid X1
  replace X2 := hid X2
  refine wp_region_G (fun _ => True) [(0, .at_), (1, .at_), (2, .at_), (3, .at_), (4, .at_), (5, .eff), (6, .at_)] ?L1 (by kernel_rfl) (by kernel_rfl) ?hL1 (trivial) ?hG1
  case hL1 => simp only [pickOps, List.map_cons, List.map_nil, List.getD_cons_zero, List.getD_cons_succ]; rfl
  repeat (first | (refine wpG_at (v := ?_) (by rfl) ?_ ?_; rotate_left; (focus (first | (go_simp; with_reducible rfl) | (go_simp; done))); simp only [Act.put, List.setIfInBounds_toArray, List.set_cons_zero, List.set_cons_succ]) | (refine wpG_at_skip (by rfl) ?_; simp only [Act.put, List.setIfInBounds_toArray, List.set_cons_zero, List.set_cons_succ]) | (refine wpG_held_skip (by rfl) ?_; simp only [Act.put, List.setIfInBounds_toArray, List.set_cons_zero, List.set_cons_succ]) | (refine wpG_held (v := ?_) (by rfl) ?_ ?_; rotate_left; (focus (intro w' hSw; (try dsimp only at hSw); go_split_ands; first | (go_simp; with_reducible rfl) | (go_simp; done))); simp only [Act.put, List.setIfInBounds_toArray, List.set_cons_zero, List.set_cons_succ]))
  refine wpG_eff (by rfl) (fun K hK => ?_)
  go_simp
  refine HIs.out.mono ?_
  rintro e wc ⟨bb, rfl, hbb, k2⟩
  refine hK _ _ trivial ?_
  clear hK K
  repeat (first | (refine wpG_at (v := ?_) (by rfl) ?_ ?_; rotate_left; (focus (first | (go_simp; with_reducible rfl) | (go_simp; done))); simp only [Act.put, List.setIfInBounds_toArray, List.set_cons_zero, List.set_cons_succ]) | (refine wpG_at_skip (by rfl) ?_; simp only [Act.put, List.setIfInBounds_toArray, List.set_cons_zero, List.set_cons_succ]) | (refine wpG_held_skip (by rfl) ?_; simp only [Act.put, List.setIfInBounds_toArray, List.set_cons_zero, List.set_cons_succ]) | (refine wpG_held (v := ?_) (by rfl) ?_ ?_; rotate_left; (focus (intro w' hSw; (try dsimp only at hSw); go_split_ands; first | (go_simp; with_reducible rfl) | (go_simp; done))); simp only [Act.put, List.setIfInBounds_toArray, List.set_cons_zero, List.set_cons_succ]))
  refine wpG_nil (NoPanic.normal ?_)
  have h2 := h1.out.drew.kn k2
  have XB := k2.get (blk_drew X1.out) (fun h => h)
  have XA := k2.get (blk_drew X2.out) (fun h => h)
  have K2 := K1.drew.trans k2
  clear h1 K1 k2 HIs Lg up X1 X2
  have Lg := loc3 h2.hg
  have LX := loc2 XB
  have LA := loc5 XA
  replace h2 := hid h2
  replace XB := hid XB
  replace XA := hid XA
  cases bb
  · have HG := hid (get_no h2.out.ha.drew hI.ok (i := hi) (g := hg) (fun h => absurd (hbb.2 h) (by decide)))
    replace hI := hid hI
    replace hbb := hid hbb
    go_wp2_with fail
    refine wp_region_G (fun _ => True) [(0, .at_), (1, .at_), (2, .at_), (3, .at_), (4, .at_), (5, .eff), (6, .at_), (7, .at_), (8, .at_), (9, .at_), (10, .at_)] ?L2 (by kernel_rfl) (by kernel_rfl) ?hL2 (trivial) ?hG2
    case hL2 => simp only [pickOps, List.map_cons, List.map_nil, List.getD_cons_zero, List.getD_cons_succ]; rfl
    repeat (first | (refine wpG_at (v := ?_) (by rfl) ?_ ?_; rotate_left; (focus (first | (go_simp; with_reducible rfl) | (go_simp; done))); simp only [Act.put, List.setIfInBounds_toArray, List.set_cons_zero, List.set_cons_succ]) | (refine wpG_at_skip (by rfl) ?_; simp only [Act.put, List.setIfInBounds_toArray, List.set_cons_zero, List.set_cons_succ]) | (refine wpG_held_skip (by rfl) ?_; simp only [Act.put, List.setIfInBounds_toArray, List.set_cons_zero, List.set_cons_succ]) | (refine wpG_held (v := ?_) (by rfl) ?_ ?_; rotate_left; (focus (intro w' hSw; (try dsimp only at hSw); go_split_ands; first | (go_simp; with_reducible rfl) | (go_simp; done))); simp only [Act.put, List.setIfInBounds_toArray, List.set_cons_zero, List.set_cons_succ]))
    refine wpG_eff (by rfl) (fun K hK => ?_)
    go_simp
    refine HG.out.mono ?_
    rintro e w3 ⟨rfl, k3⟩
    refine hK _ _ trivial ?_
    clear hK K
    repeat (first | (refine wpG_at (v := ?_) (by rfl) ?_ ?_; rotate_left; (focus (first | (go_simp; with_reducible rfl) | (go_simp; done))); simp only [Act.put, List.setIfInBounds_toArray, List.set_cons_zero, List.set_cons_succ]) | (refine wpG_at_skip (by rfl) ?_; simp only [Act.put, List.setIfInBounds_toArray, List.set_cons_zero, List.set_cons_succ]) | (refine wpG_held_skip (by rfl) ?_; simp only [Act.put, List.setIfInBounds_toArray, List.set_cons_zero, List.set_cons_succ]) | (refine wpG_held (v := ?_) (by rfl) ?_ ?_; rotate_left; (focus (intro w' hSw; (try dsimp only at hSw); go_split_ands; first | (go_simp; with_reducible rfl) | (go_simp; done))); simp only [Act.put, List.setIfInBounds_toArray, List.set_cons_zero, List.set_cons_succ]))
    refine wpG_nil (NoPanic.normal ?_)
    go_wp2_with fail
    refine wp_region_G (fun _ => True) [(0, .at_), (1, .at_), (2, .at_), (3, .at_), (4, .at_), (5, .at_), (6, .at_), (7, .at_), (8, .at_), (9, .at_), (10, .at_), (11, .at_), (12, .at_), (13, .at_), (14, .at_), (15, .at_), (16, .at_), (17, .at_), (18, .at_), (19, .at_), (20, .at_), (21, .at_), (22, .at_), (23, .at_), (24, .at_), (25, .at_), (26, .at_), (27, .at_), (28, .at_), (29, .at_), (30, .at_), (31, .at_), (32, .at_), (33, .at_)] ?L3 (by kernel_rfl) (by kernel_rfl) ?hL3 (trivial) ?hG3
    case hL3 => simp only [pickOps, List.map_cons, List.map_nil, List.getD_cons_zero, List.getD_cons_succ]; rfl
    repeat (first | (refine wpG_at (v := ?_) (by rfl) ?_ ?_; rotate_left; (focus (first | (go_simp; with_reducible rfl) | (go_simp; done))); simp only [Act.put, List.setIfInBounds_toArray, List.set_cons_zero, List.set_cons_succ]) | (refine wpG_at_skip (by rfl) ?_; simp only [Act.put, List.setIfInBounds_toArray, List.set_cons_zero, List.set_cons_succ]) | (refine wpG_held_skip (by rfl) ?_; simp only [Act.put, List.setIfInBounds_toArray, List.set_cons_zero, List.set_cons_succ]) | (refine wpG_held (v := ?_) (by rfl) ?_ ?_; rotate_left; (focus (intro w' hSw; (try dsimp only at hSw); go_split_ands; first | (go_simp; with_reducible rfl) | (go_simp; done))); simp only [Act.put, List.setIfInBounds_toArray, List.set_cons_zero, List.set_cons_succ]))
    refine wpG_nil (NoPanic.normal ?_)
    go_wp2_with fail
    go_ret
    exact ⟨rfl, _, _, _, _, _, _, _, (h2.out.drew.kn k3).drew, .same, fun b hb => .inl hb, ((K2.drew.trans k3).drew).mono (fun _ h => h.elim)⟩
  · obtain ⟨k5, x0, hik5, hk5⟩ := hbb.1 rfl
    subst hik5
    have HG := hid (get_yes h2.out.ha.drew hI.ok hk5)
    have b6 : (k5 : Int) < (S.length : Int) := by have := (List.getElem?_eq_some_iff.1 hk5).1; omega
    have b7 : (0 : Int) ≤ (k5 : Int) := Int.natCast_nonneg _
    replace hI := hid hI
    replace hbb := hid hbb
    replace hk5 := hid hk5
    go_wp2_with fail
    refine wp_region_G (fun _ => True) [(0, .at_), (1, .at_), (2, .at_), (3, .at_), (4, .at_), (5, .eff), (6, .at_), (7, .at_), (8, .at_), (9, .at_), (10, .at_)] ?L4 (by kernel_rfl) (by kernel_rfl) ?hL4 (trivial) ?hG4
    case hL4 => simp only [pickOps, List.map_cons, List.map_nil, List.getD_cons_zero, List.getD_cons_succ]; rfl
    repeat (first | (refine wpG_at (v := ?_) (by rfl) ?_ ?_; rotate_left; (focus (first | (go_simp; with_reducible rfl) | (go_simp; done))); simp only [Act.put, List.setIfInBounds_toArray, List.set_cons_zero, List.set_cons_succ]) | (refine wpG_at_skip (by rfl) ?_; simp only [Act.put, List.setIfInBounds_toArray, List.set_cons_zero, List.set_cons_succ]) | (refine wpG_held_skip (by rfl) ?_; simp only [Act.put, List.setIfInBounds_toArray, List.set_cons_zero, List.set_cons_succ]) | (refine wpG_held (v := ?_) (by rfl) ?_ ?_; rotate_left; (focus (intro w' hSw; (try dsimp only at hSw); go_split_ands; first | (go_simp; with_reducible rfl) | (go_simp; done))); simp only [Act.put, List.setIfInBounds_toArray, List.set_cons_zero, List.set_cons_succ]))
    refine wpG_eff (by rfl) (fun K hK => ?_)
    go_simp
    refine HG.out.mono ?_
    rintro e w3 ⟨rfl, k3⟩
    have h3 := h2.out.drew.kn k3
    have Lg3 := loc3 h3.hg
    have Lw3 := h3.hw.cs
    have Le3 := h3.hw.es hk5.out
    have LX3 := loc2 (k3.get (blk_drew XB.out) (fun h => h))
    refine hK _ _ trivial ?_
    clear hK K
    clear Lg LX LA
    replace h3 := hid h3
    repeat (first | (refine wpG_at (v := ?_) (by rfl) ?_ ?_; rotate_left; (focus (first | (go_simp; with_reducible rfl) | (go_simp; done))); simp only [Act.put, List.setIfInBounds_toArray, List.set_cons_zero, List.set_cons_succ]) | (refine wpG_at_skip (by rfl) ?_; simp only [Act.put, List.setIfInBounds_toArray, List.set_cons_zero, List.set_cons_succ]) | (refine wpG_held_skip (by rfl) ?_; simp only [Act.put, List.setIfInBounds_toArray, List.set_cons_zero, List.set_cons_succ]) | (refine wpG_held (v := ?_) (by rfl) ?_ ?_; rotate_left; (focus (intro w' hSw; (try dsimp only at hSw); go_split_ands; first | (go_simp; with_reducible rfl) | (go_simp; done))); simp only [Act.put, List.setIfInBounds_toArray, List.set_cons_zero, List.set_cons_succ]))
    refine wpG_nil (NoPanic.normal ?_)
    go_wp2_with fail
    refine wp_region_G (fun _ => True) [(0, .at_), (1, .at_), (2, .at_), (3, .at_), (4, .at_), (5, .at_), (6, .at_), (7, .at_), (8, .at_), (9, .at_), (10, .at_), (11, .at_), (12, .at_), (13, .at_), (14, .at_), (15, .at_), (16, .at_), (17, .at_), (18, .at_), (19, .at_), (20, .at_), (21, .at_), (22, .at_), (23, .at_), (24, .at_), (25, .at_), (26, .at_), (27, .at_), (28, .at_), (29, .at_), (30, .at_), (31, .at_), (32, .at_), (33, .at_)] ?L5 (by kernel_rfl) (by kernel_rfl) ?hL5 (trivial) ?hG5
    case hL5 => simp only [pickOps, List.map_cons, List.map_nil, List.getD_cons_zero, List.getD_cons_succ]; rfl
    repeat (first | (refine wpG_at (v := ?_) (by rfl) ?_ ?_; rotate_left; (focus (first | (go_simp; with_reducible rfl) | (go_simp; done))); simp only [Act.put, List.setIfInBounds_toArray, List.set_cons_zero, List.set_cons_succ]) | (refine wpG_at_skip (by rfl) ?_; simp only [Act.put, List.setIfInBounds_toArray, List.set_cons_zero, List.set_cons_succ]) | (refine wpG_held_skip (by rfl) ?_; simp only [Act.put, List.setIfInBounds_toArray, List.set_cons_zero, List.set_cons_succ]) | (refine wpG_held (v := ?_) (by rfl) ?_ ?_; rotate_left; (focus (intro w' hSw; (try dsimp only at hSw); go_split_ands; first | (go_simp; with_reducible rfl) | (go_simp; done))); simp only [Act.put, List.setIfInBounds_toArray, List.set_cons_zero, List.set_cons_succ]))
    refine wpG_nil (NoPanic.normal ?_)
    go_wp2_with fail
    go_ret
    exact ⟨rfl, _, _, _, _, _, _, _, h3.out.drew, .same, fun b hb => .inl hb, ((K2.drew.trans k3).drew).mono (fun _ h => h.elim)⟩
set_option maxRecDepth 100000 in
set_option maxHeartbeats 8000000 in
theorem do2b (h : GAt N w pg p l r lb c v vb hv S B E H) (hI : AInv S B E) (hG : Gens S E G) (hGG : G ≤ 4096) (hH : H.length ≤ 4096) (hi hg at_ x : Int) (wat : -9223372036854775808 ≤ at_ ∧ at_ < 9223372036854775808) (c1 : 1 ≤ at_) (c2 : H.length = 0) :
    Calls Try.prog 9 #[.pointer (some ⟨pg, 0, none⟩), .agg #[.int .i64 2, .int .i64 hi, .int .u64 hg, .int .i64 at_, .int .i64 x]] w fun e w' => e = .returned (.bool true) ∧ Done N w w' pg p l r lb c v vb hv S B E H := by
  obtain ⟨oh, ch, hhv, _⟩ := h.hh.form
  subst hhv
  have Lg := loc3 h.hg
  have up := ups Lg.2.2.2.2.2.2
  have n2 := hI.n2
  have b2 : ¬ (0 : Int) < (H.length : Int) := by omega
  replace h := hid h
  go_enter Try.func9, Try.ntmps9
  go_wp2_with fail
  have X1 : ((w.alloc (.cells #[.int .i64 2, .int .i64 hi, .int .u64 hg, .int .i64 at_, .int .i64 x] 38)).alloc (.cells #[.int .i64 hi, .int .u64 hg] 36)).heap[w.heap.size + 1]? = some (.cells #[.int .i64 hi, .int .u64 hg] 36 (0, 0)) := blk_new' _ _ (by simp)
  have X2 : ((w.alloc (.cells #[.int .i64 2, .int .i64 hi, .int .u64 hg, .int .i64 at_, .int .i64 x] 38)).alloc (.cells #[.int .i64 hi, .int .u64 hg] 36)).heap[w.heap.size]? = some (.cells #[.int .i64 2, .int .i64 hi, .int .u64 hg, .int .i64 at_, .int .i64 x] 38 (0, 0)) := blk_alloc (blk_new _ _)
  have K1 : Kp NoB w ((w.alloc (.cells #[.int .i64 2, .int .i64 hi, .int .u64 hg, .int .i64 at_, .int .i64 x] 38)).alloc (.cells #[.int .i64 hi, .int .u64 hg] 36)) := ((Kp.refl _ w).alloc _).alloc _
  have h1 := h.out.kn K1
  have HIs := hid (is_any (h1.drew.hw) n2 hi hg)
  replace h1 := hid h1
  replace X1 := hid X1
  replace X2 := hid X2
  refine wp_region_G (fun _ => True) [(0, .at_), (1, .at_), (2, .at_), (3, .at_), (4, .at_), (5, .eff), (6, .at_)] ?L6 (by kernel_rfl) (by kernel_rfl) ?hL6 (trivial) ?hG6
  case hL6 => simp only [pickOps, List.map_cons, List.map_nil, List.getD_cons_zero, List.getD_cons_succ]; rfl
  repeat (first | (refine wpG_at (v := ?_) (by rfl) ?_ ?_; rotate_left; (focus (first | (go_simp; with_reducible rfl) | (go_simp; done))); simp only [Act.put, List.setIfInBounds_toArray, List.set_cons_zero, List.set_cons_succ]) | (refine wpG_at_skip (by rfl) ?_; simp only [Act.put, List.setIfInBounds_toArray, List.set_cons_zero, List.set_cons_succ]) | (refine wpG_held_skip (by rfl) ?_; simp only [Act.put, List.setIfInBounds_toArray, List.set_cons_zero, List.set_cons_succ]) | (refine wpG_held (v := ?_) (by rfl) ?_ ?_; rotate_left; (focus (intro w' hSw; (try dsimp only at hSw); go_split_ands; first | (go_simp; with_reducible rfl) | (go_simp; done))); simp only [Act.put, List.setIfInBounds_toArray, List.set_cons_zero, List.set_cons_succ]))
  refine wpG_eff (by rfl) (fun K hK => ?_)
  go_simp
  refine HIs.out.mono ?_
  rintro e wc ⟨bb, rfl, hbb, k2⟩
  refine hK _ _ trivial ?_
  clear hK K
  repeat (first | (refine wpG_at (v := ?_) (by rfl) ?_ ?_; rotate_left; (focus (first | (go_simp; with_reducible rfl) | (go_simp; done))); simp only [Act.put, List.setIfInBounds_toArray, List.set_cons_zero, List.set_cons_succ]) | (refine wpG_at_skip (by rfl) ?_; simp only [Act.put, List.setIfInBounds_toArray, List.set_cons_zero, List.set_cons_succ]) | (refine wpG_held_skip (by rfl) ?_; simp only [Act.put, List.setIfInBounds_toArray, List.set_cons_zero, List.set_cons_succ]) | (refine wpG_held (v := ?_) (by rfl) ?_ ?_; rotate_left; (focus (intro w' hSw; (try dsimp only at hSw); go_split_ands; first | (go_simp; with_reducible rfl) | (go_simp; done))); simp only [Act.put, List.setIfInBounds_toArray, List.set_cons_zero, List.set_cons_succ]))
  refine wpG_nil (NoPanic.normal ?_)
  have h2 := h1.out.drew.kn k2
  have XB := k2.get (blk_drew X1.out) (fun h => h)
  have XA := k2.get (blk_drew X2.out) (fun h => h)
  have K2 := K1.drew.trans k2
  clear h1 K1 k2 HIs Lg up X1 X2
  have Lg := loc3 h2.hg
  have LX := loc2 XB
  have LA := loc5 XA
  replace h2 := hid h2
  replace XB := hid XB
  replace XA := hid XA
  cases bb
  · have HG := hid (get_no h2.out.ha.drew hI.ok (i := hi) (g := hg) (fun h => absurd (hbb.2 h) (by decide)))
    replace hI := hid hI
    replace hbb := hid hbb
    go_wp2_with fail
    refine wp_region_G (fun _ => True) [(0, .at_), (1, .at_), (2, .at_), (3, .at_), (4, .at_), (5, .eff), (6, .at_), (7, .at_), (8, .at_), (9, .at_), (10, .at_)] ?L7 (by kernel_rfl) (by kernel_rfl) ?hL7 (trivial) ?hG7
    case hL7 => simp only [pickOps, List.map_cons, List.map_nil, List.getD_cons_zero, List.getD_cons_succ]; rfl
    repeat (first | (refine wpG_at (v := ?_) (by rfl) ?_ ?_; rotate_left; (focus (first | (go_simp; with_reducible rfl) | (go_simp; done))); simp only [Act.put, List.setIfInBounds_toArray, List.set_cons_zero, List.set_cons_succ]) | (refine wpG_at_skip (by rfl) ?_; simp only [Act.put, List.setIfInBounds_toArray, List.set_cons_zero, List.set_cons_succ]) | (refine wpG_held_skip (by rfl) ?_; simp only [Act.put, List.setIfInBounds_toArray, List.set_cons_zero, List.set_cons_succ]) | (refine wpG_held (v := ?_) (by rfl) ?_ ?_; rotate_left; (focus (intro w' hSw; (try dsimp only at hSw); go_split_ands; first | (go_simp; with_reducible rfl) | (go_simp; done))); simp only [Act.put, List.setIfInBounds_toArray, List.set_cons_zero, List.set_cons_succ]))
    refine wpG_eff (by rfl) (fun K hK => ?_)
    go_simp
    refine HG.out.mono ?_
    rintro e w3 ⟨rfl, k3⟩
    refine hK _ _ trivial ?_
    clear hK K
    repeat (first | (refine wpG_at (v := ?_) (by rfl) ?_ ?_; rotate_left; (focus (first | (go_simp; with_reducible rfl) | (go_simp; done))); simp only [Act.put, List.setIfInBounds_toArray, List.set_cons_zero, List.set_cons_succ]) | (refine wpG_at_skip (by rfl) ?_; simp only [Act.put, List.setIfInBounds_toArray, List.set_cons_zero, List.set_cons_succ]) | (refine wpG_held_skip (by rfl) ?_; simp only [Act.put, List.setIfInBounds_toArray, List.set_cons_zero, List.set_cons_succ]) | (refine wpG_held (v := ?_) (by rfl) ?_ ?_; rotate_left; (focus (intro w' hSw; (try dsimp only at hSw); go_split_ands; first | (go_simp; with_reducible rfl) | (go_simp; done))); simp only [Act.put, List.setIfInBounds_toArray, List.set_cons_zero, List.set_cons_succ]))
    refine wpG_nil (NoPanic.normal ?_)
    go_wp2_with fail
    refine wp_region_G (fun _ => True) [(0, .at_), (1, .at_), (2, .at_), (3, .at_), (4, .at_), (5, .at_), (6, .at_), (7, .at_), (8, .at_), (9, .at_), (10, .at_), (11, .at_), (12, .at_), (13, .at_), (14, .at_), (15, .at_), (16, .at_), (17, .at_), (18, .at_), (19, .at_), (20, .at_), (21, .at_), (22, .at_), (23, .at_), (24, .at_), (25, .at_), (26, .at_), (27, .at_), (28, .at_), (29, .at_), (30, .at_), (31, .at_), (32, .at_), (33, .at_)] ?L8 (by kernel_rfl) (by kernel_rfl) ?hL8 (trivial) ?hG8
    case hL8 => simp only [pickOps, List.map_cons, List.map_nil, List.getD_cons_zero, List.getD_cons_succ]; rfl
    repeat (first | (refine wpG_at (v := ?_) (by rfl) ?_ ?_; rotate_left; (focus (first | (go_simp; with_reducible rfl) | (go_simp; done))); simp only [Act.put, List.setIfInBounds_toArray, List.set_cons_zero, List.set_cons_succ]) | (refine wpG_at_skip (by rfl) ?_; simp only [Act.put, List.setIfInBounds_toArray, List.set_cons_zero, List.set_cons_succ]) | (refine wpG_held_skip (by rfl) ?_; simp only [Act.put, List.setIfInBounds_toArray, List.set_cons_zero, List.set_cons_succ]) | (refine wpG_held (v := ?_) (by rfl) ?_ ?_; rotate_left; (focus (intro w' hSw; (try dsimp only at hSw); go_split_ands; first | (go_simp; with_reducible rfl) | (go_simp; done))); simp only [Act.put, List.setIfInBounds_toArray, List.set_cons_zero, List.set_cons_succ]))
    refine wpG_nil (NoPanic.normal ?_)
    go_wp2_with fail
    go_ret
    exact ⟨rfl, _, _, _, _, _, _, _, (h2.out.drew.kn k3).drew, .same, fun b hb => .inl hb, ((K2.drew.trans k3).drew).mono (fun _ h => h.elim)⟩
  · obtain ⟨k5, x0, hik5, hk5⟩ := hbb.1 rfl
    subst hik5
    have HG := hid (get_yes h2.out.ha.drew hI.ok hk5)
    have b6 : (k5 : Int) < (S.length : Int) := by have := (List.getElem?_eq_some_iff.1 hk5).1; omega
    have b7 : (0 : Int) ≤ (k5 : Int) := Int.natCast_nonneg _
    replace hI := hid hI
    replace hbb := hid hbb
    replace hk5 := hid hk5
    go_wp2_with fail
    refine wp_region_G (fun _ => True) [(0, .at_), (1, .at_), (2, .at_), (3, .at_), (4, .at_), (5, .eff), (6, .at_), (7, .at_), (8, .at_), (9, .at_), (10, .at_)] ?L9 (by kernel_rfl) (by kernel_rfl) ?hL9 (trivial) ?hG9
    case hL9 => simp only [pickOps, List.map_cons, List.map_nil, List.getD_cons_zero, List.getD_cons_succ]; rfl
    repeat (first | (refine wpG_at (v := ?_) (by rfl) ?_ ?_; rotate_left; (focus (first | (go_simp; with_reducible rfl) | (go_simp; done))); simp only [Act.put, List.setIfInBounds_toArray, List.set_cons_zero, List.set_cons_succ]) | (refine wpG_at_skip (by rfl) ?_; simp only [Act.put, List.setIfInBounds_toArray, List.set_cons_zero, List.set_cons_succ]) | (refine wpG_held_skip (by rfl) ?_; simp only [Act.put, List.setIfInBounds_toArray, List.set_cons_zero, List.set_cons_succ]) | (refine wpG_held (v := ?_) (by rfl) ?_ ?_; rotate_left; (focus (intro w' hSw; (try dsimp only at hSw); go_split_ands; first | (go_simp; with_reducible rfl) | (go_simp; done))); simp only [Act.put, List.setIfInBounds_toArray, List.set_cons_zero, List.set_cons_succ]))
    refine wpG_eff (by rfl) (fun K hK => ?_)
    go_simp
    refine HG.out.mono ?_
    rintro e w3 ⟨rfl, k3⟩
    have h3 := h2.out.drew.kn k3
    have Lg3 := loc3 h3.hg
    have Lw3 := h3.hw.cs
    have Le3 := h3.hw.es hk5.out
    have LX3 := loc2 (k3.get (blk_drew XB.out) (fun h => h))
    refine hK _ _ trivial ?_
    clear hK K
    clear Lg LX LA
    replace h3 := hid h3
    repeat (first | (refine wpG_at (v := ?_) (by rfl) ?_ ?_; rotate_left; (focus (first | (go_simp; with_reducible rfl) | (go_simp; done))); simp only [Act.put, List.setIfInBounds_toArray, List.set_cons_zero, List.set_cons_succ]) | (refine wpG_at_skip (by rfl) ?_; simp only [Act.put, List.setIfInBounds_toArray, List.set_cons_zero, List.set_cons_succ]) | (refine wpG_held_skip (by rfl) ?_; simp only [Act.put, List.setIfInBounds_toArray, List.set_cons_zero, List.set_cons_succ]) | (refine wpG_held (v := ?_) (by rfl) ?_ ?_; rotate_left; (focus (intro w' hSw; (try dsimp only at hSw); go_split_ands; first | (go_simp; with_reducible rfl) | (go_simp; done))); simp only [Act.put, List.setIfInBounds_toArray, List.set_cons_zero, List.set_cons_succ]))
    refine wpG_nil (NoPanic.normal ?_)
    go_wp2_with fail
    refine wp_region_G (fun _ => True) [(0, .at_), (1, .at_), (2, .at_), (3, .at_), (4, .at_), (5, .at_), (6, .at_), (7, .at_), (8, .at_), (9, .at_), (10, .at_), (11, .at_), (12, .at_), (13, .at_), (14, .at_), (15, .at_), (16, .at_), (17, .at_), (18, .at_), (19, .at_), (20, .at_), (21, .at_), (22, .at_), (23, .at_), (24, .at_), (25, .at_), (26, .at_), (27, .at_), (28, .at_), (29, .at_), (30, .at_), (31, .at_), (32, .at_), (33, .at_)] ?L10 (by kernel_rfl) (by kernel_rfl) ?hL10 (trivial) ?hG10
    case hL10 => simp only [pickOps, List.map_cons, List.map_nil, List.getD_cons_zero, List.getD_cons_succ]; rfl
    repeat (first | (refine wpG_at (v := ?_) (by rfl) ?_ ?_; rotate_left; (focus (first | (go_simp; with_reducible rfl) | (go_simp; done))); simp only [Act.put, List.setIfInBounds_toArray, List.set_cons_zero, List.set_cons_succ]) | (refine wpG_at_skip (by rfl) ?_; simp only [Act.put, List.setIfInBounds_toArray, List.set_cons_zero, List.set_cons_succ]) | (refine wpG_held_skip (by rfl) ?_; simp only [Act.put, List.setIfInBounds_toArray, List.set_cons_zero, List.set_cons_succ]) | (refine wpG_held (v := ?_) (by rfl) ?_ ?_; rotate_left; (focus (intro w' hSw; (try dsimp only at hSw); go_split_ands; first | (go_simp; with_reducible rfl) | (go_simp; done))); simp only [Act.put, List.setIfInBounds_toArray, List.set_cons_zero, List.set_cons_succ]))
    refine wpG_nil (NoPanic.normal ?_)
    go_wp2_with fail
    go_ret
    exact ⟨rfl, _, _, _, _, _, _, _, h3.out.drew, .same, fun b hb => .inl hb, ((K2.drew.trans k3).drew).mono (fun _ h => h.elim)⟩
set_option maxRecDepth 100000 in
set_option maxHeartbeats 8000000 in
theorem do2c (h : GAt N w pg p l r lb c v vb hv S B E H) (hI : AInv S B E) (hG : Gens S E G) (hGG : G ≤ 4096) (hH : H.length ≤ 4096) (hi hg at_ x : Int) (wat : -9223372036854775808 ≤ at_ ∧ at_ < 9223372036854775808) (c1 : 1 ≤ at_) (c2 : 0 < H.length) :
    Calls Try.prog 9 #[.pointer (some ⟨pg, 0, none⟩), .agg #[.int .i64 2, .int .i64 hi, .int .u64 hg, .int .i64 at_, .int .i64 x]] w fun e w' => e = .returned (.bool true) ∧ Done N w w' pg p l r lb c v vb hv S B E H := by
  obtain ⟨oh, ch, hhv, _⟩ := h.hh.form
  subst hhv
  have Lg := loc3 h.hg
  have up := ups Lg.2.2.2.2.2.2
  have n2 := hI.n2
  obtain ⟨b', c', A, hv', hb, hA, hcc, _⟩ := h.hh.pos eH_len c2
  injection hv' with hv1 _ hv3
  subst hv1; subst hv3
  have b2 : (0 : Int) < (H.length : Int) := by omega
  have w1 : IntKind.i64.wrap ((H.length : Int) - 1) = (H.length : Int) - 1 := wi_in (by omega)
  have w2 : IntKind.i64.wrap (at_ - 1) = at_ - 1 := wi_in (by omega)
  have hH0 : ¬ H = [] := by rintro rfl; simp at c2
  obtain ⟨k, hk, w3⟩ := back_idx at_ c1 c2 hH
  obtain ⟨⟨i, g⟩, hik⟩ : ∃ s, H[k]? = some s := ⟨_, List.getElem?_eq_getElem hk⟩
  have e0 : w.cell? ⟨b', k * 2, none⟩ = some (.int .i64 i) := by rw [cell_of hb]; exact hA k 0 _ hik (by omega)
  have e1 : w.cell? ⟨b', k * 2 + 1, none⟩ = some (.int .u64 g) := by rw [cell_of hb]; exact hA k 1 _ hik (by omega)
  have ub := ups (blk_lt hb)
  have b4 : (0 : Int) ≤ (k : Int) := Int.natCast_nonneg _
  have b5 : (k : Int) < (H.length : Int) := by omega
  replace hb := hid hb
  replace hik := hid hik
  replace h := hid h
  go_enter Try.func9, Try.ntmps9
  go_wp2_with fail
  refine wp_region_G (fun _ => True) [(0, .at_), (1, .at_), (2, .at_), (3, .at_), (4, .at_), (5, .at_), (6, .at_), (7, .at_), (8, .at_), (9, .at_), (10, .at_), (11, .at_), (12, .at_), (13, .at_), (14, .at_), (15, .at_), (16, .at_), (17, .at_), (18, .at_), (19, .at_), (20, .at_), (21, .at_), (22, .eff)] ?L11 (by kernel_rfl) (by kernel_rfl) ?hL11 (trivial) ?hG11
  case hL11 => simp only [pickOps, List.map_cons, List.map_nil, List.getD_cons_zero, List.getD_cons_succ]; rfl
  repeat (first | (refine wpG_at (v := ?_) (by rfl) ?_ ?_; rotate_left; (focus (first | (go_simp; with_reducible rfl) | (go_simp; done))); simp only [Act.put, List.setIfInBounds_toArray, List.set_cons_zero, List.set_cons_succ]) | (refine wpG_at_skip (by rfl) ?_; simp only [Act.put, List.setIfInBounds_toArray, List.set_cons_zero, List.set_cons_succ]) | (refine wpG_held_skip (by rfl) ?_; simp only [Act.put, List.setIfInBounds_toArray, List.set_cons_zero, List.set_cons_succ]) | (refine wpG_held (v := ?_) (by rfl) ?_ ?_; rotate_left; (focus (intro w' hSw; (try dsimp only at hSw); go_split_ands; first | (go_simp; with_reducible rfl) | (go_simp; done))); simp only [Act.put, List.setIfInBounds_toArray, List.set_cons_zero, List.set_cons_succ]))
  refine wpG_eff (by rfl) (fun K hK => ?_)
  go_simp
  refine hK _ _ trivial ?_
  clear hK K
  repeat (first | (refine wpG_at (v := ?_) (by rfl) ?_ ?_; rotate_left; (focus (first | (go_simp; with_reducible rfl) | (go_simp; done))); simp only [Act.put, List.setIfInBounds_toArray, List.set_cons_zero, List.set_cons_succ]) | (refine wpG_at_skip (by rfl) ?_; simp only [Act.put, List.setIfInBounds_toArray, List.set_cons_zero, List.set_cons_succ]) | (refine wpG_held_skip (by rfl) ?_; simp only [Act.put, List.setIfInBounds_toArray, List.set_cons_zero, List.set_cons_succ]) | (refine wpG_held (v := ?_) (by rfl) ?_ ?_; rotate_left; (focus (intro w' hSw; (try dsimp only at hSw); go_split_ands; first | (go_simp; with_reducible rfl) | (go_simp; done))); simp only [Act.put, List.setIfInBounds_toArray, List.set_cons_zero, List.set_cons_succ]))
  refine wpG_nil (NoPanic.normal ?_)
  clear e0 e1 ub b4 b5 w1 w2 w3
  go_wp2_with fail
  have X1 : (((w.alloc (.cells #[.int .i64 2, .int .i64 hi, .int .u64 hg, .int .i64 at_, .int .i64 x] 38)).alloc (.cells #[.int .i64 i, .int .u64 g] 36)).drew).heap[w.heap.size + 1]? = some (.cells #[.int .i64 i, .int .u64 g] 36 (0, 0)) := blk_drew (blk_new' _ _ (by simp))
  have X2 : (((w.alloc (.cells #[.int .i64 2, .int .i64 hi, .int .u64 hg, .int .i64 at_, .int .i64 x] 38)).alloc (.cells #[.int .i64 i, .int .u64 g] 36)).drew).heap[w.heap.size]? = some (.cells #[.int .i64 2, .int .i64 hi, .int .u64 hg, .int .i64 at_, .int .i64 x] 38 (0, 0)) := blk_drew (blk_alloc (blk_new _ _))
  have K1 : Kp NoB w (((w.alloc (.cells #[.int .i64 2, .int .i64 hi, .int .u64 hg, .int .i64 at_, .int .i64 x] 38)).alloc (.cells #[.int .i64 i, .int .u64 g] 36)).drew) := (((Kp.refl _ w).alloc _).alloc _).drew
  have h1 := h.out.kn K1
  have HIs := hid (is_any (h1.drew.hw) n2 i g)
  replace h1 := hid h1
  replace X1 := hid X1
  replace X2 := hid X2
  refine wp_region_G (fun _ => True) [(0, .at_), (1, .at_), (2, .at_), (3, .at_), (4, .at_), (5, .eff), (6, .at_)] ?L12 (by kernel_rfl) (by kernel_rfl) ?hL12 (trivial) ?hG12
  case hL12 => simp only [pickOps, List.map_cons, List.map_nil, List.getD_cons_zero, List.getD_cons_succ]; rfl
  repeat (first | (refine wpG_at (v := ?_) (by rfl) ?_ ?_; rotate_left; (focus (first | (go_simp; with_reducible rfl) | (go_simp; done))); simp only [Act.put, List.setIfInBounds_toArray, List.set_cons_zero, List.set_cons_succ]) | (refine wpG_at_skip (by rfl) ?_; simp only [Act.put, List.setIfInBounds_toArray, List.set_cons_zero, List.set_cons_succ]) | (refine wpG_held_skip (by rfl) ?_; simp only [Act.put, List.setIfInBounds_toArray, List.set_cons_zero, List.set_cons_succ]) | (refine wpG_held (v := ?_) (by rfl) ?_ ?_; rotate_left; (focus (intro w' hSw; (try dsimp only at hSw); go_split_ands; first | (go_simp; with_reducible rfl) | (go_simp; done))); simp only [Act.put, List.setIfInBounds_toArray, List.set_cons_zero, List.set_cons_succ]))
  refine wpG_eff (by rfl) (fun K hK => ?_)
  go_simp
  refine HIs.out.mono ?_
  rintro e wc ⟨bb, rfl, hbb, k2⟩
  refine hK _ _ trivial ?_
  clear hK K
  repeat (first | (refine wpG_at (v := ?_) (by rfl) ?_ ?_; rotate_left; (focus (first | (go_simp; with_reducible rfl) | (go_simp; done))); simp only [Act.put, List.setIfInBounds_toArray, List.set_cons_zero, List.set_cons_succ]) | (refine wpG_at_skip (by rfl) ?_; simp only [Act.put, List.setIfInBounds_toArray, List.set_cons_zero, List.set_cons_succ]) | (refine wpG_held_skip (by rfl) ?_; simp only [Act.put, List.setIfInBounds_toArray, List.set_cons_zero, List.set_cons_succ]) | (refine wpG_held (v := ?_) (by rfl) ?_ ?_; rotate_left; (focus (intro w' hSw; (try dsimp only at hSw); go_split_ands; first | (go_simp; with_reducible rfl) | (go_simp; done))); simp only [Act.put, List.setIfInBounds_toArray, List.set_cons_zero, List.set_cons_succ]))
  refine wpG_nil (NoPanic.normal ?_)
  have h2 := h1.out.drew.kn k2
  have XB := k2.get (blk_drew X1.out) (fun h => h)
  have XA := k2.get (blk_drew X2.out) (fun h => h)
  have K2 := K1.drew.trans k2
  clear h1 K1 k2 HIs Lg up X1 X2
  have Lg := loc3 h2.hg
  have LX := loc2 XB
  have LA := loc5 XA
  replace h2 := hid h2
  replace XB := hid XB
  replace XA := hid XA
  cases bb
  · have HG := hid (get_no h2.out.ha.drew hI.ok (i := i) (g := g) (fun h => absurd (hbb.2 h) (by decide)))
    replace hI := hid hI
    replace hbb := hid hbb
    go_wp2_with fail
    refine wp_region_G (fun _ => True) [(0, .at_), (1, .at_), (2, .at_), (3, .at_), (4, .at_), (5, .eff), (6, .at_), (7, .at_), (8, .at_), (9, .at_), (10, .at_)] ?L13 (by kernel_rfl) (by kernel_rfl) ?hL13 (trivial) ?hG13
    case hL13 => simp only [pickOps, List.map_cons, List.map_nil, List.getD_cons_zero, List.getD_cons_succ]; rfl
    repeat (first | (refine wpG_at (v := ?_) (by rfl) ?_ ?_; rotate_left; (focus (first | (go_simp; with_reducible rfl) | (go_simp; done))); simp only [Act.put, List.setIfInBounds_toArray, List.set_cons_zero, List.set_cons_succ]) | (refine wpG_at_skip (by rfl) ?_; simp only [Act.put, List.setIfInBounds_toArray, List.set_cons_zero, List.set_cons_succ]) | (refine wpG_held_skip (by rfl) ?_; simp only [Act.put, List.setIfInBounds_toArray, List.set_cons_zero, List.set_cons_succ]) | (refine wpG_held (v := ?_) (by rfl) ?_ ?_; rotate_left; (focus (intro w' hSw; (try dsimp only at hSw); go_split_ands; first | (go_simp; with_reducible rfl) | (go_simp; done))); simp only [Act.put, List.setIfInBounds_toArray, List.set_cons_zero, List.set_cons_succ]))
    refine wpG_eff (by rfl) (fun K hK => ?_)
    go_simp
    refine HG.out.mono ?_
    rintro e w3 ⟨rfl, k3⟩
    refine hK _ _ trivial ?_
    clear hK K
    repeat (first | (refine wpG_at (v := ?_) (by rfl) ?_ ?_; rotate_left; (focus (first | (go_simp; with_reducible rfl) | (go_simp; done))); simp only [Act.put, List.setIfInBounds_toArray, List.set_cons_zero, List.set_cons_succ]) | (refine wpG_at_skip (by rfl) ?_; simp only [Act.put, List.setIfInBounds_toArray, List.set_cons_zero, List.set_cons_succ]) | (refine wpG_held_skip (by rfl) ?_; simp only [Act.put, List.setIfInBounds_toArray, List.set_cons_zero, List.set_cons_succ]) | (refine wpG_held (v := ?_) (by rfl) ?_ ?_; rotate_left; (focus (intro w' hSw; (try dsimp only at hSw); go_split_ands; first | (go_simp; with_reducible rfl) | (go_simp; done))); simp only [Act.put, List.setIfInBounds_toArray, List.set_cons_zero, List.set_cons_succ]))
    refine wpG_nil (NoPanic.normal ?_)
    go_wp2_with fail
    refine wp_region_G (fun _ => True) [(0, .at_), (1, .at_), (2, .at_), (3, .at_), (4, .at_), (5, .at_), (6, .at_), (7, .at_), (8, .at_), (9, .at_), (10, .at_), (11, .at_), (12, .at_), (13, .at_), (14, .at_), (15, .at_), (16, .at_), (17, .at_), (18, .at_), (19, .at_), (20, .at_), (21, .at_), (22, .at_), (23, .at_), (24, .at_), (25, .at_), (26, .at_), (27, .at_), (28, .at_), (29, .at_), (30, .at_), (31, .at_), (32, .at_), (33, .at_)] ?L14 (by kernel_rfl) (by kernel_rfl) ?hL14 (trivial) ?hG14
    case hL14 => simp only [pickOps, List.map_cons, List.map_nil, List.getD_cons_zero, List.getD_cons_succ]; rfl
    repeat (first | (refine wpG_at (v := ?_) (by rfl) ?_ ?_; rotate_left; (focus (first | (go_simp; with_reducible rfl) | (go_simp; done))); simp only [Act.put, List.setIfInBounds_toArray, List.set_cons_zero, List.set_cons_succ]) | (refine wpG_at_skip (by rfl) ?_; simp only [Act.put, List.setIfInBounds_toArray, List.set_cons_zero, List.set_cons_succ]) | (refine wpG_held_skip (by rfl) ?_; simp only [Act.put, List.setIfInBounds_toArray, List.set_cons_zero, List.set_cons_succ]) | (refine wpG_held (v := ?_) (by rfl) ?_ ?_; rotate_left; (focus (intro w' hSw; (try dsimp only at hSw); go_split_ands; first | (go_simp; with_reducible rfl) | (go_simp; done))); simp only [Act.put, List.setIfInBounds_toArray, List.set_cons_zero, List.set_cons_succ]))
    refine wpG_nil (NoPanic.normal ?_)
    go_wp2_with fail
    go_ret
    exact ⟨rfl, _, _, _, _, _, _, _, (h2.out.drew.kn k3).drew, .same, fun b hb => .inl hb, ((K2.drew.trans k3).drew).mono (fun _ h => h.elim)⟩
  · obtain ⟨k5, x0, hik5, hk5⟩ := hbb.1 rfl
    have hik6 := (Int.ofNat.inj hik5).symm; subst hik6
    have HG := hid (get_yes h2.out.ha.drew hI.ok hk5)
    have b6 : (k5 : Int) < (S.length : Int) := by have := (List.getElem?_eq_some_iff.1 hk5).1; omega
    have b7 : (0 : Int) ≤ (k5 : Int) := Int.natCast_nonneg _
    replace hI := hid hI
    replace hbb := hid hbb
    replace hk5 := hid hk5
    go_wp2_with fail
    refine wp_region_G (fun _ => True) [(0, .at_), (1, .at_), (2, .at_), (3, .at_), (4, .at_), (5, .eff), (6, .at_), (7, .at_), (8, .at_), (9, .at_), (10, .at_)] ?L15 (by kernel_rfl) (by kernel_rfl) ?hL15 (trivial) ?hG15
    case hL15 => simp only [pickOps, List.map_cons, List.map_nil, List.getD_cons_zero, List.getD_cons_succ]; rfl
    repeat (first | (refine wpG_at (v := ?_) (by rfl) ?_ ?_; rotate_left; (focus (first | (go_simp; with_reducible rfl) | (go_simp; done))); simp only [Act.put, List.setIfInBounds_toArray, List.set_cons_zero, List.set_cons_succ]) | (refine wpG_at_skip (by rfl) ?_; simp only [Act.put, List.setIfInBounds_toArray, List.set_cons_zero, List.set_cons_succ]) | (refine wpG_held_skip (by rfl) ?_; simp only [Act.put, List.setIfInBounds_toArray, List.set_cons_zero, List.set_cons_succ]) | (refine wpG_held (v := ?_) (by rfl) ?_ ?_; rotate_left; (focus (intro w' hSw; (try dsimp only at hSw); go_split_ands; first | (go_simp; with_reducible rfl) | (go_simp; done))); simp only [Act.put, List.setIfInBounds_toArray, List.set_cons_zero, List.set_cons_succ]))
    refine wpG_eff (by rfl) (fun K hK => ?_)
    go_simp
    refine HG.out.mono ?_
    rintro e w3 ⟨rfl, k3⟩
    have h3 := h2.out.drew.kn k3
    have Lg3 := loc3 h3.hg
    have Lw3 := h3.hw.cs
    have Le3 := h3.hw.es hk5.out
    have LX3 := loc2 (k3.get (blk_drew XB.out) (fun h => h))
    refine hK _ _ trivial ?_
    clear hK K
    clear Lg LX LA
    replace h3 := hid h3
    repeat (first | (refine wpG_at (v := ?_) (by rfl) ?_ ?_; rotate_left; (focus (first | (go_simp; with_reducible rfl) | (go_simp; done))); simp only [Act.put, List.setIfInBounds_toArray, List.set_cons_zero, List.set_cons_succ]) | (refine wpG_at_skip (by rfl) ?_; simp only [Act.put, List.setIfInBounds_toArray, List.set_cons_zero, List.set_cons_succ]) | (refine wpG_held_skip (by rfl) ?_; simp only [Act.put, List.setIfInBounds_toArray, List.set_cons_zero, List.set_cons_succ]) | (refine wpG_held (v := ?_) (by rfl) ?_ ?_; rotate_left; (focus (intro w' hSw; (try dsimp only at hSw); go_split_ands; first | (go_simp; with_reducible rfl) | (go_simp; done))); simp only [Act.put, List.setIfInBounds_toArray, List.set_cons_zero, List.set_cons_succ]))
    refine wpG_nil (NoPanic.normal ?_)
    go_wp2_with fail
    refine wp_region_G (fun _ => True) [(0, .at_), (1, .at_), (2, .at_), (3, .at_), (4, .at_), (5, .at_), (6, .at_), (7, .at_), (8, .at_), (9, .at_), (10, .at_), (11, .at_), (12, .at_), (13, .at_), (14, .at_), (15, .at_), (16, .at_), (17, .at_), (18, .at_), (19, .at_), (20, .at_), (21, .at_), (22, .at_), (23, .at_), (24, .at_), (25, .at_), (26, .at_), (27, .at_), (28, .at_), (29, .at_), (30, .at_), (31, .at_), (32, .at_), (33, .at_)] ?L16 (by kernel_rfl) (by kernel_rfl) ?hL16 (trivial) ?hG16
    case hL16 => simp only [pickOps, List.map_cons, List.map_nil, List.getD_cons_zero, List.getD_cons_succ]; rfl
    repeat (first | (refine wpG_at (v := ?_) (by rfl) ?_ ?_; rotate_left; (focus (first | (go_simp; with_reducible rfl) | (go_simp; done))); simp only [Act.put, List.setIfInBounds_toArray, List.set_cons_zero, List.set_cons_succ]) | (refine wpG_at_skip (by rfl) ?_; simp only [Act.put, List.setIfInBounds_toArray, List.set_cons_zero, List.set_cons_succ]) | (refine wpG_held_skip (by rfl) ?_; simp only [Act.put, List.setIfInBounds_toArray, List.set_cons_zero, List.set_cons_succ]) | (refine wpG_held (v := ?_) (by rfl) ?_ ?_; rotate_left; (focus (intro w' hSw; (try dsimp only at hSw); go_split_ands; first | (go_simp; with_reducible rfl) | (go_simp; done))); simp only [Act.put, List.setIfInBounds_toArray, List.set_cons_zero, List.set_cons_succ]))
    refine wpG_nil (NoPanic.normal ?_)
    go_wp2_with fail
    go_ret
    exact ⟨rfl, _, _, _, _, _, _, _, h3.out.drew, .same, fun b hb => .inl hb, ((K2.drew.trans k3).drew).mono (fun _ h => h.elim)⟩
theorem do2 (h : GAt N w pg p l r lb c v vb hv S B E H) (hI : AInv S B E) (hG : Gens S E G) (hGG : G ≤ 4096) (hH : H.length ≤ 4096) (hi hg at_ x : Int) (wat : -9223372036854775808 ≤ at_ ∧ at_ < 9223372036854775808) :
    Calls Try.prog 9 #[.pointer (some ⟨pg, 0, none⟩), .agg #[.int .i64 2, .int .i64 hi, .int .u64 hg, .int .i64 at_, .int .i64 x]] w fun e w' => e = .returned (.bool true) ∧ Done N w w' pg p l r lb c v vb hv S B E H := by
  by_cases c1 : at_ < 1
  · exact do2a h hI hG hGG hH hi hg at_ x wat c1
  · by_cases c2 : H.length = 0
    · exact do2b h hI hG hGG hH hi hg at_ x wat (by omega) c2
    · exact do2c h hI hG hGG hH hi hg at_ x wat (by omega) (by omega)
end
end Go.Proofs.Ytldkogdkadgnkaa
