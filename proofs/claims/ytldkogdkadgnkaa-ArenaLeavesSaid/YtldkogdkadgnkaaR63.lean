/- Walks through a game: an act of the kind 3. -/
import Derived.Test.YtldkogdkadgnkaaR6
namespace Go.Proofs.Ytldkogdkadgnkaa
set_option linter.unusedSimpArgs false
set_option linter.unusedVariables false
open Go.RowKit
attribute [local go_sem ↓] Go.wp_at_zero Go.wp_at_succ
section
variable {N : Nat} {w w' : World} {pg p l r lb c : Nat} {v vb hv : Value} {S : List (Int × Int × Bool)} {B : List Nat} {E : Nat} {H : List (Nat × Int)} {G : Int}
set_option maxRecDepth 100000 in
set_option maxHeartbeats 8000000 in
theorem do3a (h : GAt N w pg p l r lb c v vb hv S B E H) (hI : AInv S B E) (hG : Gens S E G) (hGG : G ≤ 4096) (hH : H.length ≤ 4096) (hi hg at_ x : Int) (wat : -9223372036854775808 ≤ at_ ∧ at_ < 9223372036854775808) (c1 : at_ < 1) :
    Calls Try.prog 9 #[.pointer (some ⟨pg, 0, none⟩), .agg #[.int .i64 3, .int .i64 hi, .int .u64 hg, .int .i64 at_, .int .i64 x]] w fun e w' => e = .returned (.bool true) ∧ Done N w w' pg p l r lb c v vb hv S B E H := by
  obtain ⟨oh, ch, hhv, _⟩ := h.hh.form
  subst hhv
  have Lg := loc3 h.hg
  have up := ups Lg.2.2.2.2.2.2
  have n2 := hI.n2
  replace h := hid h
  go_enter Try.func9, Try.ntmps9
  go_wp2_with fail
  have X1 : ((w.alloc (.cells #[.int .i64 3, .int .i64 hi, .int .u64 hg, .int .i64 at_, .int .i64 x] 38)).alloc (.cells #[.int .i64 hi, .int .u64 hg] 36)).heap[w.heap.size + 1]? = some (.cells #[.int .i64 hi, .int .u64 hg] 36 (0, 0)) := blk_new' _ _ (by simp)
  have X2 : ((w.alloc (.cells #[.int .i64 3, .int .i64 hi, .int .u64 hg, .int .i64 at_, .int .i64 x] 38)).alloc (.cells #[.int .i64 hi, .int .u64 hg] 36)).heap[w.heap.size]? = some (.cells #[.int .i64 3, .int .i64 hi, .int .u64 hg, .int .i64 at_, .int .i64 x] 38 (0, 0)) := blk_alloc (blk_new _ _)
  have K1 : Kp NoB w ((w.alloc (.cells #[.int .i64 3, .int .i64 hi, .int .u64 hg, .int .i64 at_, .int .i64 x] 38)).alloc (.cells #[.int .i64 hi, .int .u64 hg] 36)) := ((Kp.refl _ w).alloc _).alloc _
  have h1 := h.out.kn K1
  have HIs := hid (is_any (h1.drew.hw) n2 hi hg)
  replace h1 := hid h1
  replace X1 := hid X1
  replace X2 := hid X2
  refine wp_region_G (fun _ => True) [(0, .at_), (1, .at_), (2, .at_), (3, .at_), (4, .at_), (5, .eff), (6, .at_)] ?L1 (by kernel_rfl) (by kernel_rfl) ?hL1 (trivial) ?hG1
  case hL1 => simp only [pickOps, List.map_cons, List.map_nil, List.getD_cons_zero, List.getD_cons_succ]; rfl
  repeat (first | (refine wpG_at (v := ?_) (by rfl) ?_ ?_; rotate_left; (focus (first | (go_simp; with_reducible rfl) | (go_simp; done))); simp only [Act.put, List.setIfInBounds_toArray, List.set_cons_zero, List.set_cons_succ]) | (refine wpG_at_skip (by rfl) ?_; simp only [Act.put, List.setIfInBounds_toArray, List.set_cons_zero, List.set_cons_succ]) | (refine wpG_held_skip (by rfl) ?_; simp only [Act.put, List.setIfInBounds_toArray, List.set_cons_zero, List.set_cons_succ]) | (refine wpG_held (v := ?_) (by rfl) ?_ ?_; rotate_left; (focus (intro w' hSw; (try dsimp only at hSw); go_split_ands; first | (go_simp; with_reducible rfl) | (go_simp; done))); simp only [Act.put, List.setIfInBounds_toArray, List.set_cons_zero, List.set_cons_succ]))
  refine wpG_eff (by rfl) (fun K hK => ?_)
  go_simp
  refine HIs.out.mono ?_
  rintro e wc ⟨bb, rfl, hbb, k2⟩
  refine hK _ _ trivial ?_
  clear hK K
  repeat (first | (refine wpG_at (v := ?_) (by rfl) ?_ ?_; rotate_left; (focus (first | (go_simp; with_reducible rfl) | (go_simp; done))); simp only [Act.put, List.setIfInBounds_toArray, List.set_cons_zero, List.set_cons_succ]) | (refine wpG_at_skip (by rfl) ?_; simp only [Act.put, List.setIfInBounds_toArray, List.set_cons_zero, List.set_cons_succ]) | (refine wpG_held_skip (by rfl) ?_; simp only [Act.put, List.setIfInBounds_toArray, List.set_cons_zero, List.set_cons_succ]) | (refine wpG_held (v := ?_) (by rfl) ?_ ?_; rotate_left; (focus (intro w' hSw; (try dsimp only at hSw); go_split_ands; first | (go_simp; with_reducible rfl) | (go_simp; done))); simp only [Act.put, List.setIfInBounds_toArray, List.set_cons_zero, List.set_cons_succ]))
  refine wpG_nil (NoPanic.normal ?_)
  have h2 := h1.out.drew.kn k2
  have XB := k2.get (blk_drew X1.out) (fun h => h)
  have XA := k2.get (blk_drew X2.out) (fun h => h)
  have K2 := K1.drew.trans k2
  clear h1 K1 k2 HIs Lg up X1 X2
  have Lg := loc3 h2.hg
  have LX := loc2 XB
  have LA := loc5 XA
  replace h2 := hid h2
  replace XB := hid XB
  replace XA := hid XA
  cases bb
  · have HG := hid (set_no h2.out.ha.drew hI.ok (i := hi) (g := hg) (y := x) (fun h => absurd (hbb.2 h) (by decide)))
    replace hI := hid hI
    replace hbb := hid hbb
    go_wp2_with fail
    refine wp_region_G (fun _ => True) [(0, .at_), (1, .at_), (2, .at_), (3, .at_), (4, .at_), (5, .at_), (6, .at_), (7, .eff), (8, .at_)] ?L2 (by kernel_rfl) (by kernel_rfl) ?hL2 (trivial) ?hG2
    case hL2 => simp only [pickOps, List.map_cons, List.map_nil, List.getD_cons_zero, List.getD_cons_succ]; rfl
    repeat (first | (refine wpG_at (v := ?_) (by rfl) ?_ ?_; rotate_left; (focus (first | (go_simp; with_reducible rfl) | (go_simp; done))); simp only [Act.put, List.setIfInBounds_toArray, List.set_cons_zero, List.set_cons_succ]) | (refine wpG_at_skip (by rfl) ?_; simp only [Act.put, List.setIfInBounds_toArray, List.set_cons_zero, List.set_cons_succ]) | (refine wpG_held_skip (by rfl) ?_; simp only [Act.put, List.setIfInBounds_toArray, List.set_cons_zero, List.set_cons_succ]) | (refine wpG_held (v := ?_) (by rfl) ?_ ?_; rotate_left; (focus (intro w' hSw; (try dsimp only at hSw); go_split_ands; first | (go_simp; with_reducible rfl) | (go_simp; done))); simp only [Act.put, List.setIfInBounds_toArray, List.set_cons_zero, List.set_cons_succ]))
    refine wpG_eff (by rfl) (fun K hK => ?_)
    go_simp
    refine HG.out.mono ?_
    rintro e w3 ⟨rfl, k3⟩
    refine hK _ _ trivial ?_
    clear hK K
    repeat (first | (refine wpG_at (v := ?_) (by rfl) ?_ ?_; rotate_left; (focus (first | (go_simp; with_reducible rfl) | (go_simp; done))); simp only [Act.put, List.setIfInBounds_toArray, List.set_cons_zero, List.set_cons_succ]) | (refine wpG_at_skip (by rfl) ?_; simp only [Act.put, List.setIfInBounds_toArray, List.set_cons_zero, List.set_cons_succ]) | (refine wpG_held_skip (by rfl) ?_; simp only [Act.put, List.setIfInBounds_toArray, List.set_cons_zero, List.set_cons_succ]) | (refine wpG_held (v := ?_) (by rfl) ?_ ?_; rotate_left; (focus (intro w' hSw; (try dsimp only at hSw); go_split_ands; first | (go_simp; with_reducible rfl) | (go_simp; done))); simp only [Act.put, List.setIfInBounds_toArray, List.set_cons_zero, List.set_cons_succ]))
    refine wpG_nil (NoPanic.normal ?_)
    go_wp2_with fail
    go_ret
    exact ⟨rfl, _, _, _, _, _, _, _, (h2.out.drew.kn k3), .same, fun b hb => .inl hb, ((K2.drew.trans k3)).mono (fun _ h => h.elim)⟩
  · obtain ⟨k5, x0, hik5, hk5⟩ := hbb.1 rfl
    subst hik5
    have HG := hid (set_yes h2.out.ha.drew hI.ok x hk5)
    have hlt5 := (List.getElem?_eq_some_iff.1 hk5).1
    have b6 : (k5 : Int) < (S.length : Int) := by omega
    have b7 : (0 : Int) ≤ (k5 : Int) := Int.natCast_nonneg _
    replace hI := hid hI
    replace hbb := hid hbb
    replace hk5 := hid hk5
    go_wp2_with fail
    refine wp_region_G (fun _ => True) [(0, .at_), (1, .at_), (2, .at_), (3, .at_), (4, .at_), (5, .at_), (6, .at_), (7, .eff), (8, .at_)] ?L3 (by kernel_rfl) (by kernel_rfl) ?hL3 (trivial) ?hG3
    case hL3 => simp only [pickOps, List.map_cons, List.map_nil, List.getD_cons_zero, List.getD_cons_succ]; rfl
    repeat (first | (refine wpG_at (v := ?_) (by rfl) ?_ ?_; rotate_left; (focus (first | (go_simp; with_reducible rfl) | (go_simp; done))); simp only [Act.put, List.setIfInBounds_toArray, List.set_cons_zero, List.set_cons_succ]) | (refine wpG_at_skip (by rfl) ?_; simp only [Act.put, List.setIfInBounds_toArray, List.set_cons_zero, List.set_cons_succ]) | (refine wpG_held_skip (by rfl) ?_; simp only [Act.put, List.setIfInBounds_toArray, List.set_cons_zero, List.set_cons_succ]) | (refine wpG_held (v := ?_) (by rfl) ?_ ?_; rotate_left; (focus (intro w' hSw; (try dsimp only at hSw); go_split_ands; first | (go_simp; with_reducible rfl) | (go_simp; done))); simp only [Act.put, List.setIfInBounds_toArray, List.set_cons_zero, List.set_cons_succ]))
    refine wpG_eff (by rfl) (fun K hK => ?_)
    go_simp
    refine HG.out.mono ?_
    rintro e w3 ⟨rfl, A3, k3⟩
    have h2d := h2.out.drew
    obtain ⟨z1, z2, z3, z4, z5, z6, z7, z8, z9, z10⟩ := h2d.ne
    obtain ⟨⟨y1, y2, y3, y4⟩, ⟨y5, y6, y7, y8⟩, y9, y10, y11, y12, y13⟩ := h2d.ow
    have W3 := h2d.hw.kp k3 (Ne.symm z8) (Ne.symm z9) (fun b hb e => y7 (by rw [hb, e]))
    have R3 := h2d.hh.kp k3 (fun b hb e => y11 (by rw [hb, e]))
    have G3 := k3.get h2d.hg z2
    have Lg3 := loc3 G3
    have Lw3 := W3.cs
    have Le3 := W3.es hk5.out
    have nXl := fun (e : w.heap.size + 1 = l) => ne_of_types (blk_drew XB.out) h2d.ha.hl (by decide) e
    have nAl := fun (e : w.heap.size = l) => ne_of_types (blk_drew XA.out) h2d.ha.hl (by decide) e
    have LX3 := loc2 (k3.get (blk_drew XB.out) nXl)
    have LA3 := loc5 (k3.get (blk_drew XA.out) nAl)
    have WX := hid (W3.drew.xc (x' := x) hk5.out)
    replace G3 := hid G3
    replace W3 := hid W3
    replace R3 := hid R3
    replace A3 := hid A3
    refine hK _ _ trivial ?_
    clear hK K
    clear Lg LX LA
    replace h2d := hid h2d
    repeat (first | (refine wpG_at (v := ?_) (by rfl) ?_ ?_; rotate_left; (focus (first | (go_simp; with_reducible rfl) | (go_simp; done))); simp only [Act.put, List.setIfInBounds_toArray, List.set_cons_zero, List.set_cons_succ]) | (refine wpG_at_skip (by rfl) ?_; simp only [Act.put, List.setIfInBounds_toArray, List.set_cons_zero, List.set_cons_succ]) | (refine wpG_held_skip (by rfl) ?_; simp only [Act.put, List.setIfInBounds_toArray, List.set_cons_zero, List.set_cons_succ]) | (refine wpG_held (v := ?_) (by rfl) ?_ ?_; rotate_left; (focus (intro w' hSw; (try dsimp only at hSw); go_split_ands; first | (go_simp; with_reducible rfl) | (go_simp; done))); simp only [Act.put, List.setIfInBounds_toArray, List.set_cons_zero, List.set_cons_succ]))
    refine wpG_nil (NoPanic.normal ?_)
    go_wp2_with fail
    refine wp_region_G (fun _ => True) [(0, .at_), (1, .at_), (2, .at_), (3, .at_), (4, .at_), (5, .at_), (6, .at_), (7, .at_), (8, .at_), (9, .at_), (10, .at_), (11, .at_), (12, .at_), (13, .eff)] ?L4 (by kernel_rfl) (by kernel_rfl) ?hL4 (trivial) ?hG4
    case hL4 => simp only [pickOps, List.map_cons, List.map_nil, List.getD_cons_zero, List.getD_cons_succ]; rfl
    repeat (first | (refine wpG_at (v := ?_) (by rfl) ?_ ?_; rotate_left; (focus (first | (go_simp; with_reducible rfl) | (go_simp; done))); simp only [Act.put, List.setIfInBounds_toArray, List.set_cons_zero, List.set_cons_succ]) | (refine wpG_at_skip (by rfl) ?_; simp only [Act.put, List.setIfInBounds_toArray, List.set_cons_zero, List.set_cons_succ]) | (refine wpG_held_skip (by rfl) ?_; simp only [Act.put, List.setIfInBounds_toArray, List.set_cons_zero, List.set_cons_succ]) | (refine wpG_held (v := ?_) (by rfl) ?_ ?_; rotate_left; (focus (intro w' hSw; (try dsimp only at hSw); go_split_ands; first | (go_simp; with_reducible rfl) | (go_simp; done))); simp only [Act.put, List.setIfInBounds_toArray, List.set_cons_zero, List.set_cons_succ]))
    refine wpG_eff (by rfl) (fun K hK => ?_)
    go_simp
    refine hK _ _ trivial ?_
    clear hK K
    repeat (first | (refine wpG_at (v := ?_) (by rfl) ?_ ?_; rotate_left; (focus (first | (go_simp; with_reducible rfl) | (go_simp; done))); simp only [Act.put, List.setIfInBounds_toArray, List.set_cons_zero, List.set_cons_succ]) | (refine wpG_at_skip (by rfl) ?_; simp only [Act.put, List.setIfInBounds_toArray, List.set_cons_zero, List.set_cons_succ]) | (refine wpG_held_skip (by rfl) ?_; simp only [Act.put, List.setIfInBounds_toArray, List.set_cons_zero, List.set_cons_succ]) | (refine wpG_held (v := ?_) (by rfl) ?_ ?_; rotate_left; (focus (intro w' hSw; (try dsimp only at hSw); go_split_ands; first | (go_simp; with_reducible rfl) | (go_simp; done))); simp only [Act.put, List.setIfInBounds_toArray, List.set_cons_zero, List.set_cons_succ]))
    refine wpG_nil (NoPanic.normal ?_)
    go_wp2_with fail
    go_ret
    refine ⟨rfl, v, vb, _, _, B, E, H, ⟨blk_far (blk_drew G3.out) _ z4, A3.out.drew.far _ _ z7 z9 (by simpa using y3), WX.out, R3.out.drew.setCell _ _ (by simpa using y13), h2d.out.vv, h2d.out.nn, h2d.out.nv, h2d.out.nb, h2d.out.nh⟩, .set k5 x0 _ x hk5.out, fun b hb => .inl hb, ?_⟩
    refine Kp.drew (Kp.setCell ?_ _ (fun _ => .inr (.inr (.inr (.inr (.inl rfl))))))
    exact ((((K2.mono (G := FP pg p l r lb v vb (.slice oh H.length ch)) (fun _ h => h.elim)).drew).trans (k3.mono (fun b e => .inr (.inr (.inl e))))))
set_option maxRecDepth 100000 in
set_option maxHeartbeats 8000000 in
theorem do3b (h : GAt N w pg p l r lb c v vb hv S B E H) (hI : AInv S B E) (hG : Gens S E G) (hGG : G ≤ 4096) (hH : H.length ≤ 4096) (hi hg at_ x : Int) (wat : -9223372036854775808 ≤ at_ ∧ at_ < 9223372036854775808) (c1 : 1 ≤ at_) (c2 : H.length = 0) :
    Calls Try.prog 9 #[.pointer (some ⟨pg, 0, none⟩), .agg #[.int .i64 3, .int .i64 hi, .int .u64 hg, .int .i64 at_, .int .i64 x]] w fun e w' => e = .returned (.bool true) ∧ Done N w w' pg p l r lb c v vb hv S B E H := by
  obtain ⟨oh, ch, hhv, _⟩ := h.hh.form
  subst hhv
  have Lg := loc3 h.hg
  have up := ups Lg.2.2.2.2.2.2
  have n2 := hI.n2
  have b2 : ¬ (0 : Int) < (H.length : Int) := by omega
  replace h := hid h
  go_enter Try.func9, Try.ntmps9
  go_wp2_with fail
  have X1 : ((w.alloc (.cells #[.int .i64 3, .int .i64 hi, .int .u64 hg, .int .i64 at_, .int .i64 x] 38)).alloc (.cells #[.int .i64 hi, .int .u64 hg] 36)).heap[w.heap.size + 1]? = some (.cells #[.int .i64 hi, .int .u64 hg] 36 (0, 0)) := blk_new' _ _ (by simp)
  have X2 : ((w.alloc (.cells #[.int .i64 3, .int .i64 hi, .int .u64 hg, .int .i64 at_, .int .i64 x] 38)).alloc (.cells #[.int .i64 hi, .int .u64 hg] 36)).heap[w.heap.size]? = some (.cells #[.int .i64 3, .int .i64 hi, .int .u64 hg, .int .i64 at_, .int .i64 x] 38 (0, 0)) := blk_alloc (blk_new _ _)
  have K1 : Kp NoB w ((w.alloc (.cells #[.int .i64 3, .int .i64 hi, .int .u64 hg, .int .i64 at_, .int .i64 x] 38)).alloc (.cells #[.int .i64 hi, .int .u64 hg] 36)) := ((Kp.refl _ w).alloc _).alloc _
  have h1 := h.out.kn K1
  have HIs := hid (is_any (h1.drew.hw) n2 hi hg)
  replace h1 := hid h1
  replace X1 := hid X1
  replace X2 := hid X2
  refine wp_region_G (fun _ => True) [(0, .at_), (1, .at_), (2, .at_), (3, .at_), (4, .at_), (5, .eff), (6, .at_)] ?L5 (by kernel_rfl) (by kernel_rfl) ?hL5 (trivial) ?hG5
  case hL5 => simp only [pickOps, List.map_cons, List.map_nil, List.getD_cons_zero, List.getD_cons_succ]; rfl
  repeat (first | (refine wpG_at (v := ?_) (by rfl) ?_ ?_; rotate_left; (focus (first | (go_simp; with_reducible rfl) | (go_simp; done))); simp only [Act.put, List.setIfInBounds_toArray, List.set_cons_zero, List.set_cons_succ]) | (refine wpG_at_skip (by rfl) ?_; simp only [Act.put, List.setIfInBounds_toArray, List.set_cons_zero, List.set_cons_succ]) | (refine wpG_held_skip (by rfl) ?_; simp only [Act.put, List.setIfInBounds_toArray, List.set_cons_zero, List.set_cons_succ]) | (refine wpG_held (v := ?_) (by rfl) ?_ ?_; rotate_left; (focus (intro w' hSw; (try dsimp only at hSw); go_split_ands; first | (go_simp; with_reducible rfl) | (go_simp; done))); simp only [Act.put, List.setIfInBounds_toArray, List.set_cons_zero, List.set_cons_succ]))
  refine wpG_eff (by rfl) (fun K hK => ?_)
  go_simp
  refine HIs.out.mono ?_
  rintro e wc ⟨bb, rfl, hbb, k2⟩
  refine hK _ _ trivial ?_
  clear hK K
  repeat (first | (refine wpG_at (v := ?_) (by rfl) ?_ ?_; rotate_left; (focus (first | (go_simp; with_reducible rfl) | (go_simp; done))); simp only [Act.put, List.setIfInBounds_toArray, List.set_cons_zero, List.set_cons_succ]) | (refine wpG_at_skip (by rfl) ?_; simp only [Act.put, List.setIfInBounds_toArray, List.set_cons_zero, List.set_cons_succ]) | (refine wpG_held_skip (by rfl) ?_; simp only [Act.put, List.setIfInBounds_toArray, List.set_cons_zero, List.set_cons_succ]) | (refine wpG_held (v := ?_) (by rfl) ?_ ?_; rotate_left; (focus (intro w' hSw; (try dsimp only at hSw); go_split_ands; first | (go_simp; with_reducible rfl) | (go_simp; done))); simp only [Act.put, List.setIfInBounds_toArray, List.set_cons_zero, List.set_cons_succ]))
  refine wpG_nil (NoPanic.normal ?_)
  have h2 := h1.out.drew.kn k2
  have XB := k2.get (blk_drew X1.out) (fun h => h)
  have XA := k2.get (blk_drew X2.out) (fun h => h)
  have K2 := K1.drew.trans k2
  clear h1 K1 k2 HIs Lg up X1 X2
  have Lg := loc3 h2.hg
  have LX := loc2 XB
  have LA := loc5 XA
  replace h2 := hid h2
  replace XB := hid XB
  replace XA := hid XA
  cases bb
  · have HG := hid (set_no h2.out.ha.drew hI.ok (i := hi) (g := hg) (y := x) (fun h => absurd (hbb.2 h) (by decide)))
    replace hI := hid hI
    replace hbb := hid hbb
    go_wp2_with fail
    refine wp_region_G (fun _ => True) [(0, .at_), (1, .at_), (2, .at_), (3, .at_), (4, .at_), (5, .at_), (6, .at_), (7, .eff), (8, .at_)] ?L6 (by kernel_rfl) (by kernel_rfl) ?hL6 (trivial) ?hG6
    case hL6 => simp only [pickOps, List.map_cons, List.map_nil, List.getD_cons_zero, List.getD_cons_succ]; rfl
    repeat (first | (refine wpG_at (v := ?_) (by rfl) ?_ ?_; rotate_left; (focus (first | (go_simp; with_reducible rfl) | (go_simp; done))); simp only [Act.put, List.setIfInBounds_toArray, List.set_cons_zero, List.set_cons_succ]) | (refine wpG_at_skip (by rfl) ?_; simp only [Act.put, List.setIfInBounds_toArray, List.set_cons_zero, List.set_cons_succ]) | (refine wpG_held_skip (by rfl) ?_; simp only [Act.put, List.setIfInBounds_toArray, List.set_cons_zero, List.set_cons_succ]) | (refine wpG_held (v := ?_) (by rfl) ?_ ?_; rotate_left; (focus (intro w' hSw; (try dsimp only at hSw); go_split_ands; first | (go_simp; with_reducible rfl) | (go_simp; done))); simp only [Act.put, List.setIfInBounds_toArray, List.set_cons_zero, List.set_cons_succ]))
    refine wpG_eff (by rfl) (fun K hK => ?_)
    go_simp
    refine HG.out.mono ?_
    rintro e w3 ⟨rfl, k3⟩
    refine hK _ _ trivial ?_
    clear hK K
    repeat (first | (refine wpG_at (v := ?_) (by rfl) ?_ ?_; rotate_left; (focus (first | (go_simp; with_reducible rfl) | (go_simp; done))); simp only [Act.put, List.setIfInBounds_toArray, List.set_cons_zero, List.set_cons_succ]) | (refine wpG_at_skip (by rfl) ?_; simp only [Act.put, List.setIfInBounds_toArray, List.set_cons_zero, List.set_cons_succ]) | (refine wpG_held_skip (by rfl) ?_; simp only [Act.put, List.setIfInBounds_toArray, List.set_cons_zero, List.set_cons_succ]) | (refine wpG_held (v := ?_) (by rfl) ?_ ?_; rotate_left; (focus (intro w' hSw; (try dsimp only at hSw); go_split_ands; first | (go_simp; with_reducible rfl) | (go_simp; done))); simp only [Act.put, List.setIfInBounds_toArray, List.set_cons_zero, List.set_cons_succ]))
    refine wpG_nil (NoPanic.normal ?_)
    go_wp2_with fail
    go_ret
    exact ⟨rfl, _, _, _, _, _, _, _, (h2.out.drew.kn k3), .same, fun b hb => .inl hb, ((K2.drew.trans k3)).mono (fun _ h => h.elim)⟩
  · obtain ⟨k5, x0, hik5, hk5⟩ := hbb.1 rfl
    subst hik5
    have HG := hid (set_yes h2.out.ha.drew hI.ok x hk5)
    have hlt5 := (List.getElem?_eq_some_iff.1 hk5).1
    have b6 : (k5 : Int) < (S.length : Int) := by omega
    have b7 : (0 : Int) ≤ (k5 : Int) := Int.natCast_nonneg _
    replace hI := hid hI
    replace hbb := hid hbb
    replace hk5 := hid hk5
    go_wp2_with fail
    refine wp_region_G (fun _ => True) [(0, .at_), (1, .at_), (2, .at_), (3, .at_), (4, .at_), (5, .at_), (6, .at_), (7, .eff), (8, .at_)] ?L7 (by kernel_rfl) (by kernel_rfl) ?hL7 (trivial) ?hG7
    case hL7 => simp only [pickOps, List.map_cons, List.map_nil, List.getD_cons_zero, List.getD_cons_succ]; rfl
    repeat (first | (refine wpG_at (v := ?_) (by rfl) ?_ ?_; rotate_left; (focus (first | (go_simp; with_reducible rfl) | (go_simp; done))); simp only [Act.put, List.setIfInBounds_toArray, List.set_cons_zero, List.set_cons_succ]) | (refine wpG_at_skip (by rfl) ?_; simp only [Act.put, List.setIfInBounds_toArray, List.set_cons_zero, List.set_cons_succ]) | (refine wpG_held_skip (by rfl) ?_; simp only [Act.put, List.setIfInBounds_toArray, List.set_cons_zero, List.set_cons_succ]) | (refine wpG_held (v := ?_) (by rfl) ?_ ?_; rotate_left; (focus (intro w' hSw; (try dsimp only at hSw); go_split_ands; first | (go_simp; with_reducible rfl) | (go_simp; done))); simp only [Act.put, List.setIfInBounds_toArray, List.set_cons_zero, List.set_cons_succ]))
    refine wpG_eff (by rfl) (fun K hK => ?_)
    go_simp
    refine HG.out.mono ?_
    rintro e w3 ⟨rfl, A3, k3⟩
    have h2d := h2.out.drew
    obtain ⟨z1, z2, z3, z4, z5, z6, z7, z8, z9, z10⟩ := h2d.ne
    obtain ⟨⟨y1, y2, y3, y4⟩, ⟨y5, y6, y7, y8⟩, y9, y10, y11, y12, y13⟩ := h2d.ow
    have W3 := h2d.hw.kp k3 (Ne.symm z8) (Ne.symm z9) (fun b hb e => y7 (by rw [hb, e]))
    have R3 := h2d.hh.kp k3 (fun b hb e => y11 (by rw [hb, e]))
    have G3 := k3.get h2d.hg z2
    have Lg3 := loc3 G3
    have Lw3 := W3.cs
    have Le3 := W3.es hk5.out
    have nXl := fun (e : w.heap.size + 1 = l) => ne_of_types (blk_drew XB.out) h2d.ha.hl (by decide) e
    have nAl := fun (e : w.heap.size = l) => ne_of_types (blk_drew XA.out) h2d.ha.hl (by decide) e
    have LX3 := loc2 (k3.get (blk_drew XB.out) nXl)
    have LA3 := loc5 (k3.get (blk_drew XA.out) nAl)
    have WX := hid (W3.drew.xc (x' := x) hk5.out)
    replace G3 := hid G3
    replace W3 := hid W3
    replace R3 := hid R3
    replace A3 := hid A3
    refine hK _ _ trivial ?_
    clear hK K
    clear Lg LX LA
    replace h2d := hid h2d
    repeat (first | (refine wpG_at (v := ?_) (by rfl) ?_ ?_; rotate_left; (focus (first | (go_simp; with_reducible rfl) | (go_simp; done))); simp only [Act.put, List.setIfInBounds_toArray, List.set_cons_zero, List.set_cons_succ]) | (refine wpG_at_skip (by rfl) ?_; simp only [Act.put, List.setIfInBounds_toArray, List.set_cons_zero, List.set_cons_succ]) | (refine wpG_held_skip (by rfl) ?_; simp only [Act.put, List.setIfInBounds_toArray, List.set_cons_zero, List.set_cons_succ]) | (refine wpG_held (v := ?_) (by rfl) ?_ ?_; rotate_left; (focus (intro w' hSw; (try dsimp only at hSw); go_split_ands; first | (go_simp; with_reducible rfl) | (go_simp; done))); simp only [Act.put, List.setIfInBounds_toArray, List.set_cons_zero, List.set_cons_succ]))
    refine wpG_nil (NoPanic.normal ?_)
    go_wp2_with fail
    refine wp_region_G (fun _ => True) [(0, .at_), (1, .at_), (2, .at_), (3, .at_), (4, .at_), (5, .at_), (6, .at_), (7, .at_), (8, .at_), (9, .at_), (10, .at_), (11, .at_), (12, .at_), (13, .eff)] ?L8 (by kernel_rfl) (by kernel_rfl) ?hL8 (trivial) ?hG8
    case hL8 => simp only [pickOps, List.map_cons, List.map_nil, List.getD_cons_zero, List.getD_cons_succ]; rfl
    repeat (first | (refine wpG_at (v := ?_) (by rfl) ?_ ?_; rotate_left; (focus (first | (go_simp; with_reducible rfl) | (go_simp; done))); simp only [Act.put, List.setIfInBounds_toArray, List.set_cons_zero, List.set_cons_succ]) | (refine wpG_at_skip (by rfl) ?_; simp only [Act.put, List.setIfInBounds_toArray, List.set_cons_zero, List.set_cons_succ]) | (refine wpG_held_skip (by rfl) ?_; simp only [Act.put, List.setIfInBounds_toArray, List.set_cons_zero, List.set_cons_succ]) | (refine wpG_held (v := ?_) (by rfl) ?_ ?_; rotate_left; (focus (intro w' hSw; (try dsimp only at hSw); go_split_ands; first | (go_simp; with_reducible rfl) | (go_simp; done))); simp only [Act.put, List.setIfInBounds_toArray, List.set_cons_zero, List.set_cons_succ]))
    refine wpG_eff (by rfl) (fun K hK => ?_)
    go_simp
    refine hK _ _ trivial ?_
    clear hK K
    repeat (first | (refine wpG_at (v := ?_) (by rfl) ?_ ?_; rotate_left; (focus (first | (go_simp; with_reducible rfl) | (go_simp; done))); simp only [Act.put, List.setIfInBounds_toArray, List.set_cons_zero, List.set_cons_succ]) | (refine wpG_at_skip (by rfl) ?_; simp only [Act.put, List.setIfInBounds_toArray, List.set_cons_zero, List.set_cons_succ]) | (refine wpG_held_skip (by rfl) ?_; simp only [Act.put, List.setIfInBounds_toArray, List.set_cons_zero, List.set_cons_succ]) | (refine wpG_held (v := ?_) (by rfl) ?_ ?_; rotate_left; (focus (intro w' hSw; (try dsimp only at hSw); go_split_ands; first | (go_simp; with_reducible rfl) | (go_simp; done))); simp only [Act.put, List.setIfInBounds_toArray, List.set_cons_zero, List.set_cons_succ]))
    refine wpG_nil (NoPanic.normal ?_)
    go_wp2_with fail
    go_ret
    refine ⟨rfl, v, vb, _, _, B, E, H, ⟨blk_far (blk_drew G3.out) _ z4, A3.out.drew.far _ _ z7 z9 (by simpa using y3), WX.out, R3.out.drew.setCell _ _ (by simpa using y13), h2d.out.vv, h2d.out.nn, h2d.out.nv, h2d.out.nb, h2d.out.nh⟩, .set k5 x0 _ x hk5.out, fun b hb => .inl hb, ?_⟩
    refine Kp.drew (Kp.setCell ?_ _ (fun _ => .inr (.inr (.inr (.inr (.inl rfl))))))
    exact ((((K2.mono (G := FP pg p l r lb v vb (.slice oh H.length ch)) (fun _ h => h.elim)).drew).trans (k3.mono (fun b e => .inr (.inr (.inl e))))))
set_option maxRecDepth 100000 in
set_option maxHeartbeats 8000000 in
theorem do3c (h : GAt N w pg p l r lb c v vb hv S B E H) (hI : AInv S B E) (hG : Gens S E G) (hGG : G ≤ 4096) (hH : H.length ≤ 4096) (hi hg at_ x : Int) (wat : -9223372036854775808 ≤ at_ ∧ at_ < 9223372036854775808) (c1 : 1 ≤ at_) (c2 : 0 < H.length) :
    Calls Try.prog 9 #[.pointer (some ⟨pg, 0, none⟩), .agg #[.int .i64 3, .int .i64 hi, .int .u64 hg, .int .i64 at_, .int .i64 x]] w fun e w' => e = .returned (.bool true) ∧ Done N w w' pg p l r lb c v vb hv S B E H := by
  obtain ⟨oh, ch, hhv, _⟩ := h.hh.form
  subst hhv
  have Lg := loc3 h.hg
  have up := ups Lg.2.2.2.2.2.2
  have n2 := hI.n2
  obtain ⟨b', c', A, hv', hb, hA, hcc, _⟩ := h.hh.pos eH_len c2
  injection hv' with hv1 _ hv3
  subst hv1; subst hv3
  have b2 : (0 : Int) < (H.length : Int) := by omega
  have w1 : IntKind.i64.wrap ((H.length : Int) - 1) = (H.length : Int) - 1 := wi_in (by omega)
  have w2 : IntKind.i64.wrap (at_ - 1) = at_ - 1 := wi_in (by omega)
  have hH0 : ¬ H = [] := by rintro rfl; simp at c2
  obtain ⟨k, hk, w3⟩ := back_idx at_ c1 c2 hH
  obtain ⟨⟨i, g⟩, hik⟩ : ∃ s, H[k]? = some s := ⟨_, List.getElem?_eq_getElem hk⟩
  have e0 : w.cell? ⟨b', k * 2, none⟩ = some (.int .i64 i) := by rw [cell_of hb]; exact hA k 0 _ hik (by omega)
  have e1 : w.cell? ⟨b', k * 2 + 1, none⟩ = some (.int .u64 g) := by rw [cell_of hb]; exact hA k 1 _ hik (by omega)
  have ub := ups (blk_lt hb)
  have b4 : (0 : Int) ≤ (k : Int) := Int.natCast_nonneg _
  have b5 : (k : Int) < (H.length : Int) := by omega
  replace hb := hid hb
  replace hik := hid hik
  replace h := hid h
  go_enter Try.func9, Try.ntmps9
  go_wp2_with fail
  refine wp_region_G (fun _ => True) [(0, .at_), (1, .at_), (2, .at_), (3, .at_), (4, .at_), (5, .at_), (6, .at_), (7, .at_), (8, .at_), (9, .at_), (10, .at_), (11, .at_), (12, .at_), (13, .at_), (14, .at_), (15, .at_), (16, .at_), (17, .at_), (18, .at_), (19, .at_), (20, .at_), (21, .at_), (22, .eff)] ?L9 (by kernel_rfl) (by kernel_rfl) ?hL9 (trivial) ?hG9
  case hL9 => simp only [pickOps, List.map_cons, List.map_nil, List.getD_cons_zero, List.getD_cons_succ]; rfl
  repeat (first | (refine wpG_at (v := ?_) (by rfl) ?_ ?_; rotate_left; (focus (first | (go_simp; with_reducible rfl) | (go_simp; done))); simp only [Act.put, List.setIfInBounds_toArray, List.set_cons_zero, List.set_cons_succ]) | (refine wpG_at_skip (by rfl) ?_; simp only [Act.put, List.setIfInBounds_toArray, List.set_cons_zero, List.set_cons_succ]) | (refine wpG_held_skip (by rfl) ?_; simp only [Act.put, List.setIfInBounds_toArray, List.set_cons_zero, List.set_cons_succ]) | (refine wpG_held (v := ?_) (by rfl) ?_ ?_; rotate_left; (focus (intro w' hSw; (try dsimp only at hSw); go_split_ands; first | (go_simp; with_reducible rfl) | (go_simp; done))); simp only [Act.put, List.setIfInBounds_toArray, List.set_cons_zero, List.set_cons_succ]))
  refine wpG_eff (by rfl) (fun K hK => ?_)
  go_simp
  refine hK _ _ trivial ?_
  clear hK K
  repeat (first | (refine wpG_at (v := ?_) (by rfl) ?_ ?_; rotate_left; (focus (first | (go_simp; with_reducible rfl) | (go_simp; done))); simp only [Act.put, List.setIfInBounds_toArray, List.set_cons_zero, List.set_cons_succ]) | (refine wpG_at_skip (by rfl) ?_; simp only [Act.put, List.setIfInBounds_toArray, List.set_cons_zero, List.set_cons_succ]) | (refine wpG_held_skip (by rfl) ?_; simp only [Act.put, List.setIfInBounds_toArray, List.set_cons_zero, List.set_cons_succ]) | (refine wpG_held (v := ?_) (by rfl) ?_ ?_; rotate_left; (focus (intro w' hSw; (try dsimp only at hSw); go_split_ands; first | (go_simp; with_reducible rfl) | (go_simp; done))); simp only [Act.put, List.setIfInBounds_toArray, List.set_cons_zero, List.set_cons_succ]))
  refine wpG_nil (NoPanic.normal ?_)
  clear e0 e1 ub b4 b5 w1 w2 w3
  go_wp2_with fail
  have X1 : (((w.alloc (.cells #[.int .i64 3, .int .i64 hi, .int .u64 hg, .int .i64 at_, .int .i64 x] 38)).alloc (.cells #[.int .i64 i, .int .u64 g] 36)).drew).heap[w.heap.size + 1]? = some (.cells #[.int .i64 i, .int .u64 g] 36 (0, 0)) := blk_drew (blk_new' _ _ (by simp))
  have X2 : (((w.alloc (.cells #[.int .i64 3, .int .i64 hi, .int .u64 hg, .int .i64 at_, .int .i64 x] 38)).alloc (.cells #[.int .i64 i, .int .u64 g] 36)).drew).heap[w.heap.size]? = some (.cells #[.int .i64 3, .int .i64 hi, .int .u64 hg, .int .i64 at_, .int .i64 x] 38 (0, 0)) := blk_drew (blk_alloc (blk_new _ _))
  have K1 : Kp NoB w (((w.alloc (.cells #[.int .i64 3, .int .i64 hi, .int .u64 hg, .int .i64 at_, .int .i64 x] 38)).alloc (.cells #[.int .i64 i, .int .u64 g] 36)).drew) := (((Kp.refl _ w).alloc _).alloc _).drew
  have h1 := h.out.kn K1
  have HIs := hid (is_any (h1.drew.hw) n2 i g)
  replace h1 := hid h1
  replace X1 := hid X1
  replace X2 := hid X2
  refine wp_region_G (fun _ => True) [(0, .at_), (1, .at_), (2, .at_), (3, .at_), (4, .at_), (5, .eff), (6, .at_)] ?L10 (by kernel_rfl) (by kernel_rfl) ?hL10 (trivial) ?hG10
  case hL10 => simp only [pickOps, List.map_cons, List.map_nil, List.getD_cons_zero, List.getD_cons_succ]; rfl
  repeat (first | (refine wpG_at (v := ?_) (by rfl) ?_ ?_; rotate_left; (focus (first | (go_simp; with_reducible rfl) | (go_simp; done))); simp only [Act.put, List.setIfInBounds_toArray, List.set_cons_zero, List.set_cons_succ]) | (refine wpG_at_skip (by rfl) ?_; simp only [Act.put, List.setIfInBounds_toArray, List.set_cons_zero, List.set_cons_succ]) | (refine wpG_held_skip (by rfl) ?_; simp only [Act.put, List.setIfInBounds_toArray, List.set_cons_zero, List.set_cons_succ]) | (refine wpG_held (v := ?_) (by rfl) ?_ ?_; rotate_left; (focus (intro w' hSw; (try dsimp only at hSw); go_split_ands; first | (go_simp; with_reducible rfl) | (go_simp; done))); simp only [Act.put, List.setIfInBounds_toArray, List.set_cons_zero, List.set_cons_succ]))
  refine wpG_eff (by rfl) (fun K hK => ?_)
  go_simp
  refine HIs.out.mono ?_
  rintro e wc ⟨bb, rfl, hbb, k2⟩
  refine hK _ _ trivial ?_
  clear hK K
  repeat (first | (refine wpG_at (v := ?_) (by rfl) ?_ ?_; rotate_left; (focus (first | (go_simp; with_reducible rfl) | (go_simp; done))); simp only [Act.put, List.setIfInBounds_toArray, List.set_cons_zero, List.set_cons_succ]) | (refine wpG_at_skip (by rfl) ?_; simp only [Act.put, List.setIfInBounds_toArray, List.set_cons_zero, List.set_cons_succ]) | (refine wpG_held_skip (by rfl) ?_; simp only [Act.put, List.setIfInBounds_toArray, List.set_cons_zero, List.set_cons_succ]) | (refine wpG_held (v := ?_) (by rfl) ?_ ?_; rotate_left; (focus (intro w' hSw; (try dsimp only at hSw); go_split_ands; first | (go_simp; with_reducible rfl) | (go_simp; done))); simp only [Act.put, List.setIfInBounds_toArray, List.set_cons_zero, List.set_cons_succ]))
  refine wpG_nil (NoPanic.normal ?_)
  have h2 := h1.out.drew.kn k2
  have XB := k2.get (blk_drew X1.out) (fun h => h)
  have XA := k2.get (blk_drew X2.out) (fun h => h)
  have K2 := K1.drew.trans k2
  clear h1 K1 k2 HIs Lg up X1 X2
  have Lg := loc3 h2.hg
  have LX := loc2 XB
  have LA := loc5 XA
  replace h2 := hid h2
  replace XB := hid XB
  replace XA := hid XA
  cases bb
  · have HG := hid (set_no h2.out.ha.drew hI.ok (i := i) (g := g) (y := x) (fun h => absurd (hbb.2 h) (by decide)))
    replace hI := hid hI
    replace hbb := hid hbb
    go_wp2_with fail
    refine wp_region_G (fun _ => True) [(0, .at_), (1, .at_), (2, .at_), (3, .at_), (4, .at_), (5, .at_), (6, .at_), (7, .eff), (8, .at_)] ?L11 (by kernel_rfl) (by kernel_rfl) ?hL11 (trivial) ?hG11
    case hL11 => simp only [pickOps, List.map_cons, List.map_nil, List.getD_cons_zero, List.getD_cons_succ]; rfl
    repeat (first | (refine wpG_at (v := ?_) (by rfl) ?_ ?_; rotate_left; (focus (first | (go_simp; with_reducible rfl) | (go_simp; done))); simp only [Act.put, List.setIfInBounds_toArray, List.set_cons_zero, List.set_cons_succ]) | (refine wpG_at_skip (by rfl) ?_; simp only [Act.put, List.setIfInBounds_toArray, List.set_cons_zero, List.set_cons_succ]) | (refine wpG_held_skip (by rfl) ?_; simp only [Act.put, List.setIfInBounds_toArray, List.set_cons_zero, List.set_cons_succ]) | (refine wpG_held (v := ?_) (by rfl) ?_ ?_; rotate_left; (focus (intro w' hSw; (try dsimp only at hSw); go_split_ands; first | (go_simp; with_reducible rfl) | (go_simp; done))); simp only [Act.put, List.setIfInBounds_toArray, List.set_cons_zero, List.set_cons_succ]))
    refine wpG_eff (by rfl) (fun K hK => ?_)
    go_simp
    refine HG.out.mono ?_
    rintro e w3 ⟨rfl, k3⟩
    refine hK _ _ trivial ?_
    clear hK K
    repeat (first | (refine wpG_at (v := ?_) (by rfl) ?_ ?_; rotate_left; (focus (first | (go_simp; with_reducible rfl) | (go_simp; done))); simp only [Act.put, List.setIfInBounds_toArray, List.set_cons_zero, List.set_cons_succ]) | (refine wpG_at_skip (by rfl) ?_; simp only [Act.put, List.setIfInBounds_toArray, List.set_cons_zero, List.set_cons_succ]) | (refine wpG_held_skip (by rfl) ?_; simp only [Act.put, List.setIfInBounds_toArray, List.set_cons_zero, List.set_cons_succ]) | (refine wpG_held (v := ?_) (by rfl) ?_ ?_; rotate_left; (focus (intro w' hSw; (try dsimp only at hSw); go_split_ands; first | (go_simp; with_reducible rfl) | (go_simp; done))); simp only [Act.put, List.setIfInBounds_toArray, List.set_cons_zero, List.set_cons_succ]))
    refine wpG_nil (NoPanic.normal ?_)
    go_wp2_with fail
    go_ret
    exact ⟨rfl, _, _, _, _, _, _, _, (h2.out.drew.kn k3), .same, fun b hb => .inl hb, ((K2.drew.trans k3)).mono (fun _ h => h.elim)⟩
  · obtain ⟨k5, x0, hik5, hk5⟩ := hbb.1 rfl
    have hik6 := (Int.ofNat.inj hik5).symm; subst hik6
    have HG := hid (set_yes h2.out.ha.drew hI.ok x hk5)
    have hlt5 := (List.getElem?_eq_some_iff.1 hk5).1
    have b6 : (k5 : Int) < (S.length : Int) := by omega
    have b7 : (0 : Int) ≤ (k5 : Int) := Int.natCast_nonneg _
    replace hI := hid hI
    replace hbb := hid hbb
    replace hk5 := hid hk5
    go_wp2_with fail
    refine wp_region_G (fun _ => True) [(0, .at_), (1, .at_), (2, .at_), (3, .at_), (4, .at_), (5, .at_), (6, .at_), (7, .eff), (8, .at_)] ?L12 (by kernel_rfl) (by kernel_rfl) ?hL12 (trivial) ?hG12
    case hL12 => simp only [pickOps, List.map_cons, List.map_nil, List.getD_cons_zero, List.getD_cons_succ]; rfl
    repeat (first | (refine wpG_at (v := ?_) (by rfl) ?_ ?_; rotate_left; (focus (first | (go_simp; with_reducible rfl) | (go_simp; done))); simp only [Act.put, List.setIfInBounds_toArray, List.set_cons_zero, List.set_cons_succ]) | (refine wpG_at_skip (by rfl) ?_; simp only [Act.put, List.setIfInBounds_toArray, List.set_cons_zero, List.set_cons_succ]) | (refine wpG_held_skip (by rfl) ?_; simp only [Act.put, List.setIfInBounds_toArray, List.set_cons_zero, List.set_cons_succ]) | (refine wpG_held (v := ?_) (by rfl) ?_ ?_; rotate_left; (focus (intro w' hSw; (try dsimp only at hSw); go_split_ands; first | (go_simp; with_reducible rfl) | (go_simp; done))); simp only [Act.put, List.setIfInBounds_toArray, List.set_cons_zero, List.set_cons_succ]))
    refine wpG_eff (by rfl) (fun K hK => ?_)
    go_simp
    refine HG.out.mono ?_
    rintro e w3 ⟨rfl, A3, k3⟩
    have h2d := h2.out.drew
    obtain ⟨z1, z2, z3, z4, z5, z6, z7, z8, z9, z10⟩ := h2d.ne
    obtain ⟨⟨y1, y2, y3, y4⟩, ⟨y5, y6, y7, y8⟩, y9, y10, y11, y12, y13⟩ := h2d.ow
    have W3 := h2d.hw.kp k3 (Ne.symm z8) (Ne.symm z9) (fun b hb e => y7 (by rw [hb, e]))
    have R3 := h2d.hh.kp k3 (fun b hb e => y11 (by rw [hb, e]))
    have G3 := k3.get h2d.hg z2
    have Lg3 := loc3 G3
    have Lw3 := W3.cs
    have Le3 := W3.es hk5.out
    have nXl := fun (e : w.heap.size + 1 = l) => ne_of_types (blk_drew XB.out) h2d.ha.hl (by decide) e
    have nAl := fun (e : w.heap.size = l) => ne_of_types (blk_drew XA.out) h2d.ha.hl (by decide) e
    have LX3 := loc2 (k3.get (blk_drew XB.out) nXl)
    have LA3 := loc5 (k3.get (blk_drew XA.out) nAl)
    have WX := hid (W3.drew.xc (x' := x) hk5.out)
    replace G3 := hid G3
    replace W3 := hid W3
    replace R3 := hid R3
    replace A3 := hid A3
    refine hK _ _ trivial ?_
    clear hK K
    clear Lg LX LA
    replace h2d := hid h2d
    repeat (first | (refine wpG_at (v := ?_) (by rfl) ?_ ?_; rotate_left; (focus (first | (go_simp; with_reducible rfl) | (go_simp; done))); simp only [Act.put, List.setIfInBounds_toArray, List.set_cons_zero, List.set_cons_succ]) | (refine wpG_at_skip (by rfl) ?_; simp only [Act.put, List.setIfInBounds_toArray, List.set_cons_zero, List.set_cons_succ]) | (refine wpG_held_skip (by rfl) ?_; simp only [Act.put, List.setIfInBounds_toArray, List.set_cons_zero, List.set_cons_succ]) | (refine wpG_held (v := ?_) (by rfl) ?_ ?_; rotate_left; (focus (intro w' hSw; (try dsimp only at hSw); go_split_ands; first | (go_simp; with_reducible rfl) | (go_simp; done))); simp only [Act.put, List.setIfInBounds_toArray, List.set_cons_zero, List.set_cons_succ]))
    refine wpG_nil (NoPanic.normal ?_)
    go_wp2_with fail
    refine wp_region_G (fun _ => True) [(0, .at_), (1, .at_), (2, .at_), (3, .at_), (4, .at_), (5, .at_), (6, .at_), (7, .at_), (8, .at_), (9, .at_), (10, .at_), (11, .at_), (12, .at_), (13, .eff)] ?L13 (by kernel_rfl) (by kernel_rfl) ?hL13 (trivial) ?hG13
    case hL13 => simp only [pickOps, List.map_cons, List.map_nil, List.getD_cons_zero, List.getD_cons_succ]; rfl
    repeat (first | (refine wpG_at (v := ?_) (by rfl) ?_ ?_; rotate_left; (focus (first | (go_simp; with_reducible rfl) | (go_simp; done))); simp only [Act.put, List.setIfInBounds_toArray, List.set_cons_zero, List.set_cons_succ]) | (refine wpG_at_skip (by rfl) ?_; simp only [Act.put, List.setIfInBounds_toArray, List.set_cons_zero, List.set_cons_succ]) | (refine wpG_held_skip (by rfl) ?_; simp only [Act.put, List.setIfInBounds_toArray, List.set_cons_zero, List.set_cons_succ]) | (refine wpG_held (v := ?_) (by rfl) ?_ ?_; rotate_left; (focus (intro w' hSw; (try dsimp only at hSw); go_split_ands; first | (go_simp; with_reducible rfl) | (go_simp; done))); simp only [Act.put, List.setIfInBounds_toArray, List.set_cons_zero, List.set_cons_succ]))
    refine wpG_eff (by rfl) (fun K hK => ?_)
    go_simp
    refine hK _ _ trivial ?_
    clear hK K
    repeat (first | (refine wpG_at (v := ?_) (by rfl) ?_ ?_; rotate_left; (focus (first | (go_simp; with_reducible rfl) | (go_simp; done))); simp only [Act.put, List.setIfInBounds_toArray, List.set_cons_zero, List.set_cons_succ]) | (refine wpG_at_skip (by rfl) ?_; simp only [Act.put, List.setIfInBounds_toArray, List.set_cons_zero, List.set_cons_succ]) | (refine wpG_held_skip (by rfl) ?_; simp only [Act.put, List.setIfInBounds_toArray, List.set_cons_zero, List.set_cons_succ]) | (refine wpG_held (v := ?_) (by rfl) ?_ ?_; rotate_left; (focus (intro w' hSw; (try dsimp only at hSw); go_split_ands; first | (go_simp; with_reducible rfl) | (go_simp; done))); simp only [Act.put, List.setIfInBounds_toArray, List.set_cons_zero, List.set_cons_succ]))
    refine wpG_nil (NoPanic.normal ?_)
    go_wp2_with fail
    go_ret
    refine ⟨rfl, v, vb, _, _, B, E, H, ⟨blk_far (blk_drew G3.out) _ z4, A3.out.drew.far _ _ z7 z9 (by simpa using y3), WX.out, R3.out.drew.setCell _ _ (by simpa using y13), h2d.out.vv, h2d.out.nn, h2d.out.nv, h2d.out.nb, h2d.out.nh⟩, .set k5 x0 _ x hk5.out, fun b hb => .inl hb, ?_⟩
    refine Kp.drew (Kp.setCell ?_ _ (fun _ => .inr (.inr (.inr (.inr (.inl rfl))))))
    exact ((((K2.mono (G := FP pg p l r lb v vb (.slice (some ⟨b', 0, none⟩) H.length ch)) (fun _ h => h.elim)).drew).trans (k3.mono (fun b e => .inr (.inr (.inl e))))))
theorem do3 (h : GAt N w pg p l r lb c v vb hv S B E H) (hI : AInv S B E) (hG : Gens S E G) (hGG : G ≤ 4096) (hH : H.length ≤ 4096) (hi hg at_ x : Int) (wat : -9223372036854775808 ≤ at_ ∧ at_ < 9223372036854775808) :
    Calls Try.prog 9 #[.pointer (some ⟨pg, 0, none⟩), .agg #[.int .i64 3, .int .i64 hi, .int .u64 hg, .int .i64 at_, .int .i64 x]] w fun e w' => e = .returned (.bool true) ∧ Done N w w' pg p l r lb c v vb hv S B E H := by
  by_cases c1 : at_ < 1
  · exact do3a h hI hG hGG hH hi hg at_ x wat c1
  · by_cases c2 : H.length = 0
    · exact do3b h hI hG hGG hH hi hg at_ x wat (by omega) c2
    · exact do3c h hI hG hGG hH hi hg at_ x wat (by omega) (by omega)
end
end Go.Proofs.Ytldkogdkadgnkaa
