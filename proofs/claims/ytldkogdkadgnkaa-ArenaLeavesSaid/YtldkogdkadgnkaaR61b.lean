/- Walks through a game: an act of the kind 1. -/
import Derived.Test.YtldkogdkadgnkaaR6
import Derived.Test.YtldkogdkadgnkaaR2b
namespace Go.Proofs.Ytldkogdkadgnkaa
set_option linter.unusedSimpArgs false
set_option linter.unusedVariables false
open Go.RowKit
attribute [local go_sem ↓] Go.wp_at_zero Go.wp_at_succ
section
variable {N : Nat} {w w' : World} {pg p l r lb c : Nat} {v vb hv : Value} {S : List (Int × Int × Bool)} {B : List Nat} {E : Nat} {H : List (Nat × Int)} {G : Int}
set_option maxRecDepth 100000 in
set_option maxHeartbeats 8000000 in
theorem do1b (h : GAt N w pg p l r lb c v vb hv S B E H) (hI : AInv S B E) (hG : Gens S E G) (hGG : G ≤ 4096) (hH : H.length ≤ 4096) (hi hg at_ x : Int) (wat : -9223372036854775808 ≤ at_ ∧ at_ < 9223372036854775808) (c1 : 1 ≤ at_) (c2 : H.length = 0) :
    Calls Try.prog 9 #[.pointer (some ⟨pg, 0, none⟩), .agg #[.int .i64 1, .int .i64 hi, .int .u64 hg, .int .i64 at_, .int .i64 x]] w fun e w' => e = .returned (.bool true) ∧ Done N w w' pg p l r lb c v vb hv S B E H := by
  obtain ⟨oh, ch, hhv, _⟩ := h.hh.form
  subst hhv
  have Lg := loc3 h.hg
  have up := ups Lg.2.2.2.2.2.2
  have n2 := hI.n2
  have b2 : ¬ (0 : Int) < (H.length : Int) := by omega
  replace c2 := hid c2
  replace h := hid h
  go_enter Try.func9, Try.ntmps9
  go_wp2_with fail
  have X1 : ((w.alloc (.cells #[.int .i64 1, .int .i64 hi, .int .u64 hg, .int .i64 at_, .int .i64 x] 38)).alloc (.cells #[.int .i64 hi, .int .u64 hg] 36)).heap[w.heap.size + 1]? = some (.cells #[.int .i64 hi, .int .u64 hg] 36 (0, 0)) := blk_new' _ _ (by simp)
  have X2 : ((w.alloc (.cells #[.int .i64 1, .int .i64 hi, .int .u64 hg, .int .i64 at_, .int .i64 x] 38)).alloc (.cells #[.int .i64 hi, .int .u64 hg] 36)).heap[w.heap.size]? = some (.cells #[.int .i64 1, .int .i64 hi, .int .u64 hg, .int .i64 at_, .int .i64 x] 38 (0, 0)) := blk_alloc (blk_new _ _)
  have K1 : Kp NoB w ((w.alloc (.cells #[.int .i64 1, .int .i64 hi, .int .u64 hg, .int .i64 at_, .int .i64 x] 38)).alloc (.cells #[.int .i64 hi, .int .u64 hg] 36)) := ((Kp.refl _ w).alloc _).alloc _
  have h1 := h.out.kn K1
  have HIs := hid (is_any (h1.drew.hw) n2 hi hg)
  replace h1 := hid h1
  replace X1 := hid X1
  replace X2 := hid X2
  refine wp_region_G (fun _ => True) [(0, .at_), (1, .at_), (2, .at_), (3, .at_), (4, .at_), (5, .eff), (6, .at_)] ?L1 (by kernel_rfl) (by kernel_rfl) ?hL1 (trivial) ?hG1
  case hL1 => simp only [pickOps, List.map_cons, List.map_nil, List.getD_cons_zero, List.getD_cons_succ]; rfl
  repeat (first | (refine wpG_at (v := ?_) (by rfl) ?_ ?_; rotate_left; (focus (first | (go_simp; with_reducible rfl) | (go_simp; done))); simp only [Act.put, List.setIfInBounds_toArray, List.set_cons_zero, List.set_cons_succ]) | (refine wpG_at_skip (by rfl) ?_; simp only [Act.put, List.setIfInBounds_toArray, List.set_cons_zero, List.set_cons_succ]) | (refine wpG_held_skip (by rfl) ?_; simp only [Act.put, List.setIfInBounds_toArray, List.set_cons_zero, List.set_cons_succ]) | (refine wpG_held (v := ?_) (by rfl) ?_ ?_; rotate_left; (focus (intro w' hSw; (try dsimp only at hSw); go_split_ands; first | (go_simp; with_reducible rfl) | (go_simp; done))); simp only [Act.put, List.setIfInBounds_toArray, List.set_cons_zero, List.set_cons_succ]))
  refine wpG_eff (by rfl) (fun K hK => ?_)
  go_simp
  refine HIs.out.mono ?_
  rintro e wc ⟨bb, rfl, hbb, k2⟩
  refine hK _ _ trivial ?_
  clear hK K
  repeat (first | (refine wpG_at (v := ?_) (by rfl) ?_ ?_; rotate_left; (focus (first | (go_simp; with_reducible rfl) | (go_simp; done))); simp only [Act.put, List.setIfInBounds_toArray, List.set_cons_zero, List.set_cons_succ]) | (refine wpG_at_skip (by rfl) ?_; simp only [Act.put, List.setIfInBounds_toArray, List.set_cons_zero, List.set_cons_succ]) | (refine wpG_held_skip (by rfl) ?_; simp only [Act.put, List.setIfInBounds_toArray, List.set_cons_zero, List.set_cons_succ]) | (refine wpG_held (v := ?_) (by rfl) ?_ ?_; rotate_left; (focus (intro w' hSw; (try dsimp only at hSw); go_split_ands; first | (go_simp; with_reducible rfl) | (go_simp; done))); simp only [Act.put, List.setIfInBounds_toArray, List.set_cons_zero, List.set_cons_succ]))
  refine wpG_nil (NoPanic.normal ?_)
  have h2 := h1.out.drew.kn k2
  have XB := k2.get (blk_drew X1.out) (fun h => h)
  have XA := k2.get (blk_drew X2.out) (fun h => h)
  have K2 := K1.drew.trans k2
  clear h1 K1 k2 HIs Lg up X1 X2
  have Lg := loc3 h2.hg
  have LX := loc2 XB
  have LA := loc5 XA
  replace h2 := hid h2
  replace XB := hid XB
  replace XA := hid XA
  by_cases hr : 0 < room S B E
  · obtain ⟨g5, hk5⟩ := hI.next hr
    have HG := alloc_any h2.out.ha hI.ok hk5
    have HR := fun (W : World) (hW : WAt W r lb c vb S B) => ralloc_any hW hI hG hk5
    have hI2 := (hI.alloc hr (x := 0) (g := g5)).1
    have hst : Stp S B E H _ _ _ _ := .alloc g5 hr hk5
    have hlt5 := (List.getElem?_eq_some_iff.1 hk5).1
    generalize hn5 : nextI B E = n5 at *
    replace hn5 := hid hn5
    have hk6 : (S.set n5 (0, g5, true))[n5]? = some (0, g5, true) := List.getElem?_set_self hlt5
    replace HG := hid HG
    replace HR := hid HR
    replace hI2 := hid hI2
    replace hst := hid hst
    replace hk6 := hid hk6
    replace hI := hid hI
    replace hbb := hid hbb
    replace hk5 := hid hk5
    have hnu : (Value.slice oh H.length ch).ownBlock ≠ some wc.heap.size := fun e => by have := h2.out.hh.lt _ e; omega
    go_wp2_with fail
    refine HG.out.mono ?_
    clear HG
    rintro e w3 ⟨rfl, v3, A3, o3, k3⟩
    obtain ⟨z1, z2, z3, z4, z5, z6, z7, z8, z9, z10⟩ := h2.out.ne
    obtain ⟨⟨y1, y2, y3, y4⟩, ⟨y5, y6, y7, y8⟩, y9, y10, y11, y12, y13⟩ := h2.out.ow
    have W3 := (h2.out.hw.kp k3 (by rintro (e | e) <;> first | exact z6 e.symm | exact z8 e.symm) (by rintro (e | e) <;> first | exact z7 e.symm | exact z9 e.symm) (fun b hb => by
      rintro (e | e)
      · exact y6 (by rw [hb, e])
      · exact y7 (by rw [hb, e]))).alloc (.cells #[.int .i64 n5, .int .u64 g5] 36)
    have R3 := (h2.out.hh.kp k3 (fun b hb => by
      rintro (e | e)
      · exact y10 (by rw [hb, e])
      · exact y11 (by rw [hb, e]))).alloc (.cells #[.int .i64 n5, .int .u64 g5] 36)
    have G3 := blk_alloc (o' := .cells #[.int .i64 n5, .int .u64 g5] 36) (k3.get h2.out.hg (by rintro (e | e) <;> first | exact z1 e | exact z2 e))
    have X7 := blk_new w3 (.cells #[.int .i64 n5, .int .u64 g5] 36)
    replace A3 := A3.alloc (.cells #[.int .i64 n5, .int .u64 g5] 36)
    have sz3 := k3.size
    have Lg3 := loc3 (k3.get h2.out.hg (by rintro (e | e) <;> first | exact z1 e | exact z2 e))
    have up3 := ups Lg3.2.2.2.2.2.2
    have K3 := ((K2.mono (G := FP pg p l r lb v vb (.slice oh H.length ch)) (fun _ h => h.elim)).trans (k3.mono (fun b e => by
      rcases e with e | e
      · exact .inr (.inl e)
      · exact .inr (.inr (.inl e))))).alloc (.cells #[.int .i64 n5, .int .u64 g5] 36)
    have HR3 := hid (HR.out _ W3)
    clear HR Lg LX LA
    replace A3 := hid A3
    replace W3 := hid W3
    replace R3 := hid R3
    replace G3 := hid G3
    replace X7 := hid X7
    replace o3 := hid o3
    go_wp2_with fail
    refine HR3.out.mono ?_
    clear HR3 Lg3 up3
    rintro e w4 ⟨rfl, vb4, W4, o4, k4⟩
    have q7r : w3.heap.size ≠ r := ne_of_types X7.out W3.out.hp (by decide)
    have q7l : w3.heap.size ≠ lb := by
      obtain ⟨A', hl', _⟩ := W3.out.hl
      exact ne_of_types X7.out hl' (by decide)
    have X74 := k4.get X7.out (by rintro (e | e) <;> first | exact q7r e | exact q7l e)
    have G5 : GAt N (w4.alloc (.cells #[.int .i64 n5, .int .u64 g5] 36)) pg p l r lb c v3 vb4 (.slice oh H.length ch) (S.set n5 (0, g5, true)) B.dropLast (nextE B E) H :=
      ⟨blk_alloc (k4.get G3.out (by rintro (e | e) <;> first | exact z3 e | exact z4 e)), (A3.out.kp k4 (by rintro (e | e) <;> first | exact z6 e | exact z7 e) (by rintro (e | e) <;> first | exact z8 e | exact z9 e) (fun b hb => by
          rw [o3.out] at hb
          rintro (e | e)
          · exact y2 (by rw [hb, e])
          · exact y3 (by rw [hb, e]))).alloc _, W4.alloc _, (R3.out.kp k4 (fun b hb => by
          rintro (e | e)
          · exact y12 (by rw [hb, e])
          · exact y13 (by rw [hb, e]))).alloc _, (by intro b hb; rw [o3.out] at hb; rw [o4]; exact h2.out.vv b hb), h2.out.nn, (by intro b hb; rw [o3.out] at hb; exact h2.out.nv b hb), (by intro b hb; rw [o4] at hb; exact h2.out.nb b hb), h2.out.nh⟩
    have X7W := blk_alloc (o' := .cells #[.int .i64 n5, .int .u64 g5] 36) X74
    have X9W := blk_new w4 (.cells #[.int .i64 n5, .int .u64 g5] 36)
    have KW := (K3.trans (k4.mono (fun b e => by
      rcases e with e | e
      · exact .inr (.inr (.inr (.inl e)))
      · exact .inr (.inr (.inr (.inr (.inl e))))))).alloc (.cells #[.int .i64 n5, .int .u64 g5] 36)
    have hq7 : (Value.slice oh H.length ch).ownBlock ≠ some w3.heap.size := fun e => by have := h2.out.hh.lt _ e; omega
    have Lg4 := loc3 (k4.get G3.out (by rintro (e | e) <;> first | exact z3 e | exact z4 e))
    have L74 := loc2 X74
    have up4 := ups Lg4.2.2.2.2.2.2
    have up7 := ups L74.2.2.2.2
    replace G5 := hid G5
    replace X7W := hid X7W
    replace X9W := hid X9W
    replace KW := hid KW
    replace o4 := hid o4
    clear A3 R3 X7 W3 G3
    go_wp2_with fail
    clear Lg4 L74 up4 up7 q7r q7l X74 W4 k4
    replace G5 := G5.out
    replace X7W := X7W.out
    replace X9W := X9W.out
    replace KW := KW.out
    generalize w4.alloc (.cells #[.int .i64 n5, .int .u64 g5] 36) = W at *
    have Lg5 := loc3 G5.hg
    have L75 := loc2 X7W
    obtain ⟨x1, x2, x3, x4, x5, x6, x7, x8, x9, x10⟩ := G5.ne
    obtain ⟨⟨u1, u2, u3, u4⟩, ⟨u5, u6, u7, u8⟩, u9, u10, u11, u12, u13⟩ := G5.ow
    have q7p : pg ≠ w3.heap.size := ne_of_types G5.hg X7W (by decide)
    have q7p' := Ne.symm q7p
    replace G5 := hid G5
    replace X7W := hid X7W
    replace KW := hid KW
    refine wp_region_G (fun W' => W'.cell? ⟨pg, 2, none⟩ = some (.slice oh H.length ch) ∧ W'.cell? ⟨w3.heap.size, 0, none⟩ = some (.int .i64 n5) ∧ W'.cell? ⟨w3.heap.size, 1, none⟩ = some (.int .u64 g5)) [(0, .held), (1, .held), (2, .held), (3, .held), (4, .held), (5, .at_), (6, .eff), (7, .eff), (8, .at_), (9, .at_), (10, .fin)] ?L2 (by kernel_rfl) (by kernel_rfl) ?hL2 (⟨Lg5.2.2.1, L75.1, L75.2.1⟩) ?hG2
    case hL2 => simp only [pickOps, List.map_cons, List.map_nil, List.getD_cons_zero, List.getD_cons_succ]; rfl
    repeat (first | (refine wpG_at (v := ?_) (by rfl) ?_ ?_; rotate_left; (focus (first | (go_simp; with_reducible rfl) | (go_simp; done))); simp only [Act.put, List.setIfInBounds_toArray, List.set_cons_zero, List.set_cons_succ]) | (refine wpG_at_skip (by rfl) ?_; simp only [Act.put, List.setIfInBounds_toArray, List.set_cons_zero, List.set_cons_succ]) | (refine wpG_held_skip (by rfl) ?_; simp only [Act.put, List.setIfInBounds_toArray, List.set_cons_zero, List.set_cons_succ]) | (refine wpG_held (v := ?_) (by rfl) ?_ ?_; rotate_left; (focus (intro w' hSw; (try dsimp only at hSw); go_split_ands; first | (go_simp; with_reducible rfl) | (go_simp; done))); simp only [Act.put, List.setIfInBounds_toArray, List.set_cons_zero, List.set_cons_succ]))
    refine wpG_eff (by rfl) (fun K hK => ?_)
    go_simp
    refine hK _ _ (by refine ⟨?_, ?_, ?_⟩ <;> go_simp) ?_
    clear hK K
    repeat (first | (refine wpG_at (v := ?_) (by rfl) ?_ ?_; rotate_left; (focus (first | (go_simp; with_reducible rfl) | (go_simp; done))); simp only [Act.put, List.setIfInBounds_toArray, List.set_cons_zero, List.set_cons_succ]) | (refine wpG_at_skip (by rfl) ?_; simp only [Act.put, List.setIfInBounds_toArray, List.set_cons_zero, List.set_cons_succ]) | (refine wpG_held_skip (by rfl) ?_; simp only [Act.put, List.setIfInBounds_toArray, List.set_cons_zero, List.set_cons_succ]) | (refine wpG_held (v := ?_) (by rfl) ?_ ?_; rotate_left; (focus (intro w' hSw; (try dsimp only at hSw); go_split_ands; first | (go_simp; with_reducible rfl) | (go_simp; done))); simp only [Act.put, List.setIfInBounds_toArray, List.set_cons_zero, List.set_cons_succ]))
    refine wpG_eff (by rfl) (fun K hK => ?_)
    refine wp_grow eH_len (by omega) _ _ 30 36 _ 16 rfl u30 i36 rfl (.slice oh H.length ch) H rfl ((G5.out.alloc _).hh) W.heap.size 1 [(n5, g5)] rfl #[.int .i64 n5, .int .u64 g5] 36 (blk_new' _ _ (by simp)) (by intro a b x ha hb; match a, ha with | 0, ha => simp at ha; subst ha; match b, hb with | 0, _ => rfl | 1, _ => rfl) (by simp [eH, Value.oneCell']) (by simp; omega) (by omega) ?_
    intro v6 w6 q1 q2 q3
    obtain ⟨ov, cv, hv6, _⟩ := q1.form
    subst hv6
    rw [show (H ++ [(n5, g5)]).length = H.length + 1 from by simp] at q1 q3
    have q2' : (W.alloc (.cells #[.int .i64 n5, .int .u64 g5] 36)).grownBy w6 (Value.slice oh H.length ch).ownBlock := ⟨q2.os, q2.tape, q2.output, q2.size, q2.block⟩
    have k6 := kp_grown (F := fun b => (Value.slice oh H.length ch).ownBlock = some b) q2' (fun b hb => hb)
    have G5a := G5.out.alloc (.cells #[.int .i64 n5, .int .u64 g5] 36)
    have hp6 := k6.get G5a.hg u9
    have X76 := k6.get (blk_alloc (o' := .cells #[.int .i64 n5, .int .u64 g5] 36) X7W.out) hq7
    have Lg6 := loc3 hp6
    have L76 := loc2 X76
    have A6 := G5a.ha.kp k6 u10 u11 (fun b hb => u4 b hb)
    have W6 := G5a.hw.kp k6 u12 u13 (fun b hb => u8 b hb)
    have hpg6 := q1.ne hp6 (by decide)
    have G7 : GAt N (w6.setCell ⟨pg, 2, none⟩ (.slice ov (H.length + 1) cv)) pg p l r lb c v3 vb4 (.slice ov (H.length + 1) cv) (S.set n5 (0, g5, true)) B.dropLast (nextE B E) (H ++ [(n5, g5)]) :=
      ⟨blk_setCell hp6 2 _, A6.far _ _ (Ne.symm x1) (Ne.symm x2) u1, W6.keep (Below.heap_setCell _ _ _ _ (Ne.symm x3)) (Below.heap_setCell _ _ _ _ (Ne.symm x4)) (fun b hb => Below.heap_setCell _ _ _ _ (fun e => u5 (by rw [hb, e]))), q1.setCell _ _ hpg6, G5a.vv, G5a.nn, G5a.nv, G5a.nb, (by
        intro b hb
        rcases q3 with o | ⟨b', o, hb'⟩
        · exact G5a.nh b (o ▸ hb)
        · rw [hb] at o; injection o with o; subst o
          have h5 : pg < (W.alloc (.cells #[.int .i64 n5, .int .u64 g5] 36)).heap.size := G5a.lt _ (.inl rfl)
          have h6 : (W.alloc (.cells #[.int .i64 n5, .int .u64 g5] 36)).heap.size ≤ b := hb'
          have h7 := G5a.nn.1
          omega)⟩
    have K6 := ((KW.out.alloc (.cells #[.int .i64 n5, .int .u64 g5] 36)).trans (k6.mono (fun b hb => .inr (.inr (.inr (.inr (.inr (.inr (.inr hb))))))))).setCell (p := ⟨pg, 2, none⟩) (.slice ov (H.length + 1) cv) (fun _ => .inl rfl)
    have X77 := blk_far X76 (a := ⟨pg, 2, none⟩) (.slice ov (H.length + 1) cv) q7p'
    have szW := KW.out.size
    have hq3 : ∀ b, (Value.slice ov (H.length + 1) cv).ownBlock = some b → (Value.slice oh H.length ch).ownBlock = some b ∨ w.heap.size ≤ b := by
      intro b hb
      rcases q3 with o | ⟨b', o, hb'⟩
      · exact .inl (o ▸ hb)
      · rw [hb] at o; injection o with o; subst o
        have h6 : (W.alloc (.cells #[.int .i64 n5, .int .u64 g5] 36)).heap.size ≤ b := hb'
        simp at h6
        exact .inr (by omega)
    have HG7 := hid (get_yes G7.ha.drew hI2.out.ok hk6.out)
    refine hK _ _ ⟨Lg6.2.2.1, L76.1, L76.2.1⟩ ?_
    clear hK K
    clear Lg5 L75
    replace G7 := hid G7
    replace K6 := hid K6
    replace X77 := hid X77
    replace hp6 := hid hp6
    replace hq3 := hid hq3
    clear A6 W6 G5a q1 q2 q2' q3 k6 X76
    repeat (first | (refine wpG_at (v := ?_) (by rfl) ?_ ?_; rotate_left; (focus (first | (go_simp; with_reducible rfl) | (go_simp; done))); simp only [Act.put, List.setIfInBounds_toArray, List.set_cons_zero, List.set_cons_succ]) | (refine wpG_at_skip (by rfl) ?_; simp only [Act.put, List.setIfInBounds_toArray, List.set_cons_zero, List.set_cons_succ]) | (refine wpG_held_skip (by rfl) ?_; simp only [Act.put, List.setIfInBounds_toArray, List.set_cons_zero, List.set_cons_succ]) | (refine wpG_held (v := ?_) (by rfl) ?_ ?_; rotate_left; (focus (intro w' hSw; (try dsimp only at hSw); go_split_ands; first | (go_simp; with_reducible rfl) | (go_simp; done))); simp only [Act.put, List.setIfInBounds_toArray, List.set_cons_zero, List.set_cons_succ]))
    refine wpG_fin (by rfl) (fun K hK => ?_)
    go_simp
    refine hK _ _ ?_
    clear hK K
    repeat (first | (refine wpG_at (v := ?_) (by rfl) ?_ ?_; rotate_left; (focus (first | (go_simp; with_reducible rfl) | (go_simp; done))); simp only [Act.put, List.setIfInBounds_toArray, List.set_cons_zero, List.set_cons_succ]) | (refine wpG_at_skip (by rfl) ?_; simp only [Act.put, List.setIfInBounds_toArray, List.set_cons_zero, List.set_cons_succ]) | (refine wpG_held_skip (by rfl) ?_; simp only [Act.put, List.setIfInBounds_toArray, List.set_cons_zero, List.set_cons_succ]) | (refine wpG_held (v := ?_) (by rfl) ?_ ?_; rotate_left; (focus (intro w' hSw; (try dsimp only at hSw); go_split_ands; first | (go_simp; with_reducible rfl) | (go_simp; done))); simp only [Act.put, List.setIfInBounds_toArray, List.set_cons_zero, List.set_cons_succ]))
    refine wpG_nil (NoPanic.normal ?_)
    clear Lg6 L76
    replace G7 := G7.out
    replace K6 := K6.out
    replace X77 := X77.out
    generalize w6.setCell ⟨pg, 2, none⟩ (.slice ov (H.length + 1) cv) = W7 at *
    have Lg7 := loc3 G7.hg
    have L77 := loc2 X77
    replace G7 := hid G7
    replace K6 := hid K6
    replace X77 := hid X77
    go_wp2_with fail
    refine wp_region_G (fun _ => True) [(0, .at_), (1, .at_), (2, .at_), (3, .at_), (4, .at_), (5, .eff), (6, .at_), (7, .at_), (8, .at_), (9, .at_), (10, .at_)] ?L3 (by kernel_rfl) (by kernel_rfl) ?hL3 (trivial) ?hG3
    case hL3 => simp only [pickOps, List.map_cons, List.map_nil, List.getD_cons_zero, List.getD_cons_succ]; rfl
    repeat (first | (refine wpG_at (v := ?_) (by rfl) ?_ ?_; rotate_left; (focus (first | (go_simp; with_reducible rfl) | (go_simp; done))); simp only [Act.put, List.setIfInBounds_toArray, List.set_cons_zero, List.set_cons_succ]) | (refine wpG_at_skip (by rfl) ?_; simp only [Act.put, List.setIfInBounds_toArray, List.set_cons_zero, List.set_cons_succ]) | (refine wpG_held_skip (by rfl) ?_; simp only [Act.put, List.setIfInBounds_toArray, List.set_cons_zero, List.set_cons_succ]) | (refine wpG_held (v := ?_) (by rfl) ?_ ?_; rotate_left; (focus (intro w' hSw; (try dsimp only at hSw); go_split_ands; first | (go_simp; with_reducible rfl) | (go_simp; done))); simp only [Act.put, List.setIfInBounds_toArray, List.set_cons_zero, List.set_cons_succ]))
    refine wpG_eff (by rfl) (fun K hK => ?_)
    go_simp
    refine HG7.out.mono ?_
    rintro e w8 ⟨rfl, k8⟩
    refine hK _ _ trivial ?_
    clear hK K
    repeat (first | (refine wpG_at (v := ?_) (by rfl) ?_ ?_; rotate_left; (focus (first | (go_simp; with_reducible rfl) | (go_simp; done))); simp only [Act.put, List.setIfInBounds_toArray, List.set_cons_zero, List.set_cons_succ]) | (refine wpG_at_skip (by rfl) ?_; simp only [Act.put, List.setIfInBounds_toArray, List.set_cons_zero, List.set_cons_succ]) | (refine wpG_held_skip (by rfl) ?_; simp only [Act.put, List.setIfInBounds_toArray, List.set_cons_zero, List.set_cons_succ]) | (refine wpG_held (v := ?_) (by rfl) ?_ ?_; rotate_left; (focus (intro w' hSw; (try dsimp only at hSw); go_split_ands; first | (go_simp; with_reducible rfl) | (go_simp; done))); simp only [Act.put, List.setIfInBounds_toArray, List.set_cons_zero, List.set_cons_succ]))
    refine wpG_nil (NoPanic.normal ?_)
    go_wp2_with fail
    go_ret
    refine ⟨rfl, v3, vb4, _, _, _, _, _, G7.out.drew.kn k8, hst.out, ?_, K6.out.drew.trans (k8.mono (fun _ h => h.elim))⟩
    rintro b (e | e | e | e | e | e | e | e)
    · exact .inl (.inl e)
    · exact .inl (.inr (.inl e))
    · exact .inl (.inr (.inr (.inl e)))
    · exact .inl (.inr (.inr (.inr (.inl e))))
    · exact .inl (.inr (.inr (.inr (.inr (.inl e)))))
    · exact .inl (.inr (.inr (.inr (.inr (.inr (.inl (o3.out ▸ e)))))))
    · exact .inl (.inr (.inr (.inr (.inr (.inr (.inr (.inl (o4.out ▸ e))))))))
    · rcases hq3.out b e with h | h
      · exact .inl (.inr (.inr (.inr (.inr (.inr (.inr (.inr h)))))))
      · exact .inr h
  · obtain ⟨hB0, hE0, hall⟩ := full_of hI hr
    subst hB0
    subst hE0
    have HG := hid (alloc_full h2.out.ha hI.ok)
    have HR := hid (fun (W : World) (hW : WAt W r lb c vb S []) => ralloc_full hW n2 hall)
    clear hall
    replace hI := hid hI
    replace hbb := hid hbb
    go_wp2_with fail
    refine HG.out.mono ?_
    clear HG
    rintro e w3 ⟨rfl, k3⟩
    have h3 := h2.out.kn k3
    have Lg3 := loc3 h3.hg
    have up3 := ups Lg3.2.2.2.2.2.2
    have HR3 := hid (HR.out _ (h3.hw.alloc (.cells #[.int .i64 0, .int .u64 0] 36)))
    have X7 := blk_new w3 (.cells #[.int .i64 0, .int .u64 0] 36)
    have K3 := (K2.trans k3).alloc (.cells #[.int .i64 0, .int .u64 0] 36)
    replace h3 := hid (h3.alloc (.cells #[.int .i64 0, .int .u64 0] 36))
    replace X7 := hid X7
    clear Lg LX LA
    go_wp2_with fail
    refine HR3.out.mono ?_
    rintro e w4 ⟨rfl, k4⟩
    have h4 := h3.out.kn k4
    have L74 := loc2 (k4.get X7.out (fun h => h))
    have up7 := ups L74.2.2.2.2
    replace h4 := hid h4
    go_wp2_with fail
    go_ret
    exact ⟨rfl, _, _, _, _, _, _, _, h4.out.alloc _, .same, fun b hb => .inl hb, ((K3.trans k4).alloc _).mono (fun _ h => h.elim)⟩
end
end Go.Proofs.Ytldkogdkadgnkaa
