/- Walks through a game: an act of the kind 4. -/
import Derived.Test.YtldkogdkadgnkaaR6
namespace Go.Proofs.Ytldkogdkadgnkaa
set_option linter.unusedSimpArgs false
set_option linter.unusedVariables false
open Go.RowKit
attribute [local go_sem ↓] Go.wp_at_zero Go.wp_at_succ
section
variable {N : Nat} {w w' : World} {pg p l r lb c : Nat} {v vb hv : Value} {S : List (Int × Int × Bool)} {B : List Nat} {E : Nat} {H : List (Nat × Int)} {G : Int}
set_option maxRecDepth 100000 in
set_option maxHeartbeats 8000000 in
theorem do4a (h : GAt N w pg p l r lb c v vb hv S B E H) (hI : AInv S B E) (hG : Gens S E G) (hGG : G ≤ 4096) (hH : H.length ≤ 4096) (hi hg at_ x : Int) (wat : -9223372036854775808 ≤ at_ ∧ at_ < 9223372036854775808) (c1 : at_ < 1) :
    Calls Try.prog 9 #[.pointer (some ⟨pg, 0, none⟩), .agg #[.int .i64 4, .int .i64 hi, .int .u64 hg, .int .i64 at_, .int .i64 x]] w fun e w' => e = .returned (.bool true) ∧ Done N w w' pg p l r lb c v vb hv S B E H := by
  obtain ⟨oh, ch, hhv, _⟩ := h.hh.form
  subst hhv
  have Lg := loc3 h.hg
  have up := ups Lg.2.2.2.2.2.2
  have n2 := hI.n2
  replace h := hid h
  go_enter Try.func9, Try.ntmps9
  go_wp2_with fail
  have X1 : ((w.alloc (.cells #[.int .i64 4, .int .i64 hi, .int .u64 hg, .int .i64 at_, .int .i64 x] 38)).alloc (.cells #[.int .i64 hi, .int .u64 hg] 36)).heap[w.heap.size + 1]? = some (.cells #[.int .i64 hi, .int .u64 hg] 36 (0, 0)) := blk_new' _ _ (by simp)
  have X2 : ((w.alloc (.cells #[.int .i64 4, .int .i64 hi, .int .u64 hg, .int .i64 at_, .int .i64 x] 38)).alloc (.cells #[.int .i64 hi, .int .u64 hg] 36)).heap[w.heap.size]? = some (.cells #[.int .i64 4, .int .i64 hi, .int .u64 hg, .int .i64 at_, .int .i64 x] 38 (0, 0)) := blk_alloc (blk_new _ _)
  have K1 : Kp NoB w ((w.alloc (.cells #[.int .i64 4, .int .i64 hi, .int .u64 hg, .int .i64 at_, .int .i64 x] 38)).alloc (.cells #[.int .i64 hi, .int .u64 hg] 36)) := ((Kp.refl _ w).alloc _).alloc _
  have h1 := h.out.kn K1
  have HIs := hid (is_any (h1.drew.hw) n2 hi hg)
  replace h1 := hid h1
  replace X1 := hid X1
  replace X2 := hid X2
  refine wp_region_G (fun _ => True) [(0, .at_), (1, .at_), (2, .at_), (3, .at_), (4, .at_), (5, .eff), (6, .at_)] ?L1 (by kernel_rfl) (by kernel_rfl) ?hL1 (trivial) ?hG1
  case hL1 => simp only [pickOps, List.map_cons, List.map_nil, List.getD_cons_zero, List.getD_cons_succ]; rfl
  repeat (first | (refine wpG_at (v := ?_) (by rfl) ?_ ?_; rotate_left; (focus (first | (go_simp; with_reducible rfl) | (go_simp; done))); simp only [Act.put, List.setIfInBounds_toArray, List.set_cons_zero, List.set_cons_succ]) | (refine wpG_at_skip (by rfl) ?_; simp only [Act.put, List.setIfInBounds_toArray, List.set_cons_zero, List.set_cons_succ]) | (refine wpG_held_skip (by rfl) ?_; simp only [Act.put, List.setIfInBounds_toArray, List.set_cons_zero, List.set_cons_succ]) | (refine wpG_held (v := ?_) (by rfl) ?_ ?_; rotate_left; (focus (intro w' hSw; (try dsimp only at hSw); go_split_ands; first | (go_simp; with_reducible rfl) | (go_simp; done))); simp only [Act.put, List.setIfInBounds_toArray, List.set_cons_zero, List.set_cons_succ]))
  refine wpG_eff (by rfl) (fun K hK => ?_)
  go_simp
  refine HIs.out.mono ?_
  rintro e wc ⟨bb, rfl, hbb, k2⟩
  refine hK _ _ trivial ?_
  clear hK K
  repeat (first | (refine wpG_at (v := ?_) (by rfl) ?_ ?_; rotate_left; (focus (first | (go_simp; with_reducible rfl) | (go_simp; done))); simp only [Act.put, List.setIfInBounds_toArray, List.set_cons_zero, List.set_cons_succ]) | (refine wpG_at_skip (by rfl) ?_; simp only [Act.put, List.setIfInBounds_toArray, List.set_cons_zero, List.set_cons_succ]) | (refine wpG_held_skip (by rfl) ?_; simp only [Act.put, List.setIfInBounds_toArray, List.set_cons_zero, List.set_cons_succ]) | (refine wpG_held (v := ?_) (by rfl) ?_ ?_; rotate_left; (focus (intro w' hSw; (try dsimp only at hSw); go_split_ands; first | (go_simp; with_reducible rfl) | (go_simp; done))); simp only [Act.put, List.setIfInBounds_toArray, List.set_cons_zero, List.set_cons_succ]))
  refine wpG_nil (NoPanic.normal ?_)
  have h2 := h1.out.drew.kn k2
  have XB := k2.get (blk_drew X1.out) (fun h => h)
  have XA := k2.get (blk_drew X2.out) (fun h => h)
  have K2 := K1.drew.trans k2
  clear h1 K1 k2 HIs Lg up X1 X2
  have Lg := loc3 h2.hg
  have LX := loc2 XB
  have LA := loc5 XA
  replace h2 := hid h2
  replace XB := hid XB
  replace XA := hid XA
  cases bb
  · have HG := hid (free_no h2.out.ha.drew hI.ok (i := hi) (g := hg) (fun h => absurd (hbb.2 h) (by decide)))
    have HR := hid (fun (W : World) (hW : WAt W r lb c vb S B) => rfree_no hW n2 (i := hi) (g := hg) (fun h => absurd (hbb.2 h) (by decide)))
    replace hI := hid hI
    replace hbb := hid hbb
    go_wp2_with fail
    refine wp_region_G (fun W => W.cell? ⟨pg, 1, none⟩ = some (.pointer (some ⟨r, 0, none⟩)) ∧ W.cell? ⟨w.heap.size + 1, 0, none⟩ = some (.int .i64 hi) ∧ W.cell? ⟨w.heap.size + 1, 1, none⟩ = some (.int .u64 hg)) [(0, .at_), (1, .at_), (2, .at_), (3, .at_), (4, .at_), (6, .held), (7, .held), (8, .held), (9, .held), (10, .held), (5, .eff), (11, .fin), (12, .at_), (13, .at_)] ?L2 (by kernel_rfl) (by kernel_rfl) ?hL2 (⟨Lg.2.1, LX.1, LX.2.1⟩) ?hG2
    case hL2 => simp only [pickOps, List.map_cons, List.map_nil, List.getD_cons_zero, List.getD_cons_succ]; rfl
    repeat (first | (refine wpG_at (v := ?_) (by rfl) ?_ ?_; rotate_left; (focus (first | (go_simp; with_reducible rfl) | (go_simp; done))); simp only [Act.put, List.setIfInBounds_toArray, List.set_cons_zero, List.set_cons_succ]) | (refine wpG_at_skip (by rfl) ?_; simp only [Act.put, List.setIfInBounds_toArray, List.set_cons_zero, List.set_cons_succ]) | (refine wpG_held_skip (by rfl) ?_; simp only [Act.put, List.setIfInBounds_toArray, List.set_cons_zero, List.set_cons_succ]) | (refine wpG_held (v := ?_) (by rfl) ?_ ?_; rotate_left; (focus (intro w' hSw; (try dsimp only at hSw); go_split_ands; first | (go_simp; with_reducible rfl) | (go_simp; done))); simp only [Act.put, List.setIfInBounds_toArray, List.set_cons_zero, List.set_cons_succ]))
    refine wpG_eff (by rfl) (fun K hK => ?_)
    go_simp
    refine HG.out.mono ?_
    rintro e w3 ⟨rfl, k3⟩
    have h3 := h2.out.drew.kn k3
    have Lg3 := loc3 h3.hg
    have LX3 := loc2 (k3.get (blk_drew XB.out) (fun h => h))
    have HR3 := hid (HR.out _ h3.hw)
    refine hK _ _ ⟨Lg3.2.1, LX3.1, LX3.2.1⟩ ?_
    clear hK K
    clear Lg LX LA
    replace h3 := hid h3
    repeat (first | (refine wpG_at (v := ?_) (by rfl) ?_ ?_; rotate_left; (focus (first | (go_simp; with_reducible rfl) | (go_simp; done))); simp only [Act.put, List.setIfInBounds_toArray, List.set_cons_zero, List.set_cons_succ]) | (refine wpG_at_skip (by rfl) ?_; simp only [Act.put, List.setIfInBounds_toArray, List.set_cons_zero, List.set_cons_succ]) | (refine wpG_held_skip (by rfl) ?_; simp only [Act.put, List.setIfInBounds_toArray, List.set_cons_zero, List.set_cons_succ]) | (refine wpG_held (v := ?_) (by rfl) ?_ ?_; rotate_left; (focus (intro w' hSw; (try dsimp only at hSw); go_split_ands; first | (go_simp; with_reducible rfl) | (go_simp; done))); simp only [Act.put, List.setIfInBounds_toArray, List.set_cons_zero, List.set_cons_succ]))
    refine wpG_fin (by rfl) (fun K hK => ?_)
    go_simp
    refine HR3.out.mono ?_
    rintro e w4 ⟨rfl, k4⟩
    refine hK _ _ ?_
    clear hK K
    repeat (first | (refine wpG_at (v := ?_) (by rfl) ?_ ?_; rotate_left; (focus (first | (go_simp; with_reducible rfl) | (go_simp; done))); simp only [Act.put, List.setIfInBounds_toArray, List.set_cons_zero, List.set_cons_succ]) | (refine wpG_at_skip (by rfl) ?_; simp only [Act.put, List.setIfInBounds_toArray, List.set_cons_zero, List.set_cons_succ]) | (refine wpG_held_skip (by rfl) ?_; simp only [Act.put, List.setIfInBounds_toArray, List.set_cons_zero, List.set_cons_succ]) | (refine wpG_held (v := ?_) (by rfl) ?_ ?_; rotate_left; (focus (intro w' hSw; (try dsimp only at hSw); go_split_ands; first | (go_simp; with_reducible rfl) | (go_simp; done))); simp only [Act.put, List.setIfInBounds_toArray, List.set_cons_zero, List.set_cons_succ]))
    refine wpG_nil (NoPanic.normal ?_)
    go_wp2_with fail
    go_ret
    exact ⟨rfl, _, _, _, _, _, _, _, (h3.out.kn k4), .same, fun b hb => .inl hb, ((K2.drew.trans k3).trans k4).mono (fun _ h => h.elim)⟩
  · obtain ⟨k5, x0, hik5, hk5⟩ := hbb.1 rfl
    subst hik5
    obtain ⟨hI5, hB5⟩ := hI.free (g' := hg + 1) hk5
    obtain ⟨gg1, gg2, _⟩ := hG _ _ hk5
    dsimp only at gg1 gg2
    have hwr : IntKind.u64.wrap (hg + 1) = hg + 1 := by simp [IntKind.wrap, IntKind.bits, IntKind.signed]; omega
    have HG := hid (free_yes h2.out.ha.drew hI.ok hB5 hk5)
    have HR := hid (fun (W : World) (hW : WAt W r lb c vb S B) => rfree_yes hW n2 hB5 hk5)
    rw [hwr] at HG HR
    clear hwr gg1 gg2
    have hlt5 := (List.getElem?_eq_some_iff.1 hk5).1
    replace hI := hid hI
    replace hI5 := hid hI5
    replace hbb := hid hbb
    replace hk5 := hid hk5
    go_wp2_with fail
    refine wp_region_G (fun W => W.cell? ⟨pg, 1, none⟩ = some (.pointer (some ⟨r, 0, none⟩)) ∧ W.cell? ⟨w.heap.size + 1, 0, none⟩ = some (.int .i64 k5) ∧ W.cell? ⟨w.heap.size + 1, 1, none⟩ = some (.int .u64 hg)) [(0, .at_), (1, .at_), (2, .at_), (3, .at_), (4, .at_), (6, .held), (7, .held), (8, .held), (9, .held), (10, .held), (5, .eff), (11, .fin), (12, .at_), (13, .at_)] ?L3 (by kernel_rfl) (by kernel_rfl) ?hL3 (⟨Lg.2.1, LX.1, LX.2.1⟩) ?hG3
    case hL3 => simp only [pickOps, List.map_cons, List.map_nil, List.getD_cons_zero, List.getD_cons_succ]; rfl
    repeat (first | (refine wpG_at (v := ?_) (by rfl) ?_ ?_; rotate_left; (focus (first | (go_simp; with_reducible rfl) | (go_simp; done))); simp only [Act.put, List.setIfInBounds_toArray, List.set_cons_zero, List.set_cons_succ]) | (refine wpG_at_skip (by rfl) ?_; simp only [Act.put, List.setIfInBounds_toArray, List.set_cons_zero, List.set_cons_succ]) | (refine wpG_held_skip (by rfl) ?_; simp only [Act.put, List.setIfInBounds_toArray, List.set_cons_zero, List.set_cons_succ]) | (refine wpG_held (v := ?_) (by rfl) ?_ ?_; rotate_left; (focus (intro w' hSw; (try dsimp only at hSw); go_split_ands; first | (go_simp; with_reducible rfl) | (go_simp; done))); simp only [Act.put, List.setIfInBounds_toArray, List.set_cons_zero, List.set_cons_succ]))
    refine wpG_eff (by rfl) (fun K hK => ?_)
    go_simp
    refine HG.out.mono ?_
    rintro e w3 ⟨rfl, v3, A3, o3, k3⟩
    have h2d := h2.out.drew
    obtain ⟨z1, z2, z3, z4, z5, z6, z7, z8, z9, z10⟩ := h2d.ne
    obtain ⟨⟨y1, y2, y3, y4⟩, ⟨y5, y6, y7, y8⟩, y9, y10, y11, y12, y13⟩ := h2d.ow
    have W3 := h2d.hw.kp k3 (by rintro (e | e | e) <;> first | exact z6 e.symm | exact z8 e.symm | exact y2 e) (by rintro (e | e | e) <;> first | exact z7 e.symm | exact z9 e.symm | exact y3 e) (fun b hb => by
      rintro (e | e | e)
      · exact y6 (by rw [hb, e])
      · exact y7 (by rw [hb, e])
      · exact h2d.vv b e hb)
    have R3 := h2d.hh.kp k3 (fun b hb => by
      rintro (e | e | e)
      · exact y10 (by rw [hb, e])
      · exact y11 (by rw [hb, e])
      · exact y4 b e hb)
    have G3 := k3.get h2d.hg (by rintro (e | e | e) <;> first | exact z1 e | exact z2 e | exact y1 e)
    have X13 := k3.get (blk_drew XB.out) (by
      rintro (e | e | e)
      · exact ne_of_types (blk_drew XB.out) h2d.ha.hp (by decide) e
      · exact ne_of_types (blk_drew XB.out) h2d.ha.hl (by decide) e
      · exact h2d.ha.hv.ne (blk_drew XB.out) (by decide) e)
    have Lg3 := loc3 G3
    have LX3 := loc2 X13
    have HR3 := hid (HR.out _ W3)
    replace G3 := hid G3
    replace W3 := hid W3
    replace R3 := hid R3
    replace A3 := hid A3
    have o3h := hid o3
    clear o3
    refine hK _ _ ⟨Lg3.2.1, LX3.1, LX3.2.1⟩ ?_
    clear hK K
    clear Lg LX LA
    replace h2d := hid h2d
    repeat (first | (refine wpG_at (v := ?_) (by rfl) ?_ ?_; rotate_left; (focus (first | (go_simp; with_reducible rfl) | (go_simp; done))); simp only [Act.put, List.setIfInBounds_toArray, List.set_cons_zero, List.set_cons_succ]) | (refine wpG_at_skip (by rfl) ?_; simp only [Act.put, List.setIfInBounds_toArray, List.set_cons_zero, List.set_cons_succ]) | (refine wpG_held_skip (by rfl) ?_; simp only [Act.put, List.setIfInBounds_toArray, List.set_cons_zero, List.set_cons_succ]) | (refine wpG_held (v := ?_) (by rfl) ?_ ?_; rotate_left; (focus (intro w' hSw; (try dsimp only at hSw); go_split_ands; first | (go_simp; with_reducible rfl) | (go_simp; done))); simp only [Act.put, List.setIfInBounds_toArray, List.set_cons_zero, List.set_cons_succ]))
    refine wpG_fin (by rfl) (fun K hK => ?_)
    go_simp
    refine HR3.out.mono ?_
    rintro e w4 ⟨rfl, vb4, W4, n4, k4⟩
    refine hK _ _ ?_
    clear hK K
    replace W4 := hid W4
    replace n4 := hid n4
    repeat (first | (refine wpG_at (v := ?_) (by rfl) ?_ ?_; rotate_left; (focus (first | (go_simp; with_reducible rfl) | (go_simp; done))); simp only [Act.put, List.setIfInBounds_toArray, List.set_cons_zero, List.set_cons_succ]) | (refine wpG_at_skip (by rfl) ?_; simp only [Act.put, List.setIfInBounds_toArray, List.set_cons_zero, List.set_cons_succ]) | (refine wpG_held_skip (by rfl) ?_; simp only [Act.put, List.setIfInBounds_toArray, List.set_cons_zero, List.set_cons_succ]) | (refine wpG_held (v := ?_) (by rfl) ?_ ?_; rotate_left; (focus (intro w' hSw; (try dsimp only at hSw); go_split_ands; first | (go_simp; with_reducible rfl) | (go_simp; done))); simp only [Act.put, List.setIfInBounds_toArray, List.set_cons_zero, List.set_cons_succ]))
    refine wpG_nil (NoPanic.normal ?_)
    go_wp2_with fail
    go_ret
    have hlt3 : ∀ b, v3.ownBlock = some b → b < w3.heap.size := A3.out.hv.lt
    have K3 := (K2.drew.mono (G := FP pg p l r lb v vb (.slice oh H.length ch)) (fun _ h => h.elim)).trans (k3.mono (fun b e => by
      rcases e with e | e | e
      · exact .inr (.inl e)
      · exact .inr (.inr (.inl e))
      · exact .inr (.inr (.inr (.inr (.inr (.inl e)))))))
    have sz3 := K3.size
    have sz2 := K2.size
    have hv3N : ∀ b, v3.ownBlock = some b → N ≤ b ∧ (FP pg p l r lb v vb (.slice oh H.length ch) b ∨ w.heap.size ≤ b) := by
      intro b hb
      rcases o3h.out with o | ⟨b', o, hb'⟩
      · exact ⟨h2d.out.nv b (o ▸ hb), .inl (.inr (.inr (.inr (.inr (.inr (.inl (o ▸ hb)))))))⟩
      · rw [o] at hb; injection hb with hb; subst hb
        have := h2d.out.lt _ (.inl rfl)
        have := h2d.out.nn.1
        have hb'' : wc.heap.size ≤ b' := hb'
        exact ⟨by have : pg < wc.heap.size := h2d.out.lt _ (.inl rfl); omega, .inr (by omega)⟩
    have hpg3 : pg < w3.heap.size := blk_lt G3.out
    refine ⟨rfl, v3, vb4, _, _, _, E, H, ⟨k4.get G3.out (by rintro (e | e) <;> first | exact z3 e | exact z4 e), A3.out.kp k4 (by rintro (e | e) <;> first | exact z6 e | exact z7 e) (by rintro (e | e) <;> first | exact z8 e | exact z9 e) (fun b hb => by
        rintro (e | e)
        · exact A3.out.hv.ne W3.out.hp (by decide) (by rw [hb, e])
        · obtain ⟨A', hl', _⟩ := W3.out.hl
          exact A3.out.hv.ne hl' (by decide) (by rw [hb, e])), W4.out, R3.out.kp k4 (fun b hb => by
        rintro (e | e)
        · exact y12 (by rw [hb, e])
        · exact y13 (by rw [hb, e])), ?_, h2d.out.nn, fun b hb => (hv3N b hb).1, ?_, h2d.out.nh⟩, .free k5 x0 _ hk5.out, ?_, ?_⟩
    · intro b hb hb'
      have := hlt3 b hb
      have := n4.out b hb'
      omega
    · intro b hb
      have := n4.out b hb
      have := h2d.out.nn.1
      omega
    · rintro b (e | e | e | e | e | e | e | e)
      · exact .inl (.inl e)
      · exact .inl (.inr (.inl e))
      · exact .inl (.inr (.inr (.inl e)))
      · exact .inl (.inr (.inr (.inr (.inl e))))
      · exact .inl (.inr (.inr (.inr (.inr (.inl e)))))
      · exact (hv3N b e).2
      · exact .inr (by have := n4.out b e; omega)
      · exact .inl (.inr (.inr (.inr (.inr (.inr (.inr (.inr e)))))))
    · exact K3.trans (k4.mono (fun b e => by
        rcases e with e | e
        · exact .inr (.inr (.inr (.inl e)))
        · exact .inr (.inr (.inr (.inr (.inl e))))))
set_option maxRecDepth 100000 in
set_option maxHeartbeats 8000000 in
theorem do4b (h : GAt N w pg p l r lb c v vb hv S B E H) (hI : AInv S B E) (hG : Gens S E G) (hGG : G ≤ 4096) (hH : H.length ≤ 4096) (hi hg at_ x : Int) (wat : -9223372036854775808 ≤ at_ ∧ at_ < 9223372036854775808) (c1 : 1 ≤ at_) (c2 : H.length = 0) :
    Calls Try.prog 9 #[.pointer (some ⟨pg, 0, none⟩), .agg #[.int .i64 4, .int .i64 hi, .int .u64 hg, .int .i64 at_, .int .i64 x]] w fun e w' => e = .returned (.bool true) ∧ Done N w w' pg p l r lb c v vb hv S B E H := by
  obtain ⟨oh, ch, hhv, _⟩ := h.hh.form
  subst hhv
  have Lg := loc3 h.hg
  have up := ups Lg.2.2.2.2.2.2
  have n2 := hI.n2
  have b2 : ¬ (0 : Int) < (H.length : Int) := by omega
  replace h := hid h
  go_enter Try.func9, Try.ntmps9
  go_wp2_with fail
  have X1 : ((w.alloc (.cells #[.int .i64 4, .int .i64 hi, .int .u64 hg, .int .i64 at_, .int .i64 x] 38)).alloc (.cells #[.int .i64 hi, .int .u64 hg] 36)).heap[w.heap.size + 1]? = some (.cells #[.int .i64 hi, .int .u64 hg] 36 (0, 0)) := blk_new' _ _ (by simp)
  have X2 : ((w.alloc (.cells #[.int .i64 4, .int .i64 hi, .int .u64 hg, .int .i64 at_, .int .i64 x] 38)).alloc (.cells #[.int .i64 hi, .int .u64 hg] 36)).heap[w.heap.size]? = some (.cells #[.int .i64 4, .int .i64 hi, .int .u64 hg, .int .i64 at_, .int .i64 x] 38 (0, 0)) := blk_alloc (blk_new _ _)
  have K1 : Kp NoB w ((w.alloc (.cells #[.int .i64 4, .int .i64 hi, .int .u64 hg, .int .i64 at_, .int .i64 x] 38)).alloc (.cells #[.int .i64 hi, .int .u64 hg] 36)) := ((Kp.refl _ w).alloc _).alloc _
  have h1 := h.out.kn K1
  have HIs := hid (is_any (h1.drew.hw) n2 hi hg)
  replace h1 := hid h1
  replace X1 := hid X1
  replace X2 := hid X2
  refine wp_region_G (fun _ => True) [(0, .at_), (1, .at_), (2, .at_), (3, .at_), (4, .at_), (5, .eff), (6, .at_)] ?L4 (by kernel_rfl) (by kernel_rfl) ?hL4 (trivial) ?hG4
  case hL4 => simp only [pickOps, List.map_cons, List.map_nil, List.getD_cons_zero, List.getD_cons_succ]; rfl
  repeat (first | (refine wpG_at (v := ?_) (by rfl) ?_ ?_; rotate_left; (focus (first | (go_simp; with_reducible rfl) | (go_simp; done))); simp only [Act.put, List.setIfInBounds_toArray, List.set_cons_zero, List.set_cons_succ]) | (refine wpG_at_skip (by rfl) ?_; simp only [Act.put, List.setIfInBounds_toArray, List.set_cons_zero, List.set_cons_succ]) | (refine wpG_held_skip (by rfl) ?_; simp only [Act.put, List.setIfInBounds_toArray, List.set_cons_zero, List.set_cons_succ]) | (refine wpG_held (v := ?_) (by rfl) ?_ ?_; rotate_left; (focus (intro w' hSw; (try dsimp only at hSw); go_split_ands; first | (go_simp; with_reducible rfl) | (go_simp; done))); simp only [Act.put, List.setIfInBounds_toArray, List.set_cons_zero, List.set_cons_succ]))
  refine wpG_eff (by rfl) (fun K hK => ?_)
  go_simp
  refine HIs.out.mono ?_
  rintro e wc ⟨bb, rfl, hbb, k2⟩
  refine hK _ _ trivial ?_
  clear hK K
  repeat (first | (refine wpG_at (v := ?_) (by rfl) ?_ ?_; rotate_left; (focus (first | (go_simp; with_reducible rfl) | (go_simp; done))); simp only [Act.put, List.setIfInBounds_toArray, List.set_cons_zero, List.set_cons_succ]) | (refine wpG_at_skip (by rfl) ?_; simp only [Act.put, List.setIfInBounds_toArray, List.set_cons_zero, List.set_cons_succ]) | (refine wpG_held_skip (by rfl) ?_; simp only [Act.put, List.setIfInBounds_toArray, List.set_cons_zero, List.set_cons_succ]) | (refine wpG_held (v := ?_) (by rfl) ?_ ?_; rotate_left; (focus (intro w' hSw; (try dsimp only at hSw); go_split_ands; first | (go_simp; with_reducible rfl) | (go_simp; done))); simp only [Act.put, List.setIfInBounds_toArray, List.set_cons_zero, List.set_cons_succ]))
  refine wpG_nil (NoPanic.normal ?_)
  have h2 := h1.out.drew.kn k2
  have XB := k2.get (blk_drew X1.out) (fun h => h)
  have XA := k2.get (blk_drew X2.out) (fun h => h)
  have K2 := K1.drew.trans k2
  clear h1 K1 k2 HIs Lg up X1 X2
  have Lg := loc3 h2.hg
  have LX := loc2 XB
  have LA := loc5 XA
  replace h2 := hid h2
  replace XB := hid XB
  replace XA := hid XA
  cases bb
  · have HG := hid (free_no h2.out.ha.drew hI.ok (i := hi) (g := hg) (fun h => absurd (hbb.2 h) (by decide)))
    have HR := hid (fun (W : World) (hW : WAt W r lb c vb S B) => rfree_no hW n2 (i := hi) (g := hg) (fun h => absurd (hbb.2 h) (by decide)))
    replace hI := hid hI
    replace hbb := hid hbb
    go_wp2_with fail
    refine wp_region_G (fun W => W.cell? ⟨pg, 1, none⟩ = some (.pointer (some ⟨r, 0, none⟩)) ∧ W.cell? ⟨w.heap.size + 1, 0, none⟩ = some (.int .i64 hi) ∧ W.cell? ⟨w.heap.size + 1, 1, none⟩ = some (.int .u64 hg)) [(0, .at_), (1, .at_), (2, .at_), (3, .at_), (4, .at_), (6, .held), (7, .held), (8, .held), (9, .held), (10, .held), (5, .eff), (11, .fin), (12, .at_), (13, .at_)] ?L5 (by kernel_rfl) (by kernel_rfl) ?hL5 (⟨Lg.2.1, LX.1, LX.2.1⟩) ?hG5
    case hL5 => simp only [pickOps, List.map_cons, List.map_nil, List.getD_cons_zero, List.getD_cons_succ]; rfl
    repeat (first | (refine wpG_at (v := ?_) (by rfl) ?_ ?_; rotate_left; (focus (first | (go_simp; with_reducible rfl) | (go_simp; done))); simp only [Act.put, List.setIfInBounds_toArray, List.set_cons_zero, List.set_cons_succ]) | (refine wpG_at_skip (by rfl) ?_; simp only [Act.put, List.setIfInBounds_toArray, List.set_cons_zero, List.set_cons_succ]) | (refine wpG_held_skip (by rfl) ?_; simp only [Act.put, List.setIfInBounds_toArray, List.set_cons_zero, List.set_cons_succ]) | (refine wpG_held (v := ?_) (by rfl) ?_ ?_; rotate_left; (focus (intro w' hSw; (try dsimp only at hSw); go_split_ands; first | (go_simp; with_reducible rfl) | (go_simp; done))); simp only [Act.put, List.setIfInBounds_toArray, List.set_cons_zero, List.set_cons_succ]))
    refine wpG_eff (by rfl) (fun K hK => ?_)
    go_simp
    refine HG.out.mono ?_
    rintro e w3 ⟨rfl, k3⟩
    have h3 := h2.out.drew.kn k3
    have Lg3 := loc3 h3.hg
    have LX3 := loc2 (k3.get (blk_drew XB.out) (fun h => h))
    have HR3 := hid (HR.out _ h3.hw)
    refine hK _ _ ⟨Lg3.2.1, LX3.1, LX3.2.1⟩ ?_
    clear hK K
    clear Lg LX LA
    replace h3 := hid h3
    repeat (first | (refine wpG_at (v := ?_) (by rfl) ?_ ?_; rotate_left; (focus (first | (go_simp; with_reducible rfl) | (go_simp; done))); simp only [Act.put, List.setIfInBounds_toArray, List.set_cons_zero, List.set_cons_succ]) | (refine wpG_at_skip (by rfl) ?_; simp only [Act.put, List.setIfInBounds_toArray, List.set_cons_zero, List.set_cons_succ]) | (refine wpG_held_skip (by rfl) ?_; simp only [Act.put, List.setIfInBounds_toArray, List.set_cons_zero, List.set_cons_succ]) | (refine wpG_held (v := ?_) (by rfl) ?_ ?_; rotate_left; (focus (intro w' hSw; (try dsimp only at hSw); go_split_ands; first | (go_simp; with_reducible rfl) | (go_simp; done))); simp only [Act.put, List.setIfInBounds_toArray, List.set_cons_zero, List.set_cons_succ]))
    refine wpG_fin (by rfl) (fun K hK => ?_)
    go_simp
    refine HR3.out.mono ?_
    rintro e w4 ⟨rfl, k4⟩
    refine hK _ _ ?_
    clear hK K
    repeat (first | (refine wpG_at (v := ?_) (by rfl) ?_ ?_; rotate_left; (focus (first | (go_simp; with_reducible rfl) | (go_simp; done))); simp only [Act.put, List.setIfInBounds_toArray, List.set_cons_zero, List.set_cons_succ]) | (refine wpG_at_skip (by rfl) ?_; simp only [Act.put, List.setIfInBounds_toArray, List.set_cons_zero, List.set_cons_succ]) | (refine wpG_held_skip (by rfl) ?_; simp only [Act.put, List.setIfInBounds_toArray, List.set_cons_zero, List.set_cons_succ]) | (refine wpG_held (v := ?_) (by rfl) ?_ ?_; rotate_left; (focus (intro w' hSw; (try dsimp only at hSw); go_split_ands; first | (go_simp; with_reducible rfl) | (go_simp; done))); simp only [Act.put, List.setIfInBounds_toArray, List.set_cons_zero, List.set_cons_succ]))
    refine wpG_nil (NoPanic.normal ?_)
    go_wp2_with fail
    go_ret
    exact ⟨rfl, _, _, _, _, _, _, _, (h3.out.kn k4), .same, fun b hb => .inl hb, ((K2.drew.trans k3).trans k4).mono (fun _ h => h.elim)⟩
  · obtain ⟨k5, x0, hik5, hk5⟩ := hbb.1 rfl
    subst hik5
    obtain ⟨hI5, hB5⟩ := hI.free (g' := hg + 1) hk5
    obtain ⟨gg1, gg2, _⟩ := hG _ _ hk5
    dsimp only at gg1 gg2
    have hwr : IntKind.u64.wrap (hg + 1) = hg + 1 := by simp [IntKind.wrap, IntKind.bits, IntKind.signed]; omega
    have HG := hid (free_yes h2.out.ha.drew hI.ok hB5 hk5)
    have HR := hid (fun (W : World) (hW : WAt W r lb c vb S B) => rfree_yes hW n2 hB5 hk5)
    rw [hwr] at HG HR
    clear hwr gg1 gg2
    have hlt5 := (List.getElem?_eq_some_iff.1 hk5).1
    replace hI := hid hI
    replace hI5 := hid hI5
    replace hbb := hid hbb
    replace hk5 := hid hk5
    go_wp2_with fail
    refine wp_region_G (fun W => W.cell? ⟨pg, 1, none⟩ = some (.pointer (some ⟨r, 0, none⟩)) ∧ W.cell? ⟨w.heap.size + 1, 0, none⟩ = some (.int .i64 k5) ∧ W.cell? ⟨w.heap.size + 1, 1, none⟩ = some (.int .u64 hg)) [(0, .at_), (1, .at_), (2, .at_), (3, .at_), (4, .at_), (6, .held), (7, .held), (8, .held), (9, .held), (10, .held), (5, .eff), (11, .fin), (12, .at_), (13, .at_)] ?L6 (by kernel_rfl) (by kernel_rfl) ?hL6 (⟨Lg.2.1, LX.1, LX.2.1⟩) ?hG6
    case hL6 => simp only [pickOps, List.map_cons, List.map_nil, List.getD_cons_zero, List.getD_cons_succ]; rfl
    repeat (first | (refine wpG_at (v := ?_) (by rfl) ?_ ?_; rotate_left; (focus (first | (go_simp; with_reducible rfl) | (go_simp; done))); simp only [Act.put, List.setIfInBounds_toArray, List.set_cons_zero, List.set_cons_succ]) | (refine wpG_at_skip (by rfl) ?_; simp only [Act.put, List.setIfInBounds_toArray, List.set_cons_zero, List.set_cons_succ]) | (refine wpG_held_skip (by rfl) ?_; simp only [Act.put, List.setIfInBounds_toArray, List.set_cons_zero, List.set_cons_succ]) | (refine wpG_held (v := ?_) (by rfl) ?_ ?_; rotate_left; (focus (intro w' hSw; (try dsimp only at hSw); go_split_ands; first | (go_simp; with_reducible rfl) | (go_simp; done))); simp only [Act.put, List.setIfInBounds_toArray, List.set_cons_zero, List.set_cons_succ]))
    refine wpG_eff (by rfl) (fun K hK => ?_)
    go_simp
    refine HG.out.mono ?_
    rintro e w3 ⟨rfl, v3, A3, o3, k3⟩
    have h2d := h2.out.drew
    obtain ⟨z1, z2, z3, z4, z5, z6, z7, z8, z9, z10⟩ := h2d.ne
    obtain ⟨⟨y1, y2, y3, y4⟩, ⟨y5, y6, y7, y8⟩, y9, y10, y11, y12, y13⟩ := h2d.ow
    have W3 := h2d.hw.kp k3 (by rintro (e | e | e) <;> first | exact z6 e.symm | exact z8 e.symm | exact y2 e) (by rintro (e | e | e) <;> first | exact z7 e.symm | exact z9 e.symm | exact y3 e) (fun b hb => by
      rintro (e | e | e)
      · exact y6 (by rw [hb, e])
      · exact y7 (by rw [hb, e])
      · exact h2d.vv b e hb)
    have R3 := h2d.hh.kp k3 (fun b hb => by
      rintro (e | e | e)
      · exact y10 (by rw [hb, e])
      · exact y11 (by rw [hb, e])
      · exact y4 b e hb)
    have G3 := k3.get h2d.hg (by rintro (e | e | e) <;> first | exact z1 e | exact z2 e | exact y1 e)
    have X13 := k3.get (blk_drew XB.out) (by
      rintro (e | e | e)
      · exact ne_of_types (blk_drew XB.out) h2d.ha.hp (by decide) e
      · exact ne_of_types (blk_drew XB.out) h2d.ha.hl (by decide) e
      · exact h2d.ha.hv.ne (blk_drew XB.out) (by decide) e)
    have Lg3 := loc3 G3
    have LX3 := loc2 X13
    have HR3 := hid (HR.out _ W3)
    replace G3 := hid G3
    replace W3 := hid W3
    replace R3 := hid R3
    replace A3 := hid A3
    have o3h := hid o3
    clear o3
    refine hK _ _ ⟨Lg3.2.1, LX3.1, LX3.2.1⟩ ?_
    clear hK K
    clear Lg LX LA
    replace h2d := hid h2d
    repeat (first | (refine wpG_at (v := ?_) (by rfl) ?_ ?_; rotate_left; (focus (first | (go_simp; with_reducible rfl) | (go_simp; done))); simp only [Act.put, List.setIfInBounds_toArray, List.set_cons_zero, List.set_cons_succ]) | (refine wpG_at_skip (by rfl) ?_; simp only [Act.put, List.setIfInBounds_toArray, List.set_cons_zero, List.set_cons_succ]) | (refine wpG_held_skip (by rfl) ?_; simp only [Act.put, List.setIfInBounds_toArray, List.set_cons_zero, List.set_cons_succ]) | (refine wpG_held (v := ?_) (by rfl) ?_ ?_; rotate_left; (focus (intro w' hSw; (try dsimp only at hSw); go_split_ands; first | (go_simp; with_reducible rfl) | (go_simp; done))); simp only [Act.put, List.setIfInBounds_toArray, List.set_cons_zero, List.set_cons_succ]))
    refine wpG_fin (by rfl) (fun K hK => ?_)
    go_simp
    refine HR3.out.mono ?_
    rintro e w4 ⟨rfl, vb4, W4, n4, k4⟩
    refine hK _ _ ?_
    clear hK K
    replace W4 := hid W4
    replace n4 := hid n4
    repeat (first | (refine wpG_at (v := ?_) (by rfl) ?_ ?_; rotate_left; (focus (first | (go_simp; with_reducible rfl) | (go_simp; done))); simp only [Act.put, List.setIfInBounds_toArray, List.set_cons_zero, List.set_cons_succ]) | (refine wpG_at_skip (by rfl) ?_; simp only [Act.put, List.setIfInBounds_toArray, List.set_cons_zero, List.set_cons_succ]) | (refine wpG_held_skip (by rfl) ?_; simp only [Act.put, List.setIfInBounds_toArray, List.set_cons_zero, List.set_cons_succ]) | (refine wpG_held (v := ?_) (by rfl) ?_ ?_; rotate_left; (focus (intro w' hSw; (try dsimp only at hSw); go_split_ands; first | (go_simp; with_reducible rfl) | (go_simp; done))); simp only [Act.put, List.setIfInBounds_toArray, List.set_cons_zero, List.set_cons_succ]))
    refine wpG_nil (NoPanic.normal ?_)
    go_wp2_with fail
    go_ret
    have hlt3 : ∀ b, v3.ownBlock = some b → b < w3.heap.size := A3.out.hv.lt
    have K3 := (K2.drew.mono (G := FP pg p l r lb v vb (.slice oh H.length ch)) (fun _ h => h.elim)).trans (k3.mono (fun b e => by
      rcases e with e | e | e
      · exact .inr (.inl e)
      · exact .inr (.inr (.inl e))
      · exact .inr (.inr (.inr (.inr (.inr (.inl e)))))))
    have sz3 := K3.size
    have sz2 := K2.size
    have hv3N : ∀ b, v3.ownBlock = some b → N ≤ b ∧ (FP pg p l r lb v vb (.slice oh H.length ch) b ∨ w.heap.size ≤ b) := by
      intro b hb
      rcases o3h.out with o | ⟨b', o, hb'⟩
      · exact ⟨h2d.out.nv b (o ▸ hb), .inl (.inr (.inr (.inr (.inr (.inr (.inl (o ▸ hb)))))))⟩
      · rw [o] at hb; injection hb with hb; subst hb
        have := h2d.out.lt _ (.inl rfl)
        have := h2d.out.nn.1
        have hb'' : wc.heap.size ≤ b' := hb'
        exact ⟨by have : pg < wc.heap.size := h2d.out.lt _ (.inl rfl); omega, .inr (by omega)⟩
    have hpg3 : pg < w3.heap.size := blk_lt G3.out
    refine ⟨rfl, v3, vb4, _, _, _, E, H, ⟨k4.get G3.out (by rintro (e | e) <;> first | exact z3 e | exact z4 e), A3.out.kp k4 (by rintro (e | e) <;> first | exact z6 e | exact z7 e) (by rintro (e | e) <;> first | exact z8 e | exact z9 e) (fun b hb => by
        rintro (e | e)
        · exact A3.out.hv.ne W3.out.hp (by decide) (by rw [hb, e])
        · obtain ⟨A', hl', _⟩ := W3.out.hl
          exact A3.out.hv.ne hl' (by decide) (by rw [hb, e])), W4.out, R3.out.kp k4 (fun b hb => by
        rintro (e | e)
        · exact y12 (by rw [hb, e])
        · exact y13 (by rw [hb, e])), ?_, h2d.out.nn, fun b hb => (hv3N b hb).1, ?_, h2d.out.nh⟩, .free k5 x0 _ hk5.out, ?_, ?_⟩
    · intro b hb hb'
      have := hlt3 b hb
      have := n4.out b hb'
      omega
    · intro b hb
      have := n4.out b hb
      have := h2d.out.nn.1
      omega
    · rintro b (e | e | e | e | e | e | e | e)
      · exact .inl (.inl e)
      · exact .inl (.inr (.inl e))
      · exact .inl (.inr (.inr (.inl e)))
      · exact .inl (.inr (.inr (.inr (.inl e))))
      · exact .inl (.inr (.inr (.inr (.inr (.inl e)))))
      · exact (hv3N b e).2
      · exact .inr (by have := n4.out b e; omega)
      · exact .inl (.inr (.inr (.inr (.inr (.inr (.inr (.inr e)))))))
    · exact K3.trans (k4.mono (fun b e => by
        rcases e with e | e
        · exact .inr (.inr (.inr (.inl e)))
        · exact .inr (.inr (.inr (.inr (.inl e))))))
set_option maxRecDepth 100000 in
set_option maxHeartbeats 8000000 in
theorem do4c (h : GAt N w pg p l r lb c v vb hv S B E H) (hI : AInv S B E) (hG : Gens S E G) (hGG : G ≤ 4096) (hH : H.length ≤ 4096) (hi hg at_ x : Int) (wat : -9223372036854775808 ≤ at_ ∧ at_ < 9223372036854775808) (c1 : 1 ≤ at_) (c2 : 0 < H.length) :
    Calls Try.prog 9 #[.pointer (some ⟨pg, 0, none⟩), .agg #[.int .i64 4, .int .i64 hi, .int .u64 hg, .int .i64 at_, .int .i64 x]] w fun e w' => e = .returned (.bool true) ∧ Done N w w' pg p l r lb c v vb hv S B E H := by
  obtain ⟨oh, ch, hhv, _⟩ := h.hh.form
  subst hhv
  have Lg := loc3 h.hg
  have up := ups Lg.2.2.2.2.2.2
  have n2 := hI.n2
  obtain ⟨b', c', A, hv', hb, hA, hcc, _⟩ := h.hh.pos eH_len c2
  injection hv' with hv1 _ hv3
  subst hv1; subst hv3
  have b2 : (0 : Int) < (H.length : Int) := by omega
  have w1 : IntKind.i64.wrap ((H.length : Int) - 1) = (H.length : Int) - 1 := wi_in (by omega)
  have w2 : IntKind.i64.wrap (at_ - 1) = at_ - 1 := wi_in (by omega)
  have hH0 : ¬ H = [] := by rintro rfl; simp at c2
  obtain ⟨k, hk, w3⟩ := back_idx at_ c1 c2 hH
  obtain ⟨⟨i, g⟩, hik⟩ : ∃ s, H[k]? = some s := ⟨_, List.getElem?_eq_getElem hk⟩
  have e0 : w.cell? ⟨b', k * 2, none⟩ = some (.int .i64 i) := by rw [cell_of hb]; exact hA k 0 _ hik (by omega)
  have e1 : w.cell? ⟨b', k * 2 + 1, none⟩ = some (.int .u64 g) := by rw [cell_of hb]; exact hA k 1 _ hik (by omega)
  have ub := ups (blk_lt hb)
  have b4 : (0 : Int) ≤ (k : Int) := Int.natCast_nonneg _
  have b5 : (k : Int) < (H.length : Int) := by omega
  replace hb := hid hb
  replace hik := hid hik
  replace h := hid h
  go_enter Try.func9, Try.ntmps9
  go_wp2_with fail
  refine wp_region_G (fun _ => True) [(0, .at_), (1, .at_), (2, .at_), (3, .at_), (4, .at_), (5, .at_), (6, .at_), (7, .at_), (8, .at_), (9, .at_), (10, .at_), (11, .at_), (12, .at_), (13, .at_), (14, .at_), (15, .at_), (16, .at_), (17, .at_), (18, .at_), (19, .at_), (20, .at_), (21, .at_), (22, .eff)] ?L7 (by kernel_rfl) (by kernel_rfl) ?hL7 (trivial) ?hG7
  case hL7 => simp only [pickOps, List.map_cons, List.map_nil, List.getD_cons_zero, List.getD_cons_succ]; rfl
  repeat (first | (refine wpG_at (v := ?_) (by rfl) ?_ ?_; rotate_left; (focus (first | (go_simp; with_reducible rfl) | (go_simp; done))); simp only [Act.put, List.setIfInBounds_toArray, List.set_cons_zero, List.set_cons_succ]) | (refine wpG_at_skip (by rfl) ?_; simp only [Act.put, List.setIfInBounds_toArray, List.set_cons_zero, List.set_cons_succ]) | (refine wpG_held_skip (by rfl) ?_; simp only [Act.put, List.setIfInBounds_toArray, List.set_cons_zero, List.set_cons_succ]) | (refine wpG_held (v := ?_) (by rfl) ?_ ?_; rotate_left; (focus (intro w' hSw; (try dsimp only at hSw); go_split_ands; first | (go_simp; with_reducible rfl) | (go_simp; done))); simp only [Act.put, List.setIfInBounds_toArray, List.set_cons_zero, List.set_cons_succ]))
  refine wpG_eff (by rfl) (fun K hK => ?_)
  go_simp
  refine hK _ _ trivial ?_
  clear hK K
  repeat (first | (refine wpG_at (v := ?_) (by rfl) ?_ ?_; rotate_left; (focus (first | (go_simp; with_reducible rfl) | (go_simp; done))); simp only [Act.put, List.setIfInBounds_toArray, List.set_cons_zero, List.set_cons_succ]) | (refine wpG_at_skip (by rfl) ?_; simp only [Act.put, List.setIfInBounds_toArray, List.set_cons_zero, List.set_cons_succ]) | (refine wpG_held_skip (by rfl) ?_; simp only [Act.put, List.setIfInBounds_toArray, List.set_cons_zero, List.set_cons_succ]) | (refine wpG_held (v := ?_) (by rfl) ?_ ?_; rotate_left; (focus (intro w' hSw; (try dsimp only at hSw); go_split_ands; first | (go_simp; with_reducible rfl) | (go_simp; done))); simp only [Act.put, List.setIfInBounds_toArray, List.set_cons_zero, List.set_cons_succ]))
  refine wpG_nil (NoPanic.normal ?_)
  clear e0 e1 ub b4 b5 w1 w2 w3
  go_wp2_with fail
  have X1 : (((w.alloc (.cells #[.int .i64 4, .int .i64 hi, .int .u64 hg, .int .i64 at_, .int .i64 x] 38)).alloc (.cells #[.int .i64 i, .int .u64 g] 36)).drew).heap[w.heap.size + 1]? = some (.cells #[.int .i64 i, .int .u64 g] 36 (0, 0)) := blk_drew (blk_new' _ _ (by simp))
  have X2 : (((w.alloc (.cells #[.int .i64 4, .int .i64 hi, .int .u64 hg, .int .i64 at_, .int .i64 x] 38)).alloc (.cells #[.int .i64 i, .int .u64 g] 36)).drew).heap[w.heap.size]? = some (.cells #[.int .i64 4, .int .i64 hi, .int .u64 hg, .int .i64 at_, .int .i64 x] 38 (0, 0)) := blk_drew (blk_alloc (blk_new _ _))
  have K1 : Kp NoB w (((w.alloc (.cells #[.int .i64 4, .int .i64 hi, .int .u64 hg, .int .i64 at_, .int .i64 x] 38)).alloc (.cells #[.int .i64 i, .int .u64 g] 36)).drew) := (((Kp.refl _ w).alloc _).alloc _).drew
  have h1 := h.out.kn K1
  have HIs := hid (is_any (h1.drew.hw) n2 i g)
  replace h1 := hid h1
  replace X1 := hid X1
  replace X2 := hid X2
  refine wp_region_G (fun _ => True) [(0, .at_), (1, .at_), (2, .at_), (3, .at_), (4, .at_), (5, .eff), (6, .at_)] ?L8 (by kernel_rfl) (by kernel_rfl) ?hL8 (trivial) ?hG8
  case hL8 => simp only [pickOps, List.map_cons, List.map_nil, List.getD_cons_zero, List.getD_cons_succ]; rfl
  repeat (first | (refine wpG_at (v := ?_) (by rfl) ?_ ?_; rotate_left; (focus (first | (go_simp; with_reducible rfl) | (go_simp; done))); simp only [Act.put, List.setIfInBounds_toArray, List.set_cons_zero, List.set_cons_succ]) | (refine wpG_at_skip (by rfl) ?_; simp only [Act.put, List.setIfInBounds_toArray, List.set_cons_zero, List.set_cons_succ]) | (refine wpG_held_skip (by rfl) ?_; simp only [Act.put, List.setIfInBounds_toArray, List.set_cons_zero, List.set_cons_succ]) | (refine wpG_held (v := ?_) (by rfl) ?_ ?_; rotate_left; (focus (intro w' hSw; (try dsimp only at hSw); go_split_ands; first | (go_simp; with_reducible rfl) | (go_simp; done))); simp only [Act.put, List.setIfInBounds_toArray, List.set_cons_zero, List.set_cons_succ]))
  refine wpG_eff (by rfl) (fun K hK => ?_)
  go_simp
  refine HIs.out.mono ?_
  rintro e wc ⟨bb, rfl, hbb, k2⟩
  refine hK _ _ trivial ?_
  clear hK K
  repeat (first | (refine wpG_at (v := ?_) (by rfl) ?_ ?_; rotate_left; (focus (first | (go_simp; with_reducible rfl) | (go_simp; done))); simp only [Act.put, List.setIfInBounds_toArray, List.set_cons_zero, List.set_cons_succ]) | (refine wpG_at_skip (by rfl) ?_; simp only [Act.put, List.setIfInBounds_toArray, List.set_cons_zero, List.set_cons_succ]) | (refine wpG_held_skip (by rfl) ?_; simp only [Act.put, List.setIfInBounds_toArray, List.set_cons_zero, List.set_cons_succ]) | (refine wpG_held (v := ?_) (by rfl) ?_ ?_; rotate_left; (focus (intro w' hSw; (try dsimp only at hSw); go_split_ands; first | (go_simp; with_reducible rfl) | (go_simp; done))); simp only [Act.put, List.setIfInBounds_toArray, List.set_cons_zero, List.set_cons_succ]))
  refine wpG_nil (NoPanic.normal ?_)
  have h2 := h1.out.drew.kn k2
  have XB := k2.get (blk_drew X1.out) (fun h => h)
  have XA := k2.get (blk_drew X2.out) (fun h => h)
  have K2 := K1.drew.trans k2
  clear h1 K1 k2 HIs Lg up X1 X2
  have Lg := loc3 h2.hg
  have LX := loc2 XB
  have LA := loc5 XA
  replace h2 := hid h2
  replace XB := hid XB
  replace XA := hid XA
  cases bb
  · have HG := hid (free_no h2.out.ha.drew hI.ok (i := i) (g := g) (fun h => absurd (hbb.2 h) (by decide)))
    have HR := hid (fun (W : World) (hW : WAt W r lb c vb S B) => rfree_no hW n2 (i := i) (g := g) (fun h => absurd (hbb.2 h) (by decide)))
    replace hI := hid hI
    replace hbb := hid hbb
    go_wp2_with fail
    refine wp_region_G (fun W => W.cell? ⟨pg, 1, none⟩ = some (.pointer (some ⟨r, 0, none⟩)) ∧ W.cell? ⟨w.heap.size + 1, 0, none⟩ = some (.int .i64 i) ∧ W.cell? ⟨w.heap.size + 1, 1, none⟩ = some (.int .u64 g)) [(0, .at_), (1, .at_), (2, .at_), (3, .at_), (4, .at_), (6, .held), (7, .held), (8, .held), (9, .held), (10, .held), (5, .eff), (11, .fin), (12, .at_), (13, .at_)] ?L9 (by kernel_rfl) (by kernel_rfl) ?hL9 (⟨Lg.2.1, LX.1, LX.2.1⟩) ?hG9
    case hL9 => simp only [pickOps, List.map_cons, List.map_nil, List.getD_cons_zero, List.getD_cons_succ]; rfl
    repeat (first | (refine wpG_at (v := ?_) (by rfl) ?_ ?_; rotate_left; (focus (first | (go_simp; with_reducible rfl) | (go_simp; done))); simp only [Act.put, List.setIfInBounds_toArray, List.set_cons_zero, List.set_cons_succ]) | (refine wpG_at_skip (by rfl) ?_; simp only [Act.put, List.setIfInBounds_toArray, List.set_cons_zero, List.set_cons_succ]) | (refine wpG_held_skip (by rfl) ?_; simp only [Act.put, List.setIfInBounds_toArray, List.set_cons_zero, List.set_cons_succ]) | (refine wpG_held (v := ?_) (by rfl) ?_ ?_; rotate_left; (focus (intro w' hSw; (try dsimp only at hSw); go_split_ands; first | (go_simp; with_reducible rfl) | (go_simp; done))); simp only [Act.put, List.setIfInBounds_toArray, List.set_cons_zero, List.set_cons_succ]))
    refine wpG_eff (by rfl) (fun K hK => ?_)
    go_simp
    refine HG.out.mono ?_
    rintro e w3 ⟨rfl, k3⟩
    have h3 := h2.out.drew.kn k3
    have Lg3 := loc3 h3.hg
    have LX3 := loc2 (k3.get (blk_drew XB.out) (fun h => h))
    have HR3 := hid (HR.out _ h3.hw)
    refine hK _ _ ⟨Lg3.2.1, LX3.1, LX3.2.1⟩ ?_
    clear hK K
    clear Lg LX LA
    replace h3 := hid h3
    repeat (first | (refine wpG_at (v := ?_) (by rfl) ?_ ?_; rotate_left; (focus (first | (go_simp; with_reducible rfl) | (go_simp; done))); simp only [Act.put, List.setIfInBounds_toArray, List.set_cons_zero, List.set_cons_succ]) | (refine wpG_at_skip (by rfl) ?_; simp only [Act.put, List.setIfInBounds_toArray, List.set_cons_zero, List.set_cons_succ]) | (refine wpG_held_skip (by rfl) ?_; simp only [Act.put, List.setIfInBounds_toArray, List.set_cons_zero, List.set_cons_succ]) | (refine wpG_held (v := ?_) (by rfl) ?_ ?_; rotate_left; (focus (intro w' hSw; (try dsimp only at hSw); go_split_ands; first | (go_simp; with_reducible rfl) | (go_simp; done))); simp only [Act.put, List.setIfInBounds_toArray, List.set_cons_zero, List.set_cons_succ]))
    refine wpG_fin (by rfl) (fun K hK => ?_)
    go_simp
    refine HR3.out.mono ?_
    rintro e w4 ⟨rfl, k4⟩
    refine hK _ _ ?_
    clear hK K
    repeat (first | (refine wpG_at (v := ?_) (by rfl) ?_ ?_; rotate_left; (focus (first | (go_simp; with_reducible rfl) | (go_simp; done))); simp only [Act.put, List.setIfInBounds_toArray, List.set_cons_zero, List.set_cons_succ]) | (refine wpG_at_skip (by rfl) ?_; simp only [Act.put, List.setIfInBounds_toArray, List.set_cons_zero, List.set_cons_succ]) | (refine wpG_held_skip (by rfl) ?_; simp only [Act.put, List.setIfInBounds_toArray, List.set_cons_zero, List.set_cons_succ]) | (refine wpG_held (v := ?_) (by rfl) ?_ ?_; rotate_left; (focus (intro w' hSw; (try dsimp only at hSw); go_split_ands; first | (go_simp; with_reducible rfl) | (go_simp; done))); simp only [Act.put, List.setIfInBounds_toArray, List.set_cons_zero, List.set_cons_succ]))
    refine wpG_nil (NoPanic.normal ?_)
    go_wp2_with fail
    go_ret
    exact ⟨rfl, _, _, _, _, _, _, _, (h3.out.kn k4), .same, fun b hb => .inl hb, ((K2.drew.trans k3).trans k4).mono (fun _ h => h.elim)⟩
  · obtain ⟨k5, x0, hik5, hk5⟩ := hbb.1 rfl
    have hik6 := (Int.ofNat.inj hik5).symm; subst hik6
    obtain ⟨hI5, hB5⟩ := hI.free (g' := g + 1) hk5
    obtain ⟨gg1, gg2, _⟩ := hG _ _ hk5
    dsimp only at gg1 gg2
    have hwr : IntKind.u64.wrap (g + 1) = g + 1 := by simp [IntKind.wrap, IntKind.bits, IntKind.signed]; omega
    have HG := hid (free_yes h2.out.ha.drew hI.ok hB5 hk5)
    have HR := hid (fun (W : World) (hW : WAt W r lb c vb S B) => rfree_yes hW n2 hB5 hk5)
    rw [hwr] at HG HR
    clear hwr gg1 gg2
    have hlt5 := (List.getElem?_eq_some_iff.1 hk5).1
    replace hI := hid hI
    replace hI5 := hid hI5
    replace hbb := hid hbb
    replace hk5 := hid hk5
    go_wp2_with fail
    refine wp_region_G (fun W => W.cell? ⟨pg, 1, none⟩ = some (.pointer (some ⟨r, 0, none⟩)) ∧ W.cell? ⟨w.heap.size + 1, 0, none⟩ = some (.int .i64 k5) ∧ W.cell? ⟨w.heap.size + 1, 1, none⟩ = some (.int .u64 g)) [(0, .at_), (1, .at_), (2, .at_), (3, .at_), (4, .at_), (6, .held), (7, .held), (8, .held), (9, .held), (10, .held), (5, .eff), (11, .fin), (12, .at_), (13, .at_)] ?L10 (by kernel_rfl) (by kernel_rfl) ?hL10 (⟨Lg.2.1, LX.1, LX.2.1⟩) ?hG10
    case hL10 => simp only [pickOps, List.map_cons, List.map_nil, List.getD_cons_zero, List.getD_cons_succ]; rfl
    repeat (first | (refine wpG_at (v := ?_) (by rfl) ?_ ?_; rotate_left; (focus (first | (go_simp; with_reducible rfl) | (go_simp; done))); simp only [Act.put, List.setIfInBounds_toArray, List.set_cons_zero, List.set_cons_succ]) | (refine wpG_at_skip (by rfl) ?_; simp only [Act.put, List.setIfInBounds_toArray, List.set_cons_zero, List.set_cons_succ]) | (refine wpG_held_skip (by rfl) ?_; simp only [Act.put, List.setIfInBounds_toArray, List.set_cons_zero, List.set_cons_succ]) | (refine wpG_held (v := ?_) (by rfl) ?_ ?_; rotate_left; (focus (intro w' hSw; (try dsimp only at hSw); go_split_ands; first | (go_simp; with_reducible rfl) | (go_simp; done))); simp only [Act.put, List.setIfInBounds_toArray, List.set_cons_zero, List.set_cons_succ]))
    refine wpG_eff (by rfl) (fun K hK => ?_)
    go_simp
    refine HG.out.mono ?_
    rintro e w3 ⟨rfl, v3, A3, o3, k3⟩
    have h2d := h2.out.drew
    obtain ⟨z1, z2, z3, z4, z5, z6, z7, z8, z9, z10⟩ := h2d.ne
    obtain ⟨⟨y1, y2, y3, y4⟩, ⟨y5, y6, y7, y8⟩, y9, y10, y11, y12, y13⟩ := h2d.ow
    have W3 := h2d.hw.kp k3 (by rintro (e | e | e) <;> first | exact z6 e.symm | exact z8 e.symm | exact y2 e) (by rintro (e | e | e) <;> first | exact z7 e.symm | exact z9 e.symm | exact y3 e) (fun b hb => by
      rintro (e | e | e)
      · exact y6 (by rw [hb, e])
      · exact y7 (by rw [hb, e])
      · exact h2d.vv b e hb)
    have R3 := h2d.hh.kp k3 (fun b hb => by
      rintro (e | e | e)
      · exact y10 (by rw [hb, e])
      · exact y11 (by rw [hb, e])
      · exact y4 b e hb)
    have G3 := k3.get h2d.hg (by rintro (e | e | e) <;> first | exact z1 e | exact z2 e | exact y1 e)
    have X13 := k3.get (blk_drew XB.out) (by
      rintro (e | e | e)
      · exact ne_of_types (blk_drew XB.out) h2d.ha.hp (by decide) e
      · exact ne_of_types (blk_drew XB.out) h2d.ha.hl (by decide) e
      · exact h2d.ha.hv.ne (blk_drew XB.out) (by decide) e)
    have Lg3 := loc3 G3
    have LX3 := loc2 X13
    have HR3 := hid (HR.out _ W3)
    replace G3 := hid G3
    replace W3 := hid W3
    replace R3 := hid R3
    replace A3 := hid A3
    have o3h := hid o3
    clear o3
    refine hK _ _ ⟨Lg3.2.1, LX3.1, LX3.2.1⟩ ?_
    clear hK K
    clear Lg LX LA
    replace h2d := hid h2d
    repeat (first | (refine wpG_at (v := ?_) (by rfl) ?_ ?_; rotate_left; (focus (first | (go_simp; with_reducible rfl) | (go_simp; done))); simp only [Act.put, List.setIfInBounds_toArray, List.set_cons_zero, List.set_cons_succ]) | (refine wpG_at_skip (by rfl) ?_; simp only [Act.put, List.setIfInBounds_toArray, List.set_cons_zero, List.set_cons_succ]) | (refine wpG_held_skip (by rfl) ?_; simp only [Act.put, List.setIfInBounds_toArray, List.set_cons_zero, List.set_cons_succ]) | (refine wpG_held (v := ?_) (by rfl) ?_ ?_; rotate_left; (focus (intro w' hSw; (try dsimp only at hSw); go_split_ands; first | (go_simp; with_reducible rfl) | (go_simp; done))); simp only [Act.put, List.setIfInBounds_toArray, List.set_cons_zero, List.set_cons_succ]))
    refine wpG_fin (by rfl) (fun K hK => ?_)
    go_simp
    refine HR3.out.mono ?_
    rintro e w4 ⟨rfl, vb4, W4, n4, k4⟩
    refine hK _ _ ?_
    clear hK K
    replace W4 := hid W4
    replace n4 := hid n4
    repeat (first | (refine wpG_at (v := ?_) (by rfl) ?_ ?_; rotate_left; (focus (first | (go_simp; with_reducible rfl) | (go_simp; done))); simp only [Act.put, List.setIfInBounds_toArray, List.set_cons_zero, List.set_cons_succ]) | (refine wpG_at_skip (by rfl) ?_; simp only [Act.put, List.setIfInBounds_toArray, List.set_cons_zero, List.set_cons_succ]) | (refine wpG_held_skip (by rfl) ?_; simp only [Act.put, List.setIfInBounds_toArray, List.set_cons_zero, List.set_cons_succ]) | (refine wpG_held (v := ?_) (by rfl) ?_ ?_; rotate_left; (focus (intro w' hSw; (try dsimp only at hSw); go_split_ands; first | (go_simp; with_reducible rfl) | (go_simp; done))); simp only [Act.put, List.setIfInBounds_toArray, List.set_cons_zero, List.set_cons_succ]))
    refine wpG_nil (NoPanic.normal ?_)
    go_wp2_with fail
    go_ret
    have hlt3 : ∀ b, v3.ownBlock = some b → b < w3.heap.size := A3.out.hv.lt
    have K3 := (K2.drew.mono (G := FP pg p l r lb v vb (.slice (some ⟨b', 0, none⟩) H.length ch)) (fun _ h => h.elim)).trans (k3.mono (fun b e => by
      rcases e with e | e | e
      · exact .inr (.inl e)
      · exact .inr (.inr (.inl e))
      · exact .inr (.inr (.inr (.inr (.inr (.inl e)))))))
    have sz3 := K3.size
    have sz2 := K2.size
    have hv3N : ∀ b, v3.ownBlock = some b → N ≤ b ∧ (FP pg p l r lb v vb (.slice (some ⟨b', 0, none⟩) H.length ch) b ∨ w.heap.size ≤ b) := by
      intro b hb
      rcases o3h.out with o | ⟨b', o, hb'⟩
      · exact ⟨h2d.out.nv b (o ▸ hb), .inl (.inr (.inr (.inr (.inr (.inr (.inl (o ▸ hb)))))))⟩
      · rw [o] at hb; injection hb with hb; subst hb
        have := h2d.out.lt _ (.inl rfl)
        have := h2d.out.nn.1
        have hb'' : wc.heap.size ≤ b' := hb'
        exact ⟨by have : pg < wc.heap.size := h2d.out.lt _ (.inl rfl); omega, .inr (by omega)⟩
    have hpg3 : pg < w3.heap.size := blk_lt G3.out
    refine ⟨rfl, v3, vb4, _, _, _, E, H, ⟨k4.get G3.out (by rintro (e | e) <;> first | exact z3 e | exact z4 e), A3.out.kp k4 (by rintro (e | e) <;> first | exact z6 e | exact z7 e) (by rintro (e | e) <;> first | exact z8 e | exact z9 e) (fun b hb => by
        rintro (e | e)
        · exact A3.out.hv.ne W3.out.hp (by decide) (by rw [hb, e])
        · obtain ⟨A', hl', _⟩ := W3.out.hl
          exact A3.out.hv.ne hl' (by decide) (by rw [hb, e])), W4.out, R3.out.kp k4 (fun b hb => by
        rintro (e | e)
        · exact y12 (by rw [hb, e])
        · exact y13 (by rw [hb, e])), ?_, h2d.out.nn, fun b hb => (hv3N b hb).1, ?_, h2d.out.nh⟩, .free k5 x0 _ hk5.out, ?_, ?_⟩
    · intro b hb hb'
      have := hlt3 b hb
      have := n4.out b hb'
      omega
    · intro b hb
      have := n4.out b hb
      have := h2d.out.nn.1
      omega
    · rintro b (e | e | e | e | e | e | e | e)
      · exact .inl (.inl e)
      · exact .inl (.inr (.inl e))
      · exact .inl (.inr (.inr (.inl e)))
      · exact .inl (.inr (.inr (.inr (.inl e))))
      · exact .inl (.inr (.inr (.inr (.inr (.inl e)))))
      · exact (hv3N b e).2
      · exact .inr (by have := n4.out b e; omega)
      · exact .inl (.inr (.inr (.inr (.inr (.inr (.inr (.inr e)))))))
    · exact K3.trans (k4.mono (fun b e => by
        rcases e with e | e
        · exact .inr (.inr (.inr (.inl e)))
        · exact .inr (.inr (.inr (.inr (.inl e))))))
theorem do4 (h : GAt N w pg p l r lb c v vb hv S B E H) (hI : AInv S B E) (hG : Gens S E G) (hGG : G ≤ 4096) (hH : H.length ≤ 4096) (hi hg at_ x : Int) (wat : -9223372036854775808 ≤ at_ ∧ at_ < 9223372036854775808) :
    Calls Try.prog 9 #[.pointer (some ⟨pg, 0, none⟩), .agg #[.int .i64 4, .int .i64 hi, .int .u64 hg, .int .i64 at_, .int .i64 x]] w fun e w' => e = .returned (.bool true) ∧ Done N w w' pg p l r lb c v vb hv S B E H := by
  by_cases c1 : at_ < 1
  · exact do4a h hI hG hGG hH hi hg at_ x wat c1
  · by_cases c2 : H.length = 0
    · exact do4b h hI hG hGG hH hi hg at_ x wat (by omega) c2
    · exact do4c h hI hG hGG hH hi hg at_ x wat (by omega) (by omega)
end
end Go.Proofs.Ytldkogdkadgnkaa
