/- Walks: an act, of both: Retire. -/
import Derived.Test.YtplbkjgkocnehaaU18
namespace Go.Proofs.Ytplbkjgkocnehaa
set_option linter.unusedSimpArgs false
set_option linter.unusedVariables false
open Go.RowKit
attribute [local go_sem ↓] Go.wp_at_zero Go.wp_at_succ
theorem row_gen {w : World} {b c k : Nat} {l : List (Int × Int)} (h : RowAt w 59 eH 2 (.slice (some ⟨b, 0, none⟩) l.length c) l) {i g : Int} (hk : l[k]? = some (i, g)) (g' : Int) :
    RowAt (w.setCell ⟨b, k * 2 + 1, none⟩ (.int .u64 g')) 59 eH 2 (.slice (some ⟨b, 0, none⟩) l.length c) (l.set k (i, g')) ∧ w.cell? ⟨b, k * 2 + 1, none⟩ = some (.int .u64 g) ∧ w.frozen? ⟨b, k * 2 + 1, none⟩ = false ∧ b < w.heap.size := by
  have hkl := (List.getElem?_eq_some_iff.1 hk).1
  obtain ⟨b', c', A, hv, hb, hP, hc, hm, hs⟩ := h.pos eH_len (by omega)
  injection hv with h1 _ h3
  injection h1 with h1
  injection h1 with h1
  subst h1; subst h3
  refine ⟨?_, by rw [cell_of hb]; exact hP k 1 _ hk (by omega), frozen_of hb _, blk_lt hb⟩
  have hb' := blk_setCell hb (k * 2 + 1) (.int .u64 g')
  have := RowAt.own eH_len (l := l.set k (i, g')) (c := c) hb' ?_ (by rw [List.length_set]; exact hc) hm (by rw [Array.size_setIfInBounds]; exact hs)
  · rw [List.length_set] at this; exact this
  · intro k' j y hy hj
    by_cases e : k' = k
    · subst e
      rw [List.getElem?_set_self hkl] at hy
      injection hy with hy
      subst hy
      match j, hj with
      | 0, _ =>
        rw [Array.getElem?_setIfInBounds_ne (by omega), hP k' 0 _ hk (by omega)]
        rfl
      | 1, _ =>
        rw [Array.getElem?_setIfInBounds_self, if_pos (by rw [hs]; omega)]; rfl
    · rw [List.getElem?_set_ne (Ne.symm e)] at hy
      rw [Array.getElem?_setIfInBounds_ne (by omega)]
      exact hP k' j y hy hj
theorem RowAt.own_cells {α : Type} {f : α → List Value} {n : Nat} {w : World} {e : TypeId} {v : Value} {l : List α} (h : RowAt w e f n v l) {b : Nat} (hb : v.ownBlock = some b) : ∃ A, w.heap[b]? = some (.cells A e (0, 0)) := by
  rcases h.2 with ⟨h2, _⟩ | ⟨g, cap, cur, h2, _, hg, _⟩
  · rw [h2] at hb; cases hb
  · rw [h2] at hb; injection hb with hb; subst hb; exact ⟨_, hg⟩
def Do3Post (w : World) (p : Nat) (u v : Value) (H : List HV) (q : Nat) (dv ov rv : Value) (G : List QV) (D Z : List Nat) (S : List (Ret × List Int)) (x : Ret) (K : Nat) (e : Ending) (w' : World) : Prop :=
  e = .returned (.bool true) ∧ ∃ v' H' rv' G', TT w' p u v' H' q dv ov rv' G' D Z (qretS D Z S x) (K + 1) ∧ Grow w w' (tfp p u v H q dv ov rv G) (tfp p u v' H' q dv ov rv' G') ∧ Grow w w' (dfp p u v H q dv ov) (dfp p u v' H' q dv ov)
def DoPost (w : World) (p : Nat) (u v : Value) (H : List HV) (q : Nat) (dv ov rv : Value) (G : List QV) (K : Nat) (e : Ending) (w' : World) : Prop :=
  e = .returned (.bool true) ∧ ∃ v' H' rv' G' D' Z' S', TT w' p u v' H' q dv ov rv' G' D' Z' S' (K + 1) ∧ Grow w w' (tfp p u v H q dv ov rv G) (tfp p u v' H' q dv ov rv' G') ∧ Grow w w' (dfp p u v H q dv ov) (dfp p u v' H' q dv ov)
section
variable {w w' : World} {p q : Nat} {u v dv ov rv : Value} {H : List HV} {G : List QV} {D Z : List Nat} {S : List (Ret × List Int)} {K : Nat}
set_option maxRecDepth 100000 in
set_option maxHeartbeats 16000000 in
theorem do3x (h : TT w p u v H q dv ov rv G D Z S K) (hK : K + 1 ≤ 1000) (t : Int) {a b c : Value} {x : Ret} (hx : SlR w a b c x) (hf : x.few) (hxf : ∀ s, rdR a b c x s → ¬ tfp p u v H q dv ov rv G s) :
    Calls Try.prog 13 #[.pointer (some ⟨p, 0, none⟩), .pointer (some ⟨q, 0, none⟩), .agg #[.int .i64 3, .int .i64 t, a, b, c]] w (Do3Post w p u v H q dv ov rv G D Z S x K) := by
  obtain ⟨oa, ca, rfl, _⟩ := hx.a.form
  obtain ⟨ob, cb, rfl, _⟩ := hx.b.form
  obtain ⟨oc, cc, rfl, _⟩ := hx.c.form
  have B1 := hid (blk_new w (.cells #[.int .i64 3, .int .i64 t, .slice oa x.a.length ca, .slice ob x.b.length cb, .slice oc x.c.length cc] 37))
  have K1 := hid ((Kp.refl NoB w).alloc (.cells #[.int .i64 3, .int .i64 t, .slice oa x.a.length ca, .slice ob x.b.length cb, .slice oc x.c.length cc] 37))
  have HX := hid (hx.kn K1.out)
  have HT := hid (h.kn K1.out)
  have hlt := hid h.lt
  obtain ⟨q1, q2, q3⟩ := id hf
  have HF := hid hf
  clear h hx hf
  go_enter Try.func13, Try.ntmps13
  go_wp2_with fail
  generalize (w.alloc (.cells #[.int .i64 3, .int .i64 t, .slice oa x.a.length ca, .slice ob x.b.length cb, .slice oc x.c.length cc] 37)) = W1 at *
  have HS := hid (fun W' (k : Kp NoB W1 W') => (⟨(loc5 (k.get B1.out (fun h => h))).2.2.1, (loc5 (k.get B1.out (fun h => h))).2.2.2.1, (loc5 (k.get B1.out (fun h => h))).2.2.2.2.1⟩ :
    W'.cell? ⟨w.heap.size, 2, none⟩ = some (.slice oa x.a.length ca) ∧ W'.cell? ⟨w.heap.size, 3, none⟩ = some (.slice ob x.b.length cb) ∧ W'.cell? ⟨w.heap.size, 4, none⟩ = some (.slice oc x.c.length cc)))
  refine wp_mono (Q := fun e a' W' => e = .normal ∧ ∃ (va vb vc : Value) (g : Nat), W'.heap[g]? = some (.cells #[va, vb, vc] 35 (0, 0)) ∧ RowR W' va vb vc x ∧ New W1 va ∧ New W1 vb ∧ New W1 vc ∧ W1.heap.size ≤ g ∧ Kp NoB W1 W' ∧ (∀ s, vb.ownBlock = some s → va.ownBlock ≠ some s ∧ vc.ownBlock ≠ some s) ∧
    ∃ u' : Nat → Value, a' = { tmps := #[.pointer (some ⟨p, 0, none⟩), .pointer (some ⟨q, 0, none⟩), u' 2, u' 3, u' 4, .pointer (some ⟨w.heap.size, 0, none⟩), u' 6, .pointer (some ⟨g, 0, none⟩), u' 8, u' 9, u' 10, u' 11, u' 12, u' 13, u' 14, u' 15, u' 16, u' 17, u' 18, u' 19, u' 20, u' 21, u' 22, u' 23, u' 24, u' 25, u' 26, u' 27, u' 28, u' 29, u' 30, u' 31, u' 32, u' 33, u' 34, u' 35, u' 36, u' 37, u' 38, u' 39, u' 40, u' 41, u' 42, u' 43, u' 44, u' 45, u' 46, u' 47, u' 48, u' 49, u' 50, u' 51, u' 52, u' 53, u' 54, u' 55, u' 56, u' 57, u' 58, u' 59, u' 60, u' 61, u' 62, u' 63, u' 64, u' 65, u' 66, u' 67, u' 68, u' 69, u' 70, u' 71, u' 72, u' 73, u' 74, u' 75, u' 76, u' 77, u' 78, u' 79, u' 80, u' 81, u' 82, u' 83, u' 84, u' 85, u' 86, u' 87, u' 88, u' 89, u' 90, u' 91, u' 92, u' 93, u' 94, u' 95, u' 96, u' 97, u' 98, u' 99, u' 100, u' 101, u' 102, u' 103, u' 104, u' 105, u' 106, u' 107, u' 108, u' 109], defers := [] }) ?_ ?_
  · skip
    refine wp_region_four 13 3 7 11 (fun W => W.cell? ⟨w.heap.size, 2, none⟩ = some (.slice oa x.a.length ca) ∧ W.cell? ⟨w.heap.size, 3, none⟩ = some (.slice ob x.b.length cb) ∧ W.cell? ⟨w.heap.size, 4, none⟩ = some (.slice oc x.c.length cc)) [(0, .held), (1, .held), (2, .held), (4, .held), (5, .held), (6, .held), (8, .held), (9, .held), (10, .held), (13, .eff), (3, .eff), (7, .eff), (11, .fin), (12, .at_), (14, .fin)] [(0, .at_), (1, .at_), (2, .at_), (4, .held), (5, .held), (6, .held), (8, .held), (9, .held), (10, .held), (3, .eff), (13, .eff), (7, .eff), (11, .fin), (12, .at_), (14, .fin)] [(0, .at_), (1, .at_), (2, .at_), (4, .held), (5, .held), (6, .held), (8, .held), (9, .held), (10, .held), (3, .eff), (7, .eff), (13, .eff), (11, .fin), (12, .at_), (14, .fin)] [(0, .at_), (1, .at_), (2, .at_), (4, .held), (5, .held), (6, .held), (8, .held), (9, .held), (10, .held), (3, .eff), (7, .eff), (11, .eff), (12, .held), (13, .eff), (14, .fin)] ?L1a ?L1b ?L1c ?L1d (by kernel_rfl) (by kernel_rfl) (fun c hc a w => by simp only [List.mem_cons, List.not_mem_nil, or_false] at hc; rcases hc with rfl | rfl | rfl <;> exact quick_append rfl a w) ?hL1a ?hL1b ?hL1c ?hL1d (HS.out _ ((Kp.refl NoB W1).drew)) ?hG1a ?hG1b ?hG1c ?hG1d
    case hL1a => simp only [pickOps, List.map_cons, List.map_nil, List.getD_cons_zero, List.getD_cons_succ]; rfl
    case hL1b => simp only [pickOps, List.map_cons, List.map_nil, List.getD_cons_zero, List.getD_cons_succ]; rfl
    case hL1c => simp only [pickOps, List.map_cons, List.map_nil, List.getD_cons_zero, List.getD_cons_succ]; rfl
    case hL1d => simp only [pickOps, List.map_cons, List.map_nil, List.getD_cons_zero, List.getD_cons_succ]; rfl
    · obtain ⟨s1, s2, s3⟩ := HS.out _ ((Kp.refl NoB W1).drew)
      have KK := hid ((Kp.refl NoB W1).drew)
      repeat (first | (refine wpG_at (v := ?_) (by rfl) ?_ ?_; rotate_left; (focus (first | (go_simp; with_reducible rfl) | (go_simp; done))); simp only [Act.put, List.setIfInBounds_toArray, List.set_cons_zero, List.set_cons_succ]) | (refine wpG_at_skip (by rfl) ?_; simp only [Act.put, List.setIfInBounds_toArray, List.set_cons_zero, List.set_cons_succ]) | (refine wpG_held_skip (by rfl) ?_; simp only [Act.put, List.setIfInBounds_toArray, List.set_cons_zero, List.set_cons_succ]) | (refine wpG_held (v := ?_) (by rfl) ?_ ?_; rotate_left; (focus (intro w' hSw; (try dsimp only at hSw); go_split_ands; first | (go_simp; with_reducible rfl) | (go_simp; done))); simp only [Act.put, List.setIfInBounds_toArray, List.set_cons_zero, List.set_cons_succ]))
      obtain ⟨g, hg⟩ : ∃ g, g = W1.heap.size := ⟨_, rfl⟩
      have KK := hid (show Kp NoB W1 ((W1.alloc (.cells #[.slice none 0 0, .slice none 0 0, .slice none 0 0] 35)).drew) from KK.out.alloc (.cells #[.slice none 0 0, .slice none 0 0, .slice none 0 0] 35))
      have hgs := hid (show W1.heap.size ≤ g from by rw [hg]; exact Nat.le_refl _)
      have G := hid (show ((W1.alloc (.cells #[.slice none 0 0, .slice none 0 0, .slice none 0 0] 35)).drew).heap[g]? = some (.cells #[.slice none 0 0, .slice none 0 0, .slice none 0 0] 35 (0, 0)) from blk_new' (W1.drew) (.cells #[.slice none 0 0, .slice none 0 0, .slice none 0 0] 35) hg)
      clear s1 s2 s3
      obtain ⟨s1, s2, s3⟩ := HS.out _ KK.out
      refine wpG_eff (by rfl) (fun K hK => ?_)
      go_simp
      try rw [← hg]
      try (simp only [World.drew_heap] at hg; rw [← hg])
      refine hK _ _ ⟨s1, s2, s3⟩ ?_
      clear hK K
      generalize (W1.alloc (.cells #[.slice none 0 0, .slice none 0 0, .slice none 0 0] 35)).drew = wg at *
      replace hg := hid hg
      have KKp := hid KK.out
      repeat (first | (refine wpG_at (v := ?_) (by rfl) ?_ ?_; rotate_left; (focus (first | (go_simp; with_reducible rfl) | (go_simp; done))); simp only [Act.put, List.setIfInBounds_toArray, List.set_cons_zero, List.set_cons_succ]) | (refine wpG_at_skip (by rfl) ?_; simp only [Act.put, List.setIfInBounds_toArray, List.set_cons_zero, List.set_cons_succ]) | (refine wpG_held_skip (by rfl) ?_; simp only [Act.put, List.setIfInBounds_toArray, List.set_cons_zero, List.set_cons_succ]) | (refine wpG_held (v := ?_) (by rfl) ?_ ?_; rotate_left; (focus (intro w' hSw; (try dsimp only at hSw); go_split_ands; first | (go_simp; with_reducible rfl) | (go_simp; done))); simp only [Act.put, List.setIfInBounds_toArray, List.set_cons_zero, List.set_cons_succ]))
      obtain ⟨va, wa, ra, qa, ka, na⟩ := run_nil_sg (P := Try.prog) (ty := 33) eH_len (by omega) sl33 i59 rfl (HX.out.a.kn KK.out) (oneH x.a) (by omega) (by omega)
      obtain ⟨oa', ca', ea, _⟩ := qa.form
      subst ea
      have G := hid (ka.get G.out (fun h => h))
      have na := hid (show New W1 (.slice oa' x.a.length ca') from fun s hs => Nat.le_trans KK.out.size (na s hs))
      have lta := hid qa.lt
      have KK := hid (KK.out.trans ka)
      have KKp := hid KK.out
      replace qa := hid qa
      clear s1 s2 s3 ka
      obtain ⟨s1, s2, s3⟩ := HS.out _ KK.out
      refine wpG_eff (by rfl) (fun K hK => ?_)
      refine Lib.wp_append_run _ _ _ 33 33 rfl (.slice none 0 0) (.slice oa x.a.length ca) rfl rfl _ _ ra ?_
      refine hK _ _ ⟨s1, s2, s3⟩ ?_
      clear hK K ra
      repeat (first | (refine wpG_at (v := ?_) (by rfl) ?_ ?_; rotate_left; (focus (first | (go_simp; with_reducible rfl) | (go_simp; done))); simp only [Act.put, List.setIfInBounds_toArray, List.set_cons_zero, List.set_cons_succ]) | (refine wpG_at_skip (by rfl) ?_; simp only [Act.put, List.setIfInBounds_toArray, List.set_cons_zero, List.set_cons_succ]) | (refine wpG_held_skip (by rfl) ?_; simp only [Act.put, List.setIfInBounds_toArray, List.set_cons_zero, List.set_cons_succ]) | (refine wpG_held (v := ?_) (by rfl) ?_ ?_; rotate_left; (focus (intro w' hSw; (try dsimp only at hSw); go_split_ands; first | (go_simp; with_reducible rfl) | (go_simp; done))); simp only [Act.put, List.setIfInBounds_toArray, List.set_cons_zero, List.set_cons_succ]))
      obtain ⟨vb, wb, rb, qb, kb, nb⟩ := run_nil_sg (P := Try.prog) (ty := 33) eH_len (by omega) sl33 i59 rfl (HX.out.b.kn KK.out) (oneH x.b) (by omega) (by omega)
      obtain ⟨ob', cb', eb, _⟩ := qb.form
      subst eb
      have neab := hid (show ∀ s, (Value.slice ob' x.b.length cb').ownBlock = some s → (Value.slice oa' x.a.length ca').ownBlock = some s → False from fun s hs e => by have h1 := nb s hs; have h2 := qa.out.lt s e; omega)
      have qa := hid (qa.out.kp kb (fun _ _ h => h))
      have G := hid (kb.get G.out (fun h => h))
      have nb := hid (show New W1 (.slice ob' x.b.length cb') from fun s hs => Nat.le_trans KK.out.size (nb s hs))
      have ltb := hid qb.lt
      have KK := hid (KK.out.trans kb)
      have KKp := hid KK.out
      replace qb := hid qb
      clear s1 s2 s3 kb
      obtain ⟨s1, s2, s3⟩ := HS.out _ KK.out
      refine wpG_eff (by rfl) (fun K hK => ?_)
      refine Lib.wp_append_run _ _ _ 33 33 rfl (.slice none 0 0) (.slice ob x.b.length cb) rfl rfl _ _ rb ?_
      refine hK _ _ ⟨s1, s2, s3⟩ ?_
      clear hK K rb
      repeat (first | (refine wpG_at (v := ?_) (by rfl) ?_ ?_; rotate_left; (focus (first | (go_simp; with_reducible rfl) | (go_simp; done))); simp only [Act.put, List.setIfInBounds_toArray, List.set_cons_zero, List.set_cons_succ]) | (refine wpG_at_skip (by rfl) ?_; simp only [Act.put, List.setIfInBounds_toArray, List.set_cons_zero, List.set_cons_succ]) | (refine wpG_held_skip (by rfl) ?_; simp only [Act.put, List.setIfInBounds_toArray, List.set_cons_zero, List.set_cons_succ]) | (refine wpG_held (v := ?_) (by rfl) ?_ ?_; rotate_left; (focus (intro w' hSw; (try dsimp only at hSw); go_split_ands; first | (go_simp; with_reducible rfl) | (go_simp; done))); simp only [Act.put, List.setIfInBounds_toArray, List.set_cons_zero, List.set_cons_succ]))
      obtain ⟨vc, wc, rc, qc, kc, nc⟩ := run_nil_sg (P := Try.prog) (ty := 33) eH_len (by omega) sl33 i59 rfl (HX.out.c.kn KK.out) (oneH x.c) (by omega) (by omega)
      obtain ⟨oc', cc', ec, _⟩ := qc.form
      subst ec
      have qa := hid (qa.out.kp kc (fun _ _ h => h))
      have nebc := hid (show ∀ s, (Value.slice oc' x.c.length cc').ownBlock = some s → (Value.slice ob' x.b.length cb').ownBlock = some s → False from fun s hs e => by have h1 := nc s hs; have h2 := qb.out.lt s e; omega)
      have qb := hid (qb.out.kp kc (fun _ _ h => h))
      have G := hid (kc.get G.out (fun h => h))
      have nc := hid (show New W1 (.slice oc' x.c.length cc') from fun s hs => Nat.le_trans KK.out.size (nc s hs))
      have ltc := hid qc.lt
      have KK := hid (KK.out.trans kc)
      have KKp := hid KK.out
      replace qc := hid qc
      clear s1 s2 s3 kc
      obtain ⟨s1, s2, s3⟩ := HS.out _ KK.out
      refine wpG_fin (by rfl) (fun K hK => ?_)
      refine Lib.wp_append_run _ _ _ 33 33 rfl (.slice none 0 0) (.slice oc x.c.length cc) rfl rfl _ _ rc ?_
      refine hK _ _ ?_
      clear hK K rc
      repeat (first | (refine wpG_at (v := ?_) (by rfl) ?_ ?_; rotate_left; (focus (first | (go_simp; with_reducible rfl) | (go_simp; done))); simp only [Act.put, List.setIfInBounds_toArray, List.set_cons_zero, List.set_cons_succ]) | (refine wpG_at_skip (by rfl) ?_; simp only [Act.put, List.setIfInBounds_toArray, List.set_cons_zero, List.set_cons_succ]) | (refine wpG_held_skip (by rfl) ?_; simp only [Act.put, List.setIfInBounds_toArray, List.set_cons_zero, List.set_cons_succ]) | (refine wpG_held (v := ?_) (by rfl) ?_ ?_; rotate_left; (focus (intro w' hSw; (try dsimp only at hSw); go_split_ands; first | (go_simp; with_reducible rfl) | (go_simp; done))); simp only [Act.put, List.setIfInBounds_toArray, List.set_cons_zero, List.set_cons_succ]))
      have L := loc3 G.out
      refine wpG_fin (by rfl) (fun K hK => ?_)
      go_simp
      refine hK _ _ ?_
      clear hK K
      repeat (first | (refine wpG_at (v := ?_) (by rfl) ?_ ?_; rotate_left; (focus (first | (go_simp; with_reducible rfl) | (go_simp; done))); simp only [Act.put, List.setIfInBounds_toArray, List.set_cons_zero, List.set_cons_succ]) | (refine wpG_at_skip (by rfl) ?_; simp only [Act.put, List.setIfInBounds_toArray, List.set_cons_zero, List.set_cons_succ]) | (refine wpG_held_skip (by rfl) ?_; simp only [Act.put, List.setIfInBounds_toArray, List.set_cons_zero, List.set_cons_succ]) | (refine wpG_held (v := ?_) (by rfl) ?_ ?_; rotate_left; (focus (intro w' hSw; (try dsimp only at hSw); go_split_ands; first | (go_simp; with_reducible rfl) | (go_simp; done))); simp only [Act.put, List.setIfInBounds_toArray, List.set_cons_zero, List.set_cons_succ]))
      refine wpG_nil (NoPanic.normal ?_)
      have KF : Kp NoB W1 ((((wc).setCell ⟨g, 0, none⟩ (.slice oa' x.a.length ca')).setCell ⟨g, 1, none⟩ (.slice ob' x.b.length cb')).setCell ⟨g, 2, none⟩ (.slice oc' x.c.length cc')) := ((KK.out.setCell (p := ⟨g, 0, none⟩) _ (fun h => absurd (show g < W1.heap.size from h) (by have := hgs.out; omega))).setCell (p := ⟨g, 1, none⟩) _ (fun h => absurd (show g < W1.heap.size from h) (by have := hgs.out; omega))).setCell (p := ⟨g, 2, none⟩) _ (fun h => absurd (show g < W1.heap.size from h) (by have := hgs.out; omega))
      have hne : ∀ {v : Value} {l : List (Int × Int)}, RowAt wc 59 eH 2 v l → v.ownBlock ≠ some g := fun h => h.ne G.out (by decide)
      refine ⟨rfl, _, _, _, g, blk_setCell (blk_setCell (blk_setCell G.out 0 _) 1 _) 2 _, ⟨((qa.out.setCell _ _ (hne qa.out)).setCell _ _ (hne qa.out)).setCell _ _ (hne qa.out), ((qb.out.setCell _ _ (hne qb.out)).setCell _ _ (hne qb.out)).setCell _ _ (hne qb.out), ((qc.out.setCell _ _ (hne qc.out)).setCell _ _ (hne qc.out)).setCell _ _ (hne qc.out)⟩, na.out, nb.out, nc.out, hgs.out, KF, ?_, ax_fun _ (by rfl)⟩
      exact fun s hs => ⟨fun e => neab.out s hs e, fun e => nebc.out s e hs⟩
    · obtain ⟨s1, s2, s3⟩ := HS.out _ ((Kp.refl NoB W1).drew)
      have KK := hid ((Kp.refl NoB W1).drew)
      repeat (first | (refine wpG_at (v := ?_) (by rfl) ?_ ?_; rotate_left; (focus (first | (go_simp; with_reducible rfl) | (go_simp; done))); simp only [Act.put, List.setIfInBounds_toArray, List.set_cons_zero, List.set_cons_succ]) | (refine wpG_at_skip (by rfl) ?_; simp only [Act.put, List.setIfInBounds_toArray, List.set_cons_zero, List.set_cons_succ]) | (refine wpG_held_skip (by rfl) ?_; simp only [Act.put, List.setIfInBounds_toArray, List.set_cons_zero, List.set_cons_succ]) | (refine wpG_held (v := ?_) (by rfl) ?_ ?_; rotate_left; (focus (intro w' hSw; (try dsimp only at hSw); go_split_ands; first | (go_simp; with_reducible rfl) | (go_simp; done))); simp only [Act.put, List.setIfInBounds_toArray, List.set_cons_zero, List.set_cons_succ]))
      obtain ⟨va, wa, ra, qa, ka, na⟩ := run_nil_sg (P := Try.prog) (ty := 33) eH_len (by omega) sl33 i59 rfl (HX.out.a.kn KK.out) (oneH x.a) (by omega) (by omega)
      obtain ⟨oa', ca', ea, _⟩ := qa.form
      subst ea
      have na := hid (show New W1 (.slice oa' x.a.length ca') from fun s hs => Nat.le_trans KK.out.size (na s hs))
      have lta := hid qa.lt
      have KK := hid (KK.out.trans ka)
      have KKp := hid KK.out
      replace qa := hid qa
      clear s1 s2 s3 ka
      obtain ⟨s1, s2, s3⟩ := HS.out _ KK.out
      refine wpG_eff (by rfl) (fun K hK => ?_)
      refine Lib.wp_append_run _ _ _ 33 33 rfl (.slice none 0 0) (.slice oa x.a.length ca) rfl rfl _ _ ra ?_
      refine hK _ _ ⟨s1, s2, s3⟩ ?_
      clear hK K ra
      repeat (first | (refine wpG_at (v := ?_) (by rfl) ?_ ?_; rotate_left; (focus (first | (go_simp; with_reducible rfl) | (go_simp; done))); simp only [Act.put, List.setIfInBounds_toArray, List.set_cons_zero, List.set_cons_succ]) | (refine wpG_at_skip (by rfl) ?_; simp only [Act.put, List.setIfInBounds_toArray, List.set_cons_zero, List.set_cons_succ]) | (refine wpG_held_skip (by rfl) ?_; simp only [Act.put, List.setIfInBounds_toArray, List.set_cons_zero, List.set_cons_succ]) | (refine wpG_held (v := ?_) (by rfl) ?_ ?_; rotate_left; (focus (intro w' hSw; (try dsimp only at hSw); go_split_ands; first | (go_simp; with_reducible rfl) | (go_simp; done))); simp only [Act.put, List.setIfInBounds_toArray, List.set_cons_zero, List.set_cons_succ]))
      obtain ⟨g, hg⟩ : ∃ g, g = wa.heap.size := ⟨_, rfl⟩
      have KK := hid (show Kp NoB W1 (wa.alloc (.cells #[.slice none 0 0, .slice none 0 0, .slice none 0 0] 35)) from KK.out.alloc (.cells #[.slice none 0 0, .slice none 0 0, .slice none 0 0] 35))
      have hgs := hid (show W1.heap.size ≤ g from by rw [hg]; exact KKp.out.size)
      have G := hid (show (wa.alloc (.cells #[.slice none 0 0, .slice none 0 0, .slice none 0 0] 35)).heap[g]? = some (.cells #[.slice none 0 0, .slice none 0 0, .slice none 0 0] 35 (0, 0)) from blk_new' (wa) (.cells #[.slice none 0 0, .slice none 0 0, .slice none 0 0] 35) hg)
      have qa := hid (show RowAt (wa.alloc (.cells #[.slice none 0 0, .slice none 0 0, .slice none 0 0] 35)) 59 eH 2 _ _ from qa.out.alloc (.cells #[.slice none 0 0, .slice none 0 0, .slice none 0 0] 35))
      clear s1 s2 s3
      obtain ⟨s1, s2, s3⟩ := HS.out _ KK.out
      refine wpG_eff (by rfl) (fun K hK => ?_)
      go_simp
      try rw [← hg]
      try (simp only [World.drew_heap] at hg; rw [← hg])
      refine hK _ _ ⟨s1, s2, s3⟩ ?_
      clear hK K
      generalize wa.alloc (.cells #[.slice none 0 0, .slice none 0 0, .slice none 0 0] 35) = wg at *
      replace hg := hid hg
      have KKp := hid KK.out
      repeat (first | (refine wpG_at (v := ?_) (by rfl) ?_ ?_; rotate_left; (focus (first | (go_simp; with_reducible rfl) | (go_simp; done))); simp only [Act.put, List.setIfInBounds_toArray, List.set_cons_zero, List.set_cons_succ]) | (refine wpG_at_skip (by rfl) ?_; simp only [Act.put, List.setIfInBounds_toArray, List.set_cons_zero, List.set_cons_succ]) | (refine wpG_held_skip (by rfl) ?_; simp only [Act.put, List.setIfInBounds_toArray, List.set_cons_zero, List.set_cons_succ]) | (refine wpG_held (v := ?_) (by rfl) ?_ ?_; rotate_left; (focus (intro w' hSw; (try dsimp only at hSw); go_split_ands; first | (go_simp; with_reducible rfl) | (go_simp; done))); simp only [Act.put, List.setIfInBounds_toArray, List.set_cons_zero, List.set_cons_succ]))
      obtain ⟨vb, wb, rb, qb, kb, nb⟩ := run_nil_sg (P := Try.prog) (ty := 33) eH_len (by omega) sl33 i59 rfl (HX.out.b.kn KK.out) (oneH x.b) (by omega) (by omega)
      obtain ⟨ob', cb', eb, _⟩ := qb.form
      subst eb
      have neab := hid (show ∀ s, (Value.slice ob' x.b.length cb').ownBlock = some s → (Value.slice oa' x.a.length ca').ownBlock = some s → False from fun s hs e => by have h1 := nb s hs; have h2 := qa.out.lt s e; omega)
      have qa := hid (qa.out.kp kb (fun _ _ h => h))
      have G := hid (kb.get G.out (fun h => h))
      have nb := hid (show New W1 (.slice ob' x.b.length cb') from fun s hs => Nat.le_trans KK.out.size (nb s hs))
      have ltb := hid qb.lt
      have KK := hid (KK.out.trans kb)
      have KKp := hid KK.out
      replace qb := hid qb
      clear s1 s2 s3 kb
      obtain ⟨s1, s2, s3⟩ := HS.out _ KK.out
      refine wpG_eff (by rfl) (fun K hK => ?_)
      refine Lib.wp_append_run _ _ _ 33 33 rfl (.slice none 0 0) (.slice ob x.b.length cb) rfl rfl _ _ rb ?_
      refine hK _ _ ⟨s1, s2, s3⟩ ?_
      clear hK K rb
      repeat (first | (refine wpG_at (v := ?_) (by rfl) ?_ ?_; rotate_left; (focus (first | (go_simp; with_reducible rfl) | (go_simp; done))); simp only [Act.put, List.setIfInBounds_toArray, List.set_cons_zero, List.set_cons_succ]) | (refine wpG_at_skip (by rfl) ?_; simp only [Act.put, List.setIfInBounds_toArray, List.set_cons_zero, List.set_cons_succ]) | (refine wpG_held_skip (by rfl) ?_; simp only [Act.put, List.setIfInBounds_toArray, List.set_cons_zero, List.set_cons_succ]) | (refine wpG_held (v := ?_) (by rfl) ?_ ?_; rotate_left; (focus (intro w' hSw; (try dsimp only at hSw); go_split_ands; first | (go_simp; with_reducible rfl) | (go_simp; done))); simp only [Act.put, List.setIfInBounds_toArray, List.set_cons_zero, List.set_cons_succ]))
      obtain ⟨vc, wc, rc, qc, kc, nc⟩ := run_nil_sg (P := Try.prog) (ty := 33) eH_len (by omega) sl33 i59 rfl (HX.out.c.kn KK.out) (oneH x.c) (by omega) (by omega)
      obtain ⟨oc', cc', ec, _⟩ := qc.form
      subst ec
      have qa := hid (qa.out.kp kc (fun _ _ h => h))
      have nebc := hid (show ∀ s, (Value.slice oc' x.c.length cc').ownBlock = some s → (Value.slice ob' x.b.length cb').ownBlock = some s → False from fun s hs e => by have h1 := nc s hs; have h2 := qb.out.lt s e; omega)
      have qb := hid (qb.out.kp kc (fun _ _ h => h))
      have G := hid (kc.get G.out (fun h => h))
      have nc := hid (show New W1 (.slice oc' x.c.length cc') from fun s hs => Nat.le_trans KK.out.size (nc s hs))
      have ltc := hid qc.lt
      have KK := hid (KK.out.trans kc)
      have KKp := hid KK.out
      replace qc := hid qc
      clear s1 s2 s3 kc
      obtain ⟨s1, s2, s3⟩ := HS.out _ KK.out
      refine wpG_fin (by rfl) (fun K hK => ?_)
      refine Lib.wp_append_run _ _ _ 33 33 rfl (.slice none 0 0) (.slice oc x.c.length cc) rfl rfl _ _ rc ?_
      refine hK _ _ ?_
      clear hK K rc
      repeat (first | (refine wpG_at (v := ?_) (by rfl) ?_ ?_; rotate_left; (focus (first | (go_simp; with_reducible rfl) | (go_simp; done))); simp only [Act.put, List.setIfInBounds_toArray, List.set_cons_zero, List.set_cons_succ]) | (refine wpG_at_skip (by rfl) ?_; simp only [Act.put, List.setIfInBounds_toArray, List.set_cons_zero, List.set_cons_succ]) | (refine wpG_held_skip (by rfl) ?_; simp only [Act.put, List.setIfInBounds_toArray, List.set_cons_zero, List.set_cons_succ]) | (refine wpG_held (v := ?_) (by rfl) ?_ ?_; rotate_left; (focus (intro w' hSw; (try dsimp only at hSw); go_split_ands; first | (go_simp; with_reducible rfl) | (go_simp; done))); simp only [Act.put, List.setIfInBounds_toArray, List.set_cons_zero, List.set_cons_succ]))
      have L := loc3 G.out
      refine wpG_fin (by rfl) (fun K hK => ?_)
      go_simp
      refine hK _ _ ?_
      clear hK K
      repeat (first | (refine wpG_at (v := ?_) (by rfl) ?_ ?_; rotate_left; (focus (first | (go_simp; with_reducible rfl) | (go_simp; done))); simp only [Act.put, List.setIfInBounds_toArray, List.set_cons_zero, List.set_cons_succ]) | (refine wpG_at_skip (by rfl) ?_; simp only [Act.put, List.setIfInBounds_toArray, List.set_cons_zero, List.set_cons_succ]) | (refine wpG_held_skip (by rfl) ?_; simp only [Act.put, List.setIfInBounds_toArray, List.set_cons_zero, List.set_cons_succ]) | (refine wpG_held (v := ?_) (by rfl) ?_ ?_; rotate_left; (focus (intro w' hSw; (try dsimp only at hSw); go_split_ands; first | (go_simp; with_reducible rfl) | (go_simp; done))); simp only [Act.put, List.setIfInBounds_toArray, List.set_cons_zero, List.set_cons_succ]))
      refine wpG_nil (NoPanic.normal ?_)
      have KF : Kp NoB W1 ((((wc).setCell ⟨g, 0, none⟩ (.slice oa' x.a.length ca')).setCell ⟨g, 1, none⟩ (.slice ob' x.b.length cb')).setCell ⟨g, 2, none⟩ (.slice oc' x.c.length cc')) := ((KK.out.setCell (p := ⟨g, 0, none⟩) _ (fun h => absurd (show g < W1.heap.size from h) (by have := hgs.out; omega))).setCell (p := ⟨g, 1, none⟩) _ (fun h => absurd (show g < W1.heap.size from h) (by have := hgs.out; omega))).setCell (p := ⟨g, 2, none⟩) _ (fun h => absurd (show g < W1.heap.size from h) (by have := hgs.out; omega))
      have hne : ∀ {v : Value} {l : List (Int × Int)}, RowAt wc 59 eH 2 v l → v.ownBlock ≠ some g := fun h => h.ne G.out (by decide)
      refine ⟨rfl, _, _, _, g, blk_setCell (blk_setCell (blk_setCell G.out 0 _) 1 _) 2 _, ⟨((qa.out.setCell _ _ (hne qa.out)).setCell _ _ (hne qa.out)).setCell _ _ (hne qa.out), ((qb.out.setCell _ _ (hne qb.out)).setCell _ _ (hne qb.out)).setCell _ _ (hne qb.out), ((qc.out.setCell _ _ (hne qc.out)).setCell _ _ (hne qc.out)).setCell _ _ (hne qc.out)⟩, na.out, nb.out, nc.out, hgs.out, KF, ?_, ax_fun _ (by rfl)⟩
      exact fun s hs => ⟨fun e => neab.out s hs e, fun e => nebc.out s e hs⟩
    · obtain ⟨s1, s2, s3⟩ := HS.out _ ((Kp.refl NoB W1).drew)
      have KK := hid ((Kp.refl NoB W1).drew)
      repeat (first | (refine wpG_at (v := ?_) (by rfl) ?_ ?_; rotate_left; (focus (first | (go_simp; with_reducible rfl) | (go_simp; done))); simp only [Act.put, List.setIfInBounds_toArray, List.set_cons_zero, List.set_cons_succ]) | (refine wpG_at_skip (by rfl) ?_; simp only [Act.put, List.setIfInBounds_toArray, List.set_cons_zero, List.set_cons_succ]) | (refine wpG_held_skip (by rfl) ?_; simp only [Act.put, List.setIfInBounds_toArray, List.set_cons_zero, List.set_cons_succ]) | (refine wpG_held (v := ?_) (by rfl) ?_ ?_; rotate_left; (focus (intro w' hSw; (try dsimp only at hSw); go_split_ands; first | (go_simp; with_reducible rfl) | (go_simp; done))); simp only [Act.put, List.setIfInBounds_toArray, List.set_cons_zero, List.set_cons_succ]))
      obtain ⟨va, wa, ra, qa, ka, na⟩ := run_nil_sg (P := Try.prog) (ty := 33) eH_len (by omega) sl33 i59 rfl (HX.out.a.kn KK.out) (oneH x.a) (by omega) (by omega)
      obtain ⟨oa', ca', ea, _⟩ := qa.form
      subst ea
      have na := hid (show New W1 (.slice oa' x.a.length ca') from fun s hs => Nat.le_trans KK.out.size (na s hs))
      have lta := hid qa.lt
      have KK := hid (KK.out.trans ka)
      have KKp := hid KK.out
      replace qa := hid qa
      clear s1 s2 s3 ka
      obtain ⟨s1, s2, s3⟩ := HS.out _ KK.out
      refine wpG_eff (by rfl) (fun K hK => ?_)
      refine Lib.wp_append_run _ _ _ 33 33 rfl (.slice none 0 0) (.slice oa x.a.length ca) rfl rfl _ _ ra ?_
      refine hK _ _ ⟨s1, s2, s3⟩ ?_
      clear hK K ra
      repeat (first | (refine wpG_at (v := ?_) (by rfl) ?_ ?_; rotate_left; (focus (first | (go_simp; with_reducible rfl) | (go_simp; done))); simp only [Act.put, List.setIfInBounds_toArray, List.set_cons_zero, List.set_cons_succ]) | (refine wpG_at_skip (by rfl) ?_; simp only [Act.put, List.setIfInBounds_toArray, List.set_cons_zero, List.set_cons_succ]) | (refine wpG_held_skip (by rfl) ?_; simp only [Act.put, List.setIfInBounds_toArray, List.set_cons_zero, List.set_cons_succ]) | (refine wpG_held (v := ?_) (by rfl) ?_ ?_; rotate_left; (focus (intro w' hSw; (try dsimp only at hSw); go_split_ands; first | (go_simp; with_reducible rfl) | (go_simp; done))); simp only [Act.put, List.setIfInBounds_toArray, List.set_cons_zero, List.set_cons_succ]))
      obtain ⟨vb, wb, rb, qb, kb, nb⟩ := run_nil_sg (P := Try.prog) (ty := 33) eH_len (by omega) sl33 i59 rfl (HX.out.b.kn KK.out) (oneH x.b) (by omega) (by omega)
      obtain ⟨ob', cb', eb, _⟩ := qb.form
      subst eb
      have neab := hid (show ∀ s, (Value.slice ob' x.b.length cb').ownBlock = some s → (Value.slice oa' x.a.length ca').ownBlock = some s → False from fun s hs e => by have h1 := nb s hs; have h2 := qa.out.lt s e; omega)
      have qa := hid (qa.out.kp kb (fun _ _ h => h))
      have nb := hid (show New W1 (.slice ob' x.b.length cb') from fun s hs => Nat.le_trans KK.out.size (nb s hs))
      have ltb := hid qb.lt
      have KK := hid (KK.out.trans kb)
      have KKp := hid KK.out
      replace qb := hid qb
      clear s1 s2 s3 kb
      obtain ⟨s1, s2, s3⟩ := HS.out _ KK.out
      refine wpG_eff (by rfl) (fun K hK => ?_)
      refine Lib.wp_append_run _ _ _ 33 33 rfl (.slice none 0 0) (.slice ob x.b.length cb) rfl rfl _ _ rb ?_
      refine hK _ _ ⟨s1, s2, s3⟩ ?_
      clear hK K rb
      repeat (first | (refine wpG_at (v := ?_) (by rfl) ?_ ?_; rotate_left; (focus (first | (go_simp; with_reducible rfl) | (go_simp; done))); simp only [Act.put, List.setIfInBounds_toArray, List.set_cons_zero, List.set_cons_succ]) | (refine wpG_at_skip (by rfl) ?_; simp only [Act.put, List.setIfInBounds_toArray, List.set_cons_zero, List.set_cons_succ]) | (refine wpG_held_skip (by rfl) ?_; simp only [Act.put, List.setIfInBounds_toArray, List.set_cons_zero, List.set_cons_succ]) | (refine wpG_held (v := ?_) (by rfl) ?_ ?_; rotate_left; (focus (intro w' hSw; (try dsimp only at hSw); go_split_ands; first | (go_simp; with_reducible rfl) | (go_simp; done))); simp only [Act.put, List.setIfInBounds_toArray, List.set_cons_zero, List.set_cons_succ]))
      obtain ⟨g, hg⟩ : ∃ g, g = wb.heap.size := ⟨_, rfl⟩
      have KK := hid (show Kp NoB W1 (wb.alloc (.cells #[.slice none 0 0, .slice none 0 0, .slice none 0 0] 35)) from KK.out.alloc (.cells #[.slice none 0 0, .slice none 0 0, .slice none 0 0] 35))
      have hgs := hid (show W1.heap.size ≤ g from by rw [hg]; exact KKp.out.size)
      have G := hid (show (wb.alloc (.cells #[.slice none 0 0, .slice none 0 0, .slice none 0 0] 35)).heap[g]? = some (.cells #[.slice none 0 0, .slice none 0 0, .slice none 0 0] 35 (0, 0)) from blk_new' (wb) (.cells #[.slice none 0 0, .slice none 0 0, .slice none 0 0] 35) hg)
      have qa := hid (show RowAt (wb.alloc (.cells #[.slice none 0 0, .slice none 0 0, .slice none 0 0] 35)) 59 eH 2 _ _ from qa.out.alloc (.cells #[.slice none 0 0, .slice none 0 0, .slice none 0 0] 35))
      have qb := hid (show RowAt (wb.alloc (.cells #[.slice none 0 0, .slice none 0 0, .slice none 0 0] 35)) 59 eH 2 _ _ from qb.out.alloc (.cells #[.slice none 0 0, .slice none 0 0, .slice none 0 0] 35))
      clear s1 s2 s3
      obtain ⟨s1, s2, s3⟩ := HS.out _ KK.out
      refine wpG_eff (by rfl) (fun K hK => ?_)
      go_simp
      try rw [← hg]
      try (simp only [World.drew_heap] at hg; rw [← hg])
      refine hK _ _ ⟨s1, s2, s3⟩ ?_
      clear hK K
      generalize wb.alloc (.cells #[.slice none 0 0, .slice none 0 0, .slice none 0 0] 35) = wg at *
      replace hg := hid hg
      have KKp := hid KK.out
      repeat (first | (refine wpG_at (v := ?_) (by rfl) ?_ ?_; rotate_left; (focus (first | (go_simp; with_reducible rfl) | (go_simp; done))); simp only [Act.put, List.setIfInBounds_toArray, List.set_cons_zero, List.set_cons_succ]) | (refine wpG_at_skip (by rfl) ?_; simp only [Act.put, List.setIfInBounds_toArray, List.set_cons_zero, List.set_cons_succ]) | (refine wpG_held_skip (by rfl) ?_; simp only [Act.put, List.setIfInBounds_toArray, List.set_cons_zero, List.set_cons_succ]) | (refine wpG_held (v := ?_) (by rfl) ?_ ?_; rotate_left; (focus (intro w' hSw; (try dsimp only at hSw); go_split_ands; first | (go_simp; with_reducible rfl) | (go_simp; done))); simp only [Act.put, List.setIfInBounds_toArray, List.set_cons_zero, List.set_cons_succ]))
      obtain ⟨vc, wc, rc, qc, kc, nc⟩ := run_nil_sg (P := Try.prog) (ty := 33) eH_len (by omega) sl33 i59 rfl (HX.out.c.kn KK.out) (oneH x.c) (by omega) (by omega)
      obtain ⟨oc', cc', ec, _⟩ := qc.form
      subst ec
      have qa := hid (qa.out.kp kc (fun _ _ h => h))
      have nebc := hid (show ∀ s, (Value.slice oc' x.c.length cc').ownBlock = some s → (Value.slice ob' x.b.length cb').ownBlock = some s → False from fun s hs e => by have h1 := nc s hs; have h2 := qb.out.lt s e; omega)
      have qb := hid (qb.out.kp kc (fun _ _ h => h))
      have G := hid (kc.get G.out (fun h => h))
      have nc := hid (show New W1 (.slice oc' x.c.length cc') from fun s hs => Nat.le_trans KK.out.size (nc s hs))
      have ltc := hid qc.lt
      have KK := hid (KK.out.trans kc)
      have KKp := hid KK.out
      replace qc := hid qc
      clear s1 s2 s3 kc
      obtain ⟨s1, s2, s3⟩ := HS.out _ KK.out
      refine wpG_fin (by rfl) (fun K hK => ?_)
      refine Lib.wp_append_run _ _ _ 33 33 rfl (.slice none 0 0) (.slice oc x.c.length cc) rfl rfl _ _ rc ?_
      refine hK _ _ ?_
      clear hK K rc
      repeat (first | (refine wpG_at (v := ?_) (by rfl) ?_ ?_; rotate_left; (focus (first | (go_simp; with_reducible rfl) | (go_simp; done))); simp only [Act.put, List.setIfInBounds_toArray, List.set_cons_zero, List.set_cons_succ]) | (refine wpG_at_skip (by rfl) ?_; simp only [Act.put, List.setIfInBounds_toArray, List.set_cons_zero, List.set_cons_succ]) | (refine wpG_held_skip (by rfl) ?_; simp only [Act.put, List.setIfInBounds_toArray, List.set_cons_zero, List.set_cons_succ]) | (refine wpG_held (v := ?_) (by rfl) ?_ ?_; rotate_left; (focus (intro w' hSw; (try dsimp only at hSw); go_split_ands; first | (go_simp; with_reducible rfl) | (go_simp; done))); simp only [Act.put, List.setIfInBounds_toArray, List.set_cons_zero, List.set_cons_succ]))
      have L := loc3 G.out
      refine wpG_fin (by rfl) (fun K hK => ?_)
      go_simp
      refine hK _ _ ?_
      clear hK K
      repeat (first | (refine wpG_at (v := ?_) (by rfl) ?_ ?_; rotate_left; (focus (first | (go_simp; with_reducible rfl) | (go_simp; done))); simp only [Act.put, List.setIfInBounds_toArray, List.set_cons_zero, List.set_cons_succ]) | (refine wpG_at_skip (by rfl) ?_; simp only [Act.put, List.setIfInBounds_toArray, List.set_cons_zero, List.set_cons_succ]) | (refine wpG_held_skip (by rfl) ?_; simp only [Act.put, List.setIfInBounds_toArray, List.set_cons_zero, List.set_cons_succ]) | (refine wpG_held (v := ?_) (by rfl) ?_ ?_; rotate_left; (focus (intro w' hSw; (try dsimp only at hSw); go_split_ands; first | (go_simp; with_reducible rfl) | (go_simp; done))); simp only [Act.put, List.setIfInBounds_toArray, List.set_cons_zero, List.set_cons_succ]))
      refine wpG_nil (NoPanic.normal ?_)
      have KF : Kp NoB W1 ((((wc).setCell ⟨g, 0, none⟩ (.slice oa' x.a.length ca')).setCell ⟨g, 1, none⟩ (.slice ob' x.b.length cb')).setCell ⟨g, 2, none⟩ (.slice oc' x.c.length cc')) := ((KK.out.setCell (p := ⟨g, 0, none⟩) _ (fun h => absurd (show g < W1.heap.size from h) (by have := hgs.out; omega))).setCell (p := ⟨g, 1, none⟩) _ (fun h => absurd (show g < W1.heap.size from h) (by have := hgs.out; omega))).setCell (p := ⟨g, 2, none⟩) _ (fun h => absurd (show g < W1.heap.size from h) (by have := hgs.out; omega))
      have hne : ∀ {v : Value} {l : List (Int × Int)}, RowAt wc 59 eH 2 v l → v.ownBlock ≠ some g := fun h => h.ne G.out (by decide)
      refine ⟨rfl, _, _, _, g, blk_setCell (blk_setCell (blk_setCell G.out 0 _) 1 _) 2 _, ⟨((qa.out.setCell _ _ (hne qa.out)).setCell _ _ (hne qa.out)).setCell _ _ (hne qa.out), ((qb.out.setCell _ _ (hne qb.out)).setCell _ _ (hne qb.out)).setCell _ _ (hne qb.out), ((qc.out.setCell _ _ (hne qc.out)).setCell _ _ (hne qc.out)).setCell _ _ (hne qc.out)⟩, na.out, nb.out, nc.out, hgs.out, KF, ?_, ax_fun _ (by rfl)⟩
      exact fun s hs => ⟨fun e => neab.out s hs e, fun e => nebc.out s e hs⟩
    · obtain ⟨s1, s2, s3⟩ := HS.out _ ((Kp.refl NoB W1).drew)
      have KK := hid ((Kp.refl NoB W1).drew)
      repeat (first | (refine wpG_at (v := ?_) (by rfl) ?_ ?_; rotate_left; (focus (first | (go_simp; with_reducible rfl) | (go_simp; done))); simp only [Act.put, List.setIfInBounds_toArray, List.set_cons_zero, List.set_cons_succ]) | (refine wpG_at_skip (by rfl) ?_; simp only [Act.put, List.setIfInBounds_toArray, List.set_cons_zero, List.set_cons_succ]) | (refine wpG_held_skip (by rfl) ?_; simp only [Act.put, List.setIfInBounds_toArray, List.set_cons_zero, List.set_cons_succ]) | (refine wpG_held (v := ?_) (by rfl) ?_ ?_; rotate_left; (focus (intro w' hSw; (try dsimp only at hSw); go_split_ands; first | (go_simp; with_reducible rfl) | (go_simp; done))); simp only [Act.put, List.setIfInBounds_toArray, List.set_cons_zero, List.set_cons_succ]))
      obtain ⟨va, wa, ra, qa, ka, na⟩ := run_nil_sg (P := Try.prog) (ty := 33) eH_len (by omega) sl33 i59 rfl (HX.out.a.kn KK.out) (oneH x.a) (by omega) (by omega)
      obtain ⟨oa', ca', ea, _⟩ := qa.form
      subst ea
      have na := hid (show New W1 (.slice oa' x.a.length ca') from fun s hs => Nat.le_trans KK.out.size (na s hs))
      have lta := hid qa.lt
      have KK := hid (KK.out.trans ka)
      have KKp := hid KK.out
      replace qa := hid qa
      clear s1 s2 s3 ka
      obtain ⟨s1, s2, s3⟩ := HS.out _ KK.out
      refine wpG_eff (by rfl) (fun K hK => ?_)
      refine Lib.wp_append_run _ _ _ 33 33 rfl (.slice none 0 0) (.slice oa x.a.length ca) rfl rfl _ _ ra ?_
      refine hK _ _ ⟨s1, s2, s3⟩ ?_
      clear hK K ra
      repeat (first | (refine wpG_at (v := ?_) (by rfl) ?_ ?_; rotate_left; (focus (first | (go_simp; with_reducible rfl) | (go_simp; done))); simp only [Act.put, List.setIfInBounds_toArray, List.set_cons_zero, List.set_cons_succ]) | (refine wpG_at_skip (by rfl) ?_; simp only [Act.put, List.setIfInBounds_toArray, List.set_cons_zero, List.set_cons_succ]) | (refine wpG_held_skip (by rfl) ?_; simp only [Act.put, List.setIfInBounds_toArray, List.set_cons_zero, List.set_cons_succ]) | (refine wpG_held (v := ?_) (by rfl) ?_ ?_; rotate_left; (focus (intro w' hSw; (try dsimp only at hSw); go_split_ands; first | (go_simp; with_reducible rfl) | (go_simp; done))); simp only [Act.put, List.setIfInBounds_toArray, List.set_cons_zero, List.set_cons_succ]))
      obtain ⟨vb, wb, rb, qb, kb, nb⟩ := run_nil_sg (P := Try.prog) (ty := 33) eH_len (by omega) sl33 i59 rfl (HX.out.b.kn KK.out) (oneH x.b) (by omega) (by omega)
      obtain ⟨ob', cb', eb, _⟩ := qb.form
      subst eb
      have neab := hid (show ∀ s, (Value.slice ob' x.b.length cb').ownBlock = some s → (Value.slice oa' x.a.length ca').ownBlock = some s → False from fun s hs e => by have h1 := nb s hs; have h2 := qa.out.lt s e; omega)
      have qa := hid (qa.out.kp kb (fun _ _ h => h))
      have nb := hid (show New W1 (.slice ob' x.b.length cb') from fun s hs => Nat.le_trans KK.out.size (nb s hs))
      have ltb := hid qb.lt
      have KK := hid (KK.out.trans kb)
      have KKp := hid KK.out
      replace qb := hid qb
      clear s1 s2 s3 kb
      obtain ⟨s1, s2, s3⟩ := HS.out _ KK.out
      refine wpG_eff (by rfl) (fun K hK => ?_)
      refine Lib.wp_append_run _ _ _ 33 33 rfl (.slice none 0 0) (.slice ob x.b.length cb) rfl rfl _ _ rb ?_
      refine hK _ _ ⟨s1, s2, s3⟩ ?_
      clear hK K rb
      repeat (first | (refine wpG_at (v := ?_) (by rfl) ?_ ?_; rotate_left; (focus (first | (go_simp; with_reducible rfl) | (go_simp; done))); simp only [Act.put, List.setIfInBounds_toArray, List.set_cons_zero, List.set_cons_succ]) | (refine wpG_at_skip (by rfl) ?_; simp only [Act.put, List.setIfInBounds_toArray, List.set_cons_zero, List.set_cons_succ]) | (refine wpG_held_skip (by rfl) ?_; simp only [Act.put, List.setIfInBounds_toArray, List.set_cons_zero, List.set_cons_succ]) | (refine wpG_held (v := ?_) (by rfl) ?_ ?_; rotate_left; (focus (intro w' hSw; (try dsimp only at hSw); go_split_ands; first | (go_simp; with_reducible rfl) | (go_simp; done))); simp only [Act.put, List.setIfInBounds_toArray, List.set_cons_zero, List.set_cons_succ]))
      obtain ⟨vc, wc, rc, qc, kc, nc⟩ := run_nil_sg (P := Try.prog) (ty := 33) eH_len (by omega) sl33 i59 rfl (HX.out.c.kn KK.out) (oneH x.c) (by omega) (by omega)
      obtain ⟨oc', cc', ec, _⟩ := qc.form
      subst ec
      have qa := hid (qa.out.kp kc (fun _ _ h => h))
      have nebc := hid (show ∀ s, (Value.slice oc' x.c.length cc').ownBlock = some s → (Value.slice ob' x.b.length cb').ownBlock = some s → False from fun s hs e => by have h1 := nc s hs; have h2 := qb.out.lt s e; omega)
      have qb := hid (qb.out.kp kc (fun _ _ h => h))
      have nc := hid (show New W1 (.slice oc' x.c.length cc') from fun s hs => Nat.le_trans KK.out.size (nc s hs))
      have ltc := hid qc.lt
      have KK := hid (KK.out.trans kc)
      have KKp := hid KK.out
      replace qc := hid qc
      clear s1 s2 s3 kc
      obtain ⟨s1, s2, s3⟩ := HS.out _ KK.out
      refine wpG_eff (by rfl) (fun K hK => ?_)
      refine Lib.wp_append_run _ _ _ 33 33 rfl (.slice none 0 0) (.slice oc x.c.length cc) rfl rfl _ _ rc ?_
      refine hK _ _ ⟨s1, s2, s3⟩ ?_
      clear hK K rc
      repeat (first | (refine wpG_at (v := ?_) (by rfl) ?_ ?_; rotate_left; (focus (first | (go_simp; with_reducible rfl) | (go_simp; done))); simp only [Act.put, List.setIfInBounds_toArray, List.set_cons_zero, List.set_cons_succ]) | (refine wpG_at_skip (by rfl) ?_; simp only [Act.put, List.setIfInBounds_toArray, List.set_cons_zero, List.set_cons_succ]) | (refine wpG_held_skip (by rfl) ?_; simp only [Act.put, List.setIfInBounds_toArray, List.set_cons_zero, List.set_cons_succ]) | (refine wpG_held (v := ?_) (by rfl) ?_ ?_; rotate_left; (focus (intro w' hSw; (try dsimp only at hSw); go_split_ands; first | (go_simp; with_reducible rfl) | (go_simp; done))); simp only [Act.put, List.setIfInBounds_toArray, List.set_cons_zero, List.set_cons_succ]))
      obtain ⟨g, hg⟩ : ∃ g, g = wc.heap.size := ⟨_, rfl⟩
      have KK := hid (show Kp NoB W1 (wc.alloc (.cells #[.slice none 0 0, .slice none 0 0, .slice none 0 0] 35)) from KK.out.alloc (.cells #[.slice none 0 0, .slice none 0 0, .slice none 0 0] 35))
      have hgs := hid (show W1.heap.size ≤ g from by rw [hg]; exact KKp.out.size)
      have G := hid (show (wc.alloc (.cells #[.slice none 0 0, .slice none 0 0, .slice none 0 0] 35)).heap[g]? = some (.cells #[.slice none 0 0, .slice none 0 0, .slice none 0 0] 35 (0, 0)) from blk_new' (wc) (.cells #[.slice none 0 0, .slice none 0 0, .slice none 0 0] 35) hg)
      have qa := hid (show RowAt (wc.alloc (.cells #[.slice none 0 0, .slice none 0 0, .slice none 0 0] 35)) 59 eH 2 _ _ from qa.out.alloc (.cells #[.slice none 0 0, .slice none 0 0, .slice none 0 0] 35))
      have qb := hid (show RowAt (wc.alloc (.cells #[.slice none 0 0, .slice none 0 0, .slice none 0 0] 35)) 59 eH 2 _ _ from qb.out.alloc (.cells #[.slice none 0 0, .slice none 0 0, .slice none 0 0] 35))
      have qc := hid (show RowAt (wc.alloc (.cells #[.slice none 0 0, .slice none 0 0, .slice none 0 0] 35)) 59 eH 2 _ _ from qc.out.alloc (.cells #[.slice none 0 0, .slice none 0 0, .slice none 0 0] 35))
      clear s1 s2 s3
      obtain ⟨s1, s2, s3⟩ := HS.out _ KK.out
      refine wpG_eff (by rfl) (fun K hK => ?_)
      go_simp
      try rw [← hg]
      try (simp only [World.drew_heap] at hg; rw [← hg])
      refine hK _ _ ⟨s1, s2, s3⟩ ?_
      clear hK K
      generalize wc.alloc (.cells #[.slice none 0 0, .slice none 0 0, .slice none 0 0] 35) = wg at *
      replace hg := hid hg
      have KKp := hid KK.out
      repeat (first | (refine wpG_at (v := ?_) (by rfl) ?_ ?_; rotate_left; (focus (first | (go_simp; with_reducible rfl) | (go_simp; done))); simp only [Act.put, List.setIfInBounds_toArray, List.set_cons_zero, List.set_cons_succ]) | (refine wpG_at_skip (by rfl) ?_; simp only [Act.put, List.setIfInBounds_toArray, List.set_cons_zero, List.set_cons_succ]) | (refine wpG_held_skip (by rfl) ?_; simp only [Act.put, List.setIfInBounds_toArray, List.set_cons_zero, List.set_cons_succ]) | (refine wpG_held (v := ?_) (by rfl) ?_ ?_; rotate_left; (focus (intro w' hSw; (try dsimp only at hSw); go_split_ands; first | (go_simp; with_reducible rfl) | (go_simp; done))); simp only [Act.put, List.setIfInBounds_toArray, List.set_cons_zero, List.set_cons_succ]))
      have L := loc3 G.out
      refine wpG_fin (by rfl) (fun K hK => ?_)
      go_simp
      refine hK _ _ ?_
      clear hK K
      repeat (first | (refine wpG_at (v := ?_) (by rfl) ?_ ?_; rotate_left; (focus (first | (go_simp; with_reducible rfl) | (go_simp; done))); simp only [Act.put, List.setIfInBounds_toArray, List.set_cons_zero, List.set_cons_succ]) | (refine wpG_at_skip (by rfl) ?_; simp only [Act.put, List.setIfInBounds_toArray, List.set_cons_zero, List.set_cons_succ]) | (refine wpG_held_skip (by rfl) ?_; simp only [Act.put, List.setIfInBounds_toArray, List.set_cons_zero, List.set_cons_succ]) | (refine wpG_held (v := ?_) (by rfl) ?_ ?_; rotate_left; (focus (intro w' hSw; (try dsimp only at hSw); go_split_ands; first | (go_simp; with_reducible rfl) | (go_simp; done))); simp only [Act.put, List.setIfInBounds_toArray, List.set_cons_zero, List.set_cons_succ]))
      refine wpG_nil (NoPanic.normal ?_)
      have KF : Kp NoB W1 ((((wg).setCell ⟨g, 0, none⟩ (.slice oa' x.a.length ca')).setCell ⟨g, 1, none⟩ (.slice ob' x.b.length cb')).setCell ⟨g, 2, none⟩ (.slice oc' x.c.length cc')) := ((KK.out.setCell (p := ⟨g, 0, none⟩) _ (fun h => absurd (show g < W1.heap.size from h) (by have := hgs.out; omega))).setCell (p := ⟨g, 1, none⟩) _ (fun h => absurd (show g < W1.heap.size from h) (by have := hgs.out; omega))).setCell (p := ⟨g, 2, none⟩) _ (fun h => absurd (show g < W1.heap.size from h) (by have := hgs.out; omega))
      have hne : ∀ {v : Value} {l : List (Int × Int)}, RowAt wg 59 eH 2 v l → v.ownBlock ≠ some g := fun h => h.ne G.out (by decide)
      refine ⟨rfl, _, _, _, g, blk_setCell (blk_setCell (blk_setCell G.out 0 _) 1 _) 2 _, ⟨((qa.out.setCell _ _ (hne qa.out)).setCell _ _ (hne qa.out)).setCell _ _ (hne qa.out), ((qb.out.setCell _ _ (hne qb.out)).setCell _ _ (hne qb.out)).setCell _ _ (hne qb.out), ((qc.out.setCell _ _ (hne qc.out)).setCell _ _ (hne qc.out)).setCell _ _ (hne qc.out)⟩, na.out, nb.out, nc.out, hgs.out, KF, ?_, ax_fun _ (by rfl)⟩
      exact fun s hs => ⟨fun e => neab.out s hs e, fun e => nebc.out s e hs⟩
  · rintro e a' W' ⟨rfl, va, vb, vc, g, hg, hRR, na, nb, nc, hgs, kk, hsep, u', rfl⟩
    have T2 := hid (HT.out.kn kk)
    have hRet := hid (retire_any T2.out.c T2.out.oc hRR.sl HF.out)
    have Lg := loc3 hg
    obtain ⟨oa', ca', ea, _⟩ := hRR.a.form
    obtain ⟨ob', cb', eb, _⟩ := hRR.b.form
    obtain ⟨oc', cc', ec, _⟩ := hRR.c.form
    subst ea; subst eb; subst ec
    have B2 := hid (kk.get B1.out (fun h => h))
    have hbs := hid (show ∀ s, (Value.slice ob' x.b.length cb').ownBlock = some s → W1.heap.size ≤ s ∧ s < W'.heap.size from fun s hs => ⟨nb s hs, hRR.b.lt s hs⟩)
    have hgs' := hid (blk_lt hg)
    have KW := hid (K1.out.trans kk)
    have HXW := hid (HX.out.kn kk)
    have hgw : w.heap.size ≤ g := by have := K1.out.size; omega
    replace hg := hid hg
    have hRB := hid hRR.b
    replace hsep := hid hsep
    clear hRR na nb nc kk HS HT HX
    go_wp2_with fail
    refine hRet.out.mono ?_
    rintro e w4 ⟨rfl, v4, H4, A4, g4, k4⟩
    have n68 : ∀ s A t, W'.heap[s]? = some (.cells A t (0, 0)) → t ≠ 68 → t ≠ 74 → ¬ (s = p ∨ v.ownBlock = some s) := by
      rintro s A t hs h1 h2 (rfl | h3)
      · rw [T2.out.c.hp] at hs; injection hs with hs; injection hs with _ h4 _; exact h1 h4.symm
      · exact T2.out.c.hv.ne hs h2 h3
    have X4 := hid (HXW.out.kp k4 (fun s hs hF => hxf s hs (.inl (hF.elim (fun e => .inl e) (fun e => .inr (.inr (.inl e)))))))
    have D4 := hid (T2.out.d.kp g4.kp (fun s hs hu => T2.out.dj s hu hs))
    have G4 := hid (k4.get hg.out (n68 _ _ _ hg.out (by decide) (by decide)))
    have B4 := hid (k4.get B2.out (n68 _ _ _ B2.out (by decide) (by decide)))
    have R4 := hid (hRB.out.kp k4 (fun s hs hF => by
      obtain ⟨A, hA⟩ := hRB.out.own_cells hs
      exact n68 s A 59 hA (by decide) (by decide) hF))
    have E4 := hid (qretire_any D4.out T2.out.oq X4.out HF.out)
    have L4 := loc5 B4.out
    have hs4 := hid g4.kp.size
    have f4 := hid g4.fp
    replace A4 := hid A4
    replace g4 := hid g4
    clear Lg k4 n68
    go_wp2_with fail
    refine E4.out.mono ?_
    rintro e w5 ⟨rfl, rv5, G5, D5, f5, k5⟩
    have hqlt : q < w.heap.size := hlt.out q (.inr (.inl rfl))
    have nq : ∀ s, ufp p u v4 H4 s → ¬ s = q := by
      rintro s hs rfl
      rcases f4.out s hs with h1 | h1
      · exact T2.out.dj s h1 (.inl rfl)
      · have := KW.out.size; omega
    have A5 := hid (A4.out.kp k5 nq)
    have B5 := hid (k5.get G4.out (fun e => by omega))
    have R5 := hid (R4.out.kp k5 (fun s hs e => by have := hbs.out s hs; have := K1.out.size; omega))
    have f5' := hid f5
    have k5' := hid k5
    replace D5 := hid D5
    clear k5 f5 nq L4
    go_wp2_with fail
    go_loopw [9] (fun i W => ∃ (j : Nat) (L : List (Int × Int)), j ≤ x.b.length ∧ i = .int .i64 j ∧ Hid (L.length = x.b.length) ∧ RowAt W 59 eH 2 (.slice ob' x.b.length cb') L ∧ Kp (fun s => (Value.slice ob' x.b.length cb').ownBlock = some s) w5 W) (fun i _ => x.b.length - (intOf i).toNat)
    case atStart => exact ⟨0, x.b, Nat.zero_le _, rfl, hid rfl, R5.out, Kp.refl _ _⟩
    case round =>
      obtain ⟨j, L, hj, rfl, hLl, hR, hk⟩ := hrel
      have d1 : (0 : Int) ≤ (j : Int) := Int.natCast_nonneg _
      have hBr := hid (hk.get B5.out (fun e => R5.out.ne B5.out (by decide) e))
      have Lg := loc3 hBr.out
      by_cases hlt' : j < x.b.length
      · have d2 : (j : Int) < (x.b.length : Int) := by omega
        obtain ⟨⟨i0, g0⟩, hL⟩ : ∃ y, L[j]? = some y := ⟨_, List.getElem?_eq_getElem (by have := hLl.out; omega)⟩
        obtain ⟨bb, cc', A, hv, _⟩ := hR.pos eH_len (by have := hLl.out; omega)
        rw [hLl.out] at hv
        injection hv with hv1 _ hv3
        subst hv1; subst hv3
        have hR' := hR
        rw [← hLl.out] at hR'
        obtain ⟨r1, r2, r3, r4⟩ := row_gen hR' hL (IntKind.u64.wrap (g0 + 1))
        rw [hLl.out] at r1
        have hk2 := hid (hk.setCell (p := ⟨bb, j * 2 + 1, none⟩) (.int .u64 (IntKind.u64.wrap (g0 + 1))) (fun _ => rfl))
        have hll := hid (show (L.set j (i0, IntKind.u64.wrap (g0 + 1))).length = x.b.length from by rw [List.length_set]; exact hLl.out)
        have hgb : g ≠ bb := fun e => by subst e; exact R5.out.ne B5.out (by decide) rfl
        replace r1 := hid r1
        replace hR := hid hR
        replace hR' := hid hR'
        replace hk := hid hk
        replace hL := hid hL
        go_wp2_with fail
        go_roundw
        case rel => exact ⟨j + 1, _, by omega, by go_num, hll, r1.out, hk2.out⟩
        case measure => simp [intOf]; omega
      · obtain rfl : j = x.b.length := by omega
        replace hR := hid hR
        have hk' := hid hk
        clear hk
        go_wp2_with fail
        go_ret
        have hsz := KW.out.size
        have nvb : ∀ s, (Value.slice ob' x.b.length cb').ownBlock = some s → ¬ ufp p u v4 H4 s ∧ ¬ qfp q dv ov rv5 G5 s := by
          intro s hs
          obtain ⟨h1, h2⟩ := hbs.out s hs
          have h3 := K1.out.size
          have h4 := hs4.out
          refine ⟨fun hu => ?_, fun hq => ?_⟩
          · rcases f4.out s hu with h5 | h5
            · have := hlt.out s (.inl h5); omega
            · omega
          · rcases f5'.out s hq with h5 | h5
            · have := hlt.out s (.inr h5); omega
            · omega
        refine ⟨rfl, v4, H4, rv5, G5, ⟨?_, D5.out.kp hk'.out (fun s hq hs => (nvb s hs).2 hq), ?_, (T2.out.r.ret T2.out.oq.zl x).1, ?_, T2.out.oq.ret hK HF.out⟩, ?_, ?_⟩
        · have := A5.out.kp hk'.out (fun s hu hs => (nvb s hs).1 hu)
          rw [(T2.out.r.ret T2.out.oq.zl x).2]
          exact this
        · intro s hu hq
          rcases f5'.out s hq with h5 | h5
          · rcases f4.out s hu with h6 | h6
            · exact T2.out.dj s h6 h5
            · have := hlt.out s (.inr h5); omega
          · have := A4.out.lt s hu; omega
        · rw [(T2.out.r.ret T2.out.oq.zl x).2]
          exact T2.out.oc.ret hK HF.out
        · refine ⟨?_, ?_⟩
          · have k1 : Kp (tfp p u v H q dv ov rv G) w w4 := (KW.out.mono (fun _ h => h.elim)).trans (g4.out.kp.mono (fun s hs => .inl hs))
            have k2 : Kp (tfp p u v H q dv ov rv G) w w5 := k1.trans (k5'.out.mono (fun s hs => .inr (.inl hs)))
            exact k2.trans' hk'.out (fun s hs e => by have := (hbs.out s e).1; have := K1.out.size; omega)
          · rintro s (hs | hs)
            · rcases f4.out s hs with h1 | h1
              · exact .inl (.inl h1)
              · exact .inr (by omega)
            · rcases f5'.out s hs with h1 | h1
              · exact .inl (.inr h1)
              · exact .inr (by have := hs4.out; omega)
        · refine ⟨?_, ?_⟩
          · have k1 : Kp (dfp p u v H q dv ov) w w4 := (KW.out.mono (fun _ h => h.elim)).trans (g4.out.kp.mono (fun s hs => .inl hs))
            have k2 : Kp (dfp p u v H q dv ov) w w5 := k1.trans (k5'.out.mono (fun s hs => .inr (.inl hs)))
            exact k2.trans' hk'.out (fun s hs e => by have := (hbs.out s e).1; have := K1.out.size; omega)
          · rintro s (hs | hs)
            · rcases f4.out s hs with h1 | h1
              · exact .inl (.inl h1)
              · exact .inr (by omega)
            · exact .inl (.inr hs)
theorem do3 (h : TT w p u v H q dv ov rv G D Z S K) (hK : K + 1 ≤ 1000) (t : Int) {a b c : Value} {x : Ret} (hx : SlR w a b c x) (hf : x.few) (hxf : ∀ s, rdR a b c x s → ¬ tfp p u v H q dv ov rv G s) :
    Calls Try.prog 13 #[.pointer (some ⟨p, 0, none⟩), .pointer (some ⟨q, 0, none⟩), .agg #[.int .i64 3, .int .i64 t, a, b, c]] w (DoPost w p u v H q dv ov rv G K) := by
  refine (do3x h hK t hx hf hxf).mono ?_
  rintro e w1 ⟨rfl, v', H', rv', G', h1, g1⟩
  exact ⟨rfl, v', H', rv', G', D, Z, _, h1, g1⟩
end
end Go.Proofs.Ytplbkjgkocnehaa
