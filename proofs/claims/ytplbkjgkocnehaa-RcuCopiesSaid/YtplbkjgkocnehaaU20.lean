/- Walks: an act, of both: Next; whatever it is. -/
import Derived.Test.YtplbkjgkocnehaaU19
namespace Go.Proofs.Ytplbkjgkocnehaa
set_option linter.unusedSimpArgs false
set_option linter.unusedVariables false
open Go.RowKit
attribute [local go_sem ↓] Go.wp_at_zero Go.wp_at_succ
theorem slR_nil (w : World) : SlS w (.slice none 0 0) (.slice none 0 0) (.slice none 0 0) ⟨[], [], []⟩ := ⟨Sl.nil _ _ _, Sl.nil _ _ _, Sl.nil _ _ _⟩
section
variable {w w' : World} {p q : Nat} {u v dv ov rv : Value} {H : List HV} {G : List QV} {D Z : List Nat} {S : List (Ret × List Int)} {K : Nat}
theorem TT.grow0 (h : TT w p u v H q dv ov rv G D Z S K) (hK : K + 1 ≤ 1000) : TT w p u v H q dv ov rv G D Z S (K + 1) := ⟨h.c, h.d, h.dj, h.r, h.oc.mono (by omega) hK, h.oq.mono (by omega) hK⟩
set_option maxRecDepth 100000 in
set_option maxHeartbeats 8000000 in
theorem do4 (h : TT w p u v H q dv ov rv G D Z S K) (hK : K + 1 ≤ 1000) (t : Int) (a b c : Value) :
    Calls Try.prog 13 #[.pointer (some ⟨p, 0, none⟩), .pointer (some ⟨q, 0, none⟩), .agg #[.int .i64 4, .int .i64 t, a, b, c]] w (DoPost w p u v H q dv ov rv G K) := by
  have K1 := hid ((Kp.refl NoB w).alloc (.cells #[.int .i64 4, .int .i64 t, a, b, c] 37))
  have HT := hid (h.kn K1.out)
  have hlt := hid h.lt
  by_cases hr : ripe (relR Z S) = true
  · obtain ⟨x, out, S', rfl, hw⟩ : ∃ x out S', S = (x, out) :: S' ∧ waitsOf Z out = [] := by
      match S, hr with
      | (x, out) :: S', hr =>
        have hr' : (((waitsOf Z out).length : Int) == 0) = true := hr
        exact ⟨x, out, S', rfl, List.eq_nil_of_length_eq_zero (by simpa using hr')⟩
    have hrel : relR Z ((x, out) :: S') = (x, []) :: relR Z S' := by show (x, waitsOf Z out) :: _ = _; rw [hw]; rfl
    have hq : qripe Z ((x, out) :: S') = true := by rw [← rel_ripe]; exact hr
    have hc := HT.out.c
    have hoc := HT.out.oc
    rw [hrel] at hc hoc
    have E1 := hid (next_any hc hoc)
    have hf : x.few := HT.out.oq.x x out List.mem_cons_self
    have HOC := hid hoc.tail
    have hq' := hid hq
    clear h hr hw hrel hc hoc hq
    go_enter Try.func13, Try.ntmps13
    go_wp2_with fail
    generalize (w.alloc (.cells #[.int .i64 4, .int .i64 t, a, b, c] 37)) = W1 at *
    refine E1.out.mono ?_
    rintro e w2 ⟨a2, b2, c2, v2, H2, rfl, A2, R2, g2, k2, hfp⟩
    obtain ⟨oa, ca, e1, _⟩ := R2.a.form
    obtain ⟨ob, cb, e2, _⟩ := R2.b.form
    obtain ⟨oc, cc, e3, _⟩ := R2.c.form
    subst e1; subst e2; subst e3
    obtain ⟨b10, hb10⟩ : ∃ b10, w2.heap.size = b10 := ⟨_, rfl⟩
    have KA := hid ((Kp.refl NoB w2).alloc (.cells #[.slice oa x.a.length ca, .slice ob x.b.length cb, .slice oc x.c.length cc] 35))
    have B3 := hid (show (w2.alloc (.cells #[.slice oa x.a.length ca, .slice ob x.b.length cb, .slice oc x.c.length cc] 35)).heap[b10]? = some (.cells #[.slice oa x.a.length ca, .slice ob x.b.length cb, .slice oc x.c.length cc] 35 (0, 0)) from blk_new' _ _ hb10.symm)
    have A3 := hid (A2.kn KA.out)
    have R3 := hid (R2.kn KA.out)
    have D3 := (HT.out.d.kp g2.kp (fun s hs hu => HT.out.dj s hu hs)).kn KA.out
    have E3 := hid (qnext_yes D3 HT.out.oq hq'.out)
    have hs2 := hid g2.kp.size
    have f2 := hid g2.fp
    have k2' := hid (g2.kp.trans (KA.out.mono (fun _ h => h.elim)))
    have hfp' := hid hfp
    clear A2 R2 D3 g2 k2 hfp E1
    go_wp2_with fail
    try rw [hb10]
    generalize (w2.alloc (.cells #[.slice oa x.a.length ca, .slice ob x.b.length cb, .slice oc x.c.length cc] 35)) = w3 at *
    refine E3.out.mono ?_
    rintro e w4 ⟨g, a4, b4, c4, rv4, G4, rfl, hg, hgs, R4, D4, f4, k4⟩
    have hqlt : q < w.heap.size := hlt.out q (.inr (.inl rfl))
    have nq : ∀ s, (Value.slice oa x.a.length ca).ownBlock = some s ∨ (Value.slice ob x.b.length cb).ownBlock = some s ∨ (Value.slice oc x.c.length cc).ownBlock = some s → ¬ s = q := fun s hs e => HT.out.dj s (hfp'.out s hs).1 (.inl e)
    have R5 := R3.out.kp k4 (fun s hs => nq s (.inl hs)) (fun s hs => nq s (.inr (.inl hs))) (fun s hs => nq s (.inr (.inr hs)))
    have SO := hid (sameone_any (w := w4.drew) (R5.kn (Kp.refl _ w4).drew).ss (R4.kn (Kp.refl _ w4).drew).ss hf hf)
    rw [decide_eq_true rfl] at SO
    obtain ⟨oa4, ca4, e1, _⟩ := R4.a.form
    obtain ⟨ob4, cb4, e2, _⟩ := R4.b.form
    obtain ⟨oc4, cc4, e3, _⟩ := R4.c.form
    subst e1; subst e2; subst e3
    have hs1 := K1.out.size
    have B4 := k4.get B3.out (fun e => by have := hs2.out; omega)
    have L4 := loc3 B4
    have Lg := loc3 hg
    have A4 := hid (A3.out.kp k4 (fun s hs e => by
      rcases f2.out s hs with h1 | h1
      · exact HT.out.dj s h1 (.inl e)
      · omega))
    replace D4 := hid D4
    have f4' := hid f4
    have k4' := hid k4
    replace hf := hid hf
    have hs3 := hid (show W1.heap.size ≤ w3.heap.size from k2'.out.size)
    clear R4 R5 hg B4 f4 k4 nq hgs
    go_wp2_with fail
    refine wp_region_G (fun _ => True) [(0, .at_), (1, .at_), (2, .at_), (3, .at_), (4, .at_), (5, .at_), (6, .at_), (7, .at_), (8, .at_), (9, .at_), (10, .at_), (11, .at_), (12, .eff), (13, .at_), (14, .at_), (15, .at_), (16, .at_), (17, .at_), (18, .at_), (19, .at_), (20, .eff), (21, .at_), (22, .at_), (23, .at_), (24, .at_)] ?L1 (by kernel_rfl) (by kernel_rfl) ?hL1 (trivial) ?hG1
    case hL1 => simp only [pickOps, List.map_cons, List.map_nil, List.getD_cons_zero, List.getD_cons_succ]; rfl
    repeat (first | (refine wpG_at (v := ?_) (by rfl) ?_ ?_; rotate_left; (focus (first | (go_simp; with_reducible rfl) | (go_simp; done))); simp only [Act.put, List.setIfInBounds_toArray, List.set_cons_zero, List.set_cons_succ]) | (refine wpG_at_skip (by rfl) ?_; simp only [Act.put, List.setIfInBounds_toArray, List.set_cons_zero, List.set_cons_succ]) | (refine wpG_held_skip (by rfl) ?_; simp only [Act.put, List.setIfInBounds_toArray, List.set_cons_zero, List.set_cons_succ]) | (refine wpG_held (v := ?_) (by rfl) ?_ ?_; rotate_left; (focus (intro w' hSw; (try dsimp only at hSw); go_split_ands; first | (go_simp; with_reducible rfl) | (go_simp; done))); simp only [Act.put, List.setIfInBounds_toArray, List.set_cons_zero, List.set_cons_succ]))
    refine wpG_eff (by rfl) (fun K hK => ?_)
    go_simp
    refine SO.out.mono ?_
    rintro e w5 ⟨rfl, k5⟩
    refine hK _ _ trivial ?_
    clear hK K
    repeat (first | (refine wpG_at (v := ?_) (by rfl) ?_ ?_; rotate_left; (focus (first | (go_simp; with_reducible rfl) | (go_simp; done))); simp only [Act.put, List.setIfInBounds_toArray, List.set_cons_zero, List.set_cons_succ]) | (refine wpG_at_skip (by rfl) ?_; simp only [Act.put, List.setIfInBounds_toArray, List.set_cons_zero, List.set_cons_succ]) | (refine wpG_held_skip (by rfl) ?_; simp only [Act.put, List.setIfInBounds_toArray, List.set_cons_zero, List.set_cons_succ]) | (refine wpG_held (v := ?_) (by rfl) ?_ ?_; rotate_left; (focus (intro w' hSw; (try dsimp only at hSw); go_split_ands; first | (go_simp; with_reducible rfl) | (go_simp; done))); simp only [Act.put, List.setIfInBounds_toArray, List.set_cons_zero, List.set_cons_succ]))
    refine wpG_eff_skip (by rfl) trivial ?_; simp only [Act.put, List.setIfInBounds_toArray, List.set_cons_zero, List.set_cons_succ]
    repeat (first | (refine wpG_at (v := ?_) (by rfl) ?_ ?_; rotate_left; (focus (first | (go_simp; with_reducible rfl) | (go_simp; done))); simp only [Act.put, List.setIfInBounds_toArray, List.set_cons_zero, List.set_cons_succ]) | (refine wpG_at_skip (by rfl) ?_; simp only [Act.put, List.setIfInBounds_toArray, List.set_cons_zero, List.set_cons_succ]) | (refine wpG_held_skip (by rfl) ?_; simp only [Act.put, List.setIfInBounds_toArray, List.set_cons_zero, List.set_cons_succ]) | (refine wpG_held (v := ?_) (by rfl) ?_ ?_; rotate_left; (focus (intro w' hSw; (try dsimp only at hSw); go_split_ands; first | (go_simp; with_reducible rfl) | (go_simp; done))); simp only [Act.put, List.setIfInBounds_toArray, List.set_cons_zero, List.set_cons_succ]))
    refine wpG_nil (NoPanic.normal ?_)
    go_wp2_with fail
    go_ret
    have kk := ((Kp.refl NoB w4).drew).trans k5
    refine ⟨rfl, v2, H2, rv4, G4, D, Z, S', ⟨A4.out.kn kk, D4.out.kn kk, ?_, HT.out.r.tail, ?_, HT.out.oq.tail.mono (by omega) hK⟩, ?_, ?_⟩
    · intro s hu hq
      rcases f2.out s hu with h1 | h1
      · rcases f4'.out s hq with h2 | h2
        · exact HT.out.dj s h1 h2
        · have := hlt.out s (.inl h1); have := hs3.out; omega
      · rcases f4'.out s hq with h2 | h2
        · have := hlt.out s (.inr h2); omega
        · have := A3.out.lt s hu; omega
    · exact HOC.out.mono (by omega) hK
    · refine ⟨?_, ?_⟩
      · have k1 : Kp (tfp p u v H q dv ov rv G) w w3 := (K1.out.mono (fun _ h => h.elim)).trans (k2'.out.mono (fun s hs => .inl hs))
        exact (k1.trans (k4'.out.mono (fun s hs => .inr (.inl hs)))).trans (kk.mono (fun _ h => h.elim))
      · rintro s (hs | hs)
        · rcases f2.out s hs with h1 | h1
          · exact .inl (.inl h1)
          · exact .inr (by omega)
        · rcases f4'.out s hs with h1 | h1
          · exact .inl (.inr h1)
          · exact .inr (by have := hs3.out; omega)
    · refine ⟨?_, ?_⟩
      · have k1 : Kp (dfp p u v H q dv ov) w w3 := (K1.out.mono (fun _ h => h.elim)).trans (k2'.out.mono (fun s hs => .inl hs))
        exact (k1.trans (k4'.out.mono (fun s hs => .inr (.inl hs)))).trans (kk.mono (fun _ h => h.elim))
      · rintro s (hs | hs)
        · rcases f2.out s hs with h1 | h1
          · exact .inl (.inl h1)
          · exact .inr (by omega)
        · exact .inl (.inr hs)
  · have hr' : ripe (relR Z S) = false := by simpa using hr
    have hq : qripe Z S = false := by rw [← rel_ripe]; exact hr'
    have E1 := hid (next_no HT.out.c HT.out.oc hr')
    have E2 := hid (fun W (d : QAt W q dv ov rv D Z G S) => qnext_no d HT.out.oq hq)
    clear h hr hr' hq
    go_enter Try.func13, Try.ntmps13
    go_wp2_with fail
    generalize (w.alloc (.cells #[.int .i64 4, .int .i64 t, a, b, c] 37)) = W1 at *
    refine E1.out.mono ?_
    rintro e w2 ⟨rfl, k2⟩
    have KA := hid (k2.alloc (.cells #[.slice none 0 0, .slice none 0 0, .slice none 0 0] 35))
    have B3 := hid (blk_new w2 (.cells #[.slice none 0 0, .slice none 0 0, .slice none 0 0] 35))
    have T3 := hid (HT.out.kn KA.out)
    clear k2 E1
    go_wp2_with fail
    generalize (w2.alloc (.cells #[.slice none 0 0, .slice none 0 0, .slice none 0 0] 35)) = w3 at *
    refine (E2.out _ T3.out.d).mono ?_
    rintro e w4 ⟨rfl, k4⟩
    have L4 := loc3 (k4.get B3.out (fun h => h))
    have SO := hid (sameone_any (slR_nil w4.drew) (slR_nil w4.drew) ⟨by simp, by simp, by simp⟩ ⟨by simp, by simp, by simp⟩)
    rw [decide_eq_true rfl] at SO
    have k4' := hid k4
    clear k4
    go_wp2_with fail
    refine wp_region_G (fun _ => True) [(0, .at_), (1, .at_), (2, .at_), (3, .at_), (4, .at_), (5, .at_), (6, .at_), (7, .at_), (8, .at_), (9, .at_), (10, .at_), (11, .at_), (12, .eff), (13, .at_), (14, .at_), (15, .at_), (16, .at_), (17, .at_), (18, .at_), (19, .at_), (20, .eff), (21, .at_), (22, .at_), (23, .at_), (24, .at_)] ?L2 (by kernel_rfl) (by kernel_rfl) ?hL2 (trivial) ?hG2
    case hL2 => simp only [pickOps, List.map_cons, List.map_nil, List.getD_cons_zero, List.getD_cons_succ]; rfl
    repeat (first | (refine wpG_at (v := ?_) (by rfl) ?_ ?_; rotate_left; (focus (first | (go_simp; with_reducible rfl) | (go_simp; done))); simp only [Act.put, List.setIfInBounds_toArray, List.set_cons_zero, List.set_cons_succ]) | (refine wpG_at_skip (by rfl) ?_; simp only [Act.put, List.setIfInBounds_toArray, List.set_cons_zero, List.set_cons_succ]) | (refine wpG_held_skip (by rfl) ?_; simp only [Act.put, List.setIfInBounds_toArray, List.set_cons_zero, List.set_cons_succ]) | (refine wpG_held (v := ?_) (by rfl) ?_ ?_; rotate_left; (focus (intro w' hSw; (try dsimp only at hSw); go_split_ands; first | (go_simp; with_reducible rfl) | (go_simp; done))); simp only [Act.put, List.setIfInBounds_toArray, List.set_cons_zero, List.set_cons_succ]))
    refine wpG_eff_skip (by rfl) trivial ?_; simp only [Act.put, List.setIfInBounds_toArray, List.set_cons_zero, List.set_cons_succ]
    repeat (first | (refine wpG_at (v := ?_) (by rfl) ?_ ?_; rotate_left; (focus (first | (go_simp; with_reducible rfl) | (go_simp; done))); simp only [Act.put, List.setIfInBounds_toArray, List.set_cons_zero, List.set_cons_succ]) | (refine wpG_at_skip (by rfl) ?_; simp only [Act.put, List.setIfInBounds_toArray, List.set_cons_zero, List.set_cons_succ]) | (refine wpG_held_skip (by rfl) ?_; simp only [Act.put, List.setIfInBounds_toArray, List.set_cons_zero, List.set_cons_succ]) | (refine wpG_held (v := ?_) (by rfl) ?_ ?_; rotate_left; (focus (intro w' hSw; (try dsimp only at hSw); go_split_ands; first | (go_simp; with_reducible rfl) | (go_simp; done))); simp only [Act.put, List.setIfInBounds_toArray, List.set_cons_zero, List.set_cons_succ]))
    refine wpG_eff (by rfl) (fun K hK => ?_)
    go_simp
    refine SO.out.mono ?_
    rintro e w5 ⟨rfl, k5⟩
    refine hK _ _ trivial ?_
    clear hK K
    repeat (first | (refine wpG_at (v := ?_) (by rfl) ?_ ?_; rotate_left; (focus (first | (go_simp; with_reducible rfl) | (go_simp; done))); simp only [Act.put, List.setIfInBounds_toArray, List.set_cons_zero, List.set_cons_succ]) | (refine wpG_at_skip (by rfl) ?_; simp only [Act.put, List.setIfInBounds_toArray, List.set_cons_zero, List.set_cons_succ]) | (refine wpG_held_skip (by rfl) ?_; simp only [Act.put, List.setIfInBounds_toArray, List.set_cons_zero, List.set_cons_succ]) | (refine wpG_held (v := ?_) (by rfl) ?_ ?_; rotate_left; (focus (intro w' hSw; (try dsimp only at hSw); go_split_ands; first | (go_simp; with_reducible rfl) | (go_simp; done))); simp only [Act.put, List.setIfInBounds_toArray, List.set_cons_zero, List.set_cons_succ]))
    refine wpG_nil (NoPanic.normal ?_)
    go_wp2_with fail
    go_ret
    have kk := k4'.out.trans (((Kp.refl NoB w4).drew).trans k5)
    have kw := (K1.out.trans KA.out).trans kk
    exact ⟨rfl, v, H, rv, G, D, Z, S, (T3.out.kn kk).grow0 hK, Grow.of_kn kw, Grow.of_kn kw⟩
theorem do_any (h : TT w p u v H q dv ov rv G D Z S K) (hK : K + 1 ≤ 1000) (k t : Int) {a b c : Value} {x : Ret} (hx : SlR w a b c x) (hf : x.few) (hxf : ∀ s, rdR a b c x s → ¬ tfp p u v H q dv ov rv G s) :
    Calls Try.prog 13 #[.pointer (some ⟨p, 0, none⟩), .pointer (some ⟨q, 0, none⟩), .agg #[.int .i64 k, .int .i64 t, a, b, c]] w (DoPost w p u v H q dv ov rv G K) := by
  by_cases h1 : k = 1
  · subst h1
    refine (do1 h.c h.d h.dj h.oc h.oq t a b c).mono ?_
    rintro e w' ⟨rfl, hA, hD, kp⟩
    refine ⟨by rw [beq_self_eq_true], v, H, rv, G, entD D t, Z, S, ⟨hA, hD, h.dj, h.r, h.oc.ent hK t, h.oq.ent hK t⟩, ⟨kp.mono (fun s hs => hs.elim .inl (fun h => .inr (qw_fp h))), fun s hs => .inl hs⟩, ⟨kp, fun s hs => .inl hs⟩⟩
  · by_cases h2 : k = 2
    · subst h2
      refine (do2 h.c h.d h.dj h.oc h.oq t a b c).mono ?_
      rintro e w' ⟨rfl, hA, hD, kp⟩
      have hr := h.r.lev h.oq.zl t
      refine ⟨by rw [beq_self_eq_true], v, H, rv, G, levD D t, levZ D Z t, S, ⟨by rw [hr.2]; exact hA, hD, h.dj, hr.1, by rw [hr.2]; exact (h.oc.lev t).mono (by omega) hK, h.oq.lev hK t⟩, ⟨kp.mono (fun s hs => hs.elim .inl (fun h => .inr (qw_fp h))), fun s hs => .inl hs⟩, ⟨kp, fun s hs => .inl hs⟩⟩
    · by_cases h3 : k = 3
      · subst h3; exact do3 h hK t hx hf hxf
      · by_cases h4 : k = 4
        · subst h4; exact do4 h hK t a b c
        · refine (do0 h1 h2 h3 h4 t a b c).mono ?_
          rintro e w' ⟨rfl, kp⟩
          exact ⟨rfl, v, H, rv, G, D, Z, S, (h.kn kp).grow0 hK, Grow.of_kn kp, Grow.of_kn kp⟩
end
end Go.Proofs.Ytplbkjgkocnehaa
