/- Walks through the document's RCU: Retire, one way. -/
import Derived.Test.YtplbkjgkocnehaaU15h
namespace Go.Proofs.Ytplbkjgkocnehaa
set_option linter.unusedSimpArgs false
set_option linter.unusedVariables false
open Go.RowKit
attribute [local go_sem ↓] Go.wp_at_zero Go.wp_at_succ
section
variable {w w' : World} {q : Nat} {dv ov rv : Value} {D Z : List Nat} {H : List QV} {S : List (Ret × List Int)} {K : Nat}
set_option maxRecDepth 100000 in
set_option maxHeartbeats 8000000 in
theorem qretire_b (h : QAt w q dv ov rv D Z H S) (o : QOkS D Z S K) {a b c : Value} {x : Ret} (hx : SlR w a b c x) (hf : x.few) (h0 : x.a.length = 0 ∧ x.b.length ≠ 0) :
    Calls Try.prog 34 #[.pointer (some ⟨q, 0, none⟩), .agg #[a, b, c]] w fun e w' => e = .returned (.tuple #[]) ∧ ∃ rv' h', QAt w' q dv ov rv' D Z (H ++ [h']) (S ++ [(x, qout D Z)]) ∧ (∀ b, h'.fp b → w.heap.size ≤ b) ∧ New w rv' ∧ Kp (fun b => b = q) w w' := by
  have HX := hid hx
  obtain ⟨oa, ca, rfl, _⟩ := hx.a.form
  obtain ⟨ob, cb, rfl, _⟩ := hx.b.form
  obtain ⟨oc, cc, rfl, _⟩ := hx.c.form
  obtain ⟨q1, q2, q3⟩ := id hf
  have ha : ((x.a.length : Int) == 0) = true := beq_iff_eq.2 (by omega)
  have hb : ((x.b.length : Int) == 0) = false := beq_eq_false_iff_ne.2 (by omega)
  have H1 := hid (h.alloc (.cells #[.slice oa x.a.length ca, .slice ob x.b.length cb, .slice oc x.c.length cc] 35))
  have B1 := hid (blk_new w (.cells #[.slice oa x.a.length ca, .slice ob x.b.length cb, .slice oc x.c.length cc] 35))
  have K1 := hid ((Kp.refl NoB w).alloc (.cells #[.slice oa x.a.length ca, .slice ob x.b.length cb, .slice oc x.c.length cc] 35))
  have HO := hid o
  have HF := hid hf
  have n8 := o.n8
  have zl := o.zl
  clear h hx hf h0 o
  go_enter Try.func34, Try.ntmps34
  go_wp2_with fail
  generalize (w.alloc (.cells #[.slice oa x.a.length ca, .slice ob x.b.length cb, .slice oc x.c.length cc] 35)) = W1 at *
  go_loopw [4, 5] (fun v i W => ∃ j : Nat, j ≤ D.length ∧ i = .int .i64 j ∧ RowAt W 3 eI 1 v (qoutK D Z j) ∧ New W1 v ∧ Kp NoB W1 W) (fun _ i _ => D.length - (intOf i).toNat)
  case atStart => exact ⟨0, Nat.zero_le _, rfl, RowAt.nil _ _ _ _, New.nil _, Kp.refl _ _⟩
  case round =>
    obtain ⟨j, hj, rfl, hR, hN, hK⟩ := hrel
    have d1 : (0 : Int) ≤ (j : Int) := Int.natCast_nonneg _
    have hU := hid (H1.out.kn hK)
    obtain ⟨ov', cv', hv, hcv, _⟩ := hR.form
    rw [qoutK_len] at hv hcv
    subst hv
    obtain ⟨od, cd, hdv, hcd, _⟩ := hU.out.hd.form
    by_cases hlt : j < D.length
    · have d2 : (j : Int) < (D.length : Int) := by omega
      have d3 : (j : Int) < (Z.length : Int) := by omega
      obtain ⟨d, hd⟩ : ∃ d, D[j]? = some d := ⟨_, List.getElem?_eq_getElem hlt⟩
      obtain ⟨z, hz⟩ : ∃ z, Z[j]? = some z := ⟨_, List.getElem?_eq_getElem (by omega)⟩
      have Lq := loc3 hU.out.hq
      obtain ⟨bd, cd2, hdv2, _, _, Ld, _, lbd, _⟩ := row_slot hU.out.hd hd
      obtain ⟨bz, cz, hzv, _, _, Lz, _, lbz, _⟩ := row_slot hU.out.ho hz
      rw [hdv2, hzv] at Lq
      have hsu := qoutK_succ D Z j
      rw [getD_at hd, getD_at hz] at hsu
      replace hdv := hid hdv
      replace hdv2 := hid hdv2
      replace hzv := hid hzv
      replace hR := hid hR
      replace hN := hid hN
      replace hK := hid hK
      replace hd := hid hd
      replace hz := hid hz
      rcases Nat.eq_zero_or_pos d with hd0 | hpos
      · rw [if_pos hd0] at hsu
        replace hsu := hid hsu
        subst hd0
        go_wp2_with (at_builtin; refine wpList_plain rfl fun K hK' => ?_; refine wp_grow eI_len (by omega) _ _ 43 3 _ 8 rfl sl43 i3 rfl (.slice ov' j cv') (qoutK D Z j) rfl (hR.out.alloc _) wr.heap.size 1 [(-1 : Int)] rfl #[.int .i64 (-1)] 3 (blk_new' _ _ rfl) (by intro a x k ha hx; match a, x, ha with | 0, 0, ha => simp at ha; subst ha; rfl) (by simp [eI, Value.oneCell']) (by rw [qoutK_len]; simp; omega) (by omega) ?_; intro v' w' q1 q2 q3; rw [← hsu.out] at q1; obtain ⟨o5, c5, hv5, _⟩ := q1.form; rw [qoutK_len] at hv5; subst hv5; refine hK' _ _ ?_; clear hK' K)
        refine ⟨⟨j + 1, by omega, by go_num, q1, ?_, ?_⟩, by simp [intOf]; omega⟩
        · intro b' hb'
          rcases q3 with e | ⟨b2, e, h2⟩
          · exact hN.out b' (e.symm.trans hb')
          · have e' : some b' = some b2 := hb'.symm.trans e
            injection e' with e'
            subst e'
            have := hK.out.size
            have h6 : wr.heap.size + 1 ≤ b' := by simpa using h2
            omega
        · exact (hK.out.alloc _).trans' (kp_grown q2 (F := fun b => (Value.slice ov' j cv').ownBlock = some b) (fun b hb => hb)) (fun b hb e => by have := hN.out b e; omega)
      · rw [if_neg (by omega)] at hsu
        replace hsu := hid hsu
        have d5 : (0 : Int) < (d : Int) := by omega
        go_wp2_with (at_builtin; refine wpList_plain rfl fun K hK' => ?_; refine wp_grow eI_len (by omega) _ _ 43 3 _ 8 rfl sl43 i3 rfl (.slice ov' j cv') (qoutK D Z j) rfl (hR.out.alloc _) wr.heap.size 1 [(z : Int)] rfl #[.int .i64 z] 3 (blk_new' _ _ rfl) (by intro a x k ha hx; match a, x, ha with | 0, 0, ha => simp at ha; subst ha; rfl) (by simp [eI, Value.oneCell']) (by rw [qoutK_len]; simp; omega) (by omega) ?_; intro v' w' q1 q2 q3; rw [← hsu.out] at q1; obtain ⟨o5, c5, hv5, _⟩ := q1.form; rw [qoutK_len] at hv5; subst hv5; refine hK' _ _ ?_; clear hK' K)
        refine ⟨⟨j + 1, by omega, by go_num, q1, ?_, ?_⟩, by simp [intOf]; omega⟩
        · intro b' hb'
          rcases q3 with e | ⟨b2, e, h2⟩
          · exact hN.out b' (e.symm.trans hb')
          · have e' : some b' = some b2 := hb'.symm.trans e
            injection e' with e'
            subst e'
            have := hK.out.size
            have h6 : wr.heap.size + 1 ≤ b' := by simpa using h2
            omega
        · exact (hK.out.alloc _).trans' (kp_grown q2 (F := fun b => (Value.slice ov' j cv').ownBlock = some b) (fun b hb => hb)) (fun b hb e => by have := hN.out b e; omega)
    · obtain rfl : j = D.length := by omega
      have KW := hid (K1.out.trans hK)
      have HX1 := hid (HX.out.kn KW.out)
      have BX := hid (hK.get B1.out (fun h => h))
      have Lq := loc3 hU.out.hq
      rw [hdv] at Lq
      have HS := hid (fun W' (k : Kp NoB wr W') => (⟨(loc3 (k.get BX.out (fun h => h))).1, (loc3 (k.get BX.out (fun h => h))).2.1, (loc3 (k.get BX.out (fun h => h))).2.2.1⟩ :
        W'.cell? ⟨w.heap.size, 0, none⟩ = some (.slice oa x.a.length ca) ∧ W'.cell? ⟨w.heap.size, 1, none⟩ = some (.slice ob x.b.length cb) ∧ W'.cell? ⟨w.heap.size, 2, none⟩ = some (.slice oc x.c.length cc)))
      have L3 := loc3 BX.out
      replace hdv := hid hdv
      replace hR := hid hR
      replace hN := hid hN
      replace hK := hid hK
      replace HX := hid HX1.out
      go_wp2_with fail
      refine wp_mono (Q := fun e a' W' => e = .normal ∧ ∃ (va vb vc : Value) (g : Nat), W'.heap[g]? = some (.cells #[va, vb, vc] 35 (0, 0)) ∧ RowR W' va vb vc x ∧ New wr va ∧ New wr vb ∧ New wr vc ∧ wr.heap.size ≤ g ∧ Kp NoB wr W' ∧ (∀ s, vb.ownBlock = some s → va.ownBlock ≠ some s ∧ vc.ownBlock ≠ some s) ∧
        ∃ u : Nat → Value, a' = { tmps := #[.pointer (some ⟨q, 0, none⟩), u 1, u 2, .pointer (some ⟨w.heap.size, 0, none⟩), .slice ov' D.length cv', u 5, .pointer (some ⟨g, 0, none⟩), u 7, u 8, u 9, u 10, u 11, u 12, u 13, u 14, u 15, u 16, u 17, u 18, u 19, u 20, u 21, u 22, u 23, u 24, u 25, u 26, u 27, u 28, u 29, u 30, u 31, u 32, u 33, u 34, u 35, u 36, u 37, u 38, u 39, u 40, u 41, u 42, u 43, u 44, u 45, u 46, u 47, u 48, u 49, u 50, u 51, u 52, u 53, u 54, u 55, u 56, u 57, u 58, u 59, u 60, u 61, u 62, u 63, u 64, u 65, u 66, u 67, u 68, u 69, u 70, u 71, u 72, u 73, u 74, u 75], defers := [] }) ?_ ?_
      · clear L3 Lq
        refine wp_region_four 10 2 5 8 (fun W => W.cell? ⟨w.heap.size, 0, none⟩ = some (.slice oa x.a.length ca) ∧ W.cell? ⟨w.heap.size, 1, none⟩ = some (.slice ob x.b.length cb) ∧ W.cell? ⟨w.heap.size, 2, none⟩ = some (.slice oc x.c.length cc)) [(0, .held), (1, .held), (3, .held), (4, .held), (6, .held), (7, .held), (10, .eff), (2, .eff), (5, .eff), (8, .fin), (9, .at_), (11, .fin)] [(0, .at_), (1, .at_), (3, .held), (4, .held), (6, .held), (7, .held), (2, .eff), (10, .eff), (5, .eff), (8, .fin), (9, .at_), (11, .fin)] [(0, .at_), (1, .at_), (3, .held), (4, .held), (6, .held), (7, .held), (2, .eff), (5, .eff), (10, .eff), (8, .fin), (9, .at_), (11, .fin)] [(0, .at_), (1, .at_), (3, .held), (4, .held), (6, .held), (7, .held), (2, .eff), (5, .eff), (8, .eff), (9, .held), (10, .eff), (11, .fin)] ?L1a ?L1b ?L1c ?L1d (by kernel_rfl) (by kernel_rfl) (fun c hc a w => by simp only [List.mem_cons, List.not_mem_nil, or_false] at hc; rcases hc with rfl | rfl | rfl <;> exact quick_append rfl a w) ?hL1a ?hL1b ?hL1c ?hL1d (HS.out _ ((Kp.refl NoB wr).drew)) ?hG1a ?hG1b ?hG1c ?hG1d
        case hL1a => simp only [pickOps, List.map_cons, List.map_nil, List.getD_cons_zero, List.getD_cons_succ]; rfl
        case hL1b => simp only [pickOps, List.map_cons, List.map_nil, List.getD_cons_zero, List.getD_cons_succ]; rfl
        case hL1c => simp only [pickOps, List.map_cons, List.map_nil, List.getD_cons_zero, List.getD_cons_succ]; rfl
        case hL1d => simp only [pickOps, List.map_cons, List.map_nil, List.getD_cons_zero, List.getD_cons_succ]; rfl
        · obtain ⟨s1, s2, s3⟩ := HS.out _ ((Kp.refl NoB wr).drew)
          have KK := hid ((Kp.refl NoB wr).drew)
          repeat (first | (refine wpG_at (v := ?_) (by rfl) ?_ ?_; rotate_left; (focus (first | (go_simp; with_reducible rfl) | (go_simp; done))); simp only [Act.put, List.setIfInBounds_toArray, List.set_cons_zero, List.set_cons_succ]) | (refine wpG_at_skip (by rfl) ?_; simp only [Act.put, List.setIfInBounds_toArray, List.set_cons_zero, List.set_cons_succ]) | (refine wpG_held_skip (by rfl) ?_; simp only [Act.put, List.setIfInBounds_toArray, List.set_cons_zero, List.set_cons_succ]) | (refine wpG_held (v := ?_) (by rfl) ?_ ?_; rotate_left; (focus (intro w' hSw; (try dsimp only at hSw); go_split_ands; first | (go_simp; with_reducible rfl) | (go_simp; done))); simp only [Act.put, List.setIfInBounds_toArray, List.set_cons_zero, List.set_cons_succ]))
          obtain ⟨g, hg⟩ : ∃ g, g = wr.heap.size := ⟨_, rfl⟩
          have KK := hid (show Kp NoB wr ((wr.alloc (.cells #[.slice none 0 0, .slice none 0 0, .slice none 0 0] 35)).drew) from KK.out.alloc (.cells #[.slice none 0 0, .slice none 0 0, .slice none 0 0] 35))
          have hgs := hid (show wr.heap.size ≤ g from by rw [hg]; exact Nat.le_refl _)
          have G := hid (show ((wr.alloc (.cells #[.slice none 0 0, .slice none 0 0, .slice none 0 0] 35)).drew).heap[g]? = some (.cells #[.slice none 0 0, .slice none 0 0, .slice none 0 0] 35 (0, 0)) from blk_new' (wr.drew) (.cells #[.slice none 0 0, .slice none 0 0, .slice none 0 0] 35) hg)
          clear s1 s2 s3
          obtain ⟨s1, s2, s3⟩ := HS.out _ KK.out
          refine wpG_eff (by rfl) (fun K hK => ?_)
          go_simp
          try rw [← hg]
          try (simp only [World.drew_heap] at hg; rw [← hg])
          refine hK _ _ ⟨s1, s2, s3⟩ ?_
          clear hK K
          generalize (wr.alloc (.cells #[.slice none 0 0, .slice none 0 0, .slice none 0 0] 35)).drew = wg at *
          replace hg := hid hg
          have KKp := hid KK.out
          repeat (first | (refine wpG_at (v := ?_) (by rfl) ?_ ?_; rotate_left; (focus (first | (go_simp; with_reducible rfl) | (go_simp; done))); simp only [Act.put, List.setIfInBounds_toArray, List.set_cons_zero, List.set_cons_succ]) | (refine wpG_at_skip (by rfl) ?_; simp only [Act.put, List.setIfInBounds_toArray, List.set_cons_zero, List.set_cons_succ]) | (refine wpG_held_skip (by rfl) ?_; simp only [Act.put, List.setIfInBounds_toArray, List.set_cons_zero, List.set_cons_succ]) | (refine wpG_held (v := ?_) (by rfl) ?_ ?_; rotate_left; (focus (intro w' hSw; (try dsimp only at hSw); go_split_ands; first | (go_simp; with_reducible rfl) | (go_simp; done))); simp only [Act.put, List.setIfInBounds_toArray, List.set_cons_zero, List.set_cons_succ]))
          obtain ⟨va, wa, ra, qa, ka, na⟩ := run_nil_sg (P := Try.prog) (ty := 33) eH_len (by omega) sl33 i59 rfl (HX.out.a.kn KK.out) (oneH x.a) (by omega) (by omega)
          obtain ⟨oa', ca', ea, _⟩ := qa.form
          subst ea
          have G := hid (ka.get G.out (fun h => h))
          have na := hid (show New wr (.slice oa' x.a.length ca') from fun s hs => Nat.le_trans KK.out.size (na s hs))
          have lta := hid qa.lt
          have KK := hid (KK.out.trans ka)
          have KKp := hid KK.out
          replace qa := hid qa
          clear s1 s2 s3 ka
          obtain ⟨s1, s2, s3⟩ := HS.out _ KK.out
          refine wpG_eff (by rfl) (fun K hK => ?_)
          refine Lib.wp_append_run _ _ _ 33 33 rfl (.slice none 0 0) (.slice oa x.a.length ca) rfl rfl _ _ ra ?_
          refine hK _ _ ⟨s1, s2, s3⟩ ?_
          clear hK K ra
          repeat (first | (refine wpG_at (v := ?_) (by rfl) ?_ ?_; rotate_left; (focus (first | (go_simp; with_reducible rfl) | (go_simp; done))); simp only [Act.put, List.setIfInBounds_toArray, List.set_cons_zero, List.set_cons_succ]) | (refine wpG_at_skip (by rfl) ?_; simp only [Act.put, List.setIfInBounds_toArray, List.set_cons_zero, List.set_cons_succ]) | (refine wpG_held_skip (by rfl) ?_; simp only [Act.put, List.setIfInBounds_toArray, List.set_cons_zero, List.set_cons_succ]) | (refine wpG_held (v := ?_) (by rfl) ?_ ?_; rotate_left; (focus (intro w' hSw; (try dsimp only at hSw); go_split_ands; first | (go_simp; with_reducible rfl) | (go_simp; done))); simp only [Act.put, List.setIfInBounds_toArray, List.set_cons_zero, List.set_cons_succ]))
          obtain ⟨vb, wb, rb, qb, kb, nb⟩ := run_nil_sg (P := Try.prog) (ty := 33) eH_len (by omega) sl33 i59 rfl (HX.out.b.kn KK.out) (oneH x.b) (by omega) (by omega)
          obtain ⟨ob', cb', eb, _⟩ := qb.form
          subst eb
          have neab := hid (show ∀ s, (Value.slice ob' x.b.length cb').ownBlock = some s → (Value.slice oa' x.a.length ca').ownBlock = some s → False from fun s hs e => by have h1 := nb s hs; have h2 := qa.out.lt s e; omega)
          have qa := hid (qa.out.kp kb (fun _ _ h => h))
          have G := hid (kb.get G.out (fun h => h))
          have nb := hid (show New wr (.slice ob' x.b.length cb') from fun s hs => Nat.le_trans KK.out.size (nb s hs))
          have ltb := hid qb.lt
          have KK := hid (KK.out.trans kb)
          have KKp := hid KK.out
          replace qb := hid qb
          clear s1 s2 s3 kb
          obtain ⟨s1, s2, s3⟩ := HS.out _ KK.out
          refine wpG_eff (by rfl) (fun K hK => ?_)
          refine Lib.wp_append_run _ _ _ 33 33 rfl (.slice none 0 0) (.slice ob x.b.length cb) rfl rfl _ _ rb ?_
          refine hK _ _ ⟨s1, s2, s3⟩ ?_
          clear hK K rb
          repeat (first | (refine wpG_at (v := ?_) (by rfl) ?_ ?_; rotate_left; (focus (first | (go_simp; with_reducible rfl) | (go_simp; done))); simp only [Act.put, List.setIfInBounds_toArray, List.set_cons_zero, List.set_cons_succ]) | (refine wpG_at_skip (by rfl) ?_; simp only [Act.put, List.setIfInBounds_toArray, List.set_cons_zero, List.set_cons_succ]) | (refine wpG_held_skip (by rfl) ?_; simp only [Act.put, List.setIfInBounds_toArray, List.set_cons_zero, List.set_cons_succ]) | (refine wpG_held (v := ?_) (by rfl) ?_ ?_; rotate_left; (focus (intro w' hSw; (try dsimp only at hSw); go_split_ands; first | (go_simp; with_reducible rfl) | (go_simp; done))); simp only [Act.put, List.setIfInBounds_toArray, List.set_cons_zero, List.set_cons_succ]))
          obtain ⟨vc, wc, rc, qc, kc, nc⟩ := run_nil_sg (P := Try.prog) (ty := 33) eH_len (by omega) sl33 i59 rfl (HX.out.c.kn KK.out) (oneH x.c) (by omega) (by omega)
          obtain ⟨oc', cc', ec, _⟩ := qc.form
          subst ec
          have qa := hid (qa.out.kp kc (fun _ _ h => h))
          have nebc := hid (show ∀ s, (Value.slice oc' x.c.length cc').ownBlock = some s → (Value.slice ob' x.b.length cb').ownBlock = some s → False from fun s hs e => by have h1 := nc s hs; have h2 := qb.out.lt s e; omega)
          have qb := hid (qb.out.kp kc (fun _ _ h => h))
          have G := hid (kc.get G.out (fun h => h))
          have nc := hid (show New wr (.slice oc' x.c.length cc') from fun s hs => Nat.le_trans KK.out.size (nc s hs))
          have ltc := hid qc.lt
          have KK := hid (KK.out.trans kc)
          have KKp := hid KK.out
          replace qc := hid qc
          clear s1 s2 s3 kc
          obtain ⟨s1, s2, s3⟩ := HS.out _ KK.out
          refine wpG_fin (by rfl) (fun K hK => ?_)
          refine Lib.wp_append_run _ _ _ 33 33 rfl (.slice none 0 0) (.slice oc x.c.length cc) rfl rfl _ _ rc ?_
          refine hK _ _ ?_
          clear hK K rc
          repeat (first | (refine wpG_at (v := ?_) (by rfl) ?_ ?_; rotate_left; (focus (first | (go_simp; with_reducible rfl) | (go_simp; done))); simp only [Act.put, List.setIfInBounds_toArray, List.set_cons_zero, List.set_cons_succ]) | (refine wpG_at_skip (by rfl) ?_; simp only [Act.put, List.setIfInBounds_toArray, List.set_cons_zero, List.set_cons_succ]) | (refine wpG_held_skip (by rfl) ?_; simp only [Act.put, List.setIfInBounds_toArray, List.set_cons_zero, List.set_cons_succ]) | (refine wpG_held (v := ?_) (by rfl) ?_ ?_; rotate_left; (focus (intro w' hSw; (try dsimp only at hSw); go_split_ands; first | (go_simp; with_reducible rfl) | (go_simp; done))); simp only [Act.put, List.setIfInBounds_toArray, List.set_cons_zero, List.set_cons_succ]))
          have L := loc3 G.out
          refine wpG_fin (by rfl) (fun K hK => ?_)
          go_simp
          refine hK _ _ ?_
          clear hK K
          repeat (first | (refine wpG_at (v := ?_) (by rfl) ?_ ?_; rotate_left; (focus (first | (go_simp; with_reducible rfl) | (go_simp; done))); simp only [Act.put, List.setIfInBounds_toArray, List.set_cons_zero, List.set_cons_succ]) | (refine wpG_at_skip (by rfl) ?_; simp only [Act.put, List.setIfInBounds_toArray, List.set_cons_zero, List.set_cons_succ]) | (refine wpG_held_skip (by rfl) ?_; simp only [Act.put, List.setIfInBounds_toArray, List.set_cons_zero, List.set_cons_succ]) | (refine wpG_held (v := ?_) (by rfl) ?_ ?_; rotate_left; (focus (intro w' hSw; (try dsimp only at hSw); go_split_ands; first | (go_simp; with_reducible rfl) | (go_simp; done))); simp only [Act.put, List.setIfInBounds_toArray, List.set_cons_zero, List.set_cons_succ]))
          refine wpG_nil (NoPanic.normal ?_)
          have KF : Kp NoB wr ((((wc).setCell ⟨g, 0, none⟩ (.slice oa' x.a.length ca')).setCell ⟨g, 1, none⟩ (.slice ob' x.b.length cb')).setCell ⟨g, 2, none⟩ (.slice oc' x.c.length cc')) := ((KK.out.setCell (p := ⟨g, 0, none⟩) _ (fun h => absurd (show g < wr.heap.size from h) (by have := hgs.out; omega))).setCell (p := ⟨g, 1, none⟩) _ (fun h => absurd (show g < wr.heap.size from h) (by have := hgs.out; omega))).setCell (p := ⟨g, 2, none⟩) _ (fun h => absurd (show g < wr.heap.size from h) (by have := hgs.out; omega))
          have hne : ∀ {v : Value} {l : List (Int × Int)}, RowAt wc 59 eH 2 v l → v.ownBlock ≠ some g := fun h => h.ne G.out (by decide)
          refine ⟨rfl, _, _, _, g, blk_setCell (blk_setCell (blk_setCell G.out 0 _) 1 _) 2 _, ⟨((qa.out.setCell _ _ (hne qa.out)).setCell _ _ (hne qa.out)).setCell _ _ (hne qa.out), ((qb.out.setCell _ _ (hne qb.out)).setCell _ _ (hne qb.out)).setCell _ _ (hne qb.out), ((qc.out.setCell _ _ (hne qc.out)).setCell _ _ (hne qc.out)).setCell _ _ (hne qc.out)⟩, na.out, nb.out, nc.out, hgs.out, KF, ?_, ax_fun _ (by rfl)⟩
          exact fun s hs => ⟨fun e => neab.out s hs e, fun e => nebc.out s e hs⟩
        · obtain ⟨s1, s2, s3⟩ := HS.out _ ((Kp.refl NoB wr).drew)
          have KK := hid ((Kp.refl NoB wr).drew)
          repeat (first | (refine wpG_at (v := ?_) (by rfl) ?_ ?_; rotate_left; (focus (first | (go_simp; with_reducible rfl) | (go_simp; done))); simp only [Act.put, List.setIfInBounds_toArray, List.set_cons_zero, List.set_cons_succ]) | (refine wpG_at_skip (by rfl) ?_; simp only [Act.put, List.setIfInBounds_toArray, List.set_cons_zero, List.set_cons_succ]) | (refine wpG_held_skip (by rfl) ?_; simp only [Act.put, List.setIfInBounds_toArray, List.set_cons_zero, List.set_cons_succ]) | (refine wpG_held (v := ?_) (by rfl) ?_ ?_; rotate_left; (focus (intro w' hSw; (try dsimp only at hSw); go_split_ands; first | (go_simp; with_reducible rfl) | (go_simp; done))); simp only [Act.put, List.setIfInBounds_toArray, List.set_cons_zero, List.set_cons_succ]))
          obtain ⟨va, wa, ra, qa, ka, na⟩ := run_nil_sg (P := Try.prog) (ty := 33) eH_len (by omega) sl33 i59 rfl (HX.out.a.kn KK.out) (oneH x.a) (by omega) (by omega)
          obtain ⟨oa', ca', ea, _⟩ := qa.form
          subst ea
          have na := hid (show New wr (.slice oa' x.a.length ca') from fun s hs => Nat.le_trans KK.out.size (na s hs))
          have lta := hid qa.lt
          have KK := hid (KK.out.trans ka)
          have KKp := hid KK.out
          replace qa := hid qa
          clear s1 s2 s3 ka
          obtain ⟨s1, s2, s3⟩ := HS.out _ KK.out
          refine wpG_eff (by rfl) (fun K hK => ?_)
          refine Lib.wp_append_run _ _ _ 33 33 rfl (.slice none 0 0) (.slice oa x.a.length ca) rfl rfl _ _ ra ?_
          refine hK _ _ ⟨s1, s2, s3⟩ ?_
          clear hK K ra
          repeat (first | (refine wpG_at (v := ?_) (by rfl) ?_ ?_; rotate_left; (focus (first | (go_simp; with_reducible rfl) | (go_simp; done))); simp only [Act.put, List.setIfInBounds_toArray, List.set_cons_zero, List.set_cons_succ]) | (refine wpG_at_skip (by rfl) ?_; simp only [Act.put, List.setIfInBounds_toArray, List.set_cons_zero, List.set_cons_succ]) | (refine wpG_held_skip (by rfl) ?_; simp only [Act.put, List.setIfInBounds_toArray, List.set_cons_zero, List.set_cons_succ]) | (refine wpG_held (v := ?_) (by rfl) ?_ ?_; rotate_left; (focus (intro w' hSw; (try dsimp only at hSw); go_split_ands; first | (go_simp; with_reducible rfl) | (go_simp; done))); simp only [Act.put, List.setIfInBounds_toArray, List.set_cons_zero, List.set_cons_succ]))
          obtain ⟨g, hg⟩ : ∃ g, g = wa.heap.size := ⟨_, rfl⟩
          have KK := hid (show Kp NoB wr (wa.alloc (.cells #[.slice none 0 0, .slice none 0 0, .slice none 0 0] 35)) from KK.out.alloc (.cells #[.slice none 0 0, .slice none 0 0, .slice none 0 0] 35))
          have hgs := hid (show wr.heap.size ≤ g from by rw [hg]; exact KKp.out.size)
          have G := hid (show (wa.alloc (.cells #[.slice none 0 0, .slice none 0 0, .slice none 0 0] 35)).heap[g]? = some (.cells #[.slice none 0 0, .slice none 0 0, .slice none 0 0] 35 (0, 0)) from blk_new' (wa) (.cells #[.slice none 0 0, .slice none 0 0, .slice none 0 0] 35) hg)
          have qa := hid (show RowAt (wa.alloc (.cells #[.slice none 0 0, .slice none 0 0, .slice none 0 0] 35)) 59 eH 2 _ _ from qa.out.alloc (.cells #[.slice none 0 0, .slice none 0 0, .slice none 0 0] 35))
          clear s1 s2 s3
          obtain ⟨s1, s2, s3⟩ := HS.out _ KK.out
          refine wpG_eff (by rfl) (fun K hK => ?_)
          go_simp
          try rw [← hg]
          try (simp only [World.drew_heap] at hg; rw [← hg])
          refine hK _ _ ⟨s1, s2, s3⟩ ?_
          clear hK K
          generalize wa.alloc (.cells #[.slice none 0 0, .slice none 0 0, .slice none 0 0] 35) = wg at *
          replace hg := hid hg
          have KKp := hid KK.out
          repeat (first | (refine wpG_at (v := ?_) (by rfl) ?_ ?_; rotate_left; (focus (first | (go_simp; with_reducible rfl) | (go_simp; done))); simp only [Act.put, List.setIfInBounds_toArray, List.set_cons_zero, List.set_cons_succ]) | (refine wpG_at_skip (by rfl) ?_; simp only [Act.put, List.setIfInBounds_toArray, List.set_cons_zero, List.set_cons_succ]) | (refine wpG_held_skip (by rfl) ?_; simp only [Act.put, List.setIfInBounds_toArray, List.set_cons_zero, List.set_cons_succ]) | (refine wpG_held (v := ?_) (by rfl) ?_ ?_; rotate_left; (focus (intro w' hSw; (try dsimp only at hSw); go_split_ands; first | (go_simp; with_reducible rfl) | (go_simp; done))); simp only [Act.put, List.setIfInBounds_toArray, List.set_cons_zero, List.set_cons_succ]))
          obtain ⟨vb, wb, rb, qb, kb, nb⟩ := run_nil_sg (P := Try.prog) (ty := 33) eH_len (by omega) sl33 i59 rfl (HX.out.b.kn KK.out) (oneH x.b) (by omega) (by omega)
          obtain ⟨ob', cb', eb, _⟩ := qb.form
          subst eb
          have neab := hid (show ∀ s, (Value.slice ob' x.b.length cb').ownBlock = some s → (Value.slice oa' x.a.length ca').ownBlock = some s → False from fun s hs e => by have h1 := nb s hs; have h2 := qa.out.lt s e; omega)
          have qa := hid (qa.out.kp kb (fun _ _ h => h))
          have G := hid (kb.get G.out (fun h => h))
          have nb := hid (show New wr (.slice ob' x.b.length cb') from fun s hs => Nat.le_trans KK.out.size (nb s hs))
          have ltb := hid qb.lt
          have KK := hid (KK.out.trans kb)
          have KKp := hid KK.out
          replace qb := hid qb
          clear s1 s2 s3 kb
          obtain ⟨s1, s2, s3⟩ := HS.out _ KK.out
          refine wpG_eff (by rfl) (fun K hK => ?_)
          refine Lib.wp_append_run _ _ _ 33 33 rfl (.slice none 0 0) (.slice ob x.b.length cb) rfl rfl _ _ rb ?_
          refine hK _ _ ⟨s1, s2, s3⟩ ?_
          clear hK K rb
          repeat (first | (refine wpG_at (v := ?_) (by rfl) ?_ ?_; rotate_left; (focus (first | (go_simp; with_reducible rfl) | (go_simp; done))); simp only [Act.put, List.setIfInBounds_toArray, List.set_cons_zero, List.set_cons_succ]) | (refine wpG_at_skip (by rfl) ?_; simp only [Act.put, List.setIfInBounds_toArray, List.set_cons_zero, List.set_cons_succ]) | (refine wpG_held_skip (by rfl) ?_; simp only [Act.put, List.setIfInBounds_toArray, List.set_cons_zero, List.set_cons_succ]) | (refine wpG_held (v := ?_) (by rfl) ?_ ?_; rotate_left; (focus (intro w' hSw; (try dsimp only at hSw); go_split_ands; first | (go_simp; with_reducible rfl) | (go_simp; done))); simp only [Act.put, List.setIfInBounds_toArray, List.set_cons_zero, List.set_cons_succ]))
          obtain ⟨vc, wc, rc, qc, kc, nc⟩ := run_nil_sg (P := Try.prog) (ty := 33) eH_len (by omega) sl33 i59 rfl (HX.out.c.kn KK.out) (oneH x.c) (by omega) (by omega)
          obtain ⟨oc', cc', ec, _⟩ := qc.form
          subst ec
          have qa := hid (qa.out.kp kc (fun _ _ h => h))
          have nebc := hid (show ∀ s, (Value.slice oc' x.c.length cc').ownBlock = some s → (Value.slice ob' x.b.length cb').ownBlock = some s → False from fun s hs e => by have h1 := nc s hs; have h2 := qb.out.lt s e; omega)
          have qb := hid (qb.out.kp kc (fun _ _ h => h))
          have G := hid (kc.get G.out (fun h => h))
          have nc := hid (show New wr (.slice oc' x.c.length cc') from fun s hs => Nat.le_trans KK.out.size (nc s hs))
          have ltc := hid qc.lt
          have KK := hid (KK.out.trans kc)
          have KKp := hid KK.out
          replace qc := hid qc
          clear s1 s2 s3 kc
          obtain ⟨s1, s2, s3⟩ := HS.out _ KK.out
          refine wpG_fin (by rfl) (fun K hK => ?_)
          refine Lib.wp_append_run _ _ _ 33 33 rfl (.slice none 0 0) (.slice oc x.c.length cc) rfl rfl _ _ rc ?_
          refine hK _ _ ?_
          clear hK K rc
          repeat (first | (refine wpG_at (v := ?_) (by rfl) ?_ ?_; rotate_left; (focus (first | (go_simp; with_reducible rfl) | (go_simp; done))); simp only [Act.put, List.setIfInBounds_toArray, List.set_cons_zero, List.set_cons_succ]) | (refine wpG_at_skip (by rfl) ?_; simp only [Act.put, List.setIfInBounds_toArray, List.set_cons_zero, List.set_cons_succ]) | (refine wpG_held_skip (by rfl) ?_; simp only [Act.put, List.setIfInBounds_toArray, List.set_cons_zero, List.set_cons_succ]) | (refine wpG_held (v := ?_) (by rfl) ?_ ?_; rotate_left; (focus (intro w' hSw; (try dsimp only at hSw); go_split_ands; first | (go_simp; with_reducible rfl) | (go_simp; done))); simp only [Act.put, List.setIfInBounds_toArray, List.set_cons_zero, List.set_cons_succ]))
          have L := loc3 G.out
          refine wpG_fin (by rfl) (fun K hK => ?_)
          go_simp
          refine hK _ _ ?_
          clear hK K
          repeat (first | (refine wpG_at (v := ?_) (by rfl) ?_ ?_; rotate_left; (focus (first | (go_simp; with_reducible rfl) | (go_simp; done))); simp only [Act.put, List.setIfInBounds_toArray, List.set_cons_zero, List.set_cons_succ]) | (refine wpG_at_skip (by rfl) ?_; simp only [Act.put, List.setIfInBounds_toArray, List.set_cons_zero, List.set_cons_succ]) | (refine wpG_held_skip (by rfl) ?_; simp only [Act.put, List.setIfInBounds_toArray, List.set_cons_zero, List.set_cons_succ]) | (refine wpG_held (v := ?_) (by rfl) ?_ ?_; rotate_left; (focus (intro w' hSw; (try dsimp only at hSw); go_split_ands; first | (go_simp; with_reducible rfl) | (go_simp; done))); simp only [Act.put, List.setIfInBounds_toArray, List.set_cons_zero, List.set_cons_succ]))
          refine wpG_nil (NoPanic.normal ?_)
          have KF : Kp NoB wr ((((wc).setCell ⟨g, 0, none⟩ (.slice oa' x.a.length ca')).setCell ⟨g, 1, none⟩ (.slice ob' x.b.length cb')).setCell ⟨g, 2, none⟩ (.slice oc' x.c.length cc')) := ((KK.out.setCell (p := ⟨g, 0, none⟩) _ (fun h => absurd (show g < wr.heap.size from h) (by have := hgs.out; omega))).setCell (p := ⟨g, 1, none⟩) _ (fun h => absurd (show g < wr.heap.size from h) (by have := hgs.out; omega))).setCell (p := ⟨g, 2, none⟩) _ (fun h => absurd (show g < wr.heap.size from h) (by have := hgs.out; omega))
          have hne : ∀ {v : Value} {l : List (Int × Int)}, RowAt wc 59 eH 2 v l → v.ownBlock ≠ some g := fun h => h.ne G.out (by decide)
          refine ⟨rfl, _, _, _, g, blk_setCell (blk_setCell (blk_setCell G.out 0 _) 1 _) 2 _, ⟨((qa.out.setCell _ _ (hne qa.out)).setCell _ _ (hne qa.out)).setCell _ _ (hne qa.out), ((qb.out.setCell _ _ (hne qb.out)).setCell _ _ (hne qb.out)).setCell _ _ (hne qb.out), ((qc.out.setCell _ _ (hne qc.out)).setCell _ _ (hne qc.out)).setCell _ _ (hne qc.out)⟩, na.out, nb.out, nc.out, hgs.out, KF, ?_, ax_fun _ (by rfl)⟩
          exact fun s hs => ⟨fun e => neab.out s hs e, fun e => nebc.out s e hs⟩
        · obtain ⟨s1, s2, s3⟩ := HS.out _ ((Kp.refl NoB wr).drew)
          have KK := hid ((Kp.refl NoB wr).drew)
          repeat (first | (refine wpG_at (v := ?_) (by rfl) ?_ ?_; rotate_left; (focus (first | (go_simp; with_reducible rfl) | (go_simp; done))); simp only [Act.put, List.setIfInBounds_toArray, List.set_cons_zero, List.set_cons_succ]) | (refine wpG_at_skip (by rfl) ?_; simp only [Act.put, List.setIfInBounds_toArray, List.set_cons_zero, List.set_cons_succ]) | (refine wpG_held_skip (by rfl) ?_; simp only [Act.put, List.setIfInBounds_toArray, List.set_cons_zero, List.set_cons_succ]) | (refine wpG_held (v := ?_) (by rfl) ?_ ?_; rotate_left; (focus (intro w' hSw; (try dsimp only at hSw); go_split_ands; first | (go_simp; with_reducible rfl) | (go_simp; done))); simp only [Act.put, List.setIfInBounds_toArray, List.set_cons_zero, List.set_cons_succ]))
          obtain ⟨va, wa, ra, qa, ka, na⟩ := run_nil_sg (P := Try.prog) (ty := 33) eH_len (by omega) sl33 i59 rfl (HX.out.a.kn KK.out) (oneH x.a) (by omega) (by omega)
          obtain ⟨oa', ca', ea, _⟩ := qa.form
          subst ea
          have na := hid (show New wr (.slice oa' x.a.length ca') from fun s hs => Nat.le_trans KK.out.size (na s hs))
          have lta := hid qa.lt
          have KK := hid (KK.out.trans ka)
          have KKp := hid KK.out
          replace qa := hid qa
          clear s1 s2 s3 ka
          obtain ⟨s1, s2, s3⟩ := HS.out _ KK.out
          refine wpG_eff (by rfl) (fun K hK => ?_)
          refine Lib.wp_append_run _ _ _ 33 33 rfl (.slice none 0 0) (.slice oa x.a.length ca) rfl rfl _ _ ra ?_
          refine hK _ _ ⟨s1, s2, s3⟩ ?_
          clear hK K ra
          repeat (first | (refine wpG_at (v := ?_) (by rfl) ?_ ?_; rotate_left; (focus (first | (go_simp; with_reducible rfl) | (go_simp; done))); simp only [Act.put, List.setIfInBounds_toArray, List.set_cons_zero, List.set_cons_succ]) | (refine wpG_at_skip (by rfl) ?_; simp only [Act.put, List.setIfInBounds_toArray, List.set_cons_zero, List.set_cons_succ]) | (refine wpG_held_skip (by rfl) ?_; simp only [Act.put, List.setIfInBounds_toArray, List.set_cons_zero, List.set_cons_succ]) | (refine wpG_held (v := ?_) (by rfl) ?_ ?_; rotate_left; (focus (intro w' hSw; (try dsimp only at hSw); go_split_ands; first | (go_simp; with_reducible rfl) | (go_simp; done))); simp only [Act.put, List.setIfInBounds_toArray, List.set_cons_zero, List.set_cons_succ]))
          obtain ⟨vb, wb, rb, qb, kb, nb⟩ := run_nil_sg (P := Try.prog) (ty := 33) eH_len (by omega) sl33 i59 rfl (HX.out.b.kn KK.out) (oneH x.b) (by omega) (by omega)
          obtain ⟨ob', cb', eb, _⟩ := qb.form
          subst eb
          have neab := hid (show ∀ s, (Value.slice ob' x.b.length cb').ownBlock = some s → (Value.slice oa' x.a.length ca').ownBlock = some s → False from fun s hs e => by have h1 := nb s hs; have h2 := qa.out.lt s e; omega)
          have qa := hid (qa.out.kp kb (fun _ _ h => h))
          have nb := hid (show New wr (.slice ob' x.b.length cb') from fun s hs => Nat.le_trans KK.out.size (nb s hs))
          have ltb := hid qb.lt
          have KK := hid (KK.out.trans kb)
          have KKp := hid KK.out
          replace qb := hid qb
          clear s1 s2 s3 kb
          obtain ⟨s1, s2, s3⟩ := HS.out _ KK.out
          refine wpG_eff (by rfl) (fun K hK => ?_)
          refine Lib.wp_append_run _ _ _ 33 33 rfl (.slice none 0 0) (.slice ob x.b.length cb) rfl rfl _ _ rb ?_
          refine hK _ _ ⟨s1, s2, s3⟩ ?_
          clear hK K rb
          repeat (first | (refine wpG_at (v := ?_) (by rfl) ?_ ?_; rotate_left; (focus (first | (go_simp; with_reducible rfl) | (go_simp; done))); simp only [Act.put, List.setIfInBounds_toArray, List.set_cons_zero, List.set_cons_succ]) | (refine wpG_at_skip (by rfl) ?_; simp only [Act.put, List.setIfInBounds_toArray, List.set_cons_zero, List.set_cons_succ]) | (refine wpG_held_skip (by rfl) ?_; simp only [Act.put, List.setIfInBounds_toArray, List.set_cons_zero, List.set_cons_succ]) | (refine wpG_held (v := ?_) (by rfl) ?_ ?_; rotate_left; (focus (intro w' hSw; (try dsimp only at hSw); go_split_ands; first | (go_simp; with_reducible rfl) | (go_simp; done))); simp only [Act.put, List.setIfInBounds_toArray, List.set_cons_zero, List.set_cons_succ]))
          obtain ⟨g, hg⟩ : ∃ g, g = wb.heap.size := ⟨_, rfl⟩
          have KK := hid (show Kp NoB wr (wb.alloc (.cells #[.slice none 0 0, .slice none 0 0, .slice none 0 0] 35)) from KK.out.alloc (.cells #[.slice none 0 0, .slice none 0 0, .slice none 0 0] 35))
          have hgs := hid (show wr.heap.size ≤ g from by rw [hg]; exact KKp.out.size)
          have G := hid (show (wb.alloc (.cells #[.slice none 0 0, .slice none 0 0, .slice none 0 0] 35)).heap[g]? = some (.cells #[.slice none 0 0, .slice none 0 0, .slice none 0 0] 35 (0, 0)) from blk_new' (wb) (.cells #[.slice none 0 0, .slice none 0 0, .slice none 0 0] 35) hg)
          have qa := hid (show RowAt (wb.alloc (.cells #[.slice none 0 0, .slice none 0 0, .slice none 0 0] 35)) 59 eH 2 _ _ from qa.out.alloc (.cells #[.slice none 0 0, .slice none 0 0, .slice none 0 0] 35))
          have qb := hid (show RowAt (wb.alloc (.cells #[.slice none 0 0, .slice none 0 0, .slice none 0 0] 35)) 59 eH 2 _ _ from qb.out.alloc (.cells #[.slice none 0 0, .slice none 0 0, .slice none 0 0] 35))
          clear s1 s2 s3
          obtain ⟨s1, s2, s3⟩ := HS.out _ KK.out
          refine wpG_eff (by rfl) (fun K hK => ?_)
          go_simp
          try rw [← hg]
          try (simp only [World.drew_heap] at hg; rw [← hg])
          refine hK _ _ ⟨s1, s2, s3⟩ ?_
          clear hK K
          generalize wb.alloc (.cells #[.slice none 0 0, .slice none 0 0, .slice none 0 0] 35) = wg at *
          replace hg := hid hg
          have KKp := hid KK.out
          repeat (first | (refine wpG_at (v := ?_) (by rfl) ?_ ?_; rotate_left; (focus (first | (go_simp; with_reducible rfl) | (go_simp; done))); simp only [Act.put, List.setIfInBounds_toArray, List.set_cons_zero, List.set_cons_succ]) | (refine wpG_at_skip (by rfl) ?_; simp only [Act.put, List.setIfInBounds_toArray, List.set_cons_zero, List.set_cons_succ]) | (refine wpG_held_skip (by rfl) ?_; simp only [Act.put, List.setIfInBounds_toArray, List.set_cons_zero, List.set_cons_succ]) | (refine wpG_held (v := ?_) (by rfl) ?_ ?_; rotate_left; (focus (intro w' hSw; (try dsimp only at hSw); go_split_ands; first | (go_simp; with_reducible rfl) | (go_simp; done))); simp only [Act.put, List.setIfInBounds_toArray, List.set_cons_zero, List.set_cons_succ]))
          obtain ⟨vc, wc, rc, qc, kc, nc⟩ := run_nil_sg (P := Try.prog) (ty := 33) eH_len (by omega) sl33 i59 rfl (HX.out.c.kn KK.out) (oneH x.c) (by omega) (by omega)
          obtain ⟨oc', cc', ec, _⟩ := qc.form
          subst ec
          have qa := hid (qa.out.kp kc (fun _ _ h => h))
          have nebc := hid (show ∀ s, (Value.slice oc' x.c.length cc').ownBlock = some s → (Value.slice ob' x.b.length cb').ownBlock = some s → False from fun s hs e => by have h1 := nc s hs; have h2 := qb.out.lt s e; omega)
          have qb := hid (qb.out.kp kc (fun _ _ h => h))
          have G := hid (kc.get G.out (fun h => h))
          have nc := hid (show New wr (.slice oc' x.c.length cc') from fun s hs => Nat.le_trans KK.out.size (nc s hs))
          have ltc := hid qc.lt
          have KK := hid (KK.out.trans kc)
          have KKp := hid KK.out
          replace qc := hid qc
          clear s1 s2 s3 kc
          obtain ⟨s1, s2, s3⟩ := HS.out _ KK.out
          refine wpG_fin (by rfl) (fun K hK => ?_)
          refine Lib.wp_append_run _ _ _ 33 33 rfl (.slice none 0 0) (.slice oc x.c.length cc) rfl rfl _ _ rc ?_
          refine hK _ _ ?_
          clear hK K rc
          repeat (first | (refine wpG_at (v := ?_) (by rfl) ?_ ?_; rotate_left; (focus (first | (go_simp; with_reducible rfl) | (go_simp; done))); simp only [Act.put, List.setIfInBounds_toArray, List.set_cons_zero, List.set_cons_succ]) | (refine wpG_at_skip (by rfl) ?_; simp only [Act.put, List.setIfInBounds_toArray, List.set_cons_zero, List.set_cons_succ]) | (refine wpG_held_skip (by rfl) ?_; simp only [Act.put, List.setIfInBounds_toArray, List.set_cons_zero, List.set_cons_succ]) | (refine wpG_held (v := ?_) (by rfl) ?_ ?_; rotate_left; (focus (intro w' hSw; (try dsimp only at hSw); go_split_ands; first | (go_simp; with_reducible rfl) | (go_simp; done))); simp only [Act.put, List.setIfInBounds_toArray, List.set_cons_zero, List.set_cons_succ]))
          have L := loc3 G.out
          refine wpG_fin (by rfl) (fun K hK => ?_)
          go_simp
          refine hK _ _ ?_
          clear hK K
          repeat (first | (refine wpG_at (v := ?_) (by rfl) ?_ ?_; rotate_left; (focus (first | (go_simp; with_reducible rfl) | (go_simp; done))); simp only [Act.put, List.setIfInBounds_toArray, List.set_cons_zero, List.set_cons_succ]) | (refine wpG_at_skip (by rfl) ?_; simp only [Act.put, List.setIfInBounds_toArray, List.set_cons_zero, List.set_cons_succ]) | (refine wpG_held_skip (by rfl) ?_; simp only [Act.put, List.setIfInBounds_toArray, List.set_cons_zero, List.set_cons_succ]) | (refine wpG_held (v := ?_) (by rfl) ?_ ?_; rotate_left; (focus (intro w' hSw; (try dsimp only at hSw); go_split_ands; first | (go_simp; with_reducible rfl) | (go_simp; done))); simp only [Act.put, List.setIfInBounds_toArray, List.set_cons_zero, List.set_cons_succ]))
          refine wpG_nil (NoPanic.normal ?_)
          have KF : Kp NoB wr ((((wc).setCell ⟨g, 0, none⟩ (.slice oa' x.a.length ca')).setCell ⟨g, 1, none⟩ (.slice ob' x.b.length cb')).setCell ⟨g, 2, none⟩ (.slice oc' x.c.length cc')) := ((KK.out.setCell (p := ⟨g, 0, none⟩) _ (fun h => absurd (show g < wr.heap.size from h) (by have := hgs.out; omega))).setCell (p := ⟨g, 1, none⟩) _ (fun h => absurd (show g < wr.heap.size from h) (by have := hgs.out; omega))).setCell (p := ⟨g, 2, none⟩) _ (fun h => absurd (show g < wr.heap.size from h) (by have := hgs.out; omega))
          have hne : ∀ {v : Value} {l : List (Int × Int)}, RowAt wc 59 eH 2 v l → v.ownBlock ≠ some g := fun h => h.ne G.out (by decide)
          refine ⟨rfl, _, _, _, g, blk_setCell (blk_setCell (blk_setCell G.out 0 _) 1 _) 2 _, ⟨((qa.out.setCell _ _ (hne qa.out)).setCell _ _ (hne qa.out)).setCell _ _ (hne qa.out), ((qb.out.setCell _ _ (hne qb.out)).setCell _ _ (hne qb.out)).setCell _ _ (hne qb.out), ((qc.out.setCell _ _ (hne qc.out)).setCell _ _ (hne qc.out)).setCell _ _ (hne qc.out)⟩, na.out, nb.out, nc.out, hgs.out, KF, ?_, ax_fun _ (by rfl)⟩
          exact fun s hs => ⟨fun e => neab.out s hs e, fun e => nebc.out s e hs⟩
        · obtain ⟨s1, s2, s3⟩ := HS.out _ ((Kp.refl NoB wr).drew)
          have KK := hid ((Kp.refl NoB wr).drew)
          repeat (first | (refine wpG_at (v := ?_) (by rfl) ?_ ?_; rotate_left; (focus (first | (go_simp; with_reducible rfl) | (go_simp; done))); simp only [Act.put, List.setIfInBounds_toArray, List.set_cons_zero, List.set_cons_succ]) | (refine wpG_at_skip (by rfl) ?_; simp only [Act.put, List.setIfInBounds_toArray, List.set_cons_zero, List.set_cons_succ]) | (refine wpG_held_skip (by rfl) ?_; simp only [Act.put, List.setIfInBounds_toArray, List.set_cons_zero, List.set_cons_succ]) | (refine wpG_held (v := ?_) (by rfl) ?_ ?_; rotate_left; (focus (intro w' hSw; (try dsimp only at hSw); go_split_ands; first | (go_simp; with_reducible rfl) | (go_simp; done))); simp only [Act.put, List.setIfInBounds_toArray, List.set_cons_zero, List.set_cons_succ]))
          obtain ⟨va, wa, ra, qa, ka, na⟩ := run_nil_sg (P := Try.prog) (ty := 33) eH_len (by omega) sl33 i59 rfl (HX.out.a.kn KK.out) (oneH x.a) (by omega) (by omega)
          obtain ⟨oa', ca', ea, _⟩ := qa.form
          subst ea
          have na := hid (show New wr (.slice oa' x.a.length ca') from fun s hs => Nat.le_trans KK.out.size (na s hs))
          have lta := hid qa.lt
          have KK := hid (KK.out.trans ka)
          have KKp := hid KK.out
          replace qa := hid qa
          clear s1 s2 s3 ka
          obtain ⟨s1, s2, s3⟩ := HS.out _ KK.out
          refine wpG_eff (by rfl) (fun K hK => ?_)
          refine Lib.wp_append_run _ _ _ 33 33 rfl (.slice none 0 0) (.slice oa x.a.length ca) rfl rfl _ _ ra ?_
          refine hK _ _ ⟨s1, s2, s3⟩ ?_
          clear hK K ra
          repeat (first | (refine wpG_at (v := ?_) (by rfl) ?_ ?_; rotate_left; (focus (first | (go_simp; with_reducible rfl) | (go_simp; done))); simp only [Act.put, List.setIfInBounds_toArray, List.set_cons_zero, List.set_cons_succ]) | (refine wpG_at_skip (by rfl) ?_; simp only [Act.put, List.setIfInBounds_toArray, List.set_cons_zero, List.set_cons_succ]) | (refine wpG_held_skip (by rfl) ?_; simp only [Act.put, List.setIfInBounds_toArray, List.set_cons_zero, List.set_cons_succ]) | (refine wpG_held (v := ?_) (by rfl) ?_ ?_; rotate_left; (focus (intro w' hSw; (try dsimp only at hSw); go_split_ands; first | (go_simp; with_reducible rfl) | (go_simp; done))); simp only [Act.put, List.setIfInBounds_toArray, List.set_cons_zero, List.set_cons_succ]))
          obtain ⟨vb, wb, rb, qb, kb, nb⟩ := run_nil_sg (P := Try.prog) (ty := 33) eH_len (by omega) sl33 i59 rfl (HX.out.b.kn KK.out) (oneH x.b) (by omega) (by omega)
          obtain ⟨ob', cb', eb, _⟩ := qb.form
          subst eb
          have neab := hid (show ∀ s, (Value.slice ob' x.b.length cb').ownBlock = some s → (Value.slice oa' x.a.length ca').ownBlock = some s → False from fun s hs e => by have h1 := nb s hs; have h2 := qa.out.lt s e; omega)
          have qa := hid (qa.out.kp kb (fun _ _ h => h))
          have nb := hid (show New wr (.slice ob' x.b.length cb') from fun s hs => Nat.le_trans KK.out.size (nb s hs))
          have ltb := hid qb.lt
          have KK := hid (KK.out.trans kb)
          have KKp := hid KK.out
          replace qb := hid qb
          clear s1 s2 s3 kb
          obtain ⟨s1, s2, s3⟩ := HS.out _ KK.out
          refine wpG_eff (by rfl) (fun K hK => ?_)
          refine Lib.wp_append_run _ _ _ 33 33 rfl (.slice none 0 0) (.slice ob x.b.length cb) rfl rfl _ _ rb ?_
          refine hK _ _ ⟨s1, s2, s3⟩ ?_
          clear hK K rb
          repeat (first | (refine wpG_at (v := ?_) (by rfl) ?_ ?_; rotate_left; (focus (first | (go_simp; with_reducible rfl) | (go_simp; done))); simp only [Act.put, List.setIfInBounds_toArray, List.set_cons_zero, List.set_cons_succ]) | (refine wpG_at_skip (by rfl) ?_; simp only [Act.put, List.setIfInBounds_toArray, List.set_cons_zero, List.set_cons_succ]) | (refine wpG_held_skip (by rfl) ?_; simp only [Act.put, List.setIfInBounds_toArray, List.set_cons_zero, List.set_cons_succ]) | (refine wpG_held (v := ?_) (by rfl) ?_ ?_; rotate_left; (focus (intro w' hSw; (try dsimp only at hSw); go_split_ands; first | (go_simp; with_reducible rfl) | (go_simp; done))); simp only [Act.put, List.setIfInBounds_toArray, List.set_cons_zero, List.set_cons_succ]))
          obtain ⟨vc, wc, rc, qc, kc, nc⟩ := run_nil_sg (P := Try.prog) (ty := 33) eH_len (by omega) sl33 i59 rfl (HX.out.c.kn KK.out) (oneH x.c) (by omega) (by omega)
          obtain ⟨oc', cc', ec, _⟩ := qc.form
          subst ec
          have qa := hid (qa.out.kp kc (fun _ _ h => h))
          have nebc := hid (show ∀ s, (Value.slice oc' x.c.length cc').ownBlock = some s → (Value.slice ob' x.b.length cb').ownBlock = some s → False from fun s hs e => by have h1 := nc s hs; have h2 := qb.out.lt s e; omega)
          have qb := hid (qb.out.kp kc (fun _ _ h => h))
          have nc := hid (show New wr (.slice oc' x.c.length cc') from fun s hs => Nat.le_trans KK.out.size (nc s hs))
          have ltc := hid qc.lt
          have KK := hid (KK.out.trans kc)
          have KKp := hid KK.out
          replace qc := hid qc
          clear s1 s2 s3 kc
          obtain ⟨s1, s2, s3⟩ := HS.out _ KK.out
          refine wpG_eff (by rfl) (fun K hK => ?_)
          refine Lib.wp_append_run _ _ _ 33 33 rfl (.slice none 0 0) (.slice oc x.c.length cc) rfl rfl _ _ rc ?_
          refine hK _ _ ⟨s1, s2, s3⟩ ?_
          clear hK K rc
          repeat (first | (refine wpG_at (v := ?_) (by rfl) ?_ ?_; rotate_left; (focus (first | (go_simp; with_reducible rfl) | (go_simp; done))); simp only [Act.put, List.setIfInBounds_toArray, List.set_cons_zero, List.set_cons_succ]) | (refine wpG_at_skip (by rfl) ?_; simp only [Act.put, List.setIfInBounds_toArray, List.set_cons_zero, List.set_cons_succ]) | (refine wpG_held_skip (by rfl) ?_; simp only [Act.put, List.setIfInBounds_toArray, List.set_cons_zero, List.set_cons_succ]) | (refine wpG_held (v := ?_) (by rfl) ?_ ?_; rotate_left; (focus (intro w' hSw; (try dsimp only at hSw); go_split_ands; first | (go_simp; with_reducible rfl) | (go_simp; done))); simp only [Act.put, List.setIfInBounds_toArray, List.set_cons_zero, List.set_cons_succ]))
          obtain ⟨g, hg⟩ : ∃ g, g = wc.heap.size := ⟨_, rfl⟩
          have KK := hid (show Kp NoB wr (wc.alloc (.cells #[.slice none 0 0, .slice none 0 0, .slice none 0 0] 35)) from KK.out.alloc (.cells #[.slice none 0 0, .slice none 0 0, .slice none 0 0] 35))
          have hgs := hid (show wr.heap.size ≤ g from by rw [hg]; exact KKp.out.size)
          have G := hid (show (wc.alloc (.cells #[.slice none 0 0, .slice none 0 0, .slice none 0 0] 35)).heap[g]? = some (.cells #[.slice none 0 0, .slice none 0 0, .slice none 0 0] 35 (0, 0)) from blk_new' (wc) (.cells #[.slice none 0 0, .slice none 0 0, .slice none 0 0] 35) hg)
          have qa := hid (show RowAt (wc.alloc (.cells #[.slice none 0 0, .slice none 0 0, .slice none 0 0] 35)) 59 eH 2 _ _ from qa.out.alloc (.cells #[.slice none 0 0, .slice none 0 0, .slice none 0 0] 35))
          have qb := hid (show RowAt (wc.alloc (.cells #[.slice none 0 0, .slice none 0 0, .slice none 0 0] 35)) 59 eH 2 _ _ from qb.out.alloc (.cells #[.slice none 0 0, .slice none 0 0, .slice none 0 0] 35))
          have qc := hid (show RowAt (wc.alloc (.cells #[.slice none 0 0, .slice none 0 0, .slice none 0 0] 35)) 59 eH 2 _ _ from qc.out.alloc (.cells #[.slice none 0 0, .slice none 0 0, .slice none 0 0] 35))
          clear s1 s2 s3
          obtain ⟨s1, s2, s3⟩ := HS.out _ KK.out
          refine wpG_eff (by rfl) (fun K hK => ?_)
          go_simp
          try rw [← hg]
          try (simp only [World.drew_heap] at hg; rw [← hg])
          refine hK _ _ ⟨s1, s2, s3⟩ ?_
          clear hK K
          generalize wc.alloc (.cells #[.slice none 0 0, .slice none 0 0, .slice none 0 0] 35) = wg at *
          replace hg := hid hg
          have KKp := hid KK.out
          repeat (first | (refine wpG_at (v := ?_) (by rfl) ?_ ?_; rotate_left; (focus (first | (go_simp; with_reducible rfl) | (go_simp; done))); simp only [Act.put, List.setIfInBounds_toArray, List.set_cons_zero, List.set_cons_succ]) | (refine wpG_at_skip (by rfl) ?_; simp only [Act.put, List.setIfInBounds_toArray, List.set_cons_zero, List.set_cons_succ]) | (refine wpG_held_skip (by rfl) ?_; simp only [Act.put, List.setIfInBounds_toArray, List.set_cons_zero, List.set_cons_succ]) | (refine wpG_held (v := ?_) (by rfl) ?_ ?_; rotate_left; (focus (intro w' hSw; (try dsimp only at hSw); go_split_ands; first | (go_simp; with_reducible rfl) | (go_simp; done))); simp only [Act.put, List.setIfInBounds_toArray, List.set_cons_zero, List.set_cons_succ]))
          have L := loc3 G.out
          refine wpG_fin (by rfl) (fun K hK => ?_)
          go_simp
          refine hK _ _ ?_
          clear hK K
          repeat (first | (refine wpG_at (v := ?_) (by rfl) ?_ ?_; rotate_left; (focus (first | (go_simp; with_reducible rfl) | (go_simp; done))); simp only [Act.put, List.setIfInBounds_toArray, List.set_cons_zero, List.set_cons_succ]) | (refine wpG_at_skip (by rfl) ?_; simp only [Act.put, List.setIfInBounds_toArray, List.set_cons_zero, List.set_cons_succ]) | (refine wpG_held_skip (by rfl) ?_; simp only [Act.put, List.setIfInBounds_toArray, List.set_cons_zero, List.set_cons_succ]) | (refine wpG_held (v := ?_) (by rfl) ?_ ?_; rotate_left; (focus (intro w' hSw; (try dsimp only at hSw); go_split_ands; first | (go_simp; with_reducible rfl) | (go_simp; done))); simp only [Act.put, List.setIfInBounds_toArray, List.set_cons_zero, List.set_cons_succ]))
          refine wpG_nil (NoPanic.normal ?_)
          have KF : Kp NoB wr ((((wg).setCell ⟨g, 0, none⟩ (.slice oa' x.a.length ca')).setCell ⟨g, 1, none⟩ (.slice ob' x.b.length cb')).setCell ⟨g, 2, none⟩ (.slice oc' x.c.length cc')) := ((KK.out.setCell (p := ⟨g, 0, none⟩) _ (fun h => absurd (show g < wr.heap.size from h) (by have := hgs.out; omega))).setCell (p := ⟨g, 1, none⟩) _ (fun h => absurd (show g < wr.heap.size from h) (by have := hgs.out; omega))).setCell (p := ⟨g, 2, none⟩) _ (fun h => absurd (show g < wr.heap.size from h) (by have := hgs.out; omega))
          have hne : ∀ {v : Value} {l : List (Int × Int)}, RowAt wg 59 eH 2 v l → v.ownBlock ≠ some g := fun h => h.ne G.out (by decide)
          refine ⟨rfl, _, _, _, g, blk_setCell (blk_setCell (blk_setCell G.out 0 _) 1 _) 2 _, ⟨((qa.out.setCell _ _ (hne qa.out)).setCell _ _ (hne qa.out)).setCell _ _ (hne qa.out), ((qb.out.setCell _ _ (hne qb.out)).setCell _ _ (hne qb.out)).setCell _ _ (hne qb.out), ((qc.out.setCell _ _ (hne qc.out)).setCell _ _ (hne qc.out)).setCell _ _ (hne qc.out)⟩, na.out, nb.out, nc.out, hgs.out, KF, ?_, ax_fun _ (by rfl)⟩
          exact fun s hs => ⟨fun e => neab.out s hs e, fun e => nebc.out s e hs⟩
      · rintro e a' W' ⟨rfl, va, vb, vc, g, hg, hRR, na, nb, nc, hgs, kk, _, u, rfl⟩
        have hUW := hid (hU.out.kn kk)
        have hRW := hid (hR.out.kp kk (fun _ _ h => h))
        obtain ⟨or', cr, hrv, hcr, _⟩ := hUW.out.hr.form
        rw [hUW.out.hl] at hrv
        have hrW := hid (show RowAt W' 81 eQ 4 (.slice or' S.length cr) H from hrv ▸ hUW.out.hr)
        obtain ⟨oa', ca', ea, _⟩ := hRR.a.form
        obtain ⟨ob', cb', eb, _⟩ := hRR.b.form
        obtain ⟨oc', cc', ec, _⟩ := hRR.c.form
        subst ea; subst eb; subst ec
        have HS2 := hid (fun W'' (k : Kp NoB W' W'') => (⟨by have := (loc3 (k.get hUW.out.hq (fun h => h))).2.2.1; rw [hrv] at this; exact this, (loc3 (k.get hg (fun h => h))).1, (loc3 (k.get hg (fun h => h))).2.1, (loc3 (k.get hg (fun h => h))).2.2.1⟩ :
          W''.cell? ⟨q, 2, none⟩ = some (.slice or' S.length cr) ∧ W''.cell? ⟨g, 0, none⟩ = some (.slice oa' x.a.length ca') ∧ W''.cell? ⟨g, 1, none⟩ = some (.slice ob' x.b.length cb') ∧ W''.cell? ⟨g, 2, none⟩ = some (.slice oc' x.c.length cc')))
        have hSl := HO.out.r
        have hSk := HO.out.k
        have hHl := hUW.out.hl
        have hQ' := hid (show QOk W' (⟨.slice oa' x.a.length ca', .slice ob' x.b.length cb', .slice oc' x.c.length cc', .slice ov' D.length cv'⟩ : QV) x (qout D Z) from ⟨hRR, hRW.out⟩)
        have hfresh := hid (show ∀ b, (⟨.slice oa' x.a.length ca', .slice ob' x.b.length cb', .slice oc' x.c.length cc', .slice ov' D.length cv'⟩ : QV).fp b → w.heap.size ≤ b from by
          have hs := K1.out.size
          have hs2 := hK.out.size
          rintro b (h1 | h1 | h1 | h1)
          · have := na b h1; omega
          · have := nb b h1; omega
          · have := nc b h1; omega
          · have := hN.out b h1; omega)
        have KW' := hid (KW.out.trans kk)
        replace hg := hid hg
        clear Lq L3 na nb nc HS
        replace hrv := hid hrv
        go_wp2_with fail
        refine wp_region_two 5 9 (fun W => W.cell? ⟨q, 2, none⟩ = some (.slice or' S.length cr) ∧ W.cell? ⟨g, 0, none⟩ = some (.slice oa' x.a.length ca') ∧ W.cell? ⟨g, 1, none⟩ = some (.slice ob' x.b.length cb') ∧ W.cell? ⟨g, 2, none⟩ = some (.slice oc' x.c.length cc')) [(0, .held), (1, .at_), (2, .at_), (3, .at_), (4, .at_), (6, .held), (7, .held), (8, .held), (5, .eff), (9, .eff), (10, .eff), (11, .at_), (12, .at_), (13, .fin)] [(0, .held), (1, .held), (2, .held), (3, .held), (4, .held), (6, .at_), (7, .at_), (8, .at_), (9, .eff), (5, .eff), (10, .eff), (11, .at_), (12, .at_), (13, .fin)] ?La2 ?Lb2 (by kernel_rfl) (by kernel_rfl) ?hLa2 ?hLb2 (HS2.out _ ((Kp.refl NoB W').drew)) ?hGa2 ?hGb2
        case hLa2 => simp only [pickOps, List.map_cons, List.map_nil, List.getD_cons_zero, List.getD_cons_succ]; rfl
        case hLb2 => simp only [pickOps, List.map_cons, List.map_nil, List.getD_cons_zero, List.getD_cons_succ]; rfl
        · obtain ⟨s0, s1, s2, s3⟩ := HS2.out _ ((Kp.refl NoB W').drew)
          obtain ⟨v1, y1, r1, q1, k1, n1⟩ := run_nil_sl (P := Try.prog) (ty := 52) eQ_len (by omega) sl52 i81 rfl (hrW.out.drew.sl eQ_len (by omega)) hUW.out.oneH (by omega) (by omega)
          have Y1 := hid (((Kp.refl NoB W').drew).trans k1)
          obtain ⟨o1, c1, e1, _⟩ := q1.form
          rw [hHl] at e1
          subst e1
          obtain ⟨v2, y2, r2, p1, p2, p3⟩ := run_grow_sl (P := Try.prog) (ty := 52) eQ_len (by omega) sl52 i81 rfl (q1.alloc (.cells #[.slice oa' x.a.length ca', .slice ob' x.b.length cb', .slice oc' x.c.length cc', .slice ov' D.length cv'] 81)) (Sl.one y1 81 (⟨.slice oa' x.a.length ca', .slice ob' x.b.length cb', .slice oc' x.c.length cc', .slice ov' D.length cv'⟩ : QV) (f := eQ)) oneQ (by rw [hHl]; simp; omega) (by omega)
          have Y2 := hid (show Kp NoB W' y2 from (Y1.out.alloc _).trans' (kp_grown p2 (F := fun b => (Value.slice o1 S.length c1).ownBlock = some b) (fun b hb => hb)) (fun b hb e => by have h1 := n1 b e; have h2 : W'.heap.size ≤ b := h1; omega))
          obtain ⟨o2, c2, e2, _⟩ := p1.form
          rw [List.length_append, List.length_singleton, hHl] at e2
          subst e2
          have hv2 := hid (show ∀ b, (Value.slice o2 (S.length + 1) c2).ownBlock = some b → W'.heap.size ≤ b from fun b hb => by
            rcases p3 with e | ⟨b2, e, h2⟩
            · have h1 := n1 b (e.symm.trans hb)
              have h2 : W'.heap.size ≤ b := by first | exact h1 | (refine Nat.le_of_succ_le ?_; simpa using h1)
              exact h2
            · rw [hb] at e
              injection e with e
              subst e
              have h3 := Y1.out.size
              have h4 : y1.heap.size ≤ b := by first | exact h2 | (refine Nat.le_of_succ_le ?_; simpa using h2)
              omega)
          replace p1 := hid p1
          repeat (first | (refine wpG_at (v := ?_) (by rfl) ?_ ?_; rotate_left; (focus (first | (go_simp; with_reducible rfl) | (go_simp; done))); simp only [Act.put, List.setIfInBounds_toArray, List.set_cons_zero, List.set_cons_succ]) | (refine wpG_at_skip (by rfl) ?_; simp only [Act.put, List.setIfInBounds_toArray, List.set_cons_zero, List.set_cons_succ]) | (refine wpG_held_skip (by rfl) ?_; simp only [Act.put, List.setIfInBounds_toArray, List.set_cons_zero, List.set_cons_succ]) | (refine wpG_held (v := ?_) (by rfl) ?_ ?_; rotate_left; (focus (intro w' hSw; (try dsimp only at hSw); go_split_ands; first | (go_simp; with_reducible rfl) | (go_simp; done))); simp only [Act.put, List.setIfInBounds_toArray, List.set_cons_zero, List.set_cons_succ]))
          refine wpG_eff (by rfl) (fun K hK => ?_)
          refine Lib.wp_append_run _ _ _ 52 52 rfl (.slice none 0 0) (.slice or' S.length cr) rfl rfl _ _ r1 ?_
          clear s0 s1 s2 s3
          obtain ⟨s0, s1, s2, s3⟩ := HS2.out _ Y1.out
          refine hK _ _ ⟨s0, s1, s2, s3⟩ ?_
          clear hK K r1
          repeat (first | (refine wpG_at (v := ?_) (by rfl) ?_ ?_; rotate_left; (focus (first | (go_simp; with_reducible rfl) | (go_simp; done))); simp only [Act.put, List.setIfInBounds_toArray, List.set_cons_zero, List.set_cons_succ]) | (refine wpG_at_skip (by rfl) ?_; simp only [Act.put, List.setIfInBounds_toArray, List.set_cons_zero, List.set_cons_succ]) | (refine wpG_held_skip (by rfl) ?_; simp only [Act.put, List.setIfInBounds_toArray, List.set_cons_zero, List.set_cons_succ]) | (refine wpG_held (v := ?_) (by rfl) ?_ ?_; rotate_left; (focus (intro w' hSw; (try dsimp only at hSw); go_split_ands; first | (go_simp; with_reducible rfl) | (go_simp; done))); simp only [Act.put, List.setIfInBounds_toArray, List.set_cons_zero, List.set_cons_succ]))
          refine wpG_eff (by rfl) (fun K hK => ?_)
          go_simp
          clear s0 s1 s2 s3
          obtain ⟨s0, s1, s2, s3⟩ := HS2.out _ (Y1.out.alloc _)
          refine hK _ _ ⟨s0, s1, s2, s3⟩ ?_
          clear hK K
          repeat (first | (refine wpG_at (v := ?_) (by rfl) ?_ ?_; rotate_left; (focus (first | (go_simp; with_reducible rfl) | (go_simp; done))); simp only [Act.put, List.setIfInBounds_toArray, List.set_cons_zero, List.set_cons_succ]) | (refine wpG_at_skip (by rfl) ?_; simp only [Act.put, List.setIfInBounds_toArray, List.set_cons_zero, List.set_cons_succ]) | (refine wpG_held_skip (by rfl) ?_; simp only [Act.put, List.setIfInBounds_toArray, List.set_cons_zero, List.set_cons_succ]) | (refine wpG_held (v := ?_) (by rfl) ?_ ?_; rotate_left; (focus (intro w' hSw; (try dsimp only at hSw); go_split_ands; first | (go_simp; with_reducible rfl) | (go_simp; done))); simp only [Act.put, List.setIfInBounds_toArray, List.set_cons_zero, List.set_cons_succ]))
          refine wpG_eff (by rfl) (fun K hK => ?_)
          refine Lib.wp_append_run _ _ _ 52 52 rfl (.slice o1 S.length c1) (.slice (some ⟨y1.heap.size, 0, none⟩) 1 1) rfl rfl _ _ r2 ?_
          clear s0 s1 s2 s3
          obtain ⟨s0, s1, s2, s3⟩ := HS2.out _ Y2.out
          refine hK _ _ ⟨s0, s1, s2, s3⟩ ?_
          clear hK K r2
          have Lq2 := loc3 (Y2.out.get hUW.out.hq (fun h => h))
          repeat (first | (refine wpG_at (v := ?_) (by rfl) ?_ ?_; rotate_left; (focus (first | (go_simp; with_reducible rfl) | (go_simp; done))); simp only [Act.put, List.setIfInBounds_toArray, List.set_cons_zero, List.set_cons_succ]) | (refine wpG_at_skip (by rfl) ?_; simp only [Act.put, List.setIfInBounds_toArray, List.set_cons_zero, List.set_cons_succ]) | (refine wpG_held_skip (by rfl) ?_; simp only [Act.put, List.setIfInBounds_toArray, List.set_cons_zero, List.set_cons_succ]) | (refine wpG_held (v := ?_) (by rfl) ?_ ?_; rotate_left; (focus (intro w' hSw; (try dsimp only at hSw); go_split_ands; first | (go_simp; with_reducible rfl) | (go_simp; done))); simp only [Act.put, List.setIfInBounds_toArray, List.set_cons_zero, List.set_cons_succ]))
          refine wpG_fin (by rfl) (fun K hK => ?_)
          go_simp
          refine hK _ _ ?_
          clear hK K
          repeat (first | (refine wpG_at (v := ?_) (by rfl) ?_ ?_; rotate_left; (focus (first | (go_simp; with_reducible rfl) | (go_simp; done))); simp only [Act.put, List.setIfInBounds_toArray, List.set_cons_zero, List.set_cons_succ]) | (refine wpG_at_skip (by rfl) ?_; simp only [Act.put, List.setIfInBounds_toArray, List.set_cons_zero, List.set_cons_succ]) | (refine wpG_held_skip (by rfl) ?_; simp only [Act.put, List.setIfInBounds_toArray, List.set_cons_zero, List.set_cons_succ]) | (refine wpG_held (v := ?_) (by rfl) ?_ ?_; rotate_left; (focus (intro w' hSw; (try dsimp only at hSw); go_split_ands; first | (go_simp; with_reducible rfl) | (go_simp; done))); simp only [Act.put, List.setIfInBounds_toArray, List.set_cons_zero, List.set_cons_succ]))
          refine wpG_nil (NoPanic.normal ?_)
          go_wp2_with fail
          have KQ : Kp (fun b => b = q) W' (y2.setCell ⟨q, 2, none⟩ (.slice o2 (S.length + 1) c2)) := (Y2.out.mono (fun _ h => h.elim)).setCell (p := ⟨q, 2, none⟩) _ (fun _ => rfl)
          have hq2 := Y2.out.get hUW.out.hq (fun h => h)
          have hqb : (Value.slice o2 (S.length + 1) c2).ownBlock ≠ some q := fun e => by have h1 := hv2.out q e; have h2 := blk_lt hUW.out.hq; omega
          refine bodyPost_end (results_none rfl _ _ _) rfl ⟨rfl, .slice o2 (S.length + 1) c2, _, hUW.out.push hQ'.out (fun b hb => ?_) (blk_setCell hq2 2 _) (p1.out.setCell _ _ hqb) KQ, hfresh.out, fun b hb => ?_, (KW'.out.mono (fun _ h => h.elim)).trans KQ⟩
          · have h1 := hN.out b hb
            exact ⟨fun e => by have := H1.out.hd.lt b e; omega, fun e => by have := H1.out.ho.lt b e; omega⟩
          · have := hv2.out b hb
            have := KW'.out.size
            omega
        · obtain ⟨s0, s1, s2, s3⟩ := HS2.out _ ((Kp.refl NoB W').drew)
          have Y0 := hid (((Kp.refl NoB W').alloc (.cells #[.slice oa' x.a.length ca', .slice ob' x.b.length cb', .slice oc' x.c.length cc', .slice ov' D.length cv'] 81)).drew)
          obtain ⟨v1, y1, r1, q1, k1, n1⟩ := run_nil_sl (P := Try.prog) (ty := 52) eQ_len (by omega) sl52 i81 rfl ((hrW.out.kp Y0.out (fun _ _ h => h)).sl eQ_len (by omega)) hUW.out.oneH (by omega) (by omega)
          have Y1 := hid (Y0.out.trans k1)
          obtain ⟨o1, c1, e1, _⟩ := q1.form
          rw [hHl] at e1
          subst e1
          have S1 := hid ((show Sl (W'.alloc (.cells #[.slice oa' x.a.length ca', .slice ob' x.b.length cb', .slice oc' x.c.length cc', .slice ov' D.length cv'] 81)).drew 81 eQ (.slice (some ⟨W'.heap.size, 0, none⟩) 1 1) [(⟨.slice oa' x.a.length ca', .slice ob' x.b.length cb', .slice oc' x.c.length cc', .slice ov' D.length cv'⟩ : QV)] from Sl.one W' 81 (⟨.slice oa' x.a.length ca', .slice ob' x.b.length cb', .slice oc' x.c.length cc', .slice ov' D.length cv'⟩ : QV) (f := eQ)).kn k1)
          obtain ⟨v2, y2, r2, p1, p2, p3⟩ := run_grow_sl (P := Try.prog) (ty := 52) eQ_len (by omega) sl52 i81 rfl q1 S1.out oneQ (by rw [hHl]; simp; omega) (by omega)
          have Y2 := hid (show Kp NoB W' y2 from Y1.out.trans' (kp_grown p2 (F := fun b => (Value.slice o1 S.length c1).ownBlock = some b) (fun b hb => hb)) (fun b hb e => Nat.lt_irrefl b (Nat.lt_of_lt_of_le hb (Nat.le_trans Y0.out.size (n1 b e)))))
          obtain ⟨o2, c2, e2, _⟩ := p1.form
          rw [List.length_append, List.length_singleton, hHl] at e2
          subst e2
          have hv2 := hid (show ∀ b, (Value.slice o2 (S.length + 1) c2).ownBlock = some b → W'.heap.size ≤ b from fun b hb => by
            rcases p3 with e | ⟨b2, e, h2⟩
            · have h1 := n1 b (e.symm.trans hb)
              have h2 : W'.heap.size ≤ b := by first | exact h1 | (refine Nat.le_of_succ_le ?_; simpa using h1)
              exact h2
            · rw [hb] at e
              injection e with e
              subst e
              have h3 := Y1.out.size
              have h4 : y1.heap.size ≤ b := by first | exact h2 | (refine Nat.le_of_succ_le ?_; simpa using h2)
              omega)
          replace p1 := hid p1
          repeat (first | (refine wpG_at (v := ?_) (by rfl) ?_ ?_; rotate_left; (focus (first | (go_simp; with_reducible rfl) | (go_simp; done))); simp only [Act.put, List.setIfInBounds_toArray, List.set_cons_zero, List.set_cons_succ]) | (refine wpG_at_skip (by rfl) ?_; simp only [Act.put, List.setIfInBounds_toArray, List.set_cons_zero, List.set_cons_succ]) | (refine wpG_held_skip (by rfl) ?_; simp only [Act.put, List.setIfInBounds_toArray, List.set_cons_zero, List.set_cons_succ]) | (refine wpG_held (v := ?_) (by rfl) ?_ ?_; rotate_left; (focus (intro w' hSw; (try dsimp only at hSw); go_split_ands; first | (go_simp; with_reducible rfl) | (go_simp; done))); simp only [Act.put, List.setIfInBounds_toArray, List.set_cons_zero, List.set_cons_succ]))
          refine wpG_eff (by rfl) (fun K hK => ?_)
          go_simp
          clear s0 s1 s2 s3
          obtain ⟨s0, s1, s2, s3⟩ := HS2.out _ Y0.out
          refine hK _ _ ⟨s0, s1, s2, s3⟩ ?_
          clear hK K
          repeat (first | (refine wpG_at (v := ?_) (by rfl) ?_ ?_; rotate_left; (focus (first | (go_simp; with_reducible rfl) | (go_simp; done))); simp only [Act.put, List.setIfInBounds_toArray, List.set_cons_zero, List.set_cons_succ]) | (refine wpG_at_skip (by rfl) ?_; simp only [Act.put, List.setIfInBounds_toArray, List.set_cons_zero, List.set_cons_succ]) | (refine wpG_held_skip (by rfl) ?_; simp only [Act.put, List.setIfInBounds_toArray, List.set_cons_zero, List.set_cons_succ]) | (refine wpG_held (v := ?_) (by rfl) ?_ ?_; rotate_left; (focus (intro w' hSw; (try dsimp only at hSw); go_split_ands; first | (go_simp; with_reducible rfl) | (go_simp; done))); simp only [Act.put, List.setIfInBounds_toArray, List.set_cons_zero, List.set_cons_succ]))
          refine wpG_eff (by rfl) (fun K hK => ?_)
          refine Lib.wp_append_run _ _ _ 52 52 rfl (.slice none 0 0) (.slice or' S.length cr) rfl rfl _ _ r1 ?_
          clear s0 s1 s2 s3
          obtain ⟨s0, s1, s2, s3⟩ := HS2.out _ Y1.out
          refine hK _ _ ⟨s0, s1, s2, s3⟩ ?_
          clear hK K r1
          repeat (first | (refine wpG_at (v := ?_) (by rfl) ?_ ?_; rotate_left; (focus (first | (go_simp; with_reducible rfl) | (go_simp; done))); simp only [Act.put, List.setIfInBounds_toArray, List.set_cons_zero, List.set_cons_succ]) | (refine wpG_at_skip (by rfl) ?_; simp only [Act.put, List.setIfInBounds_toArray, List.set_cons_zero, List.set_cons_succ]) | (refine wpG_held_skip (by rfl) ?_; simp only [Act.put, List.setIfInBounds_toArray, List.set_cons_zero, List.set_cons_succ]) | (refine wpG_held (v := ?_) (by rfl) ?_ ?_; rotate_left; (focus (intro w' hSw; (try dsimp only at hSw); go_split_ands; first | (go_simp; with_reducible rfl) | (go_simp; done))); simp only [Act.put, List.setIfInBounds_toArray, List.set_cons_zero, List.set_cons_succ]))
          refine wpG_eff (by rfl) (fun K hK => ?_)
          refine Lib.wp_append_run _ _ _ 52 52 rfl (.slice o1 S.length c1) (.slice (some ⟨W'.heap.size, 0, none⟩) 1 1) rfl rfl _ _ r2 ?_
          clear s0 s1 s2 s3
          obtain ⟨s0, s1, s2, s3⟩ := HS2.out _ Y2.out
          refine hK _ _ ⟨s0, s1, s2, s3⟩ ?_
          clear hK K r2
          have Lq2 := loc3 (Y2.out.get hUW.out.hq (fun h => h))
          repeat (first | (refine wpG_at (v := ?_) (by rfl) ?_ ?_; rotate_left; (focus (first | (go_simp; with_reducible rfl) | (go_simp; done))); simp only [Act.put, List.setIfInBounds_toArray, List.set_cons_zero, List.set_cons_succ]) | (refine wpG_at_skip (by rfl) ?_; simp only [Act.put, List.setIfInBounds_toArray, List.set_cons_zero, List.set_cons_succ]) | (refine wpG_held_skip (by rfl) ?_; simp only [Act.put, List.setIfInBounds_toArray, List.set_cons_zero, List.set_cons_succ]) | (refine wpG_held (v := ?_) (by rfl) ?_ ?_; rotate_left; (focus (intro w' hSw; (try dsimp only at hSw); go_split_ands; first | (go_simp; with_reducible rfl) | (go_simp; done))); simp only [Act.put, List.setIfInBounds_toArray, List.set_cons_zero, List.set_cons_succ]))
          refine wpG_fin (by rfl) (fun K hK => ?_)
          go_simp
          refine hK _ _ ?_
          clear hK K
          repeat (first | (refine wpG_at (v := ?_) (by rfl) ?_ ?_; rotate_left; (focus (first | (go_simp; with_reducible rfl) | (go_simp; done))); simp only [Act.put, List.setIfInBounds_toArray, List.set_cons_zero, List.set_cons_succ]) | (refine wpG_at_skip (by rfl) ?_; simp only [Act.put, List.setIfInBounds_toArray, List.set_cons_zero, List.set_cons_succ]) | (refine wpG_held_skip (by rfl) ?_; simp only [Act.put, List.setIfInBounds_toArray, List.set_cons_zero, List.set_cons_succ]) | (refine wpG_held (v := ?_) (by rfl) ?_ ?_; rotate_left; (focus (intro w' hSw; (try dsimp only at hSw); go_split_ands; first | (go_simp; with_reducible rfl) | (go_simp; done))); simp only [Act.put, List.setIfInBounds_toArray, List.set_cons_zero, List.set_cons_succ]))
          refine wpG_nil (NoPanic.normal ?_)
          go_wp2_with fail
          have KQ : Kp (fun b => b = q) W' (y2.setCell ⟨q, 2, none⟩ (.slice o2 (S.length + 1) c2)) := (Y2.out.mono (fun _ h => h.elim)).setCell (p := ⟨q, 2, none⟩) _ (fun _ => rfl)
          have hq2 := Y2.out.get hUW.out.hq (fun h => h)
          have hqb : (Value.slice o2 (S.length + 1) c2).ownBlock ≠ some q := fun e => by have h1 := hv2.out q e; have h2 := blk_lt hUW.out.hq; omega
          refine bodyPost_end (results_none rfl _ _ _) rfl ⟨rfl, .slice o2 (S.length + 1) c2, _, hUW.out.push hQ'.out (fun b hb => ?_) (blk_setCell hq2 2 _) (p1.out.setCell _ _ hqb) KQ, hfresh.out, fun b hb => ?_, (KW'.out.mono (fun _ h => h.elim)).trans KQ⟩
          · have h1 := hN.out b hb
            exact ⟨fun e => by have := H1.out.hd.lt b e; omega, fun e => by have := H1.out.ho.lt b e; omega⟩
          · have := hv2.out b hb
            have := KW'.out.size
            omega
end
end Go.Proofs.Ytplbkjgkocnehaa
