/- Walks: a copy. -/
import Derived.Test.YtplbkjgkocnehaaU33
namespace Go.Proofs.Ytplbkjgkocnehaa
set_option linter.unusedSimpArgs false
set_option linter.unusedVariables false
open Go.RowKit Go.Shelf
attribute [local go_sem ↓] Go.wp_at_zero Go.wp_at_succ
theorem cl4 {W : World} {b : Nat} {t : TypeId} {a0 a1 a2 a3 : Value} (h : W.heap[b]? = some (.cells #[a0, a1, a2, a3] t (0, 0))) : W.cell? ⟨b, 0, none⟩ = some a0 ∧ W.cell? ⟨b, 1, none⟩ = some a1 ∧ W.cell? ⟨b, 2, none⟩ = some a2 ∧ W.cell? ⟨b, 3, none⟩ = some a3 := by
  refine ⟨?_, ?_, ?_, ?_⟩ <;> rw [cell_of h] <;> rfl
section
variable {w w' : World} {p m : Nat} {u v : Value} {D : List Nat} {H : List HV} {R : List (Ret × List Nat)} {K : Nat}
set_option maxRecDepth 100000 in
set_option maxHeartbeats 16000000 in
theorem copy_any (h : UAt w p u v D H R) (o : UOk D R K) : Calls Try.prog 27 #[.pointer (some ⟨p, 0, none⟩)] w fun e w' => ∃ p' u' v' H', e = .returned (.pointer (some ⟨p', 0, none⟩)) ∧ UAt w' p' u' v' D H' R ∧ (∀ b, ufp p' u' v' H' b → w.heap.size ≤ b) ∧ Kp NoB w w' := by
  have HT := hid (tasks_any h)
  have HC := hid (cloneI_any h.hu o.n1 o.n8)
  have n1 : ((D.length : Int) == 0) = false := by have := o.n1; simp; intro h; rw [h] at this; simp at this
  have Lp := loc2 h.hp
  have H0 := hid h
  have HO := hid o
  have hRK : R.length ≤ 1000 := Nat.le_trans o.r o.k
  obtain ⟨ov, cv, hvv, hcv, hvm⟩ := h.hv.form
  rw [h.hl] at hvv hcv
  subst hvv
  clear h o
  go_enter Try.func27, Try.ntmps27
  go_wp2_with fail
  refine HT.out.mono ?_
  rintro e w1 ⟨rfl, rfl⟩
  go_wp2_with fail
  refine HC.out.mono ?_
  rintro e w1 ⟨u', rfl, hu', hn', k1⟩
  have Lp1 := loc2 (k1.get H0.out.hp (fun h => h))
  obtain ⟨ou, cu, huv, _⟩ := hu'.form
  have U0 := hid (⟨blk_new w1 _, hu'.alloc _, Off.nil _ _ _ _, rfl, by simp, by simp⟩ : UAt (w1.alloc (.cells #[u', .slice none 0 0] 68)) w1.heap.size u' (.slice none 0 0) D [] [])
  have F0 := hid (show ∀ b, ufp w1.heap.size u' (.slice none 0 0) [] b → w.heap.size ≤ b from fun b hb => by
    rcases hb with rfl | hb | hb | ⟨h', hm, _⟩
    · exact k1.size
    · exact hn' b hb
    · cases hb
    · cases hm)
  have K0 := hid (k1.alloc (.cells #[u', .slice none 0 0] 68))
  obtain ⟨po, hpo⟩ : ∃ po, w1.heap.size = po := ⟨_, rfl⟩
  have LpA := loc2 (blk_alloc (o' := .cells #[u', .slice none 0 0] 68) (k1.get H0.out.hp (fun h => h)))
  rw [hpo] at U0 F0
  clear hu' hn' k1 Lp Lp1
  subst huv
  go_wp2_with fail
  try rw [hpo]
  generalize (w1.alloc (.cells #[.slice ou D.length cu, .slice none 0 0] 68)) = wA at *
  go_loopw [21] (fun i W => ∃ (k : Nat) (v' : Value) (H' : List HV), k ≤ R.length ∧ i = .int .i64 k ∧ UAt W po (.slice ou D.length cu) v' D H' (R.take k) ∧ (∀ b, ufp po (.slice ou D.length cu) v' H' b → w.heap.size ≤ b) ∧ Kp NoB w W) (fun i _ => R.length - (intOf i).toNat)
  case atStart => exact ⟨0, _, [], Nat.zero_le _, rfl, U0.out, F0.out, K0.out⟩
  case round =>
    obtain ⟨k, v', H', hk, rfl, hU, hF, hK⟩ := hrel
    have g1 : (0 : Int) ≤ (k : Int) := Int.natCast_nonneg _
    by_cases hlt : k < R.length
    · have g2 : (k : Int) < (R.length : Int) := by omega
      have hS := H0.out.kn hK
      obtain ⟨⟨y, ws⟩, hy⟩ : ∃ y, R[k]? = some y := ⟨_, List.getElem?_eq_getElem hlt⟩
      obtain ⟨h', hh'⟩ : ∃ h', H[k]? = some h' := ⟨_, List.getElem?_eq_getElem (by rw [H0.out.hl]; exact hlt)⟩
      have hok := hS.hh k h' y ws hh' hy
      obtain ⟨bb, oo, cc, hv, hcc, hcm, lb, Le0, Le1, Le2, Le3⟩ := held_cells hS.hv hh'
      rw [H0.out.hl] at hv hcc
      injection hv with hv1 hv2 hv3
      subst hv1; subst hv3
      obtain ⟨ha, hb, hc, hm⟩ := h'
      obtain ⟨oa, ca, e1, _⟩ := hok.a.form
      obtain ⟨ob, cb, e2, _⟩ := hok.b.form
      obtain ⟨oc, cc2, e3, _⟩ := hok.c.form
      dsimp only at e1 e2 e3 Le0 Le1 Le2 Le3
      subst e1; subst e2; subst e3
      obtain ⟨ov', cv', evv, _, _⟩ := hU.hv.form
      have hUl := hU.hl
      rw [hUl, List.length_take, Nat.min_eq_left hk] at evv
      subst evv
      obtain ⟨b6, hb6⟩ : ∃ b6, wr.heap.size = b6 := ⟨_, rfl⟩
      have hfew := hid (HO.out.x y ws (List.mem_of_getElem? hy))
      have htk : R.take (k + 1) = R.take k ++ [(y, ws)] := by rw [List.take_add_one, hy]; rfl
      have B6 := hid (show (wr.alloc (.cells #[.slice oa y.a.length ca, .slice ob y.b.length cb, .slice oc y.c.length cc2, .map (some hm)] 74)).heap[b6]? = some (.cells #[.slice oa y.a.length ca, .slice ob y.b.length cb, .slice oc y.c.length cc2, .map (some hm)] 74 (0, 0)) from blk_new' _ _ hb6.symm)
      have K6 := hid ((Kp.refl NoB wr).alloc (.cells #[.slice oa y.a.length ca, .slice ob y.b.length cb, .slice oc y.c.length cc2, .map (some hm)] 74))
      have hok6 := hid (hok.kp (K6.out.drew) (fun _ _ h => h))
      have U6 := hid (hU.kn K6.out)
      have KW6 := hid (hK.trans K6.out)
      have hsz6 := hid (show w.heap.size ≤ wr.heap.size from hK.size)
      have HOw := hid (own_any (show RowR _ _ _ _ y from ⟨hok6.out.a, hok6.out.b, hok6.out.c⟩).sl hfew.out)
      have hF' := hid hF
      have hnb6 := hid (show (Value.slice ov' k cv').ownBlock ≠ some b6 from fun e => by have := hU.hv.lt _ e; omega)
      replace hS := hid hS
      replace hU := hid hU
      replace hK := hid hK
      replace hok := hid hok
      replace hy := hid hy
      replace hh' := hid hh'
      clear hF
      go_wp2_with fail
      try rw [hb6]
      generalize hWx : (wr.alloc (.cells #[.slice oa y.a.length ca, .slice ob y.b.length cb, .slice oc y.c.length cc2, .map (some hm)] 74)) = w6 at *
      replace hWx := hid hWx
      have L6 := cl4 (blk_drew B6.out)
      have Lq6 := loc2 (U6.out.drew).hp
      refine wp_region_G (fun W => W.cell? ⟨po, 1, none⟩ = some (.slice ov' k cv') ∧ W.cell? ⟨b6, 3, none⟩ = some (.map (some hm))) [(0, .held), (1, .held), (2, .held), (3, .held), (4, .held), (5, .at_), (6, .at_), (8, .held), (9, .held), (7, .eff), (10, .eff), (11, .at_), (12, .eff), (13, .eff), (14, .at_), (15, .at_), (16, .fin)] ?L1 (by kernel_rfl) (by kernel_rfl) ?hL1 (⟨Lq6.2.1, L6.2.2.2⟩) ?hG1
      case hL1 => simp only [pickOps, List.map_cons, List.map_nil, List.getD_cons_zero, List.getD_cons_succ]; rfl
      repeat (first | (refine wpG_at (v := ?_) (by rfl) ?_ ?_; rotate_left; (focus (first | (go_simp; with_reducible rfl) | (go_simp; done))); simp only [Act.put, List.setIfInBounds_toArray, List.set_cons_zero, List.set_cons_succ]) | (refine wpG_at_skip (by rfl) ?_; simp only [Act.put, List.setIfInBounds_toArray, List.set_cons_zero, List.set_cons_succ]) | (refine wpG_held_skip (by rfl) ?_; simp only [Act.put, List.setIfInBounds_toArray, List.set_cons_zero, List.set_cons_succ]) | (refine wpG_held (v := ?_) (by rfl) ?_ ?_; rotate_left; (focus (intro w' hSw; (try dsimp only at hSw); go_split_ands; first | (go_simp; with_reducible rfl) | (go_simp; done))); simp only [Act.put, List.setIfInBounds_toArray, List.set_cons_zero, List.set_cons_succ]))
      refine wpG_eff (by rfl) (fun K hK => ?_)
      go_simp
      refine HOw.out.mono ?_
      rintro e w7 ⟨a', b', c', rfl, hR7, na, nb, nc, k7⟩
      have L7 := cl4 (k7.get (blk_drew B6.out) (fun h => h))
      have B7 := hid (k7.get (blk_drew B6.out) (fun h => h))
      have U7 := hid (U6.out.drew.kn k7)
      have M7 := hok6.out.m.kp k7 (fun h => h)
      have K7 := hid ((KW6.out.drew).trans k7)
      have Lq7 := loc2 U7.out.hp
      have HMc := hid (mapsclone_any M7)
      obtain ⟨o1, d1', rfl, _⟩ := hR7.a.form
      obtain ⟨o2, d2', rfl, _⟩ := hR7.b.form
      obtain ⟨o3, d3', rfl, _⟩ := hR7.c.form
      have hs7 := hid (show w6.heap.size ≤ w7.heap.size from k7.size)
      have hs6 := hid (show w.heap.size ≤ w6.heap.size from KW6.out.size)
      have hR7' := hid hR7
      have na' := hid na
      have nb' := hid nb
      have nc' := hid nc
      clear hR7 na nb nc k7 M7 L6 Lq6
      refine hK _ _ ⟨Lq7.2.1, L7.2.2.2⟩ ?_
      clear hK K
      repeat (first | (refine wpG_at (v := ?_) (by rfl) ?_ ?_; rotate_left; (focus (first | (go_simp; with_reducible rfl) | (go_simp; done))); simp only [Act.put, List.setIfInBounds_toArray, List.set_cons_zero, List.set_cons_succ]) | (refine wpG_at_skip (by rfl) ?_; simp only [Act.put, List.setIfInBounds_toArray, List.set_cons_zero, List.set_cons_succ]) | (refine wpG_held_skip (by rfl) ?_; simp only [Act.put, List.setIfInBounds_toArray, List.set_cons_zero, List.set_cons_succ]) | (refine wpG_held (v := ?_) (by rfl) ?_ ?_; rotate_left; (focus (intro w' hSw; (try dsimp only at hSw); go_split_ands; first | (go_simp; with_reducible rfl) | (go_simp; done))); simp only [Act.put, List.setIfInBounds_toArray, List.set_cons_zero, List.set_cons_succ]))
      refine wpG_eff (by rfl) (fun K hK => ?_)
      go_simp
      refine HMc.out.mono ?_
      rintro e w8 ⟨rfl, M8, k8⟩
      have L8 := cl4 (k8.get B7.out (fun h => h))
      have B8 := hid (k8.get B7.out (fun h => h))
      have U8 := U7.out.kn k8
      have Lq8 := loc2 U8.hp
      have K8 := hid (K7.out.trans k8)
      have R8 := hid (hR7'.out.kn k8)
      have hs8 := hid (show w7.heap.size ≤ w8.heap.size from k8.size)
      obtain ⟨m7, hm7⟩ : ∃ m7, w7.heap.size = m7 := ⟨_, rfl⟩
      rw [hm7] at M8
      have M8' := hid M8
      have U8' := hid U8
      refine hK _ _ ⟨Lq8.2.1, L8.2.2.2⟩ ?_
      clear hK K k8 M8 L7 Lq7 U8
      try rw [hm7]
      repeat (first | (refine wpG_at (v := ?_) (by rfl) ?_ ?_; rotate_left; (focus (first | (go_simp; with_reducible rfl) | (go_simp; done))); simp only [Act.put, List.setIfInBounds_toArray, List.set_cons_zero, List.set_cons_succ]) | (refine wpG_at_skip (by rfl) ?_; simp only [Act.put, List.setIfInBounds_toArray, List.set_cons_zero, List.set_cons_succ]) | (refine wpG_held_skip (by rfl) ?_; simp only [Act.put, List.setIfInBounds_toArray, List.set_cons_zero, List.set_cons_succ]) | (refine wpG_held (v := ?_) (by rfl) ?_ ?_; rotate_left; (focus (intro w' hSw; (try dsimp only at hSw); go_split_ands; first | (go_simp; with_reducible rfl) | (go_simp; done))); simp only [Act.put, List.setIfInBounds_toArray, List.set_cons_zero, List.set_cons_succ]))
      refine wpG_eff (by rfl) (fun K hK => ?_)
      go_simp
      have hU4 := U8'.out.alloc (.cells #[.slice o1 y.a.length d1', .slice o2 y.b.length d2', .slice o3 y.c.length d3', .map (some m7)] 74)
      have hUl4 := U8'.out.hl
      rw [List.length_take, Nat.min_eq_left hk] at hUl4
      obtain ⟨v5, w5, hr5, q1, q2, q3⟩ := run_grow_off (P := Try.prog) (ty := 66) eD_len (by omega) u66 i74 rfl hU4.hv (Sl.one w8 74 (⟨.slice o1 y.a.length d1', .slice o2 y.b.length d2', .slice o3 y.c.length d3', m7⟩ : HV) (f := eD)) oneD (by rw [hUl4]; simp; omega) (by omega)
      have L4 := cl4 (blk_alloc (o' := .cells #[.slice o1 y.a.length d1', .slice o2 y.b.length d2', .slice o3 y.c.length d3', .map (some m7)] 74) B8.out)
      have Lp4 := loc2 hU4.hp
      refine hK _ _ ⟨Lp4.2.1, L4.2.2.2⟩ ?_
      clear hK K
      have hvp : (Value.slice ov' k cv').ownBlock ≠ some po := hU4.hv.ne hU4.hp (by decide)
      have hp5 := grown_get q2 hU4.hp hvp
      have hvb : (Value.slice ov' k cv').ownBlock ≠ some b6 := hnb6.out
      have hb5 := grown_get q2 (blk_alloc (o' := .cells #[.slice o1 y.a.length d1', .slice o2 y.b.length d2', .slice o3 y.c.length d3', .map (some m7)] 74) B8.out) hvb
      have Lp5 := loc2 hp5
      have L5 := cl4 hb5
      obtain ⟨o5, c5, hv5, _⟩ := q1.form
      subst hv5
      rw [List.length_append, List.length_singleton, hUl4] at q1
      replace hU4 := hid hU4
      replace q1 := hid q1
      replace q2 := hid q2
      rw [List.length_append, List.length_singleton, hUl4] at q3 hr5
      have q3' := q3
      replace q3' := hid q3'
      replace hr5 := hid hr5
      clear q3 L4 L8
      repeat (first | (refine wpG_at (v := ?_) (by rfl) ?_ ?_; rotate_left; (focus (first | (go_simp; with_reducible rfl) | (go_simp; done))); simp only [Act.put, List.setIfInBounds_toArray, List.set_cons_zero, List.set_cons_succ]) | (refine wpG_at_skip (by rfl) ?_; simp only [Act.put, List.setIfInBounds_toArray, List.set_cons_zero, List.set_cons_succ]) | (refine wpG_held_skip (by rfl) ?_; simp only [Act.put, List.setIfInBounds_toArray, List.set_cons_zero, List.set_cons_succ]) | (refine wpG_held (v := ?_) (by rfl) ?_ ?_; rotate_left; (focus (intro w' hSw; (try dsimp only at hSw); go_split_ands; first | (go_simp; with_reducible rfl) | (go_simp; done))); simp only [Act.put, List.setIfInBounds_toArray, List.set_cons_zero, List.set_cons_succ]))
      refine wpG_eff (by rfl) (fun K hK => ?_)
      refine Lib.wp_append_run _ _ _ 66 66 rfl (.slice ov' k cv') (.slice (some ⟨w8.heap.size, 0, none⟩) 1 1) rfl rfl _ _ hr5.out ?_
      refine hK _ _ ⟨Lp5.2.1, L5.2.2.2⟩ ?_
      clear hK K
      repeat (first | (refine wpG_at (v := ?_) (by rfl) ?_ ?_; rotate_left; (focus (first | (go_simp; with_reducible rfl) | (go_simp; done))); simp only [Act.put, List.setIfInBounds_toArray, List.set_cons_zero, List.set_cons_succ]) | (refine wpG_at_skip (by rfl) ?_; simp only [Act.put, List.setIfInBounds_toArray, List.set_cons_zero, List.set_cons_succ]) | (refine wpG_held_skip (by rfl) ?_; simp only [Act.put, List.setIfInBounds_toArray, List.set_cons_zero, List.set_cons_succ]) | (refine wpG_held (v := ?_) (by rfl) ?_ ?_; rotate_left; (focus (intro w' hSw; (try dsimp only at hSw); go_split_ands; first | (go_simp; with_reducible rfl) | (go_simp; done))); simp only [Act.put, List.setIfInBounds_toArray, List.set_cons_zero, List.set_cons_succ]))
      refine wpG_fin (by rfl) (fun K hK => ?_)
      go_simp
      refine hK _ _ ?_
      clear hK K
      repeat (first | (refine wpG_at (v := ?_) (by rfl) ?_ ?_; rotate_left; (focus (first | (go_simp; with_reducible rfl) | (go_simp; done))); simp only [Act.put, List.setIfInBounds_toArray, List.set_cons_zero, List.set_cons_succ]) | (refine wpG_at_skip (by rfl) ?_; simp only [Act.put, List.setIfInBounds_toArray, List.set_cons_zero, List.set_cons_succ]) | (refine wpG_held_skip (by rfl) ?_; simp only [Act.put, List.setIfInBounds_toArray, List.set_cons_zero, List.set_cons_succ]) | (refine wpG_held (v := ?_) (by rfl) ?_ ?_; rotate_left; (focus (intro w' hSw; (try dsimp only at hSw); go_split_ands; first | (go_simp; with_reducible rfl) | (go_simp; done))); simp only [Act.put, List.setIfInBounds_toArray, List.set_cons_zero, List.set_cons_succ]))
      refine wpG_nil (NoPanic.normal ?_)
      go_wp2_with fail
      have hs' := hid (show w.heap.size ≤ w8.heap.size from Nat.le_trans hs6.out (Nat.le_trans hs7.out hs8.out))
      have KA : Kp (fun b => b = po ∨ (Value.slice ov' k cv').ownBlock = some b) (w8.alloc (.cells #[.slice o1 y.a.length d1', .slice o2 y.b.length d2', .slice o3 y.c.length d3', .map (some m7)] 74)) (w5.setCell ⟨po, 1, none⟩ (.slice o5 (k + 1) c5)) :=
        (kp_grown q2.out (fun b hb => .inr hb)).setCell (p := ⟨po, 1, none⟩) _ (fun _ => .inl rfl)
      have hv'p : (Value.slice o5 (k + 1) c5).ownBlock ≠ some po := by
        rcases q3'.out with e | ⟨b', e, hb'⟩
        · exact fun h => hvp (e ▸ h)
        · intro h
          rw [h] at e; injection e with e; subst e
          have h6 : w8.heap.size + 1 ≤ po := by simpa using hb'
          have := U8'.out.lt po (.inl rfl)
          omega
      have hfr : ∀ b, (HV.mk (.slice o1 y.a.length d1') (.slice o2 y.b.length d2') (.slice o3 y.c.length d3') m7).fp b → w6.heap.size ≤ b := by
        rintro b (hb | hb | hb | rfl)
        · exact na'.out b hb
        · exact nb'.out b hb
        · exact nc'.out b hb
        · exact hm7 ▸ hs7.out
      have UF : UAt (w5.setCell ⟨po, 1, none⟩ (.slice o5 (k + 1) c5)) po (.slice ou D.length cu) (.slice o5 (k + 1) c5) D (H' ++ [⟨.slice o1 y.a.length d1', .slice o2 y.b.length d2', .slice o3 y.c.length d3', m7⟩]) (R.take (k + 1)) := by
        rw [htk]
        refine hU4.out.push ⟨R8.out.a.alloc _, R8.out.b.alloc _, R8.out.c.alloc _, M8'.out.alloc _⟩ ?_ (blk_setCell hp5 1 _) (q1.out.setCell _ _ hv'p) KA
        intro hm
        obtain ⟨h2, hm2, e⟩ := List.mem_map.1 hm
        have e' : h2.m = m7 := e
        have := U7.out.lt h2.m (.inr (.inr (.inr ⟨h2, hm2, .inr (.inr (.inr rfl))⟩)))
        omega
      have FF : ∀ b, ufp po (.slice ou D.length cu) (.slice o5 (k + 1) c5) (H' ++ [⟨.slice o1 y.a.length d1', .slice o2 y.b.length d2', .slice o3 y.c.length d3', m7⟩]) b → w.heap.size ≤ b := by
        rintro b (rfl | hb | hb | ⟨h2, hm2, hb⟩)
        · exact hF'.out b (.inl rfl)
        · exact hF'.out b (.inr (.inl hb))
        · rcases q3'.out with e | ⟨b', e, hb'⟩
          · exact hF'.out b (.inr (.inr (.inl (e ▸ hb))))
          · rw [hb] at e; injection e with e; subst e
            have h6 : w8.heap.size + 1 ≤ b := by simpa using hb'
            have := hs'.out
            omega
        · rcases List.mem_append.1 hm2 with h3 | h3
          · exact hF'.out b (.inr (.inr (.inr ⟨h2, h3, hb⟩)))
          · simp at h3; subst h3
            exact Nat.le_trans hs6.out (hfr b hb)
      have KF : Kp NoB w (w5.setCell ⟨po, 1, none⟩ (.slice o5 (k + 1) c5)) := (K8.out.alloc (.cells #[.slice o1 y.a.length d1', .slice o2 y.b.length d2', .slice o3 y.c.length d3', .map (some m7)] 74)).trans' KA (fun b hb e => by
        rcases e with e | e
        · have := hF'.out po (.inl rfl); omega
        · have := hF'.out b (.inr (.inr (.inl e))); omega)
      replace UF := hid UF
      replace FF := hid FF
      replace KF := hid KF
      clear KA hv'p hfr hp5 hvp
      go_roundw
      case rel => first | exact ⟨k + 1, .slice o5 (k + 1) c5, H' ++ [⟨.slice o1 y.a.length d1', .slice o2 y.b.length d2', .slice o3 y.c.length d3', m7⟩], by omega, by go_num, UF.out, FF.out, KF.out⟩ | exact ⟨k + 1, by omega, by go_num, .slice o5 (k + 1) c5, H' ++ [⟨.slice o1 y.a.length d1', .slice o2 y.b.length d2', .slice o3 y.c.length d3', m7⟩], UF.out, FF.out, KF.out⟩
      case measure => simp [intOf]; omega
    · obtain rfl : k = R.length := by omega
      rw [List.take_length] at hU
      have hU' := hid hU
      have hF' := hid hF
      have hK' := hid hK
      clear hU hF hK
      go_wp2_with fail
      go_ret
      exact ⟨_, _, _, _, rfl, hU'.out, hF'.out, hK'.out⟩
end
end Go.Proofs.Ytplbkjgkocnehaa
