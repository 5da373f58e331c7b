/- Walks: the row told; acts are few, tasks may be. -/
import Derived.Test.YtplbkjgkocnehaaU20
namespace Go.Proofs.Ytplbkjgkocnehaa
set_option linter.unusedSimpArgs false
set_option linter.unusedVariables false
open Go.RowKit
attribute [local go_sem ↓] Go.wp_at_zero Go.wp_at_succ
set_option maxRecDepth 100000 in
set_option maxHeartbeats 2000000 in
theorem own_sep {w : World} {a b c : Value} {x : Ret} (h : SlR w a b c x) (hx : x.few) :
    Calls Try.prog 38 #[.agg #[a, b, c]] w fun e w' => ∃ a' b' c', e = .returned (.agg #[a', b', c']) ∧ RowR w' a' b' c' x ∧ New w a' ∧ New w b' ∧ New w c' ∧ Kp NoB w w' ∧ (∀ s, a'.ownBlock = some s → c'.ownBlock ≠ some s) := by
  have HO := hid (fun (W : World) (v : Value) (l : List (Int × Int)) (k : Kp NoB w W) (hs : Sg w eH v l) (hl : l.length ≤ 100000) => own1_any (hs.kn k) hl)
  have cf := cf53
  obtain ⟨oa, ca, rfl, _⟩ := h.a.form
  obtain ⟨ob, cb, rfl, _⟩ := h.b.form
  obtain ⟨oc, cc, rfl, _⟩ := h.c.form
  obtain ⟨x1, x2, x3⟩ := hx
  have hh := hid h
  clear h
  have L1 := hid (show ((w.alloc (.cells #[.slice oa x.a.length ca, .slice ob x.b.length cb, .slice oc x.c.length cc] 35)).alloc (.cells #[.slice none 0 0, .slice none 0 0, .slice none 0 0] 35)).heap[w.heap.size]? = some (.cells #[.slice oa x.a.length ca, .slice ob x.b.length cb, .slice oc x.c.length cc] 35 (0, 0)) from blk_alloc (blk_new w _))
  have L2 := hid (show ((w.alloc (.cells #[.slice oa x.a.length ca, .slice ob x.b.length cb, .slice oc x.c.length cc] 35)).alloc (.cells #[.slice none 0 0, .slice none 0 0, .slice none 0 0] 35)).heap[w.heap.size + 1]? = some (.cells #[.slice none 0 0, .slice none 0 0, .slice none 0 0] 35 (0, 0)) from blk_new' _ _ (by simp))
  have K0 := hid (((Kp.refl NoB w).alloc (.cells #[.slice oa x.a.length ca, .slice ob x.b.length cb, .slice oc x.c.length cc] 35)).alloc (.cells #[.slice none 0 0, .slice none 0 0, .slice none 0 0] 35))
  go_enter Try.func38, Try.ntmps38
  go_wp2_with fail
  generalize ((w.alloc (.cells #[.slice oa x.a.length ca, .slice ob x.b.length cb, .slice oc x.c.length cc] 35)).alloc (.cells #[.slice none 0 0, .slice none 0 0, .slice none 0 0] 35)) = W0 at *
  have M1 := loc3 L1.out
  refine wp_region_G (fun W => W.cell? ⟨w.heap.size, 1, none⟩ = some (.slice ob x.b.length cb) ∧ W.cell? ⟨w.heap.size, 2, none⟩ = some (.slice oc x.c.length cc)) [(0, .at_), (1, .at_), (2, .at_), (4, .held), (5, .held), (6, .held), (8, .held), (9, .held), (10, .held), (3, .eff), (7, .eff), (11, .eff), (12, .at_), (13, .eff)] ?L1 (by kernel_rfl) (by kernel_rfl) ?hL1 (⟨M1.2.1, M1.2.2.1⟩) ?hG1
  case hL1 => simp only [pickOps, List.map_cons, List.map_nil, List.getD_cons_zero, List.getD_cons_succ]; rfl
  repeat (first | (refine wpG_at (v := ?_) (by rfl) ?_ ?_; rotate_left; (focus (first | (go_simp; with_reducible rfl) | (go_simp; done))); simp only [Act.put, List.setIfInBounds_toArray, List.set_cons_zero, List.set_cons_succ]) | (refine wpG_at_skip (by rfl) ?_; simp only [Act.put, List.setIfInBounds_toArray, List.set_cons_zero, List.set_cons_succ]) | (refine wpG_held_skip (by rfl) ?_; simp only [Act.put, List.setIfInBounds_toArray, List.set_cons_zero, List.set_cons_succ]) | (refine wpG_held (v := ?_) (by rfl) ?_ ?_; rotate_left; (focus (intro w' hSw; (try dsimp only at hSw); go_split_ands; first | (go_simp; with_reducible rfl) | (go_simp; done))); simp only [Act.put, List.setIfInBounds_toArray, List.set_cons_zero, List.set_cons_succ]))
  refine wpG_eff (by rfl) (fun K hK => ?_)
  go_simp
  refine (HO.out _ _ _ (K0.out.drew) hh.out.a (by omega)).mono ?_
  rintro e w1 ⟨va, rfl, ra, na, ka⟩
  have K1 := hid (K0.out.drew.trans ka)
  have L11 := hid (ka.get (show W0.drew.heap[w.heap.size]? = _ from L1.out) (fun h => h))
  have L21 := hid (ka.get (show W0.drew.heap[w.heap.size + 1]? = _ from L2.out) (fun h => h))
  have na' := hid (na.mono (by simpa using K0.out.size))
  obtain ⟨o1, c1, hv, _⟩ := ra.form
  subst hv
  replace ra := hid ra
  have M2 := loc3 L11.out
  refine hK _ _ ⟨M2.2.1, M2.2.2.1⟩ ?_
  clear hK K M1 ka na
  repeat (first | (refine wpG_at (v := ?_) (by rfl) ?_ ?_; rotate_left; (focus (first | (go_simp; with_reducible rfl) | (go_simp; done))); simp only [Act.put, List.setIfInBounds_toArray, List.set_cons_zero, List.set_cons_succ]) | (refine wpG_at_skip (by rfl) ?_; simp only [Act.put, List.setIfInBounds_toArray, List.set_cons_zero, List.set_cons_succ]) | (refine wpG_held_skip (by rfl) ?_; simp only [Act.put, List.setIfInBounds_toArray, List.set_cons_zero, List.set_cons_succ]) | (refine wpG_held (v := ?_) (by rfl) ?_ ?_; rotate_left; (focus (intro w' hSw; (try dsimp only at hSw); go_split_ands; first | (go_simp; with_reducible rfl) | (go_simp; done))); simp only [Act.put, List.setIfInBounds_toArray, List.set_cons_zero, List.set_cons_succ]))
  refine wpG_eff (by rfl) (fun K hK => ?_)
  go_simp
  refine (HO.out _ _ _ K1.out hh.out.b (by omega)).mono ?_
  rintro e w2 ⟨vb, rfl, rb, nb, kb⟩
  have K2 := hid (K1.out.trans kb)
  have L12 := hid (kb.get L11.out (fun h => h))
  have L22 := hid (kb.get L21.out (fun h => h))
  have nb' := hid (nb.mono K1.out.size)
  have ra2 := hid (ra.out.kp kb (fun _ _ h => h))
  obtain ⟨o2, c2, hv, _⟩ := rb.form
  subst hv
  replace rb := hid rb
  have M3 := loc3 L12.out
  refine hK _ _ ⟨M3.2.1, M3.2.2.1⟩ ?_
  clear hK K M2 kb nb
  repeat (first | (refine wpG_at (v := ?_) (by rfl) ?_ ?_; rotate_left; (focus (first | (go_simp; with_reducible rfl) | (go_simp; done))); simp only [Act.put, List.setIfInBounds_toArray, List.set_cons_zero, List.set_cons_succ]) | (refine wpG_at_skip (by rfl) ?_; simp only [Act.put, List.setIfInBounds_toArray, List.set_cons_zero, List.set_cons_succ]) | (refine wpG_held_skip (by rfl) ?_; simp only [Act.put, List.setIfInBounds_toArray, List.set_cons_zero, List.set_cons_succ]) | (refine wpG_held (v := ?_) (by rfl) ?_ ?_; rotate_left; (focus (intro w' hSw; (try dsimp only at hSw); go_split_ands; first | (go_simp; with_reducible rfl) | (go_simp; done))); simp only [Act.put, List.setIfInBounds_toArray, List.set_cons_zero, List.set_cons_succ]))
  refine wpG_eff (by rfl) (fun K hK => ?_)
  go_simp
  refine (HO.out _ _ _ K2.out hh.out.c (by omega)).mono ?_
  rintro e w3 ⟨vc, rfl, rc, nc, kc⟩
  have K3 := hid (K2.out.trans kc)
  have L23 := hid (kc.get L22.out (fun h => h))
  have nc' := hid (nc.mono K2.out.size)
  have hsep := hid (show ∀ s, (Value.slice o1 x.a.length c1).ownBlock = some s → vc.ownBlock ≠ some s from fun s hs e => by have h1 := ra2.out.lt s hs; have h2 := nc s e; omega)
  have ra3 := hid (ra2.out.kp kc (fun _ _ h => h))
  have rb3 := hid (rb.out.kp kc (fun _ _ h => h))
  obtain ⟨o3, c3, hv, _⟩ := rc.form
  subst hv
  replace rc := hid rc
  have M4 := loc3 L23.out
  have M5 := loc3 (kc.get L12.out (fun h => h))
  refine hK _ _ ⟨M5.2.1, M5.2.2.1⟩ ?_
  clear hK K M3 kc nc
  repeat (first | (refine wpG_at (v := ?_) (by rfl) ?_ ?_; rotate_left; (focus (first | (go_simp; with_reducible rfl) | (go_simp; done))); simp only [Act.put, List.setIfInBounds_toArray, List.set_cons_zero, List.set_cons_succ]) | (refine wpG_at_skip (by rfl) ?_; simp only [Act.put, List.setIfInBounds_toArray, List.set_cons_zero, List.set_cons_succ]) | (refine wpG_held_skip (by rfl) ?_; simp only [Act.put, List.setIfInBounds_toArray, List.set_cons_zero, List.set_cons_succ]) | (refine wpG_held (v := ?_) (by rfl) ?_ ?_; rotate_left; (focus (intro w' hSw; (try dsimp only at hSw); go_split_ands; first | (go_simp; with_reducible rfl) | (go_simp; done))); simp only [Act.put, List.setIfInBounds_toArray, List.set_cons_zero, List.set_cons_succ]))
  refine wpG_eff (by rfl) (fun K hK => ?_)
  go_simp
  refine hK _ _ (by refine ⟨?_, ?_⟩ <;> go_simp) ?_
  clear hK K
  repeat (first | (refine wpG_at (v := ?_) (by rfl) ?_ ?_; rotate_left; (focus (first | (go_simp; with_reducible rfl) | (go_simp; done))); simp only [Act.put, List.setIfInBounds_toArray, List.set_cons_zero, List.set_cons_succ]) | (refine wpG_at_skip (by rfl) ?_; simp only [Act.put, List.setIfInBounds_toArray, List.set_cons_zero, List.set_cons_succ]) | (refine wpG_held_skip (by rfl) ?_; simp only [Act.put, List.setIfInBounds_toArray, List.set_cons_zero, List.set_cons_succ]) | (refine wpG_held (v := ?_) (by rfl) ?_ ?_; rotate_left; (focus (intro w' hSw; (try dsimp only at hSw); go_split_ands; first | (go_simp; with_reducible rfl) | (go_simp; done))); simp only [Act.put, List.setIfInBounds_toArray, List.set_cons_zero, List.set_cons_succ]))
  refine wpG_nil (NoPanic.normal ?_)
  go_wp2_with fail
  have hw : w.heap.size + 1 < w3.heap.size := blk_lt L23.out
  have hlt : ∀ {v : Value} {l : List (Int × Int)}, RowAt w3 59 eH 2 v l → v.ownBlock ≠ some (w.heap.size + 1) := fun h => h.ne L23.out (by decide)
  refine bodyPost_ret (v := .agg #[.slice o1 x.a.length c1, .slice o2 x.b.length c2, .slice o3 x.c.length c3]) (by simp [results, Try.results38, go_sem, M4]) rfl ⟨_, _, _, rfl, ?_, na'.out, nb'.out, nc'.out, ?_, hsep.out⟩
  · exact ⟨((ra3.out.setCell _ _ (hlt ra3.out)).setCell _ _ (hlt ra3.out)).setCell _ _ (hlt ra3.out), ((rb3.out.setCell _ _ (hlt rb3.out)).setCell _ _ (hlt rb3.out)).setCell _ _ (hlt rb3.out), ((rc.out.setCell _ _ (hlt rc.out)).setCell _ _ (hlt rc.out)).setCell _ _ (hlt rc.out)⟩
  · exact ((K3.out.setCell (p := ⟨w.heap.size + 1, 0, none⟩) _ (fun h => absurd h (by simp))).setCell (p := ⟨w.heap.size + 1, 1, none⟩) _ (fun h => absurd h (by simp))).setCell (p := ⟨w.heap.size + 1, 2, none⟩) _ (fun h => absurd h (by simp))
/-- one that is told -/
structure XV where
  a : Value
  b : Value
  c : Value
def eX (h : XV) : List Value := [h.a, h.b, h.c]
theorem eX_len (h : XV) : (eX h).length = 3 := rfl
theorem u55 : Try.prog.underlying 55 = some (.slice 35) := by kernel_rfl
theorem i35 : (Try.prog.info? 35).map (fun i => (i.zero, i.size, i.bytes)) = some (some (.agg #[.slice none 0 0, .slice none 0 0, .slice none 0 0]), 3, 72) := by kernel_rfl
theorem oneX {a b c : Option Addr} {l1 l2 l3 c1 c2 c3 : Nat} : ∀ u ∈ [(⟨.slice a l1 c1, .slice b l2 c2, .slice c l3 c3⟩ : XV)].flatMap eX, u.oneCell' = true := by
  intro u hu
  simp [eX] at hu
  rcases hu with rfl | rfl | rfl <;> rfl
def XV.fp (h : XV) (b : Nat) : Prop := h.a.ownBlock = some b ∨ h.b.ownBlock = some b ∨ h.c.ownBlock = some b
/-- what All tells: new memory, of each -/
structure Told (w0 w : World) (v : Value) (L : List XV) (X : List Ret) : Prop where
  r : RowAt w 35 eX 3 v L
  l : L.length = X.length
  x : ∀ (k : Nat) (h : XV) (x : Ret), L[k]? = some h → X[k]? = some x → RowR w h.a h.b h.c x
  n : ∀ h ∈ L, ∀ b, h.fp b → w0.heap.size ≤ b
  s : ∀ h ∈ L, ∀ b, h.a.ownBlock = some b → h.c.ownBlock ≠ some b
  v : New w0 v
theorem Told.nil (w0 w : World) : Told w0 w (.slice none 0 0) [] [] := ⟨RowAt.nil _ _ _ _, rfl, (fun k h x h1 => by simp at h1), (fun _ h => by cases h), (fun _ h => by cases h), New.nil _⟩
theorem Told.kp {F : Nat → Prop} {w0 w w' : World} {v : Value} {L : List XV} {X : List Ret} (h : Told w0 w v L X) (k : Kp F w w') (hv : ∀ b, v.ownBlock = some b → ¬ F b) (hL : ∀ h' ∈ L, ∀ b, h'.fp b → ¬ F b) : Told w0 w' v L X :=
  ⟨h.r.kp k hv, h.l, fun i h' x h1 h2 => (h.x i h' x h1 h2).kp k (fun b hb => hL h' (List.mem_of_getElem? h1) b (.inl hb)) (fun b hb => hL h' (List.mem_of_getElem? h1) b (.inr (.inl hb))) (fun b hb => hL h' (List.mem_of_getElem? h1) b (.inr (.inr hb))), h.n, h.s, h.v⟩
theorem Told.kn {w0 w w' : World} {v : Value} {L : List XV} {X : List Ret} (h : Told w0 w v L X) (k : Kp NoB w w') : Told w0 w' v L X := h.kp k (fun _ _ h => h) (fun _ _ _ _ h => h)
section
variable {w w' : World} {p q : Nat} {u v dv ov rv : Value} {H : List HV} {G : List QV} {D Z : List Nat} {R : List (Ret × List Nat)} {S : List (Ret × List Int)} {K : Nat}
set_option maxRecDepth 100000 in
set_option maxHeartbeats 8000000 in
theorem all_any (h : UAt w p u v D H R) (o : UOk D R K) : Calls Try.prog 26 #[.pointer (some ⟨p, 0, none⟩)] w fun e w' => ∃ x L, e = .returned x ∧ Told w w' x L (R.map (·.1)) ∧ Kp NoB w w' := by
  have HL := hid (len_any h)
  have H0 := hid h
  have HO := hid o
  have hr := o.r
  have hk := o.k
  clear h o
  go_enter Try.func26, Try.ntmps26
  go_wp2_with fail
  refine HL.out.mono ?_
  rintro e w1 ⟨rfl, rfl⟩
  go_wp2_with fail
  go_loopw [2, 3, 6] (fun x _ i W => ∃ (j : Nat) (L : List XV), j ≤ R.length ∧ i = .int .i64 j ∧ Told w W x L ((R.take j).map (·.1)) ∧ Kp NoB w W) (fun _ _ i _ => R.length - (intOf i).toNat)
  case atStart => exact ⟨0, [], Nat.zero_le _, rfl, Told.nil _ _, Kp.refl _ _⟩
  case round =>
    obtain ⟨j, L, hj, rfl, hT, hK⟩ := hrel
    have d1 : (0 : Int) ≤ (j : Int) := Int.natCast_nonneg _
    obtain ⟨ox, cx, hxv, _⟩ := hT.r.form
    have hLj : L.length = j := by rw [hT.l]; simp; omega
    rw [hLj] at hxv
    subst hxv
    by_cases hlt : j < R.length
    · have d2 : (j : Int) < (R.length : Int) := by omega
      obtain ⟨⟨y, ws⟩, hy⟩ : ∃ y, R[j]? = some y := ⟨_, List.getElem?_eq_getElem hlt⟩
      have hU := hid (H0.out.kn hK)
      obtain ⟨h', hh'⟩ : ∃ h', H[j]? = some h' := ⟨_, List.getElem?_eq_getElem (by rw [hU.out.hl]; exact hlt)⟩
      have hok := hU.out.hh j h' y ws hh' hy
      obtain ⟨bb, oo, cc, hv, hcc, hcm, lb, Le0, Le1, Le2, Le3⟩ := held_cells hU.out.hv hh'
      rw [hU.out.hl] at hv hcc
      obtain ⟨ha, hb, hc, hm⟩ := h'
      obtain ⟨oa, ca, e1, _⟩ := hok.a.form
      obtain ⟨ob, cb, e2, _⟩ := hok.b.form
      obtain ⟨oc, cc2, e3, _⟩ := hok.c.form
      dsimp only at e1 e2 e3 Le0 Le1 Le2 Le3
      subst e1; subst e2; subst e3
      have Lp := loc2 hU.out.hp
      rw [hv] at Lp
      have HOw := hid (own_sep (show RowR wr _ _ _ y from ⟨hok.a, hok.b, hok.c⟩).sl (HO.out.x y ws (List.mem_of_getElem? hy)))
      have htk : ((R.take (j + 1)).map (·.1)) = ((R.take j).map (·.1)) ++ [y] := by rw [List.take_add_one, hy, List.map_append]; rfl
      replace hv := hid hv
      replace hT := hid hT
      replace hK := hid hK
      replace hy := hid hy
      replace hh' := hid hh'
      replace hok := hid hok
      replace htk := hid htk
      replace hLj := hid hLj
      go_wp2_with fail
      refine HOw.out.mono ?_
      rintro e w3 ⟨a', b', c', rfl, hR3, na, nb, nc, k3, hsep⟩
      obtain ⟨o1, c1, e1, _⟩ := hR3.a.form
      obtain ⟨o2, c2, e2, _⟩ := hR3.b.form
      obtain ⟨o3, c3, e3, _⟩ := hR3.c.form
      subst e1; subst e2; subst e3
      have T3 := hid (hT.out.kn k3)
      have KA := hid ((Kp.refl NoB w3).alloc (.cells #[.slice o1 y.a.length c1, .slice o2 y.b.length c2, .slice o3 y.c.length c3] 35))
      have T4 := T3.out.kn KA.out
      have hrow := T4.r
      obtain ⟨v5, w5, r5, q1, q2, q3⟩ := run_grow_sl (P := Try.prog) (ty := 55) eX_len (by omega) u55 i35 rfl hrow (Sl.one w3 35 (⟨.slice o1 y.a.length c1, .slice o2 y.b.length c2, .slice o3 y.c.length c3⟩ : XV) (f := eX)) oneX (by rw [hLj.out]; simp; omega) (by omega)
      obtain ⟨o5, c5, e5, _⟩ := q1.form
      rw [List.length_append, List.length_singleton, hLj.out] at e5
      subst e5
      have KG : Kp (fun b => (Value.slice ox j cx).ownBlock = some b) (w3.alloc (.cells #[.slice o1 y.a.length c1, .slice o2 y.b.length c2, .slice o3 y.c.length c3] 35)) w5 := kp_grown q2 (fun b hb => hb)
      have hsz := hK.out.size
      have hsz3 := k3.size
      have nrow : ∀ {z : Value} {l : List (Int × Int)}, RowAt (w3.alloc (.cells #[.slice o1 y.a.length c1, .slice o2 y.b.length c2, .slice o3 y.c.length c3] 35)) 59 eH 2 z l → ∀ b, z.ownBlock = some b → ¬ (Value.slice ox j cx).ownBlock = some b := by
        intro z l hz b hb hF
        obtain ⟨A, hA⟩ := hrow.own_cells hF
        exact hz.ne hA (by decide) hb
      have R4 := hR3.kn KA.out
      have T5 := hid (show Told w w5 (.slice o5 (j + 1) c5) (L ++ [(⟨.slice o1 y.a.length c1, .slice o2 y.b.length c2, .slice o3 y.c.length c3⟩ : XV)]) ((R.take (j + 1)).map (·.1)) from by
        rw [htk.out]
        refine ⟨q1, by rw [List.length_append, List.length_append, T4.l]; rfl, ?_, ?_, ?_, ?_⟩
        · intro i h2 x2 hi hx
          by_cases hil : i < L.length
          · rw [List.getElem?_append_left hil] at hi
            rw [List.getElem?_append_left (by rw [← T4.l]; exact hil)] at hx
            have := T4.x i h2 x2 hi hx
            exact this.kp KG (nrow this.a) (nrow this.b) (nrow this.c)
          · rw [List.getElem?_append_right (by omega)] at hi
            rw [List.getElem?_append_right (by rw [← T4.l]; omega)] at hx
            have hi0 : i - L.length = 0 := by have := (List.getElem?_eq_some_iff.1 hi).1; simp at this; omega
            rw [hi0] at hi
            rw [← T4.l, hi0] at hx
            injection hi with hi
            injection hx with hx
            subst hi; subst hx
            exact R4.kp KG (nrow R4.a) (nrow R4.b) (nrow R4.c)
        · intro h2 hm b hb
          rcases List.mem_append.1 hm with hm | hm
          · exact T4.n h2 hm b hb
          · simp at hm; subst hm
            rcases hb with hb | hb | hb
            · have := na b hb; omega
            · have := nb b hb; omega
            · have := nc b hb; omega
        · intro h2 hm b hb
          rcases List.mem_append.1 hm with hm | hm
          · exact T4.s h2 hm b hb
          · simp at hm; subst hm; exact hsep b hb
        · intro b hb
          rcases q3 with e | ⟨b2, e, h2⟩
          · exact T4.v b (e.symm.trans hb)
          · have e' : some b = some b2 := hb.symm.trans e
            injection e' with e'
            subst e'
            have h6 : w3.heap.size + 1 ≤ b := by simpa using h2
            omega)
      have K5 := hid (((hK.out.trans k3).trans KA.out).trans' KG (fun b hb e => by have := hT.out.v b e; omega))
      have hr5 := hid r5
      clear T4 hrow q1 q2 q3 r5 KG nrow R4 hR3 na nb nc k3 hsep
      go_wp2_with (at_builtin; refine Lib.wpList_append_run _ rfl _ _ _ _ rfl _ _ rfl rfl _ _ hr5.out ?_)
      go_roundw
      case rel => exact ⟨j + 1, _, by omega, by go_num, T5.out, K5.out⟩
      case measure => simp [intOf]; omega
    · obtain rfl : j = R.length := by omega
      rw [List.take_length] at hT
      replace hT := hid hT
      replace hK := hid hK
      clear hLj
      go_wp2_with fail
      go_ret
      exact ⟨_, L, rfl, hT.out, hK.out⟩
end
end Go.Proofs.Ytplbkjgkocnehaa
