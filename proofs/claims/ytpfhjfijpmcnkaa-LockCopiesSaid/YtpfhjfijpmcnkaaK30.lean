/- Walks: copies, and which are the same. -/
import Derived.Test.YtpfhjfijpmcnkaaK29
namespace Go.Proofs.Ytpfhjfijpmcnkaa
set_option linter.unusedSimpArgs false
set_option linter.unusedVariables false
open Go.RowKit
attribute [local go_sem ↓] Go.wp_at_zero Go.wp_at_succ
section
variable {w w' : World} {p m n p1 m1 p2 m2 q q1 q2 : Nat} {M M1 M2 : List (Int × Value)} {v v1 v2 : Value} {L L1 L2 : List (Int × Int)} {l l' : List Int}
set_option maxRecDepth 100000 in
set_option maxHeartbeats 4000000 in
theorem csame_any (h1 : LAt w p1 m1 n M1 L1) (h2 : LAt w p2 m2 n M2 L2) (n1 : 1 ≤ n) (l1 : L1.length ≤ 4000) (l2 : L2.length ≤ 4000) :
    Calls Try.prog 24 #[.pointer (some ⟨p1, 0, none⟩), .pointer (some ⟨p2, 0, none⟩)] w fun e w' => e = .returned (.bool (sameB L1 L2)) ∧ Kp NoB w w' := by
  have HT1 := hid (there_yes h1 n1)
  have HT2 := hid (there_yes h2 n1)
  have HE := hid (eqfunc_any (h1.drew) (h2.drew) l1 l2)
  have La := loc2 h1.hp
  have Lb := loc2 h2.hp
  generalize sameB L1 L2 = bb at *
  clear h1 h2
  go_enter Try.func24, Try.ntmps24
  go_wp2_with fail
  refine HT1.out.mono ?_
  rintro e w1 ⟨rfl, rfl⟩
  go_wp2_with fail
  refine HT2.out.mono ?_
  rintro e w1 ⟨rfl, rfl⟩
  go_wp2_with fail
  refine wp_region_G (fun _ => True) [(0, .at_), (1, .at_), (2, .at_), (3, .at_), (4, .at_), (5, .at_), (6, .at_), (7, .at_), (8, .at_), (9, .at_), (10, .at_), (11, .at_), (12, .at_), (13, .at_), (14, .at_), (15, .at_), (16, .at_), (17, .at_), (18, .eff), (19, .at_), (20, .at_)] ?L1 (by kernel_rfl) (by kernel_rfl) ?hL1 (trivial) ?hG1
  case hL1 => simp only [pickOps, List.map_cons, List.map_nil, List.getD_cons_zero, List.getD_cons_succ]; rfl
  repeat (first | (refine wpG_at (v := ?_) (by rfl) ?_ ?_; rotate_left; (focus (first | (go_simp; with_reducible rfl) | (go_simp; done))); simp only [Act.put, List.setIfInBounds_toArray, List.set_cons_zero, List.set_cons_succ]) | (refine wpG_at_skip (by rfl) ?_; simp only [Act.put, List.setIfInBounds_toArray, List.set_cons_zero, List.set_cons_succ]) | (refine wpG_held_skip (by rfl) ?_; simp only [Act.put, List.setIfInBounds_toArray, List.set_cons_zero, List.set_cons_succ]) | (refine wpG_held (v := ?_) (by rfl) ?_ ?_; rotate_left; (focus (intro w' hSw; (try dsimp only at hSw); go_split_ands; first | (go_simp; with_reducible rfl) | (go_simp; done))); simp only [Act.put, List.setIfInBounds_toArray, List.set_cons_zero, List.set_cons_succ]))
  refine wpG_eff (by rfl) (fun K hK => ?_)
  go_simp
  refine HE.out.mono ?_
  rintro e w1 ⟨rfl, k1⟩
  have K1 := hid (((Kp.refl NoB w).drew).trans k1)
  refine hK _ _ trivial ?_
  clear hK K k1
  repeat (first | (refine wpG_at (v := ?_) (by rfl) ?_ ?_; rotate_left; (focus (first | (go_simp; with_reducible rfl) | (go_simp; done))); simp only [Act.put, List.setIfInBounds_toArray, List.set_cons_zero, List.set_cons_succ]) | (refine wpG_at_skip (by rfl) ?_; simp only [Act.put, List.setIfInBounds_toArray, List.set_cons_zero, List.set_cons_succ]) | (refine wpG_held_skip (by rfl) ?_; simp only [Act.put, List.setIfInBounds_toArray, List.set_cons_zero, List.set_cons_succ]) | (refine wpG_held (v := ?_) (by rfl) ?_ ?_; rotate_left; (focus (intro w' hSw; (try dsimp only at hSw); go_split_ands; first | (go_simp; with_reducible rfl) | (go_simp; done))); simp only [Act.put, List.setIfInBounds_toArray, List.set_cons_zero, List.set_cons_succ]))
  refine wpG_nil (NoPanic.normal ?_)
  go_wp2_with fail
  go_ret
  exact ⟨by simp, K1.out⟩
set_option maxRecDepth 100000 in
set_option maxHeartbeats 4000000 in
theorem copy_any (h : LAt w p m n M L) (n1 : 1 ≤ n) :
    Calls Try.prog 22 #[.pointer (some ⟨p, 0, none⟩)] w fun e w' => ∃ p' m', e = .returned (.pointer (some ⟨p', 0, none⟩)) ∧ LAt w' p' m' n M L ∧ w.heap.size ≤ p' ∧ w.heap.size ≤ m' ∧ Kp NoB w w' := by
  have HT := hid (there_yes h n1)
  have HC := hid (mapsclone_any h.hm.drew)
  have Lp := loc2 h.hp
  have H0 := hid h
  clear h
  go_enter Try.func22, Try.ntmps22
  go_wp2_with fail
  refine HT.out.mono ?_
  rintro e w1 ⟨rfl, rfl⟩
  go_wp2_with fail
  refine wp_region_G (fun W => W.cell? ⟨p, 0, none⟩ = some (.int .i64 n)) [(0, .held), (1, .held), (2, .held), (3, .held), (4, .at_), (5, .at_), (6, .at_), (7, .at_), (8, .eff), (9, .at_), (10, .fin), (11, .at_)] ?L2 (by kernel_rfl) (by kernel_rfl) ?hL2 (Lp.1) ?hG2
  case hL2 => simp only [pickOps, List.map_cons, List.map_nil, List.getD_cons_zero, List.getD_cons_succ]; rfl
  repeat (first | (refine wpG_at (v := ?_) (by rfl) ?_ ?_; rotate_left; (focus (first | (go_simp; with_reducible rfl) | (go_simp; done))); simp only [Act.put, List.setIfInBounds_toArray, List.set_cons_zero, List.set_cons_succ]) | (refine wpG_at_skip (by rfl) ?_; simp only [Act.put, List.setIfInBounds_toArray, List.set_cons_zero, List.set_cons_succ]) | (refine wpG_held_skip (by rfl) ?_; simp only [Act.put, List.setIfInBounds_toArray, List.set_cons_zero, List.set_cons_succ]) | (refine wpG_held (v := ?_) (by rfl) ?_ ?_; rotate_left; (focus (intro w' hSw; (try dsimp only at hSw); go_split_ands; first | (go_simp; with_reducible rfl) | (go_simp; done))); simp only [Act.put, List.setIfInBounds_toArray, List.set_cons_zero, List.set_cons_succ]))
  refine wpG_eff (by rfl) (fun K hK => ?_)
  go_simp
  refine HC.out.mono ?_
  rintro e w1 ⟨rfl, c1, k1⟩
  have Lp1 := loc2 (k1.get (blk_drew H0.out.hp) (fun h => h))
  have K1 := hid (((Kp.refl NoB w).drew).trans k1)
  have C1 := hid c1
  clear k1 c1
  refine hK _ _ Lp1.1 ?_
  clear hK K Lp
  repeat (first | (refine wpG_at (v := ?_) (by rfl) ?_ ?_; rotate_left; (focus (first | (go_simp; with_reducible rfl) | (go_simp; done))); simp only [Act.put, List.setIfInBounds_toArray, List.set_cons_zero, List.set_cons_succ]) | (refine wpG_at_skip (by rfl) ?_; simp only [Act.put, List.setIfInBounds_toArray, List.set_cons_zero, List.set_cons_succ]) | (refine wpG_held_skip (by rfl) ?_; simp only [Act.put, List.setIfInBounds_toArray, List.set_cons_zero, List.set_cons_succ]) | (refine wpG_held (v := ?_) (by rfl) ?_ ?_; rotate_left; (focus (intro w' hSw; (try dsimp only at hSw); go_split_ands; first | (go_simp; with_reducible rfl) | (go_simp; done))); simp only [Act.put, List.setIfInBounds_toArray, List.set_cons_zero, List.set_cons_succ]))
  refine wpG_fin (by rfl) (fun K hK => ?_)
  go_simp
  refine hK _ _ ?_
  clear hK K
  repeat (first | (refine wpG_at (v := ?_) (by rfl) ?_ ?_; rotate_left; (focus (first | (go_simp; with_reducible rfl) | (go_simp; done))); simp only [Act.put, List.setIfInBounds_toArray, List.set_cons_zero, List.set_cons_succ]) | (refine wpG_at_skip (by rfl) ?_; simp only [Act.put, List.setIfInBounds_toArray, List.set_cons_zero, List.set_cons_succ]) | (refine wpG_held_skip (by rfl) ?_; simp only [Act.put, List.setIfInBounds_toArray, List.set_cons_zero, List.set_cons_succ]) | (refine wpG_held (v := ?_) (by rfl) ?_ ?_; rotate_left; (focus (intro w' hSw; (try dsimp only at hSw); go_split_ands; first | (go_simp; with_reducible rfl) | (go_simp; done))); simp only [Act.put, List.setIfInBounds_toArray, List.set_cons_zero, List.set_cons_succ]))
  refine wpG_nil (NoPanic.normal ?_)
  go_wp2_with fail
  go_ret
  have KF := K1.out.alloc (.cells #[.int .i64 n, .map (some w.heap.size)] 53)
  exact ⟨w1.heap.size, w.heap.size, rfl, ⟨blk_new _ _, C1.out.alloc _, H0.out.k, fun id => (H0.out.rows id).kn KF, H0.out.ne⟩, K1.out.size, Nat.le_refl _, KF⟩
set_option maxRecDepth 100000 in
set_option maxHeartbeats 4000000 in
theorem rcopy_any (h : RAt w q n v L) (n2 : L.length ≤ 4000) :
    Calls Try.prog 23 #[.pointer (some ⟨q, 0, none⟩)] w fun e w' => ∃ q' v', e = .returned (.pointer (some ⟨q', 0, none⟩)) ∧ RAt w' q' n v' L ∧ w.heap.size ≤ q' ∧ Kp NoB w w' := by
  have Lp := loc2 h.hq
  have H0 := hid h
  obtain ⟨o, c, hv, _⟩ := h.hv.form
  subst hv
  clear h
  go_enter Try.func23, Try.ntmps23
  go_wp2_with fail
  refine wp_region_G (fun W => W.cell? ⟨q, 0, none⟩ = some (.int .i64 n)) [(0, .held), (1, .held), (2, .held), (3, .held), (4, .at_), (5, .at_), (6, .at_), (7, .at_), (8, .eff), (9, .at_), (10, .fin), (11, .at_)] ?L3 (by kernel_rfl) (by kernel_rfl) ?hL3 (Lp.1) ?hG3
  case hL3 => simp only [pickOps, List.map_cons, List.map_nil, List.getD_cons_zero, List.getD_cons_succ]; rfl
  repeat (first | (refine wpG_at (v := ?_) (by rfl) ?_ ?_; rotate_left; (focus (first | (go_simp; with_reducible rfl) | (go_simp; done))); simp only [Act.put, List.setIfInBounds_toArray, List.set_cons_zero, List.set_cons_succ]) | (refine wpG_at_skip (by rfl) ?_; simp only [Act.put, List.setIfInBounds_toArray, List.set_cons_zero, List.set_cons_succ]) | (refine wpG_held_skip (by rfl) ?_; simp only [Act.put, List.setIfInBounds_toArray, List.set_cons_zero, List.set_cons_succ]) | (refine wpG_held (v := ?_) (by rfl) ?_ ?_; rotate_left; (focus (intro w' hSw; (try dsimp only at hSw); go_split_ands; first | (go_simp; with_reducible rfl) | (go_simp; done))); simp only [Act.put, List.setIfInBounds_toArray, List.set_cons_zero, List.set_cons_succ]))
  refine wpG_eff (by rfl) (fun K hK => ?_)
  refine wp_grow_row eP_len (by omega) (.const (.slice none 0 0)) _ 61 65 _ 16 rfl sl61 i65 rfl (.slice none 0 0) [] rfl (RowAt.nil _ 65 eP 2) (.slice o L.length c) L rfl H0.out.hv.drew (oneP _) (by simp; omega) (by omega) ?_
  intro va wa a1 a2 a3
  rw [List.nil_append] at a1
  have hq1 := grown_get a2 (blk_drew H0.out.hq) (by simp [Value.ownBlock])
  have K1 := hid (((Kp.refl NoB w).drew).trans (kp_grown (F := NoB) a2 (by simp [Value.ownBlock])))
  have Lq := loc2 hq1
  obtain ⟨oa, ca, hva, _⟩ := a1.form
  subst hva
  have A1 := hid a1
  replace hq1 := hid hq1
  clear a1 a2 a3 Lp
  refine hK _ _ Lq.1 ?_
  clear hK K
  repeat (first | (refine wpG_at (v := ?_) (by rfl) ?_ ?_; rotate_left; (focus (first | (go_simp; with_reducible rfl) | (go_simp; done))); simp only [Act.put, List.setIfInBounds_toArray, List.set_cons_zero, List.set_cons_succ]) | (refine wpG_at_skip (by rfl) ?_; simp only [Act.put, List.setIfInBounds_toArray, List.set_cons_zero, List.set_cons_succ]) | (refine wpG_held_skip (by rfl) ?_; simp only [Act.put, List.setIfInBounds_toArray, List.set_cons_zero, List.set_cons_succ]) | (refine wpG_held (v := ?_) (by rfl) ?_ ?_; rotate_left; (focus (intro w' hSw; (try dsimp only at hSw); go_split_ands; first | (go_simp; with_reducible rfl) | (go_simp; done))); simp only [Act.put, List.setIfInBounds_toArray, List.set_cons_zero, List.set_cons_succ]))
  refine wpG_fin (by rfl) (fun K hK => ?_)
  go_simp
  refine hK _ _ ?_
  clear hK K
  repeat (first | (refine wpG_at (v := ?_) (by rfl) ?_ ?_; rotate_left; (focus (first | (go_simp; with_reducible rfl) | (go_simp; done))); simp only [Act.put, List.setIfInBounds_toArray, List.set_cons_zero, List.set_cons_succ]) | (refine wpG_at_skip (by rfl) ?_; simp only [Act.put, List.setIfInBounds_toArray, List.set_cons_zero, List.set_cons_succ]) | (refine wpG_held_skip (by rfl) ?_; simp only [Act.put, List.setIfInBounds_toArray, List.set_cons_zero, List.set_cons_succ]) | (refine wpG_held (v := ?_) (by rfl) ?_ ?_; rotate_left; (focus (intro w' hSw; (try dsimp only at hSw); go_split_ands; first | (go_simp; with_reducible rfl) | (go_simp; done))); simp only [Act.put, List.setIfInBounds_toArray, List.set_cons_zero, List.set_cons_succ]))
  refine wpG_nil (NoPanic.normal ?_)
  go_wp2_with fail
  go_ret
  exact ⟨wa.heap.size, _, rfl, ⟨blk_new _ _, A1.out.alloc _⟩, K1.out.size, K1.out.alloc _⟩
set_option maxRecDepth 100000 in
set_option maxHeartbeats 8000000 in
theorem rsame_any (h1 : RAt w q1 n v1 L1) (h2 : RAt w q2 n v2 L2) (l1 : L1.length ≤ 4000) (l2 : L2.length ≤ 4000) :
    Calls Try.prog 25 #[.pointer (some ⟨q1, 0, none⟩), .pointer (some ⟨q2, 0, none⟩)] w fun e w' => e = .returned (.bool (sameB L1 L2)) ∧ Kp NoB w w' := by
  have La := loc2 h1.hq
  have Lb := loc2 h2.hq
  have H1 := hid h1
  have H2 := hid h2
  have HR1 := hid (fun W (k : Kp NoB w W) id => row_any (h1.kn k) l1 id)
  have HR2 := hid (fun W (k : Kp NoB w W) id => row_any (h2.kn k) l2 id)
  obtain ⟨o1, c1, hv1, _⟩ := h1.hv.form
  obtain ⟨o2, c2, hv2, _⟩ := h2.hv.form
  subst hv1; subst hv2
  clear h1 h2
  by_cases hl : L1.length = L2.length
  · have hls : ((L1.length : Int) != (L2.length : Int)) = false := by simp [hl]
    replace hl := hid hl
    go_enter Try.func25, Try.ntmps25
    go_wp2_with fail
    refine wp_region_G (fun _ => True) [(0, .at_), (1, .at_), (2, .at_), (3, .at_), (4, .at_), (5, .at_), (6, .at_), (7, .at_), (8, .at_), (9, .at_), (10, .at_), (11, .at_), (12, .at_), (13, .at_), (14, .at_), (15, .at_), (16, .at_), (17, .at_), (18, .at_), (19, .at_), (20, .at_), (21, .at_)] ?L4 (by kernel_rfl) (by kernel_rfl) ?hL4 (trivial) ?hG4
    case hL4 => simp only [pickOps, List.map_cons, List.map_nil, List.getD_cons_zero, List.getD_cons_succ]; rfl
    repeat (first | (refine wpG_at (v := ?_) (by rfl) ?_ ?_; rotate_left; (focus (first | (go_simp; with_reducible rfl) | (go_simp; done))); simp only [Act.put, List.setIfInBounds_toArray, List.set_cons_zero, List.set_cons_succ]) | (refine wpG_at_skip (by rfl) ?_; simp only [Act.put, List.setIfInBounds_toArray, List.set_cons_zero, List.set_cons_succ]) | (refine wpG_held_skip (by rfl) ?_; simp only [Act.put, List.setIfInBounds_toArray, List.set_cons_zero, List.set_cons_succ]) | (refine wpG_held (v := ?_) (by rfl) ?_ ?_; rotate_left; (focus (intro w' hSw; (try dsimp only at hSw); go_split_ands; first | (go_simp; with_reducible rfl) | (go_simp; done))); simp only [Act.put, List.setIfInBounds_toArray, List.set_cons_zero, List.set_cons_succ]))
    refine wpG_nil (NoPanic.normal ?_)
    go_wp2_with fail
    go_loopw [5] (fun i W => ∃ j : Nat, j ≤ L1.length ∧ i = .int .i64 j ∧ Kp NoB w W ∧ Hid (∀ k s, L1[k]? = some s → k < j → rowL L1 s.1 = rowL L2 s.1)) (fun i _ => L1.length - (intOf i).toNat)
    case atStart => exact ⟨0, Nat.zero_le _, rfl, (Kp.refl _ w).drew, hid (by intro k s hk h; omega)⟩
    case round =>
      obtain ⟨j, hj, rfl, hK, hT⟩ := hrel
      clear La Lb
      have La := loc2 (H1.out.kn hK).hq
      have Lb := loc2 (H2.out.kn hK).hq
      have b3 : (0 : Int) ≤ (j : Int) := Int.natCast_nonneg _
      by_cases hlt : j < L1.length
      · have b4 : (j : Int) < (L1.length : Int) := by omega
        have hk : L1[j]? = some L1[j] := List.getElem?_eq_getElem hlt
        obtain ⟨⟨x, y⟩, hxy⟩ : ∃ s, L1[j] = s := ⟨_, rfl⟩
        rw [hxy] at hk
        obtain ⟨b, c', hv', hcc, hcell⟩ := H1.out.cells hk
        injection hv' with hv1 _ hv3
        subst hv1; subst hv3
        have Le := hcell _ hK
        have hcc' : (L1.length : Int) ≤ (c1 : Int) := by omega
        have HA := hid (fun W k => (hcell W (hK.trans k)).1)
        have HQ := hid (fun W (k : Kp NoB wr W) => loc2 (H1.out.kn (hK.trans k)).hq)
        have hr1 := row_len L1 x
        replace hcell := hid hcell
        replace hxy := hid hxy
        replace hK := hid hK
        have R1 := hid (HR1.out · · x)
        have R2 := hid (HR2.out · · x)
        go_wp2_with fail
        refine wp_region_G (fun W => W.cell? ⟨q1, 1, none⟩ = some (.slice (some ⟨b, 0, none⟩) L1.length c1) ∧ W.cell? ⟨b, j * 2, none⟩ = some (.int .i64 x)) [(0, .at_), (1, .at_), (2, .at_), (3, .at_), (4, .at_), (5, .at_), (6, .at_), (7, .at_), (8, .at_), (10, .held), (11, .held), (12, .held), (13, .held), (14, .held), (15, .held), (16, .held), (17, .held), (18, .held), (9, .eff), (19, .eff), (20, .eff), (21, .at_)] ?L5 (by kernel_rfl) (by kernel_rfl) ?hL5 (⟨La.2.1, Le.1⟩) ?hG5
        case hL5 => simp only [pickOps, List.map_cons, List.map_nil, List.getD_cons_zero, List.getD_cons_succ]; rfl
        repeat (first | (refine wpG_at (v := ?_) (by rfl) ?_ ?_; rotate_left; (focus (first | (go_simp; with_reducible rfl) | (go_simp; done))); simp only [Act.put, List.setIfInBounds_toArray, List.set_cons_zero, List.set_cons_succ]) | (refine wpG_at_skip (by rfl) ?_; simp only [Act.put, List.setIfInBounds_toArray, List.set_cons_zero, List.set_cons_succ]) | (refine wpG_held_skip (by rfl) ?_; simp only [Act.put, List.setIfInBounds_toArray, List.set_cons_zero, List.set_cons_succ]) | (refine wpG_held (v := ?_) (by rfl) ?_ ?_; rotate_left; (focus (intro w' hSw; (try dsimp only at hSw); go_split_ands; first | (go_simp; with_reducible rfl) | (go_simp; done))); simp only [Act.put, List.setIfInBounds_toArray, List.set_cons_zero, List.set_cons_succ]))
        refine wpG_eff (by rfl) (fun K hK' => ?_)
        go_simp
        refine (R1.out _ hK.out.drew).mono ?_
        rintro e w3 ⟨v3, rfl, r3, k3⟩
        have K3 := hid (show Kp NoB wr w3 from ((Kp.refl _ wr).drew).trans k3)
        replace r3 := hid r3
        clear k3
        have f1 := (HQ.out _ K3.out).2.1
        have f2 := HA.out _ K3.out
        refine hK' _ _ ⟨f1, f2⟩ ?_
        clear hK' K f1 f2
        repeat (first | (refine wpG_at (v := ?_) (by rfl) ?_ ?_; rotate_left; (focus (first | (go_simp; with_reducible rfl) | (go_simp; done))); simp only [Act.put, List.setIfInBounds_toArray, List.set_cons_zero, List.set_cons_succ]) | (refine wpG_at_skip (by rfl) ?_; simp only [Act.put, List.setIfInBounds_toArray, List.set_cons_zero, List.set_cons_succ]) | (refine wpG_held_skip (by rfl) ?_; simp only [Act.put, List.setIfInBounds_toArray, List.set_cons_zero, List.set_cons_succ]) | (refine wpG_held (v := ?_) (by rfl) ?_ ?_; rotate_left; (focus (intro w' hSw; (try dsimp only at hSw); go_split_ands; first | (go_simp; with_reducible rfl) | (go_simp; done))); simp only [Act.put, List.setIfInBounds_toArray, List.set_cons_zero, List.set_cons_succ]))
        refine wpG_eff (by rfl) (fun K hK' => ?_)
        go_simp
        refine (R2.out _ (hK.out.trans K3.out)).mono ?_
        rintro e w4 ⟨v4, rfl, r4, k4⟩
        have K4 := hid (K3.out.trans k4)
        have R3 := hid (r3.out.kn k4)
        replace r4 := hid r4
        clear k4
        have f1 := (HQ.out _ K4.out).2.1
        have f2 := HA.out _ K4.out
        refine hK' _ _ ⟨f1, f2⟩ ?_
        clear hK' K f1 f2
        repeat (first | (refine wpG_at (v := ?_) (by rfl) ?_ ?_; rotate_left; (focus (first | (go_simp; with_reducible rfl) | (go_simp; done))); simp only [Act.put, List.setIfInBounds_toArray, List.set_cons_zero, List.set_cons_succ]) | (refine wpG_at_skip (by rfl) ?_; simp only [Act.put, List.setIfInBounds_toArray, List.set_cons_zero, List.set_cons_succ]) | (refine wpG_held_skip (by rfl) ?_; simp only [Act.put, List.setIfInBounds_toArray, List.set_cons_zero, List.set_cons_succ]) | (refine wpG_held (v := ?_) (by rfl) ?_ ?_; rotate_left; (focus (intro w' hSw; (try dsimp only at hSw); go_split_ands; first | (go_simp; with_reducible rfl) | (go_simp; done))); simp only [Act.put, List.setIfInBounds_toArray, List.set_cons_zero, List.set_cons_succ]))
        refine wpG_eff (by rfl) (fun K hK' => ?_)
        go_simp
        refine (equal_any R3.out r4.out (by omega)).mono ?_
        rintro e w5 ⟨rfl, k5⟩
        have K5 := hid (K4.out.trans k5)
        clear k5
        have f1 := (HQ.out _ K5.out).2.1
        have f2 := HA.out _ K5.out
        refine hK' _ _ ⟨f1, f2⟩ ?_
        clear hK' K f1 f2
        by_cases he : rowL L1 x = rowL L2 x
        · rw [show decide (rowL L1 x = rowL L2 x) = true from by simp [he]]
          have he' := hid he
          have hk' := hid hk
          clear he hk
          repeat (first | (refine wpG_at (v := ?_) (by rfl) ?_ ?_; rotate_left; (focus (first | (go_simp; with_reducible rfl) | (go_simp; done))); simp only [Act.put, List.setIfInBounds_toArray, List.set_cons_zero, List.set_cons_succ]) | (refine wpG_at_skip (by rfl) ?_; simp only [Act.put, List.setIfInBounds_toArray, List.set_cons_zero, List.set_cons_succ]) | (refine wpG_held_skip (by rfl) ?_; simp only [Act.put, List.setIfInBounds_toArray, List.set_cons_zero, List.set_cons_succ]) | (refine wpG_held (v := ?_) (by rfl) ?_ ?_; rotate_left; (focus (intro w' hSw; (try dsimp only at hSw); go_split_ands; first | (go_simp; with_reducible rfl) | (go_simp; done))); simp only [Act.put, List.setIfInBounds_toArray, List.set_cons_zero, List.set_cons_succ]))
          refine wpG_nil (NoPanic.normal ?_)
          go_wp2_with fail
          go_roundw
          case rel => exact ⟨j + 1, by omega, by go_num, hK.out.trans K5.out, hid (fun k s hs h => by
            by_cases e : k = j
            · subst e
              rw [hk'.out] at hs; injection hs with hs; subst hs; exact he'.out
            · exact hT.out k s hs (by omega))⟩
          case measure => simp [intOf]; omega
        · rw [show decide (rowL L1 x = rowL L2 x) = false from by simp [he]]
          have hf := hid (show sameB L1 L2 = false from by
            cases hb : sameB L1 L2 with
            | false => rfl
            | true => rw [same_iff] at hb; exact absurd (hb x) he)
          clear he
          repeat (first | (refine wpG_at (v := ?_) (by rfl) ?_ ?_; rotate_left; (focus (first | (go_simp; with_reducible rfl) | (go_simp; done))); simp only [Act.put, List.setIfInBounds_toArray, List.set_cons_zero, List.set_cons_succ]) | (refine wpG_at_skip (by rfl) ?_; simp only [Act.put, List.setIfInBounds_toArray, List.set_cons_zero, List.set_cons_succ]) | (refine wpG_held_skip (by rfl) ?_; simp only [Act.put, List.setIfInBounds_toArray, List.set_cons_zero, List.set_cons_succ]) | (refine wpG_held (v := ?_) (by rfl) ?_ ?_; rotate_left; (focus (intro w' hSw; (try dsimp only at hSw); go_split_ands; first | (go_simp; with_reducible rfl) | (go_simp; done))); simp only [Act.put, List.setIfInBounds_toArray, List.set_cons_zero, List.set_cons_succ]))
          refine wpG_nil (NoPanic.normal ?_)
          go_wp2_with fail
          go_ret
          exact ⟨by rw [hf.out]; rfl, hK.out.trans K5.out⟩
      · obtain rfl : j = L1.length := by omega
        have ht := hid (show sameB L1 L2 = true from by
          unfold sameB
          simp only [Bool.and_eq_true, decide_eq_true_eq, List.all_eq_true]
          refine ⟨hl.out, fun s hs => ?_⟩
          obtain ⟨k, hk⟩ := List.getElem?_of_mem hs
          exact hT.out k s hk (List.getElem?_eq_some_iff.1 hk).1)
        go_wp2_with fail
        go_ret
        exact ⟨by rw [ht.out]; rfl, hK⟩
  · have hls : ((L1.length : Int) != (L2.length : Int)) = true := by simp; omega
    have hf := hid (show sameB L1 L2 = false from by simp [sameB, hl])
    clear hl
    go_enter Try.func25, Try.ntmps25
    go_wp2_with fail
    refine wp_region_G (fun _ => True) [(0, .at_), (1, .at_), (2, .at_), (3, .at_), (4, .at_), (5, .at_), (6, .at_), (7, .at_), (8, .at_), (9, .at_), (10, .at_), (11, .at_), (12, .at_), (13, .at_), (14, .at_), (15, .at_), (16, .at_), (17, .at_), (18, .at_), (19, .at_), (20, .at_), (21, .at_)] ?L6 (by kernel_rfl) (by kernel_rfl) ?hL6 (trivial) ?hG6
    case hL6 => simp only [pickOps, List.map_cons, List.map_nil, List.getD_cons_zero, List.getD_cons_succ]; rfl
    repeat (first | (refine wpG_at (v := ?_) (by rfl) ?_ ?_; rotate_left; (focus (first | (go_simp; with_reducible rfl) | (go_simp; done))); simp only [Act.put, List.setIfInBounds_toArray, List.set_cons_zero, List.set_cons_succ]) | (refine wpG_at_skip (by rfl) ?_; simp only [Act.put, List.setIfInBounds_toArray, List.set_cons_zero, List.set_cons_succ]) | (refine wpG_held_skip (by rfl) ?_; simp only [Act.put, List.setIfInBounds_toArray, List.set_cons_zero, List.set_cons_succ]) | (refine wpG_held (v := ?_) (by rfl) ?_ ?_; rotate_left; (focus (intro w' hSw; (try dsimp only at hSw); go_split_ands; first | (go_simp; with_reducible rfl) | (go_simp; done))); simp only [Act.put, List.setIfInBounds_toArray, List.set_cons_zero, List.set_cons_succ]))
    refine wpG_nil (NoPanic.normal ?_)
    go_wp2_with fail
    go_ret
    exact ⟨by rw [hf.out]; rfl, (Kp.refl _ w).drew⟩
end
end Go.Proofs.Ytpfhjfijpmcnkaa
