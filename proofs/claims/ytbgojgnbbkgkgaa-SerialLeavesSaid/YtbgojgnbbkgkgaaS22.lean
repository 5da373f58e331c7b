/- Walks: copies, and which are the same. -/
import Derived.Test.YtbgojgnbbkgkgaaS21
namespace Go.Proofs.Ytbgojgnbbkgkgaa
set_option linter.unusedSimpArgs false
set_option linter.unusedVariables false
open Go.RowKit Go.Shelf
attribute [local go_sem ↓] Go.wp_at_zero Go.wp_at_succ
section
variable {w w' : World} {q p m p1 m1 p2 m2 q1 q2 room r1 r2 : Nat} {v v1 v2 : Value} {M M1 M2 : List (Int × Value)} {L1 L2 : List (Int × Int × Int)}
theorem rows_iff (o1 : TOk M1 r1) (o2 : TOk M2 r2) : rowsL M1 = rowsL M2 ↔ ∀ k, mget M1 k = mget M2 k := by
  constructor
  · intro h k
    have h1 := fun y => row_mem o1 (y := y)
    have h2 := fun y => row_mem o2 (y := y)
    rw [h] at h1
    cases hq : mget M1 k with
    | some x =>
      obtain ⟨i, g, hx⟩ := o1.el _ (mget_mem hq)
      simp only at hx; subst hx
      exact ((h2 (k, i, g)).1 ((h1 (k, i, g)).2 hq)).symm
    | none =>
      cases hq2 : mget M2 k with
      | none => rfl
      | some x =>
        obtain ⟨i, g, hx⟩ := o2.el _ (mget_mem hq2)
        simp only at hx; subst hx
        have := (h1 (k, i, g)).1 ((h2 (k, i, g)).2 hq2)
        simp only at this
        rw [hq] at this; cases this
  · intro h
    exact rise_eq (rows_rise o1) (rows_rise o2) (fun y => by rw [row_mem o1, row_mem o2, h])
theorem rise_nodup {L : List (Int × Int × Int)} (h : Rise L) : L.Nodup := by
  unfold Rise at h
  unfold List.Nodup
  refine h.imp fun {a b} h => ?_
  rintro rfl; omega
theorem rows_of (o1 : TOk M1 r1) (o2 : TOk M2 r2) (hl : M1.length = M2.length) (hk : ∀ k, (mget M1 k).isSome = true → mget M1 k = mget M2 k) : rowsL M1 = rowsL M2 := by
  refine rise_eq (rows_rise o1) (rows_rise o2) fun y => ?_
  have hsub : ∀ y ∈ rowsL M1, y ∈ rowsL M2 := fun y hy => by
    rw [row_mem o1] at hy
    rw [row_mem o2, ← hk y.1 (by rw [hy]; rfl)]; exact hy
  refine ⟨hsub y, fun hy => Classical.byContradiction fun hn => ?_⟩
  have := sub_len (y :: rowsL M1) (rowsL M2) (List.nodup_cons.2 ⟨hn, rise_nodup (rows_rise o1)⟩) (fun x hx => by
    rcases List.mem_cons.1 hx with e | e
    · subst e; exact hy
    · exact hsub x e)
  rw [List.length_cons, rowsL_len, rowsL_len] at this
  omega
set_option maxRecDepth 100000 in
set_option maxHeartbeats 4000000 in
theorem ccopy_any (h : TAt w p m M room) (o : TOk M room) :
    Calls Try.prog 21 #[.pointer (some ⟨p, 0, none⟩)] w fun e w' => ∃ p' m', e = .returned (.pointer (some ⟨p', 0, none⟩)) ∧ TAt w' p' m' M room ∧ w.heap.size ≤ p' ∧ w.heap.size ≤ m' ∧ Kp NoB w w' := by
  have HT := hid (none_any h o.n1)
  have HC := hid (mapsclone_any h.hm.drew)
  have Lp := loc2 h.hp
  have H0 := hid h
  clear h
  go_enter Try.func21, Try.ntmps21
  go_wp2_with fail
  refine HT.out.mono ?_
  rintro e w1 ⟨rfl, rfl⟩
  go_wp2_with fail
  refine wp_region_G (fun W => W.cell? ⟨p, 1, none⟩ = some (.int .i64 room)) [(0, .at_), (1, .at_), (2, .at_), (3, .at_), (5, .held), (6, .held), (7, .held), (8, .held), (4, .eff), (9, .at_), (10, .fin), (11, .at_)] ?L1 (by kernel_rfl) (by kernel_rfl) ?hL1 (Lp.2.1) ?hG1
  case hL1 => simp only [pickOps, List.map_cons, List.map_nil, List.getD_cons_zero, List.getD_cons_succ]; rfl
  repeat (first | (refine wpG_at (v := ?_) (by rfl) ?_ ?_; rotate_left; (focus (first | (go_simp; with_reducible rfl) | (go_simp; done))); simp only [Act.put, List.setIfInBounds_toArray, List.set_cons_zero, List.set_cons_succ]) | (refine wpG_at_skip (by rfl) ?_; simp only [Act.put, List.setIfInBounds_toArray, List.set_cons_zero, List.set_cons_succ]) | (refine wpG_held_skip (by rfl) ?_; simp only [Act.put, List.setIfInBounds_toArray, List.set_cons_zero, List.set_cons_succ]) | (refine wpG_held (v := ?_) (by rfl) ?_ ?_; rotate_left; (focus (intro w' hSw; (try dsimp only at hSw); go_split_ands; first | (go_simp; with_reducible rfl) | (go_simp; done))); simp only [Act.put, List.setIfInBounds_toArray, List.set_cons_zero, List.set_cons_succ]))
  refine wpG_eff (by rfl) (fun K hK => ?_)
  go_simp
  refine HC.out.mono ?_
  rintro e w1 ⟨rfl, c1, k1⟩
  have Lp1 := loc2 (k1.get (blk_drew H0.out.hp) (fun h => h))
  have K1 := hid (((Kp.refl NoB w).drew).trans k1)
  have C1 := hid c1
  clear k1 c1
  refine hK _ _ Lp1.2.1 ?_
  clear hK K Lp
  repeat (first | (refine wpG_at (v := ?_) (by rfl) ?_ ?_; rotate_left; (focus (first | (go_simp; with_reducible rfl) | (go_simp; done))); simp only [Act.put, List.setIfInBounds_toArray, List.set_cons_zero, List.set_cons_succ]) | (refine wpG_at_skip (by rfl) ?_; simp only [Act.put, List.setIfInBounds_toArray, List.set_cons_zero, List.set_cons_succ]) | (refine wpG_held_skip (by rfl) ?_; simp only [Act.put, List.setIfInBounds_toArray, List.set_cons_zero, List.set_cons_succ]) | (refine wpG_held (v := ?_) (by rfl) ?_ ?_; rotate_left; (focus (intro w' hSw; (try dsimp only at hSw); go_split_ands; first | (go_simp; with_reducible rfl) | (go_simp; done))); simp only [Act.put, List.setIfInBounds_toArray, List.set_cons_zero, List.set_cons_succ]))
  refine wpG_fin (by rfl) (fun K hK => ?_)
  go_simp
  refine hK _ _ ?_
  clear hK K
  repeat (first | (refine wpG_at (v := ?_) (by rfl) ?_ ?_; rotate_left; (focus (first | (go_simp; with_reducible rfl) | (go_simp; done))); simp only [Act.put, List.setIfInBounds_toArray, List.set_cons_zero, List.set_cons_succ]) | (refine wpG_at_skip (by rfl) ?_; simp only [Act.put, List.setIfInBounds_toArray, List.set_cons_zero, List.set_cons_succ]) | (refine wpG_held_skip (by rfl) ?_; simp only [Act.put, List.setIfInBounds_toArray, List.set_cons_zero, List.set_cons_succ]) | (refine wpG_held (v := ?_) (by rfl) ?_ ?_; rotate_left; (focus (intro w' hSw; (try dsimp only at hSw); go_split_ands; first | (go_simp; with_reducible rfl) | (go_simp; done))); simp only [Act.put, List.setIfInBounds_toArray, List.set_cons_zero, List.set_cons_succ]))
  refine wpG_nil (NoPanic.normal ?_)
  go_wp2_with fail
  go_ret
  have KF := K1.out.alloc (.cells #[.map (some w.heap.size), .int .i64 room] 66)
  exact ⟨w1.heap.size, w.heap.size, rfl, ⟨blk_new _ _, C1.out.alloc _⟩, K1.out.size, Nat.le_refl _, KF⟩
set_option maxRecDepth 100000 in
set_option maxHeartbeats 4000000 in
theorem rcopy_any (h : RAt w q room v L1) (n2 : L1.length ≤ 4000) :
    Calls Try.prog 22 #[.pointer (some ⟨q, 0, none⟩)] w fun e w' => ∃ q' v', e = .returned (.pointer (some ⟨q', 0, none⟩)) ∧ RAt w' q' room v' L1 ∧ w.heap.size ≤ q' ∧ Kp NoB w w' := by
  have Lp := loc2 h.hq
  have H0 := hid h
  obtain ⟨ra, wa, hr, a1, ka, oa⟩ := run_nil_sl (P := Try.prog) (t := 44) (ty := 44) eR_len (by omega) sl44 i56 rfl (h.hv.drew.sl eR_len (by omega)) (oneR _) (by omega) (by omega)
  obtain ⟨o, c, hv, _⟩ := h.hv.form
  subst hv
  have hq1 := ka.get (blk_drew h.hq) (fun h => h)
  have K1 := hid (((Kp.refl NoB w).drew).trans ka)
  have Lq := loc2 hq1
  obtain ⟨oa', ca, hva, _⟩ := a1.form
  subst hva
  have A1 := hid a1
  replace hq1 := hid hq1
  replace hr := hid hr
  clear h a1 ka oa
  go_enter Try.func22, Try.ntmps22
  go_wp2_with fail
  refine wp_region_G (fun W => W.cell? ⟨q, 1, none⟩ = some (.int .i64 room)) [(0, .at_), (1, .at_), (2, .at_), (3, .at_), (5, .held), (6, .held), (7, .held), (8, .held), (4, .eff), (9, .at_), (10, .fin), (11, .at_)] ?L2 (by kernel_rfl) (by kernel_rfl) ?hL2 (Lp.2.1) ?hG2
  case hL2 => simp only [pickOps, List.map_cons, List.map_nil, List.getD_cons_zero, List.getD_cons_succ]; rfl
  repeat (first | (refine wpG_at (v := ?_) (by rfl) ?_ ?_; rotate_left; (focus (first | (go_simp; with_reducible rfl) | (go_simp; done))); simp only [Act.put, List.setIfInBounds_toArray, List.set_cons_zero, List.set_cons_succ]) | (refine wpG_at_skip (by rfl) ?_; simp only [Act.put, List.setIfInBounds_toArray, List.set_cons_zero, List.set_cons_succ]) | (refine wpG_held_skip (by rfl) ?_; simp only [Act.put, List.setIfInBounds_toArray, List.set_cons_zero, List.set_cons_succ]) | (refine wpG_held (v := ?_) (by rfl) ?_ ?_; rotate_left; (focus (intro w' hSw; (try dsimp only at hSw); go_split_ands; first | (go_simp; with_reducible rfl) | (go_simp; done))); simp only [Act.put, List.setIfInBounds_toArray, List.set_cons_zero, List.set_cons_succ]))
  refine wpG_eff (by rfl) (fun K hK => ?_)
  refine Lib.wp_append_run _ _ _ 44 44 rfl (.slice none 0 0) (.slice o L1.length c) rfl rfl _ _ hr.out ?_
  refine hK _ _ Lq.2.1 ?_
  clear hK K Lp
  repeat (first | (refine wpG_at (v := ?_) (by rfl) ?_ ?_; rotate_left; (focus (first | (go_simp; with_reducible rfl) | (go_simp; done))); simp only [Act.put, List.setIfInBounds_toArray, List.set_cons_zero, List.set_cons_succ]) | (refine wpG_at_skip (by rfl) ?_; simp only [Act.put, List.setIfInBounds_toArray, List.set_cons_zero, List.set_cons_succ]) | (refine wpG_held_skip (by rfl) ?_; simp only [Act.put, List.setIfInBounds_toArray, List.set_cons_zero, List.set_cons_succ]) | (refine wpG_held (v := ?_) (by rfl) ?_ ?_; rotate_left; (focus (intro w' hSw; (try dsimp only at hSw); go_split_ands; first | (go_simp; with_reducible rfl) | (go_simp; done))); simp only [Act.put, List.setIfInBounds_toArray, List.set_cons_zero, List.set_cons_succ]))
  refine wpG_fin (by rfl) (fun K hK => ?_)
  go_simp
  refine hK _ _ ?_
  clear hK K
  repeat (first | (refine wpG_at (v := ?_) (by rfl) ?_ ?_; rotate_left; (focus (first | (go_simp; with_reducible rfl) | (go_simp; done))); simp only [Act.put, List.setIfInBounds_toArray, List.set_cons_zero, List.set_cons_succ]) | (refine wpG_at_skip (by rfl) ?_; simp only [Act.put, List.setIfInBounds_toArray, List.set_cons_zero, List.set_cons_succ]) | (refine wpG_held_skip (by rfl) ?_; simp only [Act.put, List.setIfInBounds_toArray, List.set_cons_zero, List.set_cons_succ]) | (refine wpG_held (v := ?_) (by rfl) ?_ ?_; rotate_left; (focus (intro w' hSw; (try dsimp only at hSw); go_split_ands; first | (go_simp; with_reducible rfl) | (go_simp; done))); simp only [Act.put, List.setIfInBounds_toArray, List.set_cons_zero, List.set_cons_succ]))
  refine wpG_nil (NoPanic.normal ?_)
  go_wp2_with fail
  go_ret
  exact ⟨wa.heap.size, _, rfl, ⟨blk_new _ _, A1.out.alloc _⟩, K1.out.size, K1.out.alloc _⟩
set_option maxRecDepth 100000 in
set_option maxHeartbeats 8000000 in
theorem mequal_any (h1 : TAt w p1 m1 M1 r1) (h2 : TAt w p2 m2 M2 r2) (o1 : TOk M1 r1) (o2 : TOk M2 r2) :
    Calls Try.prog 35 #[.map (some m1), .map (some m2)] w fun e w' => e = .returned (.bool (decide (rowsL M1 = rowsL M2))) ∧ Kp NoB w w' := by
  have l1 : M1.length ≤ 64 := Nat.le_trans o1.le o1.n2
  have l2 : M2.length ≤ 64 := Nat.le_trans o2.le o2.n2
  have hlen1 := h1.hm.len (P := Try.prog) k64 3 (by omega)
  have hlen2 := h2.hm.len (P := Try.prog) k64 3 (by omega)
  have H1 := hid h1
  have H2 := hid h2
  have O1 := hid o1
  have O2 := hid o2
  have hm1l := h1.lt.2
  by_cases hl : M1.length = M2.length
  · obtain ⟨w3, hrg, ⟨cnt, I3⟩, k3⟩ := h1.hm.range (P := Try.prog) k64
    have hls : ((M1.length : Int) != (M2.length : Int)) = false := by simp [hl]
    replace I3 := hid I3
    replace k3 := hid k3
    replace hl := hid hl
    clear h1 h2 o1 o2 l1 l2
    go_enter Try.func35, Try.ntmps35
    go_wp2_with fail
    go_loopw [] (fun W => ∃ (S : List Int) (c : Nat), IterAt .i64 W w.heap.size m1 M1 S c ∧ Hid (∀ k ∈ S, mget M1 k = mget M2 k) ∧ Kp NoB w W) (fun W => itLeft W w.heap.size m1)
    case atStart => exact ⟨[], cnt, I3.out, hid (by simp), k3.out⟩
    case round =>
      obtain ⟨S, c, hI, hS, hK⟩ := hrel
      rcases hI.next (P := Try.prog) O1.out.k 0 with ⟨hA, hnx⟩ | ⟨k, v, w5, c', hkM, hkS, hnx, hI', hlt, hk5, hen⟩
      · have hT := hid (show decide (rowsL M1 = rowsL M2) = true from decide_eq_true (rows_of O1.out O2.out hl.out (fun k hi => hS.out k (by
          obtain ⟨x, hx, e⟩ := List.mem_map.1 (mget_key hi)
          exact e ▸ hA x hx))))
        replace hI := hid hI
        replace hA := hid hA
        go_wp2_with fail
        go_ret
        exact ⟨by rw [hT.out]; rfl, hK⟩
      · have hw : (Lit.int .i64 k).wf = true := O1.out.k.w _ hkM
        have hK5 : Kp NoB w w5 := hK.trans' hk5 (fun b hb e => by omega)
        obtain ⟨i, g, hv⟩ := O1.out.el _ hkM
        simp only at hv; subst hv
        have hg1 := uniq_at O1.out.k.u hkM
        have hlk := ((H2.out.kp hK5 (fun h => h) (fun h => h)).alloc (.cells #[.int .i64 i, .int .u64 g] 25)).hm.look (P := Try.prog) O2.out.k k22 k64 (zero25 _) k hw true
        have hel := row_el O2.out k
        generalize (rowOf M2 k).2.1 = i2 at hel
        generalize (rowOf M2 k).2.2 = g2 at hel
        rw [hel] at hlk
        have hlm := hI.left
        have I6 := (hI'.kp ((Kp.refl NoB w5).alloc (.cells #[.int .i64 i, .int .u64 g] 25)) (fun h => h) (fun h => h)).kp ((Kp.refl NoB _).alloc (.cells #[.int .i64 i2, .int .u64 g2] 25)) (fun h => h) (fun h => h)
        have hl6 := hid I6.left
        replace I6 := hid I6
        have K6 := hid ((hK5.alloc (.cells #[.int .i64 i, .int .u64 g] 25)).alloc (.cells #[.int .i64 i2, .int .u64 g2] 25))
        have hle : c' < c := hlt
        have hsm : (mget M2 k).isSome = true ∨ (mget M2 k).isSome = false := by cases (mget M2 k).isSome <;> simp
        have hfl : ∀ (h : mget M1 k ≠ mget M2 k), decide (rowsL M1 = rowsL M2) = false := fun h => decide_eq_false (fun e => h ((rows_iff O1.out O2.out).1 e k))
        rw [hg1] at hfl
        replace hI := hid hI
        replace hI' := hid hI'
        replace hkM := hid hkM
        replace hkS := hid hkS
        replace hK := hid hK
        replace hK5 := hid hK5
        replace hg1 := hid hg1
        replace hw := hid hw
        replace hlm := hid hlm
        clear hk5
        unfold hV at *
        rcases hsm with hsm | hsm
        · rw [hsm] at hlk
          have hg2 : mget M2 k = some (.agg #[.int .i64 i2, .int .u64 g2]) := by
            cases hq : mget M2 k with
            | none => rw [hq] at hsm; simp at hsm
            | some x => rw [hq] at hel; simp at hel; rw [hel]
          rw [hg2] at hfl
          replace hg2 := hid hg2
          clear hsm hel
          simp only [if_true] at hlk
          by_cases he1 : i = i2
          · subst he1
            by_cases he2 : g = g2
            · subst he2
              clear hfl
              go_wp2_with fail
              go_roundw
              case rel => exact ⟨k :: S, c', I6.out, hid (fun id hi => by
                rcases List.mem_cons.1 hi with e | h
                · subst e; rw [hg1.out, hg2.out]
                · exact hS.out id h), K6.out⟩
              case measure => rw [hl6.out, hlm.out]; exact hle
            · have e2 : (g == g2) = false := by simpa using he2
              have hf := hid (hfl (by simp [he2]))
              clear hfl
              go_wp2_with fail
              go_ret
              exact ⟨by rw [hf.out]; rfl, K6.out⟩
          · have e2 : (i == i2) = false := by simpa using he1
            have hf := hid (hfl (by simp [he1]))
            clear hfl
            go_wp2_with fail
            go_ret
            exact ⟨by rw [hf.out]; rfl, K6.out⟩
        · rw [hsm] at hlk
          have hf := hid (hfl (by
            cases hq : mget M2 k with
            | none => simp
            | some x => rw [hq] at hsm; simp at hsm))
          clear hsm hel hfl
          simp only [if_true] at hlk
          go_wp2_with fail
          go_ret
          exact ⟨by rw [hf.out]; rfl, K6.out⟩
  · have hls : ((M1.length : Int) != (M2.length : Int)) = true := by simp; omega
    have hf : decide (rowsL M1 = rowsL M2) = false := decide_eq_false (fun h => hl (by rw [← rowsL_len, h, rowsL_len]))
    rw [hf]
    clear h1 h2 hl hf
    go_enter Try.func35, Try.ntmps35
    go_wp2_with fail
    go_ret
    exact ⟨rfl, Kp.refl _ _⟩
set_option maxRecDepth 100000 in
set_option maxHeartbeats 4000000 in
theorem csame_any (h1 : TAt w p1 m1 M1 room) (h2 : TAt w p2 m2 M2 room) (o1 : TOk M1 room) (o2 : TOk M2 room) :
    Calls Try.prog 23 #[.pointer (some ⟨p1, 0, none⟩), .pointer (some ⟨p2, 0, none⟩)] w fun e w' => e = .returned (.bool (decide (rowsL M1 = rowsL M2))) ∧ Kp NoB w w' := by
  have HT1 := hid (none_any h1 o1.n1)
  have HT2 := hid (none_any h2 o1.n1)
  have HE := hid (mequal_any (h1.drew) (h2.drew) o1 o2)
  have La := loc2 h1.hp
  have Lb := loc2 h2.hp
  generalize decide (rowsL M1 = rowsL M2) = bb at *
  clear h1 h2 o1 o2
  go_enter Try.func23, Try.ntmps23
  go_wp2_with fail
  refine HT1.out.mono ?_
  rintro e w1 ⟨rfl, rfl⟩
  go_wp2_with fail
  refine HT2.out.mono ?_
  rintro e w1 ⟨rfl, rfl⟩
  go_wp2_with fail
  refine wp_region_G (fun _ => True) [(0, .at_), (1, .at_), (2, .at_), (3, .at_), (4, .at_), (5, .at_), (6, .at_), (7, .at_), (8, .at_), (9, .at_), (10, .at_), (11, .at_), (12, .at_), (13, .at_), (14, .at_), (15, .at_), (16, .at_), (17, .at_), (18, .eff), (19, .at_), (20, .at_)] ?L3 (by kernel_rfl) (by kernel_rfl) ?hL3 (trivial) ?hG3
  case hL3 => simp only [pickOps, List.map_cons, List.map_nil, List.getD_cons_zero, List.getD_cons_succ]; rfl
  repeat (first | (refine wpG_at (v := ?_) (by rfl) ?_ ?_; rotate_left; (focus (first | (go_simp; with_reducible rfl) | (go_simp; done))); simp only [Act.put, List.setIfInBounds_toArray, List.set_cons_zero, List.set_cons_succ]) | (refine wpG_at_skip (by rfl) ?_; simp only [Act.put, List.setIfInBounds_toArray, List.set_cons_zero, List.set_cons_succ]) | (refine wpG_held_skip (by rfl) ?_; simp only [Act.put, List.setIfInBounds_toArray, List.set_cons_zero, List.set_cons_succ]) | (refine wpG_held (v := ?_) (by rfl) ?_ ?_; rotate_left; (focus (intro w' hSw; (try dsimp only at hSw); go_split_ands; first | (go_simp; with_reducible rfl) | (go_simp; done))); simp only [Act.put, List.setIfInBounds_toArray, List.set_cons_zero, List.set_cons_succ]))
  refine wpG_eff (by rfl) (fun K hK => ?_)
  go_simp
  refine HE.out.mono ?_
  rintro e w1 ⟨rfl, k1⟩
  have K1 := hid (((Kp.refl NoB w).drew).trans k1)
  refine hK _ _ trivial ?_
  clear hK K k1
  repeat (first | (refine wpG_at (v := ?_) (by rfl) ?_ ?_; rotate_left; (focus (first | (go_simp; with_reducible rfl) | (go_simp; done))); simp only [Act.put, List.setIfInBounds_toArray, List.set_cons_zero, List.set_cons_succ]) | (refine wpG_at_skip (by rfl) ?_; simp only [Act.put, List.setIfInBounds_toArray, List.set_cons_zero, List.set_cons_succ]) | (refine wpG_held_skip (by rfl) ?_; simp only [Act.put, List.setIfInBounds_toArray, List.set_cons_zero, List.set_cons_succ]) | (refine wpG_held (v := ?_) (by rfl) ?_ ?_; rotate_left; (focus (intro w' hSw; (try dsimp only at hSw); go_split_ands; first | (go_simp; with_reducible rfl) | (go_simp; done))); simp only [Act.put, List.setIfInBounds_toArray, List.set_cons_zero, List.set_cons_succ]))
  refine wpG_nil (NoPanic.normal ?_)
  go_wp2_with fail
  go_ret
  exact ⟨by simp, K1.out⟩
set_option maxRecDepth 100000 in
set_option maxHeartbeats 8000000 in
theorem rsame_any (h1 : RAt w q1 room v1 L1) (h2 : RAt w q2 room v2 L2) (l1 : L1.length ≤ 4000) (l2 : L2.length ≤ 4000) :
    Calls Try.prog 24 #[.pointer (some ⟨q1, 0, none⟩), .pointer (some ⟨q2, 0, none⟩)] w fun e w' => e = .returned (.bool (decide (L1 = L2))) ∧ Kp NoB w w' := by
  have La := loc2 h1.hq
  have Lb := loc2 h2.hq
  have H1 := hid h1
  have H2 := hid h2
  obtain ⟨o1, c1, hv1, _⟩ := h1.hv.form
  obtain ⟨o2, c2, hv2, _⟩ := h2.hv.form
  subst hv1; subst hv2
  clear h1 h2
  by_cases hl : L1.length = L2.length
  · have hls : ((L1.length : Int) != (L2.length : Int)) = false := by simp [hl]
    replace hl := hid hl
    go_enter Try.func24, Try.ntmps24
    go_wp2_with fail
    refine wp_region_G (fun _ => True) [(0, .at_), (1, .at_), (2, .at_), (3, .at_), (4, .at_), (5, .at_), (6, .at_), (7, .at_), (8, .at_), (9, .at_), (10, .at_), (11, .at_), (12, .at_), (13, .at_), (14, .at_), (15, .at_), (16, .at_), (17, .at_), (18, .at_), (19, .at_), (20, .at_), (21, .at_)] ?L4 (by kernel_rfl) (by kernel_rfl) ?hL4 (trivial) ?hG4
    case hL4 => simp only [pickOps, List.map_cons, List.map_nil, List.getD_cons_zero, List.getD_cons_succ]; rfl
    repeat (first | (refine wpG_at (v := ?_) (by rfl) ?_ ?_; rotate_left; (focus (first | (go_simp; with_reducible rfl) | (go_simp; done))); simp only [Act.put, List.setIfInBounds_toArray, List.set_cons_zero, List.set_cons_succ]) | (refine wpG_at_skip (by rfl) ?_; simp only [Act.put, List.setIfInBounds_toArray, List.set_cons_zero, List.set_cons_succ]) | (refine wpG_held_skip (by rfl) ?_; simp only [Act.put, List.setIfInBounds_toArray, List.set_cons_zero, List.set_cons_succ]) | (refine wpG_held (v := ?_) (by rfl) ?_ ?_; rotate_left; (focus (intro w' hSw; (try dsimp only at hSw); go_split_ands; first | (go_simp; with_reducible rfl) | (go_simp; done))); simp only [Act.put, List.setIfInBounds_toArray, List.set_cons_zero, List.set_cons_succ]))
    refine wpG_nil (NoPanic.normal ?_)
    go_wp2_with fail
    go_loopw [5] (fun i W => ∃ j : Nat, j ≤ L1.length ∧ i = .int .i64 j ∧ Kp NoB w W ∧ Hid (∀ k, k < j → L1[k]? = L2[k]?)) (fun i _ => L1.length - (intOf i).toNat)
    case atStart => exact ⟨0, Nat.zero_le _, rfl, (Kp.refl _ w).drew, hid (by intro k h; omega)⟩
    case round =>
      obtain ⟨j, hj, rfl, hK, hT⟩ := hrel
      clear La Lb
      have La := loc2 (H1.out.kn hK).hq
      have Lb := loc2 (H2.out.kn hK).hq
      have b3 : (0 : Int) ≤ (j : Int) := Int.natCast_nonneg _
      by_cases hlt : j < L1.length
      · have b4 : (j : Int) < (L1.length : Int) := by omega
        have b5 : (j : Int) < (L2.length : Int) := by have := hl.out; omega
        have hk : L1[j]? = some L1[j] := List.getElem?_eq_getElem hlt
        have hk2 : L2[j]? = some (L2[j]'(by have := hl.out; omega)) := List.getElem?_eq_getElem _
        obtain ⟨⟨x, y, z⟩, hxy⟩ : ∃ s, L1[j] = s := ⟨_, rfl⟩
        obtain ⟨⟨x2, y2, z2⟩, hxy2⟩ : ∃ s, (L2[j]'(by have := hl.out; omega)) = s := ⟨_, rfl⟩
        rw [hxy] at hk
        rw [hxy2] at hk2
        obtain ⟨b, c', hv', hcc, hcell⟩ := H1.out.cells hk
        injection hv' with hv1 _ hv3
        subst hv1; subst hv3
        obtain ⟨b', c', hv', hcc2, hcell2⟩ := H2.out.cells hk2
        injection hv' with hv1 _ hv3
        subst hv1; subst hv3
        have Le := hcell _ hK
        have Le2 := hcell2 _ hK
        have hcc' : (L1.length : Int) ≤ (c1 : Int) := by omega
        have hcc2' : (L2.length : Int) ≤ (c2 : Int) := by omega
        replace hcell := hid hcell
        replace hcell2 := hid hcell2
        replace hxy := hid hxy
        replace hxy2 := hid hxy2
        replace hk := hid hk
        replace hk2 := hid hk2
        replace hK := hid hK
        by_cases he : (x = x2 ∧ y = y2 ∧ z = z2)
        · obtain ⟨rfl, rfl, rfl⟩ := he
          go_wp2_with fail
          refine wp_region_G (fun _ => True) [(0, .at_), (1, .at_), (2, .at_), (3, .at_), (4, .at_), (5, .at_), (6, .at_), (7, .at_), (8, .at_), (9, .at_), (10, .at_), (11, .at_), (12, .at_), (13, .at_), (14, .at_)] ?L5 (by kernel_rfl) (by kernel_rfl) ?hL5 (trivial) ?hG5
          case hL5 => simp only [pickOps, List.map_cons, List.map_nil, List.getD_cons_zero, List.getD_cons_succ]; rfl
          repeat (first | (refine wpG_at (v := ?_) (by rfl) ?_ ?_; rotate_left; (focus (first | (go_simp; with_reducible rfl) | (go_simp; done))); simp only [Act.put, List.setIfInBounds_toArray, List.set_cons_zero, List.set_cons_succ]) | (refine wpG_at_skip (by rfl) ?_; simp only [Act.put, List.setIfInBounds_toArray, List.set_cons_zero, List.set_cons_succ]) | (refine wpG_held_skip (by rfl) ?_; simp only [Act.put, List.setIfInBounds_toArray, List.set_cons_zero, List.set_cons_succ]) | (refine wpG_held (v := ?_) (by rfl) ?_ ?_; rotate_left; (focus (intro w' hSw; (try dsimp only at hSw); go_split_ands; first | (go_simp; with_reducible rfl) | (go_simp; done))); simp only [Act.put, List.setIfInBounds_toArray, List.set_cons_zero, List.set_cons_succ]))
          refine wpG_nil (NoPanic.normal ?_)
          go_wp2_with fail
          go_roundw
          case rel => exact ⟨j + 1, by omega, by go_num, hK.out.drew, hid (fun k h => by
            by_cases e : k = j
            · subst e; rw [hk.out, hk2.out]
            · exact hT.out k (by omega))⟩
          case measure => simp [intOf]; omega
        · have hf := hid (show decide (L1 = L2) = false from decide_eq_false (fun e => he (by
            have e1 := hk.out
            rw [e, hk2.out] at e1
            injection e1 with e1; injection e1 with e1 e2; injection e2 with e2 e3
            exact ⟨e1.symm, e2.symm, e3.symm⟩)))
          rcases (show ¬ x = x2 ∨ (x = x2 ∧ ¬ y = y2) ∨ (x = x2 ∧ y = y2 ∧ ¬ z = z2) from by
            by_cases h1 : x = x2
            · by_cases h2 : y = y2
              · exact .inr (.inr ⟨h1, h2, fun h3 => he ⟨h1, h2, h3⟩⟩)
              · exact .inr (.inl ⟨h1, h2⟩)
            · exact .inl h1) with h1 | ⟨rfl, h1⟩ | ⟨rfl, rfl, h1⟩
          · have e2 : (x == x2) = false := by simpa using h1
            clear he h1
            go_wp2_with fail
            refine wp_region_G (fun _ => True) [(0, .at_), (1, .at_), (2, .at_), (3, .at_), (4, .at_), (5, .at_), (6, .at_), (7, .at_), (8, .at_), (9, .at_), (10, .at_), (11, .at_), (12, .at_), (13, .at_), (14, .at_)] ?L6 (by kernel_rfl) (by kernel_rfl) ?hL6 (trivial) ?hG6
            case hL6 => simp only [pickOps, List.map_cons, List.map_nil, List.getD_cons_zero, List.getD_cons_succ]; rfl
            repeat (first | (refine wpG_at (v := ?_) (by rfl) ?_ ?_; rotate_left; (focus (first | (go_simp; with_reducible rfl) | (go_simp; done))); simp only [Act.put, List.setIfInBounds_toArray, List.set_cons_zero, List.set_cons_succ]) | (refine wpG_at_skip (by rfl) ?_; simp only [Act.put, List.setIfInBounds_toArray, List.set_cons_zero, List.set_cons_succ]) | (refine wpG_held_skip (by rfl) ?_; simp only [Act.put, List.setIfInBounds_toArray, List.set_cons_zero, List.set_cons_succ]) | (refine wpG_held (v := ?_) (by rfl) ?_ ?_; rotate_left; (focus (intro w' hSw; (try dsimp only at hSw); go_split_ands; first | (go_simp; with_reducible rfl) | (go_simp; done))); simp only [Act.put, List.setIfInBounds_toArray, List.set_cons_zero, List.set_cons_succ]))
            refine wpG_nil (NoPanic.normal ?_)
            go_wp2_with fail
            go_ret
            exact ⟨by rw [hf.out]; rfl, hK.out.drew⟩
          · have e2 : (y == y2) = false := by simpa using h1
            clear he h1
            go_wp2_with fail
            refine wp_region_G (fun _ => True) [(0, .at_), (1, .at_), (2, .at_), (3, .at_), (4, .at_), (5, .at_), (6, .at_), (7, .at_), (8, .at_), (9, .at_), (10, .at_), (11, .at_), (12, .at_), (13, .at_), (14, .at_)] ?L7 (by kernel_rfl) (by kernel_rfl) ?hL7 (trivial) ?hG7
            case hL7 => simp only [pickOps, List.map_cons, List.map_nil, List.getD_cons_zero, List.getD_cons_succ]; rfl
            repeat (first | (refine wpG_at (v := ?_) (by rfl) ?_ ?_; rotate_left; (focus (first | (go_simp; with_reducible rfl) | (go_simp; done))); simp only [Act.put, List.setIfInBounds_toArray, List.set_cons_zero, List.set_cons_succ]) | (refine wpG_at_skip (by rfl) ?_; simp only [Act.put, List.setIfInBounds_toArray, List.set_cons_zero, List.set_cons_succ]) | (refine wpG_held_skip (by rfl) ?_; simp only [Act.put, List.setIfInBounds_toArray, List.set_cons_zero, List.set_cons_succ]) | (refine wpG_held (v := ?_) (by rfl) ?_ ?_; rotate_left; (focus (intro w' hSw; (try dsimp only at hSw); go_split_ands; first | (go_simp; with_reducible rfl) | (go_simp; done))); simp only [Act.put, List.setIfInBounds_toArray, List.set_cons_zero, List.set_cons_succ]))
            refine wpG_nil (NoPanic.normal ?_)
            go_wp2_with fail
            go_ret
            exact ⟨by rw [hf.out]; rfl, hK.out.drew⟩
          · have e2 : (z == z2) = false := by simpa using h1
            clear he h1
            go_wp2_with fail
            refine wp_region_G (fun _ => True) [(0, .at_), (1, .at_), (2, .at_), (3, .at_), (4, .at_), (5, .at_), (6, .at_), (7, .at_), (8, .at_), (9, .at_), (10, .at_), (11, .at_), (12, .at_), (13, .at_), (14, .at_)] ?L8 (by kernel_rfl) (by kernel_rfl) ?hL8 (trivial) ?hG8
            case hL8 => simp only [pickOps, List.map_cons, List.map_nil, List.getD_cons_zero, List.getD_cons_succ]; rfl
            repeat (first | (refine wpG_at (v := ?_) (by rfl) ?_ ?_; rotate_left; (focus (first | (go_simp; with_reducible rfl) | (go_simp; done))); simp only [Act.put, List.setIfInBounds_toArray, List.set_cons_zero, List.set_cons_succ]) | (refine wpG_at_skip (by rfl) ?_; simp only [Act.put, List.setIfInBounds_toArray, List.set_cons_zero, List.set_cons_succ]) | (refine wpG_held_skip (by rfl) ?_; simp only [Act.put, List.setIfInBounds_toArray, List.set_cons_zero, List.set_cons_succ]) | (refine wpG_held (v := ?_) (by rfl) ?_ ?_; rotate_left; (focus (intro w' hSw; (try dsimp only at hSw); go_split_ands; first | (go_simp; with_reducible rfl) | (go_simp; done))); simp only [Act.put, List.setIfInBounds_toArray, List.set_cons_zero, List.set_cons_succ]))
            refine wpG_nil (NoPanic.normal ?_)
            go_wp2_with fail
            go_ret
            exact ⟨by rw [hf.out]; rfl, hK.out.drew⟩
      · obtain rfl : j = L1.length := by omega
        have ht := hid (show decide (L1 = L2) = true from decide_eq_true (List.ext_getElem? (fun k => by
          by_cases h : k < L1.length
          · exact hT.out k h
          · rw [List.getElem?_eq_none (by omega), List.getElem?_eq_none (by have := hl.out; omega)])))
        go_wp2_with fail
        go_ret
        exact ⟨by rw [ht.out]; rfl, hK⟩
  · have hls : ((L1.length : Int) != (L2.length : Int)) = true := by simp; omega
    have hf := hid (show decide (L1 = L2) = false from decide_eq_false (fun e => hl (by rw [e])))
    clear hl
    go_enter Try.func24, Try.ntmps24
    go_wp2_with fail
    refine wp_region_G (fun _ => True) [(0, .at_), (1, .at_), (2, .at_), (3, .at_), (4, .at_), (5, .at_), (6, .at_), (7, .at_), (8, .at_), (9, .at_), (10, .at_), (11, .at_), (12, .at_), (13, .at_), (14, .at_), (15, .at_), (16, .at_), (17, .at_), (18, .at_), (19, .at_), (20, .at_), (21, .at_)] ?L9 (by kernel_rfl) (by kernel_rfl) ?hL9 (trivial) ?hG9
    case hL9 => simp only [pickOps, List.map_cons, List.map_nil, List.getD_cons_zero, List.getD_cons_succ]; rfl
    repeat (first | (refine wpG_at (v := ?_) (by rfl) ?_ ?_; rotate_left; (focus (first | (go_simp; with_reducible rfl) | (go_simp; done))); simp only [Act.put, List.setIfInBounds_toArray, List.set_cons_zero, List.set_cons_succ]) | (refine wpG_at_skip (by rfl) ?_; simp only [Act.put, List.setIfInBounds_toArray, List.set_cons_zero, List.set_cons_succ]) | (refine wpG_held_skip (by rfl) ?_; simp only [Act.put, List.setIfInBounds_toArray, List.set_cons_zero, List.set_cons_succ]) | (refine wpG_held (v := ?_) (by rfl) ?_ ?_; rotate_left; (focus (intro w' hSw; (try dsimp only at hSw); go_split_ands; first | (go_simp; with_reducible rfl) | (go_simp; done))); simp only [Act.put, List.setIfInBounds_toArray, List.set_cons_zero, List.set_cons_succ]))
    refine wpG_nil (NoPanic.normal ?_)
    go_wp2_with fail
    go_ret
    exact ⟨by rw [hf.out]; rfl, (Kp.refl _ w).drew⟩
end
end Go.Proofs.Ytbgojgnbbkgkgaa
