/- Walks: both look the same. -/
import Derived.Test.YtplbkjgkocnehaaU21
namespace Go.Proofs.Ytplbkjgkocnehaa
set_option linter.unusedSimpArgs false
set_option linter.unusedVariables false
open Go.RowKit
attribute [local go_sem ↓] Go.wp_at_zero Go.wp_at_succ
section
variable {w w' : World} {p q : Nat} {u v dv ov rv : Value} {H : List HV} {G : List QV} {D Z : List Nat} {S : List (Ret × List Int)} {K : Nat}
theorem told_cells {w0 w : World} {v : Value} {L : List XV} {X : List Ret} (h : Told w0 w v L X) {k : Nat} {h' : XV} (hk : L[k]? = some h') : ∃ b c, v = .slice (some ⟨b, 0, none⟩) L.length c ∧ L.length ≤ c ∧ b < w.heap.size ∧
    w.cell? ⟨b, k * 3, none⟩ = some h'.a ∧ w.cell? ⟨b, k * 3 + 1, none⟩ = some h'.b ∧ w.cell? ⟨b, k * 3 + 2, none⟩ = some h'.c := by
  obtain ⟨b, c, A, hv, hb, hA, hc, _⟩ := h.r.pos eX_len (by have := (List.getElem?_eq_some_iff.1 hk).1; omega)
  refine ⟨b, c, hv, hc, blk_lt hb, ?_, ?_, ?_⟩
  · rw [cell_of hb]; exact hA k 0 _ hk (by omega)
  · rw [cell_of hb]; exact hA k 1 _ hk (by omega)
  · rw [cell_of hb]; exact hA k 2 _ hk (by omega)
theorem qrow_cells (h : QAt w q dv ov rv D Z G S) {k : Nat} {h' : QV} (hk : G[k]? = some h') : ∃ b c, rv = .slice (some ⟨b, 0, none⟩) S.length c ∧ S.length ≤ c ∧ b < w.heap.size ∧
    w.cell? ⟨b, k * 4, none⟩ = some h'.a ∧ w.cell? ⟨b, k * 4 + 1, none⟩ = some h'.b ∧ w.cell? ⟨b, k * 4 + 2, none⟩ = some h'.c ∧ w.cell? ⟨b, k * 4 + 3, none⟩ = some h'.o := by
  obtain ⟨b, c, A, hv, hb, hA, hc, _⟩ := h.hr.pos eQ_len (by have := (List.getElem?_eq_some_iff.1 hk).1; omega)
  rw [h.hl] at hv hc
  refine ⟨b, c, hv, hc, blk_lt hb, ?_, ?_, ?_, ?_⟩
  · rw [cell_of hb]; exact hA k 0 _ hk (by omega)
  · rw [cell_of hb]; exact hA k 1 _ hk (by omega)
  · rw [cell_of hb]; exact hA k 2 _ hk (by omega)
  · rw [cell_of hb]; exact hA k 3 _ hk (by omega)
set_option maxRecDepth 100000 in
set_option maxHeartbeats 16000000 in
theorem same_any (h : TT w p u v H q dv ov rv G D Z S K) : Calls Try.prog 25 #[.pointer (some ⟨p, 0, none⟩), .pointer (some ⟨q, 0, none⟩)] w fun e w' => e = .returned (.bool true) ∧ Kp NoB w w' := by
  have HA := hid (all_any h.c h.oc)
  have H0 := hid h
  have hrl : (relR Z S).length = S.length := by unfold relR; simp
  have hS := h.oq.r
  have hK := h.oq.k
  have n8 := h.oq.n8
  clear h
  go_enter Try.func25, Try.ntmps25
  go_wp2_with fail
  refine HA.out.mono ?_
  rintro e w1 ⟨x, L, rfl, hT, k1⟩
  have hLl : L.length = S.length := by rw [hT.l, List.length_map, hrl]
  obtain ⟨ox, cx, hxv, hcx, _⟩ := hT.r.form
  rw [hLl] at hxv hcx
  subst hxv
  have T1 := hid (H0.out.kn k1)
  obtain ⟨or', cr, hrv, hcr, _⟩ := T1.out.d.hr.form
  rw [T1.out.d.hl] at hrv hcr
  have Lq := loc3 T1.out.d.hq
  rw [hrv] at Lq
  have E1 := hid (len_any T1.out.c)
  rw [hrl] at E1
  have E2 := hid (ripe_any T1.out.c T1.out.oc)
  have E3 := hid (fun W (k : Kp NoB w1 W) => qripe_any (T1.out.d.kn k) T1.out.oq)
  have E4 := hid (fun W (k : Kp NoB w1 W) => waits_any (T1.out.c.kn k) T1.out.oc)
  have E5 := hid (fun W (k : Kp NoB w1 W) => qWaits_any (T1.out.d.kn k) T1.out.oq)
  rw [rel_ripe] at E2
  rw [rel_waits] at E4
  have hwl : (qwaitsL Z S).length ≤ 8 := by
    rw [← rel_waits]
    cases hR : relR Z S with
    | nil => exact Nat.zero_le _
    | cons r R' =>
      show (r.2.map _).length ≤ 8
      rw [List.length_map]
      have := T1.out.oc.w r.1 r.2 (by rw [hR]; exact List.mem_cons_self)
      exact Nat.le_trans (ws_len this.1 this.2) n8
  obtain ⟨rp, hrp⟩ : ∃ rp, qripe Z S = rp := ⟨_, rfl⟩
  rw [hrp] at E2 E3
  replace hrp := hid hrp
  replace hT := hid hT
  replace hrv := hid hrv
  have hk1 := hid k1
  replace hLl := hid hLl
  replace hrl := hid hrl
  replace hwl := hid hwl
  clear k1
  have hbb : (rp == rp) = true := beq_self_eq_true rp
  have hbn : (rp != rp) = false := by cases rp <;> rfl
  go_wp2_with fail
  refine E1.out.mono ?_
  rintro e w2 ⟨rfl, rfl⟩
  go_wp2_with fail
  refine E2.out.mono ?_
  rintro e w2 ⟨rfl, rfl⟩
  go_wp2_with fail
  refine (E3.out _ (Kp.refl _ _)).mono ?_
  rintro e w2 ⟨rfl, k2⟩
  have K2 := hid k2
  clear k2
  go_wp2_with fail
  refine (E4.out _ K2.out).mono ?_
  rintro e w3 ⟨y, rfl, hy, _, k3⟩
  have K3 := hid (K2.out.trans k3)
  obtain ⟨oy, cy, hyv, _⟩ := hy.form
  subst hyv
  replace hy := hid hy
  clear k3
  go_wp2_with fail
  refine (E5.out _ K3.out).mono ?_
  rintro e w4 ⟨z, rfl, hz, _, k4⟩
  have K4 := hid (K3.out.trans k4)
  have E6 := hid (sameInts_any (rowI_sl (hy.out.kp k4 (fun _ _ h => h))) (rowI_sl hz) (by have := hwl.out; omega) (by have := hwl.out; omega))
  rw [decide_eq_true rfl] at E6
  obtain ⟨oz, cz, hzv, _⟩ := hz.form
  subst hzv
  clear k4 hz hy
  go_wp2_with fail
  refine E6.out.mono ?_
  rintro e w5 ⟨rfl, k5⟩
  have K5 := hid (K4.out.trans k5)
  clear k5 Lq
  go_wp2_with fail
  go_loopw [6] (fun i W => ∃ j : Nat, j ≤ S.length ∧ i = .int .i64 j ∧ Kp NoB w1 W) (fun i _ => S.length - (intOf i).toNat)
  case atStart => exact ⟨0, Nat.zero_le _, rfl, K5.out⟩
  case round =>
    obtain ⟨j, hj, rfl, hk⟩ := hrel
    have d1 : (0 : Int) ≤ (j : Int) := Int.natCast_nonneg _
    by_cases hlt : j < S.length
    · have d2 : (j : Int) < (S.length : Int) := by omega
      obtain ⟨⟨y, out⟩, hs⟩ : ∃ s, S[j]? = some s := ⟨_, List.getElem?_eq_getElem hlt⟩
      obtain ⟨h1, hh1⟩ : ∃ h', L[j]? = some h' := ⟨_, List.getElem?_eq_getElem (by rw [hLl.out]; exact hlt)⟩
      obtain ⟨g1, hg1⟩ : ∃ h', G[j]? = some h' := ⟨_, List.getElem?_eq_getElem (by rw [T1.out.d.hl]; exact hlt)⟩
      have hTr := hT.out.kn hk
      have hDr := T1.out.d.kn hk
      have hx1 := hTr.x j h1 y hh1 (by rw [List.getElem?_map]; unfold relR; rw [List.getElem?_map, hs]; rfl)
      have hq1 := hDr.hh j g1 y out hg1 hs
      have hf : y.few := T1.out.oq.x y out (List.mem_of_getElem? hs)
      have SO := hid (sameone_any (w := wr.drew) (hx1.kn (Kp.refl _ wr).drew).ss (hq1.x.kn (Kp.refl _ wr).drew).ss hf hf)
      rw [decide_eq_true rfl] at SO
      obtain ⟨bx, cx', hxv, hcx', lbx, X0, X1, X2⟩ := told_cells hTr hh1
      rw [hLl.out] at hxv hcx'
      injection hxv with e1 _ e3
      subst e1; subst e3
      obtain ⟨bq, cq, hqv, hcq, lbq, Q0, Q1, Q2, Q3⟩ := qrow_cells hDr hg1
      have Lq := loc3 hDr.hq
      rw [hqv] at Lq
      replace hqv := hid hqv
      replace hk := hid hk
      replace hs := hid hs
      replace hh1 := hid hh1
      replace hg1 := hid hg1
      replace hf := hid hf
      clear hTr hDr hx1 hq1
      go_wp2_with fail
      refine wp_region_G (fun _ => True) [(0, .at_), (1, .at_), (2, .at_), (3, .at_), (4, .at_), (5, .at_), (6, .at_), (7, .at_), (8, .at_), (9, .at_), (10, .at_), (11, .at_), (12, .eff), (13, .at_)] ?L1 (by kernel_rfl) (by kernel_rfl) ?hL1 (trivial) ?hG1
      case hL1 => simp only [pickOps, List.map_cons, List.map_nil, List.getD_cons_zero, List.getD_cons_succ]; rfl
      repeat (first | (refine wpG_at (v := ?_) (by rfl) ?_ ?_; rotate_left; (focus (first | (go_simp; with_reducible rfl) | (go_simp; done))); simp only [Act.put, List.setIfInBounds_toArray, List.set_cons_zero, List.set_cons_succ]) | (refine wpG_at_skip (by rfl) ?_; simp only [Act.put, List.setIfInBounds_toArray, List.set_cons_zero, List.set_cons_succ]) | (refine wpG_held_skip (by rfl) ?_; simp only [Act.put, List.setIfInBounds_toArray, List.set_cons_zero, List.set_cons_succ]) | (refine wpG_held (v := ?_) (by rfl) ?_ ?_; rotate_left; (focus (intro w' hSw; (try dsimp only at hSw); go_split_ands; first | (go_simp; with_reducible rfl) | (go_simp; done))); simp only [Act.put, List.setIfInBounds_toArray, List.set_cons_zero, List.set_cons_succ]))
      refine wpG_eff (by rfl) (fun K hK => ?_)
      go_simp
      refine SO.out.mono ?_
      rintro e w6 ⟨rfl, k6⟩
      refine hK _ _ trivial ?_
      clear hK
      repeat (first | (refine wpG_at (v := ?_) (by rfl) ?_ ?_; rotate_left; (focus (first | (go_simp; with_reducible rfl) | (go_simp; done))); simp only [Act.put, List.setIfInBounds_toArray, List.set_cons_zero, List.set_cons_succ]) | (refine wpG_at_skip (by rfl) ?_; simp only [Act.put, List.setIfInBounds_toArray, List.set_cons_zero, List.set_cons_succ]) | (refine wpG_held_skip (by rfl) ?_; simp only [Act.put, List.setIfInBounds_toArray, List.set_cons_zero, List.set_cons_succ]) | (refine wpG_held (v := ?_) (by rfl) ?_ ?_; rotate_left; (focus (intro w' hSw; (try dsimp only at hSw); go_split_ands; first | (go_simp; with_reducible rfl) | (go_simp; done))); simp only [Act.put, List.setIfInBounds_toArray, List.set_cons_zero, List.set_cons_succ]))
      refine wpG_nil (NoPanic.normal ?_)
      go_wp2_with fail
      go_roundw
      case rel => exact ⟨j + 1, by omega, by go_num, (hk.out.drew).trans k6⟩
      case measure => simp [intOf]; omega
    · obtain rfl : j = S.length := by omega
      have hk' := hid hk
      clear hk
      go_wp2_with fail
      go_loopw [7] (fun i W => ∃ j : Nat, j ≤ D.length + 2 ∧ i = .int .i64 ((j : Int) - 1) ∧ Kp NoB w1 W) (fun i _ => (D.length + 2) - (intOf i + 1).toNat)
      case atStart => exact ⟨0, Nat.zero_le _, rfl, hk'.out⟩
      case round =>
        obtain ⟨j, hj, rfl, hk⟩ := hrel
        obtain ⟨z, hz⟩ : ∃ z : Int, z = (j : Int) - 1 := ⟨_, rfl⟩
        rw [← hz]
        have hDr := hid (T1.out.d.kn hk)
        have hCr := hid (T1.out.c.kn hk)
        obtain ⟨od, cd, hdv, hcd, hmd, _⟩ := hDr.out.hd.form
        have Lq := loc3 hDr.out.hq
        rw [hdv] at Lq
        have ED := hid (depth_any hCr.out T1.out.oc z)
        have z0 : -1 ≤ z := by omega
        have z1 : z ≤ 9 := by omega
        have hk2 := hid hk
        clear hk
        by_cases hle : z ≤ (D.length : Int)
        · by_cases hin : inT D z
          · obtain ⟨k, d, hzk, hd, e1, e2⟩ := in_get hin
            have hdep : depE D z = d := by unfold depE; rw [if_pos hin]; exact e1
            rw [hdep] at ED
            have i0 : 0 ≤ z := hin.1
            have i1 : z < (D.length : Int) := hin.2
            subst hzk
            obtain ⟨bd, cd2, hdv2, _, _, Ld, _, lbd, _⟩ := row_slot hDr.out.hd hd
            rw [hdv] at hdv2
            injection hdv2 with e4 _ e6
            subst e4; subst e6
            replace hdv := hid hdv
            replace hd := hid hd
            replace hz := hid hz
            clear hin hdep e1 e2
            go_wp2_with fail
            refine ED.out.mono ?_
            rintro e w7 ⟨rfl, rfl⟩
            go_wp2_with fail
            go_roundw
            case rel => exact ⟨j + 1, by have := hz.out; omega, by have := hz.out; go_num, hk2.out⟩
            case measure => have := hz.out; simp [intOf]; omega
          · have hdep : depE D z = 0 := by unfold depE; rw [if_neg hin]
            rw [hdep] at ED
            replace hdv := hid hdv
            rcases Int.lt_or_le z 0 with hneg | hpos
            · replace hz := hid hz
              clear hin hdep
              go_wp2_with fail
              refine ED.out.mono ?_
              rintro e w7 ⟨rfl, rfl⟩
              go_wp2_with fail
              go_roundw
              case rel => exact ⟨j + 1, by have := hz.out; omega, by have := hz.out; go_num, hk2.out⟩
              case measure => have := hz.out; simp [intOf]; omega
            · have hge : (D.length : Int) ≤ z := by unfold inT at hin; omega
              replace hz := hid hz
              clear hin hdep
              go_wp2_with fail
              refine ED.out.mono ?_
              rintro e w7 ⟨rfl, rfl⟩
              go_wp2_with fail
              go_roundw
              case rel => exact ⟨j + 1, by have := hz.out; omega, by have := hz.out; go_num, hk2.out⟩
              case measure => have := hz.out; simp [intOf]; omega
        · replace hdv := hid hdv
          go_wp2_with fail
          go_ret
          exact ⟨rfl, hk1.out.trans hk2.out⟩
end
end Go.Proofs.Ytplbkjgkocnehaa
