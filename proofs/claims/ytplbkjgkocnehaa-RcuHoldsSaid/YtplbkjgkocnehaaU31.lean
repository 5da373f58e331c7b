/- Walks: RcuHolds. -/
import Derived.Test.YtplbkjgkocnehaaU30
namespace Go.Proofs.Ytplbkjgkocnehaa
set_option linter.unusedSimpArgs false
set_option linter.unusedVariables false
open Go.RowKit Go.Shelf
attribute [local go_sem ↓] Go.wp_at_zero Go.wp_at_succ
theorem tmod3 (k : Int) : -3 < k.tmod 3 ∧ k.tmod 3 < 3 := by
  have := Int.lt_tmod_of_pos k (show (0 : Int) < 3 by omega)
  have := Int.tmod_lt_of_pos k (show (0 : Int) < 3 by omega)
  omega
theorem wsN_out {D' ws : List Nat} {t : Int} (h : ¬ (inT D' t ∧ t.toNat ∈ ws ∧ D'.getD t.toNat 0 = 0)) : wsN D' ws t = ws := by unfold wsN; rw [if_neg h]
theorem wsN_in {D' ws : List Nat} {t : Int} (h : inT D' t ∧ t.toNat ∈ ws ∧ D'.getD t.toNat 0 = 0) : wsN D' ws t = ws.filter (· != t.toNat) := by unfold wsN; rw [if_pos h]
theorem gone_len {ws : List Nat} {t : Nat} (hn : ws.Nodup) (h : t ∈ ws) : (ws.filter (· != t)).length = ws.length - 1 := by
  rw [← hn.erase_eq_filter, List.length_erase_of_mem h]
abbrev X3 : Ret := ⟨[], [(3, 1)], []⟩
set_option maxRecDepth 100000 in
set_option maxHeartbeats 32000000 in
theorem holds_good (w : World) {n : Nat} (n1 : 1 ≤ n) (n2 : n ≤ 8) (x : Option Addr) (len cap : Nat) (A : List Ac) (hL : ActsAt w w.heap.size x len A) (x2 : Option Addr) (len2 cap2 : Nat) (A2 : List Ac) (hL2 : ActsAt w w.heap.size x2 len2 A2) :
   Calls Try.prog 3 #[.int .i64 n, .slice x len cap, .slice x2 len2 cap2] w fun e w' => e = .returned (.bool true) ∧ Kp NoB w w' := by
  have HF := hid (few_any (cap := cap) hL (Nat.le_refl _) (most := 60) (by omega))
  have HF2 := hid (fun W (k : Kp NoB w W) => few_any (cap := cap2) (hL2.kp k (Nat.le_refl _) (fun _ h => h.elim)) k.size (most := 60) (by omega))
  have HN := hid (fun W => new_any n n1 n2 W)
  have HQ := hid (fun W => qnew_any n n1 n2 W)
  have HK := hid known_any
  have HM := hid (fun W => may_any n W)
  have HA := hid hL
  have HA2 := hid hL2
  have hmx := hL.mx
  have hmx2 := hL2.mx
  have b1 : (1 : Int) ≤ (n : Int) := by omega
  have b2 : (n : Int) ≤ 8 := by omega
  have hm : (decide ((1 : Int) ≤ (n : Int)) && decide ((n : Int) ≤ 8)) = true := by simp; omega
  rw [hm] at HM
  clear hL hL2 hm
  go_enter Try.func3, Try.ntmps3
  go_wp2_with fail
  refine HF.out.mono ?_
  rintro e w1 ⟨b, rfl, hb, k1⟩
  cases b
  · clear hb
    go_wp2_with fail
    refine (HK.out _).mono ?_
    rintro e w2 ⟨rfl, k2⟩
    go_wp2_with fail
    go_ret
    exact ⟨rfl, k1.trans k2⟩
  have hb1 := hid (hb rfl)
  clear hb
  go_wp2_with fail
  refine (HF2.out _ k1).mono ?_
  rintro e w1b ⟨b, rfl, hb, k1b⟩
  replace k1 := k1.trans k1b
  cases b
  · clear hb
    go_wp2_with fail
    refine (HK.out _).mono ?_
    rintro e w2 ⟨rfl, k2⟩
    go_wp2_with fail
    go_ret
    exact ⟨rfl, k1.trans k2⟩
  have hb2 := hid (hb rfl)
  clear hb k1b
  have K1 := hid k1
  clear k1
  go_wp2_with fail
  refine (HM.out _).mono ?_
  rintro e w2' ⟨rfl, rfl⟩
  go_wp2_with fail
  refine (HN.out _).mono ?_
  rintro e w2 ⟨p, u, rfl, U2, p2, u2, k2⟩
  have H2 := hid (⟨u, _, U2, UOk.new n1 n2, List.length_replicate, fun b hb => UAt.new_fp (n := n) p2 u2 hb, k2⟩ : HN0 w1b w2 p n 0)
  clear U2 p2 u2 k2
  go_wp2_with fail
  go_loopw [9] (fun i W => ∃ (j : Nat), j ≤ len ∧ i = .int .i64 j ∧ HN0 w1b W p n j) (fun i _ => len - (intOf i).toNat)
  case atStart => exact ⟨0, Nat.zero_le _, rfl, H2.out⟩
  case round =>
    obtain ⟨j, hj, rfl, hJ⟩ := hrel
    have c1 : (0 : Int) ≤ (j : Int) := Int.natCast_nonneg _
    by_cases hlt : j < len
    · have ha := HA.out.kp K1.out (Nat.le_refl _) (fun _ h => h.elim)
      have hjl : j < A.length := by rw [HA.out.ln]; exact hlt
      obtain ⟨z, hz⟩ : ∃ z, A[j]? = some z := ⟨_, List.getElem?_eq_getElem hjl⟩
      obtain ⟨y, rfl, hy, d0, d1, _⟩ := ha.at_ j z hz
      have hy2 : (y.add (j * 5)).block < w1b.heap.size := by
        rw [add_blk]; exact Nat.lt_of_lt_of_le hy K1.out.size
      have kJ := hid hJ.k
      have HS := hid (fun W (k : Kp NoB w1b W) => (⟨Eq.trans (cell_blk (by exact k.blk _ hy2 (fun h => h))) d0, Eq.trans (cell_blk (by exact k.blk _ hy2 (fun h => h))) d1⟩ : W.cell? (y.add (j * 5)) = some (.int .i64 z.k) ∧ W.cell? ⟨(y.add (j * 5)).block, (y.add (j * 5)).off + 1, none⟩ = some (.int .i64 z.t)))
      have c2 : (j : Int) < (len : Int) := by omega
      have c3 : (j : Int) < 60 := by have := hb1.out.1; omega
      have HD := hid (fun (q : Nat) (dv ov : Value) (w' : World) hQ hq k => do_fresh (q := q) (dv := dv) (ov := ov) (w' := w') hJ (by omega) n1 n2 hQ hq k (c := z.k.tmod 3) (tmod3 _) z.t)
      replace hJ := hid hJ
      replace ha := hid ha
      replace hz := hid hz
      clear d0 d1 hy2
      go_wp2_with fail
      refine wp_region_G (fun W => W.cell? (y.add (j * 5)) = some (.int .i64 z.k) ∧ W.cell? ⟨(y.add (j * 5)).block, (y.add (j * 5)).off + 1, none⟩ = some (.int .i64 z.t)) [(0, .held), (1, .at_), (3, .held), (4, .held), (5, .held), (6, .held), (7, .held), (8, .held), (9, .held), (10, .held), (11, .held), (12, .held), (13, .held), (14, .held), (2, .eff), (15, .eff)] ?L1 (by kernel_rfl) (by kernel_rfl) ?hL1 (HS.out _ kJ.out.drew) ?hG1
      case hL1 => simp only [pickOps, List.map_cons, List.map_nil, List.getD_cons_zero, List.getD_cons_succ]; rfl
      repeat (first | (refine wpG_at (v := ?_) (by rfl) ?_ ?_; rotate_left; (focus (first | (go_simp; with_reducible rfl) | (go_simp; done))); simp only [Act.put, List.setIfInBounds_toArray, List.set_cons_zero, List.set_cons_succ]) | (refine wpG_at_skip (by rfl) ?_; simp only [Act.put, List.setIfInBounds_toArray, List.set_cons_zero, List.set_cons_succ]) | (refine wpG_held_skip (by rfl) ?_; simp only [Act.put, List.setIfInBounds_toArray, List.set_cons_zero, List.set_cons_succ]) | (refine wpG_held (v := ?_) (by rfl) ?_ ?_; rotate_left; (focus (intro w' hSw; (try dsimp only at hSw); go_split_ands; first | (go_simp; with_reducible rfl) | (go_simp; done))); simp only [Act.put, List.setIfInBounds_toArray, List.set_cons_zero, List.set_cons_succ]))
      refine wpG_eff (by rfl) (fun K hK => ?_)
      go_simp
      refine (HQ.out _).mono ?_
      rintro e w3 ⟨q, dv, ov, rfl, Q3, q3, k3⟩
      have k3' := ((Kp.refl NoB wr).drew).trans k3
      have HD3 := hid (HD.out q dv ov w3 Q3 q3 k3')
      refine hK _ _ (HS.out _ (kJ.out.trans k3')) ?_
      clear hK K Q3 q3 k3 k3'
      repeat (first | (refine wpG_at (v := ?_) (by rfl) ?_ ?_; rotate_left; (focus (first | (go_simp; with_reducible rfl) | (go_simp; done))); simp only [Act.put, List.setIfInBounds_toArray, List.set_cons_zero, List.set_cons_succ]) | (refine wpG_at_skip (by rfl) ?_; simp only [Act.put, List.setIfInBounds_toArray, List.set_cons_zero, List.set_cons_succ]) | (refine wpG_held_skip (by rfl) ?_; simp only [Act.put, List.setIfInBounds_toArray, List.set_cons_zero, List.set_cons_succ]) | (refine wpG_held (v := ?_) (by rfl) ?_ ?_; rotate_left; (focus (intro w' hSw; (try dsimp only at hSw); go_split_ands; first | (go_simp; with_reducible rfl) | (go_simp; done))); simp only [Act.put, List.setIfInBounds_toArray, List.set_cons_zero, List.set_cons_succ]))
      refine wpG_eff (by rfl) (fun K hK => ?_)
      go_simp
      refine HD3.out.mono ?_
      rintro e w4 ⟨b, rfl, J4⟩
      refine hK _ _ (HS.out _ J4.k) ?_
      clear hK K
      replace J4 := hid J4
      repeat (first | (refine wpG_at (v := ?_) (by rfl) ?_ ?_; rotate_left; (focus (first | (go_simp; with_reducible rfl) | (go_simp; done))); simp only [Act.put, List.setIfInBounds_toArray, List.set_cons_zero, List.set_cons_succ]) | (refine wpG_at_skip (by rfl) ?_; simp only [Act.put, List.setIfInBounds_toArray, List.set_cons_zero, List.set_cons_succ]) | (refine wpG_held_skip (by rfl) ?_; simp only [Act.put, List.setIfInBounds_toArray, List.set_cons_zero, List.set_cons_succ]) | (refine wpG_held (v := ?_) (by rfl) ?_ ?_; rotate_left; (focus (intro w' hSw; (try dsimp only at hSw); go_split_ands; first | (go_simp; with_reducible rfl) | (go_simp; done))); simp only [Act.put, List.setIfInBounds_toArray, List.set_cons_zero, List.set_cons_succ]))
      refine wpG_nil (NoPanic.normal ?_)
      go_wp2_with fail
      go_roundw
      case rel => exact ⟨j + 1, by omega, by go_num, J4.out⟩
      case measure => simp [intOf]; omega
    · obtain rfl : j = len := by omega
      obtain ⟨u', D, hU, hO, hn, hfp, hk⟩ := hJ
      subst hn
      have hmk := fun w => run_make_rows (P := Try.prog) eB_len (by omega) false 38 4 _ 1 u38 i4 rfl D.length (by omega) (by omega) w
      have hlen := hid hb1.out.1
      obtain ⟨bh, hbh⟩ : ∃ bh, wr.heap.size = bh := ⟨_, rfl⟩
      have R0 : RowAt (wr.alloc (.cells (rows eB (List.replicate D.length false)) 4)) 4 eB 1 (.slice (some ⟨bh, 0, none⟩) D.length D.length) (List.replicate D.length false) := by
        have := RowAt.new eB_len wr 4 (List.replicate D.length false) (by simp [maxLen]; omega)
        rw [List.length_replicate, hbh] at this
        exact this
      have Z0 := hid (⟨_, R0, List.length_replicate, fun k hk => by rw [List.getElem?_replicate, if_pos hk]; rfl⟩ : Row01 (wr.alloc (.cells (rows eB (List.replicate D.length false)) 4)) (.slice (some ⟨bh, 0, none⟩) D.length D.length) D.length (inK D 0))
      have UA := hid (hU.kn ((Kp.refl NoB wr).alloc (.cells (rows eB (List.replicate D.length false)) 4)))
      have kA := hid (hk.trans ((Kp.refl NoB wr).alloc (.cells (rows eB (List.replicate D.length false)) 4)))
      have hnw := hid hfp
      have hnb := hid (show ¬ ufp p u' (.slice none 0 0) [] bh from fun hb => by have := hU.lt bh hb; omega)
      have hbw := hid (show w1b.heap.size ≤ bh from hbh ▸ hk.size)
      have HO := hid hO
      clear hU hO hfp hk R0
      go_wp2_with fail
      try rw [hbh]
      generalize (wr.alloc (.cells (rows eB (List.replicate D.length false)) 4)) = wA at *
      go_loopw [11, 12] (fun s i W => ∃ (t : Nat), t ≤ D.length ∧ i = .int .i64 t ∧ s = .int .i64 (inK D t).length ∧ Row01 W (.slice (some ⟨bh, 0, none⟩) D.length D.length) D.length (inK D t) ∧ Kp (· = bh) wA W) (fun _ i _ => D.length - (intOf i).toNat)
      case atStart => exact ⟨0, Nat.zero_le _, rfl, rfl, Z0.out, Kp.refl _ _⟩
      case round =>
        obtain ⟨t, ht, rfl, rfl, hR, kU⟩ := hrel
        have f1 : (0 : Int) ≤ (t : Int) := Int.natCast_nonneg _
        have hUr := UA.out.kp kU (fun b hb e => hnb.out (e ▸ hb))
        by_cases htn : t < D.length
        · have f2 : (t : Int) < (D.length : Int) := by omega
          obtain ⟨d, hd⟩ : ∃ d, D[t]? = some d := ⟨_, List.getElem?_eq_getElem htn⟩
          have HE := hid (depth_any hUr HO.out t)
          rw [depE_get hd] at HE
          have hgd : D.getD t 0 = d := by rw [List.getD_eq_getElem?_getD, hd]; rfl
          have hsu := inK_succ D t
          rw [hgd] at hsu
          replace hUr := hid hUr
          by_cases h0 : d = 0
          · subst h0
            rw [if_pos rfl, List.append_nil] at hsu
            replace hR := hid hR
            go_wp2_with fail
            refine HE.out.mono ?_
            rintro e w4 ⟨rfl, rfl⟩
            go_wp2_with fail
            go_roundw
            case rel => exact ⟨t + 1, by omega, by go_num, by rw [hsu], by rw [hsu]; exact hR.out, kU⟩
            case measure => simp [intOf]; omega
          · have h0' : 0 < (d : Int) := by omega
            rw [if_neg h0] at hsu
            have hle : (inK D t).length ≤ t := by unfold inK; exact Nat.le_trans (List.length_filter_le _ _) (by rw [List.length_range]; exact Nat.le_refl _)
            obtain ⟨bh', ch', eh, _, hc, hf, hbl, hst⟩ := hR.slot htn
            injection eh with eh _ ec
            subst ec
            injection eh with eh
            injection eh with eh
            subst eh
            have hR2 := hid (hst true (inK D (t + 1)) (fun j hj hjt => by rw [hsu]; simp [hjt]) (by rw [hsu]; simp))
            have kU2 := hid (kU.setCell (p := ⟨bh, t, none⟩) (.bool true) (fun _ => rfl))
            replace hR := hid hR
            clear hst
            go_wp2_with fail
            refine HE.out.mono ?_
            rintro e w4 ⟨rfl, rfl⟩
            go_wp2_with fail
            go_roundw
            case rel => exact ⟨t + 1, by omega, by go_num, by rw [hsu, List.length_append]; go_num, hR2.out, kU2.out⟩
            case measure => simp [intOf]; omega
        · obtain rfl : t = D.length := by omega
          have hRB := hid hR
          have UB := hid hUr
          have KB := hid (kA.out.trans' kU (fun b hb e => by have := hbw.out; omega))
          have HLn := hid (len_any hUr)
          clear hR hUr
          go_wp2_with fail
          refine HLn.out.mono ?_
          rintro e w4 ⟨rfl, rfl⟩
          go_wp2_with fail
          refine (one_any 3 _).mono ?_
          rintro e w5 ⟨v3, rfl, hx3, hn3, k5⟩
          have U5 := UB.out.kn k5
          have R5 := hRB.out.kn k5
          have K5 := KB.out.trans k5
          have HRt := hid (retire_any U5 HO.out hx3.sl ⟨by simp, by simp, by simp⟩)
          rw [show retR D [] ⟨[], [((3 : Int), (1 : Int))], []⟩ = [(X3, inside D)] from rfl] at HRt
          have O6 := hid (HO.out.ret (by have := hlen.out; omega) (x := X3) ⟨by simp, by simp, by simp⟩)
          rw [show retR D [] X3 = [(X3, inside D)] from rfl] at O6
          have hlt5 := hid (U5.lt)
          replace U5 := hid U5
          replace R5 := hid R5
          replace K5 := hid K5
          clear hx3 hn3 k5
          go_wp2_with fail
          refine HRt.out.mono ?_
          rintro e w6 ⟨rfl, v6, H6, U6, g6, _⟩
          have hnw6 := hid (show ∀ b, ufp p u' v6 H6 b → w1b.heap.size ≤ b from fun b hb => (g6.fp b hb).elim (hnw.out b) (fun h => Nat.le_trans K5.out.size h))
          have hnb6 := hid (show ¬ ufp p u' v6 H6 bh from fun hb => (g6.fp bh hb).elim hnb.out (fun h => by
            obtain ⟨bz, cz, ez, _, _, _, hz, _⟩ := R5.out.slot (k := 0) n1
            injection ez with ez _ _
            injection ez with ez
            injection ez with ez
            subst ez
            omega))
          have R6 := hid (R5.out.kp g6.kp (fun b hb hu => by injection hb with hb; subst hb; exact hnb.out hu))
          have K6 := hid (K5.out.trans' g6.kp (fun b hb hu => by have := hnw.out b hu; omega))
          replace U6 := hid U6
          clear g6
          go_wp2_with fail
          go_loopw [11, 13] (fun s i W => ∃ (m : Nat) (D' : List Nat) (ws : List Nat), m ≤ len2 ∧ i = .int .i64 m ∧ s = .int .i64 ws.length ∧ UAt W p u' v6 D' H6 [(X3, ws)] ∧ UOk D' [(X3, ws)] (j + 1 + m) ∧ D'.length = D.length ∧ Row01 W (.slice (some ⟨bh, 0, none⟩) D.length D.length) D.length ws ∧ Kp NoB w1b W) (fun _ i _ => len2 - (intOf i).toNat)
          case atStart => exact ⟨0, D, _, Nat.zero_le _, rfl, rfl, U6.out, O6.out, rfl, R6.out, K6.out⟩
          case round =>
            obtain ⟨m, D1, ws, hm2, rfl, rfl, hU, hO1, hD1, hR, kW⟩ := hrel
            have g1 : (0 : Int) ≤ (m : Int) := Int.natCast_nonneg _
            have hl2 := hid hb2.out.1
            by_cases hml : m < len2
            · have g2 : (m : Int) < (len2 : Int) := by omega
              have ha := HA2.out.kp (K1.out.trans kW) (Nat.le_refl _) (fun _ h => h.elim)
              obtain ⟨z, hz⟩ : ∃ z, A2[m]? = some z := ⟨_, List.getElem?_eq_getElem (by rw [HA2.out.ln]; exact hml)⟩
              obtain ⟨y, rfl, hy, d0, d1, _⟩ := ha.at_ m z hz
              have hy2 : (y.add (m * 5)).block < wr.heap.size := by
                rw [add_blk]; exact Nat.lt_of_lt_of_le hy (K1.out.trans kW).size
              have HS := hid (fun W (k : Kp NoB wr W) => (⟨Eq.trans (cell_blk (by exact k.blk _ hy2 (fun h => h))) d0, Eq.trans (cell_blk (by exact k.blk _ hy2 (fun h => h))) d1⟩ : W.cell? (y.add (m * 5)) = some (.int .i64 z.k) ∧ W.cell? ⟨(y.add (m * 5)).block, (y.add (m * 5)).off + 1, none⟩ = some (.int .i64 z.t)))
              have HR := hid (ripe_any hU hO1)
              rw [show ripe [(X3, ws)] = ((ws.length : Int) == 0) from rfl] at HR
              have HW := hid (waits_any hU hO1)
              have hbb : (((ws.length : Int) == 0) != ((ws.length : Int) == 0)) = false := by simp
              have hwl : ws.length ≤ 8 := Nat.le_trans (ws_len (hO1.w X3 ws List.mem_cons_self).1 (hO1.w X3 ws List.mem_cons_self).2) hO1.n8
              have hwn : ws.Nodup := (hO1.w X3 ws List.mem_cons_self).1.imp (fun h e => by omega)
              obtain ⟨zk, zt, za, zb, zc, zx⟩ := z
              dsimp only at HS
              clear d0 d1 hy2
              replace ha := hid ha
              replace hz := hid hz
              replace hU := hid hU
              replace hO1 := hid hO1
              replace hR := hid hR
              replace kW := hid kW
              go_wp2_with fail
              refine HR.out.mono ?_
              rintro e w7 ⟨rfl, rfl⟩
              go_wp2_with fail
              refine HW.out.mono ?_
              rintro e w7 ⟨xw, rfl, hxw, _, k7⟩
              obtain ⟨ow, cw, exw, _⟩ := hxw.form
              rw [show (waitsL [(X3, ws)]).length = ws.length from List.length_map _] at exw
              subst exw
              obtain ⟨c0, c1'⟩ := HS.out w7 k7
              have U7 := hid (hU.out.kn k7)
              have R7 := hid (hR.out.kn k7)
              have K7 := hid (kW.out.trans k7)
              have HEn := hid (enter_st U7.out hO1.out (by have := hlen.out; have := hl2.out; omega) zt)
              have HLe := hid (leave_st U7.out hO1.out (by have := hlen.out; have := hl2.out; omega) zt)
              clear hxw k7
              by_cases hk1 : zk.tmod 3 = 1
              · have hk2 : (zk.tmod 3 == 1) = true := by simpa using hk1
                go_wp2_with fail
                refine HEn.out.mono ?_
                rintro e w8 ⟨c, D2, rfl, hD2, U8, O8, g8⟩
                have R8 := R7.out.kp g8.kp (fun b hb hu => by injection hb with hb; subst hb; exact hnb6.out hu)
                have K8 := hid (K7.out.trans' g8.kp (fun b hb hu => by have := hnw6.out b hu; omega))
                have HE := hid (depth_any U8 O8 zt)
                have hD2' : D2.length = D.length := hD2.trans hD1
                clear g8
                rcases (show zt < 0 ∨ (0 ≤ zt ∧ (D.length : Int) ≤ zt) ∨ (0 ≤ zt ∧ zt < (D.length : Int)) from by omega) with h1 | ⟨h1, h2⟩ | ⟨h1, h2⟩
                · have e := wsN_out (D' := D2) (ws := ws) (t := zt) (fun h => by have := h.1.1; omega)
                  rw [e] at U8 O8
                  replace U8 := hid U8
                  replace O8 := hid O8
                  replace R8 := hid R8
                  go_wp2_with fail
                  go_roundw
                  case rel => exact ⟨m + 1, D2, ws, by omega, by go_num, rfl, U8.out, O8.out, hD2', R8.out, K8.out⟩
                  case measure => simp [intOf]; omega
                · have e := wsN_out (D' := D2) (ws := ws) (t := zt) (fun h => by have := h.1.2; omega)
                  rw [e] at U8 O8
                  replace U8 := hid U8
                  replace O8 := hid O8
                  replace R8 := hid R8
                  go_wp2_with fail
                  go_roundw
                  case rel => exact ⟨m + 1, D2, ws, by omega, by go_num, rfl, U8.out, O8.out, hD2', R8.out, K8.out⟩
                  case measure => simp [intOf]; omega
                · obtain ⟨tn, rfl⟩ : ∃ tn : Nat, zt = tn := ⟨zt.toNat, by omega⟩
                  have htn : tn < D.length := by omega
                  obtain ⟨bh', ch', eh, _, hc, hf, hbl, hst⟩ := R8.slot htn
                  injection eh with eh _ ec
                  subst ec
                  injection eh with eh
                  injection eh with eh
                  subst eh
                  obtain ⟨d, hd⟩ : ∃ d, D2[tn]? = some d := ⟨_, List.getElem?_eq_getElem (by omega)⟩
                  have hgd : D2.getD tn 0 = d := by rw [List.getD_eq_getElem?_getD, hd]; rfl
                  rw [depE_get hd] at HE
                  by_cases hmem : tn ∈ ws
                  · rw [decide_eq_true hmem] at hc
                    by_cases h0 : d = 0
                    · subst h0
                      have e := wsN_in (D' := D2) (ws := ws) (t := (tn : Int)) ⟨⟨by omega, by omega⟩, by rw [Int.toNat_natCast]; exact hmem, by rw [Int.toNat_natCast]; exact hgd⟩
                      rw [Int.toNat_natCast] at e
                      rw [e] at U8 O8
                      have R9 := hid (hst false (ws.filter (· != tn)) (fun j _ hj => by simp [hj]) (by simp))
                      have KS : Kp (fun x => x = bh) w8 (w8.setCell ⟨bh, tn, none⟩ (.bool false)) := (Kp.refl (fun x => x = bh) w8).setCell (p := ⟨bh, tn, none⟩) _ (fun _ => rfl)
                      have U9 := hid (U8.kp KS (fun b hb e => hnb6.out (e ▸ hb)))
                      have K9 := hid (K8.out.trans' KS (fun b hb e => by have := hbw.out; omega))
                      have hln := gone_len hwn hmem
                      have hpos : 0 < ws.length := List.length_pos_of_mem hmem
                      replace U8 := hid U8
                      replace O8 := hid O8
                      replace R8 := hid R8
                      clear KS hst
                      go_wp2_with fail
                      refine HE.out.mono ?_
                      rintro e w9 ⟨rfl, rfl⟩
                      go_wp2_with fail
                      go_roundw
                      case rel => exact ⟨m + 1, D2, ws.filter (· != tn), by omega, by go_num, by rw [hln]; go_num, U9.out, O8.out, hD2', R9.out, K9.out⟩
                      case measure => simp [intOf]; omega
                    · have e := wsN_out (D' := D2) (ws := ws) (t := (tn : Int)) (fun h => h0 (by have := h.2.2; rw [Int.toNat_natCast] at this; omega))
                      rw [e] at U8 O8
                      have h0' : 0 < (d : Int) := by omega
                      replace U8 := hid U8
                      replace O8 := hid O8
                      replace R8 := hid R8
                      clear hst
                      go_wp2_with fail
                      refine HE.out.mono ?_
                      rintro e w9 ⟨rfl, rfl⟩
                      go_wp2_with fail
                      go_roundw
                      case rel => exact ⟨m + 1, D2, ws, by omega, by go_num, rfl, U8.out, O8.out, hD2', R8.out, K8.out⟩
                      case measure => simp [intOf]; omega
                  · rw [decide_eq_false hmem] at hc
                    have e := wsN_out (D' := D2) (ws := ws) (t := (tn : Int)) (fun h => hmem (by have := h.2.1; rw [Int.toNat_natCast] at this; exact this))
                    rw [e] at U8 O8
                    replace U8 := hid U8
                    replace O8 := hid O8
                    replace R8 := hid R8
                    clear hst
                    go_wp2_with fail
                    go_roundw
                    case rel => exact ⟨m + 1, D2, ws, by omega, by go_num, rfl, U8.out, O8.out, hD2', R8.out, K8.out⟩
                    case measure => simp [intOf]; omega
              · have hk2 : (zk.tmod 3 == 1) = false := by simpa using hk1
                go_wp2_with fail
                refine HLe.out.mono ?_
                rintro e w8 ⟨c, D2, rfl, hD2, U8, O8, g8⟩
                have R8 := R7.out.kp g8.kp (fun b hb hu => by injection hb with hb; subst hb; exact hnb6.out hu)
                have K8 := hid (K7.out.trans' g8.kp (fun b hb hu => by have := hnw6.out b hu; omega))
                have HE := hid (depth_any U8 O8 zt)
                have hD2' : D2.length = D.length := hD2.trans hD1
                clear g8
                rcases (show zt < 0 ∨ (0 ≤ zt ∧ (D.length : Int) ≤ zt) ∨ (0 ≤ zt ∧ zt < (D.length : Int)) from by omega) with h1 | ⟨h1, h2⟩ | ⟨h1, h2⟩
                · have e := wsN_out (D' := D2) (ws := ws) (t := zt) (fun h => by have := h.1.1; omega)
                  rw [e] at U8 O8
                  replace U8 := hid U8
                  replace O8 := hid O8
                  replace R8 := hid R8
                  go_wp2_with fail
                  go_roundw
                  case rel => exact ⟨m + 1, D2, ws, by omega, by go_num, rfl, U8.out, O8.out, hD2', R8.out, K8.out⟩
                  case measure => simp [intOf]; omega
                · have e := wsN_out (D' := D2) (ws := ws) (t := zt) (fun h => by have := h.1.2; omega)
                  rw [e] at U8 O8
                  replace U8 := hid U8
                  replace O8 := hid O8
                  replace R8 := hid R8
                  go_wp2_with fail
                  go_roundw
                  case rel => exact ⟨m + 1, D2, ws, by omega, by go_num, rfl, U8.out, O8.out, hD2', R8.out, K8.out⟩
                  case measure => simp [intOf]; omega
                · obtain ⟨tn, rfl⟩ : ∃ tn : Nat, zt = tn := ⟨zt.toNat, by omega⟩
                  have htn : tn < D.length := by omega
                  obtain ⟨bh', ch', eh, _, hc, hf, hbl, hst⟩ := R8.slot htn
                  injection eh with eh _ ec
                  subst ec
                  injection eh with eh
                  injection eh with eh
                  subst eh
                  obtain ⟨d, hd⟩ : ∃ d, D2[tn]? = some d := ⟨_, List.getElem?_eq_getElem (by omega)⟩
                  have hgd : D2.getD tn 0 = d := by rw [List.getD_eq_getElem?_getD, hd]; rfl
                  rw [depE_get hd] at HE
                  by_cases hmem : tn ∈ ws
                  · rw [decide_eq_true hmem] at hc
                    by_cases h0 : d = 0
                    · subst h0
                      have e := wsN_in (D' := D2) (ws := ws) (t := (tn : Int)) ⟨⟨by omega, by omega⟩, by rw [Int.toNat_natCast]; exact hmem, by rw [Int.toNat_natCast]; exact hgd⟩
                      rw [Int.toNat_natCast] at e
                      rw [e] at U8 O8
                      have R9 := hid (hst false (ws.filter (· != tn)) (fun j _ hj => by simp [hj]) (by simp))
                      have KS : Kp (fun x => x = bh) w8 (w8.setCell ⟨bh, tn, none⟩ (.bool false)) := (Kp.refl (fun x => x = bh) w8).setCell (p := ⟨bh, tn, none⟩) _ (fun _ => rfl)
                      have U9 := hid (U8.kp KS (fun b hb e => hnb6.out (e ▸ hb)))
                      have K9 := hid (K8.out.trans' KS (fun b hb e => by have := hbw.out; omega))
                      have hln := gone_len hwn hmem
                      have hpos : 0 < ws.length := List.length_pos_of_mem hmem
                      replace U8 := hid U8
                      replace O8 := hid O8
                      replace R8 := hid R8
                      clear KS hst
                      go_wp2_with fail
                      refine HE.out.mono ?_
                      rintro e w9 ⟨rfl, rfl⟩
                      go_wp2_with fail
                      go_roundw
                      case rel => exact ⟨m + 1, D2, ws.filter (· != tn), by omega, by go_num, by rw [hln]; go_num, U9.out, O8.out, hD2', R9.out, K9.out⟩
                      case measure => simp [intOf]; omega
                    · have e := wsN_out (D' := D2) (ws := ws) (t := (tn : Int)) (fun h => h0 (by have := h.2.2; rw [Int.toNat_natCast] at this; omega))
                      rw [e] at U8 O8
                      have h0' : 0 < (d : Int) := by omega
                      replace U8 := hid U8
                      replace O8 := hid O8
                      replace R8 := hid R8
                      clear hst
                      go_wp2_with fail
                      refine HE.out.mono ?_
                      rintro e w9 ⟨rfl, rfl⟩
                      go_wp2_with fail
                      go_roundw
                      case rel => exact ⟨m + 1, D2, ws, by omega, by go_num, rfl, U8.out, O8.out, hD2', R8.out, K8.out⟩
                      case measure => simp [intOf]; omega
                  · rw [decide_eq_false hmem] at hc
                    have e := wsN_out (D' := D2) (ws := ws) (t := (tn : Int)) (fun h => hmem (by have := h.2.1; rw [Int.toNat_natCast] at this; exact this))
                    rw [e] at U8 O8
                    replace U8 := hid U8
                    replace O8 := hid O8
                    replace R8 := hid R8
                    clear hst
                    go_wp2_with fail
                    go_roundw
                    case rel => exact ⟨m + 1, D2, ws, by omega, by go_num, rfl, U8.out, O8.out, hD2', R8.out, K8.out⟩
                    case measure => simp [intOf]; omega
            · obtain rfl : m = len2 := by omega
              have HX := hid (fun (hr : ripe [(X3, ws)] = false) => next_no hU hO1 hr)
              have HY := hid (fun (hw : ws = []) => next_any (x := X3) (R' := []) (hw ▸ hU) (hw ▸ hO1))
              have kW' := hid kW
              by_cases hw : ws = []
              · subst hw
                have HY2 := hid (HY.out rfl)
                clear HX HY
                replace hU := hid hU
                replace hO1 := hid hO1
                replace hR := hid hR
                go_wp2_with fail
                refine HY2.out.mono ?_
                rintro e w10 ⟨a, b, c, v5, H5, rfl, A10, hR10, g10, k10, hfp⟩
                obtain ⟨oa, ca, e1, _⟩ := hR10.a.form
                obtain ⟨ob, cb, e2, _⟩ := hR10.b.form
                obtain ⟨oc, cc, e3, _⟩ := hR10.c.form
                subst e1; subst e2; subst e3
                obtain ⟨b6, hb6⟩ : ∃ b6, w10.heap.size = b6 := ⟨_, rfl⟩
                have K10 := hid (kW'.out.trans' k10 (fun b hb e => by have := hnw6.out p (.inl rfl); omega))
                have B6 := hid (show (w10.alloc (.cells #[.slice oa 0 ca, .slice ob 1 cb, .slice oc 0 cc] 35)).heap[b6]? = some (.cells #[.slice oa 0 ca, .slice ob 1 cb, .slice oc 0 cc] 35 (0, 0)) from blk_new' _ _ hb6.symm)
                have A11 := hid (A10.alloc (.cells #[.slice oa 0 ca, .slice ob 1 cb, .slice oc 0 cc] 35))
                have R11 := hid (hR10.kn ((Kp.refl NoB w10).alloc (.cells #[.slice oa 0 ca, .slice ob 1 cb, .slice oc 0 cc] 35)))
                have K11 := hid (K10.out.alloc (.cells #[.slice oa 0 ca, .slice ob 1 cb, .slice oc 0 cc] 35))
                clear A10 hR10 g10 k10 hfp
                go_wp2_with fail
                try rw [hb6]
                generalize (w10.alloc (.cells #[.slice oa 0 ca, .slice ob 1 cb, .slice oc 0 cc] 35)) = w11 at *
                have L6 := loc3 (blk_drew B6.out)
                refine wp_region_G (fun W => W.cell? ⟨b6, 0, none⟩ = some (.slice oa 0 ca) ∧ W.cell? ⟨b6, 1, none⟩ = some (.slice ob 1 cb) ∧ W.cell? ⟨b6, 2, none⟩ = some (.slice oc 0 cc)) [(0, .at_), (1, .at_), (2, .at_), (3, .at_), (4, .at_), (5, .at_), (6, .at_), (7, .at_), (8, .held), (9, .eff), (10, .eff), (11, .at_), (12, .at_), (13, .eff), (14, .at_), (15, .at_), (16, .at_), (17, .at_), (18, .at_), (19, .eff), (20, .at_), (21, .at_)] ?L2 (by kernel_rfl) (by kernel_rfl) ?hL2 (⟨L6.1, L6.2.1, L6.2.2.1⟩) ?hG2
                case hL2 => simp only [pickOps, List.map_cons, List.map_nil, List.getD_cons_zero, List.getD_cons_succ]; rfl
                repeat (first | (refine wpG_at (v := ?_) (by rfl) ?_ ?_; rotate_left; (focus (first | (go_simp; with_reducible rfl) | (go_simp; done))); simp only [Act.put, List.setIfInBounds_toArray, List.set_cons_zero, List.set_cons_succ]) | (refine wpG_at_skip (by rfl) ?_; simp only [Act.put, List.setIfInBounds_toArray, List.set_cons_zero, List.set_cons_succ]) | (refine wpG_held_skip (by rfl) ?_; simp only [Act.put, List.setIfInBounds_toArray, List.set_cons_zero, List.set_cons_succ]) | (refine wpG_held (v := ?_) (by rfl) ?_ ?_; rotate_left; (focus (intro w' hSw; (try dsimp only at hSw); go_split_ands; first | (go_simp; with_reducible rfl) | (go_simp; done))); simp only [Act.put, List.setIfInBounds_toArray, List.set_cons_zero, List.set_cons_succ]))
                refine wpG_eff (by rfl) (fun K hK => ?_)
                go_simp
                refine (one_any 3 _).mono ?_
                rintro e w14 ⟨x3, rfl, hx14, hn14, k14⟩
                have B14 := hid (k14.get (blk_drew B6.out) (fun h => h))
                have K14 := hid (K11.out.drew.trans k14)
                have A14 := hid (A11.out.drew.kn k14)
                have R14 := R11.out.kn (((Kp.refl NoB w11).drew).trans k14)
                have SO := hid (sameone_any R14.ss hx14.ss ⟨by simp, by simp, by simp⟩ ⟨by simp, by simp, by simp⟩)
                rw [show decide (X3 = ⟨[], [(3, 1)], []⟩) = true from rfl] at SO
                obtain ⟨ox2, cx2, hxv, _⟩ := hx14.b.form
                subst hxv
                have L14 := loc3 B14.out
                refine hK _ _ ⟨L14.1, L14.2.1, L14.2.2.1⟩ ?_
                clear hK K k14 hn14 hx14 R14 L6
                repeat (first | (refine wpG_at (v := ?_) (by rfl) ?_ ?_; rotate_left; (focus (first | (go_simp; with_reducible rfl) | (go_simp; done))); simp only [Act.put, List.setIfInBounds_toArray, List.set_cons_zero, List.set_cons_succ]) | (refine wpG_at_skip (by rfl) ?_; simp only [Act.put, List.setIfInBounds_toArray, List.set_cons_zero, List.set_cons_succ]) | (refine wpG_held_skip (by rfl) ?_; simp only [Act.put, List.setIfInBounds_toArray, List.set_cons_zero, List.set_cons_succ]) | (refine wpG_held (v := ?_) (by rfl) ?_ ?_; rotate_left; (focus (intro w' hSw; (try dsimp only at hSw); go_split_ands; first | (go_simp; with_reducible rfl) | (go_simp; done))); simp only [Act.put, List.setIfInBounds_toArray, List.set_cons_zero, List.set_cons_succ]))
                refine wpG_eff (by rfl) (fun K hK => ?_)
                go_simp
                refine SO.out.mono ?_
                rintro e w15 ⟨rfl, k15⟩
                have B15 := hid (k15.get B14.out (fun h => h))
                have HL15 := hid (len_any (A14.out.kn k15))
                have K15 := hid (K14.out.trans k15)
                have L15 := loc3 B15.out
                refine hK _ _ ⟨L15.1, L15.2.1, L15.2.2.1⟩ ?_
                clear hK K k15 L14
                repeat (first | (refine wpG_at (v := ?_) (by rfl) ?_ ?_; rotate_left; (focus (first | (go_simp; with_reducible rfl) | (go_simp; done))); simp only [Act.put, List.setIfInBounds_toArray, List.set_cons_zero, List.set_cons_succ]) | (refine wpG_at_skip (by rfl) ?_; simp only [Act.put, List.setIfInBounds_toArray, List.set_cons_zero, List.set_cons_succ]) | (refine wpG_held_skip (by rfl) ?_; simp only [Act.put, List.setIfInBounds_toArray, List.set_cons_zero, List.set_cons_succ]) | (refine wpG_held (v := ?_) (by rfl) ?_ ?_; rotate_left; (focus (intro w' hSw; (try dsimp only at hSw); go_split_ands; first | (go_simp; with_reducible rfl) | (go_simp; done))); simp only [Act.put, List.setIfInBounds_toArray, List.set_cons_zero, List.set_cons_succ]))
                refine wpG_eff (by rfl) (fun K hK => ?_)
                go_simp
                refine HL15.out.mono ?_
                rintro e w16 ⟨rfl, rfl⟩
                refine hK _ _ ⟨L15.1, L15.2.1, L15.2.2.1⟩ ?_
                clear hK K
                repeat (first | (refine wpG_at (v := ?_) (by rfl) ?_ ?_; rotate_left; (focus (first | (go_simp; with_reducible rfl) | (go_simp; done))); simp only [Act.put, List.setIfInBounds_toArray, List.set_cons_zero, List.set_cons_succ]) | (refine wpG_at_skip (by rfl) ?_; simp only [Act.put, List.setIfInBounds_toArray, List.set_cons_zero, List.set_cons_succ]) | (refine wpG_held_skip (by rfl) ?_; simp only [Act.put, List.setIfInBounds_toArray, List.set_cons_zero, List.set_cons_succ]) | (refine wpG_held (v := ?_) (by rfl) ?_ ?_; rotate_left; (focus (intro w' hSw; (try dsimp only at hSw); go_split_ands; first | (go_simp; with_reducible rfl) | (go_simp; done))); simp only [Act.put, List.setIfInBounds_toArray, List.set_cons_zero, List.set_cons_succ]))
                refine wpG_eff (by rfl) (fun K hK => ?_)
                go_simp
                refine (HK.out _).mono ?_
                rintro e w17 ⟨rfl, k17⟩
                have B17 := hid (k17.get B15.out (fun h => h))
                have L17 := loc3 B17.out
                refine hK _ _ ⟨L17.1, L17.2.1, L17.2.2.1⟩ ?_
                clear hK K
                repeat (first | (refine wpG_at (v := ?_) (by rfl) ?_ ?_; rotate_left; (focus (first | (go_simp; with_reducible rfl) | (go_simp; done))); simp only [Act.put, List.setIfInBounds_toArray, List.set_cons_zero, List.set_cons_succ]) | (refine wpG_at_skip (by rfl) ?_; simp only [Act.put, List.setIfInBounds_toArray, List.set_cons_zero, List.set_cons_succ]) | (refine wpG_held_skip (by rfl) ?_; simp only [Act.put, List.setIfInBounds_toArray, List.set_cons_zero, List.set_cons_succ]) | (refine wpG_held (v := ?_) (by rfl) ?_ ?_; rotate_left; (focus (intro w' hSw; (try dsimp only at hSw); go_split_ands; first | (go_simp; with_reducible rfl) | (go_simp; done))); simp only [Act.put, List.setIfInBounds_toArray, List.set_cons_zero, List.set_cons_succ]))
                refine wpG_nil (NoPanic.normal ?_)
                go_wp2_with fail
                go_ret
                exact ⟨rfl, (K1.out.trans K15.out).trans k17⟩
              · have hw0 : ((ws.length : Int) == 0) = false := by
                  simp only [beq_eq_false_iff_ne]
                  intro h
                  exact hw (List.eq_nil_of_length_eq_zero (by omega))
                have HX2 := hid (HX.out (show ripe [(X3, ws)] = false from hw0))
                clear HX HY
                replace hU := hid hU
                replace hO1 := hid hO1
                replace hR := hid hR
                go_wp2_with fail
                refine HX2.out.mono ?_
                rintro e w10 ⟨rfl, k10⟩
                obtain ⟨b6, hb6⟩ : ∃ b6, w10.heap.size = b6 := ⟨_, rfl⟩
                have B6 := hid (show (w10.alloc (.cells #[.slice none 0 0, .slice none 0 0, .slice none 0 0] 35)).heap[b6]? = some (.cells #[.slice none 0 0, .slice none 0 0, .slice none 0 0] 35 (0, 0)) from blk_new' _ _ hb6.symm)
                have K11 := hid ((kW'.out.trans k10).alloc (.cells #[.slice none 0 0, .slice none 0 0, .slice none 0 0] 35))
                clear k10
                go_wp2_with fail
                try rw [hb6]
                generalize (w10.alloc (.cells #[.slice none 0 0, .slice none 0 0, .slice none 0 0] 35)) = w11 at *
                have L6 := loc3 (blk_drew B6.out)
                refine wp_region_G (fun _ => True) [(0, .at_), (1, .at_), (2, .at_), (3, .at_), (4, .at_), (5, .at_), (6, .at_), (7, .at_), (8, .held), (9, .eff), (10, .eff), (11, .at_), (12, .at_), (13, .eff), (14, .at_), (15, .at_), (16, .at_), (17, .at_), (18, .at_), (19, .eff), (20, .at_), (21, .at_)] ?L3 (by kernel_rfl) (by kernel_rfl) ?hL3 (trivial) ?hG3
                case hL3 => simp only [pickOps, List.map_cons, List.map_nil, List.getD_cons_zero, List.getD_cons_succ]; rfl
                repeat (first | (refine wpG_at (v := ?_) (by rfl) ?_ ?_; rotate_left; (focus (first | (go_simp; with_reducible rfl) | (go_simp; done))); simp only [Act.put, List.setIfInBounds_toArray, List.set_cons_zero, List.set_cons_succ]) | (refine wpG_at_skip (by rfl) ?_; simp only [Act.put, List.setIfInBounds_toArray, List.set_cons_zero, List.set_cons_succ]) | (refine wpG_held_skip (by rfl) ?_; simp only [Act.put, List.setIfInBounds_toArray, List.set_cons_zero, List.set_cons_succ]) | (refine wpG_held (v := ?_) (by rfl) ?_ ?_; rotate_left; (focus (intro w' hSw; (try dsimp only at hSw); go_split_ands; first | (go_simp; with_reducible rfl) | (go_simp; done))); simp only [Act.put, List.setIfInBounds_toArray, List.set_cons_zero, List.set_cons_succ]))
                refine wpG_eff_skip (by rfl) trivial ?_; simp only [Act.put, List.setIfInBounds_toArray, List.set_cons_zero, List.set_cons_succ]
                repeat (first | (refine wpG_at (v := ?_) (by rfl) ?_ ?_; rotate_left; (focus (first | (go_simp; with_reducible rfl) | (go_simp; done))); simp only [Act.put, List.setIfInBounds_toArray, List.set_cons_zero, List.set_cons_succ]) | (refine wpG_at_skip (by rfl) ?_; simp only [Act.put, List.setIfInBounds_toArray, List.set_cons_zero, List.set_cons_succ]) | (refine wpG_held_skip (by rfl) ?_; simp only [Act.put, List.setIfInBounds_toArray, List.set_cons_zero, List.set_cons_succ]) | (refine wpG_held (v := ?_) (by rfl) ?_ ?_; rotate_left; (focus (intro w' hSw; (try dsimp only at hSw); go_split_ands; first | (go_simp; with_reducible rfl) | (go_simp; done))); simp only [Act.put, List.setIfInBounds_toArray, List.set_cons_zero, List.set_cons_succ]))
                refine wpG_eff_skip (by rfl) trivial ?_; simp only [Act.put, List.setIfInBounds_toArray, List.set_cons_zero, List.set_cons_succ]
                repeat (first | (refine wpG_at (v := ?_) (by rfl) ?_ ?_; rotate_left; (focus (first | (go_simp; with_reducible rfl) | (go_simp; done))); simp only [Act.put, List.setIfInBounds_toArray, List.set_cons_zero, List.set_cons_succ]) | (refine wpG_at_skip (by rfl) ?_; simp only [Act.put, List.setIfInBounds_toArray, List.set_cons_zero, List.set_cons_succ]) | (refine wpG_held_skip (by rfl) ?_; simp only [Act.put, List.setIfInBounds_toArray, List.set_cons_zero, List.set_cons_succ]) | (refine wpG_held (v := ?_) (by rfl) ?_ ?_; rotate_left; (focus (intro w' hSw; (try dsimp only at hSw); go_split_ands; first | (go_simp; with_reducible rfl) | (go_simp; done))); simp only [Act.put, List.setIfInBounds_toArray, List.set_cons_zero, List.set_cons_succ]))
                refine wpG_eff_skip (by rfl) trivial ?_; simp only [Act.put, List.setIfInBounds_toArray, List.set_cons_zero, List.set_cons_succ]
                repeat (first | (refine wpG_at (v := ?_) (by rfl) ?_ ?_; rotate_left; (focus (first | (go_simp; with_reducible rfl) | (go_simp; done))); simp only [Act.put, List.setIfInBounds_toArray, List.set_cons_zero, List.set_cons_succ]) | (refine wpG_at_skip (by rfl) ?_; simp only [Act.put, List.setIfInBounds_toArray, List.set_cons_zero, List.set_cons_succ]) | (refine wpG_held_skip (by rfl) ?_; simp only [Act.put, List.setIfInBounds_toArray, List.set_cons_zero, List.set_cons_succ]) | (refine wpG_held (v := ?_) (by rfl) ?_ ?_; rotate_left; (focus (intro w' hSw; (try dsimp only at hSw); go_split_ands; first | (go_simp; with_reducible rfl) | (go_simp; done))); simp only [Act.put, List.setIfInBounds_toArray, List.set_cons_zero, List.set_cons_succ]))
                refine wpG_eff (by rfl) (fun K hK => ?_)
                go_simp
                refine (HK.out _).mono ?_
                rintro e w17 ⟨rfl, k17⟩
                refine hK _ _ trivial ?_
                clear hK K
                repeat (first | (refine wpG_at (v := ?_) (by rfl) ?_ ?_; rotate_left; (focus (first | (go_simp; with_reducible rfl) | (go_simp; done))); simp only [Act.put, List.setIfInBounds_toArray, List.set_cons_zero, List.set_cons_succ]) | (refine wpG_at_skip (by rfl) ?_; simp only [Act.put, List.setIfInBounds_toArray, List.set_cons_zero, List.set_cons_succ]) | (refine wpG_held_skip (by rfl) ?_; simp only [Act.put, List.setIfInBounds_toArray, List.set_cons_zero, List.set_cons_succ]) | (refine wpG_held (v := ?_) (by rfl) ?_ ?_; rotate_left; (focus (intro w' hSw; (try dsimp only at hSw); go_split_ands; first | (go_simp; with_reducible rfl) | (go_simp; done))); simp only [Act.put, List.setIfInBounds_toArray, List.set_cons_zero, List.set_cons_succ]))
                refine wpG_nil (NoPanic.normal ?_)
                go_wp2_with fail
                go_ret
                exact ⟨rfl, (K1.out.trans K11.out.drew).trans k17⟩
end Go.Proofs.Ytplbkjgkocnehaa
