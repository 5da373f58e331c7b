/- Walks: RcuOrder. -/
import Derived.Test.YtplbkjgkocnehaaU26
namespace Go.Proofs.Ytplbkjgkocnehaa
set_option linter.unusedSimpArgs false
set_option linter.unusedVariables false
open Go.RowKit Go.Shelf
attribute [local go_sem ↓] Go.wp_at_zero Go.wp_at_succ
section
variable {w0 w w' : World}
set_option maxRecDepth 100000 in
set_option maxHeartbeats 16000000 in
theorem order_good (w : World) {n : Nat} (n1 : 1 ≤ n) (n2 : n ≤ 8) (x : Option Addr) (len cap : Nat) (A : List Ac) (hL : ActsAt w w.heap.size x len A) :
   Calls Try.prog 5 #[.int .i64 n, .slice x len cap] w fun e w' => e = .returned (.bool true) ∧ Kp NoB w w' := by
  have HF := hid (few_any (cap := cap) hL (Nat.le_refl _) (most := 120) (by omega))
  have HN := hid (fun W => new_any n n1 n2 W)
  have HQ := hid (fun W => qnew_any n n1 n2 W)
  have HK := hid known_any
  have HM := hid (fun W => may_any n W)
  have HA := hid hL
  have hmx := hL.mx
  have hm : (decide ((1 : Int) ≤ (n : Int)) && decide ((n : Int) ≤ 8)) = true := by simp; omega
  rw [hm] at HM
  clear hL hm
  go_enter Try.func5, Try.ntmps5
  go_wp2_with fail
  refine HF.out.mono ?_
  rintro e w1 ⟨b, rfl, hb, k1⟩
  cases b
  · clear hb
    go_wp2_with fail
    refine (HK.out _).mono ?_
    rintro e w2 ⟨rfl, k2⟩
    go_wp2_with fail
    go_ret
    exact ⟨rfl, k1.trans k2⟩
  · have hb' := hid (hb rfl)
    clear hb
    go_wp2_with fail
    refine (HM.out _).mono ?_
    rintro e w2' ⟨rfl, rfl⟩
    go_wp2_with fail
    refine (HN.out _).mono ?_
    rintro e w2 ⟨p, u, rfl, U2, p2, u2, k2⟩
    replace U2 := hid U2
    replace u2 := hid u2
    go_wp2_with fail
    refine (HQ.out _).mono ?_
    rintro e w3 ⟨q, dv, ov, rfl, Q3, q3, k3⟩
    have T3 := hid ((TN.new n1 n2 U2.out p2 u2.out k2 Q3 q3 k3))
    have K1 := hid k1
    clear U2 u2 Q3 q3 k3 k2 k1
    go_wp2_with fail
    go_loopw [8] (fun i W => ∃ (j : Nat), j ≤ len ∧ i = .int .i64 j ∧ TN w1 W p q n j) (fun i _ => len - (intOf i).toNat)
    case atStart => exact ⟨0, Nat.zero_le _, rfl, T3.out⟩
    case round =>
      obtain ⟨j, hj, rfl, hJ⟩ := hrel
      have c1 : (0 : Int) ≤ (j : Int) := Int.natCast_nonneg _
      by_cases hlt : j < len
      · have ha := HA.out.kp (K1.out.trans hJ.k) (Nat.le_refl _) (fun _ h => h.elim)
        have hjl : j < A.length := by rw [HA.out.ln]; exact hlt
        obtain ⟨z, hz⟩ : ∃ z, A[j]? = some z := ⟨_, List.getElem?_eq_getElem hjl⟩
        obtain ⟨y, rfl, hy, d0, d1, d2, d3, d4⟩ := ha.at_ j z hz
        have hzm := List.mem_of_getElem? hz
        have HD := hid (do_new hJ (by have := hb'.out.1; omega) z.k z.t (ha.sl z hzm) (hb'.out.2 z hzm) (fun s hs => Nat.lt_of_lt_of_le (ha.bl z hzm s hs) K1.out.size))
        have c2 : (j : Int) < (len : Int) := by omega
        replace hJ := hid hJ
        replace ha := hid ha
        replace hzm := hid hzm
        replace hz := hid hz
        go_wp2_with fail
        refine HD.out.mono ?_
        rintro e w3 ⟨rfl, J3⟩
        replace J3 := hid J3
        go_wp2_with fail
        go_roundw
        case rel => exact ⟨j + 1, by omega, by go_num, J3.out⟩
        case measure => simp [intOf]; omega
      · obtain rfl : j = len := by omega
        obtain ⟨u', v, H, dv', ov', rv, G, D, Z, S, T, hn, hfp, hk⟩ := hJ
        subst hn
        have hdj := hid T.dj
        have hnw := hid hfp
        have hK := hid (show j ≤ 1000 from by have := hb'.out.1; omega)
        have O0 := hid (ON.start T hk)
        clear T hfp hk
        go_wp2_with fail
        go_loopw [9] (fun i W => ∃ (t : Nat) (D' : List Nat) (R : List (Ret × List Nat)), t ≤ D.length ∧ i = .int .i64 t ∧ ON w1 W p u' v H q dv' ov' rv G S Z j D.length t D' R) (fun i _ => D.length - (intOf i).toNat)
        case atStart => exact ⟨0, D, _, Nat.zero_le _, rfl, O0.out⟩
        case round =>
          obtain ⟨t, D1, R1, ht, rfl, hO⟩ := hrel
          have f1 : (0 : Int) ≤ (t : Int) := Int.natCast_nonneg _
          by_cases htn : t < D.length
          · have f2 : (t : Int) < (D.length : Int) := by omega
            replace hO := hid hO
            go_wp2_with fail
            go_loopw [] (fun W => ∃ (D' : List Nat) (R : List (Ret × List Nat)), ON w1 W p u' v H q dv' ov' rv G S Z j D.length t D' R) (fun W => depC u' t W)
            case atStart => exact ⟨D1, R1, hO.out⟩
            case round =>
              obtain ⟨D2, R2, h2⟩ := hrel
              obtain ⟨d, hd⟩ : ∃ d, D2[t]? = some d := ⟨_, List.getElem?_eq_getElem (by rw [h2.n]; exact htn)⟩
              have HE := hid (depth_any h2.c h2.o t)
              rw [depE_get hd] at HE
              have hm2 := h2.dep hd
              obtain ⟨bd, cd, ed, hcd, _, hcell, hfz, hbd, _⟩ := row_slot h2.d.hd hd
              rw [h2.n] at ed
              subst ed
              obtain ⟨l0, l1, l2, _⟩ := loc3 h2.d.hq
              by_cases h0 : d = 0
              · subst h0
                have ON1 := hid (h2.next hd)
                replace h2 := hid h2
                go_wp2_with fail
                refine HE.out.mono ?_
                rintro e w4 ⟨rfl, rfl⟩
                go_wp2_with fail
                go_roundw
                case rel => exact ⟨t + 1, D2, R2, by omega, by go_num, ON1.out⟩
                case measure => simp [intOf]; omega
              · have h0' : 0 < (d : Int) := by omega
                have HV := hid (leave_any h2.c h2.o t)
                have hd' := hid hd
                have hcs := hid (h2.o.d d (List.mem_of_getElem? hd))
                replace h2 := hid h2
                go_wp2_with fail
                refine HE.out.mono ?_
                rintro e w4 ⟨rfl, rfl⟩
                go_wp2_with fail
                refine HV.out.mono ?_
                rintro e w4 ⟨rfl, c4, g4⟩
                obtain ⟨q4, o4⟩ := h2.out.step hd'.out (by omega) hdj.out hnw.out c4 g4
                have O4 := hid (o4 bd cd (by rw [h2.out.n]))
                obtain ⟨m0, m1, m2, _⟩ := loc3 q4.hq
                obtain ⟨bd', cd', ed', _, _, mcell, mfz, mbd, _⟩ := row_slot q4.hd hd'.out
                rw [h2.out.n] at ed'
                injection ed' with ed1 _ ed3
                injection ed1 with ed1
                injection ed1 with ed1
                subst ed1; subst ed3
                have hw1 : IntKind.i64.wrap ((d : Int) - 1) = (d : Int) - 1 := wi_in (by have := hcs.out; have := hK.out; omega)
                clear o4 c4 g4
                replace q4 := hid q4
                go_wp2_with fail
                go_roundw
                case rel => exact ⟨_, _, O4.out⟩
                case measure =>
                  rw [hm2, O4.out.dep (d := d - 1) (by rw [levD_get hd'.out, List.getElem?_set_self (List.getElem?_eq_some_iff.1 hd'.out).1])]
                  omega
          · obtain rfl : t = D.length := by omega
            have hfree := hid hO.free
            have HAl := hid (all_any hO.c hO.o)
            have hq0 := hid hO.d
            have hc0 := hid hO.c
            have ho0 := hid hO.o
            have hrl := hid hO.r
            have kO := hid hO.k
            obtain ⟨B0, hB0⟩ : ∃ B0, wr.heap.size = B0 := ⟨_, rfl⟩
            clear hO
            go_wp2_with fail
            refine HAl.out.mono ?_
            rintro e wA ⟨xa, L, rfl, hT, kA⟩
            have hTA := hid hT
            have hLl : L.length = R1.length := by rw [hT.l, List.length_map]
            obtain ⟨oa, ca, exa, _⟩ := hT.r.form
            rw [hLl] at exa
            subst exa
            have UA := hid (hc0.out.kn kA)
            have QA := hid (hq0.out.kn kA)
            have KA := hid (kO.out.trans kA)
            have hlt0 := hid (fun b hb => hB0 ▸ hc0.out.lt b hb)
            have hnA := hid hT.v
            have hnL := hid hT.n
            clear hT kA
            have hR9 : R1.length ≤ 1000 := Nat.le_trans ho0.out.r hK.out
            go_wp2_with fail
            go_loopw [11] (fun i W => ∃ (m : Nat) (v' : Value) (H' : List HV), m ≤ R1.length ∧ i = .int .i64 m ∧ UAt W p u' v' D1 H' (R1.drop m) ∧ Kp (· = p) wA W) (fun i _ => R1.length - (intOf i).toNat)
            case atStart => exact ⟨0, v, H, Nat.zero_le _, rfl, UA.out, Kp.refl _ _⟩
            case round =>
              obtain ⟨m, v', H', hm, rfl, hU, kU⟩ := hrel
              have g1 : (0 : Int) ≤ (m : Int) := Int.natCast_nonneg _
              have hpn := hid (hnw.out p (.inl (.inl rfl)))
              by_cases hmr : m < R1.length
              · have g2 : (m : Int) < (R1.length : Int) := by omega
                obtain ⟨⟨y, ws⟩, hy⟩ : ∃ y, R1[m]? = some y := ⟨_, List.getElem?_eq_getElem hmr⟩
                have hym : (R1.map (·.1))[m]? = some y := by rw [List.getElem?_map, hy]; rfl
                have hdr := nextU hfree.out hym
                have hOd := ho0.out.drop m
                have hyf := hid (ho0.out.x y ws (List.mem_of_getElem? hy))
                rw [hdr] at hU hOd
                have HX := hid (next_any hU hOd)
                clear hdr hOd hU
                go_wp2_with fail
                refine HX.out.mono ?_
                rintro e wB ⟨a, b, c, v2, H2, rfl, U2, R2, g2', k2, hf2⟩
                have kB := hid (kU.trans k2)
                obtain ⟨oa', ca', e1, _⟩ := R2.a.form
                obtain ⟨ob', cb', e2, _⟩ := R2.b.form
                obtain ⟨oc', cc', e3, _⟩ := R2.c.form
                subst e1; subst e2; subst e3
                have TB := hTA.out.kp kB.out (fun b hb e => by have := hnA.out b hb; have := hlt0.out p (.inl rfl); omega) (fun h' hh' b hb e => by have := hnL.out h' hh' b hb; have := hlt0.out p (.inl rfl); omega)
                obtain ⟨⟨ha', hb2, hc2⟩, hLm⟩ : ∃ x : XV, L[m]? = some x := ⟨_, List.getElem?_eq_getElem (by rw [hLl]; exact hmr)⟩
                have hxx := TB.x m _ y hLm hym
                obtain ⟨bx, cx, exx, hcx, hbx, lx0, lx1, lx2⟩ := told_cells TB hLm
                obtain ⟨oa2, ca2, e1, _⟩ := hxx.a.form
                obtain ⟨ob2, cb2, e2, _⟩ := hxx.b.form
                obtain ⟨oc2, cc2, e3, _⟩ := hxx.c.form
                dsimp only at e1 e2 e3 lx0 lx1 lx2
                subst e1; subst e2; subst e3
                rw [hLl] at exx hcx
                injection exx with exx _ exc
                subst exx; subst exc
                obtain ⟨b6, hb6⟩ : ∃ b6, wB.heap.size = b6 := ⟨_, rfl⟩
                have B6 := hid (show (wB.alloc (.cells #[.slice oa' y.a.length ca', .slice ob' y.b.length cb', .slice oc' y.c.length cc'] 35)).heap[b6]? = some (.cells #[.slice oa' y.a.length ca', .slice ob' y.b.length cb', .slice oc' y.c.length cc'] 35 (0, 0)) from blk_new' _ _ hb6.symm)
                have KC := hid ((Kp.refl NoB wB).alloc (.cells #[.slice oa' y.a.length ca', .slice ob' y.b.length cb', .slice oc' y.c.length cc'] 35))
                have SO := hid (fun W (k : Kp NoB wB W) => sameone_any (R2.kn k).ss (hxx.kn k).ss hyf.out hyf.out)
                have U3 := hid (U2.kn KC.out)
                obtain ⟨z0, z1, z2⟩ := (show ∀ W, Kp NoB wB W → W.cell? ⟨bx, m * 3, none⟩ = some (.slice oa2 y.a.length ca2) ∧ W.cell? ⟨bx, m * 3 + 1, none⟩ = some (.slice ob2 y.b.length cb2) ∧ W.cell? ⟨bx, m * 3 + 2, none⟩ = some (.slice oc2 y.c.length cc2) from
                  fun W k => ⟨(cell_blk (k.blk bx hbx (fun h => h))).trans lx0, (cell_blk (k.blk bx hbx (fun h => h))).trans lx1, (cell_blk (k.blk bx hbx (fun h => h))).trans lx2⟩) _ KC.out
                clear lx0 lx1 lx2 TB hxx U2 R2 g2' k2 hf2 kU
                replace hLm := hid hLm
                replace hym := hid hym
                replace hy := hid hy
                have hdd : decide (y = y) = true := decide_eq_true rfl
                rw [hdd] at SO
                go_wp2_with fail
                try rw [hb6]
                generalize (wB.alloc (.cells #[.slice oa' y.a.length ca', .slice ob' y.b.length cb', .slice oc' y.c.length cc'] 35)) = w11 at *
                obtain ⟨M0, M1, M2, _⟩ := loc3 B6.out
                refine wp_region_G (fun _ => True) [(0, .at_), (1, .at_), (2, .at_), (3, .at_), (4, .at_), (5, .at_), (6, .at_), (7, .at_), (8, .eff), (9, .at_), (10, .at_)] ?L1 (by kernel_rfl) (by kernel_rfl) ?hL1 (trivial) ?hG1
                case hL1 => simp only [pickOps, List.map_cons, List.map_nil, List.getD_cons_zero, List.getD_cons_succ]; rfl
                repeat (first | (refine wpG_at (v := ?_) (by rfl) ?_ ?_; rotate_left; (focus (first | (go_simp; with_reducible rfl) | (go_simp; done))); simp only [Act.put, List.setIfInBounds_toArray, List.set_cons_zero, List.set_cons_succ]) | (refine wpG_at_skip (by rfl) ?_; simp only [Act.put, List.setIfInBounds_toArray, List.set_cons_zero, List.set_cons_succ]) | (refine wpG_held_skip (by rfl) ?_; simp only [Act.put, List.setIfInBounds_toArray, List.set_cons_zero, List.set_cons_succ]) | (refine wpG_held (v := ?_) (by rfl) ?_ ?_; rotate_left; (focus (intro w' hSw; (try dsimp only at hSw); go_split_ands; first | (go_simp; with_reducible rfl) | (go_simp; done))); simp only [Act.put, List.setIfInBounds_toArray, List.set_cons_zero, List.set_cons_succ]))
                refine wpG_eff (by rfl) (fun K hK => ?_)
                go_simp
                refine (SO.out _ KC.out.drew).mono ?_
                rintro e wD ⟨rfl, kD⟩
                have kD' := hid ((kB.out.trans (KC.out.mono (fun _ h => h.elim))).trans (((Kp.refl NoB _).drew.trans kD).mono (fun _ h => h.elim)))
                have U4 := hid (U3.out.kn ((Kp.refl NoB _).drew.trans kD))
                refine hK _ _ trivial ?_
                clear hK K
                repeat (first | (refine wpG_at (v := ?_) (by rfl) ?_ ?_; rotate_left; (focus (first | (go_simp; with_reducible rfl) | (go_simp; done))); simp only [Act.put, List.setIfInBounds_toArray, List.set_cons_zero, List.set_cons_succ]) | (refine wpG_at_skip (by rfl) ?_; simp only [Act.put, List.setIfInBounds_toArray, List.set_cons_zero, List.set_cons_succ]) | (refine wpG_held_skip (by rfl) ?_; simp only [Act.put, List.setIfInBounds_toArray, List.set_cons_zero, List.set_cons_succ]) | (refine wpG_held (v := ?_) (by rfl) ?_ ?_; rotate_left; (focus (intro w' hSw; (try dsimp only at hSw); go_split_ands; first | (go_simp; with_reducible rfl) | (go_simp; done))); simp only [Act.put, List.setIfInBounds_toArray, List.set_cons_zero, List.set_cons_succ]))
                refine wpG_nil (NoPanic.normal ?_)
                go_wp2_with fail
                go_roundw
                case rel => exact ⟨m + 1, v2, H2, Nat.succ_le_of_lt hmr, by go_num, U4.out, kD'.out⟩
                case measure => simp [intOf]; omega
              · obtain rfl : m = R1.length := by omega
                rw [List.drop_length] at hU
                have O9 := ho0.out.drop R1.length
                rw [List.drop_length] at O9
                have HX := hid (next_no hU O9 rfl)
                have hU9 := hid hU
                have QB := QA.out.kp kU (fun b hb e => hdj.out p (.inl rfl) (e ▸ hb))
                have KB := hid (KA.out.trans' kU (fun b hb e => by have := hpn.out; omega))
                replace QB := hid QB
                clear hU O9
                go_wp2_with fail
                refine HX.out.mono ?_
                rintro e wE ⟨rfl, kE⟩
                have U5 := hid (hU9.out.kn kE)
                have Q5 := hid (QB.out.kn kE)
                have KE := hid (KB.out.trans kE)
                have KC := hid ((Kp.refl NoB wE).alloc (.cells #[.slice none 0 0, .slice none 0 0, .slice none 0 0] 35))
                have HLn := hid (len_any (U5.out.kn KC.out))
                have Q6 := Q5.out.kn KC.out
                obtain ⟨orv, crv, erv, _⟩ := Q6.hr.form
                have q66 := Q6.hq
                rw [erv, Q6.hl, ← hrl.out] at q66
                obtain ⟨n0, n1', n2', _⟩ := loc3 q66
                clear q66 erv Q6
                go_wp2_with fail
                refine HLn.out.mono ?_
                rintro e wF ⟨rfl, rfl⟩
                go_wp2_with fail
                refine (HK.out _).mono ?_
                rintro e wG ⟨rfl, kG⟩
                go_wp2_with fail
                go_ret
                exact ⟨rfl, ((K1.out.trans KE.out).trans KC.out).trans kG⟩
end
end Go.Proofs.Ytplbkjgkocnehaa
