/- Walks: RcuShares. -/
import Derived.Test.YtplbkjgkocnehaaU35
namespace Go.Proofs.Ytplbkjgkocnehaa
set_option linter.unusedSimpArgs false
set_option linter.unusedVariables false
open Go.RowKit Go.Shelf
attribute [local go_sem ↓] Go.wp_at_zero Go.wp_at_succ
section
variable {w0 w w1 w2 : World} {p q n : Nat} {u dv ov : Value}
theorem TT.new (n1 : 1 ≤ n) (n8 : n ≤ 8) (hU : UAt w1 p u (.slice none 0 0) (List.replicate n 0) [] []) (hp : w0.heap.size ≤ p) (hu : ∀ b, u.ownBlock = some b → w0.heap.size ≤ b) (k1 : Kp NoB w0 w1)
    (hQ : QAt w2 q dv ov (.slice none 0 0) (List.replicate n 0) (List.replicate n 0) [] []) (hq : ∀ b, qfp q dv ov (.slice none 0 0) [] b → w1.heap.size ≤ b) (k2 : Kp NoB w1 w2) :
    TT w2 p u (.slice none 0 0) [] q dv ov (.slice none 0 0) [] (List.replicate n 0) (List.replicate n 0) [] 0 ∧ ∀ b, tfp p u (.slice none 0 0) [] q dv ov (.slice none 0 0) [] b → w0.heap.size ≤ b := by
  refine ⟨⟨hU.kn k2, hQ, fun b hb hb' => ?_, ⟨fun _ _ h => (by cases h), fun _ _ h => (by cases h)⟩, UOk.new n1 n8, QOkS.new n1 n8⟩, fun b hb => ?_⟩
  · have := hq b hb'
    have := hU.lt b hb
    omega
  · rcases hb with h | h
    · exact UAt.new_fp (n := n) hp hu h
    · exact Nat.le_trans k1.size (hq b h)
theorem acts_one {W : World} {a b c : Value} {x : Ret} {p : Nat} {cp : Nat} (hx : SlR W a b c x) (hs : x.sized) (hp : W.heap[p]? = some (.cells #[.int .i64 0, .int .i64 0, a, b, c] 37 (0, 0))) : ActsAt W W.heap.size (some ⟨p, 0, none⟩) 1 [⟨0, 0, a, b, c, x⟩] := by
  refine ⟨rfl, by omega, fun z hz => ?_, fun z hz => ?_, fun z hz => ?_, fun i z hi => ?_⟩
  · simp at hz; subst hz; exact hx
  · simp at hz; subst hz; exact hs
  · simp at hz; subst hz; exact hx.lt
  · have h0 : i = 0 := by have := (List.getElem?_eq_some_iff.1 hi).1; simp at this; omega
    subst h0
    simp at hi; subst hi
    refine ⟨⟨p, 0, none⟩, rfl, blk_lt hp, ?_, ?_, ?_, ?_, ?_⟩
    all_goals
      show World.cell? W ⟨p, _, none⟩ = _
      rw [cell_of hp]; rfl
end
set_option maxRecDepth 100000 in
set_option maxHeartbeats 32000000 in
theorem shares_any (w : World) {a b c : Value} {x : Ret} (hx : SlR w a b c x) (hs : x.sized) : Calls Try.prog 6 #[.agg #[a, b, c]] w fun e w' => e = .returned (.bool true) ∧ Kp NoB w w' := by
  have HX := hid hx
  obtain ⟨oa, ca, rfl, _⟩ := hx.a.form
  obtain ⟨ob, cb, rfl, _⟩ := hx.b.form
  obtain ⟨oc, cc, rfl, _⟩ := hx.c.form
  have K2 := ((Kp.refl NoB w).alloc (.cells #[.slice oa x.a.length ca, .slice ob x.b.length cb, .slice oc x.c.length cc] 35)).alloc (.cells #[.int .i64 0, .int .i64 0, .slice oa x.a.length ca, .slice ob x.b.length cb, .slice oc x.c.length cc] 37)
  have B1 := hid (blk_alloc (o' := .cells #[.int .i64 0, .int .i64 0, .slice oa x.a.length ca, .slice ob x.b.length cb, .slice oc x.c.length cc] 37) (blk_new w (.cells #[.slice oa x.a.length ca, .slice ob x.b.length cb, .slice oc x.c.length cc] 35)))
  have HF := hid (few_any (cap := 1) (acts_one (cp := 1) (hx.kn K2) hs (p := w.heap.size + 1) (blk_new' _ _ (by simp))) (Nat.le_refl _) (most := 1) (by omega))
  have HK := hid known_any
  have KW := hid K2
  clear hx K2 hs
  go_enter Try.func6, Try.ntmps6
  go_wp2_with fail
  generalize ((w.alloc (.cells #[.slice oa x.a.length ca, .slice ob x.b.length cb, .slice oc x.c.length cc] 35)).alloc (.cells #[.int .i64 0, .int .i64 0, .slice oa x.a.length ca, .slice ob x.b.length cb, .slice oc x.c.length cc] 37)) = W2 at *
  refine HF.out.mono ?_
  rintro e w1 ⟨bb, rfl, hb, k1⟩
  cases bb
  · clear hb
    go_wp2_with fail
    refine (HK.out _).mono ?_
    rintro e w2 ⟨rfl, k2⟩
    go_wp2_with fail
    go_ret
    exact ⟨rfl, (KW.out.trans k1).trans k2⟩
  have hfew := hid ((hb rfl).2 _ List.mem_cons_self)
  have K1 := hid (KW.out.trans k1)
  have B3 := hid (k1.get B1.out (fun h => h))
  clear hb k1
  go_wp2_with fail
  refine (new_any 1 (by omega) (by omega) _).mono ?_
  rintro e w2 ⟨p, u, rfl, U2, p2, u2, k2⟩
  go_wp2_with fail
  refine (qnew_any 1 (by omega) (by omega) _).mono ?_
  rintro e w3 ⟨q, dv, ov, rfl, Q3, q3, k3⟩
  obtain ⟨T3, n3⟩ := TT.new (by omega) (by omega) U2 p2 u2 k2 Q3 q3 k3
  have K3 := hid (K1.out.trans (k2.trans k3))
  have B4 := hid ((k2.trans k3).get B3.out (fun h => h))
  have hw1 := hid (show w.heap.size ≤ w1.heap.size from K1.out.size)
  have HD := hid (do3x T3 (by omega) 0 (HX.out.kn K3.out) hfew.out (fun s hs hb => by have := n3 s hb; have := HX.out.lt s hs; have := hw1.out; omega))
  have N3 := hid n3
  have L4 := loc3 B4.out
  replace T3 := hid T3
  clear U2 p2 u2 k2 Q3 q3 k3 n3
  go_wp2_with fail
  refine HD.out.mono ?_
  rintro e w5 ⟨rfl, v5, H5, rv5, G5, T5, g5⟩
  replace T5 : TT w5 p u v5 H5 q dv ov rv5 G5 [0] [0] (qretS [0] [0] [] x) 1 := T5
  have hRR := hid (fresh_rel x)
  have hS5 := hid (show (x.none ∧ qretS [0] [0] [] x = []) ∨ (¬ x.none ∧ (qretS [0] [0] [] x).length = 1) from by
    unfold qretS
    by_cases hn : x.none
    · exact .inl ⟨hn, if_pos hn⟩
    · exact .inr ⟨hn, by rw [if_neg hn]; rfl⟩)
  generalize qretS [0] [0] [] x = S5 at *
  have K5 := hid (K3.out.trans' g5.kp (fun b hb e => by have := N3.out b e; have := hw1.out; omega))
  have HAl := hid (all_any T5.c T5.oc)
  have hRl := hid (T5.oc.r)
  replace T5 := hid T5
  clear g5 L4
  go_wp2_with fail
  refine HAl.out.mono ?_
  rintro e w6 ⟨xa, L, rfl, hT, k6⟩
  have S6 := hid (hT.sh k6 (by rw [List.length_map]; exact hRl.out))
  obtain ⟨ox, cx, hxa, _⟩ := hT.r.form
  subst hxa
  clear hT k6
  have hL1 := S6.out.o
  go_wp2_with fail
  go_loopw [7] (fun i W => ∃ m : Nat, m ≤ L.length ∧ i = .int .i64 m ∧ SH w5 W (.slice ox L.length cx) L) (fun i _ => L.length - (intOf i).toNat)
  case atStart => exact ⟨0, Nat.zero_le _, rfl, S6.out⟩
  case round =>
    obtain ⟨m, hm, rfl, hS⟩ := hrel
    have g1 : (0 : Int) ≤ (m : Int) := Int.natCast_nonneg _
    by_cases hml : m < L.length
    · have g2 : (m : Int) < (L.length : Int) := by omega
      obtain ⟨⟨ha, hb, hc⟩, hh⟩ : ∃ h, L[m]? = some h := ⟨_, List.getElem?_eq_getElem hml⟩
      have hmem := List.mem_of_getElem? hh
      obtain ⟨⟨la, hla⟩, ⟨lc, hlc⟩⟩ := hS.x _ hmem
      obtain ⟨o1, c1, e1, _, hna, _⟩ := hla.form
      obtain ⟨o2, c2, e2, _, hnc, _⟩ := hlc.form
      obtain ⟨o3, c3, e3⟩ : ∃ (_ : Nat) (_ : Nat), True := ⟨0, 0, trivial⟩
      dsimp only at e1 e2
      subst e1; subst e2
      have hna' : la.length ≤ 9223372036854775807 := by simp [maxLen] at hna; omega
      have hnc' : lc.length ≤ 9223372036854775807 := by simp [maxLen] at hnc; omega
      replace hS := hid hS
      clear hla hlc hna hnc e3 c3 o3
      replace hh := hid hh
      replace hmem := hid hmem
      go_wp2_with fail
      go_loopw [8] (fun i W => ∃ k : Nat, k ≤ la.length ∧ i = .int .i64 k ∧ SH w5 W (.slice ox L.length cx) L) (fun i _ => la.length - (intOf i).toNat)
      case atStart => exact ⟨0, Nat.zero_le _, rfl, hS.out⟩
      case round =>
        obtain ⟨k, hk, rfl, hS2⟩ := hrel
        have f1 : (0 : Int) ≤ (k : Int) := Int.natCast_nonneg _
        obtain ⟨bx, cx', exx, hcx, z0, z1, z2⟩ := hS2.cells hh.out
        injection exx with exx _ exc
        subst exx; subst exc
        by_cases hkl : k < la.length
        · have f2 : (k : Int) < (la.length : Int) := by omega
          obtain ⟨ba, ia, eo, hca, hc1, hf1, hb1, hst⟩ := hS2.setA hmem.out rfl hkl
          subst eo
          have hst' := hid hst
          replace hS2 := hid hS2
          clear hst
          go_wp2_with fail
          go_roundw
          case rel => exact ⟨k + 1, by omega, by go_num, hst'.out _⟩
          case measure => simp [intOf]; omega
        · have f2 : ¬ (k : Int) < (la.length : Int) := by omega
          replace hS2 := hid hS2
          go_wp2_with fail
          have hS3 := hid hS2.out
          clear z0 z1 z2
          go_loopw [9] (fun i W => ∃ k : Nat, k ≤ lc.length ∧ i = .int .i64 k ∧ SH w5 W (.slice (some ⟨bx, 0, none⟩) L.length cx) L) (fun i _ => lc.length - (intOf i).toNat)
          case atStart => exact ⟨0, Nat.zero_le _, rfl, hS3.out⟩
          case round =>
            obtain ⟨k2, hk2, rfl, hS4⟩ := hrel
            have e1 : (0 : Int) ≤ (k2 : Int) := Int.natCast_nonneg _
            obtain ⟨bx', cx', exx, hcx, z0, z1, z2⟩ := hS4.cells hh.out
            injection exx with exx _ exc
            injection exx with exx
            injection exx with exx
            subst exx; subst exc
            by_cases hkl2 : k2 < lc.length
            · have e2 : (k2 : Int) < (lc.length : Int) := by omega
              obtain ⟨ba, ia, eo, hca, hc1, hf1, hb1, hst⟩ := hS4.setC hmem.out rfl hkl2
              subst eo
              have hst' := hid hst
              replace hS4 := hid hS4
              clear hst
              go_wp2_with fail
              go_roundw
              case rel => exact ⟨k2 + 1, by omega, by go_num, hst'.out _⟩
              case measure => simp [intOf]; omega
            · have e2 : ¬ (k2 : Int) < (lc.length : Int) := by omega
              replace hS4 := hid hS4
              go_wp2_with fail
              go_roundw
              case rel => exact ⟨m + 1, by omega, by go_num, hS4.out⟩
              case measure => simp [intOf]; omega
    · obtain rfl : m = L.length := by omega
      have T7 := hid (T5.out.kn hS.k)
      have K7 := hid (K5.out.trans hS.k)
      have HCp := hid (copy_any T7.out.c T7.out.oc)
      have hwr := hid (show w.heap.size ≤ wr.heap.size from K7.out.size)
      replace hS := hid hS
      go_wp2_with fail
      refine HCp.out.mono ?_
      rintro e w8 ⟨p', u', v', H', rfl, U8, n8, k8⟩
      have T8 := hid (T7.out.kn k8)
      have K8 := hid (K7.out.trans k8)
      have O8 := hid T7.out.oc
      have N8 := hid n8
      have k8' := hid k8
      clear k8 n8
      obtain ⟨orv, crv, erv, _⟩ := T8.out.d.hr.form
      rw [T8.out.d.hl] at erv
      rcases hS5.out with ⟨hn, hSe⟩ | ⟨hn, hSe⟩
      · have hR0 : relR [0] S5 = [] := by rw [hRR.out, if_pos hn]
        rw [hR0] at U8
        have O9 := O8.out
        rw [hR0] at O9
        have HX2 := hid (next_no U8 O9 rfl)
        have hx0 : S5.length = 0 := by rw [hSe]; rfl
        rw [hx0] at erv
        clear U8 O9 hR0
        go_wp2_with fail
        refine HX2.out.mono ?_
        rintro e w9 ⟨rfl, k9⟩
        obtain ⟨b6, hb6⟩ : ∃ b6, w9.heap.size = b6 := ⟨_, rfl⟩
        have KC := hid ((Kp.refl NoB w9).alloc (.cells #[.slice none 0 0, .slice none 0 0, .slice none 0 0] 35))
        have B6 := hid (show (w9.alloc (.cells #[.slice none 0 0, .slice none 0 0, .slice none 0 0] 35)).heap[b6]? = some (.cells #[.slice none 0 0, .slice none 0 0, .slice none 0 0] 35 (0, 0)) from blk_new' _ _ hb6.symm)
        have T9 := hid (T8.out.kn (k9.trans KC.out))
        have K9 := hid (K8.out.trans (k9.trans KC.out))
        clear k9
        go_wp2_with fail
        try rw [hb6]
        generalize (w9.alloc (.cells #[.slice none 0 0, .slice none 0 0, .slice none 0 0] 35)) = w10 at *
        go_loopw [13] (fun i W => i = .int .i64 0 ∧ w10 = W) (fun _ _ => 0)
        case atStart => exact ⟨rfl, rfl⟩
        case round =>
          obtain ⟨rfl, rfl⟩ := hrel
          have L6 := loc3 B6.out
          have Lq := loc3 T9.out.d.hq
          rw [erv] at Lq
          have HSm := hid (same_any T9.out)
          go_wp2_with fail
          refine HSm.out.mono ?_
          rintro e w11 ⟨rfl, k11⟩
          go_wp2_with fail
          refine (HK.out _).mono ?_
          rintro e w12 ⟨rfl, k12⟩
          go_wp2_with fail
          go_ret
          exact ⟨rfl, (K9.out.trans k11).trans k12⟩
      · have hR0 : relR [0] S5 = [(x, [])] := by rw [hRR.out, if_neg hn]
        rw [hR0] at U8
        have O9 := O8.out
        rw [hR0] at O9
        have HX2 := hid (next_any U8 O9)
        rw [hSe] at erv
        clear U8 O9 hR0
        go_wp2_with fail
        refine HX2.out.mono ?_
        rintro e w9 ⟨a9, b9, c9, v9, H9, rfl, _, R9, _, k9, f9⟩
        obtain ⟨o1, c1, e1, _⟩ := R9.a.form
        obtain ⟨o2, c2, e2, _⟩ := R9.b.form
        obtain ⟨o3, c3, e3, _⟩ := R9.c.form
        subst e1; subst e2; subst e3
        have hfl := hfew.out.2.1
        obtain ⟨b6, hb6⟩ : ∃ b6, w9.heap.size = b6 := ⟨_, rfl⟩
        have k9' : Kp NoB wr w9 := k8'.out.trans' k9 (fun b hb e => by have := N8.out p' (.inl rfl); omega)
        have KC := hid ((Kp.refl NoB w9).alloc (.cells #[.slice o1 x.a.length c1, .slice o2 x.b.length c2, .slice o3 x.c.length c3] 35))
        have B6 := hid (show (w9.alloc (.cells #[.slice o1 x.a.length c1, .slice o2 x.b.length c2, .slice o3 x.c.length c3] 35)).heap[b6]? = some (.cells #[.slice o1 x.a.length c1, .slice o2 x.b.length c2, .slice o3 x.c.length c3] 35 (0, 0)) from blk_new' _ _ hb6.symm)
        have K9 := hid (k9'.trans KC.out)
        have Rb := hid (R9.kn KC.out).b
        have nb := hid (show ∀ s, (Value.slice o2 x.b.length c2).ownBlock = some s → wr.heap.size ≤ s from fun s hs => N8.out s (f9 s (.inr (.inl hs))).1)
        clear k9 k9' R9 f9
        go_wp2_with fail
        try rw [hb6]
        generalize (w9.alloc (.cells #[.slice o1 x.a.length c1, .slice o2 x.b.length c2, .slice o3 x.c.length c3] 35)) = w10 at *
        go_loopw [13] (fun i W => ∃ (k : Nat), k ≤ x.b.length ∧ i = .int .i64 k ∧ (∃ l, RowAt W 59 eH 2 (.slice o2 x.b.length c2) l) ∧ W.heap[b6]? = some (.cells #[.slice o1 x.a.length c1, .slice o2 x.b.length c2, .slice o3 x.c.length c3] 35 (0, 0)) ∧ Kp NoB wr W) (fun i _ => x.b.length - (intOf i).toNat)
        case atStart => exact ⟨0, Nat.zero_le _, rfl, ⟨_, Rb.out⟩, B6.out, K9.out⟩
        case round =>
          obtain ⟨k, hk, rfl, ⟨l, hl⟩, hB, hKr⟩ := hrel
          have e1 : (0 : Int) ≤ (k : Int) := Int.natCast_nonneg _
          have L6 := loc3 hB
          have hln : l.length = x.b.length := by
            obtain ⟨_, _, e, _⟩ := hl.form
            injection e with _ e _; exact e.symm
          by_cases hkl : k < x.b.length
          · have e2 : (k : Int) < (x.b.length : Int) := by omega
            obtain ⟨bz, cz, Az, hv, hbz, _, hcz, _⟩ := hl.pos eH_len (by omega)
            rw [hln] at hv
            injection hv with hv1 _ hv3
            subst hv1; subst hv3
            obtain ⟨⟨i9, g9⟩, hz⟩ : ∃ z, l[k]? = some z := ⟨_, List.getElem?_eq_getElem (by omega)⟩
            rw [← hln] at hl
            obtain ⟨_, hc1, hf1, hb1⟩ := row_id hl hz 0
            have hst := hid (fun y => (row_id hl hz y).1)
            have hne := hid (ne_of_types hB hbz (by decide))
            replace hl := hid hl
            replace hB := hid hB
            replace hKr := hid hKr
            go_wp2_with fail
            go_roundw
            case rel =>
              refine ⟨k + 1, by omega, by go_num, ⟨_, hln ▸ hst.out _⟩, blk_far hB.out _ hne.out, hKr.out.trans' ((Kp.refl (fun x => x = bz) _).setCell (p := ⟨bz, k * 2, none⟩) _ (fun _ => rfl)) (fun b hb e => by have := nb.out bz rfl; omega)⟩
            case measure => simp [intOf]; omega
          · have e2 : ¬ (k : Int) < (x.b.length : Int) := by omega
            have T9 := T7.out.kn hKr
            have Lq := loc3 T9.d.hq
            rw [erv] at Lq
            have HSm := hid (same_any T9)
            have KF := hid (K7.out.trans hKr)
            replace hl := hid hl
            replace hB := hid hB
            replace hKr := hid hKr
            replace T9 := hid T9
            go_wp2_with fail
            refine HSm.out.mono ?_
            rintro e w11 ⟨rfl, k11⟩
            go_wp2_with fail
            refine (HK.out _).mono ?_
            rintro e w12 ⟨rfl, k12⟩
            go_wp2_with fail
            go_ret
            exact ⟨rfl, (KF.out.trans k11).trans k12⟩
end Go.Proofs.Ytplbkjgkocnehaa
