/- Walks: which locks are the same. -/
import Derived.Test.YtpfhjfijpmcnkaaK28
namespace Go.Proofs.Ytpfhjfijpmcnkaa
set_option linter.unusedSimpArgs false
set_option linter.unusedVariables false
open Go.RowKit
attribute [local go_sem ↓] Go.wp_at_zero Go.wp_at_succ
section
variable {w w' : World} {p m n p1 m1 p2 m2 q : Nat} {M M1 M2 : List (Int × Value)} {v v1 v2 : Value} {L L1 L2 : List (Int × Int)} {l l' : List Int}
set_option maxRecDepth 100000 in
set_option maxHeartbeats 4000000 in
theorem sequal_any (h1 : Rs 3 w v1 l) (h2 : Rs 3 w v2 l') (n2 : l.length ≤ 5000) :
    Calls Try.prog 44 #[v1, v2] w fun e w' => e = .returned (.bool (decide (l = l'))) ∧ Kp NoB w w' := by
  obtain ⟨o1, c1, hv1, _⟩ := h1.form
  obtain ⟨o2, c2, hv2, _⟩ := h2.form
  subst hv1; subst hv2
  by_cases hl : l.length = l'.length
  · have hl2 : ((l.length : Int) != (l'.length : Int)) = false := by simp [hl]
    replace hl := hid hl
    go_enter Try.func44, Try.ntmps44
    go_wp2_with fail
    go_loopw [5, 13] (fun _ i W => ∃ j : Nat, j ≤ l.length ∧ i = .int .i64 j ∧ Kp NoB w W ∧ Hid (l.take j = l'.take j)) (fun _ i _ => l.length - (intOf i).toNat)
    case atStart => exact ⟨0, Nat.zero_le _, rfl, Kp.refl _ w, hid (by simp)⟩
    case round =>
      obtain ⟨j, hj, rfl, hK, hT⟩ := hrel
      by_cases hlt : j < l.length
      · have hk1 : l[j]? = some l[j] := List.getElem?_eq_getElem hlt
        have hlt' : j < l'.length := by have := hl.out; omega
        have hk2 : l'[j]? = some l'[j] := List.getElem?_eq_getElem hlt'
        obtain ⟨b1, f1, d1, e1, m1, _, q1⟩ := h1.cells (by rintro rfl; simp at hlt)
        obtain ⟨b2, f2, d2, e2, m2, _, q2⟩ := h2.cells (by rintro rfl; simp at hlt')
        injection e1 with e11 _ e13
        injection e2 with e21 _ e23
        subst e11; subst e13; subst e21; subst e23
        have Le1 := q1 _ hK j _ hk1
        have Le2 := q2 _ hK j _ hk2
        obtain ⟨x, hx⟩ : ∃ x, l[j] = x := ⟨_, rfl⟩
        obtain ⟨y, hy⟩ : ∃ y, l'[j] = y := ⟨_, rfl⟩
        rw [hx] at Le1 hk1
        rw [hy] at Le2 hk2
        have b3 : (0 : Int) ≤ (j : Int) := Int.natCast_nonneg _
        have b4 : (j : Int) < (l.length : Int) := by omega
        have b5 : (j : Int) < (l'.length : Int) := by omega
        replace h1 := hid h1
        replace h2 := hid h2
        have hns : x ≠ y → decide (l = l') = false := fun hn => by
          simp
          rintro rfl
          rw [hk1] at hk2
          injection hk2 with hk2
          exact hn hk2
        have hnx : x = y → l.take (j + 1) = l'.take (j + 1) := fun he => by
          rw [List.take_add_one, List.take_add_one, hT.out, hk1, hk2, he]
        replace hns := hid hns
        replace hnx := hid hnx
        replace hk1 := hid hk1
        replace hk2 := hid hk2
        replace hx := hid hx
        replace hy := hid hy
        clear q1 q2
        by_cases hxy : x = y
        · have hxb : (x != y) = false := by simpa using hxy
          have hxy' := hid hxy
          clear hxy
          go_wp2_with fail
          refine wp_region_G (fun _ => True) [(0, .at_), (1, .at_), (2, .at_), (3, .at_), (4, .at_), (5, .at_), (6, .at_), (7, .at_), (8, .at_)] ?L1 (by kernel_rfl) (by kernel_rfl) ?hL1 (trivial) ?hG1
          case hL1 => simp only [pickOps, List.map_cons, List.map_nil, List.getD_cons_zero, List.getD_cons_succ]; rfl
          repeat (first | (refine wpG_at (v := ?_) (by rfl) ?_ ?_; rotate_left; (focus (first | (go_simp; with_reducible rfl) | (go_simp; done))); simp only [Act.put, List.setIfInBounds_toArray, List.set_cons_zero, List.set_cons_succ]) | (refine wpG_at_skip (by rfl) ?_; simp only [Act.put, List.setIfInBounds_toArray, List.set_cons_zero, List.set_cons_succ]) | (refine wpG_held_skip (by rfl) ?_; simp only [Act.put, List.setIfInBounds_toArray, List.set_cons_zero, List.set_cons_succ]) | (refine wpG_held (v := ?_) (by rfl) ?_ ?_; rotate_left; (focus (intro w' hSw; (try dsimp only at hSw); go_split_ands; first | (go_simp; with_reducible rfl) | (go_simp; done))); simp only [Act.put, List.setIfInBounds_toArray, List.set_cons_zero, List.set_cons_succ]))
          refine wpG_nil (NoPanic.normal ?_)
          go_wp2_with fail
          go_roundw
          case rel => exact ⟨j + 1, by omega, by go_num, hK.drew, hid (hnx.out hxy'.out)⟩
          case measure => simp [intOf]; omega
        · have hxb : (x != y) = true := by simpa using hxy
          have hdf := hid (hns.out hxy)
          clear hxy
          go_wp2_with fail
          refine wp_region_G (fun _ => True) [(0, .at_), (1, .at_), (2, .at_), (3, .at_), (4, .at_), (5, .at_), (6, .at_), (7, .at_), (8, .at_)] ?L2 (by kernel_rfl) (by kernel_rfl) ?hL2 (trivial) ?hG2
          case hL2 => simp only [pickOps, List.map_cons, List.map_nil, List.getD_cons_zero, List.getD_cons_succ]; rfl
          repeat (first | (refine wpG_at (v := ?_) (by rfl) ?_ ?_; rotate_left; (focus (first | (go_simp; with_reducible rfl) | (go_simp; done))); simp only [Act.put, List.setIfInBounds_toArray, List.set_cons_zero, List.set_cons_succ]) | (refine wpG_at_skip (by rfl) ?_; simp only [Act.put, List.setIfInBounds_toArray, List.set_cons_zero, List.set_cons_succ]) | (refine wpG_held_skip (by rfl) ?_; simp only [Act.put, List.setIfInBounds_toArray, List.set_cons_zero, List.set_cons_succ]) | (refine wpG_held (v := ?_) (by rfl) ?_ ?_; rotate_left; (focus (intro w' hSw; (try dsimp only at hSw); go_split_ands; first | (go_simp; with_reducible rfl) | (go_simp; done))); simp only [Act.put, List.setIfInBounds_toArray, List.set_cons_zero, List.set_cons_succ]))
          refine wpG_nil (NoPanic.normal ?_)
          go_wp2_with fail
          go_ret
          exact ⟨by rw [hdf.out]; rfl, hK.drew⟩
      · obtain rfl : j = l.length := by omega
        have he : decide (l = l') = true := by
          have := hT.out
          rw [List.take_length, hl.out, List.take_length] at this
          simpa using this
        replace he := hid he
        replace h1 := hid h1
        replace h2 := hid h2
        go_wp2_with fail
        go_ret
        exact ⟨by rw [he.out]; rfl, hK⟩
  · have hl2 : ((l.length : Int) != (l'.length : Int)) = true := by simp; omega
    have he : decide (l = l') = false := by simp; rintro rfl; exact hl rfl
    rw [he]
    clear h1 h2 he hl
    go_enter Try.func44, Try.ntmps44
    go_wp2_with fail
    go_ret
    exact ⟨rfl, Kp.refl _ _⟩
theorem eq_any (h1 : Rs 3 w v1 l) (h2 : Rs 3 w v2 l') (n2 : l.length ≤ 5000) :
    Calls Try.prog 43 #[v1, v2] w fun e w' => e = .returned (.bool (decide (l = l'))) ∧ Kp NoB w w' := by
  have HE := hid (sequal_any h1 h2 n2)
  obtain ⟨o1, c1, hv1, _⟩ := h1.form
  obtain ⟨o2, c2, hv2, _⟩ := h2.form
  subst hv1; subst hv2
  generalize decide (l = l') = b at *
  clear h1 h2
  go_enter Try.func43, Try.ntmps43
  go_wp2_with fail
  refine HE.out.mono ?_
  rintro e w1 ⟨rfl, k⟩
  go_wp2_with fail
  go_ret
  exact ⟨rfl, k⟩
theorem LAt.lookok (h : LAt w p m n M L) {id : Int} (hw : (Lit.int .i64 id).wf = true) : ∃ v, (∀ W, Kp NoB w W → (Instr.lookup 51 (.map (some m)) (.int .i64 id) true).run Try.prog W = .ok (.tuple #[v, .bool (decide (rowL L id ≠ []))]) W) ∧ Rs 3 w v (rowL L id) := by
  have hr := h.rows id
  have hkr := key_row h (id := id)
  cases hg : mget M id with
  | none =>
    rw [hg] at hr hkr
    refine ⟨_, fun W k => ?_, hr⟩
    have := (h.kn k).hm.look (P := Try.prog) h.k k23 k51 (zero31 W) id hw true
    rw [hg] at this
    have e : decide (rowL L id ≠ []) = false := by rw [decide_eq_false_iff_not]; intro h; have := hkr.2 h; cases this
    rw [e]; simpa using this
  | some v =>
    rw [hg] at hr hkr
    refine ⟨_, fun W k => ?_, hr⟩
    have := (h.kn k).hm.look (P := Try.prog) h.k k23 k51 (zero31 W) id hw true
    rw [hg] at this
    have e : decide (rowL L id ≠ []) = true := by rw [decide_eq_true_iff]; exact hkr.1 rfl
    rw [e]; simpa using this
set_option maxRecDepth 100000 in
set_option maxHeartbeats 8000000 in
theorem eqfunc_any (h1 : LAt w p1 m1 n M1 L1) (h2 : LAt w p2 m2 n M2 L2) (l1 : L1.length ≤ 4000) (l2 : L2.length ≤ 4000) :
    Calls Try.prog 42 #[.map (some m1), .map (some m2), .func (.func 43) #[] #[]] w fun e w' => e = .returned (.bool (sameB L1 L2)) ∧ Kp NoB w w' := by
  have k1 := keys_len h1
  have k2 := keys_len h2
  have hlen1 := h1.hm.len (P := Try.prog) k51 3 (by omega)
  have hlen2 := h2.hm.len (P := Try.prog) k51 3 (by omega)
  have H1 := hid h1
  have H2 := hid h2
  have hm1l := h1.lt.2
  have hm2l := h2.lt.2
  by_cases hl : M1.length = M2.length
  · obtain ⟨w3, hrg, ⟨cnt, I3⟩, k3⟩ := h1.hm.range (P := Try.prog) k51
    have hls : ((M1.length : Int) != (M2.length : Int)) = false := by simp [hl]
    replace I3 := hid I3
    replace k3 := hid k3
    replace hl := hid hl
    clear h1 h2
    go_enter Try.func42, Try.ntmps42
    go_wp2_with fail
    go_loopw [] (fun W => ∃ (S : List Int) (c : Nat), IterAt .i64 W w.heap.size m1 M1 S c ∧ Hid (∀ id ∈ S, rowL L1 id = rowL L2 id) ∧ Kp NoB w W) (fun W => itLeft W w.heap.size m1)
    case atStart => exact ⟨[], cnt, I3.out, hid (by simp), k3.out⟩
    case round =>
      obtain ⟨S, c, hI, hS, hK⟩ := hrel
      rcases hI.next (P := Try.prog) H1.out.k 0 with ⟨hA, hnx⟩ | ⟨k, v, w5, c', hkM, hkS, hnx, hI', hlt, hk5, hen⟩
      · have hT : sameB L1 L2 = true := same_of H1.out H2.out hl.out (fun id hi => hS.out id (by
          obtain ⟨x, hx, e⟩ := List.mem_map.1 (key_mem.1 hi)
          exact e ▸ hA x hx))
        replace hT := hid hT
        replace hI := hid hI
        replace hA := hid hA
        go_wp2_with fail
        go_ret
        exact ⟨by rw [hT.out]; rfl, hK⟩
      · have hw : (Lit.int .i64 k).wf = true := H1.out.k.w _ hkM
        have hK5 : Kp NoB w w5 := hK.trans' hk5 (fun b hb e => by omega)
        obtain ⟨v2, hlook, hr2⟩ := H2.out.lookok hw
        have hlk := hlook _ hK5
        have hg1 := uniq_at H1.out.k.u hkM
        have hr1 : Rs 3 w v (rowL L1 k) := by have := H1.out.rows k; rw [hg1] at this; exact this
        have hne1 : rowL L1 k ≠ [] := H1.out.ne k (by rw [hg1]; rfl)
        have hlr := row_len L1 k
        have HE := hid (eq_any (hr1.kn hK5) (hr2.kn hK5) (by omega))
        have hlm := hI.left
        have hlm' := hI'.left
        have hle : c' < c := hlt
        replace hI := hid hI
        replace hI' := hid hI'
        replace hkM := hid hkM
        replace hkS := hid hkS
        replace hK := hid hK
        replace hK5 := hid hK5
        replace hr1 := hid hr1
        replace hr2 := hid hr2
        replace hg1 := hid hg1
        replace hlook := hid hlook
        replace hw := hid hw
        replace hlm := hid hlm
        replace hlm' := hid hlm'
        clear hk5
        by_cases h2 : rowL L2 k = []
        · have hf : sameB L1 L2 = false := by
            cases hb : sameB L1 L2 with
            | false => rfl
            | true => rw [same_iff] at hb; exact absurd ((hb k).trans h2) hne1
          replace hf := hid hf
          rw [show decide (rowL L2 k ≠ []) = false from by simp [h2]] at hlk
          clear h2 hne1
          go_wp2_with fail
          go_ret
          exact ⟨by rw [hf.out]; rfl, hK5.out⟩
        · rw [show decide (rowL L2 k ≠ []) = true from by simp [h2]] at hlk
          clear h2 hne1
          by_cases he : rowL L1 k = rowL L2 k
          · rw [show decide (rowL L1 k = rowL L2 k) = true from by simp [he]] at HE
            have he' := hid he
            clear he
            go_wp2_with fail
            refine HE.out.mono ?_
            rintro e w6 ⟨rfl, k6⟩
            have I6 := hI'.out.kp k6 (fun h => h) (fun h => h)
            have hl6 := hid I6.left
            replace I6 := hid I6
            have K6 := hid (hK5.out.trans k6)
            clear k6
            go_wp2_with fail
            go_roundw
            case rel => exact ⟨k :: S, c', I6.out, hid (fun id hi => by
              rcases List.mem_cons.1 hi with e | h
              · subst e; exact he'.out
              · exact hS.out id h), K6.out⟩
            case measure => rw [hl6.out, hlm.out]; exact hle
          · rw [show decide (rowL L1 k = rowL L2 k) = false from by simp [he]] at HE
            have hf : sameB L1 L2 = false := by
              cases hb : sameB L1 L2 with
              | false => rfl
              | true => rw [same_iff] at hb; exact absurd (hb k) he
            replace hf := hid hf
            clear he
            go_wp2_with fail
            refine HE.out.mono ?_
            rintro e w6 ⟨rfl, k6⟩
            have K6 := hid (hK5.out.trans k6)
            go_wp2_with fail
            go_ret
            exact ⟨by rw [hf.out]; rfl, K6.out⟩
  · have hls : ((M1.length : Int) != (M2.length : Int)) = true := by simp; omega
    have hf : sameB L1 L2 = false := by
      cases hb : sameB L1 L2 with
      | false => rfl
      | true => exact absurd (same_len h1 h2 hb) hl
    rw [hf]
    clear h1 h2 hl hf
    go_enter Try.func42, Try.ntmps42
    go_wp2_with fail
    go_ret
    exact ⟨rfl, Kp.refl _ _⟩
end
end Go.Proofs.Ytpfhjfijpmcnkaa
