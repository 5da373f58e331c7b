/- Walks: who waits is given the lock in turn. -/
import Derived.Test.YtpfhjfijpmcnkaaK15
namespace Go.Proofs.Ytpfhjfijpmcnkaa
set_option linter.unusedSimpArgs false
set_option linter.unusedVariables false
open Go.RowKit
attribute [local go_sem ↓] Go.wp_at_zero Go.wp_at_succ
section
variable {w0 w w' : World} {p m q n : Nat} {M : List (Int × Value)} {v : Value} {L : List (Int × Int)} {l : List Int}
theorem release_new2 (h : LNew w0 w p n L) {t id : Int} (hw : (Lit.int .i64 id).wf = true) (n2 : L.length ≤ 4000) :
    Calls Try.prog 17 #[.pointer (some ⟨p, 0, none⟩), .int .i64 t, .int .i64 id] w fun e w' => e = .returned (.bool (hasB L t id)) ∧ LNew w0 w' p n (relL L t id) ∧ Hid (∀ v l, Rs 3 w v l → Rs 3 w' v l) := by
  obtain ⟨m, M, h1, h2, h3, h4⟩ := h
  refine (release_any h1 h2 hw n2).mono ?_
  rintro e w1 ⟨rfl, M', q, k⟩
  exact ⟨rfl, ⟨m, M', q, by unfold relL; split; exact h2.out t id; exact h2, h3, h4.trans' k (fun b hb e => by omega)⟩, hid (fun v l hv => hv.mp' h1.hm k)⟩
theorem dec_self' (l : List Int) : decide (l = l) = true := by simp
theorem filter_head {a : Int} {r : List Int} (h : (a :: r).Nodup) : (a :: r).filter (fun x => x != a) = r := by
  rw [List.filter_cons]
  simp only [bne_self_eq_false, Bool.false_eq_true, if_false]
  rw [List.filter_eq_self]
  intro x hx
  have := (List.nodup_cons.1 h).1
  simp
  rintro rfl; exact this hx
theorem head_none {a : Int} {r : List Int} (h : (a :: r).Nodup) : (isL r && hdL r == a) = false := by
  cases r with
  | nil => rfl
  | cons b r => simp [isL, hdL]; rintro rfl; simp at h
set_option maxRecDepth 100000 in
set_option maxHeartbeats 16000000 in
theorem gives_good (w : World) (n1 : 1 ≤ n) (n2 : n ≤ 8) (x : Option Addr) (len cap : Nat) (A : List A3) (hL : ActsAt w w.heap.size x len A) (hl : len ≤ 80) {id : Int} (hw : (Lit.int .i64 id).wf = true) :
   Calls Try.prog 4 #[.int .i64 n, .slice x len cap, .int .i64 id] w fun e w' => e = .returned (.bool true) ∧ Kp NoB w w' := by
  have HR := hid (ran_good w n1 n2 x len cap A 80 (by omega) (by omega) hL)
  have HK := hid known_any
  clear hL
  go_enter Try.func4, Try.ntmps4
  go_wp2_with fail
  refine HR.out.mono ?_
  rintro e w1 ⟨p, q, L, rfl, hlen, hJ⟩
  have N1 := hid hJ.one
  have hRl := row_len L id
  have hnd := hid (hJ.o.nd id)
  obtain ⟨m, M, v, hJ1, _, _, _⟩ := hJ
  have HRow := hid (row_any hJ1.r (by omega) id)
  have hll : L.length ≤ 80 := by omega
  clear hJ1 HR hlen
  go_wp2_with fail
  refine HRow.out.mono ?_
  rintro e w2 ⟨v', rfl, r2, k2⟩
  have N2 := hid (N1.out.kn k2)
  obtain ⟨oa, ca, hva, hca⟩ := r2.form
  subst hva
  have hrw := hid (show rowL L id = rowL L id from rfl)
  generalize hR : rowL L id = R at *
  replace hR := hid hR
  clear hrw
  replace r2 := hid r2
  clear k2 N1 HRow
  have HB := hid (fun W (L' : List (Int × Int)) (a : Int) (h : LNew w W p n L') => has_new h (t := a) hw)
  have HW := hid (fun W (L' : List (Int × Int)) (h : LNew w W p n L') (h2 : L'.length ≤ 80) => waiting_new h hw (by omega))
  have HRel := hid (fun W (L' : List (Int × Int)) (a : Int) (h : LNew w W p n L') (h2 : L'.length ≤ 80) => release_new2 h (t := a) hw (by omega))
  have HH := hid (fun W (L' : List (Int × Int)) (h : LNew w W p n L') => holder_new h hw)
  go_wp2_with fail
  go_loopw [11] (fun i W => ∃ (j : Nat) (L' : List (Int × Int)), j ≤ R.length ∧ i = .int .i64 j ∧ LNew w W p n L' ∧ L'.length ≤ 80 ∧ Hid (rowL L' id = R.drop j) ∧ Rs 3 W (.slice oa R.length ca) R) (fun i _ => R.length - (intOf i).toNat)
  case atStart => exact ⟨0, L, Nat.zero_le _, rfl, N2.out, hll, hid (by rw [hR.out, List.drop_zero]), r2.out⟩
  case round =>
    obtain ⟨j, L', hj, rfl, hN, hLl, hrow, hRs⟩ := hrel
    by_cases hlt : j < R.length
    · have hk : R[j]? = some R[j] := List.getElem?_eq_getElem hlt
      have hdr : R.drop j = R[j] :: R.drop (j + 1) := List.drop_eq_getElem_cons hlt
      have hnd1 : (R.drop j).Nodup := hnd.out.sublist (List.drop_sublist _ _)
      rcases hRs with ⟨_, h0⟩ | ⟨b, f, c, B, hv', hb, hA, hc⟩
      · exfalso; subst h0; simp at hlt
      injection hv' with hv1 _ hv3
      subst hv1; subst hv3
      have hRs0 := hid (show Rs 3 wr (.slice (some ⟨b, f, none⟩) R.length ca) R from .inr ⟨b, f, ca, B, rfl, hb, hA, hc⟩)
      obtain ⟨y, hy⟩ : ∃ y, R[j] = y := ⟨_, rfl⟩
      rw [hy] at hk hdr
      obtain ⟨D, hD⟩ : ∃ D, R.drop (j + 1) = D := ⟨_, rfl⟩
      have hDl : D.length = R.length - (j + 1) := by rw [← hD, List.length_drop]
      rw [hD] at hdr
      rw [hdr] at hrow hnd1
      have Le : wr.cell? ⟨b, f + j, none⟩ = some (.int .i64 y) := by rw [cell_of hb]; exact hA j y hk
      have hN1 := hid (hN.kn ((Kp.refl _ wr).drew))
      have HB1 := HB.out _ L' y hN1.out
      rw [show hasB L' y id = true from by rw [hasB, hrow.out]; simp [isL, hdL]] at HB1
      have HW1 := HW.out _ L' hN1.out hLl
      rw [hrow.out, List.tail_cons] at HW1
      have hS : ∀ g c', (ca ≠ j + 1 → g = f + (j + 1)) → R.length - (j + 1) ≤ c' → Rs 3 wr (.slice (some ⟨b, g, none⟩) (R.length - (j + 1)) c') D := fun g c' hg hc' =>
        .inr ⟨b, g, c', B, by rw [hDl], hb, fun i z hz => by
          have hi := (List.getElem?_eq_some_iff.1 hz).1
          rw [hg (by omega), Nat.add_assoc]
          rw [← hD, List.getElem?_drop] at hz
          exact hA _ z hz, by rw [hDl]; exact hc'⟩
      have b1 : (0 : Int) ≤ (j : Int) := Int.natCast_nonneg _
      have b2 : (j : Int) < (R.length : Int) := by omega
      have b3 : (0 : Int) ≤ (j : Int) + 1 := by omega
      have b4 : (j : Int) + 1 ≤ (R.length : Int) := by omega
      have b5 : (R.length : Int) ≤ (ca : Int) := by omega
      have b6 : ((j : Int) + 1).toNat = j + 1 := by omega
      have b7 : IntKind.i64.wrap ((j : Int) + 1) = (j : Int) + 1 := by simp [IntKind.wrap, IntKind.bits, IntKind.signed]; omega
      have hDll : D.length ≤ 5000 := by omega
      have hno := fun k (hk : k < R.length) (hkj : k ≠ j) => show (y == R[k]) = false from by
        rw [beq_eq_false_iff_ne]; intro e
        exact hkj ((List.getElem_inj hnd.out).1 (by rw [← e, hy]))
      replace hno := hid hno
      replace hb := hid hb
      replace hA := hid hA
      replace hk := hid hk
      replace hdr := hid hdr
      replace hy := hid hy
      replace hD := hid hD
      replace hDl := hid hDl
      replace HB1 := hid HB1
      replace HW1 := hid HW1
      replace hN := hid hN
      replace hnd1 := hid hnd1
      have HS : Hid (∃ sv, Rs 3 wr sv D ∧ ((ca = j + 1 ∧ sv = .slice (some ⟨b, f, none⟩) 0 0) ∨ (ca ≠ j + 1 ∧ sv = .slice (some ⟨b, f + (j + 1), none⟩) (R.length - (j + 1)) (ca - (j + 1))))) := hid (by
        by_cases hce : ca = j + 1
        · have := hS f 0 (fun h => absurd hce h) (by omega)
          rw [show R.length - (j + 1) = 0 from by omega] at this
          exact ⟨_, this, .inl ⟨hce, rfl⟩⟩
        · exact ⟨_, hS _ (ca - (j + 1)) (fun _ => rfl) (by omega), .inr ⟨hce, rfl⟩⟩)
      clear hS
      obtain ⟨sv, hsv, hsc⟩ := HS.out
      clear HS
      replace hsv := hid hsv
      rcases hsc with ⟨hce, rfl⟩ | ⟨hce, rfl⟩
      · subst hce
        have b9 : (R.length : Int) ≤ (j : Int) + 1 := by omega
        go_wp2_with fail
        refine wp_region_G (fun _ => True) [(0, .at_), (1, .at_), (2, .at_), (3, .at_), (4, .at_), (5, .at_), (6, .eff), (7, .at_), (8, .at_), (9, .at_), (10, .at_), (12, .held), (13, .held), (14, .held), (15, .held), (11, .eff), (16, .eff), (17, .at_), (18, .at_)] ?L1 (by kernel_rfl) (by kernel_rfl) ?hL1 (trivial) ?hG1
        case hL1 => simp only [pickOps, List.map_cons, List.map_nil, List.getD_cons_zero, List.getD_cons_succ]; rfl
        repeat (first | (refine wpG_at (v := ?_) (by rfl) ?_ ?_; rotate_left; (focus (first | (go_simp; with_reducible rfl) | (go_simp; done))); simp only [Act.put, List.setIfInBounds_toArray, List.set_cons_zero, List.set_cons_succ]) | (refine wpG_at_skip (by rfl) ?_; simp only [Act.put, List.setIfInBounds_toArray, List.set_cons_zero, List.set_cons_succ]) | (refine wpG_held_skip (by rfl) ?_; simp only [Act.put, List.setIfInBounds_toArray, List.set_cons_zero, List.set_cons_succ]) | (refine wpG_held (v := ?_) (by rfl) ?_ ?_; rotate_left; (focus (intro w' hSw; (try dsimp only at hSw); go_split_ands; first | (go_simp; with_reducible rfl) | (go_simp; done))); simp only [Act.put, List.setIfInBounds_toArray, List.set_cons_zero, List.set_cons_succ]))
        refine wpG_eff (by rfl) (fun K hK => ?_)
        go_simp
        refine HB1.out.mono ?_
        rintro e w3 ⟨rfl, rfl⟩
        refine hK _ _ trivial ?_
        clear hK K
        repeat (first | (refine wpG_at (v := ?_) (by rfl) ?_ ?_; rotate_left; (focus (first | (go_simp; with_reducible rfl) | (go_simp; done))); simp only [Act.put, List.setIfInBounds_toArray, List.set_cons_zero, List.set_cons_succ]) | (refine wpG_at_skip (by rfl) ?_; simp only [Act.put, List.setIfInBounds_toArray, List.set_cons_zero, List.set_cons_succ]) | (refine wpG_held_skip (by rfl) ?_; simp only [Act.put, List.setIfInBounds_toArray, List.set_cons_zero, List.set_cons_succ]) | (refine wpG_held (v := ?_) (by rfl) ?_ ?_; rotate_left; (focus (intro w' hSw; (try dsimp only at hSw); go_split_ands; first | (go_simp; with_reducible rfl) | (go_simp; done))); simp only [Act.put, List.setIfInBounds_toArray, List.set_cons_zero, List.set_cons_succ]))
        refine wpG_eff (by rfl) (fun K hK => ?_)
        go_simp
        refine HW1.out.mono ?_
        rintro e w3 ⟨v3, rfl, r3, N3, k3⟩
        replace r3 := hid r3
        replace N3 := hid N3
        have K3 := hid (show Kp NoB wr w3 from ((Kp.refl _ wr).drew).trans k3)
        clear k3
        refine hK _ _ trivial ?_
        clear hK K
        repeat (first | (refine wpG_at (v := ?_) (by rfl) ?_ ?_; rotate_left; (focus (first | (go_simp; with_reducible rfl) | (go_simp; done))); simp only [Act.put, List.setIfInBounds_toArray, List.set_cons_zero, List.set_cons_succ]) | (refine wpG_at_skip (by rfl) ?_; simp only [Act.put, List.setIfInBounds_toArray, List.set_cons_zero, List.set_cons_succ]) | (refine wpG_held_skip (by rfl) ?_; simp only [Act.put, List.setIfInBounds_toArray, List.set_cons_zero, List.set_cons_succ]) | (refine wpG_held (v := ?_) (by rfl) ?_ ?_; rotate_left; (focus (intro w' hSw; (try dsimp only at hSw); go_split_ands; first | (go_simp; with_reducible rfl) | (go_simp; done))); simp only [Act.put, List.setIfInBounds_toArray, List.set_cons_zero, List.set_cons_succ]))
        refine wpG_eff (by rfl) (fun K hK => ?_)
        go_simp
        refine (equal_any r3.out (hsv.out.kn K3.out) hDll).mono ?_
        rintro e w4 ⟨rfl, k4⟩
        rw [dec_self']
        have N4 := hid (N3.out.kn k4)
        have R4 := hid (hRs0.out.kn (K3.out.trans k4))
        clear k4
        refine hK _ _ trivial ?_
        clear hK K
        repeat (first | (refine wpG_at (v := ?_) (by rfl) ?_ ?_; rotate_left; (focus (first | (go_simp; with_reducible rfl) | (go_simp; done))); simp only [Act.put, List.setIfInBounds_toArray, List.set_cons_zero, List.set_cons_succ]) | (refine wpG_at_skip (by rfl) ?_; simp only [Act.put, List.setIfInBounds_toArray, List.set_cons_zero, List.set_cons_succ]) | (refine wpG_held_skip (by rfl) ?_; simp only [Act.put, List.setIfInBounds_toArray, List.set_cons_zero, List.set_cons_succ]) | (refine wpG_held (v := ?_) (by rfl) ?_ ?_; rotate_left; (focus (intro w' hSw; (try dsimp only at hSw); go_split_ands; first | (go_simp; with_reducible rfl) | (go_simp; done))); simp only [Act.put, List.setIfInBounds_toArray, List.set_cons_zero, List.set_cons_succ]))
        refine wpG_nil (NoPanic.normal ?_)
        go_wp2_with fail
        go_loopw [12] (fun k W => ∃ z : Nat, z ≤ R.length ∧ k = .int .i64 z ∧ LNew w W p n L' ∧ Rs 3 W (.slice (some ⟨b, f, none⟩) R.length (j + 1)) R) (fun k _ => R.length - (intOf k).toNat)
        case atStart => exact ⟨0, Nat.zero_le _, rfl, N4.out, R4.out⟩
        case round =>
          obtain ⟨z, hz, rfl, hNz, hRz⟩ := hrel
          clear N4 R4 N3 r3 K3 HB1 HW1 hsv hN hb hA hRs0 hN1 Le
          have c1 : (0 : Int) ≤ (z : Int) := Int.natCast_nonneg _
          by_cases hzl : z < R.length
          · have c2 : (z : Int) < (R.length : Int) := by omega
            have hkz : R[z]? = some R[z] := List.getElem?_eq_getElem hzl
            obtain ⟨b', f', d', e1, _, _, q1⟩ := hRz.cells (by rintro rfl; simp at hzl)
            injection e1 with e11 _ e13
            injection e11 with e11
            injection e11 with e11 e12
            subst e11; subst e12; subst e13
            have Lz := q1 _ (Kp.refl _ _) z _ hkz
            clear q1
            by_cases hzj : z = j
            · subst hzj
              replace hNz := hid hNz
              replace hRz := hid hRz
              generalize R[z] = y' at *
              clear hkz
              go_wp2_with fail
              go_roundw
              case rel => exact ⟨z + 1, by omega, by go_num, hNz.out, hRz.out⟩
              case measure => simp [intOf]; omega
            · have hzb : ((z : Int) != (j : Int)) = true := by simp; omega
              have HL1 := HRel.out _ L' R[z] hNz hLl
              have hf : hasB L' R[z] id = false := by rw [hasB, hrow.out]; simp only [isL, hdL, Bool.true_and]; exact hno.out z hzl hzj
              have hrl : relL L' R[z] id = L' := by rw [relL, hf]; simp
              rw [hf, hrl] at HL1
              replace HL1 := hid HL1
              replace hNz := hid hNz
              replace hRz := hid hRz
              clear hf hrl hzj
              generalize R[z] = y' at *
              clear hkz
              go_wp2_with fail
              refine HL1.out.mono ?_
              rintro e w5 ⟨rfl, N5, k5⟩
              have R5 := hid (k5.out _ _ hRz.out)
              replace N5 := hid N5
              go_wp2_with fail
              go_roundw
              case rel => exact ⟨z + 1, by omega, by go_num, N5.out, R5.out⟩
              case measure => simp [intOf]; omega
          · have HL1 := HRel.out _ L' y hNz hLl
            have hf : hasB L' y id = true := by rw [hasB, hrow.out]; simp [isL, hdL]
            have hrl : relL L' y id = outL L' y id := by rw [relL, hf]; simp
            rw [hf, hrl] at HL1
            replace HL1 := hid HL1
            have hro : rowL (outL L' y id) id = D := by rw [row_out, if_pos rfl, hrow.out]; exact filter_head hnd1.out
            have HB5 := hid (HB.out · (outL L' y id) y)
            have hf2 : hasB (outL L' y id) y id = false := by rw [hasB, hro]; exact head_none hnd1.out
            rw [hf2] at HB5
            have hol := out_len L' y id
            obtain ⟨b', f', d', e1, _, _, q1⟩ := hRz.cells (by rintro rfl; simp at hlt)
            injection e1 with e11 _ e13
            injection e11 with e11
            injection e11 with e11 e12
            subst e11; subst e12; subst e13
            have Lz := q1 _ (Kp.refl _ _) j _ hk.out
            clear q1 hf hrl hf2
            replace hNz := hid hNz
            replace hRz := hid hRz
            replace hro := hid hro
            go_wp2_with fail
            refine HL1.out.mono ?_
            rintro e w5 ⟨rfl, N5, k5⟩
            have R5 := k5.out _ _ hRz.out
            obtain ⟨b', f', d', e1, _, _, q1⟩ := R5.cells (by rintro rfl; simp at hlt)
            injection e1 with e11 _ e13
            injection e11 with e11
            injection e11 with e11 e12
            subst e11; subst e12; subst e13
            have Lz2 := q1 _ (Kp.refl _ _) j _ hk.out
            clear q1 Lz
            replace R5 := hid R5
            replace N5 := hid N5
            go_wp2_with fail
            refine (HB5.out _ N5.out).mono ?_
            rintro e w6 ⟨rfl, rfl⟩
            go_wp2_with fail
            go_roundw
            case rel => exact ⟨j + 1, outL L' y id, by omega, by go_num, N5.out, by omega, hid (by rw [hro.out, hD.out]), R5.out⟩
            case measure => simp [intOf]; omega
      ·
        go_wp2_with fail
        refine wp_region_G (fun _ => True) [(0, .at_), (1, .at_), (2, .at_), (3, .at_), (4, .at_), (5, .at_), (6, .eff), (7, .at_), (8, .at_), (9, .at_), (10, .at_), (12, .held), (13, .held), (14, .held), (15, .held), (11, .eff), (16, .eff), (17, .at_), (18, .at_)] ?L2 (by kernel_rfl) (by kernel_rfl) ?hL2 (trivial) ?hG2
        case hL2 => simp only [pickOps, List.map_cons, List.map_nil, List.getD_cons_zero, List.getD_cons_succ]; rfl
        repeat (first | (refine wpG_at (v := ?_) (by rfl) ?_ ?_; rotate_left; (focus (first | (go_simp; with_reducible rfl) | (go_simp; done))); simp only [Act.put, List.setIfInBounds_toArray, List.set_cons_zero, List.set_cons_succ]) | (refine wpG_at_skip (by rfl) ?_; simp only [Act.put, List.setIfInBounds_toArray, List.set_cons_zero, List.set_cons_succ]) | (refine wpG_held_skip (by rfl) ?_; simp only [Act.put, List.setIfInBounds_toArray, List.set_cons_zero, List.set_cons_succ]) | (refine wpG_held (v := ?_) (by rfl) ?_ ?_; rotate_left; (focus (intro w' hSw; (try dsimp only at hSw); go_split_ands; first | (go_simp; with_reducible rfl) | (go_simp; done))); simp only [Act.put, List.setIfInBounds_toArray, List.set_cons_zero, List.set_cons_succ]))
        refine wpG_eff (by rfl) (fun K hK => ?_)
        go_simp
        refine HB1.out.mono ?_
        rintro e w3 ⟨rfl, rfl⟩
        refine hK _ _ trivial ?_
        clear hK K
        repeat (first | (refine wpG_at (v := ?_) (by rfl) ?_ ?_; rotate_left; (focus (first | (go_simp; with_reducible rfl) | (go_simp; done))); simp only [Act.put, List.setIfInBounds_toArray, List.set_cons_zero, List.set_cons_succ]) | (refine wpG_at_skip (by rfl) ?_; simp only [Act.put, List.setIfInBounds_toArray, List.set_cons_zero, List.set_cons_succ]) | (refine wpG_held_skip (by rfl) ?_; simp only [Act.put, List.setIfInBounds_toArray, List.set_cons_zero, List.set_cons_succ]) | (refine wpG_held (v := ?_) (by rfl) ?_ ?_; rotate_left; (focus (intro w' hSw; (try dsimp only at hSw); go_split_ands; first | (go_simp; with_reducible rfl) | (go_simp; done))); simp only [Act.put, List.setIfInBounds_toArray, List.set_cons_zero, List.set_cons_succ]))
        refine wpG_eff (by rfl) (fun K hK => ?_)
        go_simp
        refine HW1.out.mono ?_
        rintro e w3 ⟨v3, rfl, r3, N3, k3⟩
        replace r3 := hid r3
        replace N3 := hid N3
        have K3 := hid (show Kp NoB wr w3 from ((Kp.refl _ wr).drew).trans k3)
        clear k3
        refine hK _ _ trivial ?_
        clear hK K
        repeat (first | (refine wpG_at (v := ?_) (by rfl) ?_ ?_; rotate_left; (focus (first | (go_simp; with_reducible rfl) | (go_simp; done))); simp only [Act.put, List.setIfInBounds_toArray, List.set_cons_zero, List.set_cons_succ]) | (refine wpG_at_skip (by rfl) ?_; simp only [Act.put, List.setIfInBounds_toArray, List.set_cons_zero, List.set_cons_succ]) | (refine wpG_held_skip (by rfl) ?_; simp only [Act.put, List.setIfInBounds_toArray, List.set_cons_zero, List.set_cons_succ]) | (refine wpG_held (v := ?_) (by rfl) ?_ ?_; rotate_left; (focus (intro w' hSw; (try dsimp only at hSw); go_split_ands; first | (go_simp; with_reducible rfl) | (go_simp; done))); simp only [Act.put, List.setIfInBounds_toArray, List.set_cons_zero, List.set_cons_succ]))
        refine wpG_eff (by rfl) (fun K hK => ?_)
        go_simp
        refine (equal_any r3.out (hsv.out.kn K3.out) hDll).mono ?_
        rintro e w4 ⟨rfl, k4⟩
        rw [dec_self']
        have N4 := hid (N3.out.kn k4)
        have R4 := hid (hRs0.out.kn (K3.out.trans k4))
        clear k4
        refine hK _ _ trivial ?_
        clear hK K
        repeat (first | (refine wpG_at (v := ?_) (by rfl) ?_ ?_; rotate_left; (focus (first | (go_simp; with_reducible rfl) | (go_simp; done))); simp only [Act.put, List.setIfInBounds_toArray, List.set_cons_zero, List.set_cons_succ]) | (refine wpG_at_skip (by rfl) ?_; simp only [Act.put, List.setIfInBounds_toArray, List.set_cons_zero, List.set_cons_succ]) | (refine wpG_held_skip (by rfl) ?_; simp only [Act.put, List.setIfInBounds_toArray, List.set_cons_zero, List.set_cons_succ]) | (refine wpG_held (v := ?_) (by rfl) ?_ ?_; rotate_left; (focus (intro w' hSw; (try dsimp only at hSw); go_split_ands; first | (go_simp; with_reducible rfl) | (go_simp; done))); simp only [Act.put, List.setIfInBounds_toArray, List.set_cons_zero, List.set_cons_succ]))
        refine wpG_nil (NoPanic.normal ?_)
        go_wp2_with fail
        go_loopw [12] (fun k W => ∃ z : Nat, z ≤ R.length ∧ k = .int .i64 z ∧ LNew w W p n L' ∧ Rs 3 W (.slice (some ⟨b, f, none⟩) R.length ca) R) (fun k _ => R.length - (intOf k).toNat)
        case atStart => exact ⟨0, Nat.zero_le _, rfl, N4.out, R4.out⟩
        case round =>
          obtain ⟨z, hz, rfl, hNz, hRz⟩ := hrel
          clear N4 R4 N3 r3 K3 HB1 HW1 hsv hN hb hA hRs0 hN1 Le
          have c1 : (0 : Int) ≤ (z : Int) := Int.natCast_nonneg _
          by_cases hzl : z < R.length
          · have c2 : (z : Int) < (R.length : Int) := by omega
            have hkz : R[z]? = some R[z] := List.getElem?_eq_getElem hzl
            obtain ⟨b', f', d', e1, _, _, q1⟩ := hRz.cells (by rintro rfl; simp at hzl)
            injection e1 with e11 _ e13
            injection e11 with e11
            injection e11 with e11 e12
            subst e11; subst e12; subst e13
            have Lz := q1 _ (Kp.refl _ _) z _ hkz
            clear q1
            by_cases hzj : z = j
            · subst hzj
              replace hNz := hid hNz
              replace hRz := hid hRz
              generalize R[z] = y' at *
              clear hkz
              go_wp2_with fail
              go_roundw
              case rel => exact ⟨z + 1, by omega, by go_num, hNz.out, hRz.out⟩
              case measure => simp [intOf]; omega
            · have hzb : ((z : Int) != (j : Int)) = true := by simp; omega
              have HL1 := HRel.out _ L' R[z] hNz hLl
              have hf : hasB L' R[z] id = false := by rw [hasB, hrow.out]; simp only [isL, hdL, Bool.true_and]; exact hno.out z hzl hzj
              have hrl : relL L' R[z] id = L' := by rw [relL, hf]; simp
              rw [hf, hrl] at HL1
              replace HL1 := hid HL1
              replace hNz := hid hNz
              replace hRz := hid hRz
              clear hf hrl hzj
              generalize R[z] = y' at *
              clear hkz
              go_wp2_with fail
              refine HL1.out.mono ?_
              rintro e w5 ⟨rfl, N5, k5⟩
              have R5 := hid (k5.out _ _ hRz.out)
              replace N5 := hid N5
              go_wp2_with fail
              go_roundw
              case rel => exact ⟨z + 1, by omega, by go_num, N5.out, R5.out⟩
              case measure => simp [intOf]; omega
          · have HL1 := HRel.out _ L' y hNz hLl
            have hf : hasB L' y id = true := by rw [hasB, hrow.out]; simp [isL, hdL]
            have hrl : relL L' y id = outL L' y id := by rw [relL, hf]; simp
            rw [hf, hrl] at HL1
            replace HL1 := hid HL1
            have hro : rowL (outL L' y id) id = D := by rw [row_out, if_pos rfl, hrow.out]; exact filter_head hnd1.out
            have HB5 := hid (HB.out · (outL L' y id) y)
            have hf2 : hasB (outL L' y id) y id = false := by rw [hasB, hro]; exact head_none hnd1.out
            rw [hf2] at HB5
            have hol := out_len L' y id
            obtain ⟨b', f', d', e1, _, _, q1⟩ := hRz.cells (by rintro rfl; simp at hlt)
            injection e1 with e11 _ e13
            injection e11 with e11
            injection e11 with e11 e12
            subst e11; subst e12; subst e13
            have Lz := q1 _ (Kp.refl _ _) j _ hk.out
            clear q1 hf hrl hf2
            replace hNz := hid hNz
            replace hRz := hid hRz
            replace hro := hid hro
            go_wp2_with fail
            refine HL1.out.mono ?_
            rintro e w5 ⟨rfl, N5, k5⟩
            have R5 := k5.out _ _ hRz.out
            obtain ⟨b', f', d', e1, _, _, q1⟩ := R5.cells (by rintro rfl; simp at hlt)
            injection e1 with e11 _ e13
            injection e11 with e11
            injection e11 with e11 e12
            subst e11; subst e12; subst e13
            have Lz2 := q1 _ (Kp.refl _ _) j _ hk.out
            clear q1 Lz
            replace R5 := hid R5
            replace N5 := hid N5
            go_wp2_with fail
            refine (HB5.out _ N5.out).mono ?_
            rintro e w6 ⟨rfl, rfl⟩
            go_wp2_with fail
            go_roundw
            case rel => exact ⟨j + 1, outL L' y id, by omega, by go_num, N5.out, by omega, hid (by rw [hro.out, hD.out]), R5.out⟩
            case measure => simp [intOf]; omega
    · obtain rfl : j = R.length := by omega
      have HH1 := HH.out _ L' hN
      rw [show rowL L' id = [] from by rw [hrow.out]; simp] at HH1
      simp only [hdL, isL] at HH1
      replace HH1 := hid HH1
      replace hN := hid hN
      go_wp2_with fail
      refine HH1.out.mono ?_
      rintro e w3 ⟨rfl, rfl⟩
      go_wp2_with fail
      refine (HK.out _).mono ?_
      rintro e w4 ⟨rfl, k4⟩
      go_wp2_with fail
      go_ret
      exact ⟨rfl, hN.out.k.trans k4⟩
end
end Go.Proofs.Ytpfhjfijpmcnkaa
