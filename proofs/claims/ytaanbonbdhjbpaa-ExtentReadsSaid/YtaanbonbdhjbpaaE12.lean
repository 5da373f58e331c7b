/- The law of pieces, walked. -/
import Derived.Test.YtaanbonbdhjbpaaE11
namespace Go.Proofs.Ytaanbonbdhjbpaa
set_option linter.unusedSimpArgs false
set_option linter.unusedVariables false
open Go.RowKit
attribute [local go_sem ↓] Go.wp_at_zero Go.wp_at_succ
theorem wf_rng {n : Int} (h : (Lit.int .i64 n).wf = true) : -9223372036854775808 ≤ n ∧ n ≤ 9223372036854775807 := by
  simp [Lit.wf, IntKind.min, IntKind.max, IntKind.bits, IntKind.signed] at h; omega
set_option maxRecDepth 100000 in
set_option maxHeartbeats 4000000 in
theorem pieces_law (w : World) (n : Int) (hn : (Lit.int .i64 n).wf = true) {u : Value} {L : List Int} (hu : Bin w u L) : Calls Try.prog 3 #[.int .i64 n, u] w fun e w' => e = .returned (.bool true) ∧ Kp NoB w w' := by
  have HK := hid known_any
  have H10 := hid (fun w => need_any n (wf_rng hn) w)
  have H11 := hid (fun w => rneed_any n (wf_rng hn) w)
  obtain ⟨y, c, hv, hc⟩ := hu.1.form
  subst hv
  replace hn := hid hn
  by_cases h1000 : 1000 < L.length
  · have h1' : (1000 : Int) < (L.length : Int) := by omega
    clear hu
    go_enter Try.func3, Try.ntmps3
    go_wp2_with fail
    refine (HK.out _).mono ?_
    rintro e w1 ⟨rfl, k1⟩
    go_wp2_with fail
    go_ret
    exact ⟨rfl, k1⟩
  · have h1' : ¬ (1000 : Int) < (L.length : Int) := by omega
    by_cases h256 : 256 < L.length
    · have h2' : (256 : Int) < (L.length : Int) := by omega
      have H9 := hid (fun w : World => pieces_long (w := w) y L.length c h256)
      clear hu
      go_enter Try.func3, Try.ntmps3
      go_wp2_with fail
      refine (H9.out _).mono ?_
      rintro e w1 ⟨rfl, rfl⟩
      go_wp2_with fail
      refine (H10.out _).mono ?_
      rintro e w1 ⟨rfl, rfl⟩
      go_wp2_with fail
      refine (H11.out _).mono ?_
      rintro e w1 ⟨rfl, rfl⟩
      go_wp2_with fail
      refine (HK.out _).mono ?_
      rintro e w1 ⟨rfl, k1⟩
      go_wp2_with fail
      go_ret
      exact ⟨rfl, k1⟩
    · have h2' : ¬ (256 : Int) < (L.length : Int) := by omega
      have H9 := hid (pieces_any hu.1 (by omega))
      have HX := hid (fun k => pc_eqs hu.2 k)
      have HN := hid (fun w => need_is L.length (pcs L).length (by rw [needI_nat (by omega), pcs_len]) (by omega) w)
      have HU := hid hu.1
      clear hu
      go_enter Try.func3, Try.ntmps3
      go_wp2_with fail
      refine H9.out.mono ?_
      rintro e w1 ⟨ov, rfl, r1, o1, k1⟩
      have H12 := hid (rpieces_any (HU.out.kn k1) (by omega))
      have hlen := r1.form
      obtain ⟨a1, c1, hv1, hc1, _⟩ := hlen
      subst hv1
      replace r1 := hid r1
      go_wp2_with fail
      refine (H10.out _).mono ?_
      rintro e w2 ⟨rfl, rfl⟩
      go_wp2_with fail
      refine (H11.out _).mono ?_
      rintro e w2 ⟨rfl, rfl⟩
      go_wp2_with fail
      refine H12.out.mono ?_
      rintro e w2 ⟨yv, rfl, r2, o2, k2⟩
      obtain ⟨a2, c2, hv2, hc2, _⟩ := r2.form
      subst hv2
      have r1' := hid (r1.out.kp k2 (fun _ _ h => h))
      have hpl := pcs_len L
      have hnl : need L.length ≤ 17 := by unfold need; omega
      have hp1000 : (pcs L).length ≤ 1000 := by omega
      replace hpl := hid hpl
      replace r2 := hid r2
      go_wp2_with fail
      refine (HN.out _).mono ?_
      rintro e w3 ⟨rfl, rfl⟩
      go_wp2_with fail
      go_loopw [8] (fun i W => ∃ j : Nat, j ≤ (pcs L).length ∧ i = .int .i64 j ∧ Kp NoB w2 W) (fun i _ => (pcs L).length - (intOf i).toNat)
      case atStart => exact ⟨0, Nat.zero_le _, rfl, Kp.refl _ _⟩
      case round =>
        obtain ⟨j, hj, rfl, hKp⟩ := hrel
        by_cases hlt : j < (pcs L).length
        · have b1 : (0 : Int) ≤ (j : Int) := Int.natCast_nonneg _
          have b2 : (j : Int) < ((pcs L).length : Int) := by omega
          obtain ⟨x, hx⟩ : ∃ x, (pcs L)[j]? = some x := ⟨_, List.getElem?_eq_getElem hlt⟩
          have hxe : XEq x := by
            have := pcs_get L (k := j) (by rw [← hpl.out]; exact hlt)
            rw [hx] at this; injection this with this; rw [this]; exact HX.out j
          obtain ⟨g1, d1, e1, _, _, _⟩ := r1'.out.blk (by omega)
          obtain ⟨g2, d2, e2, _, _, _⟩ := r2.out.blk (by omega)
          injection e1 with e1 _ e1'
          injection e2 with e2 _ e2'
          subst e1; subst e1'; subst e2; subst e2'
          have q1 : wr.drew.rangeAt g1 (j * 19) x.1 := (World.rangeAt_drew _ _ _ _).2 ((r1'.out.kp hKp (fun _ _ h => h)).range eXv_len hx)
          have q2 : wr.drew.rangeAt g2 (j * 19) x.1 := (World.rangeAt_drew _ _ _ _).2 ((r2.out.kp hKp (fun _ _ h => h)).range eXv_len hx)
          replace hx := hid hx
          go_wp2_with fail
          refine wp_region_G (fun _ => True) [(0, .at_), (1, .at_), (2, .at_), (3, .at_), (4, .at_), (5, .at_), (6, .at_), (7, .at_), (8, .at_)] ?L1 (by kernel_rfl) (by kernel_rfl) ?hL1 (trivial) ?hG1
          case hL1 => simp only [pickOps, List.map_cons, List.map_nil, List.getD_cons_zero, List.getD_cons_succ]; rfl
          repeat (first | (refine wpG_at (by rfl) (ex_ldX _ rfl _ _ rfl x q1) ?_; simp only [Act.put, List.setIfInBounds_toArray, List.set_cons_zero, List.set_cons_succ]) | (refine wpG_at (by rfl) (ex_ldX _ rfl _ _ rfl x q2) ?_; simp only [Act.put, List.setIfInBounds_toArray, List.set_cons_zero, List.set_cons_succ]) | (refine wpG_at (by rfl) (ex_nqX _ _ _ rfl x hxe rfl rfl) ?_; simp only [Act.put, List.setIfInBounds_toArray, List.set_cons_zero, List.set_cons_succ]) | (refine wpG_at (v := ?_) (by rfl) ?_ ?_; rotate_left; (focus (first | (go_simp; with_reducible rfl) | (go_simp; done))); simp only [Act.put, List.setIfInBounds_toArray, List.set_cons_zero, List.set_cons_succ]) | (refine wpG_at_skip (by rfl) ?_; simp only [Act.put, List.setIfInBounds_toArray, List.set_cons_zero, List.set_cons_succ]) | (refine wpG_held_skip (by rfl) ?_; simp only [Act.put, List.setIfInBounds_toArray, List.set_cons_zero, List.set_cons_succ]) | (refine wpG_held (v := ?_) (by rfl) ?_ ?_; rotate_left; (focus (intro w' hSw; (try dsimp only at hSw); go_split_ands; first | (go_simp; with_reducible rfl) | (go_simp; done))); simp only [Act.put, List.setIfInBounds_toArray, List.set_cons_zero, List.set_cons_succ]))
          refine wpG_nil (NoPanic.normal ?_)
          go_wp2_with fail
          go_roundw
          case rel => exact ⟨j + 1, by omega, by go_num, hKp.drew⟩
          case measure => simp [intOf]; omega
        · go_wp2_with fail
          refine (HK.out _).mono ?_
          rintro e w4 ⟨rfl, k4⟩
          go_wp2_with fail
          go_ret
          exact ⟨rfl, ((k1.trans k2).trans hKp).trans k4⟩
end Go.Proofs.Ytaanbonbdhjbpaa
