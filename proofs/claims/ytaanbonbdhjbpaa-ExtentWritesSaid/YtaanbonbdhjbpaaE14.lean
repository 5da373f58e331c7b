/- The law of writing, walked. -/
import Derived.Test.YtaanbonbdhjbpaaE13
import Derived.Lib.AppendZeros
import Derived.Deep.Cut
namespace Go.Proofs.Ytaanbonbdhjbpaa
set_option linter.unusedSimpArgs false
set_option linter.unusedVariables false
open Go.RowKit
attribute [local go_sem ↓] Go.wp_at_zero Go.wp_at_succ
theorem kn_to {w w1 w2 : World} (h : Kp NoB w w1) (k : Kp (fun b => w.heap.size ≤ b) w1 w2) : Kp NoB w w2 := kn_new h k (Nat.le_refl _)
theorem byte_put {W : World} {M : List Int} {g c k : Nat} (h : RowAt W 5 eB 1 (.slice (some ⟨g, 0, none⟩) M.length c) M) (hk : k < M.length) (x : Int) : RowAt (W.setCell ⟨g, k, none⟩ (.int .u8 x)) 5 eB 1 (.slice (some ⟨g, 0, none⟩) M.length c) (M.set k x) := by
  have := RowAt.put (x := x) eB_len (by omega) h hk
  rw [Nat.mul_one] at this; exact this
theorem byte_cell {W : World} {M : List Int} {g c k : Nat} {x : Int} (h : RowAt W 5 eB 1 (.slice (some ⟨g, 0, none⟩) M.length c) M) (hk : M[k]? = some x) : W.cell? ⟨g, k, none⟩ = some (.int .u8 x) ∧ W.frozen? ⟨g, k, none⟩ = false ∧ ∃ A z, W.heap[g]? = some (.cells A 5 z) := by
  have hkl := (List.getElem?_eq_some_iff.1 hk).1
  have h1 := h.range eB_len hk 0 _ rfl
  have h2 := (h.there eB_len hkl 0 (by omega)).2
  rw [Nat.mul_one, Nat.add_zero] at h1 h2
  refine ⟨h1, h2, ?_⟩
  obtain ⟨b, cc, A, he, hb, _⟩ := h.pos eB_len (by omega)
  injection he with he _ _; injection he with he; injection he with he
  subst he
  exact ⟨A, _, hb⟩
theorem mkOwn (w : World) {u : Value} {L : List Int} (hu : Sg w eB u L) (hl : L.length ≤ 100000) : ∃ o c w', (Builtin.append_ #[22, 22] 22 #[.slice none 0 0, u]).run Try.prog w = .ok (.slice o L.length c) w' ∧ RowAt w' 5 eB 1 (.slice o L.length c) L ∧ Kp NoB w w' ∧ ∀ b, (Value.slice o L.length c).ownBlock = some b → w.heap.size ≤ b := by
  obtain ⟨v', w', hr, h1, h2, h3⟩ := run_nil_sg (P := Try.prog) (ty := 22) eB_len (by omega) sl22 i5 rfl hu (by
    intro x hx
    rw [flatB] at hx
    obtain ⟨z, _, rfl⟩ := List.mem_map.1 hx
    rfl) (by omega) (by omega)
  obtain ⟨o, c, rfl, _⟩ := h1.form
  exact ⟨_, _, _, hr, h1, h2, h3⟩
set_option maxRecDepth 100000 in
set_option maxHeartbeats 8000000 in
theorem writes_law (w : World) (size used stop : Int) {u : Value} {L : List Int} (hu : Bin w u L) : Calls Try.prog 4 #[.int .i64 size, .int .i64 used, u, .int .i64 stop] w fun e w' => e = .returned (.bool true) ∧ Kp NoB w w' := by
  have HK := hid known_any
  obtain ⟨y, c, hv, hc⟩ := hu.1.form
  subst hv
  by_cases hs1 : size < 1
  · clear hu
    go_enter Try.func4, Try.ntmps4
    go_wp2_with fail
    refine (HK.out _).mono ?_
    rintro e w1 ⟨rfl, k1⟩
    go_wp2_with fail
    go_ret
    exact ⟨rfl, k1⟩
  by_cases hs2 : 40 < size
  · clear hu
    go_enter Try.func4, Try.ntmps4
    go_wp2_with fail
    refine (HK.out _).mono ?_
    rintro e w1 ⟨rfl, k1⟩
    go_wp2_with fail
    go_ret
    exact ⟨rfl, k1⟩
  by_cases h1000 : 1000 < L.length
  · have h1' : (1000 : Int) < (L.length : Int) := by omega
    clear hu
    go_enter Try.func4, Try.ntmps4
    go_wp2_with fail
    refine (HK.out _).mono ?_
    rintro e w1 ⟨rfl, k1⟩
    go_wp2_with fail
    go_ret
    exact ⟨rfl, k1⟩
  have h1' : ¬ (1000 : Int) < (L.length : Int) := by omega
  obtain ⟨N, rfl⟩ : ∃ N : Nat, size = N := ⟨size.toNat, by omega⟩
  have HN := hid (ag_new N (by omega) (by omega) w)
  have HU := hid hu
  clear hu
  have hN40 : N ≤ 40 := by omega
  go_enter Try.func4, Try.ntmps4
  go_wp2_with fail
  refine HN.out.mono ?_
  rintro e w1 ⟨p, l, rfl, A1, hp, k1⟩
  replace A1 := hid A1
  go_wp2_with fail
  go_loopw [11] (fun i W => ∃ j : Nat, j ≤ N ∧ i = .int .i64 j ∧ Ag W p l N w.heap.size (N - j) ∧ Kp NoB w W) (fun i _ => N - (intOf i).toNat)
  case atStart => exact ⟨0, Nat.zero_le _, rfl, A1.out, k1⟩
  case round =>
    obtain ⟨j, hj, rfl, A2, k2⟩ := hrel
    have HA2 := hid A2
    have b1 : (0 : Int) ≤ (j : Int) := Int.natCast_nonneg _
    by_cases hju : (j : Int) < used ∧ j < N
    · obtain ⟨hju1, hjN⟩ := hju
      have hjN' : (j : Int) < (N : Int) := by omega
      have HC := hid (ag_alloc A2 (by omega))
      clear A2
      go_wp2_with fail
      refine HC.out.mono ?_
      rintro e w2 ⟨⟨i, g, rfl⟩, A3, k3⟩
      replace A3 := hid A3
      go_wp2_with fail
      go_roundw
      case rel => exact ⟨j + 1, by omega, by go_num, A3.out, kn_to k2 k3⟩
      case measure => simp [intOf]; omega
    · have hT : ¬ (j : Int) < used ∨ ((j : Int) < used ∧ ¬ (j : Int) < (N : Int)) := by
        by_cases h : (j : Int) < used
        · exact .inr ⟨h, fun h2 => hju ⟨h, by omega⟩⟩
        · exact .inl h
      clear A2 hju
      obtain ⟨r, hr⟩ : ∃ r, r = N - j := ⟨_, rfl⟩
      rw [← hr] at HA2
      have hrN : r ≤ 40 := by omega
      replace hr := hid hr
      have HR := hid (ag_room HA2.out)
      rcases hT with hT | ⟨hT, hT'⟩
      all_goals
        go_wp2_with fail
        refine HR.out.mono ?_
        rintro e w2 ⟨rfl, q2⟩
        have k3 := k2.trans q2
        have A3 := HA2.out.kn q2
        obtain ⟨o, cc, W, hrun, R1, qW, nW⟩ := mkOwn w2 (HU.out.1.kn k3) (by omega)
        have k4 := k3.trans qW
        have A4 := A3.kn qW
        clear A3 q2 qW
        replace hrun := hid hrun
        replace R1 := hid R1
        replace A4 := hid A4
        replace nW := hid nW
        by_cases h256 : 256 < L.length
        · have h2' : (256 : Int) < (L.length : Int) := by omega
          have HW := hid (ag_write_long A4.out o L.length cc h256)
          go_wp2_with (at_builtin; refine Lib.wpList_append_run _ rfl _ _ _ _ rfl _ _ rfl rfl _ _ hrun.out ?_)
          refine HW.out.mono ?_
          rintro e w3 ⟨rfl, rfl⟩
          go_wp2_with fail
          refine (HK.out _).mono ?_
          rintro e w4 ⟨rfl, k5⟩
          go_wp2_with fail
          go_ret
          exact ⟨rfl, k4.trans k5⟩
        · have h2' : ¬ (256 : Int) < (L.length : Int) := by omega
          have HW := hid (ag_write A4.out k4.size (R1.out.sg eB_len (by omega)) (by omega))
          go_wp2_with (at_builtin; refine Lib.wpList_append_run _ rfl _ _ _ _ rfl _ _ rfl rfl _ _ hrun.out ?_)
          refine HW.out.mono ?_
          rintro e w3 ⟨q, rfl, G0, q3⟩
          have k5 := k4.trans q3
          have R2 := R1.out.kp q3 (fun _ _ h => h)
          have hnl : (pcs L).length ≤ 16 := by rw [pcs_len]; unfold need; omega
          clear HW R1 A4 hrun
          replace R2 := hid R2
          replace G0 := hid G0
          go_wp2_with fail
          go_loopw [16] (fun i V => ∃ (j : Nat) (M : List Int), j ≤ L.length ∧ i = .int .i64 j ∧ M.length = L.length ∧ RowAt V 5 eB 1 (.slice o L.length cc) M ∧ Wg V q p l N (pcs L) w.heap.size 0 r [] ∧ Kp NoB w V) (fun i _ => L.length - (intOf i).toNat)
          case atStart => exact ⟨0, L, Nat.zero_le _, rfl, rfl, R2.out, G0.out, k5⟩
          case round =>
            obtain ⟨j2, M, hj2, rfl, hM, RM, G1, k6⟩ := hrel
            by_cases hlt : j2 < L.length
            · have c1 : (0 : Int) ≤ (j2 : Int) := Int.natCast_nonneg _
              have c2 : (j2 : Int) < (L.length : Int) := by omega
              obtain ⟨g, cg, hv, hgo, hgl, hgc⟩ := RM.blk (by omega)
              rw [hM] at hv
              injection hv with hv1 _ hv3
              subst hv1; subst hv3
              obtain ⟨m, hm⟩ : ∃ m, M[j2]? = some m := ⟨_, List.getElem?_eq_getElem (by omega)⟩
              have RM' : RowAt wr 5 eB 1 (.slice (some ⟨g, 0, none⟩) M.length cc) M := by rw [hM]; exact RM
              obtain ⟨d1, d2, Ab, zb, hAb⟩ := byte_cell RM' hm
              have RN := byte_put RM' (k := j2) (by omega) (IntKind.u8.wrap (m + 1))
              rw [hM] at RN
              have GN := G1.byte hAb (o := j2) (.int .u8 (IntKind.u8.wrap (m + 1)))
              have KN : Kp NoB w (wr.setCell ⟨g, j2, none⟩ (.int .u8 (IntKind.u8.wrap (m + 1)))) := k6.setCell _ (fun h => by have := nW.out g hgo; have := k3.size; simp only at h; omega)
              replace RN := hid RN
              replace GN := hid GN
              replace hM := hid hM
              clear RM RM' G1 hAb hm hgo
              go_wp2_with fail
              go_roundw
              case rel => exact ⟨j2 + 1, _, by omega, by go_num, by rw [List.length_set]; exact hM.out, RN.out, GN.out, KN⟩
              case measure => simp [intOf]; omega
            · have HWT := hid (rpieces_any (HU.out.1.kn k6) (by omega))
              obtain ⟨n, hn⟩ : ∃ n, n = (pcs L).length := ⟨_, rfl⟩
              rw [← hn] at hnl
              have HG1 := hid G1
              clear G1 RM
              go_wp2_with fail
              refine HWT.out.mono ?_
              rintro e w7 ⟨wv, rfl, RW, nW2, q7⟩
              have k7 := k6.trans q7
              have G2 := HG1.out.kn q7
              obtain ⟨ow, cw, hwv, _⟩ := RW.form
              rw [← hn] at hwv
              subst hwv
              replace RW := hid RW
              replace G2 := hid G2
              replace hn := hid hn
              clear HG1 HWT
              go_wp2_with fail
              go_loopw [18] (fun i V => ∃ (j : Nat) (Hs : List (Int × Int)), j ≤ n ∧ j ≤ r ∧ i = .int .i64 j ∧ Wg V q p l N (pcs L) w.heap.size j (r - j) Hs ∧ RowAt V 35 eXv 19 (.slice ow n cw) (pcs L) ∧ Kp NoB w V) (fun i _ => n - (intOf i).toNat)
              case atStart => exact ⟨0, [], Nat.zero_le _, Nat.zero_le _, rfl, G2.out, RW.out, k7⟩
              case round =>
                obtain ⟨j3, Hs, hj3, hjr, rfl, G3, R3, k8⟩ := hrel
                have HG3 := hid G3
                have k8s := k8.size
                by_cases hlt : j3 < n
                · have c1 : (0 : Int) ≤ (j3 : Int) := Int.natCast_nonneg _
                  have c2 : (j3 : Int) < (n : Int) := by omega
                  have hnX := hn.out
                  have HM := hid (wg_more G3 (by omega))
                  have HNd : Hid (Calls Try.prog 18 #[.pointer (some ⟨q, 0, none⟩)] wr fun e w' => e = .returned (.int .i64 ((n : Int) - j3)) ∧ wr = w') := by rw [hnX]; exact wg_need G3
                  by_cases hst : (j3 : Int) = stop
                  · have HUn := hid (wg_undo G3 (by omega) k8s)
                    clear hnX
                    have hst' : ((j3 : Int) == stop) = true := by simpa using hst
                    replace hst := hid hst
                    replace R3 := hid R3
                    clear G3
                    go_wp2_with fail
                    refine HM.out.mono ?_
                    rintro e v1 ⟨rfl, rfl⟩
                    go_wp2_with fail
                    refine HNd.out.mono ?_
                    rintro e v1 ⟨rfl, rfl⟩
                    go_wp2_with fail
                    refine HUn.out.mono ?_
                    rintro e v1 ⟨rfl, O1, _, x1⟩
                    rw [Nat.sub_add_cancel hjr] at O1
                    have k9 := kn_to k8 x1
                    have z1 := hid (wo_undo O1)
                    have z2 := hid (wo_need O1)
                    have z3 := hid (wo_room O1)
                    replace O1 := hid O1
                    clear HM HNd HUn
                    go_wp2_with fail
                    refine z1.out.mono ?_
                    rintro e v2 ⟨rfl, rfl⟩
                    go_wp2_with fail
                    refine z2.out.mono ?_
                    rintro e v2 ⟨rfl, rfl⟩
                    go_wp2_with fail
                    refine z3.out.mono ?_
                    rintro e v2 ⟨rfl, x2⟩
                    have z4 := hid (wo_zero (O1.out.kn x2))
                    go_wp2_with fail
                    refine z4.out.mono ?_
                    rintro e v3 ⟨rfl, x3⟩
                    go_wp2_with fail
                    refine (HK.out _).mono ?_
                    rintro e v4 ⟨rfl, x4⟩
                    go_wp2_with fail
                    go_ret
                    exact ⟨rfl, ((k9.trans x2).trans x3).trans x4⟩
                  · have hst' : ((j3 : Int) == stop) = false := by simpa using hst
                    replace hst := hid hst
                    have HRm := hid (wg_room G3)
                    replace R3 := hid R3
                    by_cases hr0 : r - j3 = 0
                    · rw [hr0] at HRm
                      clear hnX G3
                      go_wp2_with fail
                      refine HM.out.mono ?_
                      rintro e v1 ⟨rfl, rfl⟩
                      go_wp2_with fail
                      refine HNd.out.mono ?_
                      rintro e v1 ⟨rfl, rfl⟩
                      go_wp2_with fail
                      refine HRm.out.mono ?_
                      rintro e v1 ⟨rfl, x1⟩
                      have G4 := HG3.out.kn x1
                      rw [hr0] at G4
                      have k9 := k8.trans x1
                      have hnX := hn.out
                      have z0 := hid (wg_full G4 (by omega) (by omega) k9.size)
                      clear hnX G4 HM HNd HRm
                      obtain rfl : j3 = r := by omega
                      replace hr0 := hid hr0
                      go_wp2_with fail
                      refine z0.out.mono ?_
                      rintro e v2 ⟨rfl, O1, _, x2⟩
                      have k10 := kn_to k9 x2
                      have z1 := hid (wo_step O1)
                      have z3 := hid (wo_room O1)
                      replace O1 := hid O1
                      go_wp2_with fail
                      refine z1.out.mono ?_
                      rintro e v3 ⟨rfl, rfl⟩
                      go_wp2_with fail
                      refine z3.out.mono ?_
                      rintro e v3 ⟨rfl, x3⟩
                      have z4 := hid (wo_zero (O1.out.kn x3))
                      go_wp2_with fail
                      refine z4.out.mono ?_
                      rintro e v4 ⟨rfl, x4⟩
                      go_wp2_with fail
                      refine (HK.out _).mono ?_
                      rintro e v5 ⟨rfl, x5⟩
                      go_wp2_with fail
                      go_ret
                      exact ⟨rfl, ((k10.trans x3).trans x4).trans x5⟩
                    · have hr0' : (((r - j3 : Nat) : Int) == 0) = false := by simp; omega
                      clear G3 hnX
                      replace hr0 := hid hr0
                      go_wp2_with fail
                      refine HM.out.mono ?_
                      rintro e v1 ⟨rfl, rfl⟩
                      go_wp2_with fail
                      refine HNd.out.mono ?_
                      rintro e v1 ⟨rfl, rfl⟩
                      go_wp2_with fail
                      refine HRm.out.mono ?_
                      rintro e v1 ⟨rfl, x1⟩
                      have G4 := HG3.out.kn x1
                      have k9 := k8.trans x1
                      have hnX := hn.out
                      have z0 := hid (wg_step G4 (by omega) (by omega) (by have := hr0.out; omega) k9.size)
                      rw [← hnX] at z0
                      clear hnX G4 HM HNd HRm
                      go_wp2_with fail
                      refine z0.out.mono ?_
                      rintro e v2 ⟨rfl, ⟨hh, G5⟩, kt, x2⟩
                      have k10 := kn_to k9 x2
                      have R4 := kt.row (.inl rfl) (R3.out.kp x1 (fun _ _ h => h))
                      have hrs : r - j3 - 1 = r - (j3 + 1) := by omega
                      have hr1 : j3 + 1 ≤ r := by have := hr0.out; omega
                      rw [hrs] at G5
                      replace G5 := hid G5
                      replace R4 := hid R4
                      clear hrs z0 x1 kt
                      by_cases hl : j3 + 1 = n
                      · have d1 : (((n - (j3 + 1) : Nat) : Int) == 0) = true := by simp; omega
                        have d2 : ((j3 : Int) == (n : Int) - 1) = true := by simp; omega
                        replace hl := hid hl
                        go_wp2_with fail
                        go_roundw
                        case rel => exact ⟨j3 + 1, _, by omega, hr1, by go_num, G5.out, R4.out, k10⟩
                        case measure => simp [intOf]; omega
                      · have d1 : (((n - (j3 + 1) : Nat) : Int) == 0) = false := by simp; omega
                        have d2 : ((j3 : Int) == (n : Int) - 1) = false := by simp; omega
                        replace hl := hid hl
                        go_wp2_with fail
                        go_roundw
                        case rel => exact ⟨j3 + 1, _, by omega, hr1, by go_num, G5.out, R4.out, k10⟩
                        case measure => simp [intOf]; omega
                · obtain rfl : j3 = n := by omega
                  have hnX := hn.out
                  have G4 : Wg wr q p l N (pcs L) w.heap.size (pcs L).length (r - (pcs L).length) Hs := by rw [← hnX]; exact G3
                  have hHl : Hs.reverse.length = j3 := by
                    obtain ⟨_, _, _, _, _, _, _, _, _, _, _, hH, _⟩ := G4
                    rw [List.length_reverse, hH, hnX]
                  have z0 := hid (wg_end G4)
                  have z1 := hid (wg_made G4 (by omega))
                  replace G4 := hid G4
                  replace R3 := hid R3
                  replace hHl := hid hHl
                  clear G3 HG3 hnX
                  go_wp2_with fail
                  refine z0.out.mono ?_
                  rintro e v1 ⟨rfl, rfl⟩
                  go_wp2_with fail
                  refine z1.out.mono ?_
                  rintro e v1 ⟨lv, rfl, RL, nL, x1⟩
                  have k9 := k8.trans x1
                  have G5 := G4.out.kn x1
                  have z2 : Hid (Calls Try.prog 15 #[.pointer (some ⟨p, 0, none⟩)] v1 fun e w' => e = .returned (.int .i64 ((r : Int) - j3)) ∧ Kp NoB v1 w') := by
                    have := wg_room G5
                    rw [← hn.out, Int.ofNat_sub hjr] at this
                    exact this
                  have R4 := R3.out.kp x1 (fun _ _ h => h)
                  obtain ⟨ol, cl, hlv, _⟩ := RL.form
                  rw [hHl.out] at hlv
                  subst hlv
                  replace RL := hid RL
                  replace G5 := hid G5
                  replace R4 := hid R4
                  clear z0 z1 G4 R3
                  go_wp2_with fail
                  refine z2.out.mono ?_
                  rintro e v2 ⟨rfl, x2⟩
                  have k10 := k9.trans x2
                  have G6 := hid (G5.out.kn x2)
                  have RL2 := hid (RL.out.kp x2 (fun _ _ h => h))
                  have R5 := hid (R4.out.kp x2 (fun _ _ h => h))
                  clear z2 G5 RL R4 x1 x2
                  go_wp2_with fail
                  go_loopw [30] (fun i V => ∃ k : Nat, k ≤ j3 ∧ i = .int .i64 k ∧ Kp NoB v2 V) (fun i _ => j3 - (intOf i).toNat)
                  case atStart => exact ⟨0, Nat.zero_le _, rfl, Kp.refl _ _⟩
                  case round =>
                    obtain ⟨k, hk, rfl, kk⟩ := hrel
                    by_cases hkl : k < j3
                    · have c1 : (0 : Int) ≤ (k : Int) := Int.natCast_nonneg _
                      have c2 : (k : Int) < (j3 : Int) := by omega
                      obtain ⟨⟨hi, hg⟩, hh⟩ : ∃ h, Hs.reverse[k]? = some h := ⟨_, List.getElem?_eq_getElem (by rw [hHl.out]; exact hkl)⟩
                      obtain ⟨x, hx, hw1, hw2, HG⟩ := wg_get (G6.out.kn kk) hh
                      obtain ⟨g1, d1, e1, _, _, _⟩ := RL2.out.blk (by rw [hHl.out]; omega)
                      rw [hHl.out] at e1
                      obtain ⟨g2, d2, e2, _, _, _⟩ := R5.out.blk (by rw [← hn.out]; omega)
                      rw [← hn.out] at e2
                      injection e1 with e1 _ e1'
                      injection e2 with e2 _ e2'
                      subst e1; subst e1'; subst e2; subst e2'
                      have RLk : RowAt wr 33 eH 2 (.slice (some ⟨g1, 0, none⟩) Hs.reverse.length cl) Hs.reverse := by rw [hHl.out]; exact RL2.out.kp kk (fun _ _ h => h)
                      have r1 := RLk.range eH_len hh
                      have l1 : wr.cell? ⟨g1, k * 2, none⟩ = some (.int .i64 hi) := r1 0 _ rfl
                      have l2 : wr.cell? ⟨g1, k * 2 + 1, none⟩ = some (.int .u64 hg) := r1 1 _ rfl
                      have hxe : XEq (want (pcs L) Hs.reverse k x) := by
                        have hp : x = pc L k := by
                          have := pcs_get L (k := k) (by have := hn.out; rw [pcs_len] at this; omega)
                          rw [hx] at this; injection this
                        unfold want
                        cases hm : Hs.reverse[k + 1]? with
                        | none => dsimp only; rw [hp]; exact pc_eqs HU.out.2 k
                        | some h =>
                          obtain ⟨y1, y2⟩ := wg_wf G6.out hm
                          dsimp only; rw [hp]; exact setN_pc HU.out.2 k y1 y2
                      obtain ⟨Y, hY⟩ : ∃ Y, Y = want (pcs L) Hs.reverse k x := ⟨_, rfl⟩
                      rw [← hY] at hxe HG
                      replace HG := hid HG
                      replace hh := hid hh
                      replace hx := hid hx
                      replace hY := hid hY
                      clear RLk r1
                      go_wp2_with fail
                      refine HG.out.mono ?_
                      rintro e v3 ⟨rfl, x3⟩
                      have kk3 := kk.trans x3
                      go_upto_region 45 with (refine stX (by rfl) _ _ rfl _ _ Y rfl rfl (there_of (blk_new _ _) (by decide)) ?_)
                      obtain ⟨V1, hV1⟩ : ∃ V1, V1 = (v3.alloc (.cells #[.int .i64 0, .int .u8 0, .int .u8 0, .int .u8 0, .int .u8 0, .int .u8 0, .int .u8 0, .int .u8 0, .int .u8 0, .int .u8 0, .int .u8 0, .int .u8 0, .int .u8 0, .int .u8 0, .int .u8 0, .int .u8 0, .int .u8 0, .int .i64 0, .int .u64 0] 35)).setCells v3.heap.size 0 Y.1 := ⟨_, rfl⟩
                      rw [← hV1]
                      have kk4 : Kp NoB v2 V1 := by rw [hV1]; exact (kk3.alloc _).setCells _ (fun h => absurd h (by have := kk3.size; omega))
                      obtain ⟨bY, hbY⟩ : ∃ bY, bY = v3.heap.size := ⟨_, rfl⟩
                      have HY : V1.heap[bY]? = some (.cells Y.1.toArray 35 (0, 0)) := by rw [hV1, hbY]; exact putX (y := zX) (blk_new v3 _) Y
                      rw [← hbY]
                      replace hbY := hid hbY
                      clear hV1 l1 l2
                      have Lx := (R5.out.kp kk4 (fun _ _ h => h))
                      have Lx' : V1.rangeAt g2 (k * 19) x.1 := by
                        have hn' := hn.out
                        rw [hn'] at Lx
                        exact Lx.range eXv_len hx.out
                      clear Lx
                      replace HY := hid HY
                      go_upto_region 46 with (first | refine ldX (by rfl) _ rfl _ _ rfl x Lx' ?_ | refine stX (by rfl) _ _ rfl _ _ x rfl rfl (there_of (blk_new _ _) (by decide)) ?_)
                      obtain ⟨V2, hV2⟩ : ∃ V2, V2 = (V1.alloc (.cells #[.int .i64 0, .int .u8 0, .int .u8 0, .int .u8 0, .int .u8 0, .int .u8 0, .int .u8 0, .int .u8 0, .int .u8 0, .int .u8 0, .int .u8 0, .int .u8 0, .int .u8 0, .int .u8 0, .int .u8 0, .int .u8 0, .int .u8 0, .int .i64 0, .int .u64 0] 35)).setCells V1.heap.size 0 x.1 := ⟨_, rfl⟩
                      rw [← hV2]
                      have kV2 : Kp NoB V1 V2 := by rw [hV2]; exact ((Kp.refl _ V1).alloc _).setCells _ (fun h => absurd h (by simp))
                      have kk5 := kk4.trans kV2
                      obtain ⟨bX, hbX⟩ : ∃ bX, bX = V1.heap.size := ⟨_, rfl⟩
                      have HX : V2.heap[bX]? = some (.cells x.1.toArray 35 (0, 0)) := by rw [hV2, hbX]; exact putX (y := zX) (blk_new V1 _) x
                      have HY2 := kV2.get HY.out (fun h => h)
                      have hXY : bY ≠ bX := by have := blk_lt HY.out; omega
                      have hbX2 : v2.heap.size ≤ bX := by rw [hbX]; exact kk4.size
                      rw [← hbX]
                      replace hbX := hid hbX
                      clear hV2 HY Lx'
                      have RLk : RowAt V2 33 eH 2 (.slice (some ⟨g1, 0, none⟩) Hs.reverse.length cl) Hs.reverse := by rw [hHl.out]; exact RL2.out.kp kk5 (fun _ _ h => h)
                      by_cases hk1 : k + 1 < j3
                      · have c3 : (k : Int) + 1 < (j3 : Int) := by omega
                        obtain ⟨⟨ni, ng⟩, hm⟩ : ∃ h, Hs.reverse[k + 1]? = some h := ⟨_, List.getElem?_eq_getElem (by rw [hHl.out]; exact hk1)⟩
                        have hYx : Y = setN x ni ng := by rw [hY.out]; unfold want; rw [hm]
                        have r1 := RLk.range eH_len hm
                        have l1 : V2.cell? ⟨g1, (k + 1) * 2, none⟩ = some (.int .i64 ni) := r1 0 _ rfl
                        have l2 : V2.cell? ⟨g1, (k + 1) * 2 + 1, none⟩ = some (.int .u64 ng) := r1 1 _ rfl
                        have f1 := frozen_of HX 17
                        have f2 := frozen_of HX 18
                        obtain ⟨u17, e17⟩ := Option.isSome_iff_exists.1 (rowX HX 17 (by omega)).1
                        obtain ⟨u18, e18⟩ := Option.isSome_iff_exists.1 (rowX HX 18 (by omega)).1
                        rw [Nat.zero_add] at e17 e18
                        have kX : Kp (· = bX) V2 ((V2.setCell ⟨bX, 17, none⟩ (.int .i64 ni)).setCell ⟨bX, 18, none⟩ (.int .u64 ng)) := (Kp.refl _ V2).setCells (b := bX) (o := 17) [.int .i64 ni, .int .u64 ng] (fun _ => rfl)
                        have HX3 : ((V2.setCell ⟨bX, 17, none⟩ (.int .i64 ni)).setCell ⟨bX, 18, none⟩ (.int .u64 ng)).heap[bX]? = some (.cells Y.1.toArray 35 (0, 0)) := by
                          rw [blk_setCell (blk_setCell HX 17 _) 18 _, setN_put, hYx]
                        have HY3 := kX.get HY2 hXY
                        have kk6 : Kp NoB v2 ((V2.setCell ⟨bX, 17, none⟩ (.int .i64 ni)).setCell ⟨bX, 18, none⟩ (.int .u64 ng)) := kk5.trans' kX (fun b hb e => absurd e (by omega))
                        have LX := whole_of HX3
                        have LY := whole_of HY3
                        replace HX3 := hid HX3
                        replace HY3 := hid HY3
                        replace hYx := hid hYx
                        replace hm := hid hm
                        clear HX HY2 RLk r1 kX
                        go_wp2_with (first | refine ldX (by rfl) _ rfl _ _ rfl Y LY ?_ | refine ldX (by rfl) _ rfl _ _ rfl Y LX ?_ | refine nqX (by rfl) _ _ _ rfl Y hxe rfl rfl ?_)
                        go_roundw
                        case rel => exact ⟨k + 1, by omega, by go_num, kk6⟩
                        case measure => simp [intOf]; omega
                      · have c3 : ¬ (k : Int) + 1 < (j3 : Int) := by omega
                        have hYx : Y = x := by rw [hY.out]; unfold want; rw [List.getElem?_eq_none (by rw [hHl.out]; omega)]
                        rw [← hYx] at HX
                        have LX := whole_of HX
                        have LY := whole_of HY2
                        replace HX := hid HX
                        replace HY2 := hid HY2
                        replace hYx := hid hYx
                        clear RLk
                        go_wp2_with (first | refine ldX (by rfl) _ rfl _ _ rfl Y LY ?_ | refine ldX (by rfl) _ rfl _ _ rfl Y LX ?_ | refine nqX (by rfl) _ _ _ rfl Y hxe rfl rfl ?_)
                        go_roundw
                        case rel => exact ⟨k + 1, by omega, by go_num, kk5⟩
                        case measure => simp [intOf]; omega
                    · go_wp2_with fail
                      refine (HK.out _).mono ?_
                      rintro e v4 ⟨rfl, x4⟩
                      go_wp2_with fail
                      go_ret
                      exact ⟨rfl, (k10.trans kk).trans x4⟩
end Go.Proofs.Ytaanbonbdhjbpaa
