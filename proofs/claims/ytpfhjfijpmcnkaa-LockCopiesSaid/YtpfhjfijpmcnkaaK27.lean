/- Walks: who drops all. -/
import Derived.Test.YtpfhjfijpmcnkaaK26
namespace Go.Proofs.Ytpfhjfijpmcnkaa
set_option linter.unusedSimpArgs false
set_option linter.unusedVariables false
open Go.RowKit
attribute [local go_sem ↓] Go.wp_at_zero Go.wp_at_succ
section
variable {w0 w w' : World} {p m q n : Nat} {M : List (Int × Value)} {v : Value} {L : List (Int × Int)}
theorem drop_row (L : List (Int × Int)) (t id : Int) : rowL (dropL L t) id = (rowL L id).filter (fun x => x != t) := row_drop L t id
theorem drop_held (L : List (Int × Int)) (t : Int) : heldL (dropL L t) t = [] := by
  have : heldU (dropL L t) t = [] := by
    rw [List.eq_nil_iff_forall_not_mem]
    intro x hx
    rw [held_mem, hasB, row_drop] at hx
    cases hr : (rowL L x).filter (fun y => y != t) with
    | nil => rw [hr] at hx; simp [isL] at hx
    | cons a r =>
      rw [hr] at hx
      have : a ∈ (rowL L x).filter (fun y => y != t) := by rw [hr]; exact List.mem_cons_self
      have h2 := (List.mem_filter.1 this).2
      simp [isL, hdL] at hx
      subst hx; simp at h2
  rw [heldL, this]; simp
set_option maxRecDepth 100000 in
set_option maxHeartbeats 16000000 in
theorem drops_good (w : World) (n1 : 1 ≤ n) (n2 : n ≤ 8) (x : Option Addr) (len cap : Nat) (A : List A3) (hL : ActsAt w w.heap.size x len A) (hl : len ≤ 80) (t : Int) :
   Calls Try.prog 6 #[.int .i64 n, .slice x len cap, .int .i64 t] w fun e w' => e = .returned (.bool true) ∧ Kp NoB w w' := by
  have HR := hid (ran_good w n1 n2 x len cap A 80 (by omega) (by omega) hL)
  have HK := hid known_any
  have HA := hid hL
  clear hL
  go_enter Try.func6, Try.ntmps6
  go_wp2_with fail
  refine HR.out.mono ?_
  rintro e w1 ⟨p, q, L, rfl, hlen, m, M, v, hJ, hm1, hq1, k1⟩
  have HD := hid (drop_any hJ.c hJ.o (t := t) (by omega))
  have ho := hJ.o
  have hml := hJ.c.lt.2
  replace hJ := hid hJ
  replace k1 := hid k1
  clear HR
  go_wp2_with fail
  refine HD.out.mono ?_
  rintro e w2 ⟨rfl, M', hC, k2⟩
  have RA := hid (hJ.out.r.km hJ.out.c.hm k2)
  have CA := hid hC
  have K2 := hid (k1.out.trans' k2 (fun b hb e => by omega))
  have hdl := drop_len L t
  have HE := hid (held_any hC (ho.drop t) t (by omega))
  rw [drop_held] at HE
  have HW := hid (fun W (k : Kp NoB w2 W) id (hw : (Lit.int .i64 id).wf = true) => waiting_any (CA.out.kn k) n1 hw (by have := row_len (dropL L t) id; omega))
  have HH := hid (fun W (k : Kp NoB w2 W) id (hw : (Lit.int .i64 id).wf = true) => holder_any (CA.out.kn k) n1 hw)
  have HRow := hid (fun W (k : Kp NoB w2 W) id => row_any (RA.out.kn k) (by omega) id)
  clear hC k2
  go_wp2_with fail
  refine HE.out.mono ?_
  rintro e w3 ⟨v3, rfl, r3, k3⟩
  obtain ⟨o3, c3, hv3, _⟩ := r3.form
  subst hv3
  replace r3 := hid r3
  replace k3 := hid k3
  go_wp2_with fail
  go_loopw [10] (fun i W => ∃ j : Nat, j ≤ len ∧ i = .int .i64 j ∧ Kp NoB w2 W) (fun i _ => len - (intOf i).toNat)
  case atStart => exact ⟨0, Nat.zero_le _, rfl, k3.out⟩
  case round =>
    obtain ⟨j, hj, rfl, hK⟩ := hrel
    have b1 : (0 : Int) ≤ (j : Int) := Int.natCast_nonneg _
    by_cases hlt : j < len
    · have haw := fun W (k : Kp NoB w2 W) => HA.out.kp (K2.out.trans k) (Nat.le_refl _) (fun _ h => h.elim)
      have hjl : j < A.length := by rw [HA.out.ln]; exact hlt
      obtain ⟨z, hz⟩ : ∃ z, A[j]? = some z := ⟨_, List.getElem?_eq_getElem hjl⟩
      have hwf := HA.out.wf z (List.mem_of_getElem? hz)
      obtain ⟨zk, zt, zi⟩ := z
      dsimp only at hwf
      obtain ⟨y, rfl, hy, c0, c1, c2⟩ := (haw _ hK).at_ j _ hz
      dsimp only at c0 c1 c2
      have hzc : ∀ W, Kp NoB w2 W → W.cell? ⟨(y.add (j * 3)).block, (y.add (j * 3)).off + 2, none⟩ = some (.int .i64 zi) := fun W k => by
        obtain ⟨y', e, _, _, _, c⟩ := (haw _ k).at_ j _ hz
        injection e with e; subst e; exact c
      have b2 : (j : Int) < (len : Int) := by omega
      have HR1 := hid (HRow.out _ hK zi)
      have HH1 := hid (HH.out · · zi hwf)
      have HW1 := hid (HW.out · · zi hwf)
      have hrl := row_len L zi
      rw [drop_row] at HH1 HW1
      clear c0 c1
      generalize hRR : rowL L zi = R at *
      replace hzc := hid hzc
      replace haw := hid haw
      replace hz := hid hz
      replace hwf := hid hwf
      replace hK := hid hK
      replace hRR := hid hRR
      go_wp2_with fail
      refine HR1.out.mono ?_
      rintro e w4 ⟨v4, rfl, r4, k4⟩
      obtain ⟨o4, c4, hv4, hc4⟩ := r4.form
      subst hv4
      have K4 := hid (hK.out.trans k4)
      have R4 := hid r4
      clear r4 k4 c2
      have hR5 : R.length ≤ 80 := by omega
      go_wp2_with fail
      go_loopw [11, 13] (fun a i W => ∃ (k : Nat) (T : List Int), k ≤ R.length ∧ i = .int .i64 k ∧ RowAt W 3 eI 1 a T ∧ T.length ≤ k ∧ (∀ b, a.ownBlock = some b → w4.heap.size ≤ b) ∧ Hid (T = (R.take k).filter (fun x => x != t)) ∧ Kp NoB w4 W) (fun _ i _ => R.length - (intOf i).toNat)
      case atStart => exact ⟨0, [], Nat.zero_le _, rfl, RowAt.nil _ _ _ _, by simp, by simp [Value.ownBlock], hid (by simp), Kp.refl _ _⟩
      case round =>
        obtain ⟨k, T, hk, rfl, hT, hTl, hO, hTe, hKk⟩ := hrel
        have d1 : (0 : Int) ≤ (k : Int) := Int.natCast_nonneg _
        by_cases hkl : k < R.length
        · have hkz : R[k]? = some R[k] := List.getElem?_eq_getElem hkl
          obtain ⟨b, f, c', hv', hcc, _, hcell⟩ := (R4.out.kn hKk).cells (by rintro rfl; simp at hkl)
          injection hv' with hv1 _ hv3
          subst hv1; subst hv3
          have Le := hcell _ (Kp.refl _ _) k _ hkz
          obtain ⟨u, hu⟩ : ∃ u, R[k] = u := ⟨_, rfl⟩
          rw [hu] at Le hkz
          have d2 : (k : Int) < (R.length : Int) := by omega
          have htk : (R.take (k + 1)).filter (fun x => x != t) = (R.take k).filter (fun x => x != t) ++ (if u = t then [] else [u]) := by
            rw [List.take_add_one, hkz, Option.toList_some, List.filter_append]
            by_cases e : u = t
            · simp [e]
            · simp [e]
          replace hcell := hid hcell
          replace hu := hid hu
          replace hkz := hid hkz
          replace htk := hid htk
          by_cases hut : u = t
          · subst hut
            replace hT := hid hT
            go_wp2_with fail
            go_roundw
            case rel => exact ⟨k + 1, T, by omega, by go_num, hT.out, by omega, hO, hid (by rw [htk.out, if_pos rfl, List.append_nil]; exact hTe.out), hKk⟩
            case measure => simp [intOf]; omega
          · have hub : (u != t) = true := by simpa using hut
            have hut' := hid hut
            clear hut
            obtain ⟨oa, ca, hav, hac, _⟩ := hT.form
            subst hav
            have hTa := hid (hT.alloc (.cells #[.int .i64 u] 3))
            replace hT := hid hT
            go_wp2_with (at_builtin; refine wpList_plain rfl fun K hK' => ?_; refine wp_grow eI_len (by omega) _ _ 31 3 _ 8 rfl sl31 i3 rfl (.slice oa T.length ca) T rfl hTa.out wr.heap.size 1 [u] rfl #[.int .i64 u] 3 (blk_new _ _) (by intro a j x ha hj; match a, j, ha with | 0, 0, ha => simp at ha; subst ha; rfl) (one3 _) (by simp; omega) (by omega) ?_; intro v' w' q1 q2 q3; refine hK' _ _ ?_; clear hK' K)
            go_roundw
            case rel => exact ⟨k + 1, T ++ [u], by omega, by go_num, q1, by simp; omega, fun b' hb' => by
                rcases q3 with o | ⟨b2, o, h2⟩
                · exact hO b' (o ▸ hb')
                · rw [hb'] at o; injection o with o; subst o; exact Nat.le_trans (hKk.alloc (.cells #[.int .i64 u] 3)).size h2,
              hid (by rw [htk.out, if_neg hut'.out, ← hTe.out]),
              (hKk.alloc (.cells #[.int .i64 u] 3)).trans' (kp_grown (F := fun b => (Value.slice oa T.length ca).ownBlock = some b) q2 (fun b hb => hb)) (fun b hb hg => absurd hb (by have := hO b hg; omega))⟩
            case measure => simp [intOf]; omega
        · obtain rfl : k = R.length := by omega
          rw [List.take_length] at hTe
          rw [← hTe.out] at HH1 HW1
          have K5 := hid (K4.out.trans hKk)
          have c2 := hzc.out _ K5.out
          have c2d := hid (fun W k => hzc.out W (K5.out.trans k))
          have HH2 := hid (HH1.out _ K5.out)
          have HW2 := hid (HW1.out _ K5.out.drew)
          clear hTe HH1 HW1
          cases T with
          | nil =>
            obtain ⟨oa, ca, hav, hac, _⟩ := hT.form
            subst hav
            simp only [hdL, isL, List.length_nil] at *
            replace hT := hid hT
            go_wp2_with fail
            refine HH2.out.mono ?_
            rintro e w5 ⟨rfl, rfl⟩
            go_wp2_with fail
            refine wp_region_G (fun _ => True) [(0, .at_), (1, .at_), (2, .at_), (3, .at_), (4, .at_), (5, .at_), (6, .at_), (7, .at_), (8, .at_), (9, .at_), (10, .at_), (11, .at_), (12, .at_), (13, .at_), (14, .at_), (15, .at_), (16, .at_), (17, .at_), (18, .at_), (19, .at_), (21, .held), (22, .held), (20, .eff), (23, .eff), (24, .at_), (25, .at_), (26, .at_), (27, .at_)] ?L1 (by kernel_rfl) (by kernel_rfl) ?hL1 (trivial) ?hG1
            case hL1 => simp only [pickOps, List.map_cons, List.map_nil, List.getD_cons_zero, List.getD_cons_succ]; rfl
            repeat (first | (refine wpG_at (v := ?_) (by rfl) ?_ ?_; rotate_left; (focus (first | (go_simp; with_reducible rfl) | (go_simp; done))); simp only [Act.put, List.setIfInBounds_toArray, List.set_cons_zero, List.set_cons_succ]) | (refine wpG_at_skip (by rfl) ?_; simp only [Act.put, List.setIfInBounds_toArray, List.set_cons_zero, List.set_cons_succ]) | (refine wpG_held_skip (by rfl) ?_; simp only [Act.put, List.setIfInBounds_toArray, List.set_cons_zero, List.set_cons_succ]) | (refine wpG_held (v := ?_) (by rfl) ?_ ?_; rotate_left; (focus (intro w' hSw; (try dsimp only at hSw); go_split_ands; first | (go_simp; with_reducible rfl) | (go_simp; done))); simp only [Act.put, List.setIfInBounds_toArray, List.set_cons_zero, List.set_cons_succ]))
            refine wpG_eff_skip (by rfl) trivial ?_; simp only [Act.put, List.setIfInBounds_toArray, List.set_cons_zero, List.set_cons_succ]
            repeat (first | (refine wpG_at (v := ?_) (by rfl) ?_ ?_; rotate_left; (focus (first | (go_simp; with_reducible rfl) | (go_simp; done))); simp only [Act.put, List.setIfInBounds_toArray, List.set_cons_zero, List.set_cons_succ]) | (refine wpG_at_skip (by rfl) ?_; simp only [Act.put, List.setIfInBounds_toArray, List.set_cons_zero, List.set_cons_succ]) | (refine wpG_held_skip (by rfl) ?_; simp only [Act.put, List.setIfInBounds_toArray, List.set_cons_zero, List.set_cons_succ]) | (refine wpG_held (v := ?_) (by rfl) ?_ ?_; rotate_left; (focus (intro w' hSw; (try dsimp only at hSw); go_split_ands; first | (go_simp; with_reducible rfl) | (go_simp; done))); simp only [Act.put, List.setIfInBounds_toArray, List.set_cons_zero, List.set_cons_succ]))
            refine wpG_eff_skip (by rfl) trivial ?_; simp only [Act.put, List.setIfInBounds_toArray, List.set_cons_zero, List.set_cons_succ]
            repeat (first | (refine wpG_at (v := ?_) (by rfl) ?_ ?_; rotate_left; (focus (first | (go_simp; with_reducible rfl) | (go_simp; done))); simp only [Act.put, List.setIfInBounds_toArray, List.set_cons_zero, List.set_cons_succ]) | (refine wpG_at_skip (by rfl) ?_; simp only [Act.put, List.setIfInBounds_toArray, List.set_cons_zero, List.set_cons_succ]) | (refine wpG_held_skip (by rfl) ?_; simp only [Act.put, List.setIfInBounds_toArray, List.set_cons_zero, List.set_cons_succ]) | (refine wpG_held (v := ?_) (by rfl) ?_ ?_; rotate_left; (focus (intro w' hSw; (try dsimp only at hSw); go_split_ands; first | (go_simp; with_reducible rfl) | (go_simp; done))); simp only [Act.put, List.setIfInBounds_toArray, List.set_cons_zero, List.set_cons_succ]))
            refine wpG_nil (NoPanic.normal ?_)
            go_wp2_with fail
            go_roundw
            case rel => exact ⟨j + 1, by omega, by go_num, K5.out.drew⟩
            case measure => simp [intOf]; omega
          | cons a r =>
            simp only [hdL, isL, List.tail_cons] at HH2 HW2
            obtain ⟨b, c, B, hv, hb, hB, hc, _, _⟩ := hT.pos eI_len (by simp)
            subst hv
            have Le : wr.cell? ⟨b, 0, none⟩ = some (.int .i64 a) := by rw [cell_of hb]; exact hB 0 0 a rfl (by omega)
            have hS : ∀ f c', (r ≠ [] → f = 1) → r.length ≤ c' → Rs 3 wr (.slice (some ⟨b, f, none⟩) r.length c') r := fun f c' hf hc' =>
              .inr ⟨b, f, c', B, rfl, hb, fun i x hx => by
                rw [hf (by rintro rfl; simp at hx), Nat.add_comm]
                have := hB (i + 1) 0 x (by simpa using hx) (by omega)
                simpa [eI] using this, hc'⟩
            simp only [List.length_cons] at hc
            have e1 : (0 : Int) < (r.length : Int) + 1 := by omega
            have e2 : (1 : Int) ≤ (r.length : Int) + 1 := by omega
            have e3 : (r.length : Int) + 1 ≤ (c : Int) := by omega
            simp only [List.length_cons] at hTl ⊢
            have HL : Hid (∃ sv, Rs 3 wr sv r ∧ ((c = 1 ∧ r.length = 0 ∧ sv = .slice (some ⟨b, 0, none⟩) 0 0) ∨ (c ≠ 1 ∧ sv = .slice (some ⟨b, 1, none⟩) r.length (c - 1)))) := hid (by
              by_cases hc1 : c = 1
              · have h0 : r.length = 0 := by omega
                have := hS 0 0 (fun h => absurd (List.eq_nil_of_length_eq_zero h0) h) (by omega)
                rw [h0] at this
                exact ⟨_, this, .inl ⟨hc1, h0, rfl⟩⟩
              · exact ⟨_, hS 1 (c - 1) (fun _ => rfl) (by omega), .inr ⟨hc1, rfl⟩⟩)
            obtain ⟨sv, hsv, hsc⟩ := HL.out
            clear HL
            replace hsv := hid hsv
            replace hS := hid hS
            replace hT := hid hT
            replace hb := hid hb
            replace hB := hid hB
            rcases hsc with ⟨rfl, h0, rfl⟩ | ⟨hc1, rfl⟩
            · obtain rfl := List.eq_nil_of_length_eq_zero h0
              clear h0
              simp only [List.length_nil] at *
              go_wp2_with fail
              refine HH2.out.mono ?_
              rintro e w5 ⟨rfl, rfl⟩
              go_wp2_with fail
              refine wp_region_G (fun _ => True) [(0, .at_), (1, .at_), (2, .at_), (3, .at_), (4, .at_), (5, .at_), (6, .at_), (7, .at_), (8, .at_), (9, .at_), (10, .at_), (11, .at_), (12, .at_), (13, .at_), (14, .at_), (15, .at_), (16, .at_), (17, .at_), (18, .at_), (19, .at_), (21, .held), (22, .held), (20, .eff), (23, .eff), (24, .at_), (25, .at_), (26, .at_), (27, .at_)] ?L2 (by kernel_rfl) (by kernel_rfl) ?hL2 (trivial) ?hG2
              case hL2 => simp only [pickOps, List.map_cons, List.map_nil, List.getD_cons_zero, List.getD_cons_succ]; rfl
              repeat (first | (refine wpG_at (v := ?_) (by rfl) ?_ ?_; rotate_left; (focus (first | (go_simp; with_reducible rfl) | (go_simp; done))); simp only [Act.put, List.setIfInBounds_toArray, List.set_cons_zero, List.set_cons_succ]) | (refine wpG_at_skip (by rfl) ?_; simp only [Act.put, List.setIfInBounds_toArray, List.set_cons_zero, List.set_cons_succ]) | (refine wpG_held_skip (by rfl) ?_; simp only [Act.put, List.setIfInBounds_toArray, List.set_cons_zero, List.set_cons_succ]) | (refine wpG_held (v := ?_) (by rfl) ?_ ?_; rotate_left; (focus (intro w' hSw; (try dsimp only at hSw); go_split_ands; first | (go_simp; with_reducible rfl) | (go_simp; done))); simp only [Act.put, List.setIfInBounds_toArray, List.set_cons_zero, List.set_cons_succ]))
              refine wpG_eff (by rfl) (fun K hK' => ?_)
              go_simp
              refine HW2.out.mono ?_
              rintro e w6 ⟨v', rfl, r2, k2⟩
              replace r2 := hid r2
              have K6 := hid (show Kp NoB wr w6 from ((Kp.refl _ wr).drew).trans k2)
              clear k2
              refine hK' _ _ trivial ?_
              clear hK' K
              repeat (first | (refine wpG_at (v := ?_) (by rfl) ?_ ?_; rotate_left; (focus (first | (go_simp; with_reducible rfl) | (go_simp; done))); simp only [Act.put, List.setIfInBounds_toArray, List.set_cons_zero, List.set_cons_succ]) | (refine wpG_at_skip (by rfl) ?_; simp only [Act.put, List.setIfInBounds_toArray, List.set_cons_zero, List.set_cons_succ]) | (refine wpG_held_skip (by rfl) ?_; simp only [Act.put, List.setIfInBounds_toArray, List.set_cons_zero, List.set_cons_succ]) | (refine wpG_held (v := ?_) (by rfl) ?_ ?_; rotate_left; (focus (intro w' hSw; (try dsimp only at hSw); go_split_ands; first | (go_simp; with_reducible rfl) | (go_simp; done))); simp only [Act.put, List.setIfInBounds_toArray, List.set_cons_zero, List.set_cons_succ]))
              refine wpG_eff (by rfl) (fun K hK' => ?_)
              go_simp
              refine (equal_any r2.out (hsv.out.kn K6.out) (by first | omega | simp)).mono ?_
              rintro e w7 ⟨rfl, k7⟩
              rw [dec_self']
              have K7 := hid (K6.out.trans k7)
              refine hK' _ _ trivial ?_
              clear hK' K
              repeat (first | (refine wpG_at (v := ?_) (by rfl) ?_ ?_; rotate_left; (focus (first | (go_simp; with_reducible rfl) | (go_simp; done))); simp only [Act.put, List.setIfInBounds_toArray, List.set_cons_zero, List.set_cons_succ]) | (refine wpG_at_skip (by rfl) ?_; simp only [Act.put, List.setIfInBounds_toArray, List.set_cons_zero, List.set_cons_succ]) | (refine wpG_held_skip (by rfl) ?_; simp only [Act.put, List.setIfInBounds_toArray, List.set_cons_zero, List.set_cons_succ]) | (refine wpG_held (v := ?_) (by rfl) ?_ ?_; rotate_left; (focus (intro w' hSw; (try dsimp only at hSw); go_split_ands; first | (go_simp; with_reducible rfl) | (go_simp; done))); simp only [Act.put, List.setIfInBounds_toArray, List.set_cons_zero, List.set_cons_succ]))
              refine wpG_nil (NoPanic.normal ?_)
              go_wp2_with fail
              go_roundw
              case rel => exact ⟨j + 1, by omega, by go_num, K5.out.trans K7.out⟩
              case measure => simp [intOf]; omega
            ·
              go_wp2_with fail
              refine HH2.out.mono ?_
              rintro e w5 ⟨rfl, rfl⟩
              go_wp2_with fail
              refine wp_region_G (fun _ => True) [(0, .at_), (1, .at_), (2, .at_), (3, .at_), (4, .at_), (5, .at_), (6, .at_), (7, .at_), (8, .at_), (9, .at_), (10, .at_), (11, .at_), (12, .at_), (13, .at_), (14, .at_), (15, .at_), (16, .at_), (17, .at_), (18, .at_), (19, .at_), (21, .held), (22, .held), (20, .eff), (23, .eff), (24, .at_), (25, .at_), (26, .at_), (27, .at_)] ?L3 (by kernel_rfl) (by kernel_rfl) ?hL3 (trivial) ?hG3
              case hL3 => simp only [pickOps, List.map_cons, List.map_nil, List.getD_cons_zero, List.getD_cons_succ]; rfl
              repeat (first | (refine wpG_at (v := ?_) (by rfl) ?_ ?_; rotate_left; (focus (first | (go_simp; with_reducible rfl) | (go_simp; done))); simp only [Act.put, List.setIfInBounds_toArray, List.set_cons_zero, List.set_cons_succ]) | (refine wpG_at_skip (by rfl) ?_; simp only [Act.put, List.setIfInBounds_toArray, List.set_cons_zero, List.set_cons_succ]) | (refine wpG_held_skip (by rfl) ?_; simp only [Act.put, List.setIfInBounds_toArray, List.set_cons_zero, List.set_cons_succ]) | (refine wpG_held (v := ?_) (by rfl) ?_ ?_; rotate_left; (focus (intro w' hSw; (try dsimp only at hSw); go_split_ands; first | (go_simp; with_reducible rfl) | (go_simp; done))); simp only [Act.put, List.setIfInBounds_toArray, List.set_cons_zero, List.set_cons_succ]))
              refine wpG_eff (by rfl) (fun K hK' => ?_)
              go_simp
              refine HW2.out.mono ?_
              rintro e w6 ⟨v', rfl, r2, k2⟩
              replace r2 := hid r2
              have K6 := hid (show Kp NoB wr w6 from ((Kp.refl _ wr).drew).trans k2)
              clear k2
              refine hK' _ _ trivial ?_
              clear hK' K
              repeat (first | (refine wpG_at (v := ?_) (by rfl) ?_ ?_; rotate_left; (focus (first | (go_simp; with_reducible rfl) | (go_simp; done))); simp only [Act.put, List.setIfInBounds_toArray, List.set_cons_zero, List.set_cons_succ]) | (refine wpG_at_skip (by rfl) ?_; simp only [Act.put, List.setIfInBounds_toArray, List.set_cons_zero, List.set_cons_succ]) | (refine wpG_held_skip (by rfl) ?_; simp only [Act.put, List.setIfInBounds_toArray, List.set_cons_zero, List.set_cons_succ]) | (refine wpG_held (v := ?_) (by rfl) ?_ ?_; rotate_left; (focus (intro w' hSw; (try dsimp only at hSw); go_split_ands; first | (go_simp; with_reducible rfl) | (go_simp; done))); simp only [Act.put, List.setIfInBounds_toArray, List.set_cons_zero, List.set_cons_succ]))
              refine wpG_eff (by rfl) (fun K hK' => ?_)
              go_simp
              refine (equal_any r2.out (hsv.out.kn K6.out) (by first | omega | simp)).mono ?_
              rintro e w7 ⟨rfl, k7⟩
              rw [dec_self']
              have K7 := hid (K6.out.trans k7)
              refine hK' _ _ trivial ?_
              clear hK' K
              repeat (first | (refine wpG_at (v := ?_) (by rfl) ?_ ?_; rotate_left; (focus (first | (go_simp; with_reducible rfl) | (go_simp; done))); simp only [Act.put, List.setIfInBounds_toArray, List.set_cons_zero, List.set_cons_succ]) | (refine wpG_at_skip (by rfl) ?_; simp only [Act.put, List.setIfInBounds_toArray, List.set_cons_zero, List.set_cons_succ]) | (refine wpG_held_skip (by rfl) ?_; simp only [Act.put, List.setIfInBounds_toArray, List.set_cons_zero, List.set_cons_succ]) | (refine wpG_held (v := ?_) (by rfl) ?_ ?_; rotate_left; (focus (intro w' hSw; (try dsimp only at hSw); go_split_ands; first | (go_simp; with_reducible rfl) | (go_simp; done))); simp only [Act.put, List.setIfInBounds_toArray, List.set_cons_zero, List.set_cons_succ]))
              refine wpG_nil (NoPanic.normal ?_)
              go_wp2_with fail
              go_roundw
              case rel => exact ⟨j + 1, by omega, by go_num, K5.out.trans K7.out⟩
              case measure => simp [intOf]; omega
    · have hK' := hid hK
      clear hK
      go_wp2_with fail
      refine (HK.out _).mono ?_
      rintro e w4 ⟨rfl, k4⟩
      go_wp2_with fail
      go_ret
      exact ⟨rfl, (K2.out.trans hK'.out).trans k4⟩
theorem drops_no (w : World) {n : Int} (hn : ¬ (1 ≤ n ∧ n ≤ 8)) (x : Option Addr) (len cap : Nat) (t : Int) :
   Calls Try.prog 6 #[.int .i64 n, .slice x len cap, .int .i64 t] w fun e w' => e = .returned (.bool true) ∧ Kp NoB w w' := by
  have HR := hid (ran_no w hn x len cap 80)
  have HK := hid known_any
  clear hn
  go_enter Try.func6, Try.ntmps6
  go_wp2_with fail
  refine HR.out.mono ?_
  rintro e w1 ⟨rfl, k1⟩
  go_wp2_with fail
  refine (HK.out _).mono ?_
  rintro e w2 ⟨rfl, k2⟩
  go_wp2_with fail
  go_ret
  exact ⟨rfl, k1.trans k2⟩
theorem drops_long (w : World) {n : Nat} (n1 : 1 ≤ n) (n2 : n ≤ 8) (x : Option Addr) (len cap : Nat) (hl : 80 < len) (t : Int) :
   Calls Try.prog 6 #[.int .i64 n, .slice x len cap, .int .i64 t] w fun e w' => e = .returned (.bool true) ∧ Kp NoB w w' := by
  have HR := hid (ran_long w n1 n2 x len cap 80 (by omega))
  have HK := hid known_any
  go_enter Try.func6, Try.ntmps6
  go_wp2_with fail
  refine HR.out.mono ?_
  rintro e w1 ⟨rfl, k1⟩
  go_wp2_with fail
  refine (HK.out _).mono ?_
  rintro e w2 ⟨rfl, k2⟩
  go_wp2_with fail
  go_ret
  exact ⟨rfl, k1.trans k2⟩
theorem drops_law (w : World) (n : Int) (x : Option Addr) (len cap : Nat) (A : List A3) (hL : ActsAt w w.heap.size x len A) (t : Int) :
   Calls Try.prog 6 #[.int .i64 n, .slice x len cap, .int .i64 t] w fun e w' => e = .returned (.bool true) ∧ Kp NoB w w' := by
  by_cases hn : 1 ≤ n ∧ n ≤ 8
  · obtain ⟨m, rfl⟩ : ∃ m : Nat, n = m := ⟨n.toNat, by omega⟩
    by_cases hl : len ≤ 80
    · exact drops_good w (by omega) (by omega) x len cap A hL hl t
    · exact drops_long w (by omega) (by omega) x len cap (by omega) t
  · exact drops_no w hn x len cap t
end
end Go.Proofs.Ytpfhjfijpmcnkaa
