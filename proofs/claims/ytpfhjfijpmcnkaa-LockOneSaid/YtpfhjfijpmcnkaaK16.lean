/- Walks: nobody has a lock beside another one. -/
import Derived.Test.YtpfhjfijpmcnkaaK15
namespace Go.Proofs.Ytpfhjfijpmcnkaa
set_option linter.unusedSimpArgs false
set_option linter.unusedVariables false
open Go.RowKit
attribute [local go_sem ↓] Go.wp_at_zero Go.wp_at_succ
section
variable {w0 w w' : World} {p m q n : Nat} {M : List (Int × Value)} {v : Value} {L : List (Int × Int)} {l : List Int}
theorem dec_self (l : List Int) : decide (l = l) = true := by simp
theorem row_try_in {t id : Int} (h : t ∈ rowL L id) : tryL n L t id = L := by rw [tryL, if_neg (fun h' => h'.2 h)]
theorem row_try_out {t id : Int} (h : ¬ okL n t id) : tryL n L t id = L := by rw [tryL, if_neg (fun h' => h h'.1)]
theorem row_try_new {t id : Int} (ho : okL n t id) (h : t ∉ rowL L id) : rowL (tryL n L t id) id = rowL L id ++ [t] := by rw [tryL, if_pos ⟨ho, h⟩, row_app, if_pos rfl]
theorem tryL_len (n : Nat) (L : List (Int × Int)) (t id : Int) : (tryL n L t id).length ≤ L.length + 1 := try_len n L t id
set_option maxRecDepth 100000 in
set_option maxHeartbeats 16000000 in
theorem one_good (w : World) (n1 : 1 ≤ n) (n2 : n ≤ 8) (x : Option Addr) (len cap : Nat) (A : List A3) (hL : ActsAt w w.heap.size x len A) (hl : len ≤ 80) {t id : Int} (hw : (Lit.int .i64 id).wf = true) :
   Calls Try.prog 3 #[.int .i64 n, .slice x len cap, .int .i64 t, .int .i64 id] w fun e w' => e = .returned (.bool true) ∧ Kp NoB w w' := by
  have HR := hid (ran_good w n1 n2 x len cap A 80 (by omega) (by omega) hL)
  have HK := hid known_any
  clear hL
  go_enter Try.func3, Try.ntmps3
  go_wp2_with fail
  refine HR.out.mono ?_
  rintro e w1 ⟨p, q, L, rfl, hlen, hJ⟩
  have N1 := hid hJ.one
  have hRl := row_len L id
  have HH := hid (fun W (h : LNew w W p n L) => holder_new h hw)
  have HW := hid (fun W (h : LNew w W p n L) => waiting_new h hw (by omega))
  have HT := hid (fun W (h : LNew w W p n L) => try_new2 h (t := t) hw (by omega))
  have htl := tryL_len n L t id
  have HW2 := hid (fun W (h : LNew w W p n (tryL n L t id)) => waiting_new h hw (by omega))
  have HB2 := hid (fun W (a : Int) (h : LNew w W p n (tryL n L t id)) => has_new h (t := a) hw)
  clear hJ HR htl
  by_cases ho : okL n t id
  · obtain ⟨o1, o2, o3⟩ := (show 0 ≤ t ∧ t < n ∧ 0 ≤ id from ho)
    by_cases hin : t ∈ rowL L id
    · rw [row_try_in hin] at HW2 HB2 HT
      have htb : tryB n L t id = (hdL (rowL L id) == t) := by rw [tryB, row_try_in hin]; simp [ho]
      rw [htb] at HT
      have hhb : hasB L t id = (isL (rowL L id) && hdL (rowL L id) == t) := rfl
      have HB3 := hid (HB2.out · t)
      rw [hhb] at HB3
      clear htb hhb HB2 ho
      generalize rowL L id = R at *
      cases R with
      | nil => simp at hin
      | cons a r =>
        simp only [hdL, isL, List.tail_cons, Bool.true_and, List.length_cons] at *
        have hR0 : r.length ≤ 5000 := by omega
        by_cases ha : a = t
        · subst ha
          simp only [beq_self_eq_true] at *
          clear hin hRl
          go_wp2_with fail
          refine (HH.out _ N1.out).mono ?_
          rintro e w1 ⟨rfl, rfl⟩
          go_wp2_with fail
          refine (HW.out _ N1.out).mono ?_
          rintro e w2 ⟨v1, rfl, r1, N2, k2⟩
          obtain ⟨oa, ca, hva, hca⟩ := r1.form
          subst hva
          have R1 := hid r1
          replace N2 := hid N2
          replace k2 := hid k2
          clear r1
          go_wp2_with fail
          refine (HT.out _ N2.out).mono ?_
          rintro e w3 ⟨rfl, N3, k3⟩
          have R3 := hid (k3.out _ _ R1.out)
          replace N3 := hid N3
          go_wp2_with fail
          refine (HB3.out _ N3.out).mono ?_
          rintro e w4 ⟨rfl, rfl⟩
          go_wp2_with fail
          refine (HW2.out _ N3.out).mono ?_
          rintro e w4 ⟨v2, rfl, r4, N4, k4⟩
          obtain ⟨ob, cb, hvb, hcb⟩ := r4.form
          subst hvb
          have R4 := hid r4
          have R5 := hid (R3.out.kn k4)
          replace N4 := hid N4
          clear r4
          go_wp2_with fail
          refine (equal_any R4.out R5.out (by omega)).mono ?_
          rintro e w5 ⟨rfl, k5⟩
          rw [dec_self]
          have K5 := hid (N4.out.k.trans k5)
          go_wp2_with fail
          refine (HK.out _).mono ?_
          rintro e w6 ⟨rfl, k6⟩
          go_wp2_with fail
          go_ret
          exact ⟨rfl, K5.out.trans k6⟩
        · have hat : (a == t) = false := by simpa using ha
          rw [hat] at HT HB3
          have hin' : t ∈ r := by
            rcases List.mem_cons.1 hin with h | h
            · exact absurd h.symm ha
            · exact h
          replace hin' := hid hin'
          clear hin hRl ha
          go_wp2_with fail
          refine (HH.out _ N1.out).mono ?_
          rintro e w1 ⟨rfl, rfl⟩
          go_wp2_with fail
          refine (HW.out _ N1.out).mono ?_
          rintro e w2 ⟨v1, rfl, r1, N2, k2⟩
          obtain ⟨oa, ca, hva, hca⟩ := r1.form
          subst hva
          have R1 := hid r1
          replace N2 := hid N2
          replace k2 := hid k2
          clear r1
          go_wp2_with fail
          refine (HT.out _ N2.out).mono ?_
          rintro e w3 ⟨rfl, N3, k3⟩
          have R3 := hid (k3.out _ _ R1.out)
          replace N3 := hid N3
          go_wp2_with fail
          refine (HW2.out _ N3.out).mono ?_
          rintro e w4 ⟨v2, rfl, r4, N4, k4⟩
          obtain ⟨ob, cb, hvb, hcb⟩ := r4.form
          subst hvb
          have R4 := hid r4
          have R5 := hid (R3.out.kn k4)
          replace N4 := hid N4
          clear r4
          go_wp2_with fail
          go_loop [17] (fun i => ∃ j : Nat, j ≤ r.length ∧ i = .int .i64 j ∧ Hid (∀ k (hk : k < r.length), k < j → r[k] ≠ t)) (fun i => r.length - (intOf i).toNat)
          case atStart => exact ⟨0, Nat.zero_le _, rfl, hid (by intro k hk h; omega)⟩
          case round =>
            obtain ⟨j, hj, rfl, hT⟩ := hrel
            by_cases hlt : j < r.length
            · have hk : r[j]? = some r[j] := List.getElem?_eq_getElem hlt
              obtain ⟨b, f, c', hv', hcc, _, hcell⟩ := R5.out.cells (by rintro rfl; simp at hlt)
              injection hv' with hv1 _ hv3
              subst hv1; subst hv3
              have Le := hcell _ (Kp.refl _ _) j _ hk
              have b3 : (0 : Int) ≤ (j : Int) := Int.natCast_nonneg _
              have b4 : (j : Int) < (r.length : Int) := by omega
              replace hcell := hid hcell
              obtain ⟨y, hy⟩ : ∃ y, r[j] = y := ⟨_, rfl⟩
              rw [hy] at Le
              replace hy := hid hy
              clear hk
              by_cases hys : y = t
              · subst hys
                clear hat
                go_wp2_with fail
                refine (equal_any R4.out R5.out (by omega)).mono ?_
                rintro e w5 ⟨rfl, k5⟩
                rw [dec_self]
                have K5 := hid (N4.out.k.trans k5)
                go_wp2_with fail
                refine (HK.out _).mono ?_
                rintro e w6 ⟨rfl, k6⟩
                go_wp2_with fail
                go_ret
                exact ⟨rfl, K5.out.trans k6⟩
              · have hyb : (y == t) = false := by simpa using hys
                have hys' := hid hys
                clear hys
                go_wp2_with fail
                go_round
                case rel => exact ⟨j + 1, by omega, by go_num, hid (by
                  intro k hk h
                  by_cases e : k = j
                  · subst e; rw [hy.out]; exact hys'.out
                  · exact hT.out k hk (by omega))⟩
                case measure => simp [intOf]; omega
            · exfalso
              obtain ⟨k, hk, e⟩ := List.getElem_of_mem hin'.out
              exact hT.out k hk (by omega) e
    · have hrow := row_try_new (n := n) ho hin
      have htb : tryB n L t id = (hdL (rowL L id ++ [t]) == t) := by rw [tryB, hrow]; simp [ho]
      rw [htb] at HT
      have hhb : ∀ a, hasB (tryL n L t id) a id = (isL (rowL L id ++ [t]) && hdL (rowL L id ++ [t]) == a) := fun a => by rw [hasB, hrow]
      have HB3 := hid (fun W (h : LNew w W p n (tryL n L t id)) => HB2.out W t h)
      have HB4 := hid (fun W (h : LNew w W p n (tryL n L t id)) => HB2.out W (hdL (rowL L id)) h)
      rw [hhb] at HB3 HB4
      rw [hrow] at HW2
      clear htb hhb HB2 ho hrow
      generalize rowL L id = R at *
      generalize tryL n L t id = L' at *
      cases R with
      | nil =>
        simp only [hdL, isL, List.tail_cons, List.tail_nil, Bool.true_and, List.length_nil, List.nil_append, beq_self_eq_true] at *
        clear hin hRl HB4
        go_wp2_with fail
        refine (HH.out _ N1.out).mono ?_
        rintro e w1 ⟨rfl, rfl⟩
        go_wp2_with fail
        refine (HW.out _ N1.out).mono ?_
        rintro e w2 ⟨v1, rfl, r1, N2, k2⟩
        obtain ⟨oa, ca, hva, hca⟩ := r1.form
        subst hva
        have R1 := hid r1
        replace N2 := hid N2
        replace k2 := hid k2
        clear r1
        go_wp2_with fail
        refine (HT.out _ N2.out).mono ?_
        rintro e w3 ⟨rfl, N3, k3⟩
        have R3 := hid (k3.out _ _ R1.out)
        replace N3 := hid N3
        go_wp2_with fail
        refine (HB3.out _ N3.out).mono ?_
        rintro e w4 ⟨rfl, rfl⟩
        go_wp2_with fail
        refine (HW2.out _ N3.out).mono ?_
        rintro e w4 ⟨v2, rfl, r4, N4, k4⟩
        obtain ⟨ob, cb, hvb, hcb⟩ := r4.form
        subst hvb
        have R4 := hid r4
        have R5 := hid (R3.out.kn k4)
        replace N4 := hid N4
        clear r4
        go_wp2_with fail
        refine (equal_any R4.out R5.out (by simp)).mono ?_
        rintro e w5 ⟨rfl, k5⟩
        rw [dec_self]
        have K5 := hid (N4.out.k.trans k5)
        go_wp2_with fail
        refine (HK.out _).mono ?_
        rintro e w6 ⟨rfl, k6⟩
        go_wp2_with fail
        go_ret
        exact ⟨rfl, K5.out.trans k6⟩
      | cons a r =>
        have ha : a ≠ t := fun e => hin (by simp [e])
        have hat : (a == t) = false := by simpa using ha
        have hin' := hid (fun h => hin (List.mem_cons_of_mem a h))
        simp only [hdL, isL, List.tail_cons, Bool.true_and, List.length_cons, List.cons_append, hat, beq_self_eq_true] at HT HW HH HW2 HB3 HB4 hRl
        clear hin HB3 ha
        go_wp2_with fail
        refine (HH.out _ N1.out).mono ?_
        rintro e w1 ⟨rfl, rfl⟩
        go_wp2_with fail
        refine (HW.out _ N1.out).mono ?_
        rintro e w2 ⟨v1, rfl, r1, N2, k2⟩
        obtain ⟨oa, ca, hva, hca⟩ := r1.form
        subst hva
        have R1 := hid r1
        replace N2 := hid N2
        replace k2 := hid k2
        clear r1
        go_wp2_with fail
        refine (HT.out _ N2.out).mono ?_
        rintro e w3 ⟨rfl, N3, k3⟩
        have R3 := hid (k3.out _ _ R1.out)
        replace N3 := hid N3
        go_wp2_with fail
        refine (HW2.out _ N3.out).mono ?_
        rintro e w4 ⟨v2, rfl, r4, N4, k4⟩
        obtain ⟨ob, cb, hvb, hcb⟩ := r4.form
        subst hvb
        have R4 := hid r4
        have R5 := hid (R3.out.kn k4)
        replace N4 := hid N4
        have hlr : (r ++ [t]).length = r.length + 1 := by simp
        replace hlr := hid hlr
        clear r4
        go_wp2_with fail
        go_loop [17] (fun i => ∃ j : Nat, j ≤ r.length ∧ i = .int .i64 j) (fun i => r.length - (intOf i).toNat)
        case atStart => exact ⟨0, Nat.zero_le _, rfl⟩
        case round =>
          obtain ⟨j, hj, rfl⟩ := hrel
          by_cases hlt : j < r.length
          · have hk : r[j]? = some r[j] := List.getElem?_eq_getElem hlt
            obtain ⟨b, f, c', hv', hcc, _, hcell⟩ := R5.out.cells (by rintro rfl; simp at hlt)
            injection hv' with hv1 _ hv3
            subst hv1; subst hv3
            have Le := hcell _ (Kp.refl _ _) j _ hk
            have b3 : (0 : Int) ≤ (j : Int) := Int.natCast_nonneg _
            have b4 : (j : Int) < (r.length : Int) := by omega
            have hyb : (r[j] == t) = false := by
              simp; intro e; exact hin'.out (e ▸ List.getElem_mem _)
            replace hcell := hid hcell
            generalize r[j] = y at *
            clear hk
            go_wp2_with fail
            go_round
            case rel => exact ⟨j + 1, by omega, by go_num⟩
            case measure => simp [intOf]; omega
          · obtain rfl : j = r.length := by omega
            obtain ⟨va, wa, hr, a1, ka, ha⟩ := run_nil_rs (P := Try.prog) (t := 31) (ty := 31) u31 i3 R5.out (by omega)
            obtain ⟨o1, c1, hva, _, _⟩ := a1.form
            subst hva
            have A2 := hid (a1.alloc (.cells #[.int .i64 t] 3))
            replace hr := hid hr
            replace ka := hid ka
            replace ha := hid ha
            clear a1
            go_wp2_with (at_builtin; first
              | (refine BigFrame.wpList_want (by rfl) fun K hK' => ?_; refine Lib.wp_append_run _ _ _ 31 31 rfl (.slice none 0 0) (.slice oa r.length ca) rfl rfl _ _ hr.out ?_; refine hK' _ _ ?_; clear hK' K)
              | (refine BigFrame.wpList_want (by rfl) fun K hK' => ?_; refine wp_grow eI_len (by omega) _ _ 31 3 _ 8 rfl sl31 i3 rfl (.slice o1 r.length c1) r rfl A2.out wa.heap.size 1 [t] rfl #[.int .i64 t] 3 (blk_new _ _) (by intro a j x ha hj; match a, j, ha with | 0, 0, ha => simp at ha; subst ha; rfl) (one3 _) (by simp; omega) (by omega) ?_; intro vb wb b1 b2 b3; obtain ⟨o2, c2, hvb2, _, _⟩ := b1.form; subst hvb2; have B1 := hid b1.rs; replace b2 := hid b2; clear b1 b3; refine hK' _ _ ?_; clear hK' K))
            have KB := hid (show Kp NoB w4 wb from (ka.out.alloc (.cells #[.int .i64 t] 3)).trans' (kp_grown (F := fun b => (Value.slice o1 r.length c1).ownBlock = some b) b2.out (fun b hb => hb)) (fun b hb hg => absurd (ha.out b hg) (by omega)))
            have R6 := hid (R4.out.kn KB.out)
            have N6 := hid (N4.out.kn KB.out)
            have HE := equal_any R6.out B1.out (by simp; omega)
            rw [hlr.out] at HE
            refine HE.mono ?_
            rintro e w5 ⟨rfl, k5⟩
            rw [dec_self]
            have N7 := hid (N6.out.kn k5)
            go_wp2_with fail
            refine (HB4.out _ N7.out).mono ?_
            rintro e w6 ⟨rfl, rfl⟩
            go_wp2_with fail
            refine (HK.out _).mono ?_
            rintro e w6 ⟨rfl, k6⟩
            go_wp2_with fail
            go_ret
            exact ⟨rfl, N7.out.k.trans k6⟩
  · rw [row_try_out ho] at HW2 HB2 HT
    have htb : tryB n L t id = false := by simp [tryB, ho]
    rw [htb] at HT
    have hR0 : (rowL L id).tail.length ≤ 5000 := by rw [List.length_tail]; omega
    clear htb hRl
    generalize hdL (rowL L id) = hd at *
    generalize isL (rowL L id) = is at *
    generalize (rowL L id).tail = R at *
    rcases (show t < 0 ∨ (0 ≤ t ∧ (n : Int) ≤ t) ∨ (0 ≤ t ∧ t < n ∧ id < 0) from by unfold okL at ho; omega) with h1 | ⟨h1, h2⟩ | ⟨h1, h2, h3⟩
    all_goals
      clear ho
      go_wp2_with fail
      refine (HH.out _ N1.out).mono ?_
      rintro e w1 ⟨rfl, rfl⟩
      go_wp2_with fail
      refine (HW.out _ N1.out).mono ?_
      rintro e w2 ⟨v1, rfl, r1, N2, k2⟩
      obtain ⟨oa, ca, hva, hca⟩ := r1.form
      subst hva
      have R1 := hid r1
      replace N2 := hid N2
      replace k2 := hid k2
      clear r1
      go_wp2_with fail
      refine (HT.out _ N2.out).mono ?_
      rintro e w3 ⟨rfl, N3, k3⟩
      have R3 := hid (k3.out _ _ R1.out)
      replace N3 := hid N3
      go_wp2_with fail
      refine (HW2.out _ N3.out).mono ?_
      rintro e w4 ⟨v2, rfl, r4, N4, k4⟩
      obtain ⟨ob, cb, hvb, hcb⟩ := r4.form
      subst hvb
      have R4 := hid r4
      have R5 := hid (R3.out.kn k4)
      replace N4 := hid N4
      clear r4
      go_wp2_with fail
      refine (equal_any R4.out R5.out (by omega)).mono ?_
      rintro e w5 ⟨rfl, k5⟩
      rw [dec_self]
      have K5 := hid (N4.out.k.trans k5)
      go_wp2_with fail
      refine (HK.out _).mono ?_
      rintro e w6 ⟨rfl, k6⟩
      go_wp2_with fail
      go_ret
      exact ⟨rfl, K5.out.trans k6⟩
end
end Go.Proofs.Ytpfhjfijpmcnkaa
