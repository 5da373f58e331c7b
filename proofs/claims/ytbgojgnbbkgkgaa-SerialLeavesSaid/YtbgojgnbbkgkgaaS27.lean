/- Walks: SerialCopies. -/
import Derived.Test.YtbgojgnbbkgkgaaS26
namespace Go.Proofs.Ytbgojgnbbkgkgaa
set_option linter.unusedSimpArgs false
set_option linter.unusedVariables false
open Go.RowKit Go.Shelf
attribute [local go_sem ↓] Go.wp_at_zero Go.wp_at_succ
/-- two that go on apart -/
def Two (w0 w : World) (p q p2 q2 n : Nat) (M M2 : List (Int × Value)) : Prop := ∃ m v m2 v2, JAt w p m q n M v ∧ JAt w p2 m2 q2 n M2 v2 ∧ m ≠ m2 ∧ q ≠ q2 ∧ w0.heap.size ≤ m ∧ w0.heap.size ≤ q ∧ w0.heap.size ≤ m2 ∧ w0.heap.size ≤ q2 ∧ Kp NoB w0 w
section
variable {w0 w w' : World} {p q p2 q2 m m2 n room : Nat} {v : Value} {M M2 : List (Int × Value)}
theorem Two.symm (h : Two w0 w p q p2 q2 n M M2) : Two w0 w p2 q2 p q n M2 M := by
  obtain ⟨m, v, m2, v2, h1, h2, h3, h4, h5, h6, h7, h8, h9⟩ := h
  exact ⟨m2, v2, m, v, h2, h1, Ne.symm h3, Ne.symm h4, h7, h8, h5, h6, h9⟩
theorem Two.kn (h : Two w0 w p q p2 q2 n M M2) (k : Kp NoB w w') : Two w0 w' p q p2 q2 n M M2 := by
  obtain ⟨m, v, m2, v2, h1, h2, h3, h4, h5, h6, h7, h8, h9⟩ := h
  exact ⟨m, v, m2, v2, h1.kn k, h2.kn k, h3, h4, h5, h6, h7, h8, h9.trans k⟩
theorem Two.k (h : Two w0 w p q p2 q2 n M M2) : Kp NoB w0 w := by
  obtain ⟨m, v, m2, v2, h1, h2, h3, h4, h5, h6, h7, h8, h9⟩ := h
  exact h9
theorem JAt.apart (h : JAt w p m q n M v) {Bq : Array Value} {es : Array MapEntry} {c : Nat} (hm : w.heap[m2]? = some (.map es c)) (hq : w.heap[q2]? = some (.cells Bq 46 (0, 0))) (n1 : m ≠ m2) (n2 : q ≠ q2) (k : Kp (Q2 m2 q2) w w') : JAt w' p m q n M v := by
  have cells : ∀ {b : Nat} {A : Array Value} {t : TypeId}, w.heap[b]? = some (.cells A t (0, 0)) → (t ≠ 46 ∨ b ≠ q2) → ¬ (b = m2 ∨ b = q2) := by
    rintro b A t hb hne (rfl | rfl)
    · rw [hm] at hb; cases hb
    · rcases hne with hne | hne
      · rw [hq] at hb; injection hb with hb; injection hb with _ h3 _; exact hne h3.symm
      · exact hne rfl
  refine ⟨⟨k.get h.c.hp (cells h.c.hp (.inl (by decide))), h.c.hm.kp k ?_⟩, h.o, ⟨k.get h.r.hq (cells h.r.hq (.inr n2)), h.r.hv.kp k ?_⟩⟩
  · rintro (e | e)
    · exact n1 e
    · obtain ⟨es', c', h1, _⟩ := h.c.hm
      subst e; rw [hq] at h1; cases h1
  · intro b hb hF
    rcases h.r.hv.2 with ⟨h2, _⟩ | ⟨g, cap, cur, h2, _, hg, _⟩
    · rw [h2] at hb; cases hb
    · rw [h2] at hb; injection hb with hb; subst hb
      exact cells hg (.inl (by decide)) hF
theorem two_do (h : Two w0 w p q p2 q2 n M M2) (k s i g d : Int) (hs : (Lit.int .i64 s).wf = true) (hd : 0 ≤ d ∧ d < 18446744073709551616) :
    Calls Try.prog 17 #[.pointer (some ⟨p, 0, none⟩), .pointer (some ⟨q, 0, none⟩), .agg #[.int .i64 k, .int .i64 s, .int .i64 i, .int .u64 g, .int .u64 d]] w fun e w' => e = .returned (.bool true) ∧ ∃ M', Two w0 w' p q p2 q2 n M' M2 := by
  obtain ⟨m, v, m2, v2, h1, h2, h3, h4, h5, h6, h7, h8, h9⟩ := h
  refine (do_any h1 k s i g d hs hd).mono ?_
  rintro e w1 ⟨rfl, M', v', h', k'⟩
  obtain ⟨es, c, hm, _⟩ := h1.c.hm
  exact ⟨rfl, M', m, v', m2, v2, h', h2.apart hm h1.r.hq (Ne.symm h3) (Ne.symm h4) k', h3, h4, h5, h6, h7, h8, h9.trans' k' (fun b hb e => by rcases e with e | e <;> omega)⟩
theorem two_same (h : Two w0 w p q p2 q2 n M M2) : Calls Try.prog 18 #[.pointer (some ⟨p, 0, none⟩), .pointer (some ⟨q, 0, none⟩)] w fun e w' => e = .returned (.bool true) ∧ Kp NoB w w' := by
  obtain ⟨m, v, m2, v2, h1, h2, h3, h4, h5, h6, h7, h8, h9⟩ := h
  exact same_any h1
theorem two_csame (h : Two w0 w p q p2 q2 n M M2) : Calls Try.prog 23 #[.pointer (some ⟨p, 0, none⟩), .pointer (some ⟨p2, 0, none⟩)] w fun e w' => e = .returned (.bool (decide (rowsL M = rowsL M2))) ∧ Kp NoB w w' := by
  obtain ⟨m, v, m2, v2, h1, h2, h3, h4, h5, h6, h7, h8, h9⟩ := h
  exact csame_any h1.c h2.c h1.o h2.o
theorem two_rsame (h : Two w0 w p q p2 q2 n M M2) : Calls Try.prog 24 #[.pointer (some ⟨q, 0, none⟩), .pointer (some ⟨q2, 0, none⟩)] w fun e w' => e = .returned (.bool (decide (rowsL M = rowsL M2))) ∧ Kp NoB w w' := by
  obtain ⟨m, v, m2, v2, h1, h2, h3, h4, h5, h6, h7, h8, h9⟩ := h
  have l1 : M.length ≤ 64 := Nat.le_trans h1.o.le h1.o.n2
  have l2 : M2.length ≤ 64 := Nat.le_trans h2.o.le h2.o.n2
  exact rsame_any h1.r h2.r (by rw [rowsL_len]; omega) (by rw [rowsL_len]; omega)
set_option maxRecDepth 100000 in
set_option maxHeartbeats 16000000 in
theorem copies_good (w : World) (n1 : 1 ≤ room) (n2 : room ≤ 64) (x1 x2 x3 : Option Addr) (l1 l2 l3 c1 c2 c3 : Nat) (A1 A2 A3' : List A5) (h1 : ActsAt w w.heap.size x1 l1 A1) (h2 : ActsAt w w.heap.size x2 l2 A2) (h3 : ActsAt w w.heap.size x3 l3 A3') (hl1 : l1 ≤ 60) (hl2 : l2 ≤ 30) (hl3 : l3 ≤ 30) :
   Calls Try.prog 7 #[.int .i64 room, .slice x1 l1 c1, .slice x2 l2 c2, .slice x3 l3 c3] w fun e w' => e = .returned (.bool true) ∧ Kp NoB w w' := by
  have HN := hid (new_any room n1 n2 w)
  have HK := hid known_any
  have HA1 := hid h1
  have HA2 := hid h2
  have HA3 := hid h3
  have b1 : (1 : Int) ≤ (room : Int) := by omega
  have b2 : (room : Int) ≤ 64 := by omega
  have b3 : (l1 : Int) ≤ 60 := by omega
  have b4 : (l2 : Int) ≤ 30 := by omega
  have b5 : (l3 : Int) ≤ 30 := by omega
  clear h1 h2 h3
  go_enter Try.func7, Try.ntmps7
  go_wp2_with fail
  refine HN.out.mono ?_
  rintro e w1 ⟨rfl, T1, k1⟩
  have J1 := hid (JN.new n1 n2 T1 k1 (Nat.le_refl _))
  clear T1 k1
  go_wp2_with fail
  generalize (w1.alloc (.cells #[.slice none 0 0, .int .i64 room] 46)) = w2 at *
  obtain ⟨q0, hq0⟩ : ∃ q0, w1.heap.size = q0 := ⟨_, rfl⟩
  obtain ⟨p0, hp0⟩ : ∃ p0, w.heap.size + 1 = p0 := ⟨_, rfl⟩
  rw [hq0, hp0] at J1 ⊢
  replace hq0 := hid hq0
  replace hp0 := hid hp0
  go_loopw [12] (fun i W => ∃ (j : Nat), j ≤ l1 ∧ i = .int .i64 j ∧ JN w W p0 q0 room) (fun i _ => l1 - (intOf i).toNat)
  case atStart => exact ⟨0, Nat.zero_le _, rfl, J1.out⟩
  case round =>
    obtain ⟨j, hj, rfl, hJ⟩ := hrel
    have d1 : (0 : Int) ≤ (j : Int) := Int.natCast_nonneg _
    by_cases hlt : j < l1
    · have ha := HA1.out.kp hJ.k (Nat.le_refl _) (fun _ h => h.elim)
      have hjl : j < A1.length := by rw [HA1.out.ln]; exact hlt
      obtain ⟨z, hz⟩ : ∃ z, A1[j]? = some z := ⟨_, List.getElem?_eq_getElem hjl⟩
      obtain ⟨y, rfl, hy, f0, f1, f2, f3, f4⟩ := ha.at_ j z hz
      have hwf := HA1.out.wf z (List.mem_of_getElem? hz)
      have HD := hid (do_new hJ z.k z.s z.i z.g z.d hwf.1 hwf.2)
      have d2 : (j : Int) < (l1 : Int) := by omega
      replace hJ := hid hJ
      replace ha := hid ha
      replace hwf := hid hwf
      replace hz := hid hz
      go_wp2_with fail
      refine HD.out.mono ?_
      rintro e w3 ⟨rfl, J3⟩
      replace J3 := hid J3
      go_wp2_with fail
      go_roundw
      case rel => exact ⟨j + 1, by omega, by go_num, J3.out⟩
      case measure => simp [intOf]; omega
    · obtain ⟨m, M, v, hJ, g1, g2, k1⟩ := hJ
      clear J1
      have HC := hid (ccopy_any hJ.c hJ.o)
      have HJ := hid hJ
      have K1 := hid k1
      have hml := hJ.c.lt.2
      have hql := blk_lt hJ.r.hq
      have hsz := k1.size
      have hml64 : M.length ≤ 64 := Nat.le_trans hJ.o.le hJ.o.n2
      have hrl := hid (rowsL_len M)
      clear hJ k1
      go_wp2_with fail
      refine HC.out.mono ?_
      rintro e w3 ⟨p2, m2, rfl, hc2, gp2, gm2, k2⟩
      have HC2 := hid hc2
      have K2 := hid k2
      have hs2 := k2.size
      have HRC := hid (rcopy_any (HJ.out.r.kn k2) (by have := hrl.out; omega))
      clear hc2 k2
      go_wp2_with fail
      refine HRC.out.mono ?_
      rintro e w4 ⟨q2, v2, rfl, hr2, gq2, k3⟩
      have HS := hid (csame_any (HC2.out.kp k3 (fun h => h) (fun h => h)) (((HJ.out.kn K2.out).kn k3).c) HJ.out.o HJ.out.o)
      rw [show decide (rowsL M = rowsL M) = true from decide_eq_true rfl] at HS
      have T3 := hid (show Two w w4 p0 q0 p2 q2 room M M from ⟨m, v, m2, v2, (HJ.out.kn K2.out).kn k3, ⟨HC2.out.kp k3 (fun h => h) (fun h => h), HJ.out.o, hr2⟩, by omega, by omega, g1, g2, by omega, by omega, (K1.out.trans K2.out).trans k3⟩)
      clear hr2 k3
      go_wp2_with fail
      refine HS.out.mono ?_
      rintro e w5 ⟨rfl, k4⟩
      have T4 := hid (T3.out.kn k4)
      clear k4 HS HRC HC T3 HC2 HJ K1 K2 hml hql hsz hs2 gp2 gm2 gq2 g1 g2 hml64 hrl
      clear hj hlt d1
      go_wp2_with fail
      go_loopw [15] (fun i W => ∃ (j : Nat) (Ma : List (Int × Value)), j ≤ l2 ∧ i = .int .i64 j ∧ Two w W p0 q0 p2 q2 room Ma M) (fun i _ => l2 - (intOf i).toNat)
      case atStart => exact ⟨0, M, Nat.zero_le _, rfl, T4.out⟩
      case round =>
        obtain ⟨j, Ma, hj, rfl, hT⟩ := hrel
        clear T4
        have d1 : (0 : Int) ≤ (j : Int) := Int.natCast_nonneg _
        by_cases hlt : j < l2
        · have ha := HA2.out.kp hT.k (Nat.le_refl _) (fun _ h => h.elim)
          have hjl : j < A2.length := by rw [HA2.out.ln]; exact hlt
          obtain ⟨z, hz⟩ : ∃ z, A2[j]? = some z := ⟨_, List.getElem?_eq_getElem hjl⟩
          obtain ⟨y, rfl, hy, f0, f1, f2, f3, f4⟩ := ha.at_ j z hz
          have hwf := HA2.out.wf z (List.mem_of_getElem? hz)
          have HD := hid (two_do hT z.k z.s z.i z.g z.d hwf.1 hwf.2)
          have d2 : (j : Int) < (l2 : Int) := by omega
          replace hT := hid hT
          replace ha := hid ha
          replace hwf := hid hwf
          replace hz := hid hz
          go_wp2_with fail
          refine HD.out.mono ?_
          rintro e w6 ⟨rfl, Mb, J5⟩
          replace J5 := hid J5
          go_wp2_with fail
          go_roundw
          case rel => exact ⟨j + 1, _, by omega, by go_num, J5.out⟩
          case measure => simp [intOf]; omega
        · have T5 := hid hT
          clear hT
          go_wp2_with fail
          go_loopw [16] (fun i W => ∃ (j : Nat) (Mb : List (Int × Value)), j ≤ l3 ∧ i = .int .i64 j ∧ Two w W p0 q0 p2 q2 room Ma Mb) (fun i _ => l3 - (intOf i).toNat)
          case atStart => exact ⟨0, M, Nat.zero_le _, rfl, T5.out⟩
          case round =>
            clear T5 d1 hlt hj
            obtain ⟨j, Mb, hj, rfl, hT⟩ := hrel
            have d1 : (0 : Int) ≤ (j : Int) := Int.natCast_nonneg _
            by_cases hlt : j < l3
            · have ha := HA3.out.kp hT.k (Nat.le_refl _) (fun _ h => h.elim)
              have hjl : j < A3'.length := by rw [HA3.out.ln]; exact hlt
              obtain ⟨z, hz⟩ : ∃ z, A3'[j]? = some z := ⟨_, List.getElem?_eq_getElem hjl⟩
              obtain ⟨y, rfl, hy, f0, f1, f2, f3, f4⟩ := ha.at_ j z hz
              have hwf := HA3.out.wf z (List.mem_of_getElem? hz)
              have HD := hid (two_do hT.symm z.k z.s z.i z.g z.d hwf.1 hwf.2)
              have d2 : (j : Int) < (l3 : Int) := by omega
              replace hT := hid hT
              replace ha := hid ha
              replace hwf := hid hwf
              replace hz := hid hz
              go_wp2_with fail
              refine HD.out.mono ?_
              rintro e w6 ⟨rfl, Mc, J5⟩
              have J6 := hid J5.symm
              clear J5
              go_wp2_with fail
              go_roundw
              case rel => exact ⟨j + 1, _, by omega, by go_num, J6.out⟩
              case measure => simp [intOf]; omega
            · have T6 := hid hT
              clear hT
              go_wp2_with fail
              refine (two_same T6.out).mono ?_
              rintro e w6 ⟨rfl, k5⟩
              have T7 := hid (T6.out.kn k5)
              clear k5
              go_wp2_with fail
              refine (two_same T7.out.symm).mono ?_
              rintro e w7 ⟨rfl, k6⟩
              have T8 := hid (T7.out.kn k6)
              clear k6
              have S1 := hid (fun W (h : Two w W p0 q0 p2 q2 room Ma Mb) => two_csame h)
              have S2 := hid (fun W (h : Two w W p0 q0 p2 q2 room Ma Mb) => two_rsame h)
              generalize decide (rowsL Ma = rowsL Mb) = bb at *
              go_wp2_with fail
              refine (S1.out _ T8.out).mono ?_
              rintro e w8 ⟨rfl, k7⟩
              have T9 := hid (T8.out.kn k7)
              clear k7
              go_wp2_with fail
              refine (S2.out _ T9.out).mono ?_
              rintro e w9 ⟨rfl, k8⟩
              have T10 := hid (T9.out.kn k8)
              clear k8
              go_wp2_with fail
              refine (HK.out _).mono ?_
              rintro e w10 ⟨rfl, k9⟩
              go_wp2_with fail
              go_ret
              exact ⟨rfl, T10.out.k.trans k9⟩
theorem copies_no (w : World) (n : Int) (x1 x2 x3 : Option Addr) (l1 l2 l3 c1 c2 c3 : Nat) (hb : (n < 1) ∨ (1 ≤ n ∧ 64 < n) ∨ (1 ≤ n ∧ n ≤ 64 ∧ (60 : Int) < l1) ∨ (1 ≤ n ∧ n ≤ 64 ∧ ¬ (60 : Int) < l1 ∧ (30 : Int) < l2) ∨ (1 ≤ n ∧ n ≤ 64 ∧ ¬ (60 : Int) < l1 ∧ ¬ (30 : Int) < l2 ∧ (30 : Int) < l3)) :
   Calls Try.prog 7 #[.int .i64 n, .slice x1 l1 c1, .slice x2 l2 c2, .slice x3 l3 c3] w fun e w' => e = .returned (.bool true) ∧ Kp NoB w w' := by
  have HK := hid known_any
  rcases hb with a1 | ⟨a1, a2⟩ | ⟨a1, a2, a3⟩ | ⟨a1, a2, a3, a4⟩ | ⟨a1, a2, a3, a4, a5⟩
  all_goals
    go_enter Try.func7, Try.ntmps7
    go_wp2_with fail
    refine (HK.out _).mono ?_
    rintro e w2 ⟨rfl, k2⟩
    go_wp2_with fail
    go_ret
    exact ⟨rfl, k2⟩
theorem copies_law (w : World) (n : Int) (x1 x2 x3 : Option Addr) (l1 l2 l3 c1 c2 c3 : Nat) (A1 A2 A3' : List A5) (h1 : ActsAt w w.heap.size x1 l1 A1) (h2 : ActsAt w w.heap.size x2 l2 A2) (h3 : ActsAt w w.heap.size x3 l3 A3') :
   Calls Try.prog 7 #[.int .i64 n, .slice x1 l1 c1, .slice x2 l2 c2, .slice x3 l3 c3] w fun e w' => e = .returned (.bool true) ∧ Kp NoB w w' := by
  by_cases hg : 1 ≤ n ∧ n ≤ 64 ∧ l1 ≤ 60 ∧ l2 ≤ 30 ∧ l3 ≤ 30
  · obtain ⟨m, rfl⟩ : ∃ m : Nat, n = m := ⟨n.toNat, by omega⟩
    exact copies_good w (by omega) (by omega) x1 x2 x3 l1 l2 l3 c1 c2 c3 A1 A2 A3' h1 h2 h3 (by omega) (by omega) (by omega)
  · exact copies_no w n x1 x2 x3 l1 l2 l3 c1 c2 c3 (by omega)
end
end Go.Proofs.Ytbgojgnbbkgkgaa
