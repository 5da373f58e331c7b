/- Joined: U44 U45. -/
import Derived.Test.YtplbkjgkocnehaaU25
import Derived.Test.YtplbkjgkocnehaaU34
import Derived.Test.YtplbkjgkocnehaaUC
namespace Go.Proofs.Ytplbkjgkocnehaa
set_option linter.unusedSimpArgs false
set_option linter.unusedVariables false
open Go.RowKit Go.Shelf
attribute [local go_sem ↓] Go.wp_at_zero Go.wp_at_succ
/-- a row's cells are none of what is written -/
theorem qrow_ne {w : World} {q : Nat} {dv ov rv : Value} {D Z : List Nat} {G : List QV} {S : List (Ret × List Int)} (h : QAt w q dv ov rv D Z G S) {g : QV} (hg : g ∈ G) {b : Nat} (hb : g.fp b) : b ≠ q ∧ dv.ownBlock ≠ some b ∧ ov.ownBlock ≠ some b := by
  obtain ⟨k, hk⟩ := List.mem_iff_getElem?.1 hg
  obtain ⟨x, out, _, o⟩ := h.at_ hk
  have hq : b ≠ q := by
    rintro rfl
    rcases hb with e | e | e | e
    · exact o.x.a.ne h.hq (by decide) e
    · exact o.x.b.ne h.hq (by decide) e
    · exact o.x.c.ne h.hq (by decide) e
    · exact o.o.ne h.hq (by decide) e
  have hn : ∀ {v : Value} {L : List Nat}, RowAt w 3 eN 1 v L → (∀ b, v.ownBlock = some b → ¬ g.o.ownBlock = some b) → v.ownBlock ≠ some b := fun {v} {L} hr hne e => by
    obtain ⟨A, hA⟩ := hr.own_cells e
    rcases hb with e' | e' | e' | e'
    · exact o.x.a.ne hA (by decide) e'
    · exact o.x.b.ne hA (by decide) e'
    · exact o.x.c.ne hA (by decide) e'
    · exact hne b e e'
  exact ⟨hq, hn h.hd (fun b hb e => h.nd b hb (.inr ⟨g, hg, e⟩)), hn h.ho (fun b hb e => h.no b hb ⟨g, hg, e⟩)⟩
/-- two pairs side by side: what the one's acts write is not the other's -/
def PB (w0 w : World) (p q p2 q2 n K : Nat) : Prop := ∃ u v H dv ov rv G D Z S u2 v2 H2 dv2 ov2 rv2 G2 D2 Z2 S2, TT w p u v H q dv ov rv G D Z S K ∧ TT w p2 u2 v2 H2 q2 dv2 ov2 rv2 G2 D2 Z2 S2 K ∧ D.length = n ∧ D2.length = n ∧
  (∀ b, dfp p u v H q dv ov b → ¬ tfp p2 u2 v2 H2 q2 dv2 ov2 rv2 G2 b) ∧ (∀ b, dfp p2 u2 v2 H2 q2 dv2 ov2 b → ¬ tfp p u v H q dv ov rv G b) ∧
  (∀ b, tfp p u v H q dv ov rv G b → w0.heap.size ≤ b) ∧ (∀ b, tfp p2 u2 v2 H2 q2 dv2 ov2 rv2 G2 b → w0.heap.size ≤ b) ∧ Kp NoB w0 w
def PBPost (w0 : World) (p q p2 q2 n K : Nat) (e : Ending) (w' : World) : Prop := e = .returned (.bool true) ∧ PB w0 w' p q p2 q2 n K
section
variable {w0 w w' : World} {p q p2 q2 n K : Nat}
theorem PB.swap (h : PB w0 w p q p2 q2 n K) : PB w0 w p2 q2 p q n K := by
  obtain ⟨u, v, H, dv, ov, rv, G, D, Z, S, u2, v2, H2, dv2, ov2, rv2, G2, D2, Z2, S2, h1, h2, h3, h4, h5, h6, h7, h8, h9⟩ := h
  exact ⟨u2, v2, H2, dv2, ov2, rv2, G2, D2, Z2, S2, u, v, H, dv, ov, rv, G, D, Z, S, h2, h1, h4, h3, h6, h5, h8, h7, h9⟩
theorem PB.kn (h : PB w0 w p q p2 q2 n K) (k : Kp NoB w w') : PB w0 w' p q p2 q2 n K := by
  obtain ⟨u, v, H, dv, ov, rv, G, D, Z, S, u2, v2, H2, dv2, ov2, rv2, G2, D2, Z2, S2, h1, h2, h3, h4, h5, h6, h7, h8, h9⟩ := h
  exact ⟨u, v, H, dv, ov, rv, G, D, Z, S, u2, v2, H2, dv2, ov2, rv2, G2, D2, Z2, S2, h1.kn k, h2.kn k, h3, h4, h5, h6, h7, h8, h9.trans k⟩
theorem PB.k (h : PB w0 w p q p2 q2 n K) : Kp NoB w0 w := by
  obtain ⟨u, v, H, dv, ov, rv, G, D, Z, S, u2, v2, H2, dv2, ov2, rv2, G2, D2, Z2, S2, h1, h2, h3, h4, h5, h6, h7, h8, h9⟩ := h
  exact h9
theorem dfp_t {u v : Value} {H : List HV} {dv ov rv : Value} {G : List QV} {b : Nat} (h : dfp p u v H q dv ov b) : tfp p u v H q dv ov rv G b := h.elim .inl (fun h => .inr (qw_fp h))
theorem do_pb (h : PB w0 w p q p2 q2 n K) (hK : K + 1 ≤ 1000) (k t : Int) {a b c : Value} {x : Ret} (hx : SlR w a b c x) (hf : x.few) (hxf : ∀ s, rdR a b c x s → s < w0.heap.size) :
    Calls Try.prog 13 #[.pointer (some ⟨p, 0, none⟩), .pointer (some ⟨q, 0, none⟩), .agg #[.int .i64 k, .int .i64 t, a, b, c]] w (PBPost w0 p q p2 q2 n (K + 1)) := by
  obtain ⟨u, v, H, dv, ov, rv, G, D, Z, S, u2, v2, H2, dv2, ov2, rv2, G2, D2, Z2, S2, h1, h2, h3, h4, h5, h6, h7, h8, h9⟩ := h
  refine (do_any h1 hK k t hx hf (fun s hs hb => by have := h7 s hb; have := hxf s hs; omega)).mono ?_
  rintro e w1 ⟨rfl, v', H', rv', G', D', Z', S', h', k', d'⟩
  refine ⟨rfl, u, v', H', dv, ov, rv', G', D', Z', S', u2, v2, H2, dv2, ov2, rv2, G2, D2, Z2, S2, h', (h2.kp d'.kp (fun b hb hd => h5 b hd hb)).grow0 hK, (h1.c.len h'.c).trans h3, h4, fun b hb hb2 => ?_, fun b hb hb2 => ?_, fun b hb => ?_, h8, h9.trans' k'.kp (fun b hb e => by have := h7 b e; omega)⟩
  · rcases d'.fp b hb with h | h
    · exact h5 b h hb2
    · have := h2.lt b hb2; omega
  · rcases k'.fp b hb2 with h | h
    · exact h6 b hb h
    · have := h2.lt b (dfp_t hb); omega
  · rcases k'.fp b hb with h | h
    · exact h7 b h
    · exact Nat.le_trans h9.size h
/-- a copy of both -/
theorem PB.new {w1 w2 : World} {u v dv ov rv : Value} {H : List HV} {G : List QV} {D Z : List Nat} {S : List (Ret × List Int)} {u' v' : Value} {H' : List HV} {va vb vc : Value} (T : TT w p u v H q dv ov rv G D Z S K) (h7 : ∀ b, tfp p u v H q dv ov rv G b → w0.heap.size ≤ b) (h9 : Kp NoB w0 w)
    (U : UAt w1 p2 u' v' D H' (relR Z S)) (fU : ∀ b, ufp p2 u' v' H' b → w.heap.size ≤ b) (k1 : Kp NoB w w1) (Q : QAt w2 q2 va vb vc D Z G S) (f1 : w1.heap.size ≤ q2) (f2 : New w1 va) (f3 : New w1 vb) (f4 : New w1 vc) (k2 : Kp NoB w1 w2) :
    PB w0 w2 p q p2 q2 D.length K := by
  have hU := U.lt
  have hT := T.lt
  have hs := k1.size
  have hin : ∀ b, (∃ h ∈ G, h.fp b) → tfp p u v H q dv ov rv G b := fun b hb => .inr (.inr (.inr (.inr (.inr hb))))
  refine ⟨u, v, H, dv, ov, rv, G, D, Z, S, u', v', H', va, vb, vc, G, D, Z, S, T.kn (k1.trans k2), ⟨U.kn k2, Q, ?_, T.r, T.oc, T.oq⟩, rfl, rfl, ?_, ?_, h7, ?_, h9.trans (k1.trans k2)⟩
  · rintro b hb (rfl | hq | hq | hq | hq)
    · have := hU _ hb; omega
    · have := hU b hb; have := f2 b hq; omega
    · have := hU b hb; have := f3 b hq; omega
    · have := hU b hb; have := f4 b hq; omega
    · have := fU b hb; have := hT b (hin b hq); omega
  · rintro b hb (hq | rfl | hq | hq | hq | hq)
    · have := fU b hq; have := hT b (dfp_t hb); omega
    · have := hT _ (dfp_t hb); omega
    · have := f2 b hq; have := hT b (dfp_t hb); omega
    · have := f3 b hq; have := hT b (dfp_t hb); omega
    · have := f4 b hq; have := hT b (dfp_t hb); omega
    · have hd := T.dj
      rcases hb with hb | hb
      · exact hd b hb (.inr (.inr (.inr (.inr hq))))
      · obtain ⟨g, hg, hgf⟩ := hq
        rcases hb with rfl | hb | hb
        · exact (qrow_ne T.d hg hgf).1 rfl
        · exact (qrow_ne T.d hg hgf).2.1 hb
        · exact (qrow_ne T.d hg hgf).2.2 hb
  · rintro b (hb | rfl | hb | hb) hq
    · have := fU b hb; have := hT b hq; omega
    · have := hT _ hq; omega
    · have := f2 b hb; have := hT b hq; omega
    · have := f3 b hb; have := hT b hq; omega
  · rintro b (hq | rfl | hq | hq | hq | hq)
    · exact Nat.le_trans h9.size (fU b hq)
    · have := h9.size; omega
    · have := f2 b hq; have := h9.size; omega
    · have := f3 b hq; have := h9.size; omega
    · have := f4 b hq; have := h9.size; omega
    · exact h7 b (hin b hq)
end
open Go.RowKit Go.Shelf
attribute [local go_sem ↓] Go.wp_at_zero Go.wp_at_succ
set_option maxRecDepth 100000 in
set_option maxHeartbeats 32000000 in
theorem copies_good (w : World) {n : Int} (x : Option Addr) (len cap : Nat) (A : List Ac) (hL : ActsAt w w.heap.size x len A) (x2 : Option Addr) (len2 cap2 : Nat) (A2 : List Ac) (hL2 : ActsAt w w.heap.size x2 len2 A2) (x3 : Option Addr) (len3 cap3 : Nat) (A3 : List Ac) (hL3 : ActsAt w w.heap.size x3 len3 A3) :
   Calls Try.prog 7 #[.int .i64 n, .slice x len cap, .slice x2 len2 cap2, .slice x3 len3 cap3] w fun e w' => e = .returned (.bool true) ∧ Kp NoB w w' := by
  have HF := hid (few_any (cap := cap) hL (Nat.le_refl _) (most := 60) (by omega))
  have HF2 := hid (fun W (k : Kp NoB w W) => few_any (cap := cap2) (hL2.kp k (Nat.le_refl _) (fun _ h => h.elim)) k.size (most := 30) (by omega))
  have HF3 := hid (fun W (k : Kp NoB w W) => few_any (cap := cap3) (hL3.kp k (Nat.le_refl _) (fun _ h => h.elim)) k.size (most := 30) (by omega))
  have HK := hid known_any
  have HM := hid (fun W => may_any n W)
  have HA := hid hL
  have HA2 := hid hL2
  have HA3 := hid hL3
  have hmx := hL.mx
  have hmx2 := hL2.mx
  have hmx3 := hL3.mx
  clear hL hL2 hL3
  go_enter Try.func7, Try.ntmps7
  go_wp2_with fail
  refine HF.out.mono ?_
  rintro e w1 ⟨b, rfl, hb, k1⟩
  cases b
  · clear hb
    go_wp2_with fail
    refine (HK.out _).mono ?_
    rintro e w2 ⟨rfl, k2⟩
    go_wp2_with fail
    go_ret
    exact ⟨rfl, k1.trans k2⟩
  have hb1 := hid (hb rfl)
  clear hb
  go_wp2_with fail
  refine (HF2.out _ k1).mono ?_
  rintro e w1b ⟨b, rfl, hb, k1b⟩
  replace k1 := k1.trans k1b
  cases b
  · clear hb
    go_wp2_with fail
    refine (HK.out _).mono ?_
    rintro e w2 ⟨rfl, k2⟩
    go_wp2_with fail
    go_ret
    exact ⟨rfl, k1.trans k2⟩
  have hb2 := hid (hb rfl)
  clear hb k1b
  go_wp2_with fail
  refine (HF3.out _ k1).mono ?_
  rintro e w1c ⟨b, rfl, hb, k1c⟩
  replace k1 := k1.trans k1c
  cases b
  · clear hb
    go_wp2_with fail
    refine (HK.out _).mono ?_
    rintro e w2 ⟨rfl, k2⟩
    go_wp2_with fail
    go_ret
    exact ⟨rfl, k1.trans k2⟩
  have hb3 := hid (hb rfl)
  clear hb k1c
  have K1 := hid k1
  clear k1
  go_wp2_with fail
  refine (HM.out _).mono ?_
  rintro e w2' ⟨rfl, rfl⟩
  by_cases hn : ¬ (1 ≤ n ∧ n ≤ 8)
  · have hm : (decide (1 ≤ n) && decide (n ≤ 8)) = false := by simpa using hn
    rw [hm]
    clear hn
    go_wp2_with fail
    refine (HK.out _).mono ?_
    rintro e w2 ⟨rfl, k2⟩
    go_wp2_with fail
    go_ret
    exact ⟨rfl, K1.out.trans k2⟩
  obtain ⟨m, rfl⟩ : ∃ m : Nat, n = m := ⟨n.toNat, by omega⟩
  have n1 : 1 ≤ m := by omega
  have n2 : m ≤ 8 := by omega
  have hm : (decide ((1 : Int) ≤ (m : Int)) && decide ((m : Int) ≤ 8)) = true := by simp; omega
  rw [hm]
  have HN := hid (fun W => new_any m n1 n2 W)
  have HQ := hid (fun W => qnew_any m n1 n2 W)
  have b1 : (1 : Int) ≤ (m : Int) := by omega
  have b2 : (m : Int) ≤ 8 := by omega
  clear hn hm
  go_wp2_with fail
  refine (HN.out _).mono ?_
  rintro e w2 ⟨p, u, rfl, U2, p2, u2, k2⟩
  replace U2 := hid U2
  replace u2 := hid u2
  go_wp2_with fail
  refine (HQ.out _).mono ?_
  rintro e w3 ⟨q, dv, ov, rfl, Q3, q3, k3⟩
  have T3 := hid ((TN.new n1 n2 U2.out p2 u2.out k2 Q3 q3 k3))
  clear U2 u2 Q3 q3 k3 k2 p2
  go_wp2_with fail
  go_loopw [12] (fun i W => ∃ (j : Nat), j ≤ len ∧ i = .int .i64 j ∧ TN w1c W p q m j) (fun i _ => len - (intOf i).toNat)
  case atStart => exact ⟨0, Nat.zero_le _, rfl, T3.out⟩
  case round =>
    obtain ⟨j, hj, rfl, hJ⟩ := hrel
    have c1 : (0 : Int) ≤ (j : Int) := Int.natCast_nonneg _
    by_cases hlt : j < len
    · have ha := HA.out.kp (K1.out.trans hJ.k) (Nat.le_refl _) (fun _ h => h.elim)
      obtain ⟨z, hz⟩ : ∃ z, A[j]? = some z := ⟨_, List.getElem?_eq_getElem (by rw [HA.out.ln]; exact hlt)⟩
      obtain ⟨y, rfl, hy, d0, d1, d2, d3, d4⟩ := ha.at_ j z hz
      have hzm := List.mem_of_getElem? hz
      have HD := hid (do_new hJ (by have := hb1.out.1; omega) z.k z.t (ha.sl z hzm) (hb1.out.2 z hzm) (fun s hs => Nat.lt_of_lt_of_le (ha.bl z hzm s hs) K1.out.size))
      have c2 : (j : Int) < (len : Int) := by omega
      replace hJ := hid hJ
      replace ha := hid ha
      replace hzm := hid hzm
      replace hz := hid hz
      go_wp2_with fail
      refine HD.out.mono ?_
      rintro e w3 ⟨rfl, J3⟩
      replace J3 := hid J3
      go_wp2_with fail
      go_roundw
      case rel => exact ⟨j + 1, by omega, by go_num, J3.out⟩
      case measure => simp [intOf]; omega
    · obtain rfl : j = len := by omega
      obtain ⟨u', v, H, dv', ov', rv, G, D, Z, S, T, hnD, hfp, hk⟩ := hJ
      subst hnD
      have hj60 := hid hb1.out.1
      have T4 := hid T
      have hfp4 := hid hfp
      have hk4 := hid hk
      have HC := hid (copy_any T.c T.oc)
      clear T hfp hk
      go_wp2_with fail
      refine HC.out.mono ?_
      rintro e w4 ⟨p2, u2, v2, H2, rfl, U4, f4, k4⟩
      have HC2 := hid (dcopy_any (T4.out.d.kn k4) T4.out.oq)
      go_wp2_with fail
      refine HC2.out.mono ?_
      rintro e w5 ⟨q2, va, vb, vc, rfl, Q5, f51, f52, f53, f54, k5⟩
      have hS5 := hid (csame_any (U4.kn k5) (T4.out.c.kn (k4.trans k5)) T4.out.oc T4.out.oc rfl)
      rw [decide_eq_true rfl, decide_eq_true rfl, Bool.and_self] at hS5
      have P5 := hid (PB.new T4.out hfp4.out hk4.out U4 f4 k4 Q5 f51 f52 f53 f54 k5)
      clear U4 f4 k4 Q5 f51 f52 f53 f54 k5
      go_wp2_with fail
      refine hS5.out.mono ?_
      rintro e w6 ⟨rfl, k6⟩
      have P6 := hid (P5.out.kn k6)
      clear k6
      go_wp2_with fail
      go_loopw [15] (fun i W => ∃ (k : Nat), k ≤ len2 ∧ i = .int .i64 k ∧ PB w1c W p q p2 q2 D.length (j + k)) (fun i _ => len2 - (intOf i).toNat)
      case atStart => exact ⟨0, Nat.zero_le _, rfl, P6.out⟩
      case round =>
        obtain ⟨k, hk, rfl, hP⟩ := hrel
        have c1 : (0 : Int) ≤ (k : Int) := Int.natCast_nonneg _
        by_cases hlt2 : k < len2
        · have ha := HA2.out.kp (K1.out.trans hP.k) (Nat.le_refl _) (fun _ h => h.elim)
          obtain ⟨z, hz⟩ : ∃ z, A2[k]? = some z := ⟨_, List.getElem?_eq_getElem (by rw [HA2.out.ln]; exact hlt2)⟩
          obtain ⟨y, rfl, hy, d0, d1, d2, d3, d4⟩ := ha.at_ k z hz
          have hzm := List.mem_of_getElem? hz
          have HD := hid (do_pb hP (by have := hb2.out.1; have := hj60.out; omega) z.k z.t (ha.sl z hzm) (hb2.out.2 z hzm) (fun s hs => Nat.lt_of_lt_of_le (ha.bl z hzm s hs) K1.out.size))
          have c2 : (k : Int) < (len2 : Int) := by omega
          replace hP := hid hP
          replace ha := hid ha
          replace hzm := hid hzm
          replace hz := hid hz
          go_wp2_with fail
          refine HD.out.mono ?_
          rintro e w7 ⟨rfl, P7⟩
          replace P7 := hid P7
          go_wp2_with fail
          go_roundw
          case rel => exact ⟨k + 1, by omega, by go_num, P7.out⟩
          case measure => simp [intOf]; omega
        · obtain rfl : k = len2 := by omega
          have P8 := hid hP
          clear hP
          go_wp2_with fail
          go_loopw [16] (fun i W => ∃ (l : Nat), l ≤ len3 ∧ i = .int .i64 l ∧ PB w1c W p2 q2 p q D.length (j + k + l)) (fun i _ => len3 - (intOf i).toNat)
          case atStart => exact ⟨0, Nat.zero_le _, rfl, P8.out.swap⟩
          case round =>
            obtain ⟨l, hl, rfl, hP⟩ := hrel
            have c1 : (0 : Int) ≤ (l : Int) := Int.natCast_nonneg _
            by_cases hlt3 : l < len3
            · have ha := HA3.out.kp (K1.out.trans hP.k) (Nat.le_refl _) (fun _ h => h.elim)
              obtain ⟨z, hz⟩ : ∃ z, A3[l]? = some z := ⟨_, List.getElem?_eq_getElem (by rw [HA3.out.ln]; exact hlt3)⟩
              obtain ⟨y, rfl, hy, d0, d1, d2, d3, d4⟩ := ha.at_ l z hz
              have hzm := List.mem_of_getElem? hz
              have HD := hid (do_pb hP (by have := hb2.out.1; have := hb3.out.1; have := hj60.out; omega) z.k z.t (ha.sl z hzm) (hb3.out.2 z hzm) (fun s hs => Nat.lt_of_lt_of_le (ha.bl z hzm s hs) K1.out.size))
              have c2 : (l : Int) < (len3 : Int) := by omega
              replace hP := hid hP
              replace ha := hid ha
              replace hzm := hid hzm
              replace hz := hid hz
              go_wp2_with fail
              refine HD.out.mono ?_
              rintro e w7 ⟨rfl, P7⟩
              replace P7 := hid P7
              go_wp2_with fail
              go_roundw
              case rel => exact ⟨l + 1, by omega, by go_num, P7.out⟩
              case measure => simp [intOf]; omega
            · obtain rfl : l = len3 := by omega
              obtain ⟨u8, v8, H8, dv8, ov8, rv8, G8, D8, Z8, S8, u9, v9, H9, dv9, ov9, rv9, G9, D9, Z9, S9, T8, T9, hD8, hD9, _, _, _, _, hk9⟩ := hP.swap
              have T8' := hid T8
              have T9' := hid T9
              have K9 := hid hk9
              have hDD := hid (hD8.trans hD9.symm)
              have HS1 := hid (same_any T8)
              clear T8 T9 hk9 hP hD8 hD9
              go_wp2_with fail
              refine HS1.out.mono ?_
              rintro e w10 ⟨rfl, k10⟩
              have HS2 := hid (same_any (T9'.out.kn k10))
              have K10 := hid k10
              clear k10
              go_wp2_with fail
              refine HS2.out.mono ?_
              rintro e w11 ⟨rfl, k11⟩
              have K11 := hid (K10.out.trans k11)
              have HS3 := hid (csame_any (T8'.out.c.kn K11.out) (T9'.out.c.kn K11.out) T8'.out.oc T9'.out.oc hDD.out)
              clear k11
              go_wp2_with fail
              refine HS3.out.mono ?_
              rintro e w12 ⟨rfl, k12⟩
              have K12 := hid (K11.out.trans k12)
              have HS4 := hid (dsame_any (T8'.out.d.kn K12.out) (T9'.out.d.kn K12.out) T8'.out.oq T9'.out.oq)
              clear k12
              generalize (decide (D8 = D9) && decide (relR Z8 S8 = relR Z9 S9)) = bb at *
              go_wp2_with fail
              refine HS4.out.mono ?_
              rintro e w13 ⟨rfl, k13⟩
              have hbb : (bb == bb) = true := by simp
              have KF := hid ((K1.out.trans K9.out).trans (K12.out.trans k13))
              clear k13
              go_wp2_with fail
              refine (HK.out _).mono ?_
              rintro e w14 ⟨rfl, k14⟩
              go_wp2_with fail
              go_ret
              exact ⟨rfl, KF.out.trans k14⟩
end Go.Proofs.Ytplbkjgkocnehaa
