/- Walks: RcuPlays. -/
import Derived.Test.YtplbkjgkocnehaaU24
namespace Go.Proofs.Ytplbkjgkocnehaa
set_option linter.unusedSimpArgs false
set_option linter.unusedVariables false
open Go.RowKit Go.Shelf
attribute [local go_sem ↓] Go.wp_at_zero Go.wp_at_succ
/-- both, new since w0 -/
def TN (w0 w : World) (p q n K : Nat) : Prop := ∃ u v H dv ov rv G D Z S, TT w p u v H q dv ov rv G D Z S K ∧ D.length = n ∧ (∀ b, tfp p u v H q dv ov rv G b → w0.heap.size ≤ b) ∧ Kp NoB w0 w
def TNPost (w0 : World) (p q n K : Nat) (e : Ending) (w' : World) : Prop := e = .returned (.bool true) ∧ TN w0 w' p q n K
section
variable {w0 w w' : World} {p q n K : Nat}
theorem UAt.len {p' : Nat} {u v v' : Value} {D D' : List Nat} {H H' : List HV} {R R' : List (Ret × List Nat)} (h : UAt w p u v D H R) (h' : UAt w' p' u v' D' H' R') : D'.length = D.length := by
  obtain ⟨_, _, e, _⟩ := h.hu.form
  obtain ⟨_, _, e', _⟩ := h'.hu.form
  rw [e] at e'
  injection e' with _ e' _
  exact e'.symm
theorem TN.kn (h : TN w0 w p q n K) (k : Kp NoB w w') : TN w0 w' p q n K := by
  obtain ⟨u, v, H, dv, ov, rv, G, D, Z, S, h1, hn, h2, h3⟩ := h
  exact ⟨u, v, H, dv, ov, rv, G, D, Z, S, h1.kn k, hn, h2, h3.trans k⟩
theorem TN.k (h : TN w0 w p q n K) : Kp NoB w0 w := by
  obtain ⟨u, v, H, dv, ov, rv, G, D, Z, S, h1, hn, h2, h3⟩ := h
  exact h3
theorem do_new (h : TN w0 w p q n K) (hK : K + 1 ≤ 1000) (k t : Int) {a b c : Value} {x : Ret} (hx : SlR w a b c x) (hf : x.few) (hxf : ∀ s, rdR a b c x s → s < w0.heap.size) :
    Calls Try.prog 13 #[.pointer (some ⟨p, 0, none⟩), .pointer (some ⟨q, 0, none⟩), .agg #[.int .i64 k, .int .i64 t, a, b, c]] w (TNPost w0 p q n (K + 1)) := by
  obtain ⟨u, v, H, dv, ov, rv, G, D, Z, S, h1, hn, h2, h3⟩ := h
  refine (do_any h1 hK k t hx hf (fun s hs hb => by have := h2 s hb; have := hxf s hs; omega)).mono ?_
  rintro e w1 ⟨rfl, v', H', rv', G', D', Z', S', h', k', _⟩
  refine ⟨rfl, u, v', H', dv, ov, rv', G', D', Z', S', h', (h1.c.len h'.c).trans hn, fun b hb => ?_, h3.trans' k'.kp (fun b hb e => by have := h2 b e; omega)⟩
  rcases k'.fp b hb with h | h
  · exact h2 b h
  · exact Nat.le_trans h3.size h
theorem same_new (h : TN w0 w p q n K) : Calls Try.prog 25 #[.pointer (some ⟨p, 0, none⟩), .pointer (some ⟨q, 0, none⟩)] w (TNPost w0 p q n K) := by
  have h' := h
  obtain ⟨u, v, H, dv, ov, rv, G, D, Z, S, h1, hn, h2, h3⟩ := h
  refine (same_any h1).mono ?_
  rintro e w1 ⟨rfl, k⟩
  exact ⟨rfl, h'.kn k⟩
/-- a new one and the document's -/
theorem TN.new {w1 w2 : World} {u dv ov : Value} (n1 : 1 ≤ n) (n8 : n ≤ 8) (hU : UAt w1 p u (.slice none 0 0) (List.replicate n 0) [] []) (hp : w0.heap.size ≤ p) (hu : New w0 u) (k1 : Kp NoB w0 w1)
    (hQ : QAt w2 q dv ov (.slice none 0 0) (List.replicate n 0) (List.replicate n 0) [] []) (hq : ∀ b, qfp q dv ov (.slice none 0 0) [] b → w1.heap.size ≤ b) (k2 : Kp NoB w1 w2) : TN w0 w2 p q n 0 := by
  refine ⟨u, _, [], dv, ov, _, [], _, _, [], ⟨hU.kn k2, hQ, fun b hb hb' => ?_, ⟨fun _ _ h => (by cases h), fun _ _ h => (by cases h)⟩, UOk.new n1 n8, QOkS.new n1 n8⟩, List.length_replicate, fun b hb => ?_, k1.trans k2⟩
  · have := hq b hb'
    have := hU.lt b hb
    omega
  · rcases hb with h | h
    · exact UAt.new_fp (n := n) hp hu h
    · exact Nat.le_trans k1.size (hq b h)
theorem plays_no (w : World) {n : Int} (hn : ¬ (1 ≤ n ∧ n ≤ 8)) {x : Option Addr} {len cap : Nat} {L : List Ac} (hL : ActsAt w w.heap.size x len L) :
   Calls Try.prog 4 #[.int .i64 n, .slice x len cap] w fun e w' => e = .returned (.bool true) ∧ Kp NoB w w' := by
  have HF := hid (few_any (cap := cap) hL (Nat.le_refl _) (most := 120) (by omega))
  have HN := hid (fun W => new_out n hn W)
  have HK := hid known_any
  have HM := hid (fun W => may_any n W)
  have hm : (decide (1 ≤ n) && decide (n ≤ 8)) = false := by simpa using hn
  rw [hm] at HM
  clear hn hm hL
  go_enter Try.func4, Try.ntmps4
  go_wp2_with fail
  refine HF.out.mono ?_
  rintro e w1 ⟨b, rfl, _, k1⟩
  cases b
  · go_wp2_with fail
    refine (HK.out _).mono ?_
    rintro e w2 ⟨rfl, k2⟩
    go_wp2_with fail
    go_ret
    exact ⟨rfl, k1.trans k2⟩
  · go_wp2_with fail
    refine (HN.out _).mono ?_
    rintro e w2 ⟨rfl, rfl⟩
    go_wp2_with fail
    refine (HM.out _).mono ?_
    rintro e w2 ⟨rfl, rfl⟩
    go_wp2_with fail
    refine (HK.out _).mono ?_
    rintro e w2 ⟨rfl, k2⟩
    go_wp2_with fail
    go_ret
    exact ⟨rfl, k1.trans k2⟩
set_option maxRecDepth 100000 in
set_option maxHeartbeats 8000000 in
theorem plays_good (w : World) {n : Nat} (n1 : 1 ≤ n) (n2 : n ≤ 8) (x : Option Addr) (len cap : Nat) (A : List Ac) (hL : ActsAt w w.heap.size x len A) :
   Calls Try.prog 4 #[.int .i64 n, .slice x len cap] w fun e w' => e = .returned (.bool true) ∧ Kp NoB w w' := by
  have HF := hid (few_any (cap := cap) hL (Nat.le_refl _) (most := 120) (by omega))
  have HN := hid (fun W => new_any n n1 n2 W)
  have HQ := hid (fun W => qnew_any n n1 n2 W)
  have HK := hid known_any
  have HM := hid (fun W => may_any n W)
  have HA := hid hL
  have hmx := hL.mx
  have hm : (decide ((1 : Int) ≤ (n : Int)) && decide ((n : Int) ≤ 8)) = true := by simp; omega
  rw [hm] at HM
  clear hL hm
  go_enter Try.func4, Try.ntmps4
  go_wp2_with fail
  refine HF.out.mono ?_
  rintro e w1 ⟨b, rfl, hb, k1⟩
  cases b
  · clear hb
    go_wp2_with fail
    refine (HK.out _).mono ?_
    rintro e w2 ⟨rfl, k2⟩
    go_wp2_with fail
    go_ret
    exact ⟨rfl, k1.trans k2⟩
  · have hb' := hid (hb rfl)
    clear hb
    go_wp2_with fail
    refine (HN.out _).mono ?_
    rintro e w2 ⟨p, u, rfl, U2, p2, u2, k2⟩
    replace U2 := hid U2
    replace u2 := hid u2
    go_wp2_with fail
    refine (HM.out _).mono ?_
    rintro e w2' ⟨rfl, rfl⟩
    go_wp2_with fail
    refine (HQ.out _).mono ?_
    rintro e w3 ⟨q, dv, ov, rfl, Q3, q3, k3⟩
    have T3 := hid ((TN.new n1 n2 U2.out p2 u2.out k2 Q3 q3 k3))
    have K1 := hid k1
    clear U2 u2 Q3 q3 k3 k2 k1
    go_wp2_with fail
    go_loopw [8] (fun i W => ∃ (j : Nat), j ≤ len ∧ i = .int .i64 j ∧ TN w1 W p q n j) (fun i _ => len - (intOf i).toNat)
    case atStart => exact ⟨0, Nat.zero_le _, rfl, T3.out⟩
    case round =>
      obtain ⟨j, hj, rfl, hJ⟩ := hrel
      have c1 : (0 : Int) ≤ (j : Int) := Int.natCast_nonneg _
      by_cases hlt : j < len
      · have ha := HA.out.kp (K1.out.trans hJ.k) (Nat.le_refl _) (fun _ h => h.elim)
        have hjl : j < A.length := by rw [HA.out.ln]; exact hlt
        obtain ⟨z, hz⟩ : ∃ z, A[j]? = some z := ⟨_, List.getElem?_eq_getElem hjl⟩
        obtain ⟨y, rfl, hy, d0, d1, d2, d3, d4⟩ := ha.at_ j z hz
        have hzm := List.mem_of_getElem? hz
        have HD := hid (do_new hJ (by have := hb'.out.1; omega) z.k z.t (ha.sl z hzm) (hb'.out.2 z hzm) (fun s hs => Nat.lt_of_lt_of_le (ha.bl z hzm s hs) K1.out.size))
        have c2 : (j : Int) < (len : Int) := by omega
        replace hJ := hid hJ
        replace ha := hid ha
        replace hzm := hid hzm
        replace hz := hid hz
        go_wp2_with fail
        refine HD.out.mono ?_
        rintro e w3 ⟨rfl, J3⟩
        have HS := hid (same_new J3)
        replace J3 := hid J3
        go_wp2_with fail
        refine HS.out.mono ?_
        rintro e w4 ⟨rfl, J4⟩
        replace J4 := hid J4
        go_wp2_with fail
        go_roundw
        case rel => exact ⟨j + 1, by omega, by go_num, J4.out⟩
        case measure => simp [intOf]; omega
      · have K4 := hid hJ.k
        replace hJ := hid hJ
        go_wp2_with fail
        refine (HK.out _).mono ?_
        rintro e w4 ⟨rfl, k4⟩
        go_wp2_with fail
        go_ret
        exact ⟨rfl, (K1.out.trans K4.out).trans k4⟩
theorem plays_law (w : World) (n : Int) (x : Option Addr) (len cap : Nat) (A : List Ac) (hL : ActsAt w w.heap.size x len A) :
   Calls Try.prog 4 #[.int .i64 n, .slice x len cap] w fun e w' => e = .returned (.bool true) ∧ Kp NoB w w' := by
  by_cases hn : 1 ≤ n ∧ n ≤ 8
  · obtain ⟨m, rfl⟩ : ∃ m : Nat, n = m := ⟨n.toNat, by omega⟩
    exact plays_good w (by omega) (by omega) x len cap A hL
  · exact plays_no w hn hL
end
end Go.Proofs.Ytplbkjgkocnehaa
