/- Walks: SerialPlays. -/
import Derived.Test.YtbgojgnbbkgkgaaS25
namespace Go.Proofs.Ytbgojgnbbkgkgaa
set_option linter.unusedSimpArgs false
set_option linter.unusedVariables false
open Go.RowKit Go.Shelf
attribute [local go_sem ↓] Go.wp_at_zero Go.wp_at_succ
/-- both, new since w0 -/
def JN (w0 w : World) (p q room : Nat) : Prop := ∃ m M v, JAt w p m q room M v ∧ w0.heap.size ≤ m ∧ w0.heap.size ≤ q ∧ Kp NoB w0 w
section
variable {w0 w w' : World} {p q m room : Nat} {v : Value} {M : List (Int × Value)}
theorem JN.kn (h : JN w0 w p q room) (k : Kp NoB w w') : JN w0 w' p q room := by
  obtain ⟨m, M, v, h1, h2, h3, h4⟩ := h
  exact ⟨m, M, v, h1.kn k, h2, h3, h4.trans k⟩
theorem JN.k (h : JN w0 w p q room) : Kp NoB w0 w := by obtain ⟨m, M, v, h1, h2, h3, h4⟩ := h; exact h4
theorem do_new (h : JN w0 w p q room) (k s i g d : Int) (hs : (Lit.int .i64 s).wf = true) (hd : 0 ≤ d ∧ d < 18446744073709551616) :
    Calls Try.prog 17 #[.pointer (some ⟨p, 0, none⟩), .pointer (some ⟨q, 0, none⟩), .agg #[.int .i64 k, .int .i64 s, .int .i64 i, .int .u64 g, .int .u64 d]] w fun e w' => e = .returned (.bool true) ∧ JN w0 w' p q room := by
  obtain ⟨m, M, v, h1, h2, h3, h4⟩ := h
  refine (do_any h1 k s i g d hs hd).mono ?_
  rintro e w1 ⟨rfl, M', v', h', k'⟩
  exact ⟨rfl, m, M', v', h', h2, h3, h4.trans' k' (fun b hb e => by rcases e with e | e <;> omega)⟩
theorem same_new (h : JN w0 w p q room) : Calls Try.prog 18 #[.pointer (some ⟨p, 0, none⟩), .pointer (some ⟨q, 0, none⟩)] w fun e w' => e = .returned (.bool true) ∧ JN w0 w' p q room := by
  have h' := h
  obtain ⟨m, M, v, h1, h2, h3, h4⟩ := h
  refine (same_any h1).mono ?_
  rintro e w1 ⟨rfl, k⟩
  exact ⟨rfl, h'.kn k⟩
theorem new_no (w : World) {n : Int} (hn : ¬ (1 ≤ n ∧ n ≤ 64)) : Calls Try.prog 9 #[.int .i64 n] w fun e w' => e = .returned (.tuple #[.pointer none, .int .i64 2]) ∧ w = w' := by
  rcases (show n < 1 ∨ (1 ≤ n ∧ 64 < n) from by omega) with h | ⟨h1, h2⟩
  all_goals
    clear hn
    go_enter Try.func9, Try.ntmps9
    go_wp2_with fail
    go_ret2
    exact ⟨rfl, rfl⟩
theorem rows_nil : rowsL [] = [] := List.eq_nil_of_length_eq_zero (by rw [rowsL_len]; rfl)
/-- a new table and the document's, both empty -/
theorem JN.new {w1 : World} (n1 : 1 ≤ room) (n2 : room ≤ 64) (T : TAt w1 p m [] room) (k : Kp NoB w0 w1) (hm : w0.heap.size ≤ m) : JN w0 (w1.alloc (.cells #[.slice none 0 0, .int .i64 room] 46)) p w1.heap.size room :=
  ⟨m, [], .slice none 0 0, ⟨T.alloc _, tok_nil n1 n2, ⟨blk_new _ _, rows_nil ▸ RowAt.nil _ 56 eR 3⟩⟩, hm, k.size, k.alloc _⟩
theorem plays_no (w : World) {n : Int} (hn : ¬ (1 ≤ n ∧ n ≤ 64)) (x : Option Addr) (len cap : Nat) :
   Calls Try.prog 5 #[.int .i64 n, .slice x len cap] w fun e w' => e = .returned (.bool true) ∧ Kp NoB w w' := by
  have HN := hid (new_no w hn)
  have HK := hid known_any
  rcases (show n < 1 ∨ (1 ≤ n ∧ 64 < n) from by omega) with h | ⟨h1, h2⟩
  all_goals
    clear hn
    go_enter Try.func5, Try.ntmps5
    go_wp2_with fail
    refine HN.out.mono ?_
    rintro e w1 ⟨rfl, rfl⟩
    go_wp2_with fail
    refine (HK.out _).mono ?_
    rintro e w2 ⟨rfl, k2⟩
    go_wp2_with fail
    go_ret
    exact ⟨rfl, k2⟩
set_option maxRecDepth 100000 in
set_option maxHeartbeats 8000000 in
theorem plays_good (w : World) (n1 : 1 ≤ room) (n2 : room ≤ 64) (x : Option Addr) (len cap : Nat) (A : List A5) (hL : ActsAt w w.heap.size x len A) :
   Calls Try.prog 5 #[.int .i64 room, .slice x len cap] w fun e w' => e = .returned (.bool true) ∧ Kp NoB w w' := by
  have HN := hid (new_any room n1 n2 w)
  have HK := hid known_any
  have HA := hid hL
  have hmx := hL.mx
  have b1 : (1 : Int) ≤ (room : Int) := by omega
  have b2 : (room : Int) ≤ 64 := by omega
  clear hL
  by_cases hl : len > 150
  · have hl' : ((150 : Int) < (len : Int)) := by omega
    go_enter Try.func5, Try.ntmps5
    go_wp2_with fail
    refine HN.out.mono ?_
    rintro e w1 ⟨rfl, T1, k1⟩
    clear T1
    go_wp2_with fail
    refine (HK.out _).mono ?_
    rintro e w2 ⟨rfl, k2⟩
    go_wp2_with fail
    go_ret
    exact ⟨rfl, k1.trans k2⟩
  · have hl' : ¬ ((150 : Int) < (len : Int)) := by omega
    go_enter Try.func5, Try.ntmps5
    go_wp2_with fail
    refine HN.out.mono ?_
    rintro e w1 ⟨rfl, T1, k1⟩
    have J1 := hid (JN.new n1 n2 T1 k1 (Nat.le_refl _))
    clear T1 k1
    go_wp2_with fail
    generalize (w1.alloc (.cells #[.slice none 0 0, .int .i64 room] 46)) = w2 at *
    go_loopw [8] (fun i W => ∃ (j : Nat), j ≤ len ∧ i = .int .i64 j ∧ JN w W (w.heap.size + 1) w1.heap.size room) (fun i _ => len - (intOf i).toNat)
    case atStart => exact ⟨0, Nat.zero_le _, rfl, J1.out⟩
    case round =>
      obtain ⟨j, hj, rfl, hJ⟩ := hrel
      have c1 : (0 : Int) ≤ (j : Int) := Int.natCast_nonneg _
      by_cases hlt : j < len
      · have ha := HA.out.kp hJ.k (Nat.le_refl _) (fun _ h => h.elim)
        have hjl : j < A.length := by rw [HA.out.ln]; exact hlt
        obtain ⟨z, hz⟩ : ∃ z, A[j]? = some z := ⟨_, List.getElem?_eq_getElem hjl⟩
        obtain ⟨y, rfl, hy, d0, d1, d2, d3, d4⟩ := ha.at_ j z hz
        have hwf := HA.out.wf z (List.mem_of_getElem? hz)
        have HD := hid (do_new hJ z.k z.s z.i z.g z.d hwf.1 hwf.2)
        have c2 : (j : Int) < (len : Int) := by omega
        replace hJ := hid hJ
        replace ha := hid ha
        replace hwf := hid hwf
        replace hz := hid hz
        go_wp2_with fail
        refine HD.out.mono ?_
        rintro e w3 ⟨rfl, J3⟩
        have HS := hid (same_new J3)
        replace J3 := hid J3
        go_wp2_with fail
        refine HS.out.mono ?_
        rintro e w4 ⟨rfl, J4⟩
        replace J4 := hid J4
        go_wp2_with fail
        go_roundw
        case rel => exact ⟨j + 1, by omega, by go_num, J4.out⟩
        case measure => simp [intOf]; omega
      · have K1 := hid hJ.k
        replace hJ := hid hJ
        go_wp2_with fail
        refine (HK.out _).mono ?_
        rintro e w4 ⟨rfl, k4⟩
        go_wp2_with fail
        go_ret
        exact ⟨rfl, K1.out.trans k4⟩
theorem plays_law (w : World) (n : Int) (x : Option Addr) (len cap : Nat) (A : List A5) (hL : ActsAt w w.heap.size x len A) :
   Calls Try.prog 5 #[.int .i64 n, .slice x len cap] w fun e w' => e = .returned (.bool true) ∧ Kp NoB w w' := by
  by_cases hn : 1 ≤ n ∧ n ≤ 64
  · obtain ⟨m, rfl⟩ : ∃ m : Nat, n = m := ⟨n.toNat, by omega⟩
    exact plays_good w (by omega) (by omega) x len cap A hL
  · exact plays_no w hn x len cap
end
end Go.Proofs.Ytbgojgnbbkgkgaa
