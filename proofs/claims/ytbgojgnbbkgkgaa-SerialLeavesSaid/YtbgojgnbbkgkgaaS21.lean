/- Walks: Next of the document's table, Drop of the code's. -/
import Derived.Test.YtbgojgnbbkgkgaaS20
namespace Go.Proofs.Ytbgojgnbbkgkgaa
set_option linter.unusedSimpArgs false
set_option linter.unusedVariables false
open Go.RowKit Go.Shelf
attribute [local go_sem ↓] Go.wp_at_zero Go.wp_at_succ
section
variable {w w' : World} {q p m room : Nat} {v : Value} {M : List (Int × Value)}
theorem measA {i : Nat} {s0 : Int} (m1 : (it i s0 - s0) % 1073741824 = i) (m2 : (it (i + 1) s0 - s0) % 1073741824 = i + 1) (ei : it (i + 1) s0 = it i s0 % 1073741824 + 1) (hs : it i s0 = 1073741824) :
    (∀ d, i < d → d - ((intOf (.int .i64 1) - s0) % 1073741824).toNat < d - ((intOf (.int .i64 1073741824) - s0) % 1073741824).toNat) := by
  intro d hd
  rw [hs] at m1 ei
  rw [ei] at m2
  simp only [intOf]
  rw [m1]
  rw [show (1073741824 % 1073741824 + 1 : Int) = 1 from rfl] at m2
  rw [m2]
  omega
theorem measB {i : Nat} {s0 sv : Int} (m1 : (it i s0 - s0) % 1073741824 = i) (m2 : (it (i + 1) s0 - s0) % 1073741824 = i + 1) (ei : it (i + 1) s0 = it i s0 % 1073741824 + 1) (hs : it i s0 = sv) (hx : sv < 1073741824) (h1 : 1 ≤ sv) :
    (∀ d, i < d → d - ((intOf (.int .i64 (sv + 1)) - s0) % 1073741824).toNat < d - ((intOf (.int .i64 sv) - s0) % 1073741824).toNat) ∧ it (i + 1) s0 = sv + 1 := by
  rw [hs] at m1 ei
  rw [Int.emod_eq_of_lt (by omega) hx] at ei
  rw [ei] at m2
  refine ⟨?_, ei⟩
  intro d hd
  simp only [intOf]
  rw [m1, m2]
  omega
set_option maxRecDepth 100000 in
set_option maxHeartbeats 4000000 in
theorem rnext_any (h : RAt w q room v (rowsL M)) (o : TOk M room) (draw : Int) (h0 : 0 ≤ draw) (h1 : draw < 18446744073709551616) {d : Nat} (hd : IsNext M (1 + draw % 1073741824) d) :
    Calls Try.prog 30 #[.pointer (some ⟨q, 0, none⟩), .int .u64 draw] w fun e w' => e = .returned (.int .i64 (it d (1 + draw % 1073741824))) ∧ w = w' := by
  have hll := rowsL_len M
  have hml : M.length ≤ 64 := Nat.le_trans o.le o.n2
  have HF := hid (fun s => find_any h (by omega) s)
  have HI := hid (fun s => find_iff (s := s) o)
  have HD := hid hd
  have hdl : d ≤ 64 := Nat.le_trans hd.1 hml
  have er : draw.tmod 1073741824 = draw % 1073741824 := Int.tmod_eq_emod_of_nonneg h0
  have r0 : 0 ≤ draw % 1073741824 := by omega
  have r1 : draw % 1073741824 < 1073741824 := by omega
  obtain ⟨s0, hs0⟩ : ∃ s0, s0 = 1 + draw % 1073741824 := ⟨_, rfl⟩
  have b1 : 1 ≤ s0 := by omega
  have b2 : s0 ≤ 1073741824 := by omega
  have es : draw % 1073741824 + 1 = s0 := by omega
  rw [← hs0] at HD ⊢
  clear hd h o hs0
  go_enter Try.func30, Try.ntmps30
  go_wp2_with fail
  try rw [es]
  clear er r0 r1 es h0 h1
  go_loop [5] (fun x => ∃ i : Nat, i ≤ d ∧ x = .int .i64 (it i s0)) (fun x => d - ((intOf x - s0) % 1073741824).toNat)
  case atStart => exact ⟨0, Nat.zero_le _, by rw [it_zero b1 b2]⟩
  case round =>
    obtain ⟨i, hi, rfl⟩ := hrel
    have m1 := hid (show (it i s0 - s0) % 1073741824 = i by unfold it; omega)
    have m2 := hid (show (it (i + 1) s0 - s0) % 1073741824 = i + 1 by unfold it; omega)
    have ei := hid (it_succ i s0)
    obtain ⟨c1, c2⟩ := it_range i s0
    have HFs := hid (HF.out (it i s0))
    have HIs := HI.out (it i s0)
    rcases Nat.lt_or_ge i d with hlt | hge
    · have hpos := HIs.2 (HD.out.2.2 i hlt)
      clear HIs
      generalize hrr : findR (rowsL M) (it i s0) = r at HFs hpos
      replace hrr := hid hrr
      obtain ⟨sv, hsv⟩ : ∃ sv, it i s0 = sv := ⟨_, rfl⟩
      rw [hsv] at HFs c1 c2 ⊢
      rcases (show sv = 1073741824 ∨ sv < 1073741824 from by omega) with hx | hx
      · subst hx
        have m3 := hid (measA m1.out m2.out ei.out hsv)
        replace hsv := hid hsv
        go_wp2_with fail
        refine HFs.out.mono ?_
        rintro e w1 ⟨rfl, rfl⟩
        go_wp2_with fail
        go_round
        case rel => exact ⟨i + 1, hlt, by rw [ei.out, hsv.out]; rfl⟩
        case measure => exact m3.out d hlt
      · have hx2 : sv + 1 ≤ 1073741824 := by omega
        have hx' : ¬ (sv + 1 > 1073741824) := by omega
        have m3 := hid (measB m1.out m2.out ei.out hsv hx c1)
        replace hsv := hid hsv
        go_wp2_with fail
        refine HFs.out.mono ?_
        rintro e w1 ⟨rfl, rfl⟩
        go_wp2_with fail
        go_round
        case rel => exact ⟨i + 1, hlt, by rw [m3.out.2]⟩
        case measure => exact m3.out.1 d hlt
    · obtain rfl : i = d := by omega
      have hneg : ¬ 0 ≤ findR (rowsL M) (it i s0) := fun h => by
        have := HIs.1 h
        rw [HD.out.2.1] at this; simp at this
      have hneg' : findR (rowsL M) (it i s0) < 0 := by omega
      clear HIs hneg
      generalize hrr : findR (rowsL M) (it i s0) = r at HFs hneg'
      replace hrr := hid hrr
      obtain ⟨sv, hsv⟩ : ∃ sv, it i s0 = sv := ⟨_, rfl⟩
      rw [hsv] at HFs c1 c2 ⊢
      replace hsv := hid hsv
      go_wp2_with fail
      refine HFs.out.mono ?_
      rintro e w1 ⟨rfl, rfl⟩
      go_wp2_with fail
      go_ret
      exact ⟨by rw [hsv.out]; rfl, rfl⟩
set_option maxRecDepth 100000 in
set_option maxHeartbeats 4000000 in
theorem cdrop_any (h : TAt w p m M room) (o : TOk M room) (s : Int) (hs : (Lit.int .i64 s).wf = true) :
    Calls Try.prog 20 #[.pointer (some ⟨p, 0, none⟩), .int .i64 s] w fun e w' => e = .returned (.int .i64 (dropE M s)) ∧ TAt w' p m (mdel M s) room ∧ Kp (· = m) w w' := by
  have HG := hid (get_any h o s hs)
  have HN := hid (fun (w1 : World) (h1 : TAt w1 p m M room) => none_any h1 o.n1)
  have H0 := hid h
  have hpm := hid h.ne
  obtain ⟨i, g, hig⟩ : ∃ i g, (mget M s).getD (hV 0 0) = .agg #[.int .i64 i, .int .u64 g] := ⟨_, _, row_el o s⟩
  rw [hig] at HG
  have HO := hid o
  clear h hig
  unfold dropE
  by_cases hq : (mget M s).isSome = true
  · rw [if_pos hq]
    rw [hq] at HG
    replace hq := hid hq
    go_enter Try.func20, Try.ntmps20
    go_wp2_with fail
    refine HG.out.mono ?_
    rintro e w1 ⟨rfl, k1⟩
    have T1 := hid ((H0.out.kp k1 (fun h => h) (fun h => h)).alloc (.cells #[.int .i64 i, .int .u64 g] 25))
    have K1 := hid (k1.alloc (.cells #[.int .i64 i, .int .u64 g] 25))
    have HN1 := hid (HN.out _ T1.out)
    have Lp := loc2 T1.out.hp
    obtain ⟨w2, hr, hm2, k2⟩ := T1.out.hm.del HO.out.k k22 k64 s hs (P := Try.prog) 0
    replace hm2 := hid hm2
    have K2 := hid k2
    clear k1 k2
    replace hr := hid hr
    go_wp2_with fail
    refine HN1.out.mono ?_
    rintro e w3 ⟨rfl, rfl⟩
    go_wp2_with fail
    rw [hr.out]
    go_wp2_with fail
    go_ret
    exact ⟨rfl, ⟨K2.out.get T1.out.hp (fun h => hpm.out h), hm2.out⟩, (K1.out.mono (fun _ h => h.elim)).trans K2.out⟩
  · rw [if_neg hq]
    have hq' : (mget M s).isSome = false := by simpa using hq
    rw [hq'] at HG
    have hn : mget M s = none := by simpa using hq
    rw [del_none hn]
    clear hq hq' hn
    go_enter Try.func20, Try.ntmps20
    go_wp2_with fail
    refine HG.out.mono ?_
    rintro e w1 ⟨rfl, k1⟩
    have T1 := hid ((H0.out.kp k1 (fun h => h) (fun h => h)).alloc (.cells #[.int .i64 i, .int .u64 g] 25))
    have K1 := hid (k1.alloc (.cells #[.int .i64 i, .int .u64 g] 25))
    have HN1 := hid (HN.out _ T1.out)
    clear k1
    go_wp2_with fail
    refine HN1.out.mono ?_
    rintro e w3 ⟨rfl, rfl⟩
    go_wp2_with fail
    go_ret
    exact ⟨rfl, T1.out, K1.out.mono (fun _ h => h.elim)⟩
end
end Go.Proofs.Ytbgojgnbbkgkgaa
