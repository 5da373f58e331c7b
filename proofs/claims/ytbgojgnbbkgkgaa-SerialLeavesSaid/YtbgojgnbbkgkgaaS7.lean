/- The next serial: the law's walk, at any draws. -/
import Derived.Test.YtbgojgnbbkgkgaaS4
import Derived.Test.YtbgojgnbbkgkgaaS6
namespace Go.Proofs.Ytbgojgnbbkgkgaa
set_option linter.unusedSimpArgs false
set_option linter.unusedVariables false
open Go.RowKit
attribute [local go_sem ↓] Go.wp_at_zero Go.wp_at_succ

/-- a row of draws that came in: below B -/
structure DrawsAt (w : World) (B : Nat) (x : Option Addr) (len : Nat) (D : List Int) : Prop where
  ln : D.length = len
  mx : len ≤ 9223372036854775807
  wf : ∀ z ∈ D, 0 ≤ z ∧ z < 18446744073709551616
  at_ : ∀ i z, D[i]? = some z → ∃ y : Addr, x = some y ∧ y.block < B ∧ w.cell? (y.add i) = some (.int .u64 z)
theorem DrawsAt.kp {w w' : World} {B : Nat} {x : Option Addr} {len : Nat} {D : List Int} {F : Nat → Prop} (h : DrawsAt w B x len D) (k : Kp F w w') (hB : B ≤ w.heap.size) (hF : ∀ q, F q → B ≤ q) : DrawsAt w' B x len D := by
  refine ⟨h.ln, h.mx, h.wf, fun i z hz => ?_⟩
  obtain ⟨y, hx, hy, h0⟩ := h.at_ i z hz
  refine ⟨y, hx, hy, ?_⟩
  have hb : w'.heap[(y.add i).block]? = w.heap[(y.add i).block]? := by rw [add_blk]; exact k.blk _ (by omega) (fun f => by have := hF _ f; omega)
  exact (cell_blk hb).trans h0
theorem len_any {w : World} {p m room : Nat} {M : List (Int × Value)} (h : TAt w p m M room) (o : TOk M room) : Calls Try.prog 16 #[.pointer (some ⟨p, 0, none⟩)] w fun e w' => e = .returned (.int .i64 M.length) ∧ w = w' := by
  have HN := hid (none_any h o.n1)
  have hl := h.hm.len k64 3 (by have := o.le; have := o.n2; omega)
  have Lp := loc2 h.hp
  clear h
  go_enter Try.func16, Try.ntmps16
  go_wp2_with fail
  refine HN.out.mono ?_
  rintro e w' ⟨rfl, rfl⟩
  go_wp2_with fail
  go_ret
  exact ⟨rfl, rfl⟩
theorem next_put {M : List (Int × Value)} {s0 : Int} {d : Nat} (hd : IsNext M s0 d) (hl : M.length < 64) (i : Int) : putE M 64 (it d s0) 1 = 0 ∧ (putM M 64 (it d s0) i 1).length = M.length + 1 := by
  have hr := it_range d s0
  have e : putE M 64 (it d s0) 1 = 0 := by
    unfold putE
    rw [if_neg (by omega), if_neg (by rw [hd.2.1]; simp), if_neg (by omega)]
  refine ⟨e, ?_⟩
  unfold putM
  rw [e, if_pos rfl, mput_len, if_neg (by rw [hd.2.1]; simp)]

theorem getD_el {M : List (Int × Value)} {room : Nat} (o : TOk M room) (s : Int) : ∃ j k, (mget M s).getD (hV 0 0) = .agg #[.int .i64 j, .int .u64 k] := by
  rcases hm : mget M s with _ | v
  · exact ⟨0, 0, rfl⟩
  · obtain ⟨i, g, hv⟩ := o.el _ (mget_mem hm); exact ⟨i, g, hv⟩
set_option maxRecDepth 100000 in
set_option maxHeartbeats 8000000 in
theorem next_law (w : World) (x : Option Addr) (len cap : Nat) (D : List Int) (draw : Int) (h0 : 0 ≤ draw) (h1 : draw < 18446744073709551616) (hD : DrawsAt w w.heap.size x len D) :
    Calls Try.prog 4 #[.slice x len cap, .int .u64 draw] w fun e w' => e = .returned (.bool true) ∧ Kp NoB w w' := by
  have HK := hid known_any
  by_cases hl : len > 60
  · have hl' : (60 : Int) < (len : Int) := by omega
    go_enter Try.func4, Try.ntmps4
    go_wp2_with fail
    refine (HK.out _).mono ?_
    rintro e w1 ⟨rfl, k1⟩
    go_wp2_with fail
    go_ret
    exact ⟨rfl, k1⟩
  · have hl' : ¬ (60 : Int) < (len : Int) := by omega
    have N := hid (new_any 64 (by decide) (by decide) w)
    have o0 := tok_nil (n := 64) (by decide) (by decide)
    go_enter Try.func4, Try.ntmps4
    go_wp2_with fail
    refine N.out.mono ?_
    rintro e w1 ⟨rfl, T1, k1⟩
    go_wp2_with fail
    go_loopw [7] (fun i W => ∃ (j : Nat) (M : List (Int × Value)), j ≤ len ∧ i = .int .i64 j ∧ M.length = j ∧ TAt W (w.heap.size + 1) w.heap.size M 64 ∧ TOk M 64 ∧ Kp NoB w W) (fun i _ => len - (intOf i).toNat)
    case atStart => exact ⟨0, [], Nat.zero_le _, rfl, rfl, T1, o0, k1⟩
    case round =>
      obtain ⟨j, M, hj, rfl, hM, hT, ho, hK⟩ := hrel
      by_cases hlt : j < len
      · have hd := hD.kp hK (Nat.le_refl _) (fun _ h => h.elim)
        obtain ⟨z, hz⟩ : ∃ z, D[j]? = some z := ⟨_, List.getElem?_eq_getElem (by rw [hD.ln]; exact hlt)⟩
        obtain ⟨y, rfl, hy, c0⟩ := hd.at_ j z hz
        obtain ⟨z0, z1⟩ := hD.wf z (List.mem_of_getElem? hz)
        have b1 : (0 : Int) ≤ (j : Int) := Int.natCast_nonneg _
        have b2 : (j : Int) < (len : Int) := by omega
        replace hM := hid hM
        go_wp2_with fail
        refine (next_any hT ho z z0 z1).mono ?_
        rintro e w2 ⟨d, hn, rfl, k2⟩
        have T2 := hT.kp k2 (fun h => h) (fun h => h)
        obtain ⟨p1, p2⟩ := next_put hn (by rw [hM.out]; omega) j
        have hr := it_range d (1 + z % 1073741824)
        have ws : (Lit.int .i64 (it d (1 + z % 1073741824))).wf = true := WalkArith.wf_i64 (by omega)
        have o2 := ho.put (it d (1 + z % 1073741824)) j 1 ws
        have P := fun (w3 : World) (T3 : TAt w3 (w.heap.size + 1) w.heap.size M 64) => put_any T3 ho (it d (1 + z % 1073741824)) j 1 ws
        generalize it d (1 + z % 1073741824) = s at *
        replace p1 := hid p1
        replace p2 := hid p2
        replace P := hid P
        clear hn ws hz
        go_wp2_with fail
        refine (one_any j _).mono ?_
        rintro e w3 ⟨rfl, k3⟩
        have T3 := T2.kp k3 (fun h => h) (fun h => h)
        go_wp2_with fail
        refine (P.out _ T3).mono ?_
        rintro e w4 ⟨rfl, T4, k4⟩
        rw [p1.out]
        go_wp2_with fail
        go_roundw
        case rel => exact ⟨j + 1, _, by omega, by go_num, by rw [p2.out, hM.out], T4, o2, ((hK.trans k2).trans k3).trans' k4 (fun q hq hf => by omega)⟩
        case measure => simp [intOf]; omega
      · go_wp2_with fail
        have hjl : j = len := by omega
        have er : draw.tmod 1073741824 = draw % 1073741824 := Int.tmod_eq_emod_of_nonneg h0
        have r0 : 0 ≤ draw % 1073741824 := by omega
        have r1 : draw % 1073741824 < 1073741824 := by omega
        replace hM := hid (hM.trans hjl)
        clear hjl
        refine (next_any hT ho draw h0 h1).mono ?_
        rintro e w2 ⟨d, hn, rfl, k2⟩
        have T2 := hT.kp k2 (fun h => h) (fun h => h)
        have K2 := hK.trans k2
        obtain ⟨s0, hs0⟩ : ∃ s0, s0 = 1 + draw % 1073741824 := ⟨_, rfl⟩
        rw [← hs0] at hn ⊢
        have b1 : 1 ≤ s0 := by omega
        have b2 : s0 ≤ 1073741824 := by omega
        have hs0' := hid (show draw % 1073741824 + 1 = s0 by omega)
        obtain ⟨p1, _⟩ := next_put hn (by rw [hM.out]; omega) 99
        have hdl : d ≤ len := by have := hn.1; rw [hM.out] at this; exact this
        have hdi : (d : Int) ≤ (len : Int) := by omega
        obtain ⟨r2, r3⟩ := it_range d s0
        have ws : (Lit.int .i64 (it d s0)).wf = true := WalkArith.wf_i64 (by omega)
        have HG := hid (show (mget M (it d s0)).getD (hV 0 0) = .agg #[.int .i64 0, .int .u64 0] ∧ (mget M (it d s0)).isSome = false from by rw [hn.2.1]; exact ⟨rfl, rfl⟩)
        have G2 := hid (get_any T2 ho (it d s0) ws)
        have PP := hid (fun (w3 : World) (T3 : TAt w3 (w.heap.size + 1) w.heap.size M 64) => put_any T3 ho (it d s0) 99 1 ws)
        have hmay := hid (show (decide (1 ≤ it d s0) && decide (it d s0 ≤ 1073741824)) = true from by simp; omega)
        have HN := hid hn
        obtain ⟨sv, hsv⟩ : ∃ sv, sv = it d s0 := ⟨_, rfl⟩
        rw [← hsv] at PP G2 HG hmay p1 r2 r3 ⊢
        replace hsv := hid hsv
        replace p1 := hid p1
        clear hn ws hs0
        go_wp2_with fail
        refine G2.out.mono ?_
        rintro e w3 ⟨rfl, k3⟩
        rw [HG.out.1, HG.out.2]
        have T3 := (T2.kp k3 (fun h => h) (fun h => h)).alloc (.cells #[.int .i64 0, .int .u64 0] 25)
        have K3 := (K2.trans k3).alloc (.cells #[.int .i64 0, .int .u64 0] 25)
        go_wp2_with fail
        refine (may_any sv _).mono ?_
        rintro e w' ⟨rfl, rfl⟩
        rw [hmay.out]
        go_wp2_with fail
        refine (len_any T3 ho).mono ?_
        rintro e w' ⟨rfl, rfl⟩
        rw [hM.out]
        go_wp2_with fail
        rw [hs0'.out]
        go_loopw [14, 15] (fun a i W => ∃ t : Nat, t ≤ d ∧ a = .int .i64 (it t s0) ∧ i = .int .i64 t ∧ TAt W (w.heap.size + 1) w.heap.size M 64 ∧ Kp NoB w W) (fun _ i _ => d - (intOf i).toNat)
        case atStart => exact ⟨0, Nat.zero_le _, by rw [it_zero b1 b2], rfl, T3, K3⟩
        case round =>
          obtain ⟨t, ht, rfl, rfl, hT', hK'⟩ := hrel
          have t1 : (t : Int) ≤ (len : Int) := by omega
          have t0 : (0 : Int) ≤ (t : Int) := Int.natCast_nonneg _
          obtain ⟨a1, a2⟩ := it_range t s0
          have wa : (Lit.int .i64 (it t s0)).wf = true := WalkArith.wf_i64 (by omega)
          by_cases htd : t = d
          · have ea := hid (show it t s0 = sv from by rw [htd, hsv.out])
            rw [ea.out]
            clear a1 a2 wa
            go_wp2_with fail
            refine (one_any 99 _).mono ?_
            rintro e w5 ⟨rfl, k5⟩
            go_wp2_with fail
            refine (PP.out _ (hT'.kp k5 (fun h => h) (fun h => h))).mono ?_
            rintro e w6 ⟨rfl, T6, k6⟩
            rw [p1.out]
            go_wp2_with fail
            refine (HK.out _).mono ?_
            rintro e w7 ⟨rfl, k7⟩
            go_wp2_with fail
            go_ret
            exact ⟨rfl, ((hK'.trans k5).trans' k6 (fun q hq hf => by omega)).trans k7⟩
          · have hne : it t s0 ≠ sv := by
              rw [hsv.out]
              intro he
              exact htd (it_inj (by omega) (by omega) he)
            have hne' : (it t s0 != sv) = true := by simpa using hne
            have hs := hid (HN.out.2.2 t (by omega))
            obtain ⟨jj, kk, hgd⟩ := getD_el ho (it t s0)
            replace hgd := hid hgd
            have G3 := hid (get_any hT' ho (it t s0) wa)
            have e1 := hid (it_succ t s0)
            have em : (it t s0).tmod 1073741824 = it t s0 % 1073741824 := Int.tmod_eq_emod_of_nonneg (by omega)
            clear wa hne
            generalize it t s0 = at_ at *
            go_wp2_with fail
            refine G3.out.mono ?_
            rintro e w5 ⟨rfl, k5⟩
            rw [hs.out, hgd.out]
            go_wp2_with fail
            go_roundw
            case rel => exact ⟨t + 1, by omega, by rw [e1.out], by go_num, (hT'.kp k5 (fun h => h) (fun h => h)).alloc _, (hK'.trans k5).alloc _⟩
            case measure => simp [intOf]; omega
end Go.Proofs.Ytbgojgnbbkgkgaa
