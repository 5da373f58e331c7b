/- Walk: the next serial. -/
import Derived.Test.YtbgojgnbbkgkgaaS2
import Derived.ScopeJumps
import Derived.WalkMore
namespace Go.Proofs.Ytbgojgnbbkgkgaa
set_option linter.unusedSimpArgs false
set_option linter.unusedVariables false
open Go.RowKit
attribute [local go_sem ↓] Go.wp_at_zero Go.wp_at_succ

theorem look_some {w : World} {p m room : Nat} {M : List (Int × Value)} (T : TAt w p m M room) (o : TOk M room) (s : Int) (hs : (Lit.int .i64 s).wf = true) (h : (mget M s).isSome = true) :
    ∃ i g, (Instr.lookup 64 (.map (some m)) (.int .i64 s) true).run Try.prog w = .ok (.tuple #[.agg #[.int .i64 i, .int .u64 g], .bool true]) w := by
  obtain ⟨v, hv⟩ := Option.isSome_iff_exists.1 h
  obtain ⟨i, g, he⟩ := o.el _ (mget_mem hv)
  refine ⟨i, g, ?_⟩
  have := T.hm.look o.k k22 k64 (zero25 w) s hs true
  rw [hv] at this
  simp only at he
  rw [he] at this
  exact this
theorem look_none {w : World} {p m room : Nat} {M : List (Int × Value)} (T : TAt w p m M room) (o : TOk M room) (s : Int) (hs : (Lit.int .i64 s).wf = true) (h : mget M s = none) :
    (Instr.lookup 64 (.map (some m)) (.int .i64 s) true).run Try.prog w = .ok (.tuple #[.agg #[.int .i64 0, .int .u64 0], .bool false]) w := by
  have := T.hm.look o.k k22 k64 (zero25 w) s hs true
  rw [h] at this
  exact this

set_option maxRecDepth 100000 in
set_option maxHeartbeats 4000000 in
theorem next_any {w : World} {p m room : Nat} {M : List (Int × Value)} (h : TAt w p m M room) (o : TOk M room) (draw : Int) (h0 : 0 ≤ draw) (h1 : draw < 18446744073709551616) :
    Calls Try.prog 14 #[.pointer (some ⟨p, 0, none⟩), .int .u64 draw] w fun e w' => ∃ d, IsNext M (1 + draw % 1073741824) d ∧ e = .returned (.tuple #[.int .i64 (it d (1 + draw % 1073741824)), .int .i64 0]) ∧ Kp NoB w w' := by
  have HN := hid (none_any h o.n1)
  obtain ⟨d, hd⟩ := next_is (M := M) (by have := o.le; have := o.n2; omega) (1 + draw % 1073741824)
  have HD : Hid (IsNext M (1 + draw % 1073741824) d) := hd
  have hdl : d ≤ 64 := by have := hd.1; have := o.le; have := o.n2; omega
  have er : draw.tmod 1073741824 = draw % 1073741824 := Int.tmod_eq_emod_of_nonneg h0
  have r0 : 0 ≤ draw % 1073741824 := by omega
  have r1 : draw % 1073741824 < 1073741824 := by omega
  clear hd
  have H := hid h
  clear h
  obtain ⟨s0, hs0⟩ : ∃ s0, s0 = 1 + draw % 1073741824 := ⟨_, rfl⟩
  have b1 : 1 ≤ s0 := by omega
  have b2 : s0 ≤ 1073741824 := by omega
  rw [← hs0] at HD ⊢
  replace hs0 := hid hs0
  have wfs : ∀ s : Int, 1 ≤ s → s ≤ 1073741824 → (Lit.int .i64 s).wf = true := fun s h1 h2 => WalkArith.wf_i64 (by omega)
  go_enter Try.func14, Try.ntmps14
  go_wp2_with fail
  refine wp_scope_jumps 0 (fun a' w' => Kp NoB w w' ∧ ∃ (i : Nat) (u7 u8 u9 u10 u11 u12 u13 u14 u15 u16 u17 u18 u19 u20 u21 u22 u23 u24 u25 u26 u27 u28 u29 : Value), i ≤ d ∧ a' = { tmps := #[.pointer (some ⟨p, 0, none⟩), .int .u64 draw, undef, undef, .int .i64 0, .int .i64 0, .int .i64 (it i s0), u7, u8, u9, u10, u11, u12, u13, u14, u15, u16, u17, u18, u19, u20, u21, u22, u23, u24, u25, u26, u27, u28, u29], defers := [] })
    (fun a' _ => d - ((intOf (a'.tmps.getD 6 undef) - s0) % 1073741824).toNat) rfl ?_ ?_
  · go_wp2_with fail
    refine HN.out.mono ?_
    rintro e w' ⟨rfl, rfl⟩
    go_wp2_with fail
    rw [← hs0.out]
    clear er r0 r1
    have es : s0.tmod 1073741824 = s0 % 1073741824 := Int.tmod_eq_emod_of_nonneg (by omega)
    have L0 := loc2 H.out.hp
    have up := ups L0.2.2.2.2
    by_cases hd0 : d = 0
    · have hl := look_none H.out o s0 (wfs _ b1 b2) (by have := HD.out.2.1; rw [hd0, it_zero b1 b2] at this; exact this)
      go_step3
      go_wp2_with fail
      simp only [Exit.jump]
      go_ret2
      exact ⟨d, HD.out, by rw [hd0, it_zero b1 b2]; rfl, (Kp.refl _ w).alloc _⟩
    · obtain ⟨i, g, hl⟩ := look_some H.out o s0 (wfs _ b1 b2) (by have := HD.out.2.2 0 (by omega); rw [it_zero b1 b2] at this; exact this)
      go_step3
      go_wp2_with fail
      go_step3
      have e1 : it 1 s0 = s0 % 1073741824 + 1 := by rw [it_succ, it_zero b1 b2]
      exact ⟨rfl, (Kp.refl _ w).alloc _, 1, _, _, _, _, _, _, _, _, _, _, _, _, _, _, _, _, _, _, _, _, _, _, _, by omega, by rw [e1]⟩
  · rintro a' w' ⟨hK, i, u7, u8, u9, u10, u11, u12, u13, u14, u15, u16, u17, u18, u19, u20, u21, u22, u23, u24, u25, u26, u27, u28, u29, hi, rfl⟩
    clear er r0 r1
    have T := H.out.kp hK (fun h => h) (fun h => h)
    have L0 := loc2 T.hp
    have up := ups L0.2.2.2.2
    obtain ⟨b3, b4⟩ := it_range i s0
    obtain ⟨sv, hsv⟩ : ∃ sv, sv = it i s0 := ⟨_, rfl⟩
    rw [← hsv] at b3 b4 ⊢
    have es : sv.tmod 1073741824 = sv % 1073741824 := Int.tmod_eq_emod_of_nonneg (by omega)
    by_cases hd0 : i = d
    · have hl := look_none T o sv (wfs _ b3 b4) (by rw [hsv, hd0]; exact HD.out.2.1)
      replace hsv := hid hsv
      go_wp2_with fail
      simp only [Exit.jump]
      go_ret2
      exact ⟨d, HD.out, by rw [← hd0, ← hsv.out]; rfl, hK.alloc _⟩
    · obtain ⟨ii, g, hl⟩ := look_some T o sv (wfs _ b3 b4) (by rw [hsv]; exact HD.out.2.2 i (by omega))
      replace hsv := hid hsv
      go_wp2_with fail
      go_step3
      have e1 : it (i + 1) s0 = sv % 1073741824 + 1 := by rw [it_succ, ← hsv.out]
      refine ⟨rfl, ⟨hK.alloc _, i + 1, _, _, _, _, _, _, _, _, _, _, _, _, _, _, _, _, _, _, _, _, _, _, _, by omega, by rw [e1]⟩, ?_⟩
      have m1 : (it i s0 - s0) % 1073741824 = i := by unfold it; omega
      have m2 : (it (i + 1) s0 - s0) % 1073741824 = i + 1 := by unfold it; omega
      rw [hsv.out] at e1 ⊢
      show d - ((it i s0 % 1073741824 + 1 - s0) % 1073741824).toNat < d - ((it i s0 - s0) % 1073741824).toNat
      rw [← e1, m1, m2]
      omega
end Go.Proofs.Ytbgojgnbbkgkgaa
