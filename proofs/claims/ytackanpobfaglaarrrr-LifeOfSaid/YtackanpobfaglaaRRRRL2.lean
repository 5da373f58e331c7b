/- Walks through timers: the search for a place. -/
import Derived.Test.YtackanpobfaglaaRRRRL1
namespace Go.Proofs.YtackanpobfaglaaRRRR
set_option linter.unusedSimpArgs false
set_option linter.unusedVariables false
open Go.RowKit
attribute [local go_sem ↓] Go.wp_at_zero Go.wp_at_succ
section
variable {w w' : World} {p : Nat} {v : Value} {l : List (Int × Int)}
/-- the search's rounds -/
def bsF (l : List (Int × Int)) (x : Int × Int) : Nat → Nat → Nat → Nat
  | 0, i, _ => i
  | f + 1, i, j => if i < j then (if aheadV (l.getD ((i + j) / 2) (0, 0)) x < 0 then bsF l x f ((i + j) / 2 + 1) j else bsF l x f i ((i + j) / 2)) else i
def bsV (l : List (Int × Int)) (x : Int × Int) : Nat := bsF l x l.length 0 l.length
theorem half_idx {i j : Nat} (h : i + j ≤ 100000) : IntKind.i64.wrap ((IntKind.u64.wrap ((i : Int) + j)) / 2) = ((i + j) / 2 : Nat) := by
  have h1 : IntKind.u64.wrap ((i : Int) + j) = (i : Int) + j := by simp [IntKind.wrap, IntKind.bits, IntKind.signed]; omega
  rw [h1, wi_in (by omega)]; omega
theorem cf17 : ∀ args w, (callFunc 17 args).run Try.prog w = .ok (.enter 17 args) w := fun _ _ => rfl
set_option maxRecDepth 100000 in
set_option maxHeartbeats 4000000 in
theorem bsearch_any (hv : RowAt w 58 eT 2 v l) (n2 : l.length ≤ 4096) (x y : Int) :
    Calls Try.prog 16 #[v, .agg #[.int .u64 x, .int .i64 y], .func (.func 17) #[] #[]] w fun e w' => ∃ bb : Bool, e = .returned (.tuple #[.int .i64 (bsV l (x, y)), .bool bb]) ∧ Kp NoB w w' := by
  have cf := cf17
  obtain ⟨ov, cv, hvv, _⟩ := hv.form
  subst hvv
  have hx0 := blk_new w (.cells #[.int .u64 x, .int .i64 y] 58)
  replace hx0 := hid hx0
  go_enter Try.func16, Try.ntmps16
  go_wp2_with fail
  go_loopw [9, 10, 11] (fun a b _ W => ∃ (f i j : Nat), i ≤ j ∧ j ≤ l.length ∧ a = .int .i64 i ∧ b = .int .i64 j ∧ Hid (bsF l (x, y) f i j = bsV l (x, y)) ∧ j - i ≤ f ∧ Kp NoB (w.alloc (.cells #[.int .u64 x, .int .i64 y] 58)) W) (fun a b _ _ => (intOf b).toNat - (intOf a).toNat)
  case atStart => exact ⟨l.length, 0, l.length, Nat.zero_le _, Nat.le_refl _, rfl, rfl, hid rfl, by omega, Kp.refl _ _⟩
  case round =>
    obtain ⟨f, i, j, hij, hj, rfl, rfl, hB, hf, hK⟩ := hrel
    have hX := hK.get hx0.out (fun h => h)
    have LX := loc2 hX
    have hvW := (hv.alloc (.cells #[.int .u64 x, .int .i64 y] 58)).kp hK (fun _ _ h => h)
    by_cases hlt : i < j
    · obtain ⟨f, rfl⟩ : ∃ f', f = f' + 1 := ⟨f - 1, by omega⟩
      have hhl : (i + j) / 2 < l.length := by omega
      have hh1 : i ≤ (i + j) / 2 ∧ (i + j) / 2 < j := by omega
      have hwr := half_idx (i := i) (j := j) (by omega)
      have hKf := hid hK
      generalize hh : (i + j) / 2 = h at *
      obtain ⟨⟨x1, y1⟩, hk⟩ : ∃ s, l[h]? = some s := ⟨_, List.getElem?_eq_getElem hhl⟩
      have hgd : l.getD h (0, 0) = (x1, y1) := by rw [List.getD_eq_getElem?_getD, hk]; rfl
      obtain ⟨b, c', hv', hcc, hcell⟩ := row_cells hvW hk
      injection hv' with hv1 _ hv3
      subst hv1; subst hv3
      have Le := hcell wr (Kp.refl _ _)
      have HA := hid (fun (W : World) => ahead_any x1 y1 x y W)
      have b1 : (0 : Int) ≤ (i : Int) := Int.natCast_nonneg _
      have b2 : (i : Int) < (j : Int) := by omega
      have b3 : (0 : Int) ≤ (h : Int) := Int.natCast_nonneg _
      have b4 : (h : Int) < (l.length : Int) := by omega
      have hwi : IntKind.i64.wrap ((i : Int) + j) = (i : Int) + j := wi_in (by omega)
      replace hv := hid hv
      replace hvW := hid hvW
      replace hk := hid hk
      replace hgd := hid hgd
      replace hX := hid hX
      have hi2 : ((i : Int) + (j : Int)) / 2 = (h : Int) := by omega
      replace hh := hid hh
      replace hcell := hid hcell
      have hB' := hB.out
      rw [bsF, if_pos hlt, hh.out, hgd.out] at hB'
      replace hB' := hid hB'
      by_cases hc : aheadV (x1, y1) (x, y) < 0
      · have hB2 := hB'.out
        rw [if_pos hc] at hB2
        replace hB2 := hid hB2
        generalize haa : aheadV (x1, y1) (x, y) = aa at *
        replace haa := hid haa
        clear hB hB'
        go_wp2_with fail
        refine wp_region_G (fun _ => True) [(0, .at_), (1, .at_), (2, .at_), (3, .at_), (4, .at_), (5, .at_), (6, .eff), (7, .at_)] ?L1 (by kernel_rfl) (by kernel_rfl) ?hL1 (trivial) ?hG1
        case hL1 => simp only [pickOps, List.map_cons, List.map_nil, List.getD_cons_zero, List.getD_cons_succ]; rfl
        repeat (first | (refine wpG_at (v := ?_) (by rfl) ?_ ?_; rotate_left; (focus (first | (go_simp; with_reducible rfl) | (go_simp; done))); simp only [Act.put, List.setIfInBounds_toArray, List.set_cons_zero, List.set_cons_succ]) | (refine wpG_at_skip (by rfl) ?_; simp only [Act.put, List.setIfInBounds_toArray, List.set_cons_zero, List.set_cons_succ]) | (refine wpG_held_skip (by rfl) ?_; simp only [Act.put, List.setIfInBounds_toArray, List.set_cons_zero, List.set_cons_succ]) | (refine wpG_held (v := ?_) (by rfl) ?_ ?_; rotate_left; (focus (intro w' hSw; (try dsimp only at hSw); go_split_ands; first | (go_simp; with_reducible rfl) | (go_simp; done))); simp only [Act.put, List.setIfInBounds_toArray, List.set_cons_zero, List.set_cons_succ]))
        refine wpG_eff (by rfl) (fun K hK => ?_)
        go_simp
        refine (HA.out _).mono ?_
        rintro e w1 ⟨rfl, k1⟩
        refine hK _ _ trivial ?_
        clear hK K
        repeat (first | (refine wpG_at (v := ?_) (by rfl) ?_ ?_; rotate_left; (focus (first | (go_simp; with_reducible rfl) | (go_simp; done))); simp only [Act.put, List.setIfInBounds_toArray, List.set_cons_zero, List.set_cons_succ]) | (refine wpG_at_skip (by rfl) ?_; simp only [Act.put, List.setIfInBounds_toArray, List.set_cons_zero, List.set_cons_succ]) | (refine wpG_held_skip (by rfl) ?_; simp only [Act.put, List.setIfInBounds_toArray, List.set_cons_zero, List.set_cons_succ]) | (refine wpG_held (v := ?_) (by rfl) ?_ ?_; rotate_left; (focus (intro w' hSw; (try dsimp only at hSw); go_split_ands; first | (go_simp; with_reducible rfl) | (go_simp; done))); simp only [Act.put, List.setIfInBounds_toArray, List.set_cons_zero, List.set_cons_succ]))
        refine wpG_nil (NoPanic.normal ?_)
        go_wp2_with fail
        go_roundw
        case rel => exact ⟨f, h + 1, j, by omega, hj, by go_num, rfl, hB2, by omega, hKf.out.drew.trans k1⟩
        case measure => simp [intOf]; omega
      · have hB2 := hB'.out
        rw [if_neg hc] at hB2
        replace hB2 := hid hB2
        generalize haa : aheadV (x1, y1) (x, y) = aa at *
        replace haa := hid haa
        clear hB hB'
        go_wp2_with fail
        refine wp_region_G (fun _ => True) [(0, .at_), (1, .at_), (2, .at_), (3, .at_), (4, .at_), (5, .at_), (6, .eff), (7, .at_)] ?L2 (by kernel_rfl) (by kernel_rfl) ?hL2 (trivial) ?hG2
        case hL2 => simp only [pickOps, List.map_cons, List.map_nil, List.getD_cons_zero, List.getD_cons_succ]; rfl
        repeat (first | (refine wpG_at (v := ?_) (by rfl) ?_ ?_; rotate_left; (focus (first | (go_simp; with_reducible rfl) | (go_simp; done))); simp only [Act.put, List.setIfInBounds_toArray, List.set_cons_zero, List.set_cons_succ]) | (refine wpG_at_skip (by rfl) ?_; simp only [Act.put, List.setIfInBounds_toArray, List.set_cons_zero, List.set_cons_succ]) | (refine wpG_held_skip (by rfl) ?_; simp only [Act.put, List.setIfInBounds_toArray, List.set_cons_zero, List.set_cons_succ]) | (refine wpG_held (v := ?_) (by rfl) ?_ ?_; rotate_left; (focus (intro w' hSw; (try dsimp only at hSw); go_split_ands; first | (go_simp; with_reducible rfl) | (go_simp; done))); simp only [Act.put, List.setIfInBounds_toArray, List.set_cons_zero, List.set_cons_succ]))
        refine wpG_eff (by rfl) (fun K hK => ?_)
        go_simp
        refine (HA.out _).mono ?_
        rintro e w1 ⟨rfl, k1⟩
        refine hK _ _ trivial ?_
        clear hK K
        repeat (first | (refine wpG_at (v := ?_) (by rfl) ?_ ?_; rotate_left; (focus (first | (go_simp; with_reducible rfl) | (go_simp; done))); simp only [Act.put, List.setIfInBounds_toArray, List.set_cons_zero, List.set_cons_succ]) | (refine wpG_at_skip (by rfl) ?_; simp only [Act.put, List.setIfInBounds_toArray, List.set_cons_zero, List.set_cons_succ]) | (refine wpG_held_skip (by rfl) ?_; simp only [Act.put, List.setIfInBounds_toArray, List.set_cons_zero, List.set_cons_succ]) | (refine wpG_held (v := ?_) (by rfl) ?_ ?_; rotate_left; (focus (intro w' hSw; (try dsimp only at hSw); go_split_ands; first | (go_simp; with_reducible rfl) | (go_simp; done))); simp only [Act.put, List.setIfInBounds_toArray, List.set_cons_zero, List.set_cons_succ]))
        refine wpG_nil (NoPanic.normal ?_)
        go_wp2_with fail
        go_roundw
        case rel => exact ⟨f, i, h, by omega, by omega, rfl, rfl, hB2, by omega, hKf.out.drew.trans k1⟩
        case measure => simp [intOf]; omega
    · have b2 : ¬ (i : Int) < (j : Int) := by omega
      obtain rfl : i = j := by omega
      have hBi : bsV l (x, y) = i := by
        have := hB.out
        cases f with
        | zero => rw [bsF] at this; exact this.symm
        | succ f => rw [bsF, if_neg (by omega)] at this; exact this.symm
      replace hBi := hid hBi
      have hKf := hid hK
      by_cases hil : i < l.length
      · obtain ⟨⟨x1, y1⟩, hk⟩ : ∃ s, l[i]? = some s := ⟨_, List.getElem?_eq_getElem hil⟩
        obtain ⟨b, c', hv', hcc, hcell⟩ := row_cells hvW hk
        injection hv' with hv1 _ hv3
        subst hv1; subst hv3
        have Le := hcell wr (Kp.refl _ _)
        have HA := hid (fun (W : World) => ahead_any x1 y1 x y W)
        have b3 : (0 : Int) ≤ (i : Int) := Int.natCast_nonneg _
        have b4 : (i : Int) < (l.length : Int) := by omega
        replace hv := hid hv
        replace hvW := hid hvW
        replace hk := hid hk
        replace hcell := hid hcell
        clear hB
        go_wp2_with fail
        refine wp_region_G (fun _ => True) [(0, .held), (1, .at_), (2, .at_), (3, .at_), (4, .at_), (5, .at_), (6, .at_), (7, .at_), (8, .at_), (9, .at_), (10, .at_), (11, .eff), (12, .at_), (13, .at_), (14, .at_), (15, .at_)] ?L3 (by kernel_rfl) (by kernel_rfl) ?hL3 (trivial) ?hG3
        case hL3 => simp only [pickOps, List.map_cons, List.map_nil, List.getD_cons_zero, List.getD_cons_succ]; rfl
        repeat (first | (refine wpG_at (v := ?_) (by rfl) ?_ ?_; rotate_left; (focus (first | (go_simp; with_reducible rfl) | (go_simp; done))); simp only [Act.put, List.setIfInBounds_toArray, List.set_cons_zero, List.set_cons_succ]) | (refine wpG_at_skip (by rfl) ?_; simp only [Act.put, List.setIfInBounds_toArray, List.set_cons_zero, List.set_cons_succ]) | (refine wpG_held_skip (by rfl) ?_; simp only [Act.put, List.setIfInBounds_toArray, List.set_cons_zero, List.set_cons_succ]) | (refine wpG_held (v := ?_) (by rfl) ?_ ?_; rotate_left; (focus (intro w' hSw; (try dsimp only at hSw); go_split_ands; first | (go_simp; with_reducible rfl) | (go_simp; done))); simp only [Act.put, List.setIfInBounds_toArray, List.set_cons_zero, List.set_cons_succ]))
        refine wpG_eff (by rfl) (fun K hK => ?_)
        go_simp
        refine (HA.out _).mono ?_
        rintro e w1 ⟨rfl, k1⟩
        refine hK _ _ trivial ?_
        clear hK K
        repeat (first | (refine wpG_at (v := ?_) (by rfl) ?_ ?_; rotate_left; (focus (first | (go_simp; with_reducible rfl) | (go_simp; done))); simp only [Act.put, List.setIfInBounds_toArray, List.set_cons_zero, List.set_cons_succ]) | (refine wpG_at_skip (by rfl) ?_; simp only [Act.put, List.setIfInBounds_toArray, List.set_cons_zero, List.set_cons_succ]) | (refine wpG_held_skip (by rfl) ?_; simp only [Act.put, List.setIfInBounds_toArray, List.set_cons_zero, List.set_cons_succ]) | (refine wpG_held (v := ?_) (by rfl) ?_ ?_; rotate_left; (focus (intro w' hSw; (try dsimp only at hSw); go_split_ands; first | (go_simp; with_reducible rfl) | (go_simp; done))); simp only [Act.put, List.setIfInBounds_toArray, List.set_cons_zero, List.set_cons_succ]))
        refine wpG_nil (NoPanic.normal ?_)
        go_wp2_with fail
        go_ret2
        exact ⟨_, by rw [hBi.out]; rfl, (((Kp.refl NoB w).alloc _).trans hKf.out).drew.trans k1⟩
      · obtain rfl : i = l.length := by omega
        replace hv := hid hv
        replace hvW := hid hvW
        clear hB
        go_wp2_with fail
        refine wp_region_G (fun _ => True) [(0, .held), (1, .at_), (2, .at_), (3, .at_), (4, .at_), (5, .at_), (6, .at_), (7, .at_), (8, .at_), (9, .at_), (10, .at_), (11, .eff), (12, .at_), (13, .at_), (14, .at_), (15, .at_)] ?L4 (by kernel_rfl) (by kernel_rfl) ?hL4 (trivial) ?hG4
        case hL4 => simp only [pickOps, List.map_cons, List.map_nil, List.getD_cons_zero, List.getD_cons_succ]; rfl
        repeat (first | (refine wpG_at (v := ?_) (by rfl) ?_ ?_; rotate_left; (focus (first | (go_simp; with_reducible rfl) | (go_simp; done))); simp only [Act.put, List.setIfInBounds_toArray, List.set_cons_zero, List.set_cons_succ]) | (refine wpG_at_skip (by rfl) ?_; simp only [Act.put, List.setIfInBounds_toArray, List.set_cons_zero, List.set_cons_succ]) | (refine wpG_held_skip (by rfl) ?_; simp only [Act.put, List.setIfInBounds_toArray, List.set_cons_zero, List.set_cons_succ]) | (refine wpG_held (v := ?_) (by rfl) ?_ ?_; rotate_left; (focus (intro w' hSw; (try dsimp only at hSw); go_split_ands; first | (go_simp; with_reducible rfl) | (go_simp; done))); simp only [Act.put, List.setIfInBounds_toArray, List.set_cons_zero, List.set_cons_succ]))
        refine wpG_eff_skip (by rfl) trivial ?_; simp only [Act.put, List.setIfInBounds_toArray, List.set_cons_zero, List.set_cons_succ]
        repeat (first | (refine wpG_at (v := ?_) (by rfl) ?_ ?_; rotate_left; (focus (first | (go_simp; with_reducible rfl) | (go_simp; done))); simp only [Act.put, List.setIfInBounds_toArray, List.set_cons_zero, List.set_cons_succ]) | (refine wpG_at_skip (by rfl) ?_; simp only [Act.put, List.setIfInBounds_toArray, List.set_cons_zero, List.set_cons_succ]) | (refine wpG_held_skip (by rfl) ?_; simp only [Act.put, List.setIfInBounds_toArray, List.set_cons_zero, List.set_cons_succ]) | (refine wpG_held (v := ?_) (by rfl) ?_ ?_; rotate_left; (focus (intro w' hSw; (try dsimp only at hSw); go_split_ands; first | (go_simp; with_reducible rfl) | (go_simp; done))); simp only [Act.put, List.setIfInBounds_toArray, List.set_cons_zero, List.set_cons_succ]))
        refine wpG_nil (NoPanic.normal ?_)
        go_wp2_with fail
        go_ret2
        exact ⟨_, by rw [hBi.out]; rfl, (((Kp.refl NoB w).alloc _).trans hKf.out).drew⟩
end
end Go.Proofs.YtackanpobfaglaaRRRR
