/- Walks through timers: the comparing functions, and where one stands. -/
import Derived.Test.YtackanpobfaglaaRRRRProg
import Derived.Test.YtackanpobfaglaaRRRRLibB
import Derived.Test.YtackanpobfaglaaRRRRLibD
import Derived.Test.YtackanpobfaglaaRRRRLibR
import Derived.Deep.QuietTactic
import Derived.BigQuiet
import Derived.StillTailTactics
import Derived.Deep.RegionHeld3
import Derived.Deep.DrawnRows
import Derived.Laws.EntriesVeiled
namespace Go.Proofs.YtackanpobfaglaaRRRR
set_option linter.unusedSimpArgs false
set_option linter.unusedVariables false
open Go.RowKit
attribute [local go_sem ↓] Go.wp_at_zero Go.wp_at_succ

theorem wi_in {x : Int} (h : -9223372036854775808 ≤ x ∧ x ≤ 9223372036854775807) : IntKind.i64.wrap x = x := by simp [IntKind.wrap, IntKind.bits, IntKind.signed]; omega
def eT (x : Int × Int) : List Value := [.int .u64 x.1, .int .i64 x.2]
theorem eT_len (x : Int × Int) : (eT x).length = 2 := rfl
/-- timers: the struct at p, their row in v -/
structure TAt (w : World) (p : Nat) (v : Value) (l : List (Int × Int)) : Prop where
  hp : w.heap[p]? = some (.cells #[v] 55 (0, 0))
  hv : RowAt w 58 eT 2 v l
section
variable {w w' : World} {p : Nat} {v : Value} {l : List (Int × Int)}
theorem TAt.kn (h : TAt w p v l) (k : Kp NoB w w') : TAt w' p v l := ⟨k.get h.hp (fun h => h), h.hv.kp k (fun _ _ h => h)⟩
theorem TAt.ne (h : TAt w p v l) : v.ownBlock ≠ some p := h.hv.ne h.hp (by decide)
def cmpV (x y : Int) : Int := if x < y then -1 else if y < x then 1 else 0
theorem nan_u (x : Int) (w : World) : Calls Try.prog 29 #[.int .u64 x] w fun e w' => e = .returned (.bool false) ∧ w = w' := by
  go_enter Try.func29, Try.ntmps29
  go_wp2
  go_ret
  exact ⟨by first | rfl | simp, rfl⟩
theorem nan_i (x : Int) (w : World) : Calls Try.prog 30 #[.int .i64 x] w fun e w' => e = .returned (.bool false) ∧ w = w' := by
  go_enter Try.func30, Try.ntmps30
  go_wp2
  go_ret
  exact ⟨by first | rfl | simp, rfl⟩
theorem cmp_u (x y : Int) (w : World) : Calls Try.prog 23 #[.int .u64 x, .int .u64 y] w fun e w' => e = .returned (.int .i64 (cmpV x y)) ∧ w = w' := by
  have HN := hid nan_u
  by_cases h1 : x < y
  · have hc := hid (show cmpV x y = -1 from by simp [cmpV, h1])
    go_enter Try.func23, Try.ntmps23
    go_wp2_with (go_at_call 29; refine (HN.out _ _).mono ?_; rintro e w' ⟨rfl, rfl⟩)
    go_ret
    exact ⟨by rw [hc.out]; rfl, rfl⟩
  · by_cases h2 : y < x
    · have hc := hid (show cmpV x y = 1 from by simp [cmpV, h1, h2])
      go_enter Try.func23, Try.ntmps23
      go_wp2_with (go_at_call 29; refine (HN.out _ _).mono ?_; rintro e w' ⟨rfl, rfl⟩)
      go_ret
      exact ⟨by rw [hc.out]; rfl, rfl⟩
    · have hc := hid (show cmpV x y = 0 from by simp [cmpV, h1, h2])
      go_enter Try.func23, Try.ntmps23
      go_wp2_with (go_at_call 29; refine (HN.out _ _).mono ?_; rintro e w' ⟨rfl, rfl⟩)
      go_ret
      exact ⟨by rw [hc.out]; rfl, rfl⟩
theorem cmp_i (x y : Int) (w : World) : Calls Try.prog 24 #[.int .i64 x, .int .i64 y] w fun e w' => e = .returned (.int .i64 (cmpV x y)) ∧ w = w' := by
  have HN := hid nan_i
  by_cases h1 : x < y
  · have hc := hid (show cmpV x y = -1 from by simp [cmpV, h1])
    go_enter Try.func24, Try.ntmps24
    go_wp2_with (go_at_call 30; refine (HN.out _ _).mono ?_; rintro e w' ⟨rfl, rfl⟩)
    go_ret
    exact ⟨by rw [hc.out]; rfl, rfl⟩
  · by_cases h2 : y < x
    · have hc := hid (show cmpV x y = 1 from by simp [cmpV, h1, h2])
      go_enter Try.func24, Try.ntmps24
      go_wp2_with (go_at_call 30; refine (HN.out _ _).mono ?_; rintro e w' ⟨rfl, rfl⟩)
      go_ret
      exact ⟨by rw [hc.out]; rfl, rfl⟩
    · have hc := hid (show cmpV x y = 0 from by simp [cmpV, h1, h2])
      go_enter Try.func24, Try.ntmps24
      go_wp2_with (go_at_call 30; refine (HN.out _ _).mono ?_; rintro e w' ⟨rfl, rfl⟩)
      go_ret
      exact ⟨by rw [hc.out]; rfl, rfl⟩
def orV (x y : Int) : Int := if x ≠ 0 then x else y
set_option maxRecDepth 100000 in
theorem or_any (x y : Int) (g : Nat) (w : World) (hg : w.heap[g]? = some (.cells #[.int .i64 x, .int .i64 y] 3 (0, 0))) : Calls Try.prog 22 #[.slice (some ⟨g, 0, none⟩) 2 2] w fun e w' => e = .returned (.int .i64 (orV x y)) ∧ w = w' := by
  have L := loc2 hg
  clear hg
  by_cases h1 : x = 0
  · subst h1
    by_cases h2 : y = 0
    · subst h2
      go_enter Try.func22, Try.ntmps22
      go_wp2_with fail
      refine wp_loop_rounds 3 ?_
      rw [rounds_succ]
      go_wp2_with fail
      rw [rounds_succ]
      go_wp2_with fail
      rw [rounds_succ]
      go_wp2_with fail
      go_ret
      exact ⟨rfl, rfl⟩
    · have h2' : (y == 0) = false := by simpa using h2
      have hc := hid (show orV 0 y = y from by simp [orV])
      go_enter Try.func22, Try.ntmps22
      go_wp2_with fail
      refine wp_loop_rounds 3 ?_
      rw [rounds_succ]
      go_wp2_with fail
      rw [rounds_succ]
      go_wp2_with fail
      go_ret
      exact ⟨by rw [hc.out]; rfl, rfl⟩
  · have h1' : (x == 0) = false := by simpa using h1
    have hc := hid (show orV x y = x from by simp [orV, h1])
    go_enter Try.func22, Try.ntmps22
    go_wp2_with fail
    refine wp_loop_rounds 3 ?_
    rw [rounds_succ]
    go_wp2_with fail
    go_ret
    exact ⟨by rw [hc.out]; rfl, rfl⟩
def aheadV (a b : Int × Int) : Int := orV (cmpV a.1 b.1) (cmpV a.2 b.2)
set_option maxRecDepth 100000 in
set_option maxHeartbeats 1000000 in
theorem ahead_any (a1 a2 b1 b2 : Int) (w : World) : Calls Try.prog 17 #[.agg #[.int .u64 a1, .int .i64 a2], .agg #[.int .u64 b1, .int .i64 b2]] w fun e w' => e = .returned (.int .i64 (aheadV (a1, a2) (b1, b2))) ∧ Kp NoB w w' := by
  have HU := hid cmp_u
  have HI := hid cmp_i
  have HO := hid or_any
  go_enter Try.func17, Try.ntmps17
  go_wp2_with fail
  refine wp_region_G (fun W => W.cell? ⟨w.heap.size + 1, 1, none⟩ = some (.int .i64 b2) ∧ W.cell? ⟨w.heap.size, 1, none⟩ = some (.int .i64 a2)) [(0, .at_), (1, .at_), (2, .at_), (3, .at_), (5, .held), (6, .held), (7, .held), (8, .held), (4, .eff), (9, .eff), (10, .eff), (11, .eff), (12, .at_)] ?L1 (by kernel_rfl) (by kernel_rfl) ?hL1 (by refine ⟨?_, ?_⟩ <;> go_simp) ?hG1
  case hL1 => simp only [pickOps, List.map_cons, List.map_nil, List.getD_cons_zero, List.getD_cons_succ]; rfl
  repeat (first | (refine wpG_at (v := ?_) (by rfl) ?_ ?_; rotate_left; (focus (first | (go_simp; with_reducible rfl) | (go_simp; done))); simp only [Act.put, List.setIfInBounds_toArray, List.set_cons_zero, List.set_cons_succ]) | (refine wpG_at_skip (by rfl) ?_; simp only [Act.put, List.setIfInBounds_toArray, List.set_cons_zero, List.set_cons_succ]) | (refine wpG_held_skip (by rfl) ?_; simp only [Act.put, List.setIfInBounds_toArray, List.set_cons_zero, List.set_cons_succ]) | (refine wpG_held (v := ?_) (by rfl) ?_ ?_; rotate_left; (focus (intro w' hSw; (try dsimp only at hSw); go_split_ands; first | (go_simp; with_reducible rfl) | (go_simp; done))); simp only [Act.put, List.setIfInBounds_toArray, List.set_cons_zero, List.set_cons_succ]))
  refine wpG_eff (by rfl) (fun K hK => ?_)
  go_simp
  refine (HU.out _ _ _).mono ?_
  rintro e w1 ⟨rfl, rfl⟩
  refine hK _ _ (by refine ⟨?_, ?_⟩ <;> go_simp) ?_
  clear hK K
  repeat (first | (refine wpG_at (v := ?_) (by rfl) ?_ ?_; rotate_left; (focus (first | (go_simp; with_reducible rfl) | (go_simp; done))); simp only [Act.put, List.setIfInBounds_toArray, List.set_cons_zero, List.set_cons_succ]) | (refine wpG_at_skip (by rfl) ?_; simp only [Act.put, List.setIfInBounds_toArray, List.set_cons_zero, List.set_cons_succ]) | (refine wpG_held_skip (by rfl) ?_; simp only [Act.put, List.setIfInBounds_toArray, List.set_cons_zero, List.set_cons_succ]) | (refine wpG_held (v := ?_) (by rfl) ?_ ?_; rotate_left; (focus (intro w' hSw; (try dsimp only at hSw); go_split_ands; first | (go_simp; with_reducible rfl) | (go_simp; done))); simp only [Act.put, List.setIfInBounds_toArray, List.set_cons_zero, List.set_cons_succ]))
  refine wpG_eff (by rfl) (fun K hK => ?_)
  go_simp
  refine (HI.out _ _ _).mono ?_
  rintro e w1 ⟨rfl, rfl⟩
  refine hK _ _ (by refine ⟨?_, ?_⟩ <;> go_simp) ?_
  clear hK K
  repeat (first | (refine wpG_at (v := ?_) (by rfl) ?_ ?_; rotate_left; (focus (first | (go_simp; with_reducible rfl) | (go_simp; done))); simp only [Act.put, List.setIfInBounds_toArray, List.set_cons_zero, List.set_cons_succ]) | (refine wpG_at_skip (by rfl) ?_; simp only [Act.put, List.setIfInBounds_toArray, List.set_cons_zero, List.set_cons_succ]) | (refine wpG_held_skip (by rfl) ?_; simp only [Act.put, List.setIfInBounds_toArray, List.set_cons_zero, List.set_cons_succ]) | (refine wpG_held (v := ?_) (by rfl) ?_ ?_; rotate_left; (focus (intro w' hSw; (try dsimp only at hSw); go_split_ands; first | (go_simp; with_reducible rfl) | (go_simp; done))); simp only [Act.put, List.setIfInBounds_toArray, List.set_cons_zero, List.set_cons_succ]))
  refine wpG_eff (by rfl) (fun K hK => ?_)
  go_simp
  refine hK _ _ (by refine ⟨?_, ?_⟩ <;> go_simp) ?_
  clear hK K
  repeat (first | (refine wpG_at (v := ?_) (by rfl) ?_ ?_; rotate_left; (focus (first | (go_simp; with_reducible rfl) | (go_simp; done))); simp only [Act.put, List.setIfInBounds_toArray, List.set_cons_zero, List.set_cons_succ]) | (refine wpG_at_skip (by rfl) ?_; simp only [Act.put, List.setIfInBounds_toArray, List.set_cons_zero, List.set_cons_succ]) | (refine wpG_held_skip (by rfl) ?_; simp only [Act.put, List.setIfInBounds_toArray, List.set_cons_zero, List.set_cons_succ]) | (refine wpG_held (v := ?_) (by rfl) ?_ ?_; rotate_left; (focus (intro w' hSw; (try dsimp only at hSw); go_split_ands; first | (go_simp; with_reducible rfl) | (go_simp; done))); simp only [Act.put, List.setIfInBounds_toArray, List.set_cons_zero, List.set_cons_succ]))
  refine wpG_eff (by rfl) (fun K hK => ?_)
  go_simp
  refine (HO.out (cmpV a1 b1) (cmpV a2 b2) _ _ (by first | exact blk_new _ _ | exact blk_new' _ _ (by simp))).mono ?_
  rintro e w1 ⟨rfl, rfl⟩
  refine hK _ _ (by refine ⟨?_, ?_⟩ <;> go_simp) ?_
  clear hK K
  repeat (first | (refine wpG_at (v := ?_) (by rfl) ?_ ?_; rotate_left; (focus (first | (go_simp; with_reducible rfl) | (go_simp; done))); simp only [Act.put, List.setIfInBounds_toArray, List.set_cons_zero, List.set_cons_succ]) | (refine wpG_at_skip (by rfl) ?_; simp only [Act.put, List.setIfInBounds_toArray, List.set_cons_zero, List.set_cons_succ]) | (refine wpG_held_skip (by rfl) ?_; simp only [Act.put, List.setIfInBounds_toArray, List.set_cons_zero, List.set_cons_succ]) | (refine wpG_held (v := ?_) (by rfl) ?_ ?_; rotate_left; (focus (intro w' hSw; (try dsimp only at hSw); go_split_ands; first | (go_simp; with_reducible rfl) | (go_simp; done))); simp only [Act.put, List.setIfInBounds_toArray, List.set_cons_zero, List.set_cons_succ]))
  refine wpG_nil (NoPanic.normal ?_)
  go_wp2_with fail
  go_ret
  exact ⟨rfl, by repeat (first | exact Kp.refl _ w | refine Kp.drew ?_ | refine Kp.alloc ?_ _)⟩
/-- where a serial's stands -/
def idxV (l : List (Int × Int)) (s : Int) : Int := match l.findIdx? (fun x => x.2 == s) with | some i => i | none => -1
set_option maxRecDepth 100000 in
theorem placef_any {c : Nat} {x y s : Int} (hc : w.heap[c]? = some (.cells #[.int .i64 s] 22 (0, 0))) :
    Calls Try.prog 28 #[.agg #[.int .u64 x, .int .i64 y], .pointer (some ⟨c, 0, none⟩)] w fun e w' => e = .returned (.bool (y == s)) ∧ Kp NoB w w' := by
  have Lc := loc1 hc
  have up := ups Lc.2.2
  clear hc
  go_enter Try.func28, Try.ntmps28
  go_wp2_with fail
  go_ret
  exact ⟨rfl, (Kp.refl _ w).alloc _⟩
theorem cf28 : ∀ args w, (callFunc 28 args).run Try.prog w = .ok (.enter 28 args) w := fun _ _ => rfl
theorem idx_found {l : List (Int × Int)} {s : Int} {j : Nat} (hj : j < l.length) (h1 : l[j].2 = s) (h0 : ∀ k (hk : k < j), l[k].2 ≠ s) : idxV l s = j := by
  have : l.findIdx? (fun x => x.2 == s) = some j := by
    rw [List.findIdx?_eq_some_iff_getElem]
    exact ⟨hj, by simpa using h1, fun k hk => by simpa using h0 k hk⟩
  simp [idxV, this]
theorem idx_none {l : List (Int × Int)} {s : Int} (h0 : ∀ k (hk : k < l.length), l[k].2 ≠ s) : idxV l s = -1 := by
  have : l.findIdx? (fun x => x.2 == s) = none := by
    rw [List.findIdx?_eq_none_iff]
    intro x hx
    obtain ⟨k, hk, rfl⟩ := List.mem_iff_getElem.1 hx
    simpa using h0 k hk
  simp [idxV, this]
/-- the cells of a row's piece -/
theorem row_cells (h : RowAt w 58 eT 2 v l) {k : Nat} {x y : Int} (hk : l[k]? = some (x, y)) : ∃ b c, v = .slice (some ⟨b, 0, none⟩) l.length c ∧ l.length ≤ c ∧ ∀ W, Kp NoB w W → W.cell? ⟨b, k * 2, none⟩ = some (.int .u64 x) ∧ W.cell? ⟨b, k * 2 + 1, none⟩ = some (.int .i64 y) ∧ b < W.heap.size := by
  obtain ⟨b, c, A, hv, hb, hA, hc, _⟩ := h.pos eT_len (by have := (List.getElem?_eq_some_iff.1 hk).1; omega)
  refine ⟨b, c, hv, hc, fun W kW => ?_⟩
  have hb' := kW.get hb (fun h => h)
  exact ⟨by rw [cell_of hb']; exact hA k 0 _ hk (by omega), by rw [cell_of hb']; exact hA k 1 _ hk (by omega), blk_lt hb'⟩
set_option maxRecDepth 100000 in
set_option maxHeartbeats 2000000 in
theorem indexf_any {c : Nat} {s : Int} (hv : RowAt w 58 eT 2 v l) (n2 : l.length ≤ 4096) (hc : w.heap[c]? = some (.cells #[.int .i64 s] 22 (0, 0))) :
    Calls Try.prog 27 #[v, .func (.func 28) #[] #[.pointer (some ⟨c, 0, none⟩)]] w fun e w' => e = .returned (.int .i64 (idxV l s)) ∧ Kp NoB w w' := by
  have cf := cf28
  obtain ⟨ov, cv, hvv, _⟩ := hv.form
  subst hvv
  go_enter Try.func27, Try.ntmps27
  go_wp2_with fail
  go_loopw [5, 8] (fun _ i W => ∃ j : Nat, j ≤ l.length ∧ i = .int .i64 j ∧ Kp NoB w W ∧ Hid (∀ k (hk : k < l.length), k < j → l[k].2 ≠ s)) (fun _ i _ => l.length - (intOf i).toNat)
  case atStart => exact ⟨0, Nat.zero_le _, rfl, Kp.refl _ w, hid (by intro k hk h; omega)⟩
  case round =>
    obtain ⟨j, hj, rfl, hK, hT⟩ := hrel
    by_cases hlt : j < l.length
    · obtain ⟨⟨x, y⟩, hk⟩ : ∃ s, l[j]? = some s := ⟨_, List.getElem?_eq_getElem hlt⟩
      have hkk := (List.getElem?_eq_some_iff.1 hk).2
      obtain ⟨b, c', hv', hcc, hcell⟩ := row_cells hv hk
      injection hv' with hv1 _ hv3
      subst hv1; subst hv3
      have Le := hcell _ hK
      have HZ := hid (placef_any (x := x) (y := y) (hK.get hc (fun h => h)))
      have b3 : (0 : Int) ≤ (j : Int) := Int.natCast_nonneg _
      have b4 : (j : Int) < (l.length : Int) := by omega
      replace hv := hid hv
      replace hc := hid hc
      replace hk := hid hk
      replace hkk := hid hkk
      replace hcell := hid hcell
      by_cases hys : y = s
      · have hys' := hid hys
        have hyb := hid (show (y == s) = true from by simpa using hys)
        clear hys
        go_wp2_with fail
        refine HZ.out.mono ?_
        rintro e w1 ⟨rfl, k1⟩
        rw [hyb.out]
        go_wp2_with fail
        go_ret
        refine ⟨?_, hK.trans k1⟩
        rw [idx_found hlt (by rw [hkk.out]; exact hys'.out) (fun k hk => hT.out k (by omega) hk)]
        rfl
      · have hyb := hid (show (y == s) = false from by simpa using hys)
        have hys' := hid hys
        clear hys
        go_wp2_with fail
        refine HZ.out.mono ?_
        rintro e w1 ⟨rfl, k1⟩
        rw [hyb.out]
        go_wp2_with fail
        go_roundw
        case rel => exact ⟨j + 1, by omega, by go_num, hK.trans k1, hid (by
          intro k hk h
          by_cases e : k = j
          · subst e; rw [hkk.out]; exact hys'.out
          · exact hT.out k hk (by omega))⟩
        case measure => simp [intOf]; omega
    · obtain rfl : j = l.length := by omega
      replace hv := hid hv
      go_wp2_with fail
      go_ret
      refine ⟨?_, hK⟩
      rw [idx_none (fun k hk => hT.out k hk hk)]
      rfl
set_option maxRecDepth 100000 in
theorem place_any (h : TAt w p v l) (n2 : l.length ≤ 4096) (s : Int) : Calls Try.prog 21 #[.pointer (some ⟨p, 0, none⟩), .int .i64 s] w fun e w' => e = .returned (.int .i64 (idxV l s)) ∧ Kp NoB w w' := by
  have hmf : ∀ (fn : Fn) (first cap : Array Value) (w : World), (Instr.makeFunc fn first cap).run Try.prog w = .ok (.func fn first cap) w := fun _ _ _ _ => rfl
  have HX := hid (indexf_any (h.hv.alloc (.cells #[.int .i64 s] 22)) n2 (blk_new w (.cells #[.int .i64 s] 22)))
  obtain ⟨ov, cv, hvv, _⟩ := h.hv.form
  subst hvv
  have Lp := loc1 h.hp
  have up := ups Lp.2.2
  clear h
  go_enter Try.func21, Try.ntmps21
  go_wp2_with fail
  refine HX.out.mono ?_
  rintro e w1 ⟨rfl, k1⟩
  go_wp2_with fail
  go_ret
  exact ⟨rfl, ((Kp.refl _ w).alloc _).trans k1⟩
end
end Go.Proofs.YtackanpobfaglaaRRRR
