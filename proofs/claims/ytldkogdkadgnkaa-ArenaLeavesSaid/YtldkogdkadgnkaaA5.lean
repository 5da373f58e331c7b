/- Walks through an arena: are all that are free zero? -/
import Derived.Test.YtldkogdkadgnkaaA4
namespace Go.Proofs.Ytldkogdkadgnkaa
set_option linter.unusedSimpArgs false
set_option linter.unusedVariables false
open Go.RowKit
attribute [local go_sem ↓] Go.wp_at_zero Go.wp_at_succ
section
variable {w w' : World} {p l : Nat} {v : Value} {S : List (Int × Int × Bool)} {B : List Nat} {E : Nat}
set_option maxRecDepth 100000 in
set_option maxHeartbeats 2000000 in
theorem zerof_any {c : Nat} {x g : Int} {b : Bool} (hc : w.heap[c]? = some (.cells #[.int .i64 0] 3 (0, 0))) (hz : b = false → x = 0) :
    Calls Try.prog 30 #[.agg #[.int .i64 x, .int .u64 g, .bool b], .pointer (some ⟨c, 0, none⟩)] w fun e w' => e = .returned (.bool false) ∧ Kp NoB w w' := by
  have Lc := loc1 hc
  have up := ups Lc.2.2
  clear hc
  cases b
  · obtain rfl := hz rfl
    go_enter Try.func30, Try.ntmps30
    go_wp2_with fail
    go_ret
    exact ⟨rfl, (Kp.refl _ w).alloc _⟩
  · clear hz
    go_enter Try.func30, Try.ntmps30
    go_wp2_with fail
    go_ret
    exact ⟨rfl, (Kp.refl _ w).alloc _⟩
theorem cf30 : ∀ args w, (callFunc 30 args).run Try.prog w = .ok (.enter 30 args) w := fun _ _ => rfl
set_option maxRecDepth 100000 in
set_option maxHeartbeats 2000000 in
theorem indexf_any {c : Nat} (hl : w.heap[l]? = some (.cells (rows eS S) 72 (0, 0))) (n2 : S.length ≤ 4096) (hc : w.heap[c]? = some (.cells #[.int .i64 0] 3 (0, 0))) (hz : ∀ (i : Nat) (x g : Int), S[i]? = some (x, g, false) → x = 0) :
    Calls Try.prog 35 #[.slice (some ⟨l, 0, none⟩) S.length S.length, .func (.func 30) #[] #[.pointer (some ⟨c, 0, none⟩)]] w fun e w' => e = .returned (.int .i64 (-1)) ∧ Kp NoB w w' := by
  have cf := cf30
  go_enter Try.func35, Try.ntmps35
  go_wp2_with fail
  go_loopw [5, 8] (fun _ i W => ∃ j : Nat, j ≤ S.length ∧ i = .int .i64 j ∧ Kp NoB w W) (fun _ i _ => S.length - (intOf i).toNat)
  case atStart => exact ⟨0, Nat.zero_le _, rfl, Kp.refl _ w⟩
  case round =>
    obtain ⟨j, hj, rfl, hK⟩ := hrel
    by_cases hlt : j < S.length
    · obtain ⟨⟨x, g, b⟩, hk⟩ : ∃ s, S[j]? = some s := ⟨_, List.getElem?_eq_getElem hlt⟩
      have hl' := hK.get hl (fun h => h)
      have e0 : wr.cell? ⟨l, j * 3, none⟩ = some (.int .i64 x) := by rw [cell_of hl']; exact rows_get eS_len (j := 0) hk (by omega)
      have e1 : wr.cell? ⟨l, j * 3 + 1, none⟩ = some (.int .u64 g) := by rw [cell_of hl']; exact rows_get eS_len (j := 1) hk (by omega)
      have e2 : wr.cell? ⟨l, j * 3 + 2, none⟩ = some (.bool b) := by rw [cell_of hl']; exact rows_get eS_len (j := 2) hk (by omega)
      have HZ := hid (zerof_any (g := g) (b := b) (x := x) (hK.get hc (fun h => h)) (fun hb => hz j x g (by rw [hk, hb])))
      have b3 : (0 : Int) ≤ (j : Int) := Int.natCast_nonneg _
      have b4 : (j : Int) < (S.length : Int) := by omega
      replace hl := hid hl
      replace hc := hid hc
      clear hk hl' hz
      go_wp2_with fail
      refine HZ.out.mono ?_
      rintro e w1 ⟨rfl, k1⟩
      go_wp2_with fail
      go_roundw
      case rel => exact ⟨j + 1, by omega, by go_num, hK.trans k1⟩
      case measure => simp [intOf]; omega
    · obtain rfl : j = S.length := by omega
      clear hz
      go_wp2_with fail
      go_ret
      exact ⟨rfl, hK⟩
set_option maxRecDepth 100000 in
set_option maxHeartbeats 2000000 in
theorem zero_any (h : AAt w p l v S B E) (o : AOk S B E) (hz : ∀ (i : Nat) (x g : Int), S[i]? = some (x, g, false) → x = 0) :
    Calls Try.prog 16 #[.pointer (some ⟨p, 0, none⟩)] w fun e w' => e = .returned (.bool true) ∧ Kp NoB w w' := by
  have hmf : ∀ (fn : Fn) (first cap : Array Value) (w : World), (Instr.makeFunc fn first cap).run Try.prog w = .ok (.func fn first cap) w := fun _ _ _ _ => rfl
  have HI : Calls Try.prog 29 #[.slice (some ⟨l, 0, none⟩) S.length S.length, .func (.func 30) #[] #[.pointer (some ⟨w.heap.size, 0, none⟩)]] (w.alloc (.cells #[.int .i64 0] 3)) fun e w' => e = .returned (.bool false) ∧ Kp NoB w w' := by
    have HX := hid (indexf_any (h.alloc (.cells #[.int .i64 0] 3)).hl o.n2 (blk_new w (.cells #[.int .i64 0] 3)) hz)
    clear h hz
    go_enter Try.func29, Try.ntmps29
    go_wp2_with fail
    refine HX.out.mono ?_
    rintro e w1 ⟨rfl, k1⟩
    go_wp2_with fail
    go_ret
    exact ⟨rfl, ((Kp.refl _ w).alloc _).trans k1⟩
  replace HI := hid HI
  have Lp := h.cs
  have up := ups Lp.2.2.2.2.2.2
  clear h hz
  go_enter Try.func16, Try.ntmps16
  go_wp2_with fail
  refine HI.out.mono ?_
  rintro e w1 ⟨rfl, k1⟩
  go_wp2_with fail
  go_ret
  exact ⟨rfl, k1⟩
end
end Go.Proofs.Ytldkogdkadgnkaa
