/- Walks through timers: Insert at any place, Remove. -/
import Derived.Test.YtackanpobfaglaaRRRRL5
namespace Go.Proofs.YtackanpobfaglaaRRRR
set_option linter.unusedSimpArgs false
set_option linter.unusedVariables false
open Go.RowKit
attribute [local go_sem ↓] Go.wp_at_zero Go.wp_at_succ
section
variable {w w' : World} {p : Nat} {v : Value} {l : List (Int × Int)}
theorem insert_any (hv : RowAt w 58 eT 2 v l) (n2 : l.length ≤ 4000) {g : Nat} {x y : Int} (hg : w.heap[g]? = some (.cells #[.int .u64 x, .int .i64 y] 58 (0, 0))) (hgv : v.ownBlock ≠ some g)
    {i : Nat} (hi : i ≤ l.length) :
    Calls Try.prog 18 #[v, .int .i64 i, .slice (some ⟨g, 0, none⟩) 1 1] w fun e w' => ∃ v', e = .returned v' ∧ RowAt w' 58 eT 2 v' (l.take i ++ (x, y) :: l.drop i) ∧ (v'.ownBlock = v.ownBlock ∨ ∃ b, v'.ownBlock = some b ∧ w.heap.size ≤ b) ∧ Kp (fun b => v.ownBlock = some b) w w' := by
  by_cases h : i < l.length
  · obtain ⟨b, c, A, rfl, hb, _, hlc, _⟩ := hv.pos eT_len (by omega)
    have hgb : g ≠ b := fun e => hgv (by subst e; rfl)
    by_cases hc : l.length + 1 ≤ c
    · refine (insert_fits hv n2 hg hgb h hc).mono ?_
      rintro e w1 ⟨v', rfl, q1, q2, q3⟩
      exact ⟨v', rfl, q1, .inl q2, q3.mono fun b' hb' => by subst hb'; rfl⟩
    · have hcl : l.length = c := by omega
      refine (insert_grow hv n2 hg hgb h (by omega)).mono ?_
      rintro e w1 ⟨v', rfl, q1, q2, q3⟩
      exact ⟨v', rfl, q1, .inr ⟨_, q2, Nat.le_refl _⟩, q3.mono fun _ h => h.elim⟩
  · obtain rfl : i = l.length := by omega
    refine (insert_end hv n2 hg).mono ?_
    rintro e w1 ⟨v', rfl, q1, q2, q3⟩
    refine ⟨v', rfl, ?_, q2, q3⟩
    simpa using q1
def rmV (l : List (Int × Int)) (s : Int) : List (Int × Int) := match l.findIdx? (fun x => x.2 == s) with | some i => l.eraseIdx i | none => l
theorem rm_len (l : List (Int × Int)) (s : Int) : (rmV l s).length ≤ l.length := by
  unfold rmV; split
  · rw [List.length_eraseIdx]; split <;> omega
  · exact Nat.le_refl _
theorem v_cell (h : TAt w p v l) {v' : Value} {l' : List (Int × Int)} (hv : RowAt w 58 eT 2 v' l') : TAt (w.setCell ⟨p, 0, none⟩ v') p v' l' := by
  have hne := hv.ne h.hp (by decide)
  exact ⟨blk_setCell h.hp 0 _, hv.setCell _ _ hne⟩
set_option maxRecDepth 100000 in
set_option maxHeartbeats 2000000 in
theorem remove_any (h : TAt w p v l) (n2 : l.length ≤ 4000) (s : Int) : Calls Try.prog 15 #[.pointer (some ⟨p, 0, none⟩), .int .i64 s] w fun e w' => ∃ bb v', e = .returned (.bool bb) ∧ TAt w' p v' (rmV l s) ∧ v'.ownBlock = v.ownBlock ∧ Kp (fun b => b = p ∨ v.ownBlock = some b) w w' := by
  have HP := hid (place_any h (by omega) s)
  cases hq : l.findIdx? (fun x => x.2 == s) with
  | none =>
    have hi : idxV l s = -1 := by simp [idxV, hq]
    have hr : rmV l s = l := by simp [rmV, hq]
    have K0 := hid (fun w1 (k : Kp NoB w w1) => h.kn k)
    clear h
    rw [hr]
    go_enter Try.func15, Try.ntmps15
    go_wp2_with fail
    refine HP.out.mono ?_
    rintro e w1 ⟨rfl, k1⟩
    rw [hi]
    go_wp2_with fail
    go_ret
    exact ⟨_, v, rfl, K0.out _ k1, rfl, k1.mono fun _ h => h.elim⟩
  | some i =>
    have hi : idxV l s = (i : Int) := by simp [idxV, hq]
    have hr : rmV l s = l.eraseIdx i := by simp [rmV, hq]
    have hlt : i < l.length := by
      rcases List.findIdx?_eq_some_iff_getElem.1 hq with ⟨h1, _⟩; exact h1
    obtain ⟨b, c, A, rfl, hb, _, hlc, _⟩ := h.hv.pos eT_len (by omega)
    have K0 := hid (fun w1 (k : Kp NoB w w1) => h.kn k)
    have HD := hid (fun w1 (h1 : TAt w1 p (.slice (some ⟨b, 0, none⟩) l.length c) l) => delete_any h1.hv n2 hlt)
    have hpb : p ≠ b := fun e => h.ne (by subst e; rfl)
    have hLs := hid (fun w1 (h1 : TAt w1 p (.slice (some ⟨b, 0, none⟩) l.length c) l) => h1.hp)
    have b1 : ¬ (i : Int) < 0 := by omega
    have b2 : IntKind.i64.wrap ((i : Int) + 1) = (i : Int) + 1 := wi_in (by omega)
    replace hb := hid hb
    replace hq := hid hq
    clear h
    rw [hr]
    go_enter Try.func15, Try.ntmps15
    go_wp2_with fail
    refine HP.out.mono ?_
    rintro e w1 ⟨rfl, k1⟩
    rw [hi]
    have T1 := K0.out _ k1
    have Lp := loc1 T1.hp
    have T1h := hid T1
    replace T1 := hid T1
    go_wp2_with fail
    refine (HD.out _ T1h.out).mono ?_
    rintro e w2 ⟨rfl, q1, q2⟩
    have hp2 := q2.get T1h.out.hp hpb
    have Lp2 := loc1 hp2
    have Q1 := hid q1
    have Q2 := hid q2
    have K1 := hid k1
    have hp2 := hid hp2
    clear q1 q2 T1 T1h HD HP hLs k1 K0
    go_wp2_with fail
    go_ret
    exact ⟨_, _, rfl, ⟨blk_setCell hp2.out 0 _, Q1.out.setCell _ _ (Q1.out.ne hp2.out (by decide))⟩, rfl,
      ((K1.out.mono fun _ h => h.elim).trans (Q2.out.mono fun b' hb' => Or.inr (by subst hb'; rfl))).setCell _ (fun _ => Or.inl rfl)⟩
end
end Go.Proofs.YtackanpobfaglaaRRRR
