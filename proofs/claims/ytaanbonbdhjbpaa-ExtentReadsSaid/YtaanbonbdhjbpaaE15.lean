/- Walks: a reader. -/
import Derived.Test.YtaanbonbdhjbpaaE13
import Derived.Test.YtaanbonbdhjbpaaLibD
namespace Go.Proofs.Ytaanbonbdhjbpaa
set_option linter.unusedSimpArgs false
set_option linter.unusedVariables false
open Go.RowKit
attribute [local go_sem ↓] Go.wp_at_zero Go.wp_at_succ
/-- a reader: its struct at q, the arena's at p, where it is, what it read -/
structure RAt (w : World) (q p : Nat) (i g : Int) (bv : Value) (M : List Int) : Prop where
  hq : w.heap[q]? = some (.cells #[.pointer (some ⟨p, 0, none⟩), .int .i64 i, .int .u64 g, bv] 68 (0, 0))
  hb : RowAt w 5 eB 1 bv M
section
variable {w w' : World} {q p l : Nat} {i g : Int} {v bv : Value} {M : List Int} {S : List Sl3} {B : List Nat} {E : Nat}
theorem RAt.kp {F : Nat → Prop} (h : RAt w q p i g bv M) (k : Kp F w w') (hq : ¬ F q) (hb : ∀ b, bv.ownBlock = some b → ¬ F b) : RAt w' q p i g bv M := ⟨k.get h.hq hq, h.hb.kp k hb⟩
theorem RAt.kn (h : RAt w q p i g bv M) (k : Kp NoB w w') : RAt w' q p i g bv M := h.kp k (fun h => h) (fun _ _ h => h)
theorem RAt.cs (h : RAt w q p i g bv M) : w.cell? ⟨q, 0, none⟩ = some (.pointer (some ⟨p, 0, none⟩)) ∧ w.cell? ⟨q, 1, none⟩ = some (.int .i64 i) ∧ w.cell? ⟨q, 2, none⟩ = some (.int .u64 g) ∧ w.cell? ⟨q, 3, none⟩ = some bv ∧
    w.frozen? ⟨q, 1, none⟩ = false ∧ w.frozen? ⟨q, 2, none⟩ = false ∧ w.frozen? ⟨q, 3, none⟩ = false ∧ q < w.heap.size :=
  ⟨by rw [cell_of h.hq]; rfl, by rw [cell_of h.hq]; rfl, by rw [cell_of h.hq]; rfl, by rw [cell_of h.hq]; rfl, frozen_of h.hq 1, frozen_of h.hq 2, frozen_of h.hq 3, blk_lt h.hq⟩
theorem read_go (h : AAt w p l v S B E) (n1 : 1 ≤ S.length) : Calls Try.prog 25 #[.pointer (some ⟨p, 0, none⟩), .agg #[.int .i64 i, .int .u64 g]] w fun e w' => ∃ q, e = .returned (.tuple #[.pointer (some ⟨q, 0, none⟩), .int .i64 0]) ∧
    RAt w' q p i g (.slice none 0 0) [] ∧ w.heap.size ≤ q ∧ Kp NoB w w' := by
  have HS := hid (size_any (h.alloc (.cells #[.int .i64 i, .int .u64 g] 33)))
  have n1' : ((S.length : Int) == 0) = false := by simp; intro e; rw [e] at n1; simp at n1
  clear h
  go_enter Try.func25, Try.ntmps25
  go_wp2_with fail
  refine HS.out.mono ?_
  rintro e w1 ⟨rfl, rfl⟩
  go_wp2_with fail
  go_ret2
  exact ⟨_, rfl, ⟨blk_new' _ _ (by simp), RowAt.nil _ _ _ _⟩, by simp, ((Kp.refl _ w).alloc _).alloc _⟩
theorem rstep_none (w : World) : Calls Try.prog 26 #[.pointer none] w fun e w' => e = .returned (.tuple #[.bool false, .int .i64 1]) ∧ w = w' := by
  go_enter Try.func26, Try.ntmps26
  go_wp2_with fail
  go_ret2
  exact ⟨rfl, rfl⟩
theorem rstep_zero (h : w.cell? ⟨q, 0, none⟩ = some (.pointer none)) : Calls Try.prog 26 #[.pointer (some ⟨q, 0, none⟩)] w fun e w' => e = .returned (.tuple #[.bool false, .int .i64 1]) ∧ w = w' := by
  go_enter Try.func26, Try.ntmps26
  go_wp2_with fail
  go_ret2
  exact ⟨rfl, rfl⟩
theorem rstep_end (h : RAt w q p i 0 bv M) : Calls Try.prog 26 #[.pointer (some ⟨q, 0, none⟩)] w fun e w' => e = .returned (.tuple #[.bool true, .int .i64 0]) ∧ w = w' := by
  have Lq := h.cs
  clear h
  go_enter Try.func26, Try.ntmps26
  go_wp2_with fail
  go_ret2
  exact ⟨rfl, rfl⟩
theorem one_B (L : List Int) : ∀ u ∈ L.flatMap eB, u.oneCell' = true := by
  intro x hx
  rw [flatB] at hx
  obtain ⟨z, _, rfl⟩ := List.mem_map.1 hx
  rfl
set_option maxRecDepth 100000 in
set_option maxHeartbeats 2000000 in
theorem bclone_any {v : Value} (h : RowAt w 5 eB 1 v M) (hl : M.length ≤ 100000) : Calls Try.prog 39 #[v] w fun e w' => ∃ v', e = .returned v' ∧ RowAt w' 5 eB 1 v' M ∧ (∀ b, v'.ownBlock = some b → w.heap.size ≤ b) ∧ Kp NoB w w' := by
  have hv : v = .slice none 0 0 ∧ M = [] ∨ ∃ a n c, v = .slice (some a) n c := by
    rcases h.2 with ⟨h1, h0⟩ | ⟨g, cap, cur, h1, _⟩
    · exact .inl ⟨h1, List.eq_nil_of_length_eq_zero h0⟩
    · exact .inr ⟨_, _, _, h1⟩
  rcases hv with ⟨rfl, rfl⟩ | ⟨a, n, c, rfl⟩
  · have hq := fun w : World => Lib.run_eql_slice_nil (P := Try.prog) w 22 5 none 0 0 0 0 sl22
    clear h
    go_enter Try.func39, Try.ntmps39
    go_wp2_with fail
    go_ret
    exact ⟨_, rfl, RowAt.nil _ _ _ _, by simp [Value.ownBlock], Kp.refl _ _⟩
  · have hq := fun w : World => Lib.run_eql_slice_nil (P := Try.prog) w 22 5 (some a) n c 0 0 sl22
    have E0 : RowAt (w.alloc (.cells #[] 5)) 5 eB 1 (.slice (some ⟨w.heap.size, 0, none⟩) 0 0) [] := RowAt.new eB_len w 5 [] (by simp [maxLen])
    obtain ⟨v', w2, hr, q1, q2, q3⟩ := run_grow_sl (P := Try.prog) (ty := 22) eB_len (by omega) sl22 i5 rfl E0 ((h.alloc (.cells #[] 5)).sl eB_len (by omega)) (one_B M) (by simp; omega) (by omega)
    rw [List.nil_append] at q1
    have kA : Kp NoB w w2 := ((Kp.refl NoB w).alloc (.cells #[] 5)).trans' (kp_grown (F := fun b => b = w.heap.size) q2 (fun b hb => by injection hb with hb; exact hb.symm)) (fun b hb e => by omega)
    have hnw : ∀ b, v'.ownBlock = some b → w.heap.size ≤ b := fun b hb => by
      rcases q3 with e | ⟨b', e, h'⟩
      · rw [hb] at e; injection e with e
        have e : b = w.heap.size := e
        omega
      · rw [hb] at e; injection e with e; subst e
        have : w.heap.size + 1 ≤ b := by simpa using h'
        omega
    obtain ⟨o2, c2, hv, _⟩ := q1.form
    subst hv
    replace q1 := hid q1
    replace kA := hid kA
    replace hnw := hid hnw
    replace hr := hid hr
    clear h E0 q2 q3
    go_enter Try.func39, Try.ntmps39
    go_wp2_with (at_builtin; refine Lib.wpList_append_run _ rfl _ _ _ _ rfl _ _ rfl rfl _ _ hr.out ?_)
    go_ret
    exact ⟨_, rfl, q1.out, hnw.out, kA.out⟩
theorem bytes_go (h : RAt w q p i g bv M) (hl : M.length ≤ 100000) : Calls Try.prog 27 #[.pointer (some ⟨q, 0, none⟩)] w fun e w' => ∃ v', e = .returned v' ∧ RowAt w' 5 eB 1 v' M ∧ (∀ b, v'.ownBlock = some b → w.heap.size ≤ b) ∧ Kp NoB w w' := by
  have HC := hid (bclone_any h.hb hl)
  have Lq := h.cs
  clear h
  go_enter Try.func27, Try.ntmps27
  go_wp2_with fail
  refine HC.out.mono ?_
  rintro e w1 ⟨v', rfl, r1, n1, k1⟩
  replace r1 := hid r1
  go_wp2_with fail
  go_ret
  exact ⟨_, rfl, r1.out, n1, k1⟩
theorem bytes_none (w : World) : Calls Try.prog 27 #[.pointer none] w fun e w' => e = .returned (.slice none 0 0) ∧ w = w' := by
  go_enter Try.func27, Try.ntmps27
  go_wp2_with fail
  go_ret
  exact ⟨rfl, rfl⟩
theorem bytes_zero (h : w.cell? ⟨q, 3, none⟩ = some (.slice none 0 0)) : Calls Try.prog 27 #[.pointer (some ⟨q, 0, none⟩)] w fun e w' => e = .returned (.slice none 0 0) ∧ w = w' := by
  have hq := fun w : World => Lib.run_eql_slice_nil (P := Try.prog) w 22 5 none 0 0 0 0 sl22
  have HC : Calls Try.prog 39 #[.slice none 0 0] w fun e w' => e = .returned (.slice none 0 0) ∧ w = w' := by
    clear h
    go_enter Try.func39, Try.ntmps39
    go_wp2_with fail
    go_ret
    exact ⟨rfl, rfl⟩
  replace HC := hid HC
  go_enter Try.func27, Try.ntmps27
  go_wp2_with fail
  refine HC.out.mono ?_
  rintro e w1 ⟨rfl, rfl⟩
  go_wp2_with fail
  go_ret
  exact ⟨rfl, rfl⟩
end
end Go.Proofs.Ytaanbonbdhjbpaa
