/- Walks: a record's life, shown. -/
import Derived.Test.YtackanpobfaglaaRRRRL11
namespace Go.Proofs.YtackanpobfaglaaRRRR
set_option linter.unusedSimpArgs false
set_option linter.unusedVariables false
open Go.RowKit
attribute [local go_sem ↓] Go.wp_at_zero Go.wp_at_succ
section
variable {P : Program} {o : Oper} {a : Act} {w : World}
theorem exec_load (ty : TypeId) (x : Operand) (ho : o.op = .load ty x)
    (g : Nat) (hx : a.eval x = .pointer (some ⟨g, 0, none⟩)) (t : TypeId) (cs : Array Value) (fr : Nat × Nat) (d : TypeDesc) (hg : w.heap[g]? = some (.cells cs t fr))
    (hu : P.underlying ty = some d) (hd : (match d with | .struct _ | .array _ _ => true | _ => false) = true) (hi : (P.info? ty).map (·.size) = some cs.size) :
    (execOp a.eval o).run P w = .ok (.value (.agg cs)) w := by
  unfold execOp
  simp only [ho, hx, Instr.loadAt, Instr.sureAddr, Sem.run_bind, Sem.run_pure, Result.andThen_ok, run_loadVar_row w g t ty cs fr d hg hu hd hi]
end
section
variable {w w' : World} {c0 c1 c2 c3 c4 c5 c9 c10 c11 c12 c13 c14 c15 c16 c17 c18 c19 c20 c21 : Value} {r z : Bool} {x now : Int} {A : Array Value}
theorem rsize (hA : A = #[c0, c1, c2, c3, c4, c5, .bool r, .bool z, .int .u64 x, c9, c10, c11, c12, c13, c14, c15, c16, c17, c18, c19, c20, c21]) : A.size = 22 := by rw [hA]; rfl
theorem gone_A (hA : A = #[c0, c1, c2, c3, c4, c5, .bool r, .bool z, .int .u64 x, c9, c10, c11, c12, c13, c14, c15, c16, c17, c18, c19, c20, c21]) (hx : 0 ≤ x ∧ x < 18446744073709551616) (w : World) : Calls Try.prog 5 #[.agg A] w fun e w' => e = .returned (.tuple #[.int .u64 (goneV x), .bool (x != 0)]) ∧ Kp NoB w w' := by subst hA; exact gone_any hx w
theorem rgone_A (hA : A = #[c0, c1, c2, c3, c4, c5, .bool r, .bool z, .int .u64 x, c9, c10, c11, c12, c13, c14, c15, c16, c17, c18, c19, c20, c21]) (hx : 0 ≤ x ∧ x < 18446744073709551616) (w : World) : Calls Try.prog 8 #[.agg A] w fun e w' => e = .returned (.int .u64 (goneV x)) ∧ Kp NoB w w' := by subst hA; exact rgone_any hx w
theorem of_A (hA : A = #[c0, c1, c2, c3, c4, c5, .bool r, .bool z, .int .u64 x, c9, c10, c11, c12, c13, c14, c15, c16, c17, c18, c19, c20, c21]) (now : Int) (w : World) : Calls Try.prog 6 #[.agg A, .int .u64 now] w fun e w' => e = .returned (.int .i64 (ofV r z x now)) ∧ Kp NoB w w' := by subst hA; exact of_any w
theorem rof_A (hA : A = #[c0, c1, c2, c3, c4, c5, .bool r, .bool z, .int .u64 x, c9, c10, c11, c12, c13, c14, c15, c16, c17, c18, c19, c20, c21]) (hx : 0 ≤ x) (now : Int) (w : World) : Calls Try.prog 7 #[.agg A, .int .u64 now] w fun e w' => e = .returned (.int .i64 (ofV r z x now)) ∧ Kp NoB w w' := by subst hA; exact rof_any hx w
set_option maxRecDepth 100000 in
set_option maxHeartbeats 4000000 in
theorem lifeof_any (hA : A = #[c0, c1, c2, c3, c4, c5, .bool r, .bool z, .int .u64 x, c9, c10, c11, c12, c13, c14, c15, c16, c17, c18, c19, c20, c21]) (hx : 0 ≤ x ∧ x < 18446744073709551616) (w : World) : Calls Try.prog 3 #[.agg A, .int .u64 now] w fun e w' => e = .returned (.bool true) ∧ Kp NoB w w' := by
  have HG := hid (gone_A hA hx)
  have HRG := hid (rgone_A hA hx)
  have HO := hid (of_A hA)
  have HRO := hid (rof_A hA hx.1)
  have HK := hid known_any
  have hAs := hid (rsize hA)
  have hA8 := hid (show A[8]? = some (.int .u64 x) from by rw [hA]; rfl)
  have hb := hid (blk_new w (.cells A 36))
  have hxe : (decide (0 < x)) = (x != 0) := by
    by_cases h : x = 0
    · subst h; rfl
    · have h1 : 0 < x := by omega
      simp [h, h1]
  replace hxe := hid hxe
  clear hA
  go_enter Try.func3, Try.ntmps3
  go_wp2_with (first | (refine wpList_loadW rfl 36 _ rfl w.heap.size rfl 36 A (0, 0) _ hb.out Try.underlying36 rfl (i36.trans (by rw [hAs.out])) ?_))
  refine (HG.out _).mono ?_
  rintro e W1 ⟨rfl, k1⟩
  have hb1 := hid (k1.get hb.out (fun h => h))
  have K1 := hid (((Kp.refl NoB w).alloc (.cells A 36)).trans k1)
  clear k1 hb HG
  go_wp2_with fail
  refine wp_region_G (fun W => W.heap[w.heap.size]? = some (.cells A 36 (0, 0))) [(0, .at_), (1, .at_), (3, .held), (4, .held), (2, .eff), (5, .eff), (6, .at_), (7, .at_), (8, .held), (9, .at_), (10, .eff), (11, .at_), (12, .at_), (13, .at_), (14, .at_), (15, .at_), (16, .at_), (17, .at_), (18, .at_), (19, .at_), (20, .at_), (21, .eff), (22, .at_), (23, .at_)] ?L1 (by kernel_rfl) (by kernel_rfl) ?hL1 (hb1.out) ?hG1
  case hL1 => simp only [pickOps, List.map_cons, List.map_nil, List.getD_cons_zero, List.getD_cons_succ]; rfl
  refine wpG_at (v := .agg A) (by rfl) (exec_load 36 _ rfl w.heap.size rfl 36 A (0, 0) _ hb1.out Try.underlying36 rfl (i36.trans (by rw [hAs.out]))) ?_
  repeat (first | (refine wpG_at (v := ?_) (by rfl) ?_ ?_; rotate_left; (focus (first | (go_simp; with_reducible rfl) | (go_simp; done))); simp only [Act.put, List.setIfInBounds_toArray, List.set_cons_zero, List.set_cons_succ]) | (refine wpG_at_skip (by rfl) ?_; simp only [Act.put, List.setIfInBounds_toArray, List.set_cons_zero, List.set_cons_succ]) | (refine wpG_held_skip (by rfl) ?_; simp only [Act.put, List.setIfInBounds_toArray, List.set_cons_zero, List.set_cons_succ]) | (refine wpG_held (v := ?_) (by rfl) ?_ ?_; rotate_left; (focus (intro w' hSw; (try dsimp only at hSw); go_split_ands; first | (go_simp; with_reducible rfl) | (go_simp; done))); simp only [Act.put, List.setIfInBounds_toArray, List.set_cons_zero, List.set_cons_succ]))
  refine wpG_held (v := .agg A) (by rfl) (fun W hS => exec_load 36 _ rfl w.heap.size rfl 36 A (0, 0) _ hS Try.underlying36 rfl (i36.trans (by rw [hAs.out]))) ?_
  repeat (first | (refine wpG_at (v := ?_) (by rfl) ?_ ?_; rotate_left; (focus (first | (go_simp; with_reducible rfl) | (go_simp; done))); simp only [Act.put, List.setIfInBounds_toArray, List.set_cons_zero, List.set_cons_succ]) | (refine wpG_at_skip (by rfl) ?_; simp only [Act.put, List.setIfInBounds_toArray, List.set_cons_zero, List.set_cons_succ]) | (refine wpG_held_skip (by rfl) ?_; simp only [Act.put, List.setIfInBounds_toArray, List.set_cons_zero, List.set_cons_succ]) | (refine wpG_held (v := ?_) (by rfl) ?_ ?_; rotate_left; (focus (intro w' hSw; (try dsimp only at hSw); go_split_ands; first | (go_simp; with_reducible rfl) | (go_simp; done))); simp only [Act.put, List.setIfInBounds_toArray, List.set_cons_zero, List.set_cons_succ]))
  refine wpG_eff (by rfl) (fun K hK => ?_)
  go_simp
  refine (HO.out _ _).mono ?_
  rintro e W2 ⟨rfl, k1⟩
  have hb2 := hid (k1.get (blk_drew hb1.out) (fun h => h))
  have K2 := hid (K1.out.drew.trans k1)
  refine hK _ _ hb2.out ?_
  clear hK K k1 hb1 K1
  repeat (first | (refine wpG_at (v := ?_) (by rfl) ?_ ?_; rotate_left; (focus (first | (go_simp; with_reducible rfl) | (go_simp; done))); simp only [Act.put, List.setIfInBounds_toArray, List.set_cons_zero, List.set_cons_succ]) | (refine wpG_at_skip (by rfl) ?_; simp only [Act.put, List.setIfInBounds_toArray, List.set_cons_zero, List.set_cons_succ]) | (refine wpG_held_skip (by rfl) ?_; simp only [Act.put, List.setIfInBounds_toArray, List.set_cons_zero, List.set_cons_succ]) | (refine wpG_held (v := ?_) (by rfl) ?_ ?_; rotate_left; (focus (intro w' hSw; (try dsimp only at hSw); go_split_ands; first | (go_simp; with_reducible rfl) | (go_simp; done))); simp only [Act.put, List.setIfInBounds_toArray, List.set_cons_zero, List.set_cons_succ]))
  refine wpG_eff (by rfl) (fun K hK => ?_)
  go_simp
  refine (HRO.out _ _).mono ?_
  rintro e W3 ⟨rfl, k1⟩
  have hb3 := hid (k1.get hb2.out (fun h => h))
  have K3 := hid (K2.out.trans k1)
  refine hK _ _ hb3.out ?_
  clear hK K k1 hb2 K2
  repeat (first | (refine wpG_at (v := ?_) (by rfl) ?_ ?_; rotate_left; (focus (first | (go_simp; with_reducible rfl) | (go_simp; done))); simp only [Act.put, List.setIfInBounds_toArray, List.set_cons_zero, List.set_cons_succ]) | (refine wpG_at_skip (by rfl) ?_; simp only [Act.put, List.setIfInBounds_toArray, List.set_cons_zero, List.set_cons_succ]) | (refine wpG_held_skip (by rfl) ?_; simp only [Act.put, List.setIfInBounds_toArray, List.set_cons_zero, List.set_cons_succ]) | (refine wpG_held (v := ?_) (by rfl) ?_ ?_; rotate_left; (focus (intro w' hSw; (try dsimp only at hSw); go_split_ands; first | (go_simp; with_reducible rfl) | (go_simp; done))); simp only [Act.put, List.setIfInBounds_toArray, List.set_cons_zero, List.set_cons_succ]))
  refine wpG_at (v := .agg A) (by rfl) (exec_load 36 _ rfl w.heap.size rfl 36 A (0, 0) _ hb3.out Try.underlying36 rfl (i36.trans (by rw [hAs.out]))) ?_
  repeat (first | (refine wpG_at (v := ?_) (by rfl) ?_ ?_; rotate_left; (focus (first | (go_simp; with_reducible rfl) | (go_simp; done))); simp only [Act.put, List.setIfInBounds_toArray, List.set_cons_zero, List.set_cons_succ]) | (refine wpG_at_skip (by rfl) ?_; simp only [Act.put, List.setIfInBounds_toArray, List.set_cons_zero, List.set_cons_succ]) | (refine wpG_held_skip (by rfl) ?_; simp only [Act.put, List.setIfInBounds_toArray, List.set_cons_zero, List.set_cons_succ]) | (refine wpG_held (v := ?_) (by rfl) ?_ ?_; rotate_left; (focus (intro w' hSw; (try dsimp only at hSw); go_split_ands; first | (go_simp; with_reducible rfl) | (go_simp; done))); simp only [Act.put, List.setIfInBounds_toArray, List.set_cons_zero, List.set_cons_succ]))
  refine wpG_eff (by rfl) (fun K hK => ?_)
  go_simp
  refine (HRG.out _).mono ?_
  rintro e W4 ⟨rfl, k1⟩
  have hb4 := hid (k1.get hb3.out (fun h => h))
  have K4 := hid (K3.out.trans k1)
  refine hK _ _ hb4.out ?_
  clear hK K k1 hb3 K3
  have L4 : W4.cell? ⟨w.heap.size, 8, none⟩ = some (.int .u64 x) := by rw [cell_of hb4.out]; exact hA8.out
  replace hxe := hxe.out
  repeat (first | (refine wpG_at (v := ?_) (by rfl) ?_ ?_; rotate_left; (focus (first | (go_simp; with_reducible rfl) | (go_simp; done))); simp only [Act.put, List.setIfInBounds_toArray, List.set_cons_zero, List.set_cons_succ]) | (refine wpG_at_skip (by rfl) ?_; simp only [Act.put, List.setIfInBounds_toArray, List.set_cons_zero, List.set_cons_succ]) | (refine wpG_held_skip (by rfl) ?_; simp only [Act.put, List.setIfInBounds_toArray, List.set_cons_zero, List.set_cons_succ]) | (refine wpG_held (v := ?_) (by rfl) ?_ ?_; rotate_left; (focus (intro w' hSw; (try dsimp only at hSw); go_split_ands; first | (go_simp; with_reducible rfl) | (go_simp; done))); simp only [Act.put, List.setIfInBounds_toArray, List.set_cons_zero, List.set_cons_succ]))
  refine wpG_eff (by rfl) (fun K hK => ?_)
  go_simp
  refine (HK.out _).mono ?_
  rintro e W5 ⟨rfl, k1⟩
  have hb5 := hid (k1.get hb4.out (fun h => h))
  have K5 := hid (K4.out.trans k1)
  refine hK _ _ hb5.out ?_
  clear hK K k1 hb4 K4
  repeat (first | (refine wpG_at (v := ?_) (by rfl) ?_ ?_; rotate_left; (focus (first | (go_simp; with_reducible rfl) | (go_simp; done))); simp only [Act.put, List.setIfInBounds_toArray, List.set_cons_zero, List.set_cons_succ]) | (refine wpG_at_skip (by rfl) ?_; simp only [Act.put, List.setIfInBounds_toArray, List.set_cons_zero, List.set_cons_succ]) | (refine wpG_held_skip (by rfl) ?_; simp only [Act.put, List.setIfInBounds_toArray, List.set_cons_zero, List.set_cons_succ]) | (refine wpG_held (v := ?_) (by rfl) ?_ ?_; rotate_left; (focus (intro w' hSw; (try dsimp only at hSw); go_split_ands; first | (go_simp; with_reducible rfl) | (go_simp; done))); simp only [Act.put, List.setIfInBounds_toArray, List.set_cons_zero, List.set_cons_succ]))
  refine wpG_nil (NoPanic.normal ?_)
  go_wp2_with fail
  go_ret
  exact ⟨rfl, K5.out⟩
end
end Go.Proofs.YtackanpobfaglaaRRRR
