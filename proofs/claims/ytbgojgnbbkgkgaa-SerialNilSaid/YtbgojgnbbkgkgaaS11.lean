/- Walk: SerialNil. -/
import Derived.Test.YtbgojgnbbkgkgaaS10
namespace Go.Proofs.Ytbgojgnbbkgkgaa
set_option linter.unusedSimpArgs false
set_option linter.unusedVariables false
open Go.RowKit Go.Shelf
attribute [local go_sem ↓] Go.wp_at_zero Go.wp_at_succ
section
variable {w w' : World} {v u : Value}
set_option maxRecDepth 100000 in
set_option maxHeartbeats 4000000 in
theorem nil_any (w : World) : Calls Try.prog 8 #[] w fun e w' => e = .returned (.bool true) ∧ Kp NoB w w' := by
  have N0 : ∀ W, NoT W (.pointer none) := fun W => .inl rfl
  have HK := hid known_any
  have HO := hid one_any
  unfold hV at *
  have hr0 := hid (show ((w.alloc (.cells #[.bool false] 4)).alloc (.cells #[.map none, .int .i64 0] 66)).heap[w.heap.size]? = some (.cells #[.bool false] 4 (0, 0)) from blk_alloc (blk_new w _))
  have hz0 := hid (show NoT ((w.alloc (.cells #[.bool false] 4)).alloc (.cells #[.map none, .int .i64 0] 66)) (.pointer (some ⟨w.heap.size + 1, 0, none⟩)) from .inr ⟨_, _, rfl, blk_new' _ _ (by simp)⟩)
  have K0 := hid (((Kp.refl NoB w).alloc (.cells #[.bool false] 4)).alloc (.cells #[.map none, .int .i64 0] 66))
  have H14 := hid (fun W (k : Kp NoB ((w.alloc (.cells #[.bool false] 4)).alloc (.cells #[.map none, .int .i64 0] 66)) W) => next_no (hz0.out.kn k) 1)
  have H25 := hid (fun W (k : Kp NoB ((w.alloc (.cells #[.bool false] 4)).alloc (.cells #[.map none, .int .i64 0] 66)) W) => of_no (hz0.out.kn k) 0 1)
  have H10 := hid (fun W (k : Kp NoB ((w.alloc (.cells #[.bool false] 4)).alloc (.cells #[.map none, .int .i64 0] 66)) W) => put_no (hz0.out.kn k) 1 0 1)
  have H16 := hid (fun W (k : Kp NoB ((w.alloc (.cells #[.bool false] 4)).alloc (.cells #[.map none, .int .i64 0] 66)) W) => len_no (hz0.out.kn k))
  have HS1 := hid (fun W (k : Kp NoB ((w.alloc (.cells #[.bool false] 4)).alloc (.cells #[.map none, .int .i64 0] 66)) W) => same_no (N0 W) (hz0.out.kn k))
  have HS2 := hid (fun W (k : Kp NoB ((w.alloc (.cells #[.bool false] 4)).alloc (.cells #[.map none, .int .i64 0] 66)) W) => same_no (hz0.out.kn k) (N0 W))
  have G14 := hid (fun W => next_no (N0 W) 1)
  have G11 := hid (fun W => get_no (N0 W) 1)
  have G10 := hid (fun W => put_no (N0 W) 1 0 1)
  have G20 := hid (fun W => drop_no (N0 W) 1)
  have G16 := hid (fun W => len_no (N0 W))
  have G21 := hid (fun W => copy_no (N0 W))
  have G19 := hid (fun W => all_any (.pointer none) none rfl W)
  have GI := hid (fun W c (hc : W.heap[c]? = some (Obj.cells #[.pointer none] 26 (0, 0))) => iter_kn (N0 W) hc)
  have hnil : ∀ (c : Array Value) (w : World), (binOp BinOp.eql 53 (.func (.func 31) #[] c) .nilFunc).run Try.prog w = .ok (.bool false) w := fun _ _ => by kernel_rfl
  clear N0
  unfold hV at *
  refine calls_of_wp_marks Try.func8 rfl ?_
  simp only [Try.ntmps8, List.size_toArray, List.length_cons, List.length_nil, Nat.reduceAdd, Nat.reduceSub, Array.replicate_succ, Array.replicate_zero, List.push_toArray, List.append_toArray, List.nil_append, List.cons_append]
  go_wp2_with fail
  refine (G14.out _).mono ?_
  rintro e W1 ⟨rfl, k1⟩
  generalize hW0 : ((w.alloc (.cells #[.bool false] 4)).alloc (.cells #[.map none, .int .i64 0] 66)) = W0 at *
  clear hW0
  have K1 := hid k1
  clear k1
  go_wp2_with fail
  refine (H14.out _ K1.out).mono ?_
  rintro e W2 ⟨rfl, k1⟩
  have K2 := hid (K1.out.trans k1)
  clear k1 K1
  go_wp2_with fail
  refine (G11.out _).mono ?_
  rintro e W3 ⟨rfl, k1⟩
  have K3 := hid (K2.out.trans k1)
  clear k1 K2
  replace K3 := hid (K3.out.alloc (.cells #[.int .i64 0, .int .u64 0] 25))
  go_wp2_with fail
  refine (HO.out _ _).mono ?_
  rintro e W4 ⟨rfl, k1⟩
  have K4 := hid (K3.out.trans k1)
  clear k1 K3
  go_wp2_with fail
  refine (H25.out _ K4.out).mono ?_
  rintro e W5 ⟨rfl, k1⟩
  have K5 := hid (K4.out.trans k1)
  clear k1 K4
  go_wp2_with fail
  refine (G19.out _).mono ?_
  rintro e W6 ⟨rfl, hW6⟩
  have hc := hid (show W6.heap[W5.heap.size]? = some (Obj.cells #[.pointer none] 26 (0, 0)) from by rw [hW6]; exact blk_new _ _)
  have K6 := hid (show Kp NoB W0 W6 from by rw [hW6]; exact K5.out.alloc _)
  have KC := hid (Kp.refl NoB W6)
  clear hW6
  go_wp2_with fail
  refine (HO.out _ _).mono ?_
  rintro e W7 ⟨rfl, k1⟩
  have K7 := hid (K6.out.trans k1)
  replace KC := hid (KC.out.trans k1)
  clear k1 K6
  go_wp2_with fail
  refine (G10.out _).mono ?_
  rintro e W8 ⟨rfl, k1⟩
  have K8 := hid (K7.out.trans k1)
  replace KC := hid (KC.out.trans k1)
  clear k1 K7
  go_wp2_with fail
  refine (HO.out _ _).mono ?_
  rintro e W9 ⟨rfl, k1⟩
  have K9 := hid (K8.out.trans k1)
  replace KC := hid (KC.out.trans k1)
  clear k1 K8
  go_wp2_with fail
  refine (H10.out _ K9.out).mono ?_
  rintro e W10 ⟨rfl, k1⟩
  have K10 := hid (K9.out.trans k1)
  replace KC := hid (KC.out.trans k1)
  clear k1 K9
  go_wp2_with fail
  refine (G20.out _).mono ?_
  rintro e W11 ⟨rfl, k1⟩
  have K11 := hid (K10.out.trans k1)
  replace KC := hid (KC.out.trans k1)
  clear k1 K10
  go_wp2_with fail
  refine (G16.out _).mono ?_
  rintro e W12 ⟨rfl, rfl⟩
  go_wp2_with fail
  refine (H16.out _ K11.out).mono ?_
  rintro e W13 ⟨rfl, rfl⟩
  go_wp2_with fail
  refine (G21.out _).mono ?_
  rintro e W14 ⟨rfl, rfl⟩
  go_wp2_with fail
  refine (HS1.out _ K11.out).mono ?_
  rintro e W15 ⟨rfl, rfl⟩
  go_wp2_with fail
  refine (HS2.out _ K11.out).mono ?_
  rintro e W16 ⟨rfl, rfl⟩
  go_wp2_with fail
  have HI := hid (GI.out _ _ (KC.out.get hc.out (fun h => h)))
  refine wp_rangeFunc_none (gf := 31) (lb := #[.pointer (some ⟨W5.heap.size, 0, none⟩)]) rfl (enters_of Try.func31 (by kernel_rfl) rfl) HI.out ?_
  intro D W k hD hK
  have KD := hid (K11.out.trans k)
  have hDw := hid (Nat.le_trans K11.out.size hD)
  replace hK := hid hK
  clear HI k hD
  go_wp2_with fail
  refine (HK.out _).mono ?_
  rintro e W9 ⟨rfl, k1⟩
  have hK9 := hid ((k1.get hK.out (fun h => h)))
  have hr9 := (KD.out.trans k1).get hr0.out (fun h => h)
  have K9 := hid (K0.out.trans (KD.out.trans k1))
  have L9 := loc1 hr9
  replace hr9 := hid hr9
  have hD0 := hid (show w.heap.size ≠ D from by have h1 := hDw.out; have h2 := blk_lt hr0.out; omega)
  go_wp2_with fail
  have hK2 : (W9.setCell ⟨w.heap.size, 0, none⟩ (.bool true)).heap[D]? = some (.deferred (some [])) := (Below.heap_setCell _ _ _ _ (Ne.symm hD0.out)).trans hK9.out
  have g0 := blk_setCell hr9.out 0 (.bool true)
  have KF : Kp NoB w (W9.setCell ⟨w.heap.size, 0, none⟩ (.bool true)) := K9.out.setCell (p := ⟨w.heap.size, 0, none⟩) _ (fun h => absurd h (Nat.lt_irrefl _))
  have hDs : w.heap.size ≤ D := by have h1 := hDw.out; have h2 := blk_lt hr0.out; omega
  generalize W9.setCell ⟨w.heap.size, 0, none⟩ (.bool true) = W3 at *
  have L4' := loc1 ((World.putObj_heap_other hD0.out (o := .deferred none) (w := W3)).trans g0)
  have KP := KF.putObj (D := D) (.deferred none) (fun h => absurd h (by omega))
  refine leaves_one hK2 (v := .bool true) ?_ ⟨rfl, KP⟩
  generalize W3.putObj D (.deferred none) = W4 at *
  simp [results, Try.results8, go_sem, L4'.1]
end
end Go.Proofs.Ytbgojgnbbkgkgaa
