/- Walks: what must be known of lives and timers. Records are taken whole: loads, stores of many cells in one step. -/
import Derived.Test.YtackanpobfaglaaRRRRL10
import Derived.Laws.Rows
import Derived.Laws.Tables
import Derived.Deep.MidRow
import Derived.Deep.DeepCutAuto
namespace Go.Proofs.YtackanpobfaglaaRRRR
set_option linter.unusedSimpArgs false
set_option linter.unusedVariables false
open Go.RowKit
attribute [local go_sem ↓] Go.wp_at_zero Go.wp_at_succ
theorem i36 : (Try.prog.info? 36).map (·.size) = some 22 := by kernel_rfl
section
variable {P : Program} {ops : Array Oper} {rest : List Oper} {o : Oper} {a : Act} {w : World} {Q : Exit → Act → World → Prop}
theorem wpList_loadW (hw : Region.wanted o (yielded ops a.tmps) = true) (ty : TypeId) (x : Operand) (ho : o.op = .load ty x)
    (g : Nat) (hx : a.eval x = .pointer (some ⟨g, 0, none⟩)) (t : TypeId) (cs : Array Value) (fr : Nat × Nat) (d : TypeDesc) (hg : w.heap[g]? = some (.cells cs t fr))
    (hu : P.underlying ty = some d) (hd : (match d with | .struct _ | .array _ _ => true | _ => false) = true) (hi : (P.info? ty).map (·.size) = some cs.size)
    (h : wpList P ops Q rest (a.put o.dst (.agg cs)) w) : wpList P ops Q (o :: rest) a w :=
  BigFrame.wpList_want hw fun _ hK => wp_load_row ty x ho g hx t cs fr d hg hu hd hi (hK _ _ h)
theorem wpList_store_new (hgd : o.guard = none) (ty t : TypeId) (x y : Operand) (ho : o.op = .store ty x y) (cells old : Array Value) (hx : a.eval x = .pointer (some ⟨w.heap.size, 0, none⟩)) (hy : a.eval y = .agg cells)
    (hi : (P.info? ty).map (·.size) = some cells.size) (hold : old.size = cells.size) (h1 : cells.all (·.oneCell') = true)
    (h : ∀ W1, W1.heap[w.heap.size]? = some (.cells cells t (0, 0)) → Kp NoB w W1 → wpList P ops Q rest (a.put o.dst undef) W1) : wpList P ops Q (o :: rest) a (w.alloc (.cells old t)) :=
  wpList_store_row hgd ty x y ho w.heap.size cells hx hy t old (blk_new w _) hi hold h1
    (h _ (setRow_heap (w.alloc (.cells old t)) w.heap.size old cells t (0, 0) (blk_new w _)) (kp_setRow ((Kp.refl NoB w).alloc _) cells (fun h => absurd h (Nat.lt_irrefl _))))
theorem wpList_buildA (hg : o.guard = none) (t : TypeId) (parts : Array (Nat × Operand)) (ho : o.op = .build t parts) (A : Array Value)
    (hf : P.built t (parts.map fun (i, x) => (i, a.eval x)).toList = some A)
    (h : wpList P ops Q rest (a.put o.dst (.agg A)) w) : wpList P ops Q (o :: rest) a w :=
  wpList_build hg t parts ho (by rw [hf]; rfl) (by rw [hf]; exact h)
end
def kcA (r : Bool) : Array Value := #[.int .i64 0, .int .i64 0, .string ByteArray.empty, .int .i64 0, .int .i64 0, .int .u32 0, .bool r, .bool false, .int .u64 7, .int .i64 0, .int .i64 0, .int .i64 0, .int .u64 0, .int .i64 0, .int .i64 0, .int .i64 0, .int .u64 0, .int .i64 0, .int .i64 0, .int .u64 0, .int .u64 0, .int .u64 0]
section
variable {w w' : World} {r z : Bool} {x now : Int}
/-- timers of one's own, new since w0 -/
def TNew (w0 w : World) (p : Nat) (l : List (Int × Int)) : Prop := w0.heap.size ≤ p ∧ Kp NoB w0 w ∧ ∃ v, TAt w p v l ∧ ∀ b, v.ownBlock = some b → w0.heap.size ≤ b
theorem TNew.trans {w0 w w1 : World} {p : Nat} {l : List (Int × Int)} (h : TNew w0 w p l) (k : Kp NoB w w1) : TNew w0 w1 p l := by
  obtain ⟨h1, h2, v, h3, h4⟩ := h
  exact ⟨h1, h2.trans k, v, h3.kn k, h4⟩
theorem put_new {w0 : World} {p : Nat} {l : List (Int × Int)} (h : TNew w0 w p l) (n2 : l.length ≤ 3999) {s x : Int} (hs : 1 ≤ s ∧ s ≤ 1073741824) {l' : List (Int × Int)} (hl : putV l x s = l') :
    Calls Try.prog 11 #[.pointer (some ⟨p, 0, none⟩), .int .i64 s, .int .u64 x] w fun e w' => e = .returned (.int .i64 0) ∧ TNew w0 w' p l' := by
  obtain ⟨h1, h2, v, h3, h4⟩ := h
  subst hl
  refine (put_any h3 n2 hs).mono ?_
  rintro e w1 ⟨rfl, v', q1, q2, q3⟩
  refine ⟨rfl, h1, h2.trans' q3 (fun b hb hf => ?_), v', q1, fun b hb => ?_⟩
  · rcases hf with rfl | hf
    · omega
    · have := h4 b hf; omega
  · rcases q2 with q2 | ⟨b', q2, h5⟩
    · exact h4 b (q2 ▸ hb)
    · rw [hb] at q2; injection q2 with q2; subst q2; exact Nat.le_trans h2.size h5
theorem due_new {w0 : World} {p : Nat} {l : List (Int × Int)} (h : TNew w0 w p l) (n2 : l.length ≤ 3999) {now : Int} {o : List Int} {l' : List (Int × Int)} (hl : dueL now [] l = (o, l')) :
    Calls Try.prog 12 #[.pointer (some ⟨p, 0, none⟩), .int .u64 now] w fun e w' => ∃ vo, e = .returned vo ∧ RowAt w' 22 eS 1 vo o ∧ TNew w0 w' p l' := by
  obtain ⟨h1, h2, v, h3, h4⟩ := h
  refine (due_any h3 n2).mono ?_
  rintro e w1 ⟨vo, v', rfl, q1, q2, q3, q4, q5⟩
  rw [hl] at q1 q2
  refine ⟨vo, rfl, q1, h1, h2.trans' q5 (fun b hb hf => ?_), v', q2, fun b hb => h4 b (q3 ▸ hb)⟩
  rcases hf with rfl | hf
  · omega
  · have := h4 b hf; omega
theorem next_new {w0 : World} {p : Nat} {l : List (Int × Int)} (h : TNew w0 w p l) : Calls Try.prog 13 #[.pointer (some ⟨p, 0, none⟩)] w fun e w' => e = .returned (.tuple #[.int .u64 (nx l), .bool (nb l)]) ∧ w' = w := by
  obtain ⟨h1, h2, v, h3, h4⟩ := h
  exact next_any h3
theorem kgone {A : Array Value} (hA : A = kcA false) (w : World) : Calls Try.prog 5 #[.agg A] w fun e w' => e = .returned (.tuple #[.int .u64 12, .bool true]) ∧ Kp NoB w w' := by
  subst hA
  refine (gone_any (x := 7) (by omega) w).mono ?_
  rintro e w1 ⟨rfl, k⟩
  exact ⟨by rw [show goneV 7 = 12 from by decide]; rfl, k⟩
theorem kof {A : Array Value} {r : Bool} (hA : A = kcA r) (now v : Int) (hv : ofV r false 7 now = v) (w : World) : Calls Try.prog 6 #[.agg A, .int .u64 now] w fun e w' => e = .returned (.int .i64 v) ∧ Kp NoB w w' := by
  subst hA; subst hv
  exact of_any w
set_option maxRecDepth 100000 in
set_option maxHeartbeats 4000000 in
theorem known_any (w : World) : Calls Try.prog 9 #[] w fun e w' => e = .returned (.bool true) ∧ Kp NoB w w' := by
  obtain ⟨A, hA⟩ : ∃ A, A = kcA false := ⟨_, rfl⟩
  have hAs : A.size = 22 := by rw [hA]; rfl
  have HG := hid (kgone hA)
  have HO6 := hid (kof hA 6 1 (by decide))
  have HO7 := hid (kof hA 7 3 (by decide))
  have HB := hid (show Try.prog.built 36 [(7, .int .u64 7)] = some A from by rw [hA]; kernel_rfl)
  have H1 := hid (show A.all (·.oneCell') = true from by rw [hA]; kernel_rfl)
  replace hA := hid hA
  replace hAs := hid hAs
  go_enter Try.func9, Try.ntmps9
  go_upto_region 2 with (first | (refine wpList_buildA rfl 36 #[(7, .const (.int .u64 7))] rfl A (by first | exact HB.out | (simp [Act.eval]; exact HB.out)) ?_) | (refine wpList_store_new rfl 36 36 _ _ rfl A _ rfl rfl (i36.trans (by rw [hAs.out])) (by rw [hAs.out]; rfl) H1.out ?_; intro W1 hr k0; replace hr := hid hr; replace k0 := hid k0))
  have HN := hid (fun W => new_any W)
  go_wp2_with (first | (refine wpList_loadW rfl 36 _ rfl w.heap.size rfl 36 A (0, 0) _ hr.out Try.underlying36 rfl (i36.trans (by rw [hAs.out])) ?_))
  refine (HG.out _).mono ?_
  rintro e W2 ⟨rfl, k1⟩
  have hr2 := hid (k1.get hr.out (fun h => h))
  have K2 := hid (k0.out.trans k1)
  clear hr k0 k1 HG
  go_wp2_with (first | (refine wpList_loadW rfl 36 _ rfl w.heap.size rfl 36 A (0, 0) _ hr2.out Try.underlying36 rfl (i36.trans (by rw [hAs.out])) ?_))
  refine (HO6.out _).mono ?_
  rintro e W3 ⟨rfl, k1⟩
  have hr3 := hid (k1.get hr2.out (fun h => h))
  have K3 := hid (K2.out.trans k1)
  clear hr2 K2 k1 HO6
  go_wp2_with (first | (refine wpList_loadW rfl 36 _ rfl w.heap.size rfl 36 A (0, 0) _ hr3.out Try.underlying36 rfl (i36.trans (by rw [hAs.out])) ?_))
  refine (HO7.out _).mono ?_
  rintro e W4 ⟨rfl, k1⟩
  have hr4 := hid (k1.get hr3.out (fun h => h))
  have K4 := hid (K3.out.trans k1)
  clear hr3 K3 k1 HO7
  have Lr : W4.cell? ⟨w.heap.size, 6, none⟩ = some (.bool false) ∧ W4.frozen? ⟨w.heap.size, 6, none⟩ = false ∧ w.heap.size < W4.heap.size := ⟨by rw [cell_of hr4.out, hA.out]; rfl, frozen_of hr4.out _, blk_lt hr4.out⟩
  have hA5 : A.setIfInBounds 6 (.bool true) = kcA true := by rw [hA.out]; rfl
  have hr5 := blk_setCell hr4.out 6 (.bool true)
  obtain ⟨A5, hA5'⟩ : ∃ A5, A5 = A.setIfInBounds 6 (.bool true) := ⟨_, rfl⟩
  rw [← hA5'] at hA5 hr5
  have K5 := hid (K4.out.setCell (p := ⟨w.heap.size, 6, none⟩) (.bool true) (fun h => absurd h (Nat.lt_irrefl _)))
  have hA5s := hid (show A5.size = 22 from by rw [hA5]; rfl)
  have HO9 := hid (kof hA5 9 2 (by decide))
  replace hr5 := hid hr5
  replace hA5 := hid hA5
  replace hA5' := hid hA5'
  go_wp2_with fail
  clear Lr
  refine (HN.out _).mono ?_
  rintro e W6 ⟨rfl, q1, q2⟩
  have N6 := hid (show TNew w W6 _ [] from ⟨K5.out.size, K5.out.trans q2, _, q1, by simp [Value.ownBlock]⟩)
  have hr6 := hid (q2.get hr5.out (fun h => h))
  clear q1 q2 HN hr5
  generalize (W4.setCell ⟨w.heap.size, 6, none⟩ (.bool true)).heap.size = p at *
  go_wp2_with (first | (refine wpList_loadW rfl 36 _ rfl w.heap.size rfl 36 A5 (0, 0) _ hr6.out Try.underlying36 rfl (i36.trans (by rw [hA5s.out])) ?_))
  refine (HO9.out _).mono ?_
  rintro e W7 ⟨rfl, k1⟩
  have N7 := hid (N6.out.trans k1)
  clear N6 k1 HO9 hr6 K5
  have P1 := hid (put_new N7.out (by simp) (s := 3) (x := 9) (by omega) (l' := [(9, 3)]) (by decide))
  go_wp2_with fail
  refine P1.out.mono ?_
  rintro e W8 ⟨rfl, N8⟩
  replace N8 := hid N8
  clear P1 N7
  have P2 := hid (put_new N8.out (by simp) (s := 1) (x := 9) (by omega) (l' := [(9, 1), (9, 3)]) (by decide))
  go_wp2_with fail
  refine P2.out.mono ?_
  rintro e W9 ⟨rfl, N9⟩
  replace N9 := hid N9
  clear P2 N8
  have P3 := hid (put_new N9.out (by simp) (s := 2) (x := 4) (by omega) (l' := [(4, 2), (9, 1), (9, 3)]) (by decide))
  go_wp2_with fail
  refine P3.out.mono ?_
  rintro e W10 ⟨rfl, N10⟩
  replace N10 := hid N10
  clear P3 N9
  have P4 := hid (put_new N10.out (by simp) (s := 2) (x := 11) (by omega) (l' := [(9, 1), (9, 3), (11, 2)]) (by decide))
  go_wp2_with fail
  refine P4.out.mono ?_
  rintro e W11 ⟨rfl, N11⟩
  replace N11 := hid N11
  clear P4 N10
  have P5 := hid (due_new N11.out (by simp) (now := 9) (o := [1, 3]) (l' := [(11, 2)]) (by decide))
  go_wp2_with fail
  refine P5.out.mono ?_
  rintro e W12 ⟨vo, rfl, q1, N12⟩
  have P6 := hid (next_new N12)
  replace N12 := hid N12
  replace q1 := hid q1
  clear P5 N11
  go_wp2_with fail
  refine P6.out.mono ?_
  rintro e W13 ⟨rfl, rfl⟩
  have P7 := hid (eq_yes (q1.out.alloc (.cells #[.int .i64 1, .int .i64 3] 22)) (RowAt.own (b := W13.heap.size) (c := 2) eS_len (blk_new W13 (.cells #[.int .i64 1, .int .i64 3] 22)) (by
    intro a j x ha hj
    match a, j, ha with
    | 0, 0, ha => simp at ha; subst ha; rfl
    | 1, 0, ha => simp at ha; subst ha; rfl) (by simp) (by simp [maxLen]) rfl) (by simp))
  clear P6
  go_wp2_with fail
  refine P7.out.mono ?_
  rintro e W14 ⟨rfl, k1⟩
  have K14 := hid ((N12.out.2.1.alloc (.cells #[.int .i64 1, .int .i64 3] 22)).trans k1)
  clear k1 P7 N12 q1
  go_wp2_with fail
  go_ret
  exact ⟨rfl, K14.out⟩
end
end Go.Proofs.YtackanpobfaglaaRRRR
