/- Walks through the document's arena: its small functions. -/
import Derived.Test.YtldkogdkadgnkaaA8
namespace Go.Proofs.Ytldkogdkadgnkaa
set_option linter.unusedSimpArgs false
set_option linter.unusedVariables false
open Go.RowKit
attribute [local go_sem ↓] Go.wp_at_zero Go.wp_at_succ

theorem pre_cell {α : Type} {f : α → List Value} {n : Nat} {A : Array Value} {l : List α} (hf : ∀ x, (f x).length = n) (h : Pre f n A l) {k j : Nat} {x x' : α} {v : Value} (hk : l[k]? = some x) (hj : j < n) (hv : (f x')[j]? = some v)
    (ho : ∀ i, i < n → i ≠ j → (f x')[i]? = (f x)[i]?) : Pre f n (A.setIfInBounds (k * n + j) v) (l.set k x') := by
  intro k' j' y hy hj'
  have hlt := (List.getElem?_eq_some_iff.1 hk).1
  by_cases e : k' = k
  · subst e
    rw [List.getElem?_set_self hlt] at hy
    injection hy with hy; subst hy
    by_cases e2 : j' = j
    · subst e2
      have hin := (Array.getElem?_eq_some_iff.1 (h k' j' x hk hj' |>.trans (List.getElem?_eq_getElem (by rw [hf]; exact hj')))).1
      rw [Array.getElem?_setIfInBounds_self, if_pos hin, hv]
    · rw [Array.getElem?_setIfInBounds_ne (by omega), h k' j' x hk hj', ho j' hj' e2]
  · rw [List.getElem?_set_ne (Ne.symm e)] at hy
    rw [Array.getElem?_setIfInBounds_ne, h k' j' y hy hj']
    intro e3
    rcases Nat.lt_or_gt_of_ne e with h' | h'
    · have : (k' + 1) * n ≤ k * n := Nat.mul_le_mul_right n h'
      rw [Nat.add_mul] at this; omega
    · have : (k + 1) * n ≤ k' * n := Nat.mul_le_mul_right n h'
      rw [Nat.add_mul] at this; omega

/-- the document's arena: the struct at r, the slots' row at lb (of capacity c), those given back in vb -/
structure WAt (w : World) (r lb c : Nat) (vb : Value) (S : List (Int × Int × Bool)) (B : List Nat) : Prop where
  hp : w.heap[r]? = some (.cells #[.slice (some ⟨lb, 0, none⟩) S.length c, vb] 59 (0, 0))
  hl : ∃ A, w.heap[lb]? = some (.cells A 56 (0, 0)) ∧ Pre eS 3 A S
  hv : RowAt w 3 eI 1 vb B
def FreeN (S : List (Int × Int × Bool)) (n : Nat) : Prop := n = 0 ↔ ∀ (i : Nat) (s : Int × Int × Bool), S[i]? = some s → s.2.2 = true
section
variable {w w' : World} {r lb c : Nat} {vb : Value} {S : List (Int × Int × Bool)} {B : List Nat} {E : Nat}
theorem WAt.ne (h : WAt w r lb c vb S B) : r ≠ lb ∧ vb.ownBlock ≠ some r ∧ vb.ownBlock ≠ some lb := by
  obtain ⟨A, hl, hA⟩ := h.hl
  exact ⟨ne_of_types h.hp hl (by decide), h.hv.ne h.hp (by decide), h.hv.ne hl (by decide)⟩
theorem WAt.lt (h : WAt w r lb c vb S B) : r < w.heap.size ∧ lb < w.heap.size := by
  obtain ⟨A, hl, hA⟩ := h.hl
  exact ⟨blk_lt h.hp, blk_lt hl⟩
theorem WAt.keep (h : WAt w r lb c vb S B) (h1 : w'.heap[r]? = w.heap[r]?) (h2 : w'.heap[lb]? = w.heap[lb]?) (h3 : ∀ b, vb.ownBlock = some b → w'.heap[b]? = w.heap[b]?) : WAt w' r lb c vb S B := by
  obtain ⟨A, hl, hA⟩ := h.hl
  exact ⟨h1.trans h.hp, ⟨A, h2.trans hl, hA⟩, h.hv.keep h3⟩
theorem WAt.kp {F : Nat → Prop} (h : WAt w r lb c vb S B) (k : Kp F w w') (h1 : ¬ F r) (h2 : ¬ F lb) (hv : ∀ b, vb.ownBlock = some b → ¬ F b) : WAt w' r lb c vb S B :=
  h.keep (k.blk r h.lt.1 h1) (k.blk lb h.lt.2 h2) (fun b hb => k.blk b (h.hv.lt b hb) (hv b hb))
theorem WAt.kn (h : WAt w r lb c vb S B) (k : Kp NoB w w') : WAt w' r lb c vb S B := h.kp k (fun h => h) (fun h => h) (fun _ _ h => h)
theorem WAt.alloc (h : WAt w r lb c vb S B) (o : Obj) : WAt (w.alloc o) r lb c vb S B := h.kn ((Kp.refl _ w).alloc o)
theorem WAt.drew (h : WAt w r lb c vb S B) : WAt w.drew r lb c vb S B := h.kn (Kp.refl _ w).drew
theorem WAt.cs (h : WAt w r lb c vb S B) : w.cell? ⟨r, 0, none⟩ = some (.slice (some ⟨lb, 0, none⟩) S.length c) ∧ w.cell? ⟨r, 1, none⟩ = some vb ∧ w.frozen? ⟨r, 0, none⟩ = false ∧ w.frozen? ⟨r, 1, none⟩ = false ∧ r < w.heap.size := loc2 h.hp
theorem WAt.es (h : WAt w r lb c vb S B) {k : Nat} {x g : Int} {b : Bool} (hk : S[k]? = some (x, g, b)) :
    w.cell? ⟨lb, k * 3, none⟩ = some (.int .i64 x) ∧ w.cell? ⟨lb, k * 3 + 1, none⟩ = some (.int .u64 g) ∧ w.cell? ⟨lb, k * 3 + 2, none⟩ = some (.bool b) ∧
    w.frozen? ⟨lb, k * 3, none⟩ = false ∧ w.frozen? ⟨lb, k * 3 + 1, none⟩ = false ∧ w.frozen? ⟨lb, k * 3 + 2, none⟩ = false ∧ lb < w.heap.size := by
  obtain ⟨A, hl, hA⟩ := h.hl
  exact ⟨by rw [cell_of hl]; exact hA k 0 _ hk (by omega), by rw [cell_of hl]; exact hA k 1 _ hk (by omega), by rw [cell_of hl]; exact hA k 2 _ hk (by omega),
   frozen_of hl _, frozen_of hl _, frozen_of hl _, blk_lt hl⟩
theorem WAt.set (h : WAt w r lb c vb S B) {k : Nat} {s : Int × Int × Bool} (hl : ∀ A, w.heap[lb]? = some (.cells A 56 (0, 0)) → Pre eS 3 A S → ∃ A', w'.heap[lb]? = some (.cells A' 56 (0, 0)) ∧ Pre eS 3 A' (S.set k s))
    (hp : w'.heap[r]? = w.heap[r]?) (hv : ∀ b, vb.ownBlock = some b → w'.heap[b]? = w.heap[b]?) : WAt w' r lb c vb (S.set k s) B := by
  obtain ⟨A, h1, h2⟩ := h.hl
  exact ⟨by rw [hp, List.length_set]; exact h.hp, hl A h1 h2, h.hv.keep hv⟩
theorem WAt.cell (h : WAt w r lb c vb S B) {k j : Nat} {s s' : Int × Int × Bool} {u : Value} (hk : S[k]? = some s) (hj : j < 3) (hu : (eS s')[j]? = some u) (ho : ∀ i, i < 3 → i ≠ j → (eS s')[i]? = (eS s)[i]?) :
    WAt (w.setCell ⟨lb, k * 3 + j, none⟩ u) r lb c vb (S.set k s') B := by
  obtain ⟨n1, n2, n3⟩ := h.ne
  exact h.set (fun A hA hP => ⟨_, blk_setCell hA _ _, pre_cell eS_len hP hk hj hu ho⟩) (Below.heap_setCell w _ _ r n1) (fun b' hb' => Below.heap_setCell w _ _ b' (by rintro rfl; exact n3 hb'))
theorem WAt.isc (h : WAt w r lb c vb S B) {k : Nat} {x g : Int} {b b' : Bool} (hk : S[k]? = some (x, g, b)) : WAt (w.setCell ⟨lb, k * 3 + 2, none⟩ (.bool b')) r lb c vb (S.set k (x, g, b')) B :=
  h.cell (j := 2) hk (by omega) rfl (by intro i hi hne; match i, hi, hne with | 0, _, _ => rfl | 1, _, _ => rfl | 2, _, hne => exact absurd rfl hne)
theorem WAt.xc (h : WAt w r lb c vb S B) {k : Nat} {x g x' : Int} {b : Bool} (hk : S[k]? = some (x, g, b)) : WAt (w.setCell ⟨lb, k * 3, none⟩ (.int .i64 x')) r lb c vb (S.set k (x', g, b)) B :=
  h.cell (j := 0) hk (by omega) rfl (by intro i hi hne; match i, hi, hne with | 1, _, _ => rfl | 2, _, _ => rfl | 0, _, hne => exact absurd rfl hne)
theorem WAt.three (h : WAt w r lb c vb S B) {k : Nat} (hk : k < S.length) (s : Int × Int × Bool) : WAt (((w.setCell ⟨lb, k * 3, none⟩ (.int .i64 s.1)).setCell ⟨lb, k * 3 + 1, none⟩ (.int .u64 s.2.1)).setCell ⟨lb, k * 3 + 2, none⟩ (.bool s.2.2)) r lb c vb (S.set k s) B := by
  obtain ⟨n1, n2, n3⟩ := h.ne
  refine h.set (fun A hA hP => ⟨_, blk_setCell (blk_setCell (blk_setCell hA _ _) _ _) _ _, ?_⟩) ?_ ?_
  · exact hP.set eS_len (by omega) hk s
  · rw [Below.heap_setCell _ _ _ r n1, Below.heap_setCell _ _ _ r n1, Below.heap_setCell _ _ _ r n1]
  · intro b' hb'
    have hne : b' ≠ lb := by rintro rfl; exact n3 hb'
    rw [Below.heap_setCell _ _ _ b' hne, Below.heap_setCell _ _ _ b' hne, Below.heap_setCell _ _ _ b' hne]
theorem WAt.back (h : WAt w r lb c vb S B) {v' : Value} {B' : List Nat} (hv : RowAt w 3 eI 1 v' B') (hb : v'.ownBlock ≠ some r) : WAt (w.setCell ⟨r, 1, none⟩ v') r lb c v' S B' := by
  obtain ⟨A, hl, hA⟩ := h.hl
  exact ⟨blk_setCell h.hp 1 _, ⟨A, blk_far hl _ (Ne.symm h.ne.1), hA⟩, hv.setCell _ _ hb⟩

set_option maxRecDepth 100000 in
set_option maxHeartbeats 2000000 in
theorem is_yes (h : WAt w r lb c vb S B) (n2 : S.length ≤ 4096) {k : Nat} {x g : Int} (hk : S[k]? = some (x, g, true)) :
    Calls Try.prog 21 #[.pointer (some ⟨r, 0, none⟩), .agg #[.int .i64 k, .int .u64 g]] w fun e w' => e = .returned (.bool true) ∧ Kp NoB w w' := by
  have Lp := h.cs
  have Le := h.es hk
  have hkl := (List.getElem?_eq_some_iff.1 hk).1
  have up := ups Lp.2.2.2.2
  have ul := ups Le.2.2.2.2.2.2
  have b1 : (0 : Int) ≤ (k : Int) := Int.natCast_nonneg _
  have b2 : (k : Int) < (S.length : Int) := by omega
  have b3 : ¬ S.length ≤ k := by omega
  clear h hk
  go_enter Try.func21, Try.ntmps21
  go_wp2_with fail
  refine wp_region_G (fun _ => True) [(0, .at_), (1, .at_), (2, .at_), (3, .at_), (4, .at_), (5, .at_), (6, .at_), (7, .at_), (8, .at_), (9, .at_), (10, .at_), (11, .at_), (12, .at_), (13, .at_), (14, .at_), (15, .at_), (16, .at_), (17, .at_), (18, .at_), (19, .at_), (20, .at_), (21, .at_), (22, .at_), (23, .at_), (24, .at_), (25, .at_), (26, .at_), (27, .at_), (28, .at_), (29, .at_), (30, .at_), (31, .at_), (32, .at_), (33, .at_), (34, .at_), (35, .at_), (36, .at_), (37, .at_), (38, .at_)] ?L1 (by kernel_rfl) (by kernel_rfl) ?hL1 (trivial) ?hG1
  case hL1 => simp only [pickOps, List.map_cons, List.map_nil, List.getD_cons_zero, List.getD_cons_succ]; rfl
  repeat (first | (refine wpG_at (v := ?_) (by rfl) ?_ ?_; rotate_left; (focus (first | (go_simp; with_reducible rfl) | (go_simp; done))); simp only [Act.put, List.setIfInBounds_toArray, List.set_cons_zero, List.set_cons_succ]) | (refine wpG_at_skip (by rfl) ?_; simp only [Act.put, List.setIfInBounds_toArray, List.set_cons_zero, List.set_cons_succ]) | (refine wpG_held_skip (by rfl) ?_; simp only [Act.put, List.setIfInBounds_toArray, List.set_cons_zero, List.set_cons_succ]) | (refine wpG_held (v := ?_) (by rfl) ?_ ?_; rotate_left; (focus (intro w' hSw; (try dsimp only at hSw); go_split_ands; first | (go_simp; with_reducible rfl) | (go_simp; done))); simp only [Act.put, List.setIfInBounds_toArray, List.set_cons_zero, List.set_cons_succ]))
  refine wpG_nil (NoPanic.normal ?_)
  go_wp2_with fail
  go_ret
  exact ⟨rfl, ((Kp.refl _ w).alloc _).drew⟩
set_option maxRecDepth 100000 in
set_option maxHeartbeats 4000000 in
theorem is_no (h : WAt w r lb c vb S B) (n2 : S.length ≤ 4096) {i g : Int} (hn : ¬ HOk S i g) :
    Calls Try.prog 21 #[.pointer (some ⟨r, 0, none⟩), .agg #[.int .i64 i, .int .u64 g]] w fun e w' => e = .returned (.bool false) ∧ Kp NoB w w' := by
  have Lp := h.cs
  have up := ups Lp.2.2.2.2
  by_cases h0 : i < 0
  · have h0' : ¬ 0 ≤ i := by omega
    have h0d : decide (0 ≤ i) = false := by simpa using h0'
    clear h hn
    go_enter Try.func21, Try.ntmps21
    go_wp2_with fail
    refine wp_region_G (fun _ => True) [(0, .at_), (1, .at_), (2, .at_), (3, .at_), (4, .at_), (5, .at_), (6, .at_), (7, .at_), (8, .at_), (9, .at_), (10, .at_), (11, .at_), (12, .at_), (13, .at_), (14, .at_), (15, .at_), (16, .at_), (17, .at_), (18, .at_), (19, .at_), (20, .at_), (21, .at_), (22, .at_), (23, .at_), (24, .at_), (25, .at_), (26, .at_), (27, .at_), (28, .at_), (29, .at_), (30, .at_), (31, .at_), (32, .at_), (33, .at_), (34, .at_), (35, .at_), (36, .at_), (37, .at_), (38, .at_)] ?L2 (by kernel_rfl) (by kernel_rfl) ?hL2 (trivial) ?hG2
    case hL2 => simp only [pickOps, List.map_cons, List.map_nil, List.getD_cons_zero, List.getD_cons_succ]; rfl
    repeat (first | (refine wpG_at (v := ?_) (by rfl) ?_ ?_; rotate_left; (focus (first | (go_simp; with_reducible rfl) | (go_simp; done))); simp only [Act.put, List.setIfInBounds_toArray, List.set_cons_zero, List.set_cons_succ]) | (refine wpG_at_skip (by rfl) ?_; simp only [Act.put, List.setIfInBounds_toArray, List.set_cons_zero, List.set_cons_succ]) | (refine wpG_held_skip (by rfl) ?_; simp only [Act.put, List.setIfInBounds_toArray, List.set_cons_zero, List.set_cons_succ]) | (refine wpG_held (v := ?_) (by rfl) ?_ ?_; rotate_left; (focus (intro w' hSw; (try dsimp only at hSw); go_split_ands; first | (go_simp; with_reducible rfl) | (go_simp; done))); simp only [Act.put, List.setIfInBounds_toArray, List.set_cons_zero, List.set_cons_succ]))
    refine wpG_nil (NoPanic.normal ?_)
    go_wp2_with fail
    go_ret
    exact ⟨rfl, ((Kp.refl _ w).alloc _).drew⟩
  · obtain ⟨k, rfl⟩ : ∃ k : Nat, i = k := ⟨i.toNat, by omega⟩
    have b1 : (0 : Int) ≤ (k : Int) := Int.natCast_nonneg _
    by_cases h1 : S.length ≤ k
    · have h2 : ¬ (k : Int) < (S.length : Int) := by omega
      have h3 : ¬ k < S.length := by omega
      clear h hn
      go_enter Try.func21, Try.ntmps21
      go_wp2_with fail
      refine wp_region_G (fun _ => True) [(0, .at_), (1, .at_), (2, .at_), (3, .at_), (4, .at_), (5, .at_), (6, .at_), (7, .at_), (8, .at_), (9, .at_), (10, .at_), (11, .at_), (12, .at_), (13, .at_), (14, .at_), (15, .at_), (16, .at_), (17, .at_), (18, .at_), (19, .at_), (20, .at_), (21, .at_), (22, .at_), (23, .at_), (24, .at_), (25, .at_), (26, .at_), (27, .at_), (28, .at_), (29, .at_), (30, .at_), (31, .at_), (32, .at_), (33, .at_), (34, .at_), (35, .at_), (36, .at_), (37, .at_), (38, .at_)] ?L3 (by kernel_rfl) (by kernel_rfl) ?hL3 (trivial) ?hG3
      case hL3 => simp only [pickOps, List.map_cons, List.map_nil, List.getD_cons_zero, List.getD_cons_succ]; rfl
      repeat (first | (refine wpG_at (v := ?_) (by rfl) ?_ ?_; rotate_left; (focus (first | (go_simp; with_reducible rfl) | (go_simp; done))); simp only [Act.put, List.setIfInBounds_toArray, List.set_cons_zero, List.set_cons_succ]) | (refine wpG_at_skip (by rfl) ?_; simp only [Act.put, List.setIfInBounds_toArray, List.set_cons_zero, List.set_cons_succ]) | (refine wpG_held_skip (by rfl) ?_; simp only [Act.put, List.setIfInBounds_toArray, List.set_cons_zero, List.set_cons_succ]) | (refine wpG_held (v := ?_) (by rfl) ?_ ?_; rotate_left; (focus (intro w' hSw; (try dsimp only at hSw); go_split_ands; first | (go_simp; with_reducible rfl) | (go_simp; done))); simp only [Act.put, List.setIfInBounds_toArray, List.set_cons_zero, List.set_cons_succ]))
      refine wpG_nil (NoPanic.normal ?_)
      go_wp2_with fail
      go_ret
      exact ⟨rfl, ((Kp.refl _ w).alloc _).drew⟩
    · obtain ⟨⟨x, g', b⟩, hk⟩ : ∃ s, S[k]? = some s := ⟨_, List.getElem?_eq_getElem (by omega)⟩
      have Le := h.es hk
      have ul := ups Le.2.2.2.2.2.2
      have b2 : (k : Int) < (S.length : Int) := by omega
      have b3 : k < S.length := by omega
      cases b
      · clear h hn hk
        go_enter Try.func21, Try.ntmps21
        go_wp2_with fail
        refine wp_region_G (fun _ => True) [(0, .at_), (1, .at_), (2, .at_), (3, .at_), (4, .at_), (5, .at_), (6, .at_), (7, .at_), (8, .at_), (9, .at_), (10, .at_), (11, .at_), (12, .at_), (13, .at_), (14, .at_), (15, .at_), (16, .at_), (17, .at_), (18, .at_), (19, .at_), (20, .at_), (21, .at_), (22, .at_), (23, .at_), (24, .at_), (25, .at_), (26, .at_), (27, .at_), (28, .at_), (29, .at_), (30, .at_), (31, .at_), (32, .at_), (33, .at_), (34, .at_), (35, .at_), (36, .at_), (37, .at_), (38, .at_)] ?L4 (by kernel_rfl) (by kernel_rfl) ?hL4 (trivial) ?hG4
        case hL4 => simp only [pickOps, List.map_cons, List.map_nil, List.getD_cons_zero, List.getD_cons_succ]; rfl
        repeat (first | (refine wpG_at (v := ?_) (by rfl) ?_ ?_; rotate_left; (focus (first | (go_simp; with_reducible rfl) | (go_simp; done))); simp only [Act.put, List.setIfInBounds_toArray, List.set_cons_zero, List.set_cons_succ]) | (refine wpG_at_skip (by rfl) ?_; simp only [Act.put, List.setIfInBounds_toArray, List.set_cons_zero, List.set_cons_succ]) | (refine wpG_held_skip (by rfl) ?_; simp only [Act.put, List.setIfInBounds_toArray, List.set_cons_zero, List.set_cons_succ]) | (refine wpG_held (v := ?_) (by rfl) ?_ ?_; rotate_left; (focus (intro w' hSw; (try dsimp only at hSw); go_split_ands; first | (go_simp; with_reducible rfl) | (go_simp; done))); simp only [Act.put, List.setIfInBounds_toArray, List.set_cons_zero, List.set_cons_succ]))
        refine wpG_nil (NoPanic.normal ?_)
        go_wp2_with fail
        go_ret
        exact ⟨rfl, ((Kp.refl _ w).alloc _).drew⟩
      · have hg : (g' == g) = false := by
          simp
          rintro rfl
          exact hn ⟨k, x, rfl, hk⟩
        clear h hn hk
        go_enter Try.func21, Try.ntmps21
        go_wp2_with fail
        refine wp_region_G (fun _ => True) [(0, .at_), (1, .at_), (2, .at_), (3, .at_), (4, .at_), (5, .at_), (6, .at_), (7, .at_), (8, .at_), (9, .at_), (10, .at_), (11, .at_), (12, .at_), (13, .at_), (14, .at_), (15, .at_), (16, .at_), (17, .at_), (18, .at_), (19, .at_), (20, .at_), (21, .at_), (22, .at_), (23, .at_), (24, .at_), (25, .at_), (26, .at_), (27, .at_), (28, .at_), (29, .at_), (30, .at_), (31, .at_), (32, .at_), (33, .at_), (34, .at_), (35, .at_), (36, .at_), (37, .at_), (38, .at_)] ?L5 (by kernel_rfl) (by kernel_rfl) ?hL5 (trivial) ?hG5
        case hL5 => simp only [pickOps, List.map_cons, List.map_nil, List.getD_cons_zero, List.getD_cons_succ]; rfl
        repeat (first | (refine wpG_at (v := ?_) (by rfl) ?_ ?_; rotate_left; (focus (first | (go_simp; with_reducible rfl) | (go_simp; done))); simp only [Act.put, List.setIfInBounds_toArray, List.set_cons_zero, List.set_cons_succ]) | (refine wpG_at_skip (by rfl) ?_; simp only [Act.put, List.setIfInBounds_toArray, List.set_cons_zero, List.set_cons_succ]) | (refine wpG_held_skip (by rfl) ?_; simp only [Act.put, List.setIfInBounds_toArray, List.set_cons_zero, List.set_cons_succ]) | (refine wpG_held (v := ?_) (by rfl) ?_ ?_; rotate_left; (focus (intro w' hSw; (try dsimp only at hSw); go_split_ands; first | (go_simp; with_reducible rfl) | (go_simp; done))); simp only [Act.put, List.setIfInBounds_toArray, List.set_cons_zero, List.set_cons_succ]))
        refine wpG_nil (NoPanic.normal ?_)
        go_wp2_with fail
        go_ret
        exact ⟨rfl, ((Kp.refl _ w).alloc _).drew⟩
theorem ever_any (h : WAt w r lb c vb S B) (n2 : S.length ≤ 4096) {k : Nat} {x g : Int} {b : Bool} (hk : S[k]? = some (x, g, b)) :
    Calls Try.prog 34 #[.pointer (some ⟨r, 0, none⟩), .int .i64 k] w fun e w' => e = .returned (.bool (b || decide (1 < g))) ∧ w = w' := by
  have Lp := h.cs
  have Le := h.es hk
  have hkl := (List.getElem?_eq_some_iff.1 hk).1
  have b1 : (0 : Int) ≤ (k : Int) := Int.natCast_nonneg _
  have b2 : (k : Int) < (S.length : Int) := by omega
  clear h hk
  cases b
  · go_enter Try.func34, Try.ntmps34
    go_wp2_with fail
    go_ret
    exact ⟨rfl, rfl⟩
  · go_enter Try.func34, Try.ntmps34
    go_wp2_with fail
    go_ret
    exact ⟨rfl, rfl⟩
set_option maxRecDepth 100000 in
set_option maxHeartbeats 2000000 in
theorem rroom_any (h : WAt w r lb c vb S B) (n2 : S.length ≤ 4096) :
    Calls Try.prog 33 #[.pointer (some ⟨r, 0, none⟩)] w fun e w' => ∃ n : Nat, e = .returned (.int .i64 n) ∧ FreeN S n ∧ w = w' := by
  have Lp := h.cs
  go_enter Try.func33, Try.ntmps33
  go_wp2_with fail
  go_loop [3, 4] (fun a i => ∃ (n j : Nat), j ≤ S.length ∧ i = .int .i64 j ∧ a = .int .i64 n ∧ n ≤ j ∧ Hid (n = 0 ↔ ∀ (i : Nat) (s : Int × Int × Bool), i < j → S[i]? = some s → s.2.2 = true)) (fun _ i => S.length - (intOf i).toNat)
  case atStart => exact ⟨0, 0, Nat.zero_le _, rfl, rfl, Nat.zero_le _, hid (by simp)⟩
  case round =>
    obtain ⟨n, j, hj, rfl, rfl, hnj, hN⟩ := hrel
    by_cases hlt : j < S.length
    · obtain ⟨⟨x, g, b⟩, hk⟩ : ∃ s, S[j]? = some s := ⟨_, List.getElem?_eq_getElem hlt⟩
      have Le := h.es hk
      have b1 : (0 : Int) ≤ (j : Int) := Int.natCast_nonneg _
      have b2 : (j : Int) < (S.length : Int) := by omega
      replace hk := hid hk
      cases b
      · go_wp2_with fail
        go_round
        case rel => exact ⟨n + 1, j + 1, by omega, by go_num, by go_num, by omega, hid (by
          refine ⟨fun h => absurd h (by omega), fun h => ?_⟩
          have := h j _ (by omega) hk.out
          cases this)⟩
        case measure => simp [intOf]; omega
      · go_wp2_with fail
        go_round
        case rel => exact ⟨n, j + 1, by omega, by go_num, rfl, by omega, hid (by
          rw [hN.out]
          refine ⟨fun h i s hi hs => ?_, fun h i s hi hs => h i s (by omega) hs⟩
          by_cases e : i = j
          · subst e; rw [hk.out] at hs; injection hs with hs; subst hs; rfl
          · exact h i s (by omega) hs)⟩
        case measure => simp [intOf]; omega
    · obtain rfl : j = S.length := by omega
      go_wp2_with fail
      go_ret
      refine ⟨n, rfl, ?_, rfl⟩
      unfold FreeN
      rw [hN.out]
      exact ⟨fun h i s hs => h i s (List.getElem?_eq_some_iff.1 hs).1 hs, fun h i s _ hs => h i s hs⟩
end
end Go.Proofs.Ytldkogdkadgnkaa
