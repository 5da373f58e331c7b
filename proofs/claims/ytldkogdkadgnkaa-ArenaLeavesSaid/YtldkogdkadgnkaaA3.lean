/- Walks through an arena: Get, Set and the closure of Free. -/
import Derived.Test.YtldkogdkadgnkaaA2
namespace Go.Proofs.Ytldkogdkadgnkaa
set_option linter.unusedSimpArgs false
set_option linter.unusedVariables false
open Go.RowKit
attribute [local go_sem ↓] Go.wp_at_zero Go.wp_at_succ
section
variable {w w' : World} {p l : Nat} {v : Value} {S : List (Int × Int × Bool)} {B : List Nat} {E : Nat}
theorem cf25 : ∀ args w, (callFunc 25 args).run Try.prog w = .ok (.enter 25 args) w := fun _ _ => rfl
theorem cf27 : ∀ args w, (callFunc 27 args).run Try.prog w = .ok (.enter 27 args) w := fun _ _ => rfl
theorem cf28 : ∀ args w, (callFunc 28 args).run Try.prog w = .ok (.enter 28 args) w := fun _ _ => rfl
set_option maxRecDepth 100000 in
set_option maxHeartbeats 2000000 in
theorem get_yes (h : AAt w p l v S B E) (o : AOk S B E) {k : Nat} {x g : Int} (hk : S[k]? = some (x, g, true)) :
    Calls Try.prog 10 #[.pointer (some ⟨p, 0, none⟩), .agg #[.int .i64 k, .int .u64 g]] w fun e w' => e = .returned (.tuple #[.int .i64 x, .int .i64 0]) ∧ Kp NoB w w' := by
  have hmf : ∀ (fn : Fn) (first cap : Array Value) (w : World), (Instr.makeFunc fn first cap).run Try.prog w = .ok (.func fn first cap) w := fun _ _ _ _ => rfl
  have HW := hid (with_do (Post := fun w' => w'.heap[w.heap.size + 1]? = some (.cells #[.int .i64 x] 3 (0, 0)) ∧ Kp NoB w w') (caps := #[.pointer (some ⟨w.heap.size + 1, 0, none⟩)]) ((h.alloc (.cells #[.int .i64 k, .int .u64 g] 36)).alloc (.cells #[.int .i64 0] 3)) o hk cf25 (fun W k1 => by
    have hc := k1.get (blk_new' (w.alloc (.cells #[.int .i64 k, .int .u64 g] 36)) (.cells #[.int .i64 0] 3) (n := w.heap.size + 1) (by simp)) (fun h => h)
    refine (getf_any (((h.alloc _).alloc _).kn k1 |>.es hk).1 hc).mono ?_
    rintro e w1 ⟨rfl, rfl⟩
    exact ⟨rfl, blk_setCell hc 0 _, ((((Kp.refl _ w).alloc _).alloc _).trans k1).setCell _ (fun h => absurd h (by simp))⟩))
  clear h hk
  go_enter Try.func10, Try.ntmps10
  go_wp2_with fail
  refine HW.out.mono ?_
  rintro e w1 ⟨rfl, h1, k1⟩
  have L1 := loc1 h1
  clear h1
  go_wp2_with fail
  refine bodyPost_ret (v := .tuple #[.int .i64 x, .int .i64 0]) (by simp [results, Try.results10, go_sem, L1]) rfl ⟨rfl, ?_⟩
  exact k1.setCell _ (fun h => absurd h (by simp))
set_option maxRecDepth 100000 in
set_option maxHeartbeats 2000000 in
theorem get_no (h : AAt w p l v S B E) (o : AOk S B E) {i g : Int} (hn : ¬ HOk S i g) :
    Calls Try.prog 10 #[.pointer (some ⟨p, 0, none⟩), .agg #[.int .i64 i, .int .u64 g]] w fun e w' => e = .returned (.tuple #[.int .i64 0, .int .i64 5]) ∧ Kp NoB w w' := by
  have hmf : ∀ (fn : Fn) (first cap : Array Value) (w : World), (Instr.makeFunc fn first cap).run Try.prog w = .ok (.func fn first cap) w := fun _ _ _ _ => rfl
  have HW := hid (fun dv => with_no (dv := dv) ((h.alloc (.cells #[.int .i64 i, .int .u64 g] 36)).alloc (.cells #[.int .i64 0] 3)) o hn)
  clear h hn
  go_enter Try.func10, Try.ntmps10
  go_wp2_with fail
  refine (HW.out _).mono ?_
  rintro e w1 ⟨rfl, k1⟩
  have L1 := loc1 (k1.get (blk_new' (w.alloc (.cells #[.int .i64 i, .int .u64 g] 36)) (.cells #[.int .i64 0] 3) (n := w.heap.size + 1) (by simp)) (fun h => h))
  go_wp2_with fail
  refine bodyPost_ret (v := .tuple #[.int .i64 0, .int .i64 5]) (by simp [results, Try.results10, go_sem, L1]) rfl ⟨rfl, ?_⟩
  exact ((((Kp.refl _ w).alloc _).alloc _).trans k1).setCell _ (fun h => absurd h (by simp))
theorem set_cell (h : AAt w p l v S B E) {k : Nat} {x g y : Int} {b : Bool} (hk : S[k]? = some (x, g, b)) : AAt (w.setCell ⟨l, k * 3, none⟩ (.int .i64 y)) p l v (S.set k (y, g, b)) B E := by
  obtain ⟨n1, n2, n3⟩ := h.ne
  have hkl := (List.getElem?_eq_some_iff.1 hk).1
  refine h.set hkl ?_ (Below.heap_setCell w _ _ p n1) (fun b' hb' => Below.heap_setCell w _ _ b' (by rintro rfl; exact n3 hb'))
  rw [blk_setCell h.hl]
  congr 2
  apply Array.ext_getElem?
  intro q
  have hsz : k * 3 + 3 ≤ (rows eS S).size := by rw [rows_size eS_len]; omega
  rw [setRow_get _ _ _ _ (by rw [eS_len]; exact hsz), eS_len]
  have g1 := rows_get eS_len (j := 1) hk (by omega)
  have g2 := rows_get eS_len (j := 2) hk (by omega)
  by_cases c : k * 3 = q
  · subst c
    rw [if_pos (by omega), Array.getElem?_setIfInBounds_self, if_pos (by omega), Nat.sub_self]; rfl
  · rw [Array.getElem?_setIfInBounds_ne c]
    split
    · rename_i hq
      rcases (by omega : q = k * 3 + 1 ∨ q = k * 3 + 2) with rfl | rfl
      · rw [g1, show k * 3 + 1 - k * 3 = 1 from by omega]; rfl
      · rw [g2, show k * 3 + 2 - k * 3 = 2 from by omega]; rfl
    · rfl
set_option maxRecDepth 100000 in
set_option maxHeartbeats 2000000 in
theorem set_yes (h : AAt w p l v S B E) (o : AOk S B E) {k : Nat} {x g : Int} (y : Int) (hk : S[k]? = some (x, g, true)) :
    Calls Try.prog 13 #[.pointer (some ⟨p, 0, none⟩), .agg #[.int .i64 k, .int .u64 g], .int .i64 y] w fun e w' => e = .returned (.int .i64 0) ∧ AAt w' p l v (S.set k (y, g, true)) B E ∧ Kp (· = l) w w' := by
  have hmf : ∀ (fn : Fn) (first cap : Array Value) (w : World), (Instr.makeFunc fn first cap).run Try.prog w = .ok (.func fn first cap) w := fun _ _ _ _ => rfl
  have HW := hid (with_do (Post := fun w' => AAt w' p l v (S.set k (y, g, true)) B E ∧ Kp (· = l) w w') (caps := #[.pointer (some ⟨w.heap.size + 1, 0, none⟩)]) ((h.alloc (.cells #[.int .i64 k, .int .u64 g] 36)).alloc (.cells #[.int .i64 y] 3)) o hk cf27 (fun W k1 => by
    have hc := k1.get (blk_new' (w.alloc (.cells #[.int .i64 k, .int .u64 g] 36)) (.cells #[.int .i64 y] 3) (n := w.heap.size + 1) (by simp)) (fun h => h)
    have hA := ((h.alloc (.cells #[.int .i64 k, .int .u64 g] 36)).alloc (.cells #[.int .i64 y] 3)).kn k1
    have Le := hA.es hk
    refine (setf_any Le.1 Le.2.2.2.1 hc).mono ?_
    rintro e w1 ⟨rfl, rfl⟩
    exact ⟨rfl, set_cell hA hk, (((((Kp.refl _ w).alloc _).alloc _).trans k1).mono (fun _ h => h.elim)).setCell _ (fun _ => rfl)⟩))
  clear h hk
  go_enter Try.func13, Try.ntmps13
  go_wp2_with fail
  refine HW.out.mono ?_
  rintro e w1 ⟨rfl, h1, k1⟩
  go_wp2_with fail
  go_ret
  exact ⟨rfl, h1, k1⟩
set_option maxRecDepth 100000 in
set_option maxHeartbeats 2000000 in
theorem set_no (h : AAt w p l v S B E) (o : AOk S B E) {i g y : Int} (hn : ¬ HOk S i g) :
    Calls Try.prog 13 #[.pointer (some ⟨p, 0, none⟩), .agg #[.int .i64 i, .int .u64 g], .int .i64 y] w fun e w' => e = .returned (.int .i64 5) ∧ Kp NoB w w' := by
  have hmf : ∀ (fn : Fn) (first cap : Array Value) (w : World), (Instr.makeFunc fn first cap).run Try.prog w = .ok (.func fn first cap) w := fun _ _ _ _ => rfl
  have HW := hid (fun dv => with_no (dv := dv) ((h.alloc (.cells #[.int .i64 i, .int .u64 g] 36)).alloc (.cells #[.int .i64 y] 3)) o hn)
  clear h hn
  go_enter Try.func13, Try.ntmps13
  go_wp2_with fail
  refine (HW.out _).mono ?_
  rintro e w1 ⟨rfl, k1⟩
  go_wp2_with fail
  go_ret
  exact ⟨rfl, (((Kp.refl _ w).alloc _).alloc _).trans k1⟩
/-- back, less one more -/
theorem i3 : (Try.prog.info? 3).map (fun i => (i.zero, i.size, i.bytes)) = some (some (.int .i64 0), 1, 8) := by kernel_rfl
theorem u43 : Try.prog.underlying 43 = some (.slice 3) := by kernel_rfl
theorem cells3 (h : AAt w p l v S B E) {k : Nat} (hk : k < S.length) (s : Int × Int × Bool) : AAt (((w.setCell ⟨l, k * 3, none⟩ (.int .i64 s.1)).setCell ⟨l, k * 3 + 1, none⟩ (.int .u64 s.2.1)).setCell ⟨l, k * 3 + 2, none⟩ (.bool s.2.2)) p l v (S.set k s) B E := by
  obtain ⟨n1, n2, n3⟩ := h.ne
  refine h.set hk ?_ ?_ ?_
  · rw [blk_setCell (blk_setCell (blk_setCell h.hl (k * 3) (.int .i64 s.1)) (k * 3 + 1) (.int .u64 s.2.1)) (k * 3 + 2) (.bool s.2.2)]; rfl
  · rw [Below.heap_setCell _ _ _ p n1, Below.heap_setCell _ _ _ p n1, Below.heap_setCell _ _ _ p n1]
  · intro b' hb'
    have hne : b' ≠ l := by rintro rfl; exact n3 hb'
    rw [Below.heap_setCell _ _ _ b' hne, Below.heap_setCell _ _ _ b' hne, Below.heap_setCell _ _ _ b' hne]
set_option maxRecDepth 100000 in
set_option maxHeartbeats 4000000 in
theorem freef_any (h : AAt w p l v S B E) (o : AOk S B E) (hbl : B.length < 4096) {k c1 c2 : Nat} {x g : Int} {b : Bool} (hk : S[k]? = some (x, g, b))
    (h1 : w.heap[c1]? = some (.cells #[.pointer (some ⟨p, 0, none⟩)] 28 (0, 0))) (h2 : w.heap[c2]? = some (.cells #[.int .i64 k, .int .u64 g] 36 (0, 0))) :
    Calls Try.prog 28 #[.pointer (some ⟨l, k * 3, none⟩), .pointer (some ⟨c1, 0, none⟩), .pointer (some ⟨c2, 0, none⟩)] w fun e w' => e = .returned (.tuple #[]) ∧
      ∃ v', AAt w' p l v' (S.set k (0, IntKind.u64.wrap (g + 1), false)) (B ++ [k]) E ∧ (v'.ownBlock = v.ownBlock ∨ ∃ b, v'.ownBlock = some b ∧ w.heap.size ≤ b) ∧ Kp (fun b => b = p ∨ b = l ∨ v.ownBlock = some b) w w' := by
  have Lp := h.cs
  have Le := h.es hk
  have L1 := loc1 h1
  have L2 := loc2 h2
  have n1 := ne_of_types h1 h.hl (by decide)
  have n2 := ne_of_types h2 h.hl (by decide)
  have n3 := ne_of_types h1 h.hp (by decide)
  have n4 := ne_of_types h2 h.hp (by decide)
  have n5 := h.hv.ne h1 (by decide)
  have n6 := h.hv.ne h2 (by decide)
  obtain ⟨m1, m2, m3⟩ := h.ne
  go_enter Try.func28, Try.ntmps28
  go_wp2_with fail
  have K1 : Kp (fun b => b = p ∨ b = l ∨ v.ownBlock = some b) w (((w.setCell ⟨l, k * 3, none⟩ (.int .i64 0)).setCell ⟨l, k * 3 + 1, none⟩ (.int .u64 (IntKind.u64.wrap (g + 1)))).setCell ⟨l, k * 3 + 2, none⟩ (.bool false)) :=
    (((Kp.refl _ w).setCell _ (fun _ => .inr (.inl rfl))).setCell _ (fun _ => .inr (.inl rfl))).setCell _ (fun _ => .inr (.inl rfl))
  have HA := cells3 h (List.getElem?_eq_some_iff.1 hk).1 (0, IntKind.u64.wrap (g + 1), false)
  have Hc1 := blk_far (blk_far (blk_far h1 (a := ⟨l, k * 3, none⟩) (.int .i64 0) n1) (a := ⟨l, k * 3 + 1, none⟩) (.int .u64 (IntKind.u64.wrap (g + 1))) n1) (a := ⟨l, k * 3 + 2, none⟩) (.bool false) n1
  have Hc2 := blk_far (blk_far (blk_far h2 (a := ⟨l, k * 3, none⟩) (.int .i64 0) n2) (a := ⟨l, k * 3 + 1, none⟩) (.int .u64 (IntKind.u64.wrap (g + 1))) n2) (a := ⟨l, k * 3 + 2, none⟩) (.bool false) n2
  dsimp only at HA
  generalize ((w.setCell ⟨l, k * 3, none⟩ (.int .i64 0)).setCell ⟨l, k * 3 + 1, none⟩ (.int .u64 (IntKind.u64.wrap (g + 1)))).setCell ⟨l, k * 3 + 2, none⟩ (.bool false) = W at *
  clear Lp Le L1 L2 h1 h2 h hk
  have Lp := HA.cs
  have L1 := loc1 Hc1
  have L2 := loc2 Hc2
  replace K1 := hid K1
  replace HA := hid HA
  replace Hc1 := hid Hc1
  replace Hc2 := hid Hc2
  refine wp_region_G (fun W => W.cell? ⟨c1, 0, none⟩ = some (.pointer (some ⟨p, 0, none⟩)) ∧ W.cell? ⟨p, 1, none⟩ = some v) [(0, .held), (1, .held), (2, .held), (3, .held), (4, .held), (5, .at_), (6, .at_), (7, .eff), (8, .eff), (9, .at_), (10, .at_), (11, .fin)] ?L1 (by kernel_rfl) (by kernel_rfl) ?hL1 (⟨L1.1, Lp.2.1⟩) ?hG1
  case hL1 => simp only [pickOps, List.map_cons, List.map_nil, List.getD_cons_zero, List.getD_cons_succ]; rfl
  repeat (first | (refine wpG_at (v := ?_) (by rfl) ?_ ?_; rotate_left; (focus (first | (go_simp; with_reducible rfl) | (go_simp; done))); simp only [Act.put, List.setIfInBounds_toArray, List.set_cons_zero, List.set_cons_succ]) | (refine wpG_at_skip (by rfl) ?_; simp only [Act.put, List.setIfInBounds_toArray, List.set_cons_zero, List.set_cons_succ]) | (refine wpG_held_skip (by rfl) ?_; simp only [Act.put, List.setIfInBounds_toArray, List.set_cons_zero, List.set_cons_succ]) | (refine wpG_held (v := ?_) (by rfl) ?_ ?_; rotate_left; (focus (intro w' hSw; (try dsimp only at hSw); go_split_ands; first | (go_simp; with_reducible rfl) | (go_simp; done))); simp only [Act.put, List.setIfInBounds_toArray, List.set_cons_zero, List.set_cons_succ]))
  refine wpG_eff (by rfl) (fun K hK => ?_)
  go_simp
  refine hK _ _ (by refine ⟨?_, ?_⟩ <;> go_simp) ?_
  clear hK K
  repeat (first | (refine wpG_at (v := ?_) (by rfl) ?_ ?_; rotate_left; (focus (first | (go_simp; with_reducible rfl) | (go_simp; done))); simp only [Act.put, List.setIfInBounds_toArray, List.set_cons_zero, List.set_cons_succ]) | (refine wpG_at_skip (by rfl) ?_; simp only [Act.put, List.setIfInBounds_toArray, List.set_cons_zero, List.set_cons_succ]) | (refine wpG_held_skip (by rfl) ?_; simp only [Act.put, List.setIfInBounds_toArray, List.set_cons_zero, List.set_cons_succ]) | (refine wpG_held (v := ?_) (by rfl) ?_ ?_; rotate_left; (focus (intro w' hSw; (try dsimp only at hSw); go_split_ands; first | (go_simp; with_reducible rfl) | (go_simp; done))); simp only [Act.put, List.setIfInBounds_toArray, List.set_cons_zero, List.set_cons_succ]))
  refine wpG_eff (by rfl) (fun K hK => ?_)
  refine wp_grow eI_len (by omega) _ _ 43 3 _ 8 rfl u43 i3 rfl v B rfl ((HA.out.drew.alloc _).hv) W.heap.size 1 [k] rfl #[.int .i64 k] 3 (blk_new' _ _ (by simp)) (by intro a j x ha hj; match a, j, ha with | 0, 0, ha => simp at ha; subst ha; rfl) (by simp [eI, Value.oneCell']) (by simp; omega) (by omega) ?_
  intro v' w' q1 q2 q3
  obtain ⟨ov, cv, hv', _⟩ := q1.form
  subst hv'
  rw [show (B ++ [k]).length = B.length + 1 from by simp] at q1 q3
  have hp' := grown_get q2 ((HA.out.drew.alloc (.cells #[.int .i64 k] 3)).hp) m2
  have hl' := grown_get q2 ((HA.out.drew.alloc (.cells #[.int .i64 k] 3)).hl) m3
  have Lp' := loc3 hp'
  have hc1' := loc1 (grown_get q2 (blk_alloc (o' := .cells #[.int .i64 k] 3) (blk_drew Hc1.out)) n5)
  refine hK _ _ ⟨hc1'.1, Lp'.2.1⟩ ?_
  clear hK K
  clear Lp L1 L2
  repeat (first | (refine wpG_at (v := ?_) (by rfl) ?_ ?_; rotate_left; (focus (first | (go_simp; with_reducible rfl) | (go_simp; done))); simp only [Act.put, List.setIfInBounds_toArray, List.set_cons_zero, List.set_cons_succ]) | (refine wpG_at_skip (by rfl) ?_; simp only [Act.put, List.setIfInBounds_toArray, List.set_cons_zero, List.set_cons_succ]) | (refine wpG_held_skip (by rfl) ?_; simp only [Act.put, List.setIfInBounds_toArray, List.set_cons_zero, List.set_cons_succ]) | (refine wpG_held (v := ?_) (by rfl) ?_ ?_; rotate_left; (focus (intro w' hSw; (try dsimp only at hSw); go_split_ands; first | (go_simp; with_reducible rfl) | (go_simp; done))); simp only [Act.put, List.setIfInBounds_toArray, List.set_cons_zero, List.set_cons_succ]))
  refine wpG_fin (by rfl) (fun K hK => ?_)
  go_simp
  refine hK _ _ ?_
  clear hK K
  repeat (first | (refine wpG_at (v := ?_) (by rfl) ?_ ?_; rotate_left; (focus (first | (go_simp; with_reducible rfl) | (go_simp; done))); simp only [Act.put, List.setIfInBounds_toArray, List.set_cons_zero, List.set_cons_succ]) | (refine wpG_at_skip (by rfl) ?_; simp only [Act.put, List.setIfInBounds_toArray, List.set_cons_zero, List.set_cons_succ]) | (refine wpG_held_skip (by rfl) ?_; simp only [Act.put, List.setIfInBounds_toArray, List.set_cons_zero, List.set_cons_succ]) | (refine wpG_held (v := ?_) (by rfl) ?_ ?_; rotate_left; (focus (intro w' hSw; (try dsimp only at hSw); go_split_ands; first | (go_simp; with_reducible rfl) | (go_simp; done))); simp only [Act.put, List.setIfInBounds_toArray, List.set_cons_zero, List.set_cons_succ]))
  refine wpG_nil (NoPanic.normal ?_)
  go_wp2_with fail
  go_end0
  refine ⟨rfl, _, ⟨blk_setCell hp' 1 _, blk_far hl' _ (Ne.symm m1), q1.setCell _ _ ?_⟩, ?_, ?_⟩
  · intro hv'
    dsimp only at hv'
    rcases q3 with q | ⟨b', q, hb'⟩
    · exact m2 (q.symm.trans hv')
    · rw [hv'] at q
      injection q with q
      subst q
      have h5 : p < (W.drew.alloc (.cells #[.int .i64 k] 3)).heap.size := (HA.out.drew.alloc (.cells #[.int .i64 k] 3)).lt.1
      have h6 : (W.drew.alloc (.cells #[.int .i64 k] 3)).heap.size ≤ p := hb'
      exact Nat.lt_irrefl _ (Nat.lt_of_lt_of_le h5 h6)
  · rcases q3 with q | ⟨b', q, hb'⟩
    · exact .inl q
    · refine .inr ⟨b', q, ?_⟩
      have := K1.out.size
      simp at hb'
      omega
  · have K2 := ((K1.out.drew.alloc (.cells #[.int .i64 k] 3)).trans (kp_grown q2 (fun b hb => .inr (.inr hb))))
    exact K2.setCell _ (fun _ => .inl rfl)
end
end Go.Proofs.Ytldkogdkadgnkaa
