/- Walks through an arena: Get, Set and the closure of Free. -/
import Derived.Test.YtaanbonbdhjbpaaGA2
namespace Go.Proofs.Ytaanbonbdhjbpaa
set_option linter.unusedSimpArgs false
set_option linter.unusedVariables false
open Go.RowKit
attribute [local go_sem ↓] Go.wp_at_zero Go.wp_at_succ
section
variable {w w' : World} {p l : Nat} {v : Value} {S : List Sl3} {B : List Nat} {E : Nat}
theorem cfG : ∀ args w, (callFunc 37 args).run Try.prog w = .ok (.enter 37 args) w := fun _ _ => rfl
theorem cfS : ∀ args w, (callFunc 38 args).run Try.prog w = .ok (.enter 38 args) w := fun _ _ => rfl
theorem cfF : ∀ args w, (callFunc 40 args).run Try.prog w = .ok (.enter 40 args) w := fun _ _ => rfl
theorem zX_arr : zX.1.toArray = #[.int .i64 0, .int .u8 0, .int .u8 0, .int .u8 0, .int .u8 0, .int .u8 0, .int .u8 0, .int .u8 0, .int .u8 0, .int .u8 0, .int .u8 0, .int .u8 0, .int .u8 0, .int .u8 0, .int .u8 0, .int .u8 0, .int .u8 0, .int .i64 0, .int .u64 0] := rfl
theorem rowX {W : World} {c : Nat} {y : X} (h : W.heap[c]? = some (.cells y.1.toArray 35 (0, 0))) : W.there c 0 19 := there_of h (by simp [y.len])
/-- a whole one put over another -/
theorem setRow_all (A B : List Value) (h : A.length = B.length) : setRow A.toArray 0 B = B.toArray := by
  apply Array.ext_getElem?
  intro i
  rw [setRow_get _ _ _ _ (by simp [h])]
  split
  · simp
  · rename_i hi
    rw [Array.getElem?_eq_none (by simp; omega), Array.getElem?_eq_none (by simp; omega)]
theorem putX {W : World} {c : Nat} {y : X} (h : W.heap[c]? = some (.cells y.1.toArray 35 (0, 0))) (x : X) : (W.setCells c 0 x.1).heap[c]? = some (.cells x.1.toArray 35 (0, 0)) := by
  rw [blk_setCells _ _ _ _ h, setRow_all _ _ (by rw [y.len, x.len])]
set_option maxRecDepth 100000 in
set_option maxHeartbeats 2000000 in
theorem get_yes (h : AAt w p l v S B E) (o : AOk S B E) {k : Nat} {x : X} {g : Int} (hk : S[k]? = some (x, g, true)) :
    Calls Try.prog 22 #[.pointer (some ⟨p, 0, none⟩), .agg #[.int .i64 k, .int .u64 g]] w fun e w' => e = .returned (.tuple #[.agg x.1.toArray, .int .i64 0]) ∧ Kp NoB w w' := by
  have hmf : ∀ (fn : Fn) (first cap : Array Value) (w : World), (Instr.makeFunc fn first cap).run Try.prog w = .ok (.func fn first cap) w := fun _ _ _ _ => rfl
  have HW := hid (with_do (Post := fun w' => w'.heap[w.heap.size + 1]? = some (.cells x.1.toArray 35 (0, 0)) ∧ Kp NoB w w') (caps := #[.pointer (some ⟨w.heap.size + 1, 0, none⟩)]) ((h.alloc (.cells #[.int .i64 k, .int .u64 g] 33)).alloc (.cells #[.int .i64 0, .int .u8 0, .int .u8 0, .int .u8 0, .int .u8 0, .int .u8 0, .int .u8 0, .int .u8 0, .int .u8 0, .int .u8 0, .int .u8 0, .int .u8 0, .int .u8 0, .int .u8 0, .int .u8 0, .int .u8 0, .int .u8 0, .int .i64 0, .int .u64 0] 35)) o hk cfG (fun W k1 => by
    have hc : W.heap[w.heap.size + 1]? = some (.cells zX.1.toArray 35 (0, 0)) := k1.get (blk_new' (w.alloc (.cells #[.int .i64 k, .int .u64 g] 33)) (.cells zX.1.toArray 35) (n := w.heap.size + 1) (by simp)) (fun h => h)
    refine (getf_any (((h.alloc _).alloc _).kn k1) hk hc).mono ?_
    rintro e w1 ⟨rfl, rfl⟩
    exact ⟨rfl, putX hc x, ((((Kp.refl _ w).alloc _).alloc _).trans k1).setCells _ (fun h => absurd h (by simp))⟩))
  clear h hk
  go_enter Try.func22, Try.ntmps22
  go_wp2_with fail
  refine HW.out.mono ?_
  rintro e w1 ⟨rfl, h1, k1⟩
  have Lx := whole_of h1
  have Ls := rowX h1
  have Ly := whole_of (putX h1 x)
  have k2 := k1.setCells (o := 0) x.1 (b := w.heap.size + 1) (fun h => absurd h (by simp))
  clear h1
  go_wp2_with (first | refine ldX rfl _ rfl _ _ rfl x Lx ?_ | refine stX rfl _ _ rfl _ _ x rfl rfl Ls ?_)
  exact bodyPost_ret (results_cell_tmp (p := 4) (q := 5) (by rfl) _ _ _ _ _ (by rfl) Ly structX (by rw [x.len]; exact infoX)) rfl ⟨rfl, k2⟩
set_option maxRecDepth 100000 in
set_option maxHeartbeats 2000000 in
theorem get_no (h : AAt w p l v S B E) (o : AOk S B E) {i g : Int} (hn : ¬ HOk S i g) :
    Calls Try.prog 22 #[.pointer (some ⟨p, 0, none⟩), .agg #[.int .i64 i, .int .u64 g]] w fun e w' => e = .returned (.tuple #[.agg zX.1.toArray, .int .i64 5]) ∧ Kp NoB w w' := by
  have hmf : ∀ (fn : Fn) (first cap : Array Value) (w : World), (Instr.makeFunc fn first cap).run Try.prog w = .ok (.func fn first cap) w := fun _ _ _ _ => rfl
  have HW := hid (fun dv => with_no (dv := dv) ((h.alloc (.cells #[.int .i64 i, .int .u64 g] 33)).alloc (.cells #[.int .i64 0, .int .u8 0, .int .u8 0, .int .u8 0, .int .u8 0, .int .u8 0, .int .u8 0, .int .u8 0, .int .u8 0, .int .u8 0, .int .u8 0, .int .u8 0, .int .u8 0, .int .u8 0, .int .u8 0, .int .u8 0, .int .u8 0, .int .i64 0, .int .u64 0] 35)) o hn)
  clear h hn
  go_enter Try.func22, Try.ntmps22
  go_wp2_with fail
  refine (HW.out _).mono ?_
  rintro e w1 ⟨rfl, k1⟩
  have h1 : w1.heap[w.heap.size + 1]? = some (.cells zX.1.toArray 35 (0, 0)) := k1.get (blk_new' (w.alloc (.cells #[.int .i64 i, .int .u64 g] 33)) (.cells zX.1.toArray 35) (n := w.heap.size + 1) (by simp)) (fun h => h)
  have Lx := whole_of h1
  have Ls := rowX h1
  have Ly := whole_of (putX h1 zX)
  have k2 := ((((Kp.refl _ w).alloc _).alloc _).trans k1).setCells (o := 0) zX.1 (b := w.heap.size + 1) (fun h => absurd h (by simp))
  clear h1
  go_wp2_with (first | refine ldX rfl _ rfl _ _ rfl zX Lx ?_ | refine stX rfl _ _ rfl _ _ zX rfl rfl Ls ?_)
  exact bodyPost_ret (results_cell_tmp (p := 4) (q := 5) (by rfl) _ _ _ _ _ (by rfl) Ly structX (by rw [zX.len]; exact infoX)) rfl ⟨rfl, k2⟩
theorem set_cell (h : AAt w p l v S B E) {k : Nat} {x y : X} {g : Int} {b : Bool} (hk : S[k]? = some (x, g, b)) : AAt (w.setCells l (k * 21) y.1) p l v (S.set k (y, g, b)) B E := by
  obtain ⟨n1, n2, n3⟩ := h.ne
  have hkl := (List.getElem?_eq_some_iff.1 hk).1
  refine h.set hkl ?_ (far_setCells n1 _ _ _) (fun b' hb' => far_setCells (by rintro rfl; exact n3 hb') _ _ _)
  rw [blk_setCells _ _ _ _ h.hl]
  congr 2
  apply Array.ext_getElem?
  intro q
  have hsz : k * 21 + 21 ≤ (rows eS S).size := by rw [rows_size eS_len]; omega
  rw [setRow_get _ _ _ _ (by rw [y.len]; omega), setRow_get _ _ _ _ (by rw [eS_len]; exact hsz), eS_len, y.len]
  have g1 := rows_get eS_len (j := 19) hk (by omega)
  have g2 := rows_get eS_len (j := 20) hk (by omega)
  by_cases c : k * 21 ≤ q ∧ q < k * 21 + 19
  · rw [if_pos c, if_pos (by omega), eS, List.getElem?_append_left (by rw [y.len]; omega)]
  · rw [if_neg c]
    split
    · rename_i hq
      rcases (by omega : q = k * 21 + 19 ∨ q = k * 21 + 20) with rfl | rfl
      · rw [g1, show k * 21 + 19 - k * 21 = 19 from by omega, eS_g, eS_g]
      · rw [g2, show k * 21 + 20 - k * 21 = 20 from by omega, eS_b, eS_b]
    · rfl
theorem put_cells (h : AAt w p l v S B E) {k : Nat} (hk : k < S.length) (s : Sl3) : AAt (w.setCells l (k * 21) (eS s)) p l v (S.set k s) B E := by
  obtain ⟨n1, n2, n3⟩ := h.ne
  exact h.set hk (blk_setCells _ _ _ _ h.hl) (far_setCells n1 _ _ _) (fun b' hb' => far_setCells (by rintro rfl; exact n3 hb') _ _ _)
set_option maxRecDepth 100000 in
set_option maxHeartbeats 2000000 in
theorem set_yes (h : AAt w p l v S B E) (o : AOk S B E) {k : Nat} {x : X} {g : Int} (y : X) (hk : S[k]? = some (x, g, true)) :
    Calls Try.prog 23 #[.pointer (some ⟨p, 0, none⟩), .agg #[.int .i64 k, .int .u64 g], .agg y.1.toArray] w fun e w' => e = .returned (.int .i64 0) ∧ AAt w' p l v (S.set k (y, g, true)) B E ∧ Kp (· = l) w w' := by
  have hmf : ∀ (fn : Fn) (first cap : Array Value) (w : World), (Instr.makeFunc fn first cap).run Try.prog w = .ok (.func fn first cap) w := fun _ _ _ _ => rfl
  have HW := hid (with_do (Post := fun w' => AAt w' p l v (S.set k (y, g, true)) B E ∧ Kp (· = l) w w') (caps := #[.pointer (some ⟨w.heap.size + 1, 0, none⟩)]) ((h.alloc (.cells #[.int .i64 k, .int .u64 g] 33)).alloc (.cells y.1.toArray 35)) o hk cfS (fun W k1 => by
    have hc := k1.get (blk_new' (w.alloc (.cells #[.int .i64 k, .int .u64 g] 33)) (.cells y.1.toArray 35) (n := w.heap.size + 1) (by simp)) (fun h => h)
    have hA := ((h.alloc (.cells #[.int .i64 k, .int .u64 g] 33)).alloc (.cells y.1.toArray 35)).kn k1
    refine (setf_any (List.getElem?_eq_some_iff.1 hk).1 hA hc).mono ?_
    rintro e w1 ⟨rfl, rfl⟩
    exact ⟨rfl, set_cell hA hk, (((((Kp.refl _ w).alloc _).alloc _).trans k1).mono (fun _ h => h.elim)).setCells _ (fun _ => rfl)⟩))
  clear h hk
  go_enter Try.func23, Try.ntmps23
  go_wp2_with fail
  refine HW.out.mono ?_
  rintro e w1 ⟨rfl, h1, k1⟩
  go_wp2_with fail
  go_ret
  exact ⟨rfl, h1, k1⟩
set_option maxRecDepth 100000 in
set_option maxHeartbeats 2000000 in
theorem set_no (h : AAt w p l v S B E) (o : AOk S B E) {i g : Int} {y : X} (hn : ¬ HOk S i g) :
    Calls Try.prog 23 #[.pointer (some ⟨p, 0, none⟩), .agg #[.int .i64 i, .int .u64 g], .agg y.1.toArray] w fun e w' => e = .returned (.int .i64 5) ∧ Kp NoB w w' := by
  have hmf : ∀ (fn : Fn) (first cap : Array Value) (w : World), (Instr.makeFunc fn first cap).run Try.prog w = .ok (.func fn first cap) w := fun _ _ _ _ => rfl
  have HW := hid (fun dv => with_no (dv := dv) ((h.alloc (.cells #[.int .i64 i, .int .u64 g] 33)).alloc (.cells y.1.toArray 35)) o hn)
  clear h hn
  go_enter Try.func23, Try.ntmps23
  go_wp2_with fail
  refine (HW.out _).mono ?_
  rintro e w1 ⟨rfl, k1⟩
  go_wp2_with fail
  go_ret
  exact ⟨rfl, (((Kp.refl _ w).alloc _).alloc _).trans k1⟩
/-- back, less one more -/
theorem i3 : (Try.prog.info? 3).map (fun i => (i.zero, i.size, i.bytes)) = some (some (.int .i64 0), 1, 8) := by kernel_rfl
theorem uBK : Try.prog.underlying 70 = some (.slice 3) := by kernel_rfl
set_option maxRecDepth 100000 in
set_option maxHeartbeats 4000000 in
theorem freef_any (h : AAt w p l v S B E) (o : AOk S B E) (hbl : B.length < 4096) {k c1 c2 : Nat} {x : X} {g : Int} {b : Bool} (hk : S[k]? = some (x, g, b))
    (h1 : w.heap[c1]? = some (.cells #[.pointer (some ⟨p, 0, none⟩)] 37 (0, 0))) (h2 : w.heap[c2]? = some (.cells #[.int .i64 k, .int .u64 g] 33 (0, 0))) :
    Calls Try.prog 40 #[.pointer (some ⟨l, k * 21, none⟩), .pointer (some ⟨c1, 0, none⟩), .pointer (some ⟨c2, 0, none⟩)] w fun e w' => e = .returned (.tuple #[]) ∧
      ∃ v', AAt w' p l v' (S.set k (zX, IntKind.u64.wrap (g + 1), false)) (B ++ [k]) E ∧ (v'.ownBlock = v.ownBlock ∨ ∃ b, v'.ownBlock = some b ∧ w.heap.size ≤ b) ∧ Kp (fun b => b = p ∨ b = l ∨ v.ownBlock = some b) w w' := by
  have Le := h.es hk
  have Lw := h.ws (List.getElem?_eq_some_iff.1 hk).1
  have n1 := ne_of_types h1 h.hl (by decide)
  have n2 := ne_of_types h2 h.hl (by decide)
  have n3 := ne_of_types h1 h.hp (by decide)
  have n4 := ne_of_types h2 h.hp (by decide)
  have n5 := h.hv.ne h1 (by decide)
  have n6 := h.hv.ne h2 (by decide)
  obtain ⟨m1, m2, m3⟩ := h.ne
  have HA := put_cells h (List.getElem?_eq_some_iff.1 hk).1 (zX, IntKind.u64.wrap (g + 1), false)
  have K1 : Kp (fun b => b = p ∨ b = l ∨ v.ownBlock = some b) w (w.setCells l (k * 21) (eS (zX, IntKind.u64.wrap (g + 1), false))) := (Kp.refl _ w).setCells _ (fun _ => .inr (.inl rfl))
  have Hc1 := (far_setCells n1 (eS (zX, IntKind.u64.wrap (g + 1), false)) (k * 21) w).trans h1
  have Hc2 := (far_setCells n2 (eS (zX, IntKind.u64.wrap (g + 1), false)) (k * 21) w).trans h2
  replace HA := hid HA
  replace K1 := hid K1
  replace Hc1 := hid Hc1
  replace Hc2 := hid Hc2
  clear h hk h1 h2
  go_enter Try.func40, Try.ntmps40
  go_wp2_with (refine stS rfl _ _ rfl _ _ (zX, IntKind.u64.wrap (g + 1), false) rfl (by rfl) Lw ?_)
  replace HA := HA.out
  replace K1 := K1.out
  replace Hc1 := Hc1.out
  replace Hc2 := Hc2.out
  generalize w.setCells l (k * 21) (eS (zX, IntKind.u64.wrap (g + 1), false)) = W at *
  clear Le Lw
  have Lp := HA.cs
  have L1 := loc1 Hc1
  have L2 := loc2 Hc2
  replace K1 := hid K1
  replace HA := hid HA
  replace Hc1 := hid Hc1
  replace Hc2 := hid Hc2
  refine wp_region_G (fun W => W.cell? ⟨c1, 0, none⟩ = some (.pointer (some ⟨p, 0, none⟩)) ∧ W.cell? ⟨p, 1, none⟩ = some v) [(0, .held), (1, .held), (2, .held), (3, .held), (4, .held), (5, .at_), (6, .at_), (7, .eff), (8, .eff), (9, .at_), (10, .at_), (11, .fin)] ?L1 (by kernel_rfl) (by kernel_rfl) ?hL1 (⟨L1.1, Lp.2.1⟩) ?hG1
  case hL1 => simp only [pickOps, List.map_cons, List.map_nil, List.getD_cons_zero, List.getD_cons_succ]; rfl
  repeat (first | (refine wpG_at (v := ?_) (by rfl) ?_ ?_; rotate_left; (focus (first | (go_simp; with_reducible rfl) | (go_simp; done))); simp only [Act.put, List.setIfInBounds_toArray, List.set_cons_zero, List.set_cons_succ]) | (refine wpG_at_skip (by rfl) ?_; simp only [Act.put, List.setIfInBounds_toArray, List.set_cons_zero, List.set_cons_succ]) | (refine wpG_held_skip (by rfl) ?_; simp only [Act.put, List.setIfInBounds_toArray, List.set_cons_zero, List.set_cons_succ]) | (refine wpG_held (v := ?_) (by rfl) ?_ ?_; rotate_left; (focus (intro w' hSw; (try dsimp only at hSw); go_split_ands; first | (go_simp; with_reducible rfl) | (go_simp; done))); simp only [Act.put, List.setIfInBounds_toArray, List.set_cons_zero, List.set_cons_succ]))
  refine wpG_eff (by rfl) (fun K hK => ?_)
  go_simp
  refine hK _ _ (by refine ⟨?_, ?_⟩ <;> go_simp) ?_
  clear hK K
  repeat (first | (refine wpG_at (v := ?_) (by rfl) ?_ ?_; rotate_left; (focus (first | (go_simp; with_reducible rfl) | (go_simp; done))); simp only [Act.put, List.setIfInBounds_toArray, List.set_cons_zero, List.set_cons_succ]) | (refine wpG_at_skip (by rfl) ?_; simp only [Act.put, List.setIfInBounds_toArray, List.set_cons_zero, List.set_cons_succ]) | (refine wpG_held_skip (by rfl) ?_; simp only [Act.put, List.setIfInBounds_toArray, List.set_cons_zero, List.set_cons_succ]) | (refine wpG_held (v := ?_) (by rfl) ?_ ?_; rotate_left; (focus (intro w' hSw; (try dsimp only at hSw); go_split_ands; first | (go_simp; with_reducible rfl) | (go_simp; done))); simp only [Act.put, List.setIfInBounds_toArray, List.set_cons_zero, List.set_cons_succ]))
  refine wpG_eff (by rfl) (fun K hK => ?_)
  refine wp_grow eI_len (by omega) _ _ 70 3 _ 8 rfl uBK i3 rfl v B rfl ((HA.out.drew.alloc _).hv) W.heap.size 1 [k] rfl #[.int .i64 k] 3 (blk_new' _ _ (by simp)) (by intro a j x ha hj; match a, j, ha with | 0, 0, ha => simp at ha; subst ha; rfl) (by simp [eI, Value.oneCell']) (by simp; omega) (by omega) ?_
  intro v' w' q1 q2 q3
  obtain ⟨ov, cv, hv', _⟩ := q1.form
  subst hv'
  rw [show (B ++ [k]).length = B.length + 1 from by simp] at q1 q3
  have hp' := grown_get q2 ((HA.out.drew.alloc (.cells #[.int .i64 k] 3)).hp) m2
  have hl' := grown_get q2 ((HA.out.drew.alloc (.cells #[.int .i64 k] 3)).hl) m3
  have Lp' := loc3 hp'
  have hc1' := loc1 (grown_get q2 (blk_alloc (o' := .cells #[.int .i64 k] 3) (blk_drew Hc1.out)) n5)
  refine hK _ _ ⟨hc1'.1, Lp'.2.1⟩ ?_
  clear hK K
  clear Lp L1 L2
  repeat (first | (refine wpG_at (v := ?_) (by rfl) ?_ ?_; rotate_left; (focus (first | (go_simp; with_reducible rfl) | (go_simp; done))); simp only [Act.put, List.setIfInBounds_toArray, List.set_cons_zero, List.set_cons_succ]) | (refine wpG_at_skip (by rfl) ?_; simp only [Act.put, List.setIfInBounds_toArray, List.set_cons_zero, List.set_cons_succ]) | (refine wpG_held_skip (by rfl) ?_; simp only [Act.put, List.setIfInBounds_toArray, List.set_cons_zero, List.set_cons_succ]) | (refine wpG_held (v := ?_) (by rfl) ?_ ?_; rotate_left; (focus (intro w' hSw; (try dsimp only at hSw); go_split_ands; first | (go_simp; with_reducible rfl) | (go_simp; done))); simp only [Act.put, List.setIfInBounds_toArray, List.set_cons_zero, List.set_cons_succ]))
  refine wpG_fin (by rfl) (fun K hK => ?_)
  go_simp
  refine hK _ _ ?_
  clear hK K
  repeat (first | (refine wpG_at (v := ?_) (by rfl) ?_ ?_; rotate_left; (focus (first | (go_simp; with_reducible rfl) | (go_simp; done))); simp only [Act.put, List.setIfInBounds_toArray, List.set_cons_zero, List.set_cons_succ]) | (refine wpG_at_skip (by rfl) ?_; simp only [Act.put, List.setIfInBounds_toArray, List.set_cons_zero, List.set_cons_succ]) | (refine wpG_held_skip (by rfl) ?_; simp only [Act.put, List.setIfInBounds_toArray, List.set_cons_zero, List.set_cons_succ]) | (refine wpG_held (v := ?_) (by rfl) ?_ ?_; rotate_left; (focus (intro w' hSw; (try dsimp only at hSw); go_split_ands; first | (go_simp; with_reducible rfl) | (go_simp; done))); simp only [Act.put, List.setIfInBounds_toArray, List.set_cons_zero, List.set_cons_succ]))
  refine wpG_nil (NoPanic.normal ?_)
  go_wp2_with fail
  go_end0
  refine ⟨rfl, _, ⟨blk_setCell hp' 1 _, blk_far hl' _ (Ne.symm m1), q1.setCell _ _ ?_⟩, ?_, ?_⟩
  · intro hv'
    dsimp only at hv'
    rcases q3 with q | ⟨b', q, hb'⟩
    · exact m2 (q.symm.trans hv')
    · rw [hv'] at q
      injection q with q
      subst q
      have h5 : p < (W.drew.alloc (.cells #[.int .i64 k] 3)).heap.size := (HA.out.drew.alloc (.cells #[.int .i64 k] 3)).lt.1
      have h6 : (W.drew.alloc (.cells #[.int .i64 k] 3)).heap.size ≤ p := hb'
      exact Nat.lt_irrefl _ (Nat.lt_of_lt_of_le h5 h6)
  · rcases q3 with q | ⟨b', q, hb'⟩
    · exact .inl q
    · refine .inr ⟨b', q, ?_⟩
      have := K1.out.size
      simp at hb'
      omega
  · have K2 := ((K1.out.drew.alloc (.cells #[.int .i64 k] 3)).trans (kp_grown q2 (fun b hb => .inr (.inr hb))))
    exact K2.setCell _ (fun _ => .inl rfl)
end
end Go.Proofs.Ytaanbonbdhjbpaa
