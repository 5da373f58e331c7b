/- Walks through an arena: Free, Alloc, New. -/
import Derived.Test.YtaanbonbdhjbpaaGA3
namespace Go.Proofs.Ytaanbonbdhjbpaa
set_option linter.unusedSimpArgs false
set_option linter.unusedVariables false
open Go.RowKit
attribute [local go_sem ↓] Go.wp_at_zero Go.wp_at_succ
section
variable {w w' : World} {p l : Nat} {v : Value} {S : List Sl3} {B : List Nat} {E : Nat}
set_option maxRecDepth 100000 in
set_option maxHeartbeats 2000000 in
theorem free_yes (h : AAt w p l v S B E) (o : AOk S B E) (hbl : B.length < 4096) {k : Nat} {x : X} {g : Int} (hk : S[k]? = some (x, g, true)) :
    Calls Try.prog 33 #[.pointer (some ⟨p, 0, none⟩), .agg #[.int .i64 k, .int .u64 g]] w fun e w' => e = .returned (.int .i64 0) ∧
      ∃ v', AAt w' p l v' (S.set k (zX, IntKind.u64.wrap (g + 1), false)) (B ++ [k]) E ∧ (v'.ownBlock = v.ownBlock ∨ ∃ b, v'.ownBlock = some b ∧ w.heap.size ≤ b) ∧ Kp (fun b => b = p ∨ b = l ∨ v.ownBlock = some b) w w' := by
  have hmf : ∀ (fn : Fn) (first cap : Array Value) (w : World), (Instr.makeFunc fn first cap).run Try.prog w = .ok (.func fn first cap) w := fun _ _ _ _ => rfl
  have HW := hid (with_do (Post := fun w' => ∃ v', AAt w' p l v' (S.set k (zX, IntKind.u64.wrap (g + 1), false)) (B ++ [k]) E ∧ (v'.ownBlock = v.ownBlock ∨ ∃ b, v'.ownBlock = some b ∧ w.heap.size ≤ b) ∧ Kp (fun b => b = p ∨ b = l ∨ v.ownBlock = some b) w w')
    (caps := #[.pointer (some ⟨w.heap.size, 0, none⟩), .pointer (some ⟨w.heap.size + 1, 0, none⟩)]) ((h.alloc (.cells #[.pointer (some ⟨p, 0, none⟩)] 37)).alloc (.cells #[.int .i64 k, .int .u64 g] 33)) o hk cfF (fun W k1 => by
    have hc1 := k1.get (blk_alloc (o' := .cells #[.int .i64 k, .int .u64 g] 33) (blk_new w (.cells #[.pointer (some ⟨p, 0, none⟩)] 37))) (fun h => h)
    have hc2 := k1.get (blk_new' (w.alloc (.cells #[.pointer (some ⟨p, 0, none⟩)] 37)) (.cells #[.int .i64 k, .int .u64 g] 33) (n := w.heap.size + 1) (by simp)) (fun h => h)
    have hA := ((h.alloc (.cells #[.pointer (some ⟨p, 0, none⟩)] 37)).alloc (.cells #[.int .i64 k, .int .u64 g] 33)).kn k1
    have K0 := (((Kp.refl NoB w).alloc (.cells #[.pointer (some ⟨p, 0, none⟩)] 37)).alloc (.cells #[.int .i64 k, .int .u64 g] 33)).trans k1
    refine (freef_any hA o hbl hk hc1 hc2).mono ?_
    rintro e w1 ⟨rfl, v', q1, q2, q3⟩
    refine ⟨rfl, v', q1, q2.imp id (fun ⟨b, hb, hs⟩ => ⟨b, hb, Nat.le_trans K0.size hs⟩), (K0.mono (fun _ h => h.elim)).trans q3⟩))
  clear h hk
  go_enter Try.func33, Try.ntmps33
  go_wp2_with fail
  refine HW.out.mono ?_
  rintro e w1 ⟨rfl, hp⟩
  go_wp2_with fail
  go_ret
  exact ⟨rfl, hp⟩
set_option maxRecDepth 100000 in
set_option maxHeartbeats 2000000 in
theorem free_no (h : AAt w p l v S B E) (o : AOk S B E) {i g : Int} (hn : ¬ HOk S i g) :
    Calls Try.prog 33 #[.pointer (some ⟨p, 0, none⟩), .agg #[.int .i64 i, .int .u64 g]] w fun e w' => e = .returned (.int .i64 5) ∧ Kp NoB w w' := by
  have hmf : ∀ (fn : Fn) (first cap : Array Value) (w : World), (Instr.makeFunc fn first cap).run Try.prog w = .ok (.func fn first cap) w := fun _ _ _ _ => rfl
  have HW := hid (fun dv => with_no (dv := dv) ((h.alloc (.cells #[.pointer (some ⟨p, 0, none⟩)] 37)).alloc (.cells #[.int .i64 i, .int .u64 g] 33)) o hn)
  clear h hn
  go_enter Try.func33, Try.ntmps33
  go_wp2_with fail
  refine (HW.out _).mono ?_
  rintro e w1 ⟨rfl, k1⟩
  go_wp2_with fail
  go_ret
  exact ⟨rfl, (((Kp.refl _ w).alloc _).alloc _).trans k1⟩
theorem one_cell (h : AAt w p l v S B E) {k : Nat} {s s' : Sl3} (hk : S[k]? = some s) {q : Nat} {u : Value} (hq : q < 21) (hu : (eS s')[q]? = some u) (ho : ∀ j, j ≠ q → (eS s')[j]? = (eS s)[j]?) : AAt (w.setCell ⟨l, k * 21 + q, none⟩ u) p l v (S.set k s') B E := by
  obtain ⟨n1, n2, n3⟩ := h.ne
  have hkl := (List.getElem?_eq_some_iff.1 hk).1
  refine h.set hkl ?_ (Below.heap_setCell w _ _ p n1) (fun b' hb' => Below.heap_setCell w _ _ b' (by rintro rfl; exact n3 hb'))
  rw [blk_setCell h.hl]
  congr 2
  apply Array.ext_getElem?
  intro r
  have hsz : k * 21 + 21 ≤ (rows eS S).size := by rw [rows_size eS_len]; omega
  rw [setRow_get _ _ _ _ (by rw [eS_len]; exact hsz), eS_len]
  by_cases c : k * 21 + q = r
  · subst c
    rw [if_pos (by omega), Array.getElem?_setIfInBounds_self, if_pos (by omega), show k * 21 + q - k * 21 = q from by omega, hu]
  · rw [Array.getElem?_setIfInBounds_ne c]
    split
    · rename_i hr
      have := rows_get eS_len (j := r - k * 21) hk (by omega)
      rw [show k * 21 + (r - k * 21) = r from by omega] at this
      rw [this, ho _ (by omega)]
    · rfl
theorem eS_off {x : X} {g g' : Int} {b b' : Bool} (j : Nat) (h : (j ≠ 19 ∨ g = g') ∧ (j ≠ 20 ∨ b = b')) : (eS (x, g, b))[j]? = (eS (x, g', b'))[j]? := by
  rcases Nat.lt_or_ge j 19 with c | c
  · rw [eS, eS, List.getElem?_append_left (by rw [x.len]; exact c), List.getElem?_append_left (by rw [x.len]; exact c)]
  · rcases (by omega : j = 19 ∨ j = 20 ∨ 21 ≤ j) with rfl | rfl | c
    · rw [eS_g, eS_g, h.1.resolve_left (fun e => e rfl)]
    · rw [eS_b, eS_b, h.2.resolve_left (fun e => e rfl)]
    · rw [List.getElem?_eq_none (by rw [eS_len]; exact c), List.getElem?_eq_none (by rw [eS_len]; exact c)]
theorem is_cell (h : AAt w p l v S B E) {k : Nat} {x : X} {g : Int} {b b' : Bool} (hk : S[k]? = some (x, g, b)) : AAt (w.setCell ⟨l, k * 21 + 20, none⟩ (.bool b')) p l v (S.set k (x, g, b')) B E :=
  one_cell h hk (by omega) (eS_b (x, g, b')) (fun j hj => eS_off j ⟨.inr rfl, .inl hj⟩)
theorem gen_cell (h : AAt w p l v S B E) {k : Nat} {x : X} {g g' : Int} {b : Bool} (hk : S[k]? = some (x, g, b)) : AAt (w.setCell ⟨l, k * 21 + 19, none⟩ (.int .u64 g')) p l v (S.set k (x, g', b)) B E :=
  one_cell h hk (by omega) (eS_g (x, g', b)) (fun j hj => eS_off j ⟨.inl hj, .inr rfl⟩)
theorem ever_cell (h : AAt w p l v S B E) (n : Nat) : AAt (w.setCell ⟨p, 2, none⟩ (.int .i64 n)) p l v S B n :=
  ⟨blk_setCell h.hp 2 _, blk_far h.hl _ (Ne.symm h.ne.1), h.hv.setCell _ _ h.ne.2.1⟩
theorem back_cell (h : AAt w p l v S B E) {v' : Value} {B' : List Nat} (hv : RowAt w 3 eI 1 v' B') (hb : v'.ownBlock ≠ some p) : AAt (w.setCell ⟨p, 1, none⟩ v') p l v' S B' E :=
  ⟨blk_setCell h.hp 1 _, blk_far h.hl _ (Ne.symm h.ne.1), hv.setCell _ _ hb⟩
set_option maxRecDepth 100000 in
set_option maxHeartbeats 2000000 in
/-- none is free -/
theorem alloc_full (h : AAt w p l v S [] S.length) (o : AOk S [] S.length) :
    Calls Try.prog 14 #[.pointer (some ⟨p, 0, none⟩)] w fun e w' => e = .returned (.tuple #[.agg #[.int .i64 0, .int .u64 0], .int .i64 3]) ∧ Kp NoB w w' := by
  have HS := hid (fun (w1 : World) (h1 : AAt w1 p l v S [] S.length) => size_any h1)
  have H0 := hid (h.alloc (.cells #[.int .i64 0, .int .u64 0] 33))
  obtain ⟨ob, c, hv, hc, _⟩ := h.hv.form
  subst hv
  have Lp := h.cs
  have n2 := o.n2
  have n1 : ((S.length : Int) == 0) = false := by have := o.n1; simp; intro h; rw [h] at this; simp at this
  have up := ups Lp.2.2.2.2.2.2
  clear h
  go_enter Try.func14, Try.ntmps14
  go_wp2_with fail
  refine (HS.out _ H0.out).mono ?_
  rintro e w1 ⟨rfl, rfl⟩
  go_wp2_with fail
  refine wp_region_G (fun _ => True) [(0, .at_), (1, .at_), (2, .at_), (3, .at_), (4, .at_), (5, .at_), (6, .at_), (7, .at_), (8, .at_), (9, .at_), (10, .at_)] ?L1 (by kernel_rfl) (by kernel_rfl) ?hL1 (trivial) ?hG1
  case hL1 => simp only [pickOps, List.map_cons, List.map_nil, List.getD_cons_zero, List.getD_cons_succ]; rfl
  repeat (first | (refine wpG_at (v := ?_) (by rfl) ?_ ?_; rotate_left; (focus (first | (go_simp; with_reducible rfl) | (go_simp; done))); simp only [Act.put, List.setIfInBounds_toArray, List.set_cons_zero, List.set_cons_succ]) | (refine wpG_at_skip (by rfl) ?_; simp only [Act.put, List.setIfInBounds_toArray, List.set_cons_zero, List.set_cons_succ]) | (refine wpG_held_skip (by rfl) ?_; simp only [Act.put, List.setIfInBounds_toArray, List.set_cons_zero, List.set_cons_succ]) | (refine wpG_held (v := ?_) (by rfl) ?_ ?_; rotate_left; (focus (intro w' hSw; (try dsimp only at hSw); go_split_ands; first | (go_simp; with_reducible rfl) | (go_simp; done))); simp only [Act.put, List.setIfInBounds_toArray, List.set_cons_zero, List.set_cons_succ]))
  refine wpG_nil (NoPanic.normal ?_)
  go_wp2_with fail
  refine bodyPost_ret (v := .tuple #[.agg #[.int .i64 0, .int .u64 0], .int .i64 3]) (by simp [results, Try.results12, go_sem]) rfl ⟨rfl, ?_⟩
  exact ((Kp.refl _ w).alloc _).drew
set_option maxRecDepth 100000 in
set_option maxHeartbeats 2000000 in
/-- none was given back -/
theorem alloc_ever (h : AAt w p l v S [] E) (o : AOk S [] E) {x : X} {g : Int} {b : Bool} (hk : S[E]? = some (x, g, b)) :
    Calls Try.prog 14 #[.pointer (some ⟨p, 0, none⟩)] w fun e w' => e = .returned (.tuple #[.agg #[.int .i64 E, .int .u64 g], .int .i64 0]) ∧ AAt w' p l v (S.set E (x, g, true)) [] (E + 1) ∧ Kp (fun b => b = p ∨ b = l) w w' := by
  have HS := hid (fun (w1 : World) (h1 : AAt w1 p l v S [] E) => size_any h1)
  have H0 := hid (h.alloc (.cells #[.int .i64 0, .int .u64 0] 33))
  obtain ⟨ob, c, hv, hc, _⟩ := h.hv.form
  subst hv
  have Lp := h.cs
  have Le := h.es hk
  have HE := (List.getElem?_eq_some_iff.1 hk).1
  have b2 : (E : Int) < (S.length : Int) := by omega
  have n2 := o.n2
  have n1 : ((S.length : Int) == 0) = false := by have := o.n1; simp; intro h; rw [h] at this; simp at this
  have up := ups Lp.2.2.2.2.2.2
  have ul := ups Le.2.2.2.2
  have ne := h.ne.1
  have ne' := Ne.symm ne
  replace h := hid h
  replace hk := hid hk
  go_enter Try.func14, Try.ntmps14
  go_wp2_with fail
  refine (HS.out _ H0.out).mono ?_
  rintro e w1 ⟨rfl, rfl⟩
  go_wp2_with fail
  refine wp_region_G (fun _ => True) [(0, .at_), (1, .at_), (2, .at_), (3, .at_), (4, .at_), (5, .at_), (6, .at_), (7, .at_), (8, .at_), (9, .at_), (10, .at_)] ?L2 (by kernel_rfl) (by kernel_rfl) ?hL2 (trivial) ?hG2
  case hL2 => simp only [pickOps, List.map_cons, List.map_nil, List.getD_cons_zero, List.getD_cons_succ]; rfl
  repeat (first | (refine wpG_at (v := ?_) (by rfl) ?_ ?_; rotate_left; (focus (first | (go_simp; with_reducible rfl) | (go_simp; done))); simp only [Act.put, List.setIfInBounds_toArray, List.set_cons_zero, List.set_cons_succ]) | (refine wpG_at_skip (by rfl) ?_; simp only [Act.put, List.setIfInBounds_toArray, List.set_cons_zero, List.set_cons_succ]) | (refine wpG_held_skip (by rfl) ?_; simp only [Act.put, List.setIfInBounds_toArray, List.set_cons_zero, List.set_cons_succ]) | (refine wpG_held (v := ?_) (by rfl) ?_ ?_; rotate_left; (focus (intro w' hSw; (try dsimp only at hSw); go_split_ands; first | (go_simp; with_reducible rfl) | (go_simp; done))); simp only [Act.put, List.setIfInBounds_toArray, List.set_cons_zero, List.set_cons_succ]))
  refine wpG_nil (NoPanic.normal ?_)
  go_wp2_with fail
  refine bodyPost_ret (v := .tuple #[.agg #[.int .i64 E, .int .u64 g], .int .i64 0]) (by simp [results, Try.results12, go_sem]) rfl ⟨rfl, ?_, ?_⟩
  · exact ((is_cell (ever_cell h.out (E + 1)) hk.out).alloc _).drew
  · exact ((((Kp.refl _ w).setCell _ (fun _ => .inl rfl)).setCell _ (fun _ => .inr rfl)).alloc _).drew
set_option maxRecDepth 100000 in
set_option maxHeartbeats 2000000 in
/-- the last one that was given back -/
theorem alloc_pop {i : Nat} (h : AAt w p l v S (B ++ [i]) E) (o : AOk S (B ++ [i]) E) {x : X} {g : Int} {b : Bool} (hk : S[i]? = some (x, g, b)) :
    Calls Try.prog 14 #[.pointer (some ⟨p, 0, none⟩)] w fun e w' => e = .returned (.tuple #[.agg #[.int .i64 i, .int .u64 g], .int .i64 0]) ∧ ∃ v', AAt w' p l v' (S.set i (x, g, true)) B E ∧ v'.ownBlock = v.ownBlock ∧ Kp (fun b => b = p ∨ b = l) w w' := by
  have HS := hid (fun (w1 : World) (h1 : AAt w1 p l v S (B ++ [i]) E) => size_any h1)
  have H0 := hid (h.alloc (.cells #[.int .i64 0, .int .u64 0] 33))
  obtain ⟨b', c, A, hv, hb, hA, hc, hm, hs⟩ := h.hv.pos eI_len (by simp)
  have hlen : (B ++ [i]).length = B.length + 1 := by simp
  rw [hlen] at hv
  have ci : w.cell? ⟨b', B.length, none⟩ = some (.int .i64 i) := by rw [cell_of hb]; exact Pre.one (f := fun n => Value.int .i64 (n : Nat)) hA (by simp)
  subst hv
  have HP := hid (RowAt.pop (l := B ++ [i]) eI_len (by rw [hlen]; exact h.hv))
  have Lp := h.cs
  have Le := h.es hk
  have HE := (List.getElem?_eq_some_iff.1 hk).1
  have b2 : (i : Int) < (S.length : Int) := by omega
  have n2 := o.n2
  have bl : B.length < 4096 := by have := o.bl; rw [hlen] at this; omega
  have n1 : ((S.length : Int) == 0) = false := by have := o.n1; simp; intro h; rw [h] at this; simp at this
  have up := ups Lp.2.2.2.2.2.2
  have ul := ups Le.2.2.2.2
  have ub := ups (blk_lt hb)
  have ne := h.ne.1
  have ne' := Ne.symm ne
  have wB : IntKind.i64.wrap (B.length : Int) = B.length := wi_in (by omega)
  rw [hlen] at hc
  have bc : (B.length : Int) ≤ (c : Int) := by omega
  have bc' : B.length ≤ c := by omega
  have bq : (B.length : Int) < (B.length : Int) + 1 := by omega
  have m1 := ne_of_types hb h.hp (by decide)
  have m1' := Ne.symm m1
  have m2 := ne_of_types hb h.hl (by decide)
  have m2' := Ne.symm m2
  replace h := hid h
  replace hk := hid hk
  clear hb hA hs
  go_enter Try.func14, Try.ntmps14
  go_wp2_with fail
  refine (HS.out _ H0.out).mono ?_
  rintro e w1 ⟨rfl, rfl⟩
  go_wp2_with fail
  refine wp_region_G (fun _ => True) [(0, .at_), (1, .at_), (2, .at_), (3, .at_), (4, .at_), (5, .at_), (6, .at_), (7, .at_), (8, .at_), (9, .at_), (10, .at_), (11, .at_), (12, .at_)] ?L3 (by kernel_rfl) (by kernel_rfl) ?hL3 (trivial) ?hG3
  case hL3 => simp only [pickOps, List.map_cons, List.map_nil, List.getD_cons_zero, List.getD_cons_succ]; rfl
  repeat (first | (refine wpG_at (v := ?_) (by rfl) ?_ ?_; rotate_left; (focus (first | (go_simp; with_reducible rfl) | (go_simp; done))); simp only [Act.put, List.setIfInBounds_toArray, List.set_cons_zero, List.set_cons_succ]) | (refine wpG_at_skip (by rfl) ?_; simp only [Act.put, List.setIfInBounds_toArray, List.set_cons_zero, List.set_cons_succ]) | (refine wpG_held_skip (by rfl) ?_; simp only [Act.put, List.setIfInBounds_toArray, List.set_cons_zero, List.set_cons_succ]) | (refine wpG_held (v := ?_) (by rfl) ?_ ?_; rotate_left; (focus (intro w' hSw; (try dsimp only at hSw); go_split_ands; first | (go_simp; with_reducible rfl) | (go_simp; done))); simp only [Act.put, List.setIfInBounds_toArray, List.set_cons_zero, List.set_cons_succ]))
  refine wpG_nil (NoPanic.normal ?_)
  go_wp2_with fail
  refine wp_region_G (fun _ => True) [(0, .at_), (1, .at_), (2, .at_), (3, .at_), (4, .at_), (5, .at_), (6, .at_), (7, .at_), (8, .at_), (9, .at_), (10, .at_), (11, .at_), (12, .at_), (13, .at_), (14, .eff)] ?L4 (by kernel_rfl) (by kernel_rfl) ?hL4 (trivial) ?hG4
  case hL4 => simp only [pickOps, List.map_cons, List.map_nil, List.getD_cons_zero, List.getD_cons_succ]; rfl
  repeat (first | (refine wpG_at (v := ?_) (by rfl) ?_ ?_; rotate_left; (focus (first | (go_simp; with_reducible rfl) | (go_simp; done))); simp only [Act.put, List.setIfInBounds_toArray, List.set_cons_zero, List.set_cons_succ]) | (refine wpG_at_skip (by rfl) ?_; simp only [Act.put, List.setIfInBounds_toArray, List.set_cons_zero, List.set_cons_succ]) | (refine wpG_held_skip (by rfl) ?_; simp only [Act.put, List.setIfInBounds_toArray, List.set_cons_zero, List.set_cons_succ]) | (refine wpG_held (v := ?_) (by rfl) ?_ ?_; rotate_left; (focus (intro w' hSw; (try dsimp only at hSw); go_split_ands; first | (go_simp; with_reducible rfl) | (go_simp; done))); simp only [Act.put, List.setIfInBounds_toArray, List.set_cons_zero, List.set_cons_succ]))
  refine wpG_eff (by rfl) (fun K hK => ?_)
  go_simp
  refine hK _ _ trivial ?_
  clear hK K
  repeat (first | (refine wpG_at (v := ?_) (by rfl) ?_ ?_; rotate_left; (focus (first | (go_simp; with_reducible rfl) | (go_simp; done))); simp only [Act.put, List.setIfInBounds_toArray, List.set_cons_zero, List.set_cons_succ]) | (refine wpG_at_skip (by rfl) ?_; simp only [Act.put, List.setIfInBounds_toArray, List.set_cons_zero, List.set_cons_succ]) | (refine wpG_held_skip (by rfl) ?_; simp only [Act.put, List.setIfInBounds_toArray, List.set_cons_zero, List.set_cons_succ]) | (refine wpG_held (v := ?_) (by rfl) ?_ ?_; rotate_left; (focus (intro w' hSw; (try dsimp only at hSw); go_split_ands; first | (go_simp; with_reducible rfl) | (go_simp; done))); simp only [Act.put, List.setIfInBounds_toArray, List.set_cons_zero, List.set_cons_succ]))
  refine wpG_nil (NoPanic.normal ?_)
  go_wp2_with fail
  have HP' : RowAt w 3 eI 1 (.slice (some ⟨b', 0, none⟩) B.length c) B := by
    have := HP.out
    rw [hlen] at this
    simpa using this
  refine bodyPost_ret (v := .tuple #[.agg #[.int .i64 i, .int .u64 g], .int .i64 0]) (by simp [results, Try.results12, go_sem]) rfl ⟨rfl, .slice (some ⟨b', 0, none⟩) B.length c, ?_, rfl, ?_⟩
  · exact ((is_cell (back_cell h.out HP' (by intro h; injection h with h; exact m1 h)) hk.out).alloc _).drew.drew
  · exact ((((Kp.refl _ w).setCell _ (fun _ => .inl rfl)).setCell _ (fun _ => .inr rfl)).alloc _).drew.drew
/-- a new one -/
theorem kTS : (Try.prog.info? 74).map (fun i => (i.zero, i.size, i.bytes)) = some (some (.agg (eS (zX, 0, false)).toArray), 21, 56) := by kernel_rfl
theorem uTSL : Try.prog.underlying 69 = some (.slice 74) := by kernel_rfl
theorem new_out (n : Int) (hn : ¬ (1 ≤ n ∧ n ≤ 4096)) (w : World) : Calls Try.prog 13 #[.int .i64 n] w fun e w' => e = .returned (.tuple #[.pointer none, .int .i64 2]) ∧ w = w' := by
  by_cases h1 : n < 1
  · go_enter Try.func13, Try.ntmps13
    go_wp2
    go_ret2
    exact ⟨rfl, rfl⟩
  · have h2 : 4096 < n := by omega
    clear hn
    go_enter Try.func13, Try.ntmps13
    go_wp2
    go_ret2
    exact ⟨rfl, rfl⟩
set_option maxRecDepth 100000 in
set_option maxHeartbeats 2000000 in
theorem new_any (n : Nat) (n1 : 1 ≤ n) (n2 : n ≤ 4096) (w : World) : Calls Try.prog 13 #[.int .i64 n] w fun e w' => ∃ p l, e = .returned (.tuple #[.pointer (some ⟨p, 0, none⟩), .int .i64 0]) ∧
    AAt w' p l (.slice none 0 0) (List.replicate n (zX, 1, false)) [] 0 ∧ w.heap.size ≤ p ∧ w.heap.size ≤ l ∧ Kp NoB w w' := by
  have b1 : (1 : Int) ≤ (n : Int) := by omega
  have b2 : (n : Int) ≤ 4096 := by omega
  have hmk := fun w => run_make_rows (P := Try.prog) eS_len (by omega) ((zX, 0, false) : Sl3) 69 74 _ 56 uTSL kTS rfl n (by omega) (by omega) w
  have H0 : AAt ((w.alloc (.cells (rows eS (List.replicate n (zX, 0, false))) 74)).alloc (.cells #[.slice (some ⟨w.heap.size, 0, none⟩) n n, .slice none 0 0, .int .i64 0] 72)) (w.heap.size + 1) w.heap.size (.slice none 0 0) (List.replicate n (zX, 0, false)) [] 0 :=
    ⟨by rw [List.length_replicate]; exact blk_new' _ _ (by simp), blk_alloc (blk_new w _), RowAt.nil _ _ _ _⟩
  replace H0 := hid H0
  go_enter Try.func13, Try.ntmps13
  go_wp2_with fail
  go_loopw [5, 21] (fun _ i W => ∃ j : Nat, j ≤ n ∧ i = .int .i64 j ∧ AAt W (w.heap.size + 1) w.heap.size (.slice none 0 0) (List.replicate j (zX, 1, false) ++ List.replicate (n - j) (zX, 0, false)) [] 0 ∧ Kp NoB w W) (fun _ i _ => n - (intOf i).toNat)
  case atStart => exact ⟨0, Nat.zero_le _, rfl, by simpa using H0.out, ((Kp.refl _ w).alloc _).alloc _⟩
  case round =>
    obtain ⟨j, hj, rfl, hA, hK⟩ := hrel
    have hlen : (List.replicate j ((zX, 1, false) : Sl3) ++ List.replicate (n - j) ((zX, 0, false) : Sl3)).length = n := by simp; omega
    have Lp := hA.cs
    rw [hlen] at Lp
    by_cases hlt : j < n
    · have hk : (List.replicate j ((zX, 1, false) : Sl3) ++ List.replicate (n - j) ((zX, 0, false) : Sl3))[j]? = some (zX, 0, false) := by
        rw [List.getElem?_append_right (by simp), List.getElem?_replicate, if_pos (by simp only [List.length_replicate]; omega)]
      have Le := hA.es hk
      have b3 : (0 : Int) ≤ (j : Int) := Int.natCast_nonneg _
      have b4 : (j : Int) < (n : Int) := by omega
      have HG := hid (gen_cell (g' := 1) hA hk)
      have hset : (List.replicate j ((zX, 1, false) : Sl3) ++ List.replicate (n - j) ((zX, 0, false) : Sl3)).set j (zX, 1, false) = List.replicate (j + 1) ((zX, 1, false) : Sl3) ++ List.replicate (n - (j + 1)) ((zX, 0, false) : Sl3) := by
        rw [List.set_append_right _ _ (by simp)]
        obtain ⟨m, hm⟩ : ∃ m, n - j = m + 1 := ⟨n - j - 1, by omega⟩
        rw [hm, show n - (j + 1) = m from by omega, List.replicate_succ' (n := j)]
        simp [List.replicate_succ]
      replace hset := hid hset
      replace hlen := hid hlen
      clear hk hA
      go_wp2_with fail
      go_roundw
      case rel => exact ⟨j + 1, by omega, by go_num, by rw [← hset.out]; exact HG.out, hK.setCell _ (fun h => absurd h (by simp))⟩
      case measure => simp [intOf]; omega
    · obtain rfl : j = n := by omega
      replace hA := hid hA
      replace hlen := hid hlen
      go_wp2_with fail
      go_ret2
      exact ⟨_, _, rfl, by simpa using hA.out, by omega, by omega, hK⟩
end
end Go.Proofs.Ytaanbonbdhjbpaa
