/- Walks: an act, of both: nothing, Enter, Leave. -/
import Derived.Test.YtplbkjgkocnehaaU17
namespace Go.Proofs.Ytplbkjgkocnehaa
set_option linter.unusedSimpArgs false
set_option linter.unusedVariables false
open Go.RowKit
attribute [local go_sem ↓] Go.wp_at_zero Go.wp_at_succ
theorem loc5 {w : World} {g : Nat} {v0 v1 v2 v3 v4 : Value} {t : TypeId} (h : w.heap[g]? = some (.cells #[v0, v1, v2, v3, v4] t (0, 0))) :
    w.cell? ⟨g, 0, none⟩ = some v0 ∧ w.cell? ⟨g, 1, none⟩ = some v1 ∧ w.cell? ⟨g, 2, none⟩ = some v2 ∧ w.cell? ⟨g, 3, none⟩ = some v3 ∧ w.cell? ⟨g, 4, none⟩ = some v4 ∧ g < w.heap.size :=
  ⟨by rw [cell_of h]; rfl, by rw [cell_of h]; rfl, by rw [cell_of h]; rfl, by rw [cell_of h]; rfl, by rw [cell_of h]; rfl, blk_lt h⟩
section
variable {w w' : World} {p q : Nat} {u v dv ov rv : Value} {H : List HV} {G : List QV} {D D2 Z : List Nat} {R : List (Ret × List Nat)} {S : List (Ret × List Int)} {K K2 : Nat}
/-- what is done writes these -/
def dfp (p : Nat) (u v : Value) (H : List HV) (q : Nat) (dv ov : Value) (b : Nat) : Prop := ufp p u v H b ∨ qw q dv ov b
set_option maxRecDepth 100000 in
set_option maxHeartbeats 4000000 in
theorem do1 (h : UAt w p u v D H R) (g : QAt w q dv ov rv D2 Z G S) (dj : ∀ b, ufp p u v H b → ¬ qfp q dv ov rv G b) (o : UOk D R K) (o2 : QOkS D2 Z S K2) (t : Int) (a b c : Value) :
    Calls Try.prog 13 #[.pointer (some ⟨p, 0, none⟩), .pointer (some ⟨q, 0, none⟩), .agg #[.int .i64 1, .int .i64 t, a, b, c]] w fun e w' => e = .returned (.bool (entE D t == entE D2 t)) ∧ UAt w' p u v (entD D t) H R ∧ QAt w' q dv ov rv (entD D2 t) Z G S ∧ Kp (dfp p u v H q dv ov) w w' := by
  have B1 := hid (blk_new w (.cells #[.int .i64 1, .int .i64 t, a, b, c] 37))
  have hl := hid h.lt
  have H1 := hid (h.alloc (.cells #[.int .i64 1, .int .i64 t, a, b, c] 37))
  have G1 := hid (g.alloc (.cells #[.int .i64 1, .int .i64 t, a, b, c] 37))
  have K1 := hid ((Kp.refl NoB w).alloc (.cells #[.int .i64 1, .int .i64 t, a, b, c] 37))
  have HO := hid o
  have HO2 := hid o2
  have DJ := hid dj
  clear h g o o2 dj
  go_enter Try.func13, Try.ntmps13
  go_wp2_with fail
  generalize (w.alloc (.cells #[.int .i64 1, .int .i64 t, a, b, c] 37)) = W1 at *
  have L := loc5 B1.out
  have E1 := hid (enter_any (H1.out.drew) HO.out t)
  refine wp_region_G (fun W => W.cell? ⟨w.heap.size, 1, none⟩ = some (.int .i64 t)) [(0, .at_), (1, .at_), (2, .at_), (4, .held), (5, .held), (6, .held), (3, .eff), (7, .fin), (8, .at_), (9, .at_)] ?L1 (by kernel_rfl) (by kernel_rfl) ?hL1 (L.2.1) ?hG1
  case hL1 => simp only [pickOps, List.map_cons, List.map_nil, List.getD_cons_zero, List.getD_cons_succ]; rfl
  repeat (first | (refine wpG_at (v := ?_) (by rfl) ?_ ?_; rotate_left; (focus (first | (go_simp; with_reducible rfl) | (go_simp; done))); simp only [Act.put, List.setIfInBounds_toArray, List.set_cons_zero, List.set_cons_succ]) | (refine wpG_at_skip (by rfl) ?_; simp only [Act.put, List.setIfInBounds_toArray, List.set_cons_zero, List.set_cons_succ]) | (refine wpG_held_skip (by rfl) ?_; simp only [Act.put, List.setIfInBounds_toArray, List.set_cons_zero, List.set_cons_succ]) | (refine wpG_held (v := ?_) (by rfl) ?_ ?_; rotate_left; (focus (intro w' hSw; (try dsimp only at hSw); go_split_ands; first | (go_simp; with_reducible rfl) | (go_simp; done))); simp only [Act.put, List.setIfInBounds_toArray, List.set_cons_zero, List.set_cons_succ]))
  refine wpG_eff (by rfl) (fun K hK => ?_)
  go_simp
  refine E1.out.mono ?_
  rintro e w2 ⟨rfl, A2, g2⟩
  have hnb : ¬ ufp p u v H w.heap.size := fun hb => by have := hl.out _ hb; omega
  have B2 := hid (g2.kp.get (show W1.drew.heap[w.heap.size]? = _ from B1.out) hnb)
  have G2 := (G1.out.drew).kp g2.kp (fun b hb hq => DJ.out b hq hb)
  have E2 := hid (qenter_any G2 HO2.out t)
  have L2 := loc5 B2.out
  replace A2 := hid A2
  replace g2 := hid g2
  clear G2
  refine hK _ _ L2.2.1 ?_
  clear hK K L
  repeat (first | (refine wpG_at (v := ?_) (by rfl) ?_ ?_; rotate_left; (focus (first | (go_simp; with_reducible rfl) | (go_simp; done))); simp only [Act.put, List.setIfInBounds_toArray, List.set_cons_zero, List.set_cons_succ]) | (refine wpG_at_skip (by rfl) ?_; simp only [Act.put, List.setIfInBounds_toArray, List.set_cons_zero, List.set_cons_succ]) | (refine wpG_held_skip (by rfl) ?_; simp only [Act.put, List.setIfInBounds_toArray, List.set_cons_zero, List.set_cons_succ]) | (refine wpG_held (v := ?_) (by rfl) ?_ ?_; rotate_left; (focus (intro w' hSw; (try dsimp only at hSw); go_split_ands; first | (go_simp; with_reducible rfl) | (go_simp; done))); simp only [Act.put, List.setIfInBounds_toArray, List.set_cons_zero, List.set_cons_succ]))
  refine wpG_fin (by rfl) (fun K hK => ?_)
  go_simp
  refine E2.out.mono ?_
  rintro e w3 ⟨rfl, G3, k3⟩
  have A3 := hid (A2.out.kp k3 (fun b hb hq => DJ.out b hb (qw_fp hq)))
  replace G3 := hid G3
  have k3' := hid k3
  clear k3
  refine hK _ _ ?_
  clear hK K
  repeat (first | (refine wpG_at (v := ?_) (by rfl) ?_ ?_; rotate_left; (focus (first | (go_simp; with_reducible rfl) | (go_simp; done))); simp only [Act.put, List.setIfInBounds_toArray, List.set_cons_zero, List.set_cons_succ]) | (refine wpG_at_skip (by rfl) ?_; simp only [Act.put, List.setIfInBounds_toArray, List.set_cons_zero, List.set_cons_succ]) | (refine wpG_held_skip (by rfl) ?_; simp only [Act.put, List.setIfInBounds_toArray, List.set_cons_zero, List.set_cons_succ]) | (refine wpG_held (v := ?_) (by rfl) ?_ ?_; rotate_left; (focus (intro w' hSw; (try dsimp only at hSw); go_split_ands; first | (go_simp; with_reducible rfl) | (go_simp; done))); simp only [Act.put, List.setIfInBounds_toArray, List.set_cons_zero, List.set_cons_succ]))
  refine wpG_nil (NoPanic.normal ?_)
  go_wp2_with fail
  go_ret
  refine ⟨rfl, A3.out, G3.out, ?_⟩
  have k1 : Kp (dfp p u v H q dv ov) w w2 := (K1.out.drew.mono (fun _ h => h.elim)).trans (g2.out.kp.mono (fun b hb => .inl hb))
  exact k1.trans (k3'.out.mono (fun b hb => .inr hb))
set_option maxRecDepth 100000 in
set_option maxHeartbeats 4000000 in
theorem do2 (h : UAt w p u v D H R) (g : QAt w q dv ov rv D2 Z G S) (dj : ∀ b, ufp p u v H b → ¬ qfp q dv ov rv G b) (o : UOk D R K) (o2 : QOkS D2 Z S K2) (t : Int) (a b c : Value) :
    Calls Try.prog 13 #[.pointer (some ⟨p, 0, none⟩), .pointer (some ⟨q, 0, none⟩), .agg #[.int .i64 2, .int .i64 t, a, b, c]] w fun e w' => e = .returned (.bool (levE D t == levE D2 t)) ∧ UAt w' p u v (levD D t) H (levR D R t) ∧ QAt w' q dv ov rv (levD D2 t) (levZ D2 Z t) G S ∧ Kp (dfp p u v H q dv ov) w w' := by
  have B1 := hid (blk_new w (.cells #[.int .i64 2, .int .i64 t, a, b, c] 37))
  have hl := hid h.lt
  have H1 := hid (h.alloc (.cells #[.int .i64 2, .int .i64 t, a, b, c] 37))
  have G1 := hid (g.alloc (.cells #[.int .i64 2, .int .i64 t, a, b, c] 37))
  have K1 := hid ((Kp.refl NoB w).alloc (.cells #[.int .i64 2, .int .i64 t, a, b, c] 37))
  have HO := hid o
  have HO2 := hid o2
  have DJ := hid dj
  clear h g o o2 dj
  go_enter Try.func13, Try.ntmps13
  go_wp2_with fail
  generalize (w.alloc (.cells #[.int .i64 2, .int .i64 t, a, b, c] 37)) = W1 at *
  have L := loc5 B1.out
  have E1 := hid (leave_any (H1.out.drew) HO.out t)
  refine wp_region_G (fun W => W.cell? ⟨w.heap.size, 1, none⟩ = some (.int .i64 t)) [(0, .at_), (1, .at_), (2, .at_), (4, .held), (5, .held), (6, .held), (3, .eff), (7, .fin), (8, .at_), (9, .at_)] ?L2 (by kernel_rfl) (by kernel_rfl) ?hL2 (L.2.1) ?hG2
  case hL2 => simp only [pickOps, List.map_cons, List.map_nil, List.getD_cons_zero, List.getD_cons_succ]; rfl
  repeat (first | (refine wpG_at (v := ?_) (by rfl) ?_ ?_; rotate_left; (focus (first | (go_simp; with_reducible rfl) | (go_simp; done))); simp only [Act.put, List.setIfInBounds_toArray, List.set_cons_zero, List.set_cons_succ]) | (refine wpG_at_skip (by rfl) ?_; simp only [Act.put, List.setIfInBounds_toArray, List.set_cons_zero, List.set_cons_succ]) | (refine wpG_held_skip (by rfl) ?_; simp only [Act.put, List.setIfInBounds_toArray, List.set_cons_zero, List.set_cons_succ]) | (refine wpG_held (v := ?_) (by rfl) ?_ ?_; rotate_left; (focus (intro w' hSw; (try dsimp only at hSw); go_split_ands; first | (go_simp; with_reducible rfl) | (go_simp; done))); simp only [Act.put, List.setIfInBounds_toArray, List.set_cons_zero, List.set_cons_succ]))
  refine wpG_eff (by rfl) (fun K hK => ?_)
  go_simp
  refine E1.out.mono ?_
  rintro e w2 ⟨rfl, A2, g2⟩
  have hnb : ¬ ufp p u v H w.heap.size := fun hb => by have := hl.out _ hb; omega
  have B2 := hid (g2.kp.get (show W1.drew.heap[w.heap.size]? = _ from B1.out) hnb)
  have G2 := (G1.out.drew).kp g2.kp (fun b hb hq => DJ.out b hq hb)
  have E2 := hid (qleave_any G2 HO2.out t)
  have L2 := loc5 B2.out
  replace A2 := hid A2
  replace g2 := hid g2
  clear G2
  refine hK _ _ L2.2.1 ?_
  clear hK K L
  repeat (first | (refine wpG_at (v := ?_) (by rfl) ?_ ?_; rotate_left; (focus (first | (go_simp; with_reducible rfl) | (go_simp; done))); simp only [Act.put, List.setIfInBounds_toArray, List.set_cons_zero, List.set_cons_succ]) | (refine wpG_at_skip (by rfl) ?_; simp only [Act.put, List.setIfInBounds_toArray, List.set_cons_zero, List.set_cons_succ]) | (refine wpG_held_skip (by rfl) ?_; simp only [Act.put, List.setIfInBounds_toArray, List.set_cons_zero, List.set_cons_succ]) | (refine wpG_held (v := ?_) (by rfl) ?_ ?_; rotate_left; (focus (intro w' hSw; (try dsimp only at hSw); go_split_ands; first | (go_simp; with_reducible rfl) | (go_simp; done))); simp only [Act.put, List.setIfInBounds_toArray, List.set_cons_zero, List.set_cons_succ]))
  refine wpG_fin (by rfl) (fun K hK => ?_)
  go_simp
  refine E2.out.mono ?_
  rintro e w3 ⟨rfl, G3, k3⟩
  have A3 := hid (A2.out.kp k3 (fun b hb hq => DJ.out b hb (qw_fp hq)))
  replace G3 := hid G3
  have k3' := hid k3
  clear k3
  refine hK _ _ ?_
  clear hK K
  repeat (first | (refine wpG_at (v := ?_) (by rfl) ?_ ?_; rotate_left; (focus (first | (go_simp; with_reducible rfl) | (go_simp; done))); simp only [Act.put, List.setIfInBounds_toArray, List.set_cons_zero, List.set_cons_succ]) | (refine wpG_at_skip (by rfl) ?_; simp only [Act.put, List.setIfInBounds_toArray, List.set_cons_zero, List.set_cons_succ]) | (refine wpG_held_skip (by rfl) ?_; simp only [Act.put, List.setIfInBounds_toArray, List.set_cons_zero, List.set_cons_succ]) | (refine wpG_held (v := ?_) (by rfl) ?_ ?_; rotate_left; (focus (intro w' hSw; (try dsimp only at hSw); go_split_ands; first | (go_simp; with_reducible rfl) | (go_simp; done))); simp only [Act.put, List.setIfInBounds_toArray, List.set_cons_zero, List.set_cons_succ]))
  refine wpG_nil (NoPanic.normal ?_)
  go_wp2_with fail
  go_ret
  refine ⟨rfl, A3.out, G3.out, ?_⟩
  have k1 : Kp (dfp p u v H q dv ov) w w2 := (K1.out.drew.mono (fun _ h => h.elim)).trans (g2.out.kp.mono (fun b hb => .inl hb))
  exact k1.trans (k3'.out.mono (fun b hb => .inr hb))
theorem do0 {k : Int} (h1 : k ≠ 1) (h2 : k ≠ 2) (h3 : k ≠ 3) (h4 : k ≠ 4) (t : Int) (a b c : Value) :
    Calls Try.prog 13 #[.pointer (some ⟨p, 0, none⟩), .pointer (some ⟨q, 0, none⟩), .agg #[.int .i64 k, .int .i64 t, a, b, c]] w fun e w' => e = .returned (.bool true) ∧ Kp NoB w w' := by
  have e1 : (k == 1) = false := by simpa using h1
  have e2 : (k == 2) = false := by simpa using h2
  have e3 : (k == 3) = false := by simpa using h3
  have e4 : (k == 4) = false := by simpa using h4
  clear h1 h2 h3 h4
  go_enter Try.func13, Try.ntmps13
  go_wp2_with fail
  go_ret
  exact ⟨rfl, (Kp.refl _ w).alloc _⟩
end
end Go.Proofs.Ytplbkjgkocnehaa
