/- Walks: do, kind by kind. -/
import Derived.Test.YtbgojgnbbkgkgaaS22
namespace Go.Proofs.Ytbgojgnbbkgkgaa
set_option linter.unusedSimpArgs false
set_option linter.unusedVariables false
open Go.RowKit Go.Shelf
attribute [local go_sem ↓] Go.wp_at_zero Go.wp_at_succ
structure JAt (w : World) (p m q room : Nat) (M : List (Int × Value)) (v : Value) : Prop where
  c : TAt w p m M room
  o : TOk M room
  r : RAt w q room v (rowsL M)
def aV (k s i g d : Int) : Value := .agg #[.int .i64 k, .int .i64 s, .int .i64 i, .int .u64 g, .int .u64 d]
abbrev Q2 (m q : Nat) : Nat → Prop := fun b => b = m ∨ b = q
section
variable {w w' : World} {q p m room : Nat} {v : Value} {M : List (Int × Value)} {L : List (Int × Int × Int)}
theorem TAt.kq (h : TAt w p m M room) {B : Array Value} (hq : w.heap[q]? = some (.cells B 46 (0, 0))) (k : Kp (· = q) w w') : TAt w' p m M room := by
  have n1 : p ≠ q := by
    rintro rfl
    have := h.hp.symm.trans hq
    injection this with this
    injection this with _ h3 _
    cases h3
  have n2 : m ≠ q := by
    rintro rfl
    obtain ⟨es, c, h1, _⟩ := h.hm
    rw [h1] at hq; cases hq
  exact h.kp k n1 n2
theorem RAt.km (h : RAt w q room v L) (hm : MapAt .i64 w m M) (k : Kp (· = m) w w') : RAt w' q room v L := by
  obtain ⟨es, c, h1, _⟩ := hm
  refine ⟨k.get h.hq (by rintro rfl; have := h.hq; rw [h1] at this; cases this), h.hv.kp k ?_⟩
  intro b hb e
  subst e
  rcases h.hv.2 with ⟨h2, _⟩ | ⟨g, cap, cur, h2, _, hg, _⟩
  · rw [h2] at hb; cases hb
  · rw [h2] at hb; injection hb with hb; subst hb
    rw [h1] at hg; cases hg
theorem JAt.kn (h : JAt w p m q room M v) (k : Kp NoB w w') : JAt w' p m q room M v := ⟨h.c.kp k (fun h => h) (fun h => h), h.o, h.r.kn k⟩
theorem JAt.lt (h : JAt w p m q room M v) : p < w.heap.size ∧ m < w.heap.size ∧ q < w.heap.size := ⟨h.c.lt.1, h.c.lt.2, blk_lt h.r.hq⟩
theorem box5 {W : World} {b : Nat} {t : TypeId} {a0 a1 a2 a3 a4 : Value} (h : W.heap[b]? = some (.cells #[a0, a1, a2, a3, a4] t (0, 0))) : W.cell? ⟨b, 0, none⟩ = some a0 ∧ W.cell? ⟨b, 1, none⟩ = some a1 ∧ W.cell? ⟨b, 2, none⟩ = some a2 ∧ W.cell? ⟨b, 3, none⟩ = some a3 ∧ W.cell? ⟨b, 4, none⟩ = some a4 := by
  refine ⟨?_, ?_, ?_, ?_, ?_⟩ <;> rw [cell_of h] <;> rfl
set_option maxRecDepth 100000 in
set_option maxHeartbeats 8000000 in
theorem do_1 (h : JAt w p m q room M v) (s i g d : Int) (hs : (Lit.int .i64 s).wf = true) (hd : 0 ≤ d ∧ d < 18446744073709551616) :
    Calls Try.prog 17 #[.pointer (some ⟨p, 0, none⟩), .pointer (some ⟨q, 0, none⟩), aV 1 s i g d] w fun e w' => e = .returned (.bool true) ∧ ∃ M' v', JAt w' p m q room M' v' ∧ Kp (Q2 m q) w w' := by
  have hml : M.length ≤ 64 := Nat.le_trans h.o.le h.o.n2
  have hll := hid (rowsL_len M)
  have J0 := hid (h.kn (((Kp.refl NoB w)).alloc (.cells #[.int .i64 1, .int .i64 s, .int .i64 i, .int .u64 g, .int .u64 d] 49)))
  have K0 := hid (((Kp.refl NoB w)).alloc (.cells #[.int .i64 1, .int .i64 s, .int .i64 i, .int .u64 g, .int .u64 d] 49))
  have B0 := hid (blk_new w (.cells #[.int .i64 1, .int .i64 s, .int .i64 i, .int .u64 g, .int .u64 d] 49))
  have hlt := h.lt
  have hpm := hid h.c.ne
  have SK := hid (fun W (k : Kp (Q2 m q) (w.alloc (.cells #[.int .i64 1, .int .i64 s, .int .i64 i, .int .u64 g, .int .u64 d] 49)) W) => box5 (k.get B0.out (by rintro (e | e) <;> omega)))
  have SN := hid (fun W (k : Kp NoB (w.alloc (.cells #[.int .i64 1, .int .i64 s, .int .i64 i, .int .u64 g, .int .u64 d] 49)) W) => box5 (k.get B0.out (fun h => h)))
  have L0 := SN.out _ (Kp.refl _ _)
  have HP := hid (put_any J0.out.c.drew J0.out.o s i g hs)
  have HM := hid (may_any s)
  have HR := hid (fun W (k : Kp (· = m) (w.alloc (.cells #[.int .i64 1, .int .i64 s, .int .i64 i, .int .u64 g, .int .u64 d] 49)).drew W) => (J0.out.r.kn ((Kp.refl _ _).drew)).km J0.out.c.hm.drew k)
  clear h
  unfold aV
  unfold hV at HP
  rcases (show (1 ≤ s ∧ s ≤ 1073741824) ∨ ¬ 1 ≤ s ∨ (1 ≤ s ∧ ¬ s ≤ 1073741824) from by omega) with ⟨c1, c2⟩ | c1 | ⟨c1, c2⟩
  · rw [decide_eq_true c1, decide_eq_true c2, Bool.and_self] at HM
    go_enter Try.func17, Try.ntmps17
    go_wp2_with fail
    refine wp_region_G (fun W => W.cell? ⟨w.heap.size, 0, none⟩ = some (.int .i64 1) ∧ W.cell? ⟨w.heap.size, 1, none⟩ = some (.int .i64 s) ∧ W.cell? ⟨w.heap.size, 2, none⟩ = some (.int .i64 i) ∧ W.cell? ⟨w.heap.size, 3, none⟩ = some (.int .u64 g) ∧ W.cell? ⟨w.heap.size, 4, none⟩ = some (.int .u64 d)) [(0, .at_), (1, .at_), (2, .at_), (3, .at_), (4, .at_), (6, .held), (7, .held), (8, .held), (9, .held), (10, .held), (5, .eff), (11, .eff), (12, .at_), (13, .at_), (14, .at_), (15, .at_), (17, .held), (18, .held), (19, .held), (16, .eff), (20, .at_), (21, .at_), (22, .at_), (23, .at_), (24, .at_), (25, .at_), (26, .at_), (27, .at_)] ?L1 (by kernel_rfl) (by kernel_rfl) ?hL1 (L0) ?hG1
    case hL1 => simp only [pickOps, List.map_cons, List.map_nil, List.getD_cons_zero, List.getD_cons_succ]; rfl
    repeat (first | (refine wpG_at (v := ?_) (by rfl) ?_ ?_; rotate_left; (focus (first | (go_simp; with_reducible rfl) | (go_simp; done))); simp only [Act.put, List.setIfInBounds_toArray, List.set_cons_zero, List.set_cons_succ]) | (refine wpG_at_skip (by rfl) ?_; simp only [Act.put, List.setIfInBounds_toArray, List.set_cons_zero, List.set_cons_succ]) | (refine wpG_held_skip (by rfl) ?_; simp only [Act.put, List.setIfInBounds_toArray, List.set_cons_zero, List.set_cons_succ]) | (refine wpG_held (v := ?_) (by rfl) ?_ ?_; rotate_left; (focus (intro w' hSw; (try dsimp only at hSw); go_split_ands; first | (go_simp; with_reducible rfl) | (go_simp; done))); simp only [Act.put, List.setIfInBounds_toArray, List.set_cons_zero, List.set_cons_succ]))
    refine wpG_eff (by rfl) (fun K hK => ?_)
    go_simp
    refine HP.out.mono ?_
    rintro e w1 ⟨rfl, T1, k1⟩
    have K1 := hid ((((Kp.refl NoB _).drew).mono (fun _ h => h.elim) : Kp (Q2 m q) _ _).trans (k1.mono (fun _ h => .inl h)))
    have R1 := hid (HR.out _ k1)
    replace T1 := hid T1
    clear k1
    refine hK _ _ (SK.out _ K1.out) ?_
    clear hK K
    have HQ := hid (rput_any R1.out J0.out.o s i g hs)
    repeat (first | (refine wpG_at (v := ?_) (by rfl) ?_ ?_; rotate_left; (focus (first | (go_simp; with_reducible rfl) | (go_simp; done))); simp only [Act.put, List.setIfInBounds_toArray, List.set_cons_zero, List.set_cons_succ]) | (refine wpG_at_skip (by rfl) ?_; simp only [Act.put, List.setIfInBounds_toArray, List.set_cons_zero, List.set_cons_succ]) | (refine wpG_held_skip (by rfl) ?_; simp only [Act.put, List.setIfInBounds_toArray, List.set_cons_zero, List.set_cons_succ]) | (refine wpG_held (v := ?_) (by rfl) ?_ ?_; rotate_left; (focus (intro w' hSw; (try dsimp only at hSw); go_split_ands; first | (go_simp; with_reducible rfl) | (go_simp; done))); simp only [Act.put, List.setIfInBounds_toArray, List.set_cons_zero, List.set_cons_succ]))
    refine wpG_eff (by rfl) (fun K hK => ?_)
    go_simp
    refine HQ.out.mono ?_
    rintro e w2 ⟨rfl, v', R2, k2⟩
    have K2 := hid (K1.out.trans (k2.mono (fun _ h => .inr h)))
    have T2 := hid (T1.out.kq R1.out.hq k2)
    replace R2 := hid R2
    clear k2
    refine hK _ _ (SK.out _ K2.out) ?_
    clear hK K
    generalize hE : putE M room s g = E at *
    replace hE := hid hE
    have L2 := SK.out _ K2.out
    repeat (first | (refine wpG_at (v := ?_) (by rfl) ?_ ?_; rotate_left; (focus (first | (go_simp; with_reducible rfl) | (go_simp; done))); simp only [Act.put, List.setIfInBounds_toArray, List.set_cons_zero, List.set_cons_succ]) | (refine wpG_at_skip (by rfl) ?_; simp only [Act.put, List.setIfInBounds_toArray, List.set_cons_zero, List.set_cons_succ]) | (refine wpG_held_skip (by rfl) ?_; simp only [Act.put, List.setIfInBounds_toArray, List.set_cons_zero, List.set_cons_succ]) | (refine wpG_held (v := ?_) (by rfl) ?_ ?_; rotate_left; (focus (intro w' hSw; (try dsimp only at hSw); go_split_ands; first | (go_simp; with_reducible rfl) | (go_simp; done))); simp only [Act.put, List.setIfInBounds_toArray, List.set_cons_zero, List.set_cons_succ]))
    refine wpG_eff (by rfl) (fun K hK => ?_)
    go_simp
    refine (HM.out _).mono ?_
    rintro e w3 ⟨rfl, rfl⟩
    refine hK _ _ L2 ?_
    clear hK K
    repeat (first | (refine wpG_at (v := ?_) (by rfl) ?_ ?_; rotate_left; (focus (first | (go_simp; with_reducible rfl) | (go_simp; done))); simp only [Act.put, List.setIfInBounds_toArray, List.set_cons_zero, List.set_cons_succ]) | (refine wpG_at_skip (by rfl) ?_; simp only [Act.put, List.setIfInBounds_toArray, List.set_cons_zero, List.set_cons_succ]) | (refine wpG_held_skip (by rfl) ?_; simp only [Act.put, List.setIfInBounds_toArray, List.set_cons_zero, List.set_cons_succ]) | (refine wpG_held (v := ?_) (by rfl) ?_ ?_; rotate_left; (focus (intro w' hSw; (try dsimp only at hSw); go_split_ands; first | (go_simp; with_reducible rfl) | (go_simp; done))); simp only [Act.put, List.setIfInBounds_toArray, List.set_cons_zero, List.set_cons_succ]))
    refine wpG_nil (NoPanic.normal ?_)
    go_wp2_with fail
    go_ret
    exact ⟨rfl, _, v', ⟨T2.out, J0.out.o.put s i g hs, R2.out⟩, (K0.out.mono (fun _ h => h.elim)).trans K2.out⟩
  · rw [decide_eq_false c1, Bool.false_and] at HM
    have c3 := decide_eq_false c1
    clear c1
    go_enter Try.func17, Try.ntmps17
    go_wp2_with fail
    refine wp_region_G (fun W => W.cell? ⟨w.heap.size, 0, none⟩ = some (.int .i64 1) ∧ W.cell? ⟨w.heap.size, 1, none⟩ = some (.int .i64 s) ∧ W.cell? ⟨w.heap.size, 2, none⟩ = some (.int .i64 i) ∧ W.cell? ⟨w.heap.size, 3, none⟩ = some (.int .u64 g) ∧ W.cell? ⟨w.heap.size, 4, none⟩ = some (.int .u64 d)) [(0, .at_), (1, .at_), (2, .at_), (3, .at_), (4, .at_), (6, .held), (7, .held), (8, .held), (9, .held), (10, .held), (5, .eff), (11, .eff), (12, .at_), (13, .at_), (14, .at_), (15, .at_), (17, .held), (18, .held), (19, .held), (16, .eff), (20, .at_), (21, .at_), (22, .at_), (23, .at_), (24, .at_), (25, .at_), (26, .at_), (27, .at_)] ?L2 (by kernel_rfl) (by kernel_rfl) ?hL2 (L0) ?hG2
    case hL2 => simp only [pickOps, List.map_cons, List.map_nil, List.getD_cons_zero, List.getD_cons_succ]; rfl
    repeat (first | (refine wpG_at (v := ?_) (by rfl) ?_ ?_; rotate_left; (focus (first | (go_simp; with_reducible rfl) | (go_simp; done))); simp only [Act.put, List.setIfInBounds_toArray, List.set_cons_zero, List.set_cons_succ]) | (refine wpG_at_skip (by rfl) ?_; simp only [Act.put, List.setIfInBounds_toArray, List.set_cons_zero, List.set_cons_succ]) | (refine wpG_held_skip (by rfl) ?_; simp only [Act.put, List.setIfInBounds_toArray, List.set_cons_zero, List.set_cons_succ]) | (refine wpG_held (v := ?_) (by rfl) ?_ ?_; rotate_left; (focus (intro w' hSw; (try dsimp only at hSw); go_split_ands; first | (go_simp; with_reducible rfl) | (go_simp; done))); simp only [Act.put, List.setIfInBounds_toArray, List.set_cons_zero, List.set_cons_succ]))
    refine wpG_eff (by rfl) (fun K hK => ?_)
    go_simp
    refine HP.out.mono ?_
    rintro e w1 ⟨rfl, T1, k1⟩
    have K1 := hid ((((Kp.refl NoB _).drew).mono (fun _ h => h.elim) : Kp (Q2 m q) _ _).trans (k1.mono (fun _ h => .inl h)))
    have R1 := hid (HR.out _ k1)
    replace T1 := hid T1
    clear k1
    refine hK _ _ (SK.out _ K1.out) ?_
    clear hK K
    have HQ := hid (rput_any R1.out J0.out.o s i g hs)
    repeat (first | (refine wpG_at (v := ?_) (by rfl) ?_ ?_; rotate_left; (focus (first | (go_simp; with_reducible rfl) | (go_simp; done))); simp only [Act.put, List.setIfInBounds_toArray, List.set_cons_zero, List.set_cons_succ]) | (refine wpG_at_skip (by rfl) ?_; simp only [Act.put, List.setIfInBounds_toArray, List.set_cons_zero, List.set_cons_succ]) | (refine wpG_held_skip (by rfl) ?_; simp only [Act.put, List.setIfInBounds_toArray, List.set_cons_zero, List.set_cons_succ]) | (refine wpG_held (v := ?_) (by rfl) ?_ ?_; rotate_left; (focus (intro w' hSw; (try dsimp only at hSw); go_split_ands; first | (go_simp; with_reducible rfl) | (go_simp; done))); simp only [Act.put, List.setIfInBounds_toArray, List.set_cons_zero, List.set_cons_succ]))
    refine wpG_eff (by rfl) (fun K hK => ?_)
    go_simp
    refine HQ.out.mono ?_
    rintro e w2 ⟨rfl, v', R2, k2⟩
    have K2 := hid (K1.out.trans (k2.mono (fun _ h => .inr h)))
    have T2 := hid (T1.out.kq R1.out.hq k2)
    replace R2 := hid R2
    clear k2
    refine hK _ _ (SK.out _ K2.out) ?_
    clear hK K
    generalize hE : putE M room s g = E at *
    replace hE := hid hE
    have L2 := SK.out _ K2.out
    repeat (first | (refine wpG_at (v := ?_) (by rfl) ?_ ?_; rotate_left; (focus (first | (go_simp; with_reducible rfl) | (go_simp; done))); simp only [Act.put, List.setIfInBounds_toArray, List.set_cons_zero, List.set_cons_succ]) | (refine wpG_at_skip (by rfl) ?_; simp only [Act.put, List.setIfInBounds_toArray, List.set_cons_zero, List.set_cons_succ]) | (refine wpG_held_skip (by rfl) ?_; simp only [Act.put, List.setIfInBounds_toArray, List.set_cons_zero, List.set_cons_succ]) | (refine wpG_held (v := ?_) (by rfl) ?_ ?_; rotate_left; (focus (intro w' hSw; (try dsimp only at hSw); go_split_ands; first | (go_simp; with_reducible rfl) | (go_simp; done))); simp only [Act.put, List.setIfInBounds_toArray, List.set_cons_zero, List.set_cons_succ]))
    refine wpG_eff (by rfl) (fun K hK => ?_)
    go_simp
    refine (HM.out _).mono ?_
    rintro e w3 ⟨rfl, rfl⟩
    refine hK _ _ L2 ?_
    clear hK K
    repeat (first | (refine wpG_at (v := ?_) (by rfl) ?_ ?_; rotate_left; (focus (first | (go_simp; with_reducible rfl) | (go_simp; done))); simp only [Act.put, List.setIfInBounds_toArray, List.set_cons_zero, List.set_cons_succ]) | (refine wpG_at_skip (by rfl) ?_; simp only [Act.put, List.setIfInBounds_toArray, List.set_cons_zero, List.set_cons_succ]) | (refine wpG_held_skip (by rfl) ?_; simp only [Act.put, List.setIfInBounds_toArray, List.set_cons_zero, List.set_cons_succ]) | (refine wpG_held (v := ?_) (by rfl) ?_ ?_; rotate_left; (focus (intro w' hSw; (try dsimp only at hSw); go_split_ands; first | (go_simp; with_reducible rfl) | (go_simp; done))); simp only [Act.put, List.setIfInBounds_toArray, List.set_cons_zero, List.set_cons_succ]))
    refine wpG_nil (NoPanic.normal ?_)
    go_wp2_with fail
    go_ret
    exact ⟨rfl, _, v', ⟨T2.out, J0.out.o.put s i g hs, R2.out⟩, (K0.out.mono (fun _ h => h.elim)).trans K2.out⟩
  · rw [decide_eq_true c1, decide_eq_false c2, Bool.true_and] at HM
    have c3 := decide_eq_false c2
    clear c2
    go_enter Try.func17, Try.ntmps17
    go_wp2_with fail
    refine wp_region_G (fun W => W.cell? ⟨w.heap.size, 0, none⟩ = some (.int .i64 1) ∧ W.cell? ⟨w.heap.size, 1, none⟩ = some (.int .i64 s) ∧ W.cell? ⟨w.heap.size, 2, none⟩ = some (.int .i64 i) ∧ W.cell? ⟨w.heap.size, 3, none⟩ = some (.int .u64 g) ∧ W.cell? ⟨w.heap.size, 4, none⟩ = some (.int .u64 d)) [(0, .at_), (1, .at_), (2, .at_), (3, .at_), (4, .at_), (6, .held), (7, .held), (8, .held), (9, .held), (10, .held), (5, .eff), (11, .eff), (12, .at_), (13, .at_), (14, .at_), (15, .at_), (17, .held), (18, .held), (19, .held), (16, .eff), (20, .at_), (21, .at_), (22, .at_), (23, .at_), (24, .at_), (25, .at_), (26, .at_), (27, .at_)] ?L3 (by kernel_rfl) (by kernel_rfl) ?hL3 (L0) ?hG3
    case hL3 => simp only [pickOps, List.map_cons, List.map_nil, List.getD_cons_zero, List.getD_cons_succ]; rfl
    repeat (first | (refine wpG_at (v := ?_) (by rfl) ?_ ?_; rotate_left; (focus (first | (go_simp; with_reducible rfl) | (go_simp; done))); simp only [Act.put, List.setIfInBounds_toArray, List.set_cons_zero, List.set_cons_succ]) | (refine wpG_at_skip (by rfl) ?_; simp only [Act.put, List.setIfInBounds_toArray, List.set_cons_zero, List.set_cons_succ]) | (refine wpG_held_skip (by rfl) ?_; simp only [Act.put, List.setIfInBounds_toArray, List.set_cons_zero, List.set_cons_succ]) | (refine wpG_held (v := ?_) (by rfl) ?_ ?_; rotate_left; (focus (intro w' hSw; (try dsimp only at hSw); go_split_ands; first | (go_simp; with_reducible rfl) | (go_simp; done))); simp only [Act.put, List.setIfInBounds_toArray, List.set_cons_zero, List.set_cons_succ]))
    refine wpG_eff (by rfl) (fun K hK => ?_)
    go_simp
    refine HP.out.mono ?_
    rintro e w1 ⟨rfl, T1, k1⟩
    have K1 := hid ((((Kp.refl NoB _).drew).mono (fun _ h => h.elim) : Kp (Q2 m q) _ _).trans (k1.mono (fun _ h => .inl h)))
    have R1 := hid (HR.out _ k1)
    replace T1 := hid T1
    clear k1
    refine hK _ _ (SK.out _ K1.out) ?_
    clear hK K
    have HQ := hid (rput_any R1.out J0.out.o s i g hs)
    repeat (first | (refine wpG_at (v := ?_) (by rfl) ?_ ?_; rotate_left; (focus (first | (go_simp; with_reducible rfl) | (go_simp; done))); simp only [Act.put, List.setIfInBounds_toArray, List.set_cons_zero, List.set_cons_succ]) | (refine wpG_at_skip (by rfl) ?_; simp only [Act.put, List.setIfInBounds_toArray, List.set_cons_zero, List.set_cons_succ]) | (refine wpG_held_skip (by rfl) ?_; simp only [Act.put, List.setIfInBounds_toArray, List.set_cons_zero, List.set_cons_succ]) | (refine wpG_held (v := ?_) (by rfl) ?_ ?_; rotate_left; (focus (intro w' hSw; (try dsimp only at hSw); go_split_ands; first | (go_simp; with_reducible rfl) | (go_simp; done))); simp only [Act.put, List.setIfInBounds_toArray, List.set_cons_zero, List.set_cons_succ]))
    refine wpG_eff (by rfl) (fun K hK => ?_)
    go_simp
    refine HQ.out.mono ?_
    rintro e w2 ⟨rfl, v', R2, k2⟩
    have K2 := hid (K1.out.trans (k2.mono (fun _ h => .inr h)))
    have T2 := hid (T1.out.kq R1.out.hq k2)
    replace R2 := hid R2
    clear k2
    refine hK _ _ (SK.out _ K2.out) ?_
    clear hK K
    generalize hE : putE M room s g = E at *
    replace hE := hid hE
    have L2 := SK.out _ K2.out
    repeat (first | (refine wpG_at (v := ?_) (by rfl) ?_ ?_; rotate_left; (focus (first | (go_simp; with_reducible rfl) | (go_simp; done))); simp only [Act.put, List.setIfInBounds_toArray, List.set_cons_zero, List.set_cons_succ]) | (refine wpG_at_skip (by rfl) ?_; simp only [Act.put, List.setIfInBounds_toArray, List.set_cons_zero, List.set_cons_succ]) | (refine wpG_held_skip (by rfl) ?_; simp only [Act.put, List.setIfInBounds_toArray, List.set_cons_zero, List.set_cons_succ]) | (refine wpG_held (v := ?_) (by rfl) ?_ ?_; rotate_left; (focus (intro w' hSw; (try dsimp only at hSw); go_split_ands; first | (go_simp; with_reducible rfl) | (go_simp; done))); simp only [Act.put, List.setIfInBounds_toArray, List.set_cons_zero, List.set_cons_succ]))
    refine wpG_eff (by rfl) (fun K hK => ?_)
    go_simp
    refine (HM.out _).mono ?_
    rintro e w3 ⟨rfl, rfl⟩
    refine hK _ _ L2 ?_
    clear hK K
    repeat (first | (refine wpG_at (v := ?_) (by rfl) ?_ ?_; rotate_left; (focus (first | (go_simp; with_reducible rfl) | (go_simp; done))); simp only [Act.put, List.setIfInBounds_toArray, List.set_cons_zero, List.set_cons_succ]) | (refine wpG_at_skip (by rfl) ?_; simp only [Act.put, List.setIfInBounds_toArray, List.set_cons_zero, List.set_cons_succ]) | (refine wpG_held_skip (by rfl) ?_; simp only [Act.put, List.setIfInBounds_toArray, List.set_cons_zero, List.set_cons_succ]) | (refine wpG_held (v := ?_) (by rfl) ?_ ?_; rotate_left; (focus (intro w' hSw; (try dsimp only at hSw); go_split_ands; first | (go_simp; with_reducible rfl) | (go_simp; done))); simp only [Act.put, List.setIfInBounds_toArray, List.set_cons_zero, List.set_cons_succ]))
    refine wpG_nil (NoPanic.normal ?_)
    go_wp2_with fail
    go_ret
    exact ⟨rfl, _, v', ⟨T2.out, J0.out.o.put s i g hs, R2.out⟩, (K0.out.mono (fun _ h => h.elim)).trans K2.out⟩
set_option maxRecDepth 100000 in
set_option maxHeartbeats 8000000 in
theorem do_2 (h : JAt w p m q room M v) (s i g d : Int) (hs : (Lit.int .i64 s).wf = true) (hd : 0 ≤ d ∧ d < 18446744073709551616) :
    Calls Try.prog 17 #[.pointer (some ⟨p, 0, none⟩), .pointer (some ⟨q, 0, none⟩), aV 2 s i g d] w fun e w' => e = .returned (.bool true) ∧ ∃ M' v', JAt w' p m q room M' v' ∧ Kp (Q2 m q) w w' := by
  have hml : M.length ≤ 64 := Nat.le_trans h.o.le h.o.n2
  have hll := hid (rowsL_len M)
  have J0 := hid (h.kn (((Kp.refl NoB w)).alloc (.cells #[.int .i64 2, .int .i64 s, .int .i64 i, .int .u64 g, .int .u64 d] 49)))
  have K0 := hid (((Kp.refl NoB w)).alloc (.cells #[.int .i64 2, .int .i64 s, .int .i64 i, .int .u64 g, .int .u64 d] 49))
  have B0 := hid (blk_new w (.cells #[.int .i64 2, .int .i64 s, .int .i64 i, .int .u64 g, .int .u64 d] 49))
  have hlt := h.lt
  have hpm := hid h.c.ne
  have SK := hid (fun W (k : Kp (Q2 m q) (w.alloc (.cells #[.int .i64 2, .int .i64 s, .int .i64 i, .int .u64 g, .int .u64 d] 49)) W) => box5 (k.get B0.out (by rintro (e | e) <;> omega)))
  have SN := hid (fun W (k : Kp NoB (w.alloc (.cells #[.int .i64 2, .int .i64 s, .int .i64 i, .int .u64 g, .int .u64 d] 49)) W) => box5 (k.get B0.out (fun h => h)))
  have L0 := SN.out _ (Kp.refl _ _)
  have HP := hid (cdrop_any J0.out.c.drew J0.out.o s hs)
  have HR := hid (fun W (k : Kp (· = m) (w.alloc (.cells #[.int .i64 2, .int .i64 s, .int .i64 i, .int .u64 g, .int .u64 d] 49)).drew W) => (J0.out.r.kn ((Kp.refl _ _).drew)).km J0.out.c.hm.drew k)
  clear h
  unfold aV
  go_enter Try.func17, Try.ntmps17
  go_wp2_with fail
  refine wp_region_G (fun W => W.cell? ⟨w.heap.size, 0, none⟩ = some (.int .i64 2) ∧ W.cell? ⟨w.heap.size, 1, none⟩ = some (.int .i64 s) ∧ W.cell? ⟨w.heap.size, 2, none⟩ = some (.int .i64 i) ∧ W.cell? ⟨w.heap.size, 3, none⟩ = some (.int .u64 g) ∧ W.cell? ⟨w.heap.size, 4, none⟩ = some (.int .u64 d)) [(0, .at_), (1, .at_), (2, .at_), (4, .held), (5, .held), (6, .held), (3, .eff), (7, .eff), (8, .at_), (9, .at_)] ?L4 (by kernel_rfl) (by kernel_rfl) ?hL4 (L0) ?hG4
  case hL4 => simp only [pickOps, List.map_cons, List.map_nil, List.getD_cons_zero, List.getD_cons_succ]; rfl
  repeat (first | (refine wpG_at (v := ?_) (by rfl) ?_ ?_; rotate_left; (focus (first | (go_simp; with_reducible rfl) | (go_simp; done))); simp only [Act.put, List.setIfInBounds_toArray, List.set_cons_zero, List.set_cons_succ]) | (refine wpG_at_skip (by rfl) ?_; simp only [Act.put, List.setIfInBounds_toArray, List.set_cons_zero, List.set_cons_succ]) | (refine wpG_held_skip (by rfl) ?_; simp only [Act.put, List.setIfInBounds_toArray, List.set_cons_zero, List.set_cons_succ]) | (refine wpG_held (v := ?_) (by rfl) ?_ ?_; rotate_left; (focus (intro w' hSw; (try dsimp only at hSw); go_split_ands; first | (go_simp; with_reducible rfl) | (go_simp; done))); simp only [Act.put, List.setIfInBounds_toArray, List.set_cons_zero, List.set_cons_succ]))
  refine wpG_eff (by rfl) (fun K hK => ?_)
  go_simp
  refine HP.out.mono ?_
  rintro e w1 ⟨rfl, T1, k1⟩
  have K1 := hid ((((Kp.refl NoB _).drew).mono (fun _ h => h.elim) : Kp (Q2 m q) _ _).trans (k1.mono (fun _ h => .inl h)))
  have R1 := hid (HR.out _ k1)
  replace T1 := hid T1
  clear k1
  refine hK _ _ (SK.out _ K1.out) ?_
  clear hK K
  have HQ := hid (rdrop_any R1.out J0.out.o s)
  repeat (first | (refine wpG_at (v := ?_) (by rfl) ?_ ?_; rotate_left; (focus (first | (go_simp; with_reducible rfl) | (go_simp; done))); simp only [Act.put, List.setIfInBounds_toArray, List.set_cons_zero, List.set_cons_succ]) | (refine wpG_at_skip (by rfl) ?_; simp only [Act.put, List.setIfInBounds_toArray, List.set_cons_zero, List.set_cons_succ]) | (refine wpG_held_skip (by rfl) ?_; simp only [Act.put, List.setIfInBounds_toArray, List.set_cons_zero, List.set_cons_succ]) | (refine wpG_held (v := ?_) (by rfl) ?_ ?_; rotate_left; (focus (intro w' hSw; (try dsimp only at hSw); go_split_ands; first | (go_simp; with_reducible rfl) | (go_simp; done))); simp only [Act.put, List.setIfInBounds_toArray, List.set_cons_zero, List.set_cons_succ]))
  refine wpG_eff (by rfl) (fun K hK => ?_)
  go_simp
  refine HQ.out.mono ?_
  rintro e w2 ⟨rfl, v', R2, k2⟩
  have K2 := hid (K1.out.trans (k2.mono (fun _ h => .inr h)))
  have T2 := hid (T1.out.kq R1.out.hq k2)
  replace R2 := hid R2
  clear k2
  refine hK _ _ (SK.out _ K2.out) ?_
  clear hK K
  generalize dropE M s = E at *
  repeat (first | (refine wpG_at (v := ?_) (by rfl) ?_ ?_; rotate_left; (focus (first | (go_simp; with_reducible rfl) | (go_simp; done))); simp only [Act.put, List.setIfInBounds_toArray, List.set_cons_zero, List.set_cons_succ]) | (refine wpG_at_skip (by rfl) ?_; simp only [Act.put, List.setIfInBounds_toArray, List.set_cons_zero, List.set_cons_succ]) | (refine wpG_held_skip (by rfl) ?_; simp only [Act.put, List.setIfInBounds_toArray, List.set_cons_zero, List.set_cons_succ]) | (refine wpG_held (v := ?_) (by rfl) ?_ ?_; rotate_left; (focus (intro w' hSw; (try dsimp only at hSw); go_split_ands; first | (go_simp; with_reducible rfl) | (go_simp; done))); simp only [Act.put, List.setIfInBounds_toArray, List.set_cons_zero, List.set_cons_succ]))
  refine wpG_nil (NoPanic.normal ?_)
  go_wp2_with fail
  go_ret
  exact ⟨rfl, _, v', ⟨T2.out, J0.out.o.del s, R2.out⟩, (K0.out.mono (fun _ h => h.elim)).trans K2.out⟩
set_option maxRecDepth 100000 in
set_option maxHeartbeats 8000000 in
theorem do_3 (h : JAt w p m q room M v) (s i g d : Int) (hs : (Lit.int .i64 s).wf = true) (hd : 0 ≤ d ∧ d < 18446744073709551616) :
    Calls Try.prog 17 #[.pointer (some ⟨p, 0, none⟩), .pointer (some ⟨q, 0, none⟩), aV 3 s i g d] w fun e w' => e = .returned (.bool true) ∧ ∃ M' v', JAt w' p m q room M' v' ∧ Kp (Q2 m q) w w' := by
  have hml : M.length ≤ 64 := Nat.le_trans h.o.le h.o.n2
  have hll := hid (rowsL_len M)
  have J0 := hid (h.kn (((Kp.refl NoB w)).alloc (.cells #[.int .i64 3, .int .i64 s, .int .i64 i, .int .u64 g, .int .u64 d] 49)))
  have K0 := hid (((Kp.refl NoB w)).alloc (.cells #[.int .i64 3, .int .i64 s, .int .i64 i, .int .u64 g, .int .u64 d] 49))
  have B0 := hid (blk_new w (.cells #[.int .i64 3, .int .i64 s, .int .i64 i, .int .u64 g, .int .u64 d] 49))
  have hlt := h.lt
  have hpm := hid h.c.ne
  have SK := hid (fun W (k : Kp (Q2 m q) (w.alloc (.cells #[.int .i64 3, .int .i64 s, .int .i64 i, .int .u64 g, .int .u64 d] 49)) W) => box5 (k.get B0.out (by rintro (e | e) <;> omega)))
  have SN := hid (fun W (k : Kp NoB (w.alloc (.cells #[.int .i64 3, .int .i64 s, .int .i64 i, .int .u64 g, .int .u64 d] 49)) W) => box5 (k.get B0.out (fun h => h)))
  have L0 := SN.out _ (Kp.refl _ _)
  have HG := hid (get_any J0.out.c J0.out.o s hs)
  obtain ⟨ov, cv, hvv, _⟩ := h.r.hv.form
  subst hvv
  unfold aV
  by_cases hq : (mget M s).isSome = true
  · obtain ⟨j, hf, hj⟩ := find_row h.o hq
    have hel := row_el h.o s
    obtain ⟨b, c', hv', hcc, hcell⟩ := J0.out.r.cells (x := s) (y := (rowOf M s).2.1) (z := (rowOf M s).2.2) hj
    generalize (rowOf M s).2.1 = i2 at *
    generalize (rowOf M s).2.2 = g2 at *
    rw [hel, hq] at HG
    injection hv' with hv1 _ hv3
    subst hv1; subst hv3
    have hjl : (j : Int) < ((rowsL M).length : Int) := by have := (List.getElem?_eq_some_iff.1 hj).1; omega
    have hcc' : ((rowsL M).length : Int) ≤ (cv : Int) := by omega
    have b1 : (0 : Int) ≤ (j : Int) := Int.natCast_nonneg _
    replace hj := hid hj
    replace hcell := hid hcell
    clear h hel hq
    unfold hV at HG
    go_enter Try.func17, Try.ntmps17
    go_wp2_with fail
    refine HG.out.mono ?_
    rintro e w1 ⟨rfl, k1⟩
    have K1 := hid (k1.alloc (.cells #[.int .i64 i2, .int .u64 g2] 25))
    have J1 := hid (J0.out.kn K1.out)
    have HF1 := hid (find_any J1.out.r (by have := hll.out; omega) s)
    have L1 := SN.out _ K1.out
    have B7 := hid (blk_new w1 (.cells #[.int .i64 i2, .int .u64 g2] 25))
    have L7 := loc2 B7.out
    have Lq := loc2 J1.out.r.hq
    rw [hf] at HF1
    clear k1 L0
    have Le := hcell.out _ K1.out
    replace hf := hid hf
    go_wp2_with fail
    refine HF1.out.mono ?_
    rintro e w2 ⟨rfl, rfl⟩
    go_wp2_with fail
    refine wp_region_G (fun _ => True) [(0, .at_), (1, .at_), (2, .at_), (3, .at_), (4, .at_), (5, .at_), (6, .at_), (7, .at_), (8, .at_), (9, .at_), (10, .at_), (11, .at_), (12, .at_), (13, .at_), (14, .at_), (15, .at_), (16, .at_), (17, .at_), (18, .at_), (19, .at_), (20, .at_), (21, .at_), (22, .at_), (23, .at_), (24, .at_), (25, .at_), (26, .at_), (27, .at_), (28, .at_)] ?L5 (by kernel_rfl) (by kernel_rfl) ?hL5 (trivial) ?hG5
    case hL5 => simp only [pickOps, List.map_cons, List.map_nil, List.getD_cons_zero, List.getD_cons_succ]; rfl
    repeat (first | (refine wpG_at (v := ?_) (by rfl) ?_ ?_; rotate_left; (focus (first | (go_simp; with_reducible rfl) | (go_simp; done))); simp only [Act.put, List.setIfInBounds_toArray, List.set_cons_zero, List.set_cons_succ]) | (refine wpG_at_skip (by rfl) ?_; simp only [Act.put, List.setIfInBounds_toArray, List.set_cons_zero, List.set_cons_succ]) | (refine wpG_held_skip (by rfl) ?_; simp only [Act.put, List.setIfInBounds_toArray, List.set_cons_zero, List.set_cons_succ]) | (refine wpG_held (v := ?_) (by rfl) ?_ ?_; rotate_left; (focus (intro w' hSw; (try dsimp only at hSw); go_split_ands; first | (go_simp; with_reducible rfl) | (go_simp; done))); simp only [Act.put, List.setIfInBounds_toArray, List.set_cons_zero, List.set_cons_succ]))
    refine wpG_nil (NoPanic.normal ?_)
    go_wp2_with fail
    go_ret
    exact ⟨rfl, M, _, J1.out.kn ((Kp.refl _ _).drew), (K0.out.mono (fun _ h => h.elim)).trans (((K1.out.drew).mono (fun _ h => h.elim)))⟩
  · have hq' : (mget M s).isSome = false := by simpa using hq
    have hel : (mget M s).getD (hV 0 0) = hV 0 0 := by
      cases h2 : mget M s with
      | none => rfl
      | some x => rw [h2] at hq'; simp at hq'
    have hf : ∃ r, findR (rowsL M) s = r ∧ r < 0 := ⟨_, rfl, by
      refine Classical.byContradiction fun hc => hq ((find_iff h.o).1 (by omega))⟩
    obtain ⟨r, hf, hr⟩ := hf
    have hr' : decide (0 ≤ r) = false := decide_eq_false (by omega)
    have hz : ∀ W, (Instr.build 25 #[]).run Try.prog W = .ok (.agg #[.int .i64 0, .int .u64 0]) W := fun _ => by kernel_rfl
    rw [hel, hq'] at HG
    clear h hel hq hq'
    unfold hV at HG
    go_enter Try.func17, Try.ntmps17
    go_wp2_with fail
    refine HG.out.mono ?_
    rintro e w1 ⟨rfl, k1⟩
    have K1 := hid (k1.alloc (.cells #[.int .i64 0, .int .u64 0] 25))
    have J1 := hid (J0.out.kn K1.out)
    have HF1 := hid (find_any J1.out.r (by have := hll.out; omega) s)
    have L1 := SN.out _ K1.out
    have B7 := hid (blk_new w1 (.cells #[.int .i64 0, .int .u64 0] 25))
    have L7 := loc2 B7.out
    have Lq := loc2 J1.out.r.hq
    rw [hf] at HF1
    clear k1 L0
    
    replace hf := hid hf
    go_wp2_with fail
    refine HF1.out.mono ?_
    rintro e w2 ⟨rfl, rfl⟩
    go_wp2_with fail
    refine wp_region_G (fun _ => True) [(0, .at_), (1, .at_), (2, .at_), (3, .at_), (4, .at_), (5, .at_), (6, .at_), (7, .at_), (8, .at_), (9, .at_), (10, .at_), (11, .at_), (12, .at_), (13, .at_), (14, .at_), (15, .at_), (16, .at_), (17, .at_), (18, .at_), (19, .at_), (20, .at_), (21, .at_), (22, .at_), (23, .at_), (24, .at_), (25, .at_), (26, .at_), (27, .at_), (28, .at_)] ?L6 (by kernel_rfl) (by kernel_rfl) ?hL6 (trivial) ?hG6
    case hL6 => simp only [pickOps, List.map_cons, List.map_nil, List.getD_cons_zero, List.getD_cons_succ]; rfl
    repeat (first | (refine wpG_at (v := ?_) (by rfl) ?_ ?_; rotate_left; (focus (first | (go_simp; with_reducible rfl) | (go_simp; done))); simp only [Act.put, List.setIfInBounds_toArray, List.set_cons_zero, List.set_cons_succ]) | (refine wpG_at_skip (by rfl) ?_; simp only [Act.put, List.setIfInBounds_toArray, List.set_cons_zero, List.set_cons_succ]) | (refine wpG_held_skip (by rfl) ?_; simp only [Act.put, List.setIfInBounds_toArray, List.set_cons_zero, List.set_cons_succ]) | (refine wpG_held (v := ?_) (by rfl) ?_ ?_; rotate_left; (focus (intro w' hSw; (try dsimp only at hSw); go_split_ands; first | (go_simp; with_reducible rfl) | (go_simp; done))); simp only [Act.put, List.setIfInBounds_toArray, List.set_cons_zero, List.set_cons_succ]))
    refine wpG_nil (NoPanic.normal ?_)
    go_wp2_with fail
    go_ret
    exact ⟨rfl, M, _, J1.out.kn ((Kp.refl _ _).drew), (K0.out.mono (fun _ h => h.elim)).trans (((K1.out.drew).mono (fun _ h => h.elim)))⟩
set_option maxRecDepth 100000 in
set_option maxHeartbeats 8000000 in
theorem do_4 (h : JAt w p m q room M v) (s i g d : Int) (hs : (Lit.int .i64 s).wf = true) (hd : 0 ≤ d ∧ d < 18446744073709551616) :
    Calls Try.prog 17 #[.pointer (some ⟨p, 0, none⟩), .pointer (some ⟨q, 0, none⟩), aV 4 s i g d] w fun e w' => e = .returned (.bool true) ∧ ∃ M' v', JAt w' p m q room M' v' ∧ Kp (Q2 m q) w w' := by
  have hml : M.length ≤ 64 := Nat.le_trans h.o.le h.o.n2
  have hll := hid (rowsL_len M)
  have J0 := hid (h.kn (((Kp.refl NoB w)).alloc (.cells #[.int .i64 4, .int .i64 s, .int .i64 i, .int .u64 g, .int .u64 d] 49)))
  have K0 := hid (((Kp.refl NoB w)).alloc (.cells #[.int .i64 4, .int .i64 s, .int .i64 i, .int .u64 g, .int .u64 d] 49))
  have B0 := hid (blk_new w (.cells #[.int .i64 4, .int .i64 s, .int .i64 i, .int .u64 g, .int .u64 d] 49))
  have hlt := h.lt
  have hpm := hid h.c.ne
  have SK := hid (fun W (k : Kp (Q2 m q) (w.alloc (.cells #[.int .i64 4, .int .i64 s, .int .i64 i, .int .u64 g, .int .u64 d] 49)) W) => box5 (k.get B0.out (by rintro (e | e) <;> omega)))
  have SN := hid (fun W (k : Kp NoB (w.alloc (.cells #[.int .i64 4, .int .i64 s, .int .i64 i, .int .u64 g, .int .u64 d] 49)) W) => box5 (k.get B0.out (fun h => h)))
  have L0 := SN.out _ (Kp.refl _ _)
  have HG := hid (next_any J0.out.c J0.out.o d hd.1 hd.2)
  clear h
  unfold aV
  go_enter Try.func17, Try.ntmps17
  go_wp2_with fail
  refine HG.out.mono ?_
  rintro e w1 ⟨dd, hN, rfl, k1⟩
  have K1 := hid k1
  have J1 := hid (J0.out.kn k1)
  have HF1 := hid (rnext_any J1.out.r J1.out.o d hd.1 hd.2 hN)
  have L1 := SN.out _ K1.out
  replace hN := hid hN
  clear k1 L0
  generalize it dd (1 + d % 1073741824) = sv at *
  go_wp2_with fail
  refine HF1.out.mono ?_
  rintro e w2 ⟨rfl, rfl⟩
  go_wp2_with fail
  go_ret
  exact ⟨rfl, M, v, J1.out, (K0.out.mono (fun _ h => h.elim)).trans (K1.out.mono (fun _ h => h.elim))⟩
set_option maxRecDepth 100000 in
set_option maxHeartbeats 8000000 in
theorem do_5 (h : JAt w p m q room M v) (s i g d : Int) (hs : (Lit.int .i64 s).wf = true) (hd : 0 ≤ d ∧ d < 18446744073709551616) :
    Calls Try.prog 17 #[.pointer (some ⟨p, 0, none⟩), .pointer (some ⟨q, 0, none⟩), aV 5 s i g d] w fun e w' => e = .returned (.bool true) ∧ ∃ M' v', JAt w' p m q room M' v' ∧ Kp (Q2 m q) w w' := by
  have hml : M.length ≤ 64 := Nat.le_trans h.o.le h.o.n2
  have hll := hid (rowsL_len M)
  have J0 := hid (h.kn (((Kp.refl NoB w)).alloc (.cells #[.int .i64 5, .int .i64 s, .int .i64 i, .int .u64 g, .int .u64 d] 49)))
  have K0 := hid (((Kp.refl NoB w)).alloc (.cells #[.int .i64 5, .int .i64 s, .int .i64 i, .int .u64 g, .int .u64 d] 49))
  have B0 := hid (blk_new w (.cells #[.int .i64 5, .int .i64 s, .int .i64 i, .int .u64 g, .int .u64 d] 49))
  have hlt := h.lt
  have hpm := hid h.c.ne
  have SK := hid (fun W (k : Kp (Q2 m q) (w.alloc (.cells #[.int .i64 5, .int .i64 s, .int .i64 i, .int .u64 g, .int .u64 d] 49)) W) => box5 (k.get B0.out (by rintro (e | e) <;> omega)))
  have SN := hid (fun W (k : Kp NoB (w.alloc (.cells #[.int .i64 5, .int .i64 s, .int .i64 i, .int .u64 g, .int .u64 d] 49)) W) => box5 (k.get B0.out (fun h => h)))
  have L0 := SN.out _ (Kp.refl _ _)
  have HG := hid (next_any J0.out.c J0.out.o d hd.1 hd.2)
  clear h
  unfold aV
  go_enter Try.func17, Try.ntmps17
  go_wp2_with fail
  refine HG.out.mono ?_
  rintro e w1 ⟨dd, hN, rfl, k1⟩
  have K1 := hid k1
  have J1 := hid (J0.out.kn k1)
  have HF1 := hid (rnext_any (J1.out.r.kn ((Kp.refl _ _).drew)) J1.out.o d hd.1 hd.2 hN)
  have L1 := SN.out _ K1.out
  have hw := hid (show (Lit.int .i64 (it dd (1 + d % 1073741824))).wf = true from by have := it_range dd (1 + d % 1073741824); exact WalkArith.wf_i64 (by omega))
  have hlt1 := J1.out.lt
  clear k1 L0 hN
  generalize it dd (1 + d % 1073741824) = sv at *
  have HP := hid (put_any J1.out.c.drew J1.out.o sv i g hw.out)
  have HR := hid (fun W (k : Kp (· = m) w1.drew W) => (J1.out.r.kn ((Kp.refl _ _).drew)).km J1.out.c.hm.drew k)
  have HQ := hid (fun W (h : RAt W q room v (rowsL M)) => rput_any h J1.out.o sv i g hw.out)
  unfold hV at HP HQ
  generalize hE : putE M room sv g = E at *
  replace hE := hid hE
  go_wp2_with fail
  refine wp_region_G (fun W => W.cell? ⟨w.heap.size, 0, none⟩ = some (.int .i64 5) ∧ W.cell? ⟨w.heap.size, 1, none⟩ = some (.int .i64 s) ∧ W.cell? ⟨w.heap.size, 2, none⟩ = some (.int .i64 i) ∧ W.cell? ⟨w.heap.size, 3, none⟩ = some (.int .u64 g) ∧ W.cell? ⟨w.heap.size, 4, none⟩ = some (.int .u64 d)) [(0, .at_), (1, .at_), (2, .at_), (3, .held), (4, .at_), (5, .at_), (6, .at_), (7, .eff), (8, .at_), (9, .at_), (10, .at_), (11, .at_), (12, .at_), (13, .at_), (14, .at_), (16, .held), (17, .held), (18, .held), (19, .held), (15, .eff), (20, .eff), (21, .at_), (22, .at_), (23, .at_)] ?L7 (by kernel_rfl) (by kernel_rfl) ?hL7 (L1) ?hG7
  case hL7 => simp only [pickOps, List.map_cons, List.map_nil, List.getD_cons_zero, List.getD_cons_succ]; rfl
  repeat (first | (refine wpG_at (v := ?_) (by rfl) ?_ ?_; rotate_left; (focus (first | (go_simp; with_reducible rfl) | (go_simp; done))); simp only [Act.put, List.setIfInBounds_toArray, List.set_cons_zero, List.set_cons_succ]) | (refine wpG_at_skip (by rfl) ?_; simp only [Act.put, List.setIfInBounds_toArray, List.set_cons_zero, List.set_cons_succ]) | (refine wpG_held_skip (by rfl) ?_; simp only [Act.put, List.setIfInBounds_toArray, List.set_cons_zero, List.set_cons_succ]) | (refine wpG_held (v := ?_) (by rfl) ?_ ?_; rotate_left; (focus (intro w' hSw; (try dsimp only at hSw); go_split_ands; first | (go_simp; with_reducible rfl) | (go_simp; done))); simp only [Act.put, List.setIfInBounds_toArray, List.set_cons_zero, List.set_cons_succ]))
  refine wpG_eff (by rfl) (fun K hK => ?_)
  go_simp
  refine HF1.out.mono ?_
  rintro e w2 ⟨rfl, rfl⟩
  refine hK _ _ L1 ?_
  clear hK K
  repeat (first | (refine wpG_at (v := ?_) (by rfl) ?_ ?_; rotate_left; (focus (first | (go_simp; with_reducible rfl) | (go_simp; done))); simp only [Act.put, List.setIfInBounds_toArray, List.set_cons_zero, List.set_cons_succ]) | (refine wpG_at_skip (by rfl) ?_; simp only [Act.put, List.setIfInBounds_toArray, List.set_cons_zero, List.set_cons_succ]) | (refine wpG_held_skip (by rfl) ?_; simp only [Act.put, List.setIfInBounds_toArray, List.set_cons_zero, List.set_cons_succ]) | (refine wpG_held (v := ?_) (by rfl) ?_ ?_; rotate_left; (focus (intro w' hSw; (try dsimp only at hSw); go_split_ands; first | (go_simp; with_reducible rfl) | (go_simp; done))); simp only [Act.put, List.setIfInBounds_toArray, List.set_cons_zero, List.set_cons_succ]))
  refine wpG_eff (by rfl) (fun K hK => ?_)
  go_simp
  refine HP.out.mono ?_
  rintro e w2 ⟨rfl, T1, k1⟩
  have K2 := hid ((((K1.out.drew).mono (fun _ h => h.elim)) : Kp (Q2 m q) _ _).trans (k1.mono (fun _ h => .inl h)))
  have R1 := hid (HR.out _ k1)
  replace T1 := hid T1
  clear k1
  refine hK _ _ (SK.out _ K2.out) ?_
  clear hK K
  repeat (first | (refine wpG_at (v := ?_) (by rfl) ?_ ?_; rotate_left; (focus (first | (go_simp; with_reducible rfl) | (go_simp; done))); simp only [Act.put, List.setIfInBounds_toArray, List.set_cons_zero, List.set_cons_succ]) | (refine wpG_at_skip (by rfl) ?_; simp only [Act.put, List.setIfInBounds_toArray, List.set_cons_zero, List.set_cons_succ]) | (refine wpG_held_skip (by rfl) ?_; simp only [Act.put, List.setIfInBounds_toArray, List.set_cons_zero, List.set_cons_succ]) | (refine wpG_held (v := ?_) (by rfl) ?_ ?_; rotate_left; (focus (intro w' hSw; (try dsimp only at hSw); go_split_ands; first | (go_simp; with_reducible rfl) | (go_simp; done))); simp only [Act.put, List.setIfInBounds_toArray, List.set_cons_zero, List.set_cons_succ]))
  refine wpG_eff (by rfl) (fun K hK => ?_)
  go_simp
  refine (HQ.out _ R1.out).mono ?_
  rintro e w3 ⟨rfl, v', R2, k2⟩
  have K3 := hid (K2.out.trans (k2.mono (fun _ h => .inr h)))
  have T2 := hid (T1.out.kq R1.out.hq k2)
  replace R2 := hid R2
  clear k2
  refine hK _ _ (SK.out _ K3.out) ?_
  clear hK K
  repeat (first | (refine wpG_at (v := ?_) (by rfl) ?_ ?_; rotate_left; (focus (first | (go_simp; with_reducible rfl) | (go_simp; done))); simp only [Act.put, List.setIfInBounds_toArray, List.set_cons_zero, List.set_cons_succ]) | (refine wpG_at_skip (by rfl) ?_; simp only [Act.put, List.setIfInBounds_toArray, List.set_cons_zero, List.set_cons_succ]) | (refine wpG_held_skip (by rfl) ?_; simp only [Act.put, List.setIfInBounds_toArray, List.set_cons_zero, List.set_cons_succ]) | (refine wpG_held (v := ?_) (by rfl) ?_ ?_; rotate_left; (focus (intro w' hSw; (try dsimp only at hSw); go_split_ands; first | (go_simp; with_reducible rfl) | (go_simp; done))); simp only [Act.put, List.setIfInBounds_toArray, List.set_cons_zero, List.set_cons_succ]))
  refine wpG_nil (NoPanic.normal ?_)
  go_wp2_with fail
  go_ret
  exact ⟨rfl, _, v', ⟨T2.out, J1.out.o.put sv i g hw.out, R2.out⟩, (K0.out.mono (fun _ h => h.elim)).trans K3.out⟩
set_option maxRecDepth 100000 in
set_option maxHeartbeats 8000000 in
theorem do_6 (h : JAt w p m q room M v) (s i g d : Int) (hs : (Lit.int .i64 s).wf = true) (hd : 0 ≤ d ∧ d < 18446744073709551616) :
    Calls Try.prog 17 #[.pointer (some ⟨p, 0, none⟩), .pointer (some ⟨q, 0, none⟩), aV 6 s i g d] w fun e w' => e = .returned (.bool true) ∧ ∃ M' v', JAt w' p m q room M' v' ∧ Kp (Q2 m q) w w' := by
  have hml : M.length ≤ 64 := Nat.le_trans h.o.le h.o.n2
  have hll := hid (rowsL_len M)
  have J0 := hid (h.kn (((Kp.refl NoB w)).alloc (.cells #[.int .i64 6, .int .i64 s, .int .i64 i, .int .u64 g, .int .u64 d] 49)))
  have K0 := hid (((Kp.refl NoB w)).alloc (.cells #[.int .i64 6, .int .i64 s, .int .i64 i, .int .u64 g, .int .u64 d] 49))
  have B0 := hid (blk_new w (.cells #[.int .i64 6, .int .i64 s, .int .i64 i, .int .u64 g, .int .u64 d] 49))
  have hlt := h.lt
  have hpm := hid h.c.ne
  have SK := hid (fun W (k : Kp (Q2 m q) (w.alloc (.cells #[.int .i64 6, .int .i64 s, .int .i64 i, .int .u64 g, .int .u64 d] 49)) W) => box5 (k.get B0.out (by rintro (e | e) <;> omega)))
  have SN := hid (fun W (k : Kp NoB (w.alloc (.cells #[.int .i64 6, .int .i64 s, .int .i64 i, .int .u64 g, .int .u64 d] 49)) W) => box5 (k.get B0.out (fun h => h)))
  have L0 := SN.out _ (Kp.refl _ _)
  have HG := hid (of_any J0.out.c J0.out.o i g)
  obtain ⟨ov, cv, hvv, _⟩ := h.r.hv.form
  subst hvv
  clear h
  unfold hV at HG
  unfold aV
  generalize hof : ofR (rowsL M) i g = y at *
  obtain ⟨ys, yb⟩ := y
  replace hof := hid hof
  dsimp only at HG
  go_enter Try.func17, Try.ntmps17
  go_wp2_with fail
  refine HG.out.mono ?_
  rintro e w1 ⟨rfl, k1⟩
  have K1 := hid k1
  have J1 := hid (J0.out.kn k1)
  clear k1 L0
  go_wp2_with fail
  go_loopw [16] (fun x W => ∃ j : Nat, j ≤ (rowsL M).length ∧ x = .int .i64 j ∧ Kp NoB w1 W ∧ Hid (∀ k (hk : k < (rowsL M).length), k < j → (rowsL M)[k].2 ≠ (i, g))) (fun x _ => (rowsL M).length - (intOf x).toNat)
  case atStart => exact ⟨0, Nat.zero_le _, rfl, Kp.refl _ _, hid (by intro k hk h; omega)⟩
  case round =>
    obtain ⟨j, hj, rfl, hK, hT⟩ := hrel
    have b3 : (0 : Int) ≤ (j : Int) := Int.natCast_nonneg _
    have L1 := SN.out _ (K1.out.trans hK)
    have Lq := loc2 (J1.out.r.kn hK).hq
    by_cases hlt : j < (rowsL M).length
    · have b4 : (j : Int) < ((rowsL M).length : Int) := by omega
      have hlen64 : (rowsL M).length ≤ 64 := by have := hll.out; omega
      have hk : (rowsL M)[j]? = some (rowsL M)[j] := List.getElem?_eq_getElem hlt
      obtain ⟨⟨x, y, z⟩, hxy⟩ : ∃ s, (rowsL M)[j] = s := ⟨_, rfl⟩
      rw [hxy] at hk
      obtain ⟨b, c', hv', hcc, hcell⟩ := J1.out.r.cells hk
      injection hv' with hv1 _ hv3
      subst hv1; subst hv3
      have Le := hcell _ hK
      have Le2 := hcell _ hK.drew
      have hcc' : ((rowsL M).length : Int) ≤ (cv : Int) := by omega
      replace hcell := hid hcell
      replace hk := hid hk
      replace hK := hid hK
      have hno : (y ≠ i ∨ z ≠ g) → Hid (∀ k (hk : k < (rowsL M).length), k < j + 1 → (rowsL M)[k].2 ≠ (i, g)) := fun hne => hid (by
        intro k hk h
        by_cases e : k = j
        · subst e; rw [hxy]
          intro e; injection e with e1 e2
          rcases hne with h | h
          · exact h e1
          · exact h e2
        · exact hT.out k hk (by omega))
      replace hno := hid hno
      replace hxy := hid hxy
      by_cases e2 : z = g
      · by_cases e1 : y = i
        · have hyo := hid (show ys = x ∧ yb = true from by
            have h1 := hof.out
            have hfi : (rowsL M).find? (fun x => x.2 == (i, g)) = some (x, y, z) := by
              rw [List.find?_eq_some_iff_getElem]
              refine ⟨by simp [e1, e2], j, hlt, hxy.out, fun k hk => ?_⟩
              have := hT.out k (by omega) hk
              simpa using this
            unfold ofR at h1
            rw [hfi] at h1
            injection h1 with h1 h2
            exact ⟨h1.symm, h2.symm⟩)
          obtain ⟨rfl, rfl⟩ := hyo.out
          subst e1; subst e2
          clear hyo hno
          go_wp2_with fail
          refine wp_region_G (fun _ => True) [(0, .at_), (1, .at_), (2, .at_), (3, .at_), (4, .at_), (5, .at_), (6, .at_), (7, .at_), (8, .at_), (9, .at_), (10, .at_)] ?L8 (by kernel_rfl) (by kernel_rfl) ?hL8 (trivial) ?hG8
          case hL8 => simp only [pickOps, List.map_cons, List.map_nil, List.getD_cons_zero, List.getD_cons_succ]; rfl
          repeat (first | (refine wpG_at (v := ?_) (by rfl) ?_ ?_; rotate_left; (focus (first | (go_simp; with_reducible rfl) | (go_simp; done))); simp only [Act.put, List.setIfInBounds_toArray, List.set_cons_zero, List.set_cons_succ]) | (refine wpG_at_skip (by rfl) ?_; simp only [Act.put, List.setIfInBounds_toArray, List.set_cons_zero, List.set_cons_succ]) | (refine wpG_held_skip (by rfl) ?_; simp only [Act.put, List.setIfInBounds_toArray, List.set_cons_zero, List.set_cons_succ]) | (refine wpG_held (v := ?_) (by rfl) ?_ ?_; rotate_left; (focus (intro w' hSw; (try dsimp only at hSw); go_split_ands; first | (go_simp; with_reducible rfl) | (go_simp; done))); simp only [Act.put, List.setIfInBounds_toArray, List.set_cons_zero, List.set_cons_succ]))
          refine wpG_nil (NoPanic.normal ?_)
          have Lqd := loc2 (J1.out.r.kn hK.out.drew).hq
          go_wp2_with fail
          go_ret
          exact ⟨rfl, M, _, J1.out.kn hK.out.drew, (K0.out.mono (fun _ h => h.elim)).trans ((K1.out.trans hK.out.drew).mono (fun _ h => h.elim))⟩
        · have e3 : (y == i) = false := by simpa using e1
          have hno' := hno.out (.inl e1)
          clear e1 e2 hno
          go_wp2_with fail
          refine wp_region_G (fun _ => True) [(0, .at_), (1, .at_), (2, .at_), (3, .at_), (4, .at_), (5, .at_), (6, .at_), (7, .at_), (8, .at_), (9, .at_), (10, .at_)] ?L9 (by kernel_rfl) (by kernel_rfl) ?hL9 (trivial) ?hG9
          case hL9 => simp only [pickOps, List.map_cons, List.map_nil, List.getD_cons_zero, List.getD_cons_succ]; rfl
          repeat (first | (refine wpG_at (v := ?_) (by rfl) ?_ ?_; rotate_left; (focus (first | (go_simp; with_reducible rfl) | (go_simp; done))); simp only [Act.put, List.setIfInBounds_toArray, List.set_cons_zero, List.set_cons_succ]) | (refine wpG_at_skip (by rfl) ?_; simp only [Act.put, List.setIfInBounds_toArray, List.set_cons_zero, List.set_cons_succ]) | (refine wpG_held_skip (by rfl) ?_; simp only [Act.put, List.setIfInBounds_toArray, List.set_cons_zero, List.set_cons_succ]) | (refine wpG_held (v := ?_) (by rfl) ?_ ?_; rotate_left; (focus (intro w' hSw; (try dsimp only at hSw); go_split_ands; first | (go_simp; with_reducible rfl) | (go_simp; done))); simp only [Act.put, List.setIfInBounds_toArray, List.set_cons_zero, List.set_cons_succ]))
          refine wpG_nil (NoPanic.normal ?_)
          go_wp2_with fail
          go_roundw
          case rel => exact ⟨j + 1, by omega, by go_num, hK.out.drew, hno'⟩
          case measure => simp [intOf]; omega
      · have e3 : (z == g) = false := by simpa using e2
        have hno' := hno.out (.inr e2)
        clear e2 hno
        go_wp2_with fail
        refine wp_region_G (fun _ => True) [(0, .at_), (1, .at_), (2, .at_), (3, .at_), (4, .at_), (5, .at_), (6, .at_), (7, .at_), (8, .at_), (9, .at_), (10, .at_)] ?L10 (by kernel_rfl) (by kernel_rfl) ?hL10 (trivial) ?hG10
        case hL10 => simp only [pickOps, List.map_cons, List.map_nil, List.getD_cons_zero, List.getD_cons_succ]; rfl
        repeat (first | (refine wpG_at (v := ?_) (by rfl) ?_ ?_; rotate_left; (focus (first | (go_simp; with_reducible rfl) | (go_simp; done))); simp only [Act.put, List.setIfInBounds_toArray, List.set_cons_zero, List.set_cons_succ]) | (refine wpG_at_skip (by rfl) ?_; simp only [Act.put, List.setIfInBounds_toArray, List.set_cons_zero, List.set_cons_succ]) | (refine wpG_held_skip (by rfl) ?_; simp only [Act.put, List.setIfInBounds_toArray, List.set_cons_zero, List.set_cons_succ]) | (refine wpG_held (v := ?_) (by rfl) ?_ ?_; rotate_left; (focus (intro w' hSw; (try dsimp only at hSw); go_split_ands; first | (go_simp; with_reducible rfl) | (go_simp; done))); simp only [Act.put, List.setIfInBounds_toArray, List.set_cons_zero, List.set_cons_succ]))
        refine wpG_nil (NoPanic.normal ?_)
        go_wp2_with fail
        go_roundw
        case rel => exact ⟨j + 1, by omega, by go_num, hK.out.drew, hno'⟩
        case measure => simp [intOf]; omega
    · obtain rfl : j = (rowsL M).length := by omega
      have hyo := hid (show ys = 0 ∧ yb = false from by
        have h1 := hof.out
        have hfi : (rowsL M).find? (fun x => x.2 == (i, g)) = none := by
          rw [List.find?_eq_none]
          intro x hx
          obtain ⟨k, hk, rfl⟩ := List.getElem_of_mem hx
          simpa using hT.out k hk hk
        unfold ofR at h1
        rw [hfi] at h1
        injection h1 with h1 h2
        exact ⟨h1.symm, h2.symm⟩)
      obtain ⟨rfl, rfl⟩ := hyo.out
      clear hyo
      go_wp2_with fail
      go_ret
      exact ⟨rfl, M, _, J1.out.kn hK, (K0.out.mono (fun _ h => h.elim)).trans ((K1.out.trans hK).mono (fun _ h => h.elim))⟩
set_option maxRecDepth 100000 in
set_option maxHeartbeats 8000000 in
theorem do_else (h : JAt w p m q room M v) (k s i g d : Int) (hs : (Lit.int .i64 s).wf = true) (hd : 0 ≤ d ∧ d < 18446744073709551616) (hk : k ≠ 1 ∧ k ≠ 2 ∧ k ≠ 3 ∧ k ≠ 4 ∧ k ≠ 5 ∧ k ≠ 6) :
    Calls Try.prog 17 #[.pointer (some ⟨p, 0, none⟩), .pointer (some ⟨q, 0, none⟩), aV k s i g d] w fun e w' => e = .returned (.bool true) ∧ ∃ M' v', JAt w' p m q room M' v' ∧ Kp (Q2 m q) w w' := by
  have hml : M.length ≤ 64 := Nat.le_trans h.o.le h.o.n2
  have hll := hid (rowsL_len M)
  have J0 := hid (h.kn (((Kp.refl NoB w)).alloc (.cells #[.int .i64 k, .int .i64 s, .int .i64 i, .int .u64 g, .int .u64 d] 49)))
  have K0 := hid (((Kp.refl NoB w)).alloc (.cells #[.int .i64 k, .int .i64 s, .int .i64 i, .int .u64 g, .int .u64 d] 49))
  have B0 := hid (blk_new w (.cells #[.int .i64 k, .int .i64 s, .int .i64 i, .int .u64 g, .int .u64 d] 49))
  have hlt := h.lt
  have hpm := hid h.c.ne
  have SK := hid (fun W (k : Kp (Q2 m q) (w.alloc (.cells #[.int .i64 k, .int .i64 s, .int .i64 i, .int .u64 g, .int .u64 d] 49)) W) => box5 (k.get B0.out (by rintro (e | e) <;> omega)))
  have SN := hid (fun W (k : Kp NoB (w.alloc (.cells #[.int .i64 k, .int .i64 s, .int .i64 i, .int .u64 g, .int .u64 d] 49)) W) => box5 (k.get B0.out (fun h => h)))
  have L0 := SN.out _ (Kp.refl _ _)
  have n1 : (k == 1) = false := by simp; omega
  have n2 : (k == 2) = false := by simp; omega
  have n3 : (k == 3) = false := by simp; omega
  have n4 : (k == 4) = false := by simp; omega
  have n5 : (k == 5) = false := by simp; omega
  have n6 : (k == 6) = false := by simp; omega
  clear hk h
  unfold aV
  go_enter Try.func17, Try.ntmps17
  go_wp2_with fail
  go_ret
  exact ⟨rfl, M, v, J0.out, K0.out.mono (fun _ h => h.elim)⟩
theorem do_any (h : JAt w p m q room M v) (k s i g d : Int) (hs : (Lit.int .i64 s).wf = true) (hd : 0 ≤ d ∧ d < 18446744073709551616) :
    Calls Try.prog 17 #[.pointer (some ⟨p, 0, none⟩), .pointer (some ⟨q, 0, none⟩), aV k s i g d] w fun e w' => e = .returned (.bool true) ∧ ∃ M' v', JAt w' p m q room M' v' ∧ Kp (Q2 m q) w w' := by
  by_cases h1 : k = 1
  · subst h1; exact do_1 h s i g d hs hd
  by_cases h2 : k = 2
  · subst h2; exact do_2 h s i g d hs hd
  by_cases h3 : k = 3
  · subst h3; exact do_3 h s i g d hs hd
  by_cases h4 : k = 4
  · subst h4; exact do_4 h s i g d hs hd
  by_cases h5 : k = 5
  · subst h5; exact do_5 h s i g d hs hd
  by_cases h6 : k = 6
  · subst h6; exact do_6 h s i g d hs hd
  exact do_else h k s i g d hs hd (by omega)
end
end Go.Proofs.Ytbgojgnbbkgkgaa
