/- Walks through the accounts of a quota: what each function returns and leaves, at any accounts that are well formed (the conditions stand in each theorem). -/
import Derived.Test.YtaghkgddnjdjcaaQ2
import Derived.Laws.EntriesVeiled
namespace Go.Proofs.Ytaghkgddnjdjcaa
open Go.RowKit
attribute [local go_sem ↓] Go.wp_at_zero Go.wp_at_succ

def turnV (x y d1 d2 m1 m2 lk lb : Int) : Int × Int × Int :=
  if lessB x y d1 d2 then (if upB (x - d1) m1 lk && upB (y - d2) m2 lb then (x - d1 + m1, y - d2 + m2, 0) else (0, 0, 7)) else (0, 0, 18)

theorem bcellK {w w1 : World} (h : Kp NoB w w1) : (∀ b o, b < w.heap.size → w1.cell? ⟨b, o, none⟩ = w.cell? ⟨b, o, none⟩) ∧ (∀ b o, b < w.heap.size → w1.frozen? ⟨b, o, none⟩ = w.frozen? ⟨b, o, none⟩) :=
  ⟨fun b o hb => h.below.cell (p := ⟨b, o, none⟩) hb, fun b o hb => h.below.frozen (p := ⟨b, o, none⟩) hb⟩


set_option maxRecDepth 100000 in
set_option maxHeartbeats 1000000 in
theorem turn_any {p b : Nat} {u : List (Int × Int)} {lk lb : Int} {w : World} (k : Nat) (x y d1 d2 m1 m2 : Int) (h : QAt w p b u lk lb) (o : Ok u lk lb)
    (hk : u[k]? = some (x, y)) (hd1 : B64 d1) (hd2 : B64 d2) (hm1 : B64 m1) (hm2 : B64 m2) :
   Calls Try.prog 29 #[.pointer (some ⟨p, 0, none⟩), .int .i64 k, .agg #[.int .u64 d1, .int .u64 d2], .agg #[.int .u64 m1, .int .u64 m2]] w fun e w' =>
     e = .returned (.tuple #[.agg #[.int .u64 (turnV x y d1 d2 m1 m2 lk lb).1, .int .u64 (turnV x y d1 d2 m1 m2 lk lb).2.1], .int .i64 (turnV x y d1 d2 m1 m2 lk lb).2.2]) ∧ Kp NoB w w' := by
  have hkl : k < u.length := by obtain ⟨x, _⟩ := List.getElem?_eq_some_iff.1 hk; exact x
  obtain ⟨hx0, hx1, hy0, hy1⟩ := o.all (x, y) (List.mem_of_getElem? hk)
  obtain ⟨cq, c0, c1, c2, _, _, _, hpl⟩ := h.cs
  obtain ⟨e0, e1, _, _, hbl⟩ := h.e hk
  have b0 := o.k1
  have b1 := o.b1
  have n2 := o.n2
  obtain ⟨_, hp1, hp2, hp3, hp4, hp5, hp6⟩ := ups hpl
  obtain ⟨_, hb1, hb2, hb3, hb4, hb5, hb6⟩ := ups hbl
  clear hk
  have i0 : ∀ w, (Instr.index 71 (.agg #[Value.func (Fn.func 38) #[Value.agg #[Value.int IntKind.u64 x, Value.int IntKind.u64 y]] #[]]) (.int .i64 0)).run Try.prog w = .ok (Value.func (Fn.func 38) #[Value.agg #[Value.int IntKind.u64 x, Value.int IntKind.u64 y]] #[]) w := fun _ => by kernel_rfl
  by_cases hl : lessB x y d1 d2 = true
  · have hl' := hl
    simp only [lessB, Bool.and_eq_true, decide_eq_true_eq] at hl'
    obtain ⟨hl1, hl2⟩ := hl'
    have Hl := hid hl
    obtain ⟨hd10, hd11⟩ := hd1
    obtain ⟨hd20, hd21⟩ := hd2
    have ex : wr (x - d1) = x - d1 := wr_in ⟨by omega, by omega⟩
    have ey : wr (y - d2) = y - d2 := wr_in ⟨by omega, by omega⟩
    have HL := hid (less_any x y d1 d2)
    have HX := hid ex
    have HY := hid ey
    clear hl ex ey
    go_enter Try.func29, Try.ntmps29
    go_wp2_with fail
    refine wp_loop_rounds 2 ?_
    rw [rounds_succ]
    go_wp2_with fail
    refine (HL.out _).mono ?_
    rintro e w1 ⟨rfl, hk1⟩
    rw [Hl.out, HX.out, HY.out]
    have B1 := hk1.get (blk_alloc (blk_alloc (blk_alloc (blk_new' _ _ (by simp))))) (b := w.heap.size + 1) (fun h => h)
    have B2 := hk1.get (blk_alloc (blk_alloc (blk_new' _ _ (by simp)))) (b := w.heap.size + 1 + 1) (fun h => h)
    have B3 := hk1.get (blk_alloc (blk_new' _ _ (by simp))) (b := w.heap.size + 1 + 1 + 1) (fun h => h)
    obtain ⟨cq', _, Lp1, Lp2, _, _, _, hpw⟩ := ((((((h.alloc _).alloc _).alloc _).alloc _).alloc _).kp hk1 (fun h => h) (fun h => h)).cs
    have L1 := loc2 B1
    have L2 := loc2 B2
    have L3 := loc2 B3
    have hpw1 : p < w1.heap.size + 1 := by omega
    have U : w.heap.size + 1 < w1.heap.size + 1 ∧ w.heap.size + 1 + 1 < w1.heap.size + 1 ∧ w.heap.size + 1 + 1 + 1 < w1.heap.size + 1 := by have := hk1.size; simp at this; omega
    have HB2 := hid B2
    have HB3 := hid B3
    clear B1 B2 B3
    go_wp2_with fail
    rw [rounds_succ]
    go_wp2_with fail
    refine wp_region_G (fun _ => True) [(0, .at_), (1, .at_), (2, .at_), (3, .at_), (4, .at_), (5, .at_), (6, .eff), (7, .at_), (8, .at_), (9, .held), (10, .eff), (11, .at_)] ?L1 (by kernel_rfl) (by kernel_rfl) ?hL1 (trivial) ?hG1
    case hL1 => simp only [pickOps, List.map_cons, List.map_nil, List.getD_cons_zero, List.getD_cons_succ]; rfl
    repeat (first | (refine wpG_at (v := ?_) (by rfl) ?_ ?_; rotate_left; (focus (first | (go_simp; with_reducible rfl) | (go_simp; done))); simp only [Act.put, List.setIfInBounds_toArray, List.set_cons_zero, List.set_cons_succ]) | (refine wpG_at_skip (by rfl) ?_; simp only [Act.put, List.setIfInBounds_toArray, List.set_cons_zero, List.set_cons_succ]) | (refine wpG_held_skip (by rfl) ?_; simp only [Act.put, List.setIfInBounds_toArray, List.set_cons_zero, List.set_cons_succ]) | (refine wpG_held (v := ?_) (by rfl) ?_ ?_; rotate_left; (focus (intro w' hSw; (try dsimp only at hSw); go_split_ands; first | (go_simp; with_reducible rfl) | (go_simp; done))); simp only [Act.put, List.setIfInBounds_toArray, List.set_cons_zero, List.set_cons_succ]))
    refine wpG_eff (by rfl) (fun K hK => ?_)
    go_simp
    refine (more_any (x - d1) (y - d2) m1 m2 lk lb _ (by omega) (by omega) (by omega) (by omega) (by omega) (by omega) hm1 hm2).mono ?_
    rintro e w2 ⟨rfl, hk2⟩
    generalize hub : (upB (x - d1) m1 lk && upB (y - d2) m2 lb) = ub
    have Hub := hid hub
    clear hub
    dsimp only
    refine hK _ _ trivial ?_
    clear hK K
    have C2 := hk2.get (blk_drew (blk_alloc (blk_far (blk_far HB2.out _ (by simp)) _ (by simp)))) (fun h => h)
    have C3 := hk2.get (blk_drew (blk_alloc (blk_setCell (blk_setCell HB3.out 0 _) 1 _))) (fun h => h)
    have M2 := loc2 C2
    have M3 := loc2 C3
    clear L1 L2 L3 C2 C3
    repeat (first | (refine wpG_at (v := ?_) (by rfl) ?_ ?_; rotate_left; (focus (first | (go_simp; with_reducible rfl) | (go_simp; done))); simp only [Act.put, List.setIfInBounds_toArray, List.set_cons_zero, List.set_cons_succ]) | (refine wpG_at_skip (by rfl) ?_; simp only [Act.put, List.setIfInBounds_toArray, List.set_cons_zero, List.set_cons_succ]) | (refine wpG_held_skip (by rfl) ?_; simp only [Act.put, List.setIfInBounds_toArray, List.set_cons_zero, List.set_cons_succ]) | (refine wpG_held (v := ?_) (by rfl) ?_ ?_; rotate_left; (focus (intro w' hSw; (try dsimp only at hSw); go_split_ands; first | (go_simp; with_reducible rfl) | (go_simp; done))); simp only [Act.put, List.setIfInBounds_toArray, List.set_cons_zero, List.set_cons_succ]))
    refine wpG_eff (by rfl) (fun K hK => ?_)
    go_simp
    refine hK _ _ trivial ?_
    clear hK K
    repeat (first | (refine wpG_at (v := ?_) (by rfl) ?_ ?_; rotate_left; (focus (first | (go_simp; with_reducible rfl) | (go_simp; done))); simp only [Act.put, List.setIfInBounds_toArray, List.set_cons_zero, List.set_cons_succ]) | (refine wpG_at_skip (by rfl) ?_; simp only [Act.put, List.setIfInBounds_toArray, List.set_cons_zero, List.set_cons_succ]) | (refine wpG_held_skip (by rfl) ?_; simp only [Act.put, List.setIfInBounds_toArray, List.set_cons_zero, List.set_cons_succ]) | (refine wpG_held (v := ?_) (by rfl) ?_ ?_; rotate_left; (focus (intro w' hSw; (try dsimp only at hSw); go_split_ands; first | (go_simp; with_reducible rfl) | (go_simp; done))); simp only [Act.put, List.setIfInBounds_toArray, List.set_cons_zero, List.set_cons_succ]))
    refine wpG_nil (NoPanic.normal ?_)
    have K1 : Kp NoB w w1 := ((((((Kp.refl _ w).alloc _).alloc _).alloc _).alloc _).alloc _).trans hk1
    have K2 : Kp NoB w w2 := ((((K1.setCell _ (fun h => absurd h (by simp; omega))).setCell _ (fun h => absurd h (by simp; omega))).alloc _).drew).trans hk2
    cases ub
    · have hT : turnV x y d1 d2 m1 m2 lk lb = (0, 0, 7) := by simp [turnV, Hl.out, Hub.out]
      have HT := hid hT
      clear hT
      go_wp2
      refine bodyPost_ret (v := .tuple #[.agg #[.int .u64 0, .int .u64 0], .int .i64 7]) (by simp [results, Try.results29, go_sem, M2, M3]) rfl ⟨by rw [HT.out], ?_⟩
      exact (((K2.setCell _ (fun h => absurd h (by simp; omega))).setCell _ (fun h => absurd h (by simp; omega))).setCell _ (fun h => absurd h (by simp; omega))).setCell _ (fun h => absurd h (by simp; omega))
    · have hu := Hub.out
      rw [Bool.and_eq_true] at hu
      have hT : turnV x y d1 d2 m1 m2 lk lb = (x - d1 + m1, y - d2 + m2, 0) := by simp [turnV, Hl.out, hu.1, hu.2]
      have h1 : upV (x - d1) m1 lk = x - d1 + m1 := by have := hu.1; simp [upB] at this; simp [upV, this]
      have h2 : upV (y - d2) m2 lb = y - d2 + m2 := by have := hu.2; simp [upB] at this; simp [upV, this]
      have H1 := hid h1
      have H2 := hid h2
      clear h1 h2 hu
      have HT := hid hT
      clear hT
      go_wp2
      refine bodyPost_ret (v := .tuple #[.agg #[.int .u64 (x - d1 + m1), .int .u64 (y - d2 + m2)], .int .i64 0]) (by simp [results, Try.results29, go_sem, H1.out, H2.out, M2, M3]) rfl ⟨by rw [HT.out], ?_⟩
      exact (((K2.setCell _ (fun h => absurd h (by simp; omega))).setCell _ (fun h => absurd h (by simp; omega))).setCell _ (fun h => absurd h (by simp; omega))).setCell _ (fun h => absurd h (by simp; omega))
  · have hl2 : lessB x y d1 d2 = false := by simpa using hl
    have Hl := hid hl2
    have hT : turnV x y d1 d2 m1 m2 lk lb = (0, 0, 18) := by simp [turnV, hl2]
    have HT := hid hT
    have HL := hid (less_any x y d1 d2)
    clear hl hl2 hT
    go_enter Try.func29, Try.ntmps29
    go_wp2_with fail
    refine wp_loop_rounds 2 ?_
    rw [rounds_succ]
    go_wp2_with fail
    refine (HL.out _).mono ?_
    rintro e w1 ⟨rfl, hk1⟩
    rw [Hl.out]
    have B2 := hk1.get (blk_alloc (blk_alloc (blk_new' _ _ (by simp)))) (b := w.heap.size + 1 + 1) (fun h => h)
    have L2 := loc2 B2
    have U : w.heap.size + 1 + 1 < w1.heap.size + 1 := by have := hk1.size; simp at this; omega
    clear B2
    have K1 : Kp NoB w w1 := ((((((Kp.refl _ w).alloc _).alloc _).alloc _).alloc _).alloc _).trans hk1
    go_wp2_with fail
    refine bodyPost_ret (v := .tuple #[.agg #[.int .u64 0, .int .u64 0], .int .i64 18]) (by simp [results, Try.results29, go_sem, L2, U]) rfl ⟨by rw [HT.out], ?_⟩
    exact ((K1.setCell _ (fun h => absurd h (by simp; omega))).setCell _ (fun h => absurd h (by simp; omega))).alloc _
end Go.Proofs.Ytaghkgddnjdjcaa
