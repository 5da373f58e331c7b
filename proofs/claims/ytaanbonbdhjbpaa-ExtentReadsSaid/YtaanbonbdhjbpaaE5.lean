/- Walks: a writer's small functions; handles in rows, copied and turned round. -/
import Derived.Test.YtaanbonbdhjbpaaE4
import Derived.Test.YtaanbonbdhjbpaaLibU
import Derived.Lib.SliceRun
import Derived.Lib.AppendZeros
namespace Go.Proofs.Ytaanbonbdhjbpaa
set_option linter.unusedSimpArgs false
set_option linter.unusedVariables false
open Go.RowKit
attribute [local go_sem ↓] Go.wp_at_zero Go.wp_at_succ
def eH (h : Int × Int) : List Value := [.int .i64 h.1, .int .u64 h.2]
theorem eH_len (h : Int × Int) : (eH h).length = 2 := rfl
/-- a writer: its struct at q, the arena's at p, the extents that are to be made, the handles that were -/
structure WAt (w : World) (q p : Nat) (lv mv : Value) (over : Bool) (Ls : List X) (Hs : List (Int × Int)) : Prop where
  hq : w.heap[q]? = some (.cells #[.pointer (some ⟨p, 0, none⟩), lv, mv, .bool over] 66 (0, 0))
  hl : RowAt w 35 eXv 19 lv Ls
  hm : RowAt w 33 eH 2 mv Hs
section
variable {w w' : World} {q p : Nat} {lv mv : Value} {over : Bool} {Ls : List X} {Hs : List (Int × Int)}
theorem WAt.kp {F : Nat → Prop} (h : WAt w q p lv mv over Ls Hs) (k : Kp F w w') (hq : ¬ F q) (hl : ∀ b, lv.ownBlock = some b → ¬ F b) (hm : ∀ b, mv.ownBlock = some b → ¬ F b) : WAt w' q p lv mv over Ls Hs := ⟨k.get h.hq hq, h.hl.kp k hl, h.hm.kp k hm⟩
theorem WAt.kn (h : WAt w q p lv mv over Ls Hs) (k : Kp NoB w w') : WAt w' q p lv mv over Ls Hs := h.kp k (fun h => h) (fun _ _ h => h) (fun _ _ h => h)
theorem WAt.alloc (h : WAt w q p lv mv over Ls Hs) (o : Obj) : WAt (w.alloc o) q p lv mv over Ls Hs := ⟨blk_alloc h.hq, h.hl.alloc o, h.hm.alloc o⟩
theorem WAt.drew (h : WAt w q p lv mv over Ls Hs) : WAt w.drew q p lv mv over Ls Hs := ⟨h.hq, h.hl, h.hm⟩
theorem WAt.ne (h : WAt w q p lv mv over Ls Hs) : lv.ownBlock ≠ some q ∧ mv.ownBlock ≠ some q := ⟨h.hl.ne h.hq (by decide), h.hm.ne h.hq (by decide)⟩
theorem WAt.cs (h : WAt w q p lv mv over Ls Hs) : w.cell? ⟨q, 0, none⟩ = some (.pointer (some ⟨p, 0, none⟩)) ∧ w.cell? ⟨q, 1, none⟩ = some lv ∧ w.cell? ⟨q, 2, none⟩ = some mv ∧ w.cell? ⟨q, 3, none⟩ = some (.bool over) ∧
    w.frozen? ⟨q, 1, none⟩ = false ∧ w.frozen? ⟨q, 2, none⟩ = false ∧ w.frozen? ⟨q, 3, none⟩ = false ∧ q < w.heap.size :=
  ⟨by rw [cell_of h.hq]; rfl, by rw [cell_of h.hq]; rfl, by rw [cell_of h.hq]; rfl, by rw [cell_of h.hq]; rfl, frozen_of h.hq 1, frozen_of h.hq 2, frozen_of h.hq 3, blk_lt h.hq⟩
theorem ready_go (h : WAt w q p lv mv false Ls Hs) : Calls Try.prog 30 #[.pointer (some ⟨q, 0, none⟩)] w fun e w' => e = .returned (.int .i64 0) ∧ w = w' := by
  have Lq := h.cs
  clear h
  go_enter Try.func30, Try.ntmps30
  go_wp2
  go_ret
  exact ⟨rfl, rfl⟩
theorem ready_over (h : WAt w q p lv mv true Ls Hs) : Calls Try.prog 30 #[.pointer (some ⟨q, 0, none⟩)] w fun e w' => e = .returned (.int .i64 18) ∧ w = w' := by
  have Lq := h.cs
  clear h
  go_enter Try.func30, Try.ntmps30
  go_wp2
  go_ret
  exact ⟨rfl, rfl⟩
theorem ready_none (w : World) : Calls Try.prog 30 #[.pointer none] w fun e w' => e = .returned (.int .i64 1) ∧ w = w' := by
  go_enter Try.func30, Try.ntmps30
  go_wp2
  go_ret
  exact ⟨rfl, rfl⟩
theorem ready_zero (h : w.cell? ⟨q, 0, none⟩ = some (.pointer none)) : Calls Try.prog 30 #[.pointer (some ⟨q, 0, none⟩)] w fun e w' => e = .returned (.int .i64 1) ∧ w = w' := by
  go_enter Try.func30, Try.ntmps30
  go_wp2
  go_ret
  exact ⟨rfl, rfl⟩
theorem wneed_go (h : WAt w q p lv mv false Ls Hs) : Calls Try.prog 18 #[.pointer (some ⟨q, 0, none⟩)] w fun e w' => e = .returned (.int .i64 Ls.length) ∧ w = w' := by
  have HR := hid (ready_go h)
  obtain ⟨o, c, hv, hc, _⟩ := h.hl.form
  subst hv
  have Lq := h.cs
  clear h
  go_enter Try.func18, Try.ntmps18
  go_wp2_with fail
  refine HR.out.mono ?_
  rintro e w1 ⟨rfl, rfl⟩
  go_wp2_with fail
  go_ret
  exact ⟨rfl, rfl⟩
theorem wneed_over (h : WAt w q p lv mv true Ls Hs) : Calls Try.prog 18 #[.pointer (some ⟨q, 0, none⟩)] w fun e w' => e = .returned (.int .i64 0) ∧ w = w' := by
  have HR := hid (ready_over h)
  clear h
  go_enter Try.func18, Try.ntmps18
  go_wp2_with fail
  refine HR.out.mono ?_
  rintro e w1 ⟨rfl, rfl⟩
  go_wp2_with fail
  go_ret
  exact ⟨rfl, rfl⟩
/-- a copy of a row of handles -/
theorem sl46 : Try.prog.underlying 46 = some (.slice 33) := by kernel_rfl
theorem i33 : (Try.prog.info? 33).map (fun i => (i.zero, i.size, i.bytes)) = some (some (.agg #[.int .i64 0, .int .u64 0]), 2, 16) := by kernel_rfl
theorem eH_one (l : List (Int × Int)) : ∀ u ∈ l.flatMap eH, u.oneCell' = true := by
  intro u hu
  simp only [List.mem_flatMap, eH, List.mem_cons, List.not_mem_nil, or_false] at hu
  obtain ⟨h, _, rfl | rfl⟩ := hu <;> rfl
set_option maxRecDepth 100000 in
set_option maxHeartbeats 2000000 in
theorem hclone_any {v : Value} (h : RowAt w 33 eH 2 v Hs) (hl : Hs.length ≤ 100000) : Calls Try.prog 31 #[v] w fun e w' => ∃ v', e = .returned v' ∧ RowAt w' 33 eH 2 v' Hs ∧ (∀ b, v'.ownBlock = some b → w.heap.size ≤ b) ∧ Kp NoB w w' := by
  have hv : v = .slice none 0 0 ∧ Hs = [] ∨ ∃ a n c, v = .slice (some a) n c := by
    rcases h.2 with ⟨h1, h0⟩ | ⟨g, cap, cur, h1, _⟩
    · exact .inl ⟨h1, List.eq_nil_of_length_eq_zero h0⟩
    · exact .inr ⟨_, _, _, h1⟩
  rcases hv with ⟨rfl, rfl⟩ | ⟨a, n, c, rfl⟩
  · have hq := fun w : World => Lib.run_eql_slice_nil (P := Try.prog) w 46 33 none 0 0 0 0 sl46
    clear h
    go_enter Try.func31, Try.ntmps31
    go_wp2_with fail
    go_ret
    exact ⟨_, rfl, RowAt.nil _ _ _ _, by simp [Value.ownBlock], Kp.refl _ _⟩
  · have hq := fun w : World => Lib.run_eql_slice_nil (P := Try.prog) w 46 33 (some a) n c 0 0 sl46
    have E0 : RowAt (w.alloc (.cells #[] 33)) 33 eH 2 (.slice (some ⟨w.heap.size, 0, none⟩) 0 0) [] := RowAt.new eH_len w 33 [] (by simp [maxLen])
    obtain ⟨v', w2, hr, q1, q2, q3⟩ := run_grow_sl (P := Try.prog) (ty := 46) eH_len (by omega) sl46 i33 rfl E0 ((h.alloc (.cells #[] 33)).sl eH_len (by omega)) (eH_one Hs) (by simp; omega) (by omega)
    rw [List.nil_append] at q1
    have kA : Kp NoB w w2 := ((Kp.refl NoB w).alloc (.cells #[] 33)).trans' (kp_grown (F := fun b => b = w.heap.size) q2 (fun b hb => by injection hb with hb; exact hb.symm)) (fun b hb e => by omega)
    have hnw : ∀ b, v'.ownBlock = some b → w.heap.size ≤ b := fun b hb => by
      rcases q3 with e | ⟨b', e, h'⟩
      · rw [hb] at e; injection e with e
        have e : b = w.heap.size := e
        omega
      · rw [hb] at e; injection e with e; subst e
        have : w.heap.size + 1 ≤ b := by simpa using h'
        omega
    obtain ⟨o2, c2, hv, _⟩ := q1.form
    subst hv
    replace q1 := hid q1
    replace kA := hid kA
    replace hnw := hid hnw
    replace hr := hid hr
    clear h E0 q2 q3
    go_enter Try.func31, Try.ntmps31
    go_wp2_with (at_builtin; refine Lib.wpList_append_run _ rfl _ _ _ _ rfl _ _ rfl rfl _ _ hr.out ?_)
    go_ret
    exact ⟨_, rfl, q1.out, hnw.out, kA.out⟩
/-- a row turned round so far -/
def revTo (l : List (Int × Int)) (i : Nat) : List (Int × Int) := (List.range l.length).map fun k => if k < i ∨ l.length - 1 - k < i then l.getD (l.length - 1 - k) (0, 0) else l.getD k (0, 0)
theorem revTo_len (l : List (Int × Int)) (i : Nat) : (revTo l i).length = l.length := by simp [revTo]
theorem revTo_get (l : List (Int × Int)) (i : Nat) {k : Nat} (hk : k < l.length) : (revTo l i)[k]? = some (if k < i ∨ l.length - 1 - k < i then l.getD (l.length - 1 - k) (0, 0) else l.getD k (0, 0)) := by simp [revTo, hk]
theorem revTo_zero (l : List (Int × Int)) : revTo l 0 = l := by
  apply List.ext_getElem?
  intro k
  by_cases hk : k < l.length
  · rw [revTo_get l 0 hk, if_neg (by omega)]; simp [hk]
  · rw [List.getElem?_eq_none (by rw [revTo_len]; omega), List.getElem?_eq_none (by omega)]
theorem revTo_end (l : List (Int × Int)) {i : Nat} (h : l.length ≤ 2 * i + 1) : revTo l i = l.reverse := by
  apply List.ext_getElem?
  intro k
  by_cases hk : k < l.length
  · rw [revTo_get l i hk, List.getElem?_reverse hk]
    by_cases h1 : k < i ∨ l.length - 1 - k < i
    · rw [if_pos h1]
      rw [List.getD_eq_getElem?_getD, List.getElem?_eq_getElem (by omega)]; simp
    · rw [if_neg h1]
      have : l.length - 1 - k = k := by omega
      rw [this, List.getD_eq_getElem?_getD, List.getElem?_eq_getElem hk]; simp
  · rw [List.getElem?_eq_none (by rw [revTo_len]; omega), List.getElem?_eq_none (by simp; omega)]
theorem revTo_step (l : List (Int × Int)) {i j : Nat} (hj : j + i + 1 = l.length) (hij : i < j) : ((revTo l i).set i (l.getD j (0, 0))).set j (l.getD i (0, 0)) = revTo l (i + 1) := by
  apply List.ext_getElem?
  intro k
  by_cases hk : k < l.length
  · rw [revTo_get l (i + 1) hk]
    by_cases h1 : j = k
    · subst h1
      rw [List.getElem?_set_self (by simp [revTo_len]; omega), if_pos (by omega)]
      congr 2; omega
    · rw [List.getElem?_set_ne h1]
      by_cases h2 : i = k
      · subst h2
        rw [List.getElem?_set_self (by rw [revTo_len]; omega), if_pos (by omega)]
        congr 2; omega
      · rw [List.getElem?_set_ne h2, revTo_get l i hk]
        by_cases h3 : k < i ∨ l.length - 1 - k < i
        · rw [if_pos h3, if_pos (by omega)]
        · rw [if_neg h3, if_neg (by omega)]
  · rw [List.getElem?_eq_none (by simp [revTo_len]; omega), List.getElem?_eq_none (by rw [revTo_len]; omega)]
theorem revTo_at (l : List (Int × Int)) {i j : Nat} (hj : j + i + 1 = l.length) (hij : i < j) : (revTo l i)[i]? = some (l.getD i (0, 0)) ∧ (revTo l i)[j]? = some (l.getD j (0, 0)) := by
  constructor
  · rw [revTo_get l i (by omega), if_neg (by omega)]
  · rw [revTo_get l i (by omega), if_neg (by omega)]
set_option maxRecDepth 100000 in
set_option maxHeartbeats 4000000 in
theorem rev_any {v : Value} (h : RowAt w 33 eH 2 v Hs) (hl : Hs.length ≤ 100000) : Calls Try.prog 32 #[v] w fun e w' => e = .returned (.tuple #[]) ∧ RowAt w' 33 eH 2 v Hs.reverse ∧ Kp (fun b => v.ownBlock = some b) w w' := by
  obtain ⟨a, c, hv, hc, _⟩ := h.form
  subst hv
  have h0 : RowAt w 33 eH 2 (.slice a Hs.length c) (revTo Hs 0) := by rw [revTo_zero]; exact h
  clear h
  replace h0 := hid h0
  go_enter Try.func32, Try.ntmps32
  go_wp2_with fail
  go_loopw [2, 3] (fun i j W => ∃ k : Nat, i = .int .i64 k ∧ j = .int .i64 ((Hs.length : Int) - 1 - k) ∧ 2 * k ≤ Hs.length ∧ RowAt W 33 eH 2 (.slice a Hs.length c) (revTo Hs k) ∧ Kp (fun b => (Value.slice a Hs.length c).ownBlock = some b) w W) (fun i _ _ => Hs.length - (intOf i).toNat)
  case atStart => exact ⟨0, rfl, by go_num, by omega, h0.out, Kp.refl _ _⟩
  case round =>
    obtain ⟨k, rfl, rfl, hk, hR, hKp⟩ := hrel
    by_cases hlt : 2 * k + 1 < Hs.length
    · obtain ⟨j, hj⟩ : ∃ j, j + k + 1 = Hs.length := ⟨Hs.length - 1 - k, by omega⟩
      have ej : (Hs.length : Int) - 1 - k = (j : Int) := by omega
      rw [ej]
      have hkj : k < j := by omega
      obtain ⟨g1, g2⟩ := revTo_at Hs hj hkj
      have hst := revTo_step Hs hj hkj
      obtain ⟨g, cg, hv, hgo, hgl, hgc⟩ := hR.blk (by rw [revTo_len]; omega)
      rw [revTo_len] at hv
      injection hv with hv1 _ hv3
      subst hv1; subst hv3
      obtain ⟨⟨x1, x2⟩, hx⟩ : ∃ x, x = Hs.getD k (0, 0) := ⟨_, rfl⟩
      obtain ⟨⟨y1, y2⟩, hy⟩ : ∃ y, y = Hs.getD j (0, 0) := ⟨_, rfl⟩
      rw [← hx] at g1 hst
      rw [← hy] at g2 hst
      have hR' : RowAt wr 33 eH 2 (.slice (some ⟨g, 0, none⟩) (revTo Hs k).length c) (revTo Hs k) := by rw [revTo_len]; exact hR
      have r1 := hR'.range eH_len g1
      have r2 := hR'.range eH_len g2
      have t1 := hR'.there eH_len (k := k) (by rw [revTo_len]; omega)
      have t2 := hR'.there eH_len (k := j) (by rw [revTo_len]; omega)
      have c1 : wr.cell? ⟨g, k * 2, none⟩ = some (.int .i64 x1) := r1 0 _ rfl
      have c2 : wr.cell? ⟨g, k * 2 + 1, none⟩ = some (.int .u64 x2) := r1 1 _ rfl
      have c3 : wr.cell? ⟨g, j * 2, none⟩ = some (.int .i64 y1) := r2 0 _ rfl
      have c4 : wr.cell? ⟨g, j * 2 + 1, none⟩ = some (.int .u64 y2) := r2 1 _ rfl
      have f1 : wr.frozen? ⟨g, k * 2, none⟩ = false := (t1 0 (by omega)).2
      have f2 : wr.frozen? ⟨g, k * 2 + 1, none⟩ = false := (t1 1 (by omega)).2
      have f3 : wr.frozen? ⟨g, j * 2, none⟩ = false := (t2 0 (by omega)).2
      have f4 : wr.frozen? ⟨g, j * 2 + 1, none⟩ = false := (t2 1 (by omega)).2
      have P1 := (RowAt.put eH_len (by omega) (c := c) hR' (k := k) (by rw [revTo_len]; omega) (y1, y2))
      have P2 := RowAt.put (l := (revTo Hs k).set k (y1, y2)) eH_len (by omega) (c := c) (by rw [List.length_set]; exact P1) (k := j) (by rw [List.length_set, revTo_len]; omega) (x1, x2)
      rw [hst, List.length_set, revTo_len] at P2
      have b1 : (0 : Int) ≤ (k : Int) := Int.natCast_nonneg _
      have b2 : (k : Int) < (Hs.length : Int) := by omega
      have b3 : (0 : Int) ≤ (j : Int) := Int.natCast_nonneg _
      have b4 : (j : Int) < (Hs.length : Int) := by omega
      have b5 : (k : Int) < (j : Int) := by omega
      have n1 : k * 2 ≠ j * 2 := by omega
      have n2 : k * 2 ≠ j * 2 + 1 := by omega
      have n3 : k * 2 + 1 ≠ j * 2 := by omega
      have n4 : k * 2 + 1 ≠ j * 2 + 1 := by omega
      have n5 : k ≠ j := by omega
      replace P2 := hid P2
      replace hR := hid hR
      replace hj := hid hj
      replace hx := hid hx
      replace hy := hid hy
      clear ej g1 g2 hst hR' r1 r2 t1 t2 P1
      go_wp2_with fail
      refine wp_region_G (fun _ => True) [(0, .at_), (1, .at_), (2, .held), (3, .held), (4, .at_), (5, .at_), (6, .at_), (7, .at_), (8, .at_), (9, .at_), (10, .at_), (11, .at_), (12, .at_), (13, .eff), (14, .at_), (15, .eff)] ?L1 (by kernel_rfl) (by kernel_rfl) ?hL1 (trivial) ?hG1
      case hL1 => simp only [pickOps, List.map_cons, List.map_nil, List.getD_cons_zero, List.getD_cons_succ]; rfl
      repeat (first | (refine wpG_at (v := ?_) (by rfl) ?_ ?_; rotate_left; (focus (first | (go_simp; with_reducible rfl) | (go_simp; done))); simp only [Act.put, List.setIfInBounds_toArray, List.set_cons_zero, List.set_cons_succ]) | (refine wpG_at_skip (by rfl) ?_; simp only [Act.put, List.setIfInBounds_toArray, List.set_cons_zero, List.set_cons_succ]) | (refine wpG_held_skip (by rfl) ?_; simp only [Act.put, List.setIfInBounds_toArray, List.set_cons_zero, List.set_cons_succ]) | (refine wpG_held (v := ?_) (by rfl) ?_ ?_; rotate_left; (focus (intro w' hSw; (try dsimp only at hSw); go_split_ands; first | (go_simp; with_reducible rfl) | (go_simp; done))); simp only [Act.put, List.setIfInBounds_toArray, List.set_cons_zero, List.set_cons_succ]))
      refine wpG_eff (by rfl) (fun K hK => ?_)
      go_simp
      refine hK _ _ trivial ?_
      clear hK K
      repeat (first | (refine wpG_at (v := ?_) (by rfl) ?_ ?_; rotate_left; (focus (first | (go_simp; with_reducible rfl) | (go_simp; done))); simp only [Act.put, List.setIfInBounds_toArray, List.set_cons_zero, List.set_cons_succ]) | (refine wpG_at_skip (by rfl) ?_; simp only [Act.put, List.setIfInBounds_toArray, List.set_cons_zero, List.set_cons_succ]) | (refine wpG_held_skip (by rfl) ?_; simp only [Act.put, List.setIfInBounds_toArray, List.set_cons_zero, List.set_cons_succ]) | (refine wpG_held (v := ?_) (by rfl) ?_ ?_; rotate_left; (focus (intro w' hSw; (try dsimp only at hSw); go_split_ands; first | (go_simp; with_reducible rfl) | (go_simp; done))); simp only [Act.put, List.setIfInBounds_toArray, List.set_cons_zero, List.set_cons_succ]))
      refine wpG_eff (by rfl) (fun K hK => ?_)
      go_simp
      refine hK _ _ trivial ?_
      clear hK K
      refine wpG_nil (NoPanic.normal ?_)
      go_wp2_with fail
      have hj' := hj.out
      refine ⟨⟨k + 1, by simp, ?_, by omega, P2.out.drew, ?_⟩, ?_⟩
      · congr 1; omega
      · exact ((hKp.setCells (b := g) (o := k * 2) (eH (y1, y2)) (fun _ => hgo)).setCells (b := g) (o := j * 2) (eH (x1, x2)) (fun _ => hgo)).drew
      · simp only [intOf]; omega
    · have hlt' : ¬ (k : Int) < (Hs.length : Int) - 1 - k := by omega
      replace hR := hid hR
      go_wp2_with fail
      go_end0
      refine ⟨rfl, ?_, hKp⟩
      rw [← revTo_end Hs (i := k) (by omega)]
      exact hR.out
end
end Go.Proofs.Ytaanbonbdhjbpaa
