/- Walks through the accounts of a quota: what each function returns and leaves, at any accounts that are well formed (the conditions stand in each theorem). -/
import Derived.Test.YtaghkgddnjdjcaaQ7
namespace Go.Proofs.Ytaghkgddnjdjcaa
set_option linter.unusedSimpArgs false
set_option linter.unusedVariables false
open Go.RowKit
attribute [local go_sem ↓] Go.wp_at_zero Go.wp_at_succ

theorem rnew_bad {w : World} (n k b : Int) (h : newB n k b = true) :
   Calls Try.prog 26 #[.int .i64 n, .int .u64 k, .int .u64 b] w fun e w' => e = .returned (.tuple #[.pointer none, .int .i64 2]) ∧ w = w' := by
  simp [newB] at h
  by_cases h1 : n < 1
  · go_enter Try.func26, Try.ntmps26
    go_wp2_with fail
    go_ret2
    exact ⟨rfl, rfl⟩
  · by_cases h2 : n > 16
    · go_enter Try.func26, Try.ntmps26
      go_wp2_with fail
      go_ret2
      exact ⟨rfl, rfl⟩
    · by_cases h3 : k > 1073741824
      · go_enter Try.func26, Try.ntmps26
        go_wp2_with fail
        go_ret2
        exact ⟨rfl, rfl⟩
      · have h4 : b > 1073741824 := by omega
        go_enter Try.func26, Try.ntmps26
        go_wp2_with fail
        go_ret2
        exact ⟨rfl, rfl⟩
theorem preKY (n : Nat) : Pre eY 1 (rows eK (List.replicate n (0, 0))) (List.replicate n (0, 0)) := by
  have h := Pre.rows eY_len (List.replicate n ((0 : Int), (0 : Int)))
  rw [← rowsKY] at h; exact h
def RNew (w w' : World) (e : Ending) (n : Nat) (k b : Int) : Prop := ∃ r a c, e = .returned (.tuple #[.pointer (some ⟨r, 0, none⟩), .int .i64 0]) ∧ w.heap.size ≤ r ∧ w.heap.size ≤ a ∧ w.heap.size ≤ c ∧
     RAt w' r a c (List.replicate n (0, 0)) k b ∧ Kp NoB w w'
theorem rnew_good {w : World} (n : Nat) (k b : Int) (h1 : 1 ≤ n) (h2 : n ≤ 16) (k1 : k ≤ 1073741824) (b1 : b ≤ 1073741824) :
   Calls Try.prog 26 #[.int .i64 n, .int .u64 k, .int .u64 b] w fun e w' => RNew w w' e n k b := by
  have hm := make64 n h2
  have H2 := hid h2
  clear h2
  have h2' : (n : Int) ≤ 16 := by have := H2.out; omega
  go_enter Try.func26, Try.ntmps26
  go_wp2_with fail
  go_region
  all_goals (try go_wp2_with fail)
  all_goals go_ret2
  · refine ⟨w.heap.size + 1 + 1, w.heap.size, w.heap.size + 1, rfl, by omega, by omega, by omega, ⟨n, n, _, _, ?_, ?_, ?_, Pre.rows eK_len _, preKY n, by omega⟩, ((((Kp.refl _ w).alloc _).alloc _).alloc _).drew⟩
    · rw [List.length_replicate]; exact blk_new' _ _ (by simp)
    · exact blk_alloc (blk_alloc (blk_new _ _))
    · exact blk_alloc (blk_new' _ _ (by simp))
  · refine ⟨w.heap.size + 1 + 1, w.heap.size + 1, w.heap.size, rfl, by omega, by omega, by omega, ⟨n, n, _, _, ?_, ?_, ?_, Pre.rows eK_len _, preKY n, by omega⟩, ((((Kp.refl _ w).alloc _).alloc _).alloc _).drew⟩
    · rw [List.length_replicate]; exact blk_new' _ _ (by simp)
    · exact blk_alloc (blk_new' _ _ (by simp))
    · exact blk_alloc (blk_alloc (blk_new _ _))

set_option maxRecDepth 100000 in
set_option maxHeartbeats 8000000 in
theorem move_any {p b : Nat} {u : List (Int × Int)} {lk lb : Int} {w : World} (i j m1 m2 : Int) (h : QAt w p b u lk lb) (o : Ok u lk lb)
    (hm1 : B64 m1) (hm2 : B64 m2) :
   Calls Try.prog 14 #[.pointer (some ⟨p, 0, none⟩), .int .i64 i, .int .i64 j, .int .u64 m1, .int .u64 m2] w fun e w' =>
     e = .returned (.int .i64 (moveE u lk lb i j m1 m2)) ∧ QAt w' p b (moveU u lk lb i j m1 m2) lk lb ∧ Kp (· = b) w w' := by
  have n2 := o.n2
  by_cases hh : (hasB u.length i && hasB u.length j) = true
  · have HA := hid (show askedE u.length [i, j] = 0 from by rw [Bool.and_eq_true] at hh; simp [askedE, hh.1, hh.2])
    have HQ := hid (fun (w1 : World) (g : Nat) (hq : QAt w1 p b u lk lb) => asked_any g [i, j] hq o)
    have hi : hasB u.length i = true := by rw [Bool.and_eq_true] at hh; exact hh.1
    have hj : hasB u.length j = true := by rw [Bool.and_eq_true] at hh; exact hh.2
    obtain ⟨k, rfl, hk⟩ := has_nat hi
    obtain ⟨q, rfl, hq⟩ := has_nat hj
    obtain ⟨⟨x, y⟩, hx⟩ : ∃ xy, u[k]? = some xy := ⟨_, List.getElem?_eq_getElem hk⟩
    obtain ⟨⟨x', y'⟩, hx'⟩ : ∃ xy, u[q]? = some xy := ⟨_, List.getElem?_eq_getElem hq⟩
    have e1 := putE_at (lk := lk) (lb := lb) hx m1 m2 0 0
    have u1 := putU_at (lk := lk) (lb := lb) hx m1 m2 0 0
    have HT := hid (fun (w1 : World) (hq : QAt w1 p b u lk lb) => turn_any k x y m1 m2 0 0 hq o hx hm1 hm2 B0 B0)
    have HT2 := hid (fun (w1 : World) (hq : QAt w1 p b u lk lb) => turn_any q x' y' 0 0 m1 m2 hq o hx' B0 B0 hm1 hm2)
    have HB := hid hh
    have HX := hid hx
    have HX' := hid hx'
    have ho := o.at hx
    have ho' := o.at hx'
    have hbk : (0 : Int) ≤ (k : Int) := Int.natCast_nonneg _
    have hbl : (k : Int) < (u.length : Int) := by omega
    have hbq : (0 : Int) ≤ (q : Int) := Int.natCast_nonneg _
    have hbm : (q : Int) < (u.length : Int) := by omega
    by_cases hne : k = q
    · subst hne
      have hy : (x', y') = (x, y) := by rw [hx] at hx'; exact (Option.some.inj hx').symm
      have HF := hid (show moveE u lk lb k k m1 m2 = (turnV x y m1 m2 0 0 lk lb).2.2 ∧ moveU u lk lb k k m1 m2 = u from ⟨by
        unfold moveE; rw [hh, if_pos rfl, e1]; split
        · rename_i h0; rw [if_pos rfl]; exact h0.symm
        · rfl, by unfold moveU; rw [if_neg (by simp)]⟩)
      clear e1 u1 hx hx' hh hi hj HT2 HX'
      generalize turnV x y m1 m2 0 0 lk lb = tv at *
      obtain ⟨t1, t2, t3⟩ := tv
      simp only at HT HF
      have heq : ((k : Int) == (k : Int)) = true := by simp
      by_cases h3 : t3 = 0
      · subst h3
        go_enter Try.func14, Try.ntmps14
        go_wp2_with fail
        refine (HQ.out _ _ (h.alloc _) (blk_new' _ _ (by simp)) (by simp)).mono ?_
        rintro e w' ⟨rfl, rfl⟩
        rw [HA.out]
        go_wp2_with fail
        refine (HT.out _ ((h.alloc _).alloc _)).mono ?_
        rintro e w1 ⟨rfl, k1⟩
        have h1 := ((h.alloc _).alloc _).kp k1 (fun h => h) (fun h => h)
        have K1 : Kp (· = b) w w1 := (((Kp.refl _ w).alloc _).alloc _).trans (k1.mono (fun _ h => h.elim))
        go_wp2_with fail
        go_ret
        exact ⟨by rw [HF.out.1]; rfl, by rw [HF.out.2]; exact h1.alloc _, K1.alloc _⟩
      · have h3' : (t3 != 0) = true := by simpa using h3
        go_enter Try.func14, Try.ntmps14
        go_wp2_with fail
        refine (HQ.out _ _ (h.alloc _) (blk_new' _ _ (by simp)) (by simp)).mono ?_
        rintro e w' ⟨rfl, rfl⟩
        rw [HA.out]
        go_wp2_with fail
        refine (HT.out _ ((h.alloc _).alloc _)).mono ?_
        rintro e w1 ⟨rfl, k1⟩
        have h1 := ((h.alloc _).alloc _).kp k1 (fun h => h) (fun h => h)
        have K1 : Kp (· = b) w w1 := (((Kp.refl _ w).alloc _).alloc _).trans (k1.mono (fun _ h => h.elim))
        go_wp2_with fail
        go_ret
        exact ⟨by rw [HF.out.1]; rfl, by rw [HF.out.2]; exact h1.alloc _, K1.alloc _⟩
    · have hx1 : ∀ z, (u.set k z)[q]? = some (x', y') := fun z => by rw [List.getElem?_set_ne hne]; exact hx'
      have hij : ¬ (k : Int) = (q : Int) := by omega
      have HF := hid (show moveE u lk lb k q m1 m2 = (if (turnV x y m1 m2 0 0 lk lb).2.2 = 0 then (turnV x' y' 0 0 m1 m2 lk lb).2.2 else (turnV x y m1 m2 0 0 lk lb).2.2) ∧
          moveU u lk lb k q m1 m2 = (if (turnV x y m1 m2 0 0 lk lb).2.2 = 0 ∧ (turnV x' y' 0 0 m1 m2 lk lb).2.2 = 0 then (u.set k ((turnV x y m1 m2 0 0 lk lb).1, (turnV x y m1 m2 0 0 lk lb).2.1)).set q ((turnV x' y' 0 0 m1 m2 lk lb).1, (turnV x' y' 0 0 m1 m2 lk lb).2.1) else u) from by
        have e2 := putE_at (lk := lk) (lb := lb) hx' 0 0 m1 m2
        have eM : moveE u lk lb k q m1 m2 = (if (turnV x y m1 m2 0 0 lk lb).2.2 = 0 then (turnV x' y' 0 0 m1 m2 lk lb).2.2 else (turnV x y m1 m2 0 0 lk lb).2.2) := by
          unfold moveE; rw [hh, if_pos rfl, e1, if_neg hij, e2]
        refine ⟨eM, ?_⟩
        unfold moveU
        rw [eM, u1]
        by_cases h0 : (turnV x y m1 m2 0 0 lk lb).2.2 = 0
        · simp only [h0, if_true, true_and, ne_eq, hij, not_false_eq_true, and_true]
          rw [putU_at (hx1 _)]
          split
          · rfl
          · rfl
        · simp only [h0, if_false, false_and])
      clear e1 u1 hx hx' hh hi hj hx1
      generalize turnV x y m1 m2 0 0 lk lb = tv at *
      obtain ⟨t1, t2, t3⟩ := tv
      generalize turnV x' y' 0 0 m1 m2 lk lb = sv at *
      obtain ⟨s1, s2, s3⟩ := sv
      simp only at HT HT2 HF
      have hlq : q < (u.set k (t1, t2)).length := by rw [List.length_set]; exact hq
      have heq : ((k : Int) == (q : Int)) = false := by simp; omega
      by_cases h3 : t3 = 0
      · subst h3
        have HF' := hid (show moveE u lk lb k q m1 m2 = s3 ∧ moveU u lk lb k q m1 m2 = if s3 = 0 then (u.set k (t1, t2)).set q (s1, s2) else u from by have := HF.out; simpa using this)
        by_cases h4 : s3 = 0
        · subst h4
          have HG := hid (show moveE u lk lb k q m1 m2 = 0 ∧ moveU u lk lb k q m1 m2 = (u.set k (t1, t2)).set q (s1, s2) from by have := HF'.out; simpa using this)
          go_enter Try.func14, Try.ntmps14
          go_wp2_with fail
          refine (HQ.out _ _ (h.alloc _) (blk_new' _ _ (by simp)) (by simp)).mono ?_
          rintro e w' ⟨rfl, rfl⟩
          rw [HA.out]
          go_wp2_with fail
          refine (HT.out _ ((h.alloc _).alloc _)).mono ?_
          rintro e w1 ⟨rfl, k1⟩
          have h1 := ((h.alloc _).alloc _).kp k1 (fun h => h) (fun h => h)
          have K1 : Kp (· = b) w w1 := (((Kp.refl _ w).alloc _).alloc _).trans (k1.mono (fun _ h => h.elim))
          have Ln := loc2 (k1.get (blk_new' (w.alloc _) (.cells #[.int .u64 m1, .int .u64 m2] 49) (n := w.heap.size + 1) (by simp)) (fun h => h))
          have un := ups Ln.2.2.2.2
          go_wp2_with fail
          have H1 := blk_new w1 (.cells #[.int .u64 t1, .int .u64 t2] 49)
          refine (HT2.out _ (h1.alloc _)).mono ?_
          rintro e w2 ⟨rfl, k2⟩
          have h2 := (h1.alloc _).kp k2 (fun h => h) (fun h => h)
          have K2 : Kp (· = b) w w2 := (K1.alloc _).trans (k2.mono (fun _ h => h.elim))
          have La := loc2 (k2.get H1 (fun h => h))
          obtain ⟨cq, Lp⟩ := h2.cs
          have Le := h2.e HX.out
          have Lf := h2.e HX'.out
          have ua := ups La.2.2.2.2
          have up := ups Lp.2.2.2.2.2.2
          have ub := ups Le.2.2.2.2
          go_wp2_with fail
          refine wp_region_G (fun W => W.cell? ⟨w2.heap.size, 0, none⟩ = some (.int .u64 s1) ∧ W.cell? ⟨w2.heap.size, 1, none⟩ = some (.int .u64 s2)) [(0, .at_), (1, .at_), (2, .at_), (3, .at_), (4, .at_), (5, .at_), (6, .at_), (7, .at_), (8, .at_), (9, .held), (10, .at_), (11, .held), (12, .at_), (13, .eff), (14, .at_), (15, .eff)] ?L1 (by kernel_rfl) (by kernel_rfl) ?hL1 (by constructor <;> go_simp) ?hG1
          case hL1 => simp only [pickOps, List.map_cons, List.map_nil, List.getD_cons_zero, List.getD_cons_succ]; rfl
          repeat (first | (refine wpG_at (v := ?_) (by rfl) ?_ ?_; rotate_left; (focus (first | (go_simp; with_reducible rfl) | (go_simp; done))); simp only [Act.put, List.setIfInBounds_toArray, List.set_cons_zero, List.set_cons_succ]) | (refine wpG_at_skip (by rfl) ?_; simp only [Act.put, List.setIfInBounds_toArray, List.set_cons_zero, List.set_cons_succ]) | (refine wpG_held_skip (by rfl) ?_; simp only [Act.put, List.setIfInBounds_toArray, List.set_cons_zero, List.set_cons_succ]) | (refine wpG_held (v := ?_) (by rfl) ?_ ?_; rotate_left; (focus (intro w' hSw; (try dsimp only at hSw); go_split_ands; first | (go_simp; with_reducible rfl) | (go_simp; done))); simp only [Act.put, List.setIfInBounds_toArray, List.set_cons_zero, List.set_cons_succ]))
          refine wpG_eff (by rfl) (fun K hK => ?_)
          go_simp
          refine hK _ _ (by constructor <;> go_simp) ?_
          clear hK K
          repeat (first | (refine wpG_at (v := ?_) (by rfl) ?_ ?_; rotate_left; (focus (first | (go_simp; with_reducible rfl) | (go_simp; done))); simp only [Act.put, List.setIfInBounds_toArray, List.set_cons_zero, List.set_cons_succ]) | (refine wpG_at_skip (by rfl) ?_; simp only [Act.put, List.setIfInBounds_toArray, List.set_cons_zero, List.set_cons_succ]) | (refine wpG_held_skip (by rfl) ?_; simp only [Act.put, List.setIfInBounds_toArray, List.set_cons_zero, List.set_cons_succ]) | (refine wpG_held (v := ?_) (by rfl) ?_ ?_; rotate_left; (focus (intro w' hSw; (try dsimp only at hSw); go_split_ands; first | (go_simp; with_reducible rfl) | (go_simp; done))); simp only [Act.put, List.setIfInBounds_toArray, List.set_cons_zero, List.set_cons_succ]))
          refine wpG_eff (by rfl) (fun K hK => ?_)
          go_simp
          refine hK _ _ (by constructor <;> go_simp) ?_
          clear hK K
          repeat (first | (refine wpG_at (v := ?_) (by rfl) ?_ ?_; rotate_left; (focus (first | (go_simp; with_reducible rfl) | (go_simp; done))); simp only [Act.put, List.setIfInBounds_toArray, List.set_cons_zero, List.set_cons_succ]) | (refine wpG_at_skip (by rfl) ?_; simp only [Act.put, List.setIfInBounds_toArray, List.set_cons_zero, List.set_cons_succ]) | (refine wpG_held_skip (by rfl) ?_; simp only [Act.put, List.setIfInBounds_toArray, List.set_cons_zero, List.set_cons_succ]) | (refine wpG_held (v := ?_) (by rfl) ?_ ?_; rotate_left; (focus (intro w' hSw; (try dsimp only at hSw); go_split_ands; first | (go_simp; with_reducible rfl) | (go_simp; done))); simp only [Act.put, List.setIfInBounds_toArray, List.set_cons_zero, List.set_cons_succ]))
          refine wpG_nil (NoPanic.normal ?_)
          go_wp2_with fail
          go_ret
          refine ⟨by rw [HG.out.1]; rfl, ?_, ?_⟩
          · rw [HG.out.2]
            repeat (first | exact ((h2.set hk t1 t2).set hlq s1 s2).alloc _ | refine QAt.drew ?_)
          · repeat (first | exact ((((K2.setCell (p := ⟨b, k * 2, none⟩) _ (fun _ => rfl)).setCell (p := ⟨b, k * 2 + 1, none⟩) _ (fun _ => rfl)).setCell (p := ⟨b, q * 2, none⟩) _ (fun _ => rfl)).setCell (p := ⟨b, q * 2 + 1, none⟩) _ (fun _ => rfl)).alloc _ | refine Kp.drew ?_)
        · have h4' : (s3 != 0) = true := by simpa using h4
          have HG := hid (show moveE u lk lb k q m1 m2 = s3 ∧ moveU u lk lb k q m1 m2 = u from by have := HF'.out; rwa [if_neg h4] at this)
          go_enter Try.func14, Try.ntmps14
          go_wp2_with fail
          refine (HQ.out _ _ (h.alloc _) (blk_new' _ _ (by simp)) (by simp)).mono ?_
          rintro e w' ⟨rfl, rfl⟩
          rw [HA.out]
          go_wp2_with fail
          refine (HT.out _ ((h.alloc _).alloc _)).mono ?_
          rintro e w1 ⟨rfl, k1⟩
          have h1 := ((h.alloc _).alloc _).kp k1 (fun h => h) (fun h => h)
          have K1 : Kp (· = b) w w1 := (((Kp.refl _ w).alloc _).alloc _).trans (k1.mono (fun _ h => h.elim))
          have Ln := loc2 (k1.get (blk_new' (w.alloc _) (.cells #[.int .u64 m1, .int .u64 m2] 49) (n := w.heap.size + 1) (by simp)) (fun h => h))
          have un := ups Ln.2.2.2.2
          go_wp2_with fail
          have H1 := blk_new w1 (.cells #[.int .u64 t1, .int .u64 t2] 49)
          refine (HT2.out _ (h1.alloc _)).mono ?_
          rintro e w2 ⟨rfl, k2⟩
          have h2 := (h1.alloc _).kp k2 (fun h => h) (fun h => h)
          have K2 : Kp (· = b) w w2 := (K1.alloc _).trans (k2.mono (fun _ h => h.elim))
          have La := loc2 (k2.get H1 (fun h => h))
          obtain ⟨cq, Lp⟩ := h2.cs
          have Le := h2.e HX.out
          have Lf := h2.e HX'.out
          have ua := ups La.2.2.2.2
          have up := ups Lp.2.2.2.2.2.2
          have ub := ups Le.2.2.2.2
          go_wp2_with fail
          go_ret
          exact ⟨by rw [HG.out.1]; rfl, by rw [HG.out.2]; exact h2.alloc _, K2.alloc _⟩
      · have h3' : (t3 != 0) = true := by simpa using h3
        have HG := hid (show moveE u lk lb k q m1 m2 = t3 ∧ moveU u lk lb k q m1 m2 = u from by have := HF.out; rw [if_neg h3, if_neg (fun h => h3 h.1)] at this; exact this)
        go_enter Try.func14, Try.ntmps14
        go_wp2_with fail
        refine (HQ.out _ _ (h.alloc _) (blk_new' _ _ (by simp)) (by simp)).mono ?_
        rintro e w' ⟨rfl, rfl⟩
        rw [HA.out]
        go_wp2_with fail
        refine (HT.out _ ((h.alloc _).alloc _)).mono ?_
        rintro e w1 ⟨rfl, k1⟩
        have h1 := ((h.alloc _).alloc _).kp k1 (fun h => h) (fun h => h)
        have K1 : Kp (· = b) w w1 := (((Kp.refl _ w).alloc _).alloc _).trans (k1.mono (fun _ h => h.elim))
        go_wp2_with fail
        go_ret
        exact ⟨by rw [HG.out.1]; rfl, by rw [HG.out.2]; exact h1.alloc _, K1.alloc _⟩
  · have hh' : (hasB u.length i && hasB u.length j) = false := by simpa using hh
    have HA := hid (show askedE u.length [i, j] = 2 from by simp at hh'; simp [askedE]; exact hh')
    have HF := hid (show moveE u lk lb i j m1 m2 = 2 ∧ moveU u lk lb i j m1 m2 = u from by
      have e : moveE u lk lb i j m1 m2 = 2 := by unfold moveE; rw [hh']; simp
      exact ⟨e, by unfold moveU; rw [e]; rfl⟩)
    have HQ := hid (fun (w1 : World) (g : Nat) (hq : QAt w1 p b u lk lb) => asked_any g [i, j] hq o)
    clear hh hh'
    go_enter Try.func14, Try.ntmps14
    go_wp2_with fail
    refine (HQ.out _ _ (h.alloc _) (blk_new' _ _ (by simp)) (by simp)).mono ?_
    rintro e w' ⟨rfl, rfl⟩
    rw [HA.out]
    go_wp2_with fail
    go_ret
    exact ⟨by rw [HF.out.1]; rfl, by rw [HF.out.2]; exact h.alloc _, (Kp.refl _ w).alloc _⟩
end Go.Proofs.Ytaghkgddnjdjcaa
