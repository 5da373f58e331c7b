/- Walks through timers: one put in, where there is no room. -/
import Derived.Test.YtackanpobfaglaaRRRRL3
namespace Go.Proofs.YtackanpobfaglaaRRRR
set_option linter.unusedSimpArgs false
set_option linter.unusedVariables false
open Go.RowKit
attribute [local go_sem ↓] Go.wp_at_zero Go.wp_at_succ
theorem u3 : Try.prog.underlying 3 = some (.int .i64) := by kernel_rfl
theorem put_in {α : Type} (X v R : List α) (n : Nat) (hX : X.length = n) : (X ++ R).take n ++ v ++ (X ++ R).drop (n + v.length) = X ++ v ++ R.drop v.length := by
  rw [List.take_left' hX, ← List.drop_drop, List.drop_left' hX]
theorem flat_parts {l : List (Int × Int)} {i : Nat} (hi : i ≤ l.length) : (l.take i).flatMap eT = (l.flatMap eT).take (i * 2) ∧ (l.drop i).flatMap eT = (l.flatMap eT).drop (i * 2) := by
  have hx := rows_len eT_len (l.take i)
  have : l.flatMap eT = (l.take i).flatMap eT ++ (l.drop i).flatMap eT := by rw [← List.flatMap_append, List.take_append_drop]
  rw [List.length_take, Nat.min_eq_left hi] at hx
  exact ⟨by rw [this, List.take_left' hx], by rw [this, List.drop_left' hx]⟩
section
variable {w w' : World} {p : Nat} {v : Value} {l : List (Int × Int)}
set_option maxRecDepth 100000 in
set_option maxHeartbeats 2000000 in
theorem insert_grow {b c : Nat} (hv : RowAt w 58 eT 2 (.slice (some ⟨b, 0, none⟩) l.length c) l) (n2 : l.length ≤ 4000) {g : Nat} {x y : Int} (hg : w.heap[g]? = some (.cells #[.int .u64 x, .int .i64 y] 58 (0, 0))) (_hgb : g ≠ b)
    {i : Nat} (hi : i < l.length) (hc : ¬ l.length + 1 ≤ c) :
    Calls Try.prog 18 #[.slice (some ⟨b, 0, none⟩) l.length c, .int .i64 i, .slice (some ⟨g, 0, none⟩) 1 1] w fun e w' => ∃ v', e = .returned v' ∧ RowAt w' 58 eT 2 v' (l.take i ++ (x, y) :: l.drop i) ∧ v'.ownBlock = some w.heap.size ∧ Kp NoB w w' := by
  obtain ⟨b', c', A, hvv, hb, hA, hcl, hm, hs⟩ := hv.pos eT_len (by omega)
  injection hvv with hv1 _ hv3
  injection hv1 with hv1; injection hv1 with hv1
  subst hv1; subst hv3
  obtain rfl : c = l.length := by omega
  obtain ⟨Cs, hCs⟩ : ∃ Cs, l.flatMap eT = Cs := ⟨_, rfl⟩
  have hfl := rows_len eT_len l
  have h1C : ∀ u ∈ Cs.drop (i * 2), u.oneCell' = true := fun u hu => oneT l u (by rw [hCs]; exact List.mem_of_mem_drop hu)
  have hsrc0 : ∀ (j : Nat) (u : Value), Cs[j]? = some u → A[j]? = some u := fun j u hj => hA.flat eT_len (by omega) _ _ (by rw [hCs]; exact hj)
  rw [hCs] at hfl
  obtain ⟨ti, hti, hzz⟩ := Option.map_eq_some_iff.1 i58
  simp only [Prod.mk.injEq] at hzz
  obtain ⟨tz, tsz, tby⟩ := hzz
  have hold : (Builtin.firstCells ti.size i (.slice (some ⟨b, 0, none⟩) i l.length)).run Try.prog w.drew = .ok (Cs.take (i * 2)).toArray w.drew := by
    refine run_firstCells_some (P := Try.prog) w.drew ti.size i ⟨b, 0, none⟩ i l.length (Cs.take (i * 2)) (by rw [tsz, List.length_take]; omega) ?_
    intro j u hj
    rw [add0, cell_of (blk_drew hb)]
    rw [List.getElem?_take] at hj
    split at hj
    · exact hsrc0 j u hj
    · cases hj
  have hr := Lib.run_append_grow_zeros (P := Try.prog) w 53 3 53 58 ti _ .i64 .i64 u53 u3 hti tz (some ⟨b, 0, none⟩) i l.length (Cs.take (i * 2)) hold (l.length + 1 - i) (by omega) (by omega) (by omega) (by omega) (by rw [tby]; omega)
    (by rw [tby, show i + (l.length + 1 - i) = l.length + 1 from by omega]; exact growslice_fits (by omega) (by omega))
  rw [show i + (l.length + 1 - i) = l.length + 1 from by omega] at hr
  have hge := grownCap_ge w (l.length + 1) l.length 58
  have hle := grownCap_le_maxLen w (l.length + 1) l.length 58 (by simp [maxLen]; omega)
  generalize grownCap w (l.length + 1) l.length 58 = c2 at *
  obtain ⟨R0, hR0, hR0l⟩ : ∃ R0 : List Value, ((Cs.take (i * 2)).toArray ++ Builtin.zeroCells (Value.cells (.agg #[.int .u64 0, .int .i64 0])) (l.length + 1 - i) ++ Builtin.zeroCells (Value.cells (.agg #[.int .u64 0, .int .i64 0])) (c2 - (l.length + 1))) = (Cs.take (i * 2) ++ R0).toArray ∧ R0.length = (c2 - i) * 2 := by
    refine ⟨(Builtin.zeroCells (Value.cells (.agg #[.int .u64 0, .int .i64 0])) (l.length + 1 - i)).toList ++ (Builtin.zeroCells (Value.cells (.agg #[.int .u64 0, .int .i64 0])) (c2 - (l.length + 1))).toList, ?_, ?_⟩
    · simp
    · simp only [List.length_append, Array.length_toList, size_zeroCells]
      have : (Value.cells (.agg #[.int .u64 0, .int .i64 0])).size = 2 := rfl
      rw [this]; omega
  rw [hR0] at hr
  rw [show ((l.length + 1 - i : Nat) : Int) = (l.length : Int) + 1 - (i : Int) from by omega] at hr
  have wS : IntKind.i64.wrap ((l.length : Int) + 1 - (i : Int)) = (l.length : Int) + 1 - (i : Int) := wi_in (by omega)
  have hz2 : ¬ ((i : Int) = (l.length : Int)) := by omega
  have b1 : (0 : Int) ≤ (i : Int) := Int.natCast_nonneg _
  have b2 : (i : Int) < (l.length : Int) := by omega
  have b3 : (i : Int) ≤ (l.length : Int) := by omega
  have bc : (l.length : Int) + 1 ≤ (c2 : Int) := by omega
  have wI : IntKind.i64.wrap ((i : Int) + 1) = (i : Int) + 1 := wi_in (by omega)
  have tI : ((i : Int) + 1).toNat = i + 1 := by omega
  have bI : (0 : Int) ≤ (i : Int) + 1 := by omega
  have bI2 : (i : Int) + 1 ≤ (l.length : Int) + 1 := by omega
  have bI3 : (i : Int) ≤ (l.length : Int) + 1 := by omega
  have c1 : ¬ c2 = i + 1 := by omega
  have c3 : ¬ c2 = i := by omega
  have c4 : ¬ l.length = i := by omega
  have K0 := ((Kp.refl NoB w).alloc (.cells (Cs.take (i * 2) ++ R0).toArray 58)).drew
  have hq0 := blk_drew (blk_new w (.cells (Cs.take (i * 2) ++ R0).toArray 58))
  have hg0 := K0.get hg (fun h => h)
  have hb0 := K0.get hb (fun h => h)
  have hbq : b ≠ w.heap.size := by have := blk_lt hb; omega
  have hgq : g ≠ w.heap.size := by have := blk_lt hg; omega
  replace hr := hid hr
  clear hR0 hold hti tz tsz tby hge
  replace hCs := hid hCs
  replace hfl := hid hfl
  replace h1C := hid h1C
  replace hsrc0 := hid hsrc0
  replace hs := hid hs
  replace hv := hid hv
  replace hg := hid hg
  replace hb := hid hb
  replace hg0 := hid hg0
  replace hb0 := hid hb0
  replace hq0 := hid hq0
  replace hR0l := hid hR0l
  go_enter Try.func18, Try.ntmps18
  go_wp2_with (at_builtin; refine Lib.wpList_append_run _ rfl _ _ _ _ rfl _ _ rfl rfl _ _ hr.out ?_)
  obtain ⟨W, hW⟩ : ∃ W, (w.alloc (.cells (Cs.take (i * 2) ++ R0).toArray 58)).drew = W := ⟨_, rfl⟩
  rw [hW] at K0 hq0 hg0 hb0 ⊢
  replace hW := hid hW
  have q1 : [Value.int .u64 x, Value.int .i64 y].length = Nat.min 1 (l.length + 1 - i) * 2 := by
    rw [show Nat.min 1 (l.length + 1 - i) = 1 from Nat.min_eq_left (by omega)]; rfl
  have q2 : ∀ (j : Nat) (u : Value), [Value.int .u64 x, Value.int .i64 y][j]? = some u → W.cell? ((⟨g, 0, none⟩ : Addr).add j) = some u := by
    intro j u hj
    rw [add0, cell_of hg0.out]
    match j, hj with
    | 0, hj => simpa using hj
    | 1, hj => simpa using hj
  have hXl : (Cs.take (i * 2)).length = i * 2 := by have := hfl.out; rw [List.length_take]; omega
  have hr1 := run_copyN (P := Try.prog) W 53 53 3 58 w.heap.size (i * 2) (l.length + 1 - i) (c2 - i) 2 ⟨g, 0, none⟩ 1 1 _ 58 [Value.int .u64 x, Value.int .i64 y] u53 s58 hq0.out q1 q2 (by have h5 := hR0l.out; have h6 := hXl; simp only [List.size_toArray, List.length_append, List.length_cons, List.length_nil]; omega) (by simp [Value.oneCell'])
  have hb1 := setRow_heap W w.heap.size _ ((Cs.take (i * 2) ++ R0).toArray.toList.take (i * 2) ++ [Value.int .u64 x, Value.int .i64 y] ++ (Cs.take (i * 2) ++ R0).toArray.toList.drop (i * 2 + [Value.int .u64 x, Value.int .i64 y].length)).toArray 58 (0, 0) hq0.out
  have K1 := kp_setRow (F := NoB) K0 ((Cs.take (i * 2) ++ R0).toArray.toList.take (i * 2) ++ [Value.int .u64 x, Value.int .i64 y] ++ (Cs.take (i * 2) ++ R0).toArray.toList.drop (i * 2 + [Value.int .u64 x, Value.int .i64 y].length)).toArray (g := w.heap.size) (fun h => absurd h (by simp))
  rw [show (Cs.take (i * 2) ++ R0).toArray.toList.take (i * 2) ++ [Value.int .u64 x, Value.int .i64 y] ++ (Cs.take (i * 2) ++ R0).toArray.toList.drop (i * 2 + [Value.int .u64 x, Value.int .i64 y].length) = Cs.take (i * 2) ++ [Value.int .u64 x, Value.int .i64 y] ++ R0.drop 2 from put_in (Cs.take (i * 2)) [Value.int .u64 x, Value.int .i64 y] R0 (i * 2) hXl] at hr1 hb1 K1
  rw [hr1]
  clear hr1 q1 q2
  generalize W.setRow w.heap.size _ = W1 at *
  replace hb1 := hid hb1
  go_wp2_with fail
  refine wp_region_G (fun _ => True) [(0, .at_), (1, .at_), (2, .at_), (3, .at_), (4, .at_), (5, .at_), (6, .at_), (7, .at_), (8, .eff)] ?L1 (by kernel_rfl) (by kernel_rfl) ?hL1 (trivial) ?hG1
  case hL1 => simp only [pickOps, List.map_cons, List.map_nil, List.getD_cons_zero, List.getD_cons_succ]; rfl
  repeat (first | (refine wpG_at (v := ?_) (by rfl) ?_ ?_; rotate_left; (focus (first | (go_simp; with_reducible rfl) | (go_simp; done))); simp only [Act.put, List.setIfInBounds_toArray, List.set_cons_zero, List.set_cons_succ]) | (refine wpG_at_skip (by rfl) ?_; simp only [Act.put, List.setIfInBounds_toArray, List.set_cons_zero, List.set_cons_succ]) | (refine wpG_held_skip (by rfl) ?_; simp only [Act.put, List.setIfInBounds_toArray, List.set_cons_zero, List.set_cons_succ]) | (refine wpG_held (v := ?_) (by rfl) ?_ ?_; rotate_left; (focus (intro w' hSw; (try dsimp only at hSw); go_split_ands; first | (go_simp; with_reducible rfl) | (go_simp; done))); simp only [Act.put, List.setIfInBounds_toArray, List.set_cons_zero, List.set_cons_succ]))
  refine wpG_eff (by rfl) (fun K hK => ?_)
  refine wp_copyN _ _ 53 53 58 2 rfl u53 s58 w.heap.size ((i + 1) * 2) (l.length - i) (c2 - (i + 1)) rfl ⟨b, i * 2, none⟩ (l.length - i) (l.length - i) rfl _ 58 (blk_drew hb1.out) (Cs.drop (i * 2)) ?_ ?_ ?_ h1C.out ?_
  · have := hfl.out
    rw [List.length_drop, this, show Nat.min (l.length - i) (l.length - i) = l.length - i from Nat.min_self _]; omega
  · intro j u hj
    rw [List.getElem?_drop] at hj
    rw [Addr.add_lit, cell_of (blk_drew (K1.get hb.out (fun h => h)))]
    exact hsrc0.out _ u hj
  · have := hfl.out
    have := hR0l.out
    simp
    omega
  intro r0
  have e2 : (Cs.take (i * 2) ++ [Value.int .u64 x, Value.int .i64 y] ++ R0.drop 2).toArray.toList.take ((i + 1) * 2) ++ Cs.drop (i * 2) ++ (Cs.take (i * 2) ++ [Value.int .u64 x, Value.int .i64 y] ++ R0.drop 2).toArray.toList.drop ((i + 1) * 2 + (Cs.drop (i * 2)).length) = (Cs.take (i * 2) ++ [Value.int .u64 x, Value.int .i64 y]) ++ Cs.drop (i * 2) ++ (R0.drop 2).drop (Cs.drop (i * 2)).length :=
    put_in (Cs.take (i * 2) ++ [Value.int .u64 x, Value.int .i64 y]) (Cs.drop (i * 2)) (R0.drop 2) ((i + 1) * 2) (by simp only [List.length_append, hXl, List.length_cons, List.length_nil]; omega)
  rw [e2]
  have hb2 := setRow_heap W1.drew w.heap.size _ ((Cs.take (i * 2) ++ [Value.int .u64 x, Value.int .i64 y]) ++ Cs.drop (i * 2) ++ (R0.drop 2).drop (Cs.drop (i * 2)).length).toArray 58 (0, 0) (blk_drew hb1.out)
  have K2 := kp_setRow (F := NoB) K1.drew ((Cs.take (i * 2) ++ [Value.int .u64 x, Value.int .i64 y]) ++ Cs.drop (i * 2) ++ (R0.drop 2).drop (Cs.drop (i * 2)).length).toArray (g := w.heap.size) (fun h => absurd h (by simp))
  refine hK _ _ trivial ?_
  clear hK K
  generalize W1.drew.setRow w.heap.size _ = W2 at *
  replace hb2 := hid hb2
  repeat (first | (refine wpG_at (v := ?_) (by rfl) ?_ ?_; rotate_left; (focus (first | (go_simp; with_reducible rfl) | (go_simp; done))); simp only [Act.put, List.setIfInBounds_toArray, List.set_cons_zero, List.set_cons_succ]) | (refine wpG_at_skip (by rfl) ?_; simp only [Act.put, List.setIfInBounds_toArray, List.set_cons_zero, List.set_cons_succ]) | (refine wpG_held_skip (by rfl) ?_; simp only [Act.put, List.setIfInBounds_toArray, List.set_cons_zero, List.set_cons_succ]) | (refine wpG_held (v := ?_) (by rfl) ?_ ?_; rotate_left; (focus (intro w' hSw; (try dsimp only at hSw); go_split_ands; first | (go_simp; with_reducible rfl) | (go_simp; done))); simp only [Act.put, List.setIfInBounds_toArray, List.set_cons_zero, List.set_cons_succ]))
  refine wpG_nil (NoPanic.normal ?_)
  go_wp2_with fail
  go_ret
  have hll : (l.take i ++ (x, y) :: l.drop i).length = l.length + 1 := by simp; omega
  have hfm : (l.take i ++ (x, y) :: l.drop i).flatMap eT = Cs.take (i * 2) ++ [Value.int .u64 x, Value.int .i64 y] ++ Cs.drop (i * 2) := by
    obtain ⟨t1, t2⟩ := flat_parts (l := l) (i := i) (by omega)
    rw [hCs.out] at t1 t2
    simp [List.flatMap_append, t1, t2, eT]
  refine ⟨.slice (some ⟨w.heap.size, 0, none⟩) (l.length + 1) c2, rfl, ⟨rows_len eT_len _, .inr ⟨w.heap.size, c2, _, by rw [hll], Nat.zero_le _, hb2.out, by omega, hle, ?_, ?_⟩⟩, rfl, K2⟩
  · have := hR0l.out
    have := hfl.out
    simp
    omega
  · rw [hfm, List.take_left']
    have := hfl.out
    simp
    omega
end
end Go.Proofs.YtackanpobfaglaaRRRR
