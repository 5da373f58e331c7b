/- Walks through timers: one taken out. -/
import Derived.Test.YtackanpobfaglaaRRRRL4
namespace Go.Proofs.YtackanpobfaglaaRRRR
set_option linter.unusedSimpArgs false
set_option linter.unusedVariables false
open Go.RowKit
attribute [local go_sem ↓] Go.wp_at_zero Go.wp_at_succ
theorem zc58 : (Builtin.zeroCells (Value.cells (.agg #[.int .u64 0, .int .i64 0])) 1).toList = [.int .u64 0, .int .i64 0] := by
  have h : Value.cells (.agg #[.int .u64 0, .int .i64 0]) = #[.int .u64 0, .int .i64 0] := rfl
  rw [h]
  simp [Builtin.zeroCells, List.range_succ]
section
variable {w w' : World} {p : Nat} {v : Value} {l : List (Int × Int)}
set_option maxRecDepth 100000 in
set_option maxHeartbeats 2000000 in
theorem delete_any {b c : Nat} (hv : RowAt w 58 eT 2 (.slice (some ⟨b, 0, none⟩) l.length c) l) (n2 : l.length ≤ 4000) {i : Nat} (hi : i < l.length) :
    Calls Try.prog 19 #[.slice (some ⟨b, 0, none⟩) l.length c, .int .i64 i, .int .i64 ((i : Int) + 1)] w fun e w' => e = .returned (.slice (some ⟨b, 0, none⟩) (l.length - 1) c) ∧ RowAt w' 58 eT 2 (.slice (some ⟨b, 0, none⟩) (l.length - 1) c) (l.eraseIdx i) ∧ Kp (fun b' => b' = b) w w' := by
  obtain ⟨b', c', A, hvv, hb, hA, hcl, hm, hs⟩ := hv.pos eT_len (by omega)
  injection hvv with hv1 _ hv3
  injection hv1 with hv1; injection hv1 with hv1
  subst hv1; subst hv3
  obtain ⟨Cs, hCs⟩ : ∃ Cs, l.flatMap eT = Cs := ⟨_, rfl⟩
  have hfl := rows_len eT_len l
  have h1C : ∀ u ∈ Cs.drop ((i + 1) * 2), u.oneCell' = true := fun u hu => oneT l u (by rw [hCs]; exact List.mem_of_mem_drop hu)
  have hsrc0 : ∀ (j : Nat) (u : Value), Cs[j]? = some u → A[j]? = some u := fun j u hj => hA.flat eT_len (by omega) _ _ (by rw [hCs]; exact hj)
  have htk : A.toList.take (l.length * 2) = Cs := by
    rcases hv.2 with ⟨h1, _⟩ | ⟨g2, cap2, cur2, h1, _, hg2, _, _, _, h6⟩
    · cases h1
    · injection h1 with h1 _ h3
      injection h1 with h1; injection h1 with h1
      subst h1; subst h3
      rw [hb] at hg2; injection hg2 with hg2; injection hg2 with hg2 _ _
      subst hg2; rw [← hCs]; exact h6
  rw [hCs] at hfl
  obtain ⟨ti, hti, hzz⟩ := Option.map_eq_some_iff.1 i58
  simp only [Prod.mk.injEq] at hzz
  obtain ⟨tz, tsz, tby⟩ := hzz
  have hYl : (Cs.drop ((i + 1) * 2)).length = (l.length - 1 - i) * 2 := by rw [List.length_drop, hfl]; omega
  have hb0 := blk_drew hb
  -- the cells behind the append
  obtain ⟨L1, hL1⟩ : ∃ L1, A.toList.take (i * 2) ++ Cs.drop ((i + 1) * 2) ++ A.toList.drop (i * 2 + (Cs.drop ((i + 1) * 2)).length) = L1 := ⟨_, rfl⟩
  have hL1l : L1.length = c * 2 := by rw [← hL1]; simp only [List.length_append, List.length_take, List.length_drop, Array.length_toList, hfl]; omega
  have hL1t : L1.take ((l.length - 1) * 2) = Cs.take (i * 2) ++ Cs.drop ((i + 1) * 2) := by
    have t1 : A.toList.take (i * 2) = Cs.take (i * 2) := by rw [← htk, List.take_take, Nat.min_eq_left (by omega)]
    rw [← hL1, t1, List.take_left']
    rw [List.length_append, List.length_take, hYl, hfl]; omega
  have hrr : ∀ (a : Addr) (cx : Nat), (∀ (j : Nat) (u : Value), (Cs.drop ((i + 1) * 2))[j]? = some u → w.drew.cell? (a.add j) = some u) → (Builtin.append_ #[53, 53] 53 #[.slice (some ⟨b, 0, none⟩) i c, .slice (some a) (l.length - (i + 1)) cx]).run Try.prog w.drew = .ok (.slice (some ⟨b, 0, none⟩) (l.length - 1) c) (w.drew.setRow b L1.toArray) := by
    intro a cx ha
    have := run_append_room (P := Try.prog) w.drew 53 53 58 ti u53 hti b i c A hb0 a (l.length - (i + 1)) cx (Cs.drop ((i + 1) * 2)) (by rw [tsz, hYl]; omega) ha h1C (by omega) (by rw [tsz, hYl, hs]; omega)
    rw [tsz, hL1, show i + (l.length - (i + 1)) = l.length - 1 from by omega] at this
    exact this
  have hb1 := setRow_heap w.drew b A L1.toArray 58 (0, 0) hb0
  have K1 := kp_setRow (F := fun b' => b' = b) ((Kp.refl _ w).drew) L1.toArray (g := b) (fun _ => rfl)
  have hclr := run_clearN (P := Try.prog) (w.drew.setRow b L1.toArray) 53 0 58 ti _ u53 hti tz b ((l.length - 1) * 2) 1 (c - (l.length - 1)) (by omega) L1.toArray 58 hb1 (by
    rw [zc58, List.size_toArray, hL1l]; show _ + 2 ≤ _; omega) (by rw [zc58]; simp [Value.oneCell'])
  rw [zc58] at hclr
  simp only [List.length_cons, List.length_nil, Nat.zero_add, Nat.reduceAdd] at hclr
  have hb2 := setRow_heap (w.drew.setRow b L1.toArray) b _ (L1.toArray.toList.take ((l.length - 1) * 2) ++ [Value.int .u64 0, Value.int .i64 0] ++ L1.toArray.toList.drop ((l.length - 1) * 2 + 2)).toArray 58 (0, 0) hb1
  have K2 := kp_setRow K1 (L1.toArray.toList.take ((l.length - 1) * 2) ++ [Value.int .u64 0, Value.int .i64 0] ++ L1.toArray.toList.drop ((l.length - 1) * 2 + 2)).toArray (g := b) (fun _ => rfl)
  have hfin : RowAt ((w.drew.setRow b L1.toArray).setRow b (L1.toArray.toList.take ((l.length - 1) * 2) ++ [Value.int .u64 0, Value.int .i64 0] ++ L1.toArray.toList.drop ((l.length - 1) * 2 + 2)).toArray) 58 eT 2 (.slice (some ⟨b, 0, none⟩) (l.length - 1) c) (l.eraseIdx i) := by
    have hll : (l.eraseIdx i).length = l.length - 1 := by rw [List.length_eraseIdx]; simp [hi]
    have hfm : (l.eraseIdx i).flatMap eT = Cs.take (i * 2) ++ Cs.drop ((i + 1) * 2) := by
      obtain ⟨t1, _⟩ := flat_parts (l := l) (i := i) (by omega)
      obtain ⟨_, t2⟩ := flat_parts (l := l) (i := i + 1) (by omega)
      rw [hCs] at t1 t2
      rw [List.eraseIdx_eq_take_drop_succ, List.flatMap_append, t1, t2]
    refine ⟨rows_len eT_len _, .inr ⟨b, c, _, by rw [hll], Nat.zero_le _, hb2, by omega, hm, ?_, ?_⟩⟩
    · have h2 : [Value.int .u64 0, Value.int .i64 0].length = 2 := rfl
      simp only [List.size_toArray, List.length_append, List.length_take, List.length_drop, h2, hL1l]
      omega
    · rw [hfm, hll, ← hL1t]
      have h3 : (L1.take ((l.length - 1) * 2)).length = (l.length - 1) * 2 := by rw [List.length_take]; omega
      show List.take ((l.length - 1) * 2) (L1.take ((l.length - 1) * 2) ++ _ ++ _) = _
      rw [List.append_assoc, List.take_left' h3]
  simp only [List.toList_toArray] at hb2 K2 hfin hclr
  generalize hFF : (L1.take ((l.length - 1) * 2) ++ [Value.int .u64 0, Value.int .i64 0] ++ L1.drop ((l.length - 1) * 2 + 2)).toArray = FF at *
  have b1 : (0 : Int) ≤ (i : Int) := Int.natCast_nonneg _
  have b2 : (i : Int) ≤ (i : Int) + 1 := by omega
  have b3 : (0 : Int) ≤ (i : Int) + 1 := by omega
  have b4 : (i : Int) + 1 ≤ (l.length : Int) := by omega
  have b5 : (l.length : Int) ≤ (c : Int) := by omega
  have b6 : ((i : Int) + 1).toNat = i + 1 := by omega
  have b7 : ¬ (i : Int) = (i : Int) + 1 := by omega
  have b8 : (i : Int) ≤ (c : Int) := by omega
  have c2 : ¬ c = i := by omega
  have c3 : ((l.length - 1 : Nat) : Int) ≤ (l.length : Int) := by omega
  have c4 : ¬ c = l.length - 1 := by omega
  have c5 : l.length - (l.length - 1) = 1 := by omega
  replace hFF := hid hFF
  replace hL1 := hid hL1
  replace hL1l := hid hL1l
  replace hL1t := hid hL1t
  replace hCs := hid hCs
  replace hfl := hid hfl
  replace htk := hid htk
  replace hs := hid hs
  replace hYl := hid hYl
  replace hv := hid hv
  replace hb := hid hb
  replace hb0 := hid hb0
  replace hb1 := hid hb1
  replace hb2 := hid hb2
  replace hclr := hid hclr
  replace hrr := hid hrr
  replace hfin := hid hfin
  by_cases hce : c = i + 1
  ·
    subst hce
    have b9 : (l.length : Int) ≤ (i : Int) + 1 := by omega
    have b10 : (i : Int) ≤ (i : Int) + 1 := by omega
    go_enter Try.func19, Try.ntmps19
    go_wp2_with fail
    refine wp_region_G (fun _ => True) [(0, .at_), (1, .at_), (2, .at_), (3, .at_), (4, .at_), (5, .at_), (6, .eff), (7, .at_)] ?L1 (by kernel_rfl) (by kernel_rfl) ?hL1 (trivial) ?hG1
    case hL1 => simp only [pickOps, List.map_cons, List.map_nil, List.getD_cons_zero, List.getD_cons_succ]; rfl
    repeat (first | (refine wpG_at (v := ?_) (by rfl) ?_ ?_; rotate_left; (focus (first | (go_simp; with_reducible rfl) | (go_simp; done))); simp only [Act.put, List.setIfInBounds_toArray, List.set_cons_zero, List.set_cons_succ]) | (refine wpG_at_skip (by rfl) ?_; simp only [Act.put, List.setIfInBounds_toArray, List.set_cons_zero, List.set_cons_succ]) | (refine wpG_held_skip (by rfl) ?_; simp only [Act.put, List.setIfInBounds_toArray, List.set_cons_zero, List.set_cons_succ]) | (refine wpG_held (v := ?_) (by rfl) ?_ ?_; rotate_left; (focus (intro w' hSw; (try dsimp only at hSw); go_split_ands; first | (go_simp; with_reducible rfl) | (go_simp; done))); simp only [Act.put, List.setIfInBounds_toArray, List.set_cons_zero, List.set_cons_succ]))
    refine wpG_eff (by rfl) (fun K hK => ?_)
    have hrr0 := hrr.out ⟨b, 0, none⟩ 0 (by
      intro j u hj
      have h0 : Cs.drop ((i + 1) * 2) = [] := List.drop_eq_nil_of_le (by have := hfl.out; omega)
      rw [h0] at hj; cases hj)
    rw [show l.length - (i + 1) = 0 from by omega] at hrr0
    refine Lib.wp_append_run _ _ _ 53 53 rfl (.slice (some ⟨b, 0, none⟩) i (i + 1)) (.slice (some ⟨b, 0, none⟩) 0 0) rfl rfl _ _ hrr0 ?_
    clear hrr0
    refine hK _ _ trivial ?_
    clear hK K
    repeat (first | (refine wpG_at (v := ?_) (by rfl) ?_ ?_; rotate_left; (focus (first | (go_simp; with_reducible rfl) | (go_simp; done))); simp only [Act.put, List.setIfInBounds_toArray, List.set_cons_zero, List.set_cons_succ]) | (refine wpG_at_skip (by rfl) ?_; simp only [Act.put, List.setIfInBounds_toArray, List.set_cons_zero, List.set_cons_succ]) | (refine wpG_held_skip (by rfl) ?_; simp only [Act.put, List.setIfInBounds_toArray, List.set_cons_zero, List.set_cons_succ]) | (refine wpG_held (v := ?_) (by rfl) ?_ ?_; rotate_left; (focus (intro w' hSw; (try dsimp only at hSw); go_split_ands; first | (go_simp; with_reducible rfl) | (go_simp; done))); simp only [Act.put, List.setIfInBounds_toArray, List.set_cons_zero, List.set_cons_succ]))
    refine wpG_nil (NoPanic.normal ?_)
    go_wp2_with fail
    rw [hclr.out]
    go_wp2_with fail
    go_ret
    exact ⟨rfl, hfin.out, K2⟩
  ·
    go_enter Try.func19, Try.ntmps19
    go_wp2_with fail
    refine wp_region_G (fun _ => True) [(0, .at_), (1, .at_), (2, .at_), (3, .at_), (4, .at_), (5, .at_), (6, .eff), (7, .at_)] ?L2 (by kernel_rfl) (by kernel_rfl) ?hL2 (trivial) ?hG2
    case hL2 => simp only [pickOps, List.map_cons, List.map_nil, List.getD_cons_zero, List.getD_cons_succ]; rfl
    repeat (first | (refine wpG_at (v := ?_) (by rfl) ?_ ?_; rotate_left; (focus (first | (go_simp; with_reducible rfl) | (go_simp; done))); simp only [Act.put, List.setIfInBounds_toArray, List.set_cons_zero, List.set_cons_succ]) | (refine wpG_at_skip (by rfl) ?_; simp only [Act.put, List.setIfInBounds_toArray, List.set_cons_zero, List.set_cons_succ]) | (refine wpG_held_skip (by rfl) ?_; simp only [Act.put, List.setIfInBounds_toArray, List.set_cons_zero, List.set_cons_succ]) | (refine wpG_held (v := ?_) (by rfl) ?_ ?_; rotate_left; (focus (intro w' hSw; (try dsimp only at hSw); go_split_ands; first | (go_simp; with_reducible rfl) | (go_simp; done))); simp only [Act.put, List.setIfInBounds_toArray, List.set_cons_zero, List.set_cons_succ]))
    refine wpG_eff (by rfl) (fun K hK => ?_)
    refine Lib.wp_append_run _ _ _ 53 53 rfl (.slice (some ⟨b, 0, none⟩) i c) (.slice (some ⟨b, (i + 1) * 2, none⟩) (l.length - (i + 1)) (c - (i + 1))) rfl rfl _ _ (hrr.out ⟨b, (i + 1) * 2, none⟩ (c - (i + 1)) ?_) ?_
    · intro j u hj
      rw [Addr.add_lit, cell_of hb0.out]
      rw [List.getElem?_drop] at hj
      exact hsrc0 _ _ hj
    refine hK _ _ trivial ?_
    clear hK K
    repeat (first | (refine wpG_at (v := ?_) (by rfl) ?_ ?_; rotate_left; (focus (first | (go_simp; with_reducible rfl) | (go_simp; done))); simp only [Act.put, List.setIfInBounds_toArray, List.set_cons_zero, List.set_cons_succ]) | (refine wpG_at_skip (by rfl) ?_; simp only [Act.put, List.setIfInBounds_toArray, List.set_cons_zero, List.set_cons_succ]) | (refine wpG_held_skip (by rfl) ?_; simp only [Act.put, List.setIfInBounds_toArray, List.set_cons_zero, List.set_cons_succ]) | (refine wpG_held (v := ?_) (by rfl) ?_ ?_; rotate_left; (focus (intro w' hSw; (try dsimp only at hSw); go_split_ands; first | (go_simp; with_reducible rfl) | (go_simp; done))); simp only [Act.put, List.setIfInBounds_toArray, List.set_cons_zero, List.set_cons_succ]))
    refine wpG_nil (NoPanic.normal ?_)
    go_wp2_with fail
    rw [hclr.out]
    go_wp2_with fail
    go_ret
    exact ⟨rfl, hfin.out, K2⟩
end
end Go.Proofs.YtackanpobfaglaaRRRR
