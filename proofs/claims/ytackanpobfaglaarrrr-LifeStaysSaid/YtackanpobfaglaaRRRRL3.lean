/- Walks through timers: one put in, one taken out. -/
import Derived.Test.YtackanpobfaglaaRRRRL2
import Derived.Test.YtackanpobfaglaaRRRRLibS
namespace Go.Proofs.YtackanpobfaglaaRRRR
set_option linter.unusedSimpArgs false
set_option linter.unusedVariables false
open Go.RowKit
attribute [local go_sem ↓] Go.wp_at_zero Go.wp_at_succ
theorem u53 : Try.prog.underlying 53 = some (.slice 58) := by kernel_rfl
theorem i58 : (Try.prog.info? 58).map (fun i => (i.zero, i.size, i.bytes)) = some (some (.agg #[.int .u64 0, .int .i64 0]), 2, 16) := by kernel_rfl
theorem s58 : (Try.prog.info? 58).map (·.size) = some 2 := by kernel_rfl
theorem oneT (l : List (Int × Int)) : ∀ u ∈ l.flatMap eT, u.oneCell' = true := by
  intro u hu
  simp [eT] at hu
  obtain ⟨x, y, _, rfl | rfl⟩ := hu <;> rfl
theorem pre1 (x y : Int) : Pre eT 2 #[.int .u64 x, .int .i64 y] [(x, y)] := by
  intro a b z ha hb
  match a, ha with
  | 0, ha => simp at ha; subst ha; match b, hb with | 0, _ => rfl | 1, _ => rfl
section
variable {w w' : World} {p : Nat} {v : Value} {l : List (Int × Int)}
set_option maxRecDepth 100000 in
set_option maxHeartbeats 2000000 in
theorem insert_end (hv : RowAt w 58 eT 2 v l) (n2 : l.length ≤ 4000) {g : Nat} {x y : Int} (hg : w.heap[g]? = some (.cells #[.int .u64 x, .int .i64 y] 58 (0, 0))) :
    Calls Try.prog 18 #[v, .int .i64 l.length, .slice (some ⟨g, 0, none⟩) 1 1] w fun e w' => ∃ v', e = .returned v' ∧ RowAt w' 58 eT 2 v' (l ++ [(x, y)]) ∧ (v'.ownBlock = v.ownBlock ∨ ∃ b, v'.ownBlock = some b ∧ w.heap.size ≤ b) ∧ Kp (fun b => v.ownBlock = some b) w w' := by
  rcases hv.2 with ⟨rfl, h0⟩ | ⟨b, c, cur, rfl, _, hb, hc, hm, hs, htk⟩
  · obtain rfl : l = [] := List.eq_nil_of_length_eq_zero h0
    replace hv := hid hv
    replace hg := hid hg
    go_enter Try.func18, Try.ntmps18
    go_wp2_with (at_builtin; refine wpList_plain rfl fun K hK => ?_; refine wp_grow eT_len (by omega) _ _ 53 58 _ 16 rfl u53 i58 rfl (.slice none 0 0) [] rfl hv.out g 1 [(x, y)] rfl _ 58 hg.out (pre1 x y) (oneT _) (by simp) (by omega) ?_; intro v' w' q1 q2 q3; refine hK _ _ ?_; clear hK K)
    go_ret
    exact ⟨v', rfl, q1, q3, kp_grown q2 (fun b hb => hb)⟩
  · replace hv := hid hv
    replace hg := hid hg
    replace hb := hid hb
    have hc' : (l.length : Int) ≤ (c : Int) := by omega
    clear htk
    go_enter Try.func18, Try.ntmps18
    go_wp2_with (at_builtin; refine wpList_plain rfl fun K hK => ?_; refine wp_grow eT_len (by omega) _ _ 53 58 _ 16 rfl u53 i58 rfl (.slice (some ⟨b, 0, none⟩) l.length c) l rfl hv.out g 1 [(x, y)] rfl _ 58 hg.out (pre1 x y) (oneT _) (by simp; omega) (by omega) ?_; intro v' w' q1 q2 q3; refine hK _ _ ?_; clear hK K)
    all_goals (go_ret; exact ⟨v', rfl, q1, q3, kp_grown q2 (fun b hb => hb)⟩)
set_option maxRecDepth 100000 in
set_option maxHeartbeats 2000000 in
theorem insert_fits {b c : Nat} (hv : RowAt w 58 eT 2 (.slice (some ⟨b, 0, none⟩) l.length c) l) (n2 : l.length ≤ 4000) {g : Nat} {x y : Int} (hg : w.heap[g]? = some (.cells #[.int .u64 x, .int .i64 y] 58 (0, 0))) (hgb : g ≠ b)
    {i : Nat} (hi : i < l.length) (hc : l.length + 1 ≤ c) :
    Calls Try.prog 18 #[.slice (some ⟨b, 0, none⟩) l.length c, .int .i64 i, .slice (some ⟨g, 0, none⟩) 1 1] w fun e w' => ∃ v', e = .returned v' ∧ RowAt w' 58 eT 2 v' (l.take i ++ (x, y) :: l.drop i) ∧ v'.ownBlock = some b ∧ Kp (fun b' => b' = b) w w' := by
  obtain ⟨b', c', A, hvv, hb, hA, _, hm, hs⟩ := hv.pos eT_len (by omega)
  injection hvv with hv1 _ hv3
  injection hv1 with hv1; injection hv1 with hv1
  subst hv1; subst hv3
  have hov : ∀ W, Kp NoB w W → ∀ lb cb, (callFunc 25 #[.slice (some ⟨g, 0, none⟩) 1 1, .slice (some ⟨b, (i + 1) * 2, none⟩) lb cb]).run Try.prog W = .ok (.value (.bool false)) W := fun W kW lb cb => by
    have hgW := kW.get hg (fun h => h)
    have hbW := kW.get hb (fun h => h)
    rw [run_callFunc_extern Try.func25 (by kernel_rfl) (by kernel_rfl) (by kernel_rfl) (e := Extern.SlicesOverlaps.overlaps #[53, 53] #[4]) (by kernel_rfl),
      Lib.run_overlaps_apart W 53 4 58 u53 2 (fun w => by kernel_rfl) ⟨g, 0, none⟩ ⟨b, (i + 1) * 2, none⟩ 1 1 lb cb hgb 58 58 2 A.size (by simp [World.shape?, hgW]) (by simp [World.shape?, hbW]) (by omega) (frozen_of hgW _) (frozen_of hgW _)]
    rfl
  have hz2 : ¬ ((i : Int) = (l.length : Int)) := by omega
  have b1 : (0 : Int) ≤ (i : Int) := Int.natCast_nonneg _
  have b2 : (i : Int) < (l.length : Int) := by omega
  have hc' : (l.length : Int) + 1 ≤ (c : Int) := by omega
  have wI : IntKind.i64.wrap ((i : Int) + 1) = (i : Int) + 1 := wi_in (by omega)
  have tI : ((i : Int) + 1).toNat = i + 1 := by omega
  have bI : (0 : Int) ≤ (i : Int) + 1 := by omega
  have bI2 : (i : Int) + 1 ≤ (l.length : Int) + 1 := by omega
  have bI3 : (i : Int) ≤ (l.length : Int) + 1 := by omega
  have c1 : ¬ c = i + 1 := by omega
  have c2 : ¬ c = i := by omega
  have hfl := rows_len eT_len l
  have htk : A.toList.take (l.length * 2) = l.flatMap eT := by
    rcases hv.2 with ⟨h1, _⟩ | ⟨g2, cap2, cur2, h1, _, hg2, _, _, _, h6⟩
    · cases h1
    · injection h1 with h1 _ h3
      injection h1 with h1; injection h1 with h1
      subst h1; subst h3
      rw [hb] at hg2; injection hg2 with hg2; injection hg2 with hg2 _ _
      subst hg2; exact h6
  obtain ⟨Cs, hCs⟩ : ∃ Cs, l.flatMap eT = Cs := ⟨_, rfl⟩
  have h1C : ∀ u ∈ Cs.drop (i * 2), u.oneCell' = true := fun u hu => oneT l u (by rw [hCs]; exact List.mem_of_mem_drop hu)
  have hsrc : ∀ (j : Nat) (u : Value), (Cs.drop (i * 2))[j]? = some u → A[i * 2 + j]? = some u := fun j u hj => by
    rw [List.getElem?_drop, ← hCs] at hj
    exact hA.flat eT_len (by omega) _ _ hj
  rw [hCs] at hfl htk
  have hAeq : A.toList = Cs.take (i * 2) ++ Cs.drop (i * 2) ++ A.toList.drop (l.length * 2) := by
    rw [List.take_append_drop, ← htk, List.take_append_drop]
  have hsh := shift_in A.toList (Cs.take (i * 2)) (Cs.drop (i * 2)) (A.toList.drop (l.length * 2)) [.int .u64 x, .int .i64 y] (i * 2) (l.length * 2 - i * 2) 2 (by rw [List.length_take]; omega) (by rw [List.length_drop]; omega) rfl hAeq (by simp; omega)
  dsimp only at hsh
  replace hsh := hid hsh
  replace hAeq := hid hAeq
  replace htk := hid htk
  replace hfl := hid hfl
  replace hCs := hid hCs
  replace h1C := hid h1C
  replace hsrc := hid hsrc
  replace hs := hid hs
  replace hv := hid hv
  replace hg := hid hg
  replace hb := hid hb
  go_enter Try.func18, Try.ntmps18
  go_wp2_with fail
  rw [hov w (Kp.refl _ w)]
  clear hov
  go_wp2_with fail
  refine wp_region_G (fun _ => True) [(0, .at_), (1, .at_), (2, .at_), (3, .at_), (4, .at_), (5, .at_), (6, .at_), (7, .at_), (8, .eff)] ?L1 (by kernel_rfl) (by kernel_rfl) ?hL1 (trivial) ?hG1
  case hL1 => simp only [pickOps, List.map_cons, List.map_nil, List.getD_cons_zero, List.getD_cons_succ]; rfl
  repeat (first | (refine wpG_at (v := ?_) (by rfl) ?_ ?_; rotate_left; (focus (first | (go_simp; with_reducible rfl) | (go_simp; done))); simp only [Act.put, List.setIfInBounds_toArray, List.set_cons_zero, List.set_cons_succ]) | (refine wpG_at_skip (by rfl) ?_; simp only [Act.put, List.setIfInBounds_toArray, List.set_cons_zero, List.set_cons_succ]) | (refine wpG_held_skip (by rfl) ?_; simp only [Act.put, List.setIfInBounds_toArray, List.set_cons_zero, List.set_cons_succ]) | (refine wpG_held (v := ?_) (by rfl) ?_ ?_; rotate_left; (focus (intro w' hSw; (try dsimp only at hSw); go_split_ands; first | (go_simp; with_reducible rfl) | (go_simp; done))); simp only [Act.put, List.setIfInBounds_toArray, List.set_cons_zero, List.set_cons_succ]))
  refine wpG_eff (by rfl) (fun K hK => ?_)
  refine wp_copyN _ _ 53 53 58 2 rfl u53 s58 b ((i + 1) * 2) (l.length - i) (c - (i + 1)) rfl ⟨b, i * 2, none⟩ (l.length + 1 - i) (c - i) rfl A 58 (blk_drew hb.out) (Cs.drop (i * 2)) ?_ ?_ ?_ h1C.out ?_
  · have := hfl.out
    rw [List.length_drop, this, show Nat.min (l.length + 1 - i) (l.length - i) = l.length - i from Nat.min_eq_right (by omega)]; omega
  · intro j u hj
    rw [Addr.add_lit, cell_of (blk_drew hb.out)]
    exact hsrc.out j u hj
  · have := hfl.out
    have := hs.out
    rw [List.length_drop]; omega
  intro r0
  refine hK _ _ trivial ?_
  clear hK K
  repeat (first | (refine wpG_at (v := ?_) (by rfl) ?_ ?_; rotate_left; (focus (first | (go_simp; with_reducible rfl) | (go_simp; done))); simp only [Act.put, List.setIfInBounds_toArray, List.set_cons_zero, List.set_cons_succ]) | (refine wpG_at_skip (by rfl) ?_; simp only [Act.put, List.setIfInBounds_toArray, List.set_cons_zero, List.set_cons_succ]) | (refine wpG_held_skip (by rfl) ?_; simp only [Act.put, List.setIfInBounds_toArray, List.set_cons_zero, List.set_cons_succ]) | (refine wpG_held (v := ?_) (by rfl) ?_ ?_; rotate_left; (focus (intro w' hSw; (try dsimp only at hSw); go_split_ands; first | (go_simp; with_reducible rfl) | (go_simp; done))); simp only [Act.put, List.setIfInBounds_toArray, List.set_cons_zero, List.set_cons_succ]))
  refine wpG_nil (NoPanic.normal ?_)
  have hb1 := setRow_heap w.drew b A (A.toList.take ((i + 1) * 2) ++ Cs.drop (i * 2) ++ A.toList.drop ((i + 1) * 2 + (Cs.drop (i * 2)).length)).toArray 58 (0, 0) (blk_drew hb.out)
  have K1 := kp_setRow (F := fun b' => b' = b) ((Kp.refl _ w).drew) (A.toList.take ((i + 1) * 2) ++ Cs.drop (i * 2) ++ A.toList.drop ((i + 1) * 2 + (Cs.drop (i * 2)).length)).toArray (fun _ => rfl)
  have hg1 := K1.get hg.out hgb
  generalize hcur : (A.toList.take ((i + 1) * 2) ++ Cs.drop (i * 2) ++ A.toList.drop ((i + 1) * 2 + (Cs.drop (i * 2)).length)) = cur1 at *
  generalize w.drew.setRow b cur1.toArray = W at *
  have hcl : cur1.length = c * 2 := by
    rw [← hcur]
    have := hfl.out
    have := hs.out
    simp
    omega
  replace hcur := hid hcur
  replace hcl := hid hcl
  replace hb1 := hid hb1
  replace hg1 := hid hg1
  clear wI tI bI bI2 c1
  have q1 := hid (show [Value.int .u64 x, .int .i64 y].length = Nat.min 1 (l.length + 1 - i) * 2 from by
    rw [show Nat.min 1 (l.length + 1 - i) = 1 from Nat.min_eq_left (by omega)]; rfl)
  have q2 := hid (show ∀ (j : Nat) (u : Value), [Value.int .u64 x, .int .i64 y][j]? = some u → W.cell? ((⟨g, 0, none⟩ : Addr).add j) = some u from by
    intro j u hj
    rw [add0, cell_of hg1.out]
    match j, hj with
    | 0, hj => simpa using hj
    | 1, hj => simpa using hj)
  have q3 := hid (show i * 2 + [Value.int .u64 x, .int .i64 y].length ≤ cur1.toArray.size from by have := hcl.out; simp; omega)
  have q4 := hid (show ∀ u ∈ [Value.int .u64 x, .int .i64 y], u.oneCell' = true from by simp [Value.oneCell'])
  have hr := hid (run_copyN (P := Try.prog) W 53 53 3 58 b (i * 2) (l.length + 1 - i) (c - i) 2 ⟨g, 0, none⟩ 1 1 cur1.toArray 58 [.int .u64 x, .int .i64 y] u53 s58 hb1.out q1.out q2.out q3.out q4.out)
  go_wp2_with fail
  rw [hr.out]
  have hb2 := setRow_heap W b _ (cur1.toArray.toList.take (i * 2) ++ [Value.int .u64 x, Value.int .i64 y] ++ cur1.toArray.toList.drop (i * 2 + [Value.int .u64 x, .int .i64 y].length)).toArray 58 (0, 0) hb1.out
  have K2 := kp_setRow K1 (cur1.toArray.toList.take (i * 2) ++ [Value.int .u64 x, Value.int .i64 y] ++ cur1.toArray.toList.drop (i * 2 + [Value.int .u64 x, .int .i64 y].length)).toArray (g := b) (fun _ => rfl)
  generalize W.setRow b _ = W2 at *
  replace hb2 := hid hb2
  clear hr
  go_wp2_with fail
  go_ret
  have e1 : (A.toList.take ((i + 1) * 2) ++ Cs.drop (i * 2) ++ A.toList.drop ((i + 1) * 2 + (Cs.drop (i * 2)).length)) = A.toList.take (i * 2 + 2) ++ Cs.drop (i * 2) ++ A.toList.drop (i * 2 + 2 + (l.length * 2 - i * 2)) := by
    have := hfl.out
    rw [List.length_drop, this, show (i + 1) * 2 = i * 2 + 2 from by omega]
  have e2 := hsh.out
  rw [← e1, hcur.out] at e2
  have hb3 := hb2.out
  simp only [List.length_cons, List.length_nil] at hb3
  rw [show cur1.toArray.toList.take (i * 2) ++ [Value.int .u64 x, Value.int .i64 y] ++ cur1.toArray.toList.drop (i * 2 + (0 + 1 + 1)) = Cs.take (i * 2) ++ [Value.int .u64 x, Value.int .i64 y] ++ Cs.drop (i * 2) ++ (A.toList.drop (l.length * 2)).drop 2 from e2] at hb3
  have hll : (l.take i ++ (x, y) :: l.drop i).length = l.length + 1 := by simp; omega
  have hfm : (l.take i ++ (x, y) :: l.drop i).flatMap eT = Cs.take (i * 2) ++ [Value.int .u64 x, Value.int .i64 y] ++ Cs.drop (i * 2) := by
    have t1 : (l.take i).flatMap eT = Cs.take (i * 2) := by
      have hx := rows_len eT_len (l.take i)
      have : Cs = (l.take i).flatMap eT ++ (l.drop i).flatMap eT := by rw [← hCs.out, ← List.flatMap_append, List.take_append_drop]
      rw [this, List.take_left']
      rw [hx, List.length_take, Nat.min_eq_left (by omega)]
    have t2 : (l.drop i).flatMap eT = Cs.drop (i * 2) := by
      have hx := rows_len eT_len (l.take i)
      have : Cs = (l.take i).flatMap eT ++ (l.drop i).flatMap eT := by rw [← hCs.out, ← List.flatMap_append, List.take_append_drop]
      rw [this, List.drop_left']
      rw [hx, List.length_take, Nat.min_eq_left (by omega)]
    simp [List.flatMap_append, t1, t2, eT]
  refine ⟨.slice (some ⟨b, 0, none⟩) (l.length + 1) c, rfl, ⟨rows_len eT_len _, .inr ⟨b, c, _, by rw [hll], Nat.zero_le _, hb3, by omega, hm, ?_, ?_⟩⟩, rfl, K2⟩
  · have := hs.out
    have := hfl.out
    simp
    omega
  · rw [hfm, List.take_left']
    have := hfl.out
    simp
    omega
end
end Go.Proofs.YtackanpobfaglaaRRRR
