/- Walks through timers: Put. -/
import Derived.Test.YtackanpobfaglaaRRRRL6
namespace Go.Proofs.YtackanpobfaglaaRRRR
set_option linter.unusedSimpArgs false
set_option linter.unusedVariables false
open Go.RowKit
attribute [local go_sem ↓] Go.wp_at_zero Go.wp_at_succ
section
variable {w w' : World} {p : Nat} {v : Value} {l : List (Int × Int)}
theorem bsF_le (l : List (Int × Int)) (x : Int × Int) : ∀ f i j, i ≤ j → bsF l x f i j ≤ j
  | 0, i, j, h => h
  | f + 1, i, j, h => by
    rw [bsF]
    split
    · split
      · exact bsF_le l x f _ _ (by omega)
      · exact Nat.le_trans (bsF_le l x f _ _ (by omega)) (by omega)
    · exact h
theorem bsV_le (l : List (Int × Int)) (x : Int × Int) : bsV l x ≤ l.length := bsF_le _ _ _ _ _ (Nat.zero_le _)
def putV (l : List (Int × Int)) (x s : Int) : List (Int × Int) := (rmV l s).take (bsV (rmV l s) (x, s)) ++ (x, s) :: (rmV l s).drop (bsV (rmV l s) (x, s))
set_option maxRecDepth 100000 in
set_option maxHeartbeats 2000000 in
theorem put_any (h : TAt w p v l) (n2 : l.length ≤ 3999) {s x : Int} (hs : 1 ≤ s ∧ s ≤ 1073741824) : Calls Try.prog 11 #[.pointer (some ⟨p, 0, none⟩), .int .i64 s, .int .u64 x] w fun e w' => e = .returned (.int .i64 0) ∧ ∃ v', TAt w' p v' (putV l x s) ∧ (v'.ownBlock = v.ownBlock ∨ ∃ b, v'.ownBlock = some b ∧ w.heap.size ≤ b) ∧ Kp (fun b => b = p ∨ v.ownBlock = some b) w w' := by
  have HR := hid (remove_any h (by omega) s)
  have hr := rm_len l s
  unfold putV
  generalize rmV l s = l1 at *
  have HB := hid (fun v1 W (hW : RowAt W 58 eT 2 v1 l1) => bsearch_any hW (by omega) x s)
  have n3 : bsV l1 (x, s) ≤ l1.length := bsV_le _ _
  have HI := hid (fun v1 W g (hW : RowAt W 58 eT 2 v1 l1) (hg : W.heap[g]? = some (.cells #[.int .u64 x, .int .i64 s] 58 (0, 0))) (hgv : v1.ownBlock ≠ some g) => insert_any hW (by omega) hg hgv n3)
  generalize bsV l1 (x, s) = i at *
  generalize l1.take i ++ (x, s) :: l1.drop i = L2 at *
  have hlt := blk_lt h.hp
  have hvl := h.hv.lt
  have b1 : (s < 1) = False := by simp; omega
  have b2 : (1073741824 < s) = False := by simp; omega
  clear h
  go_enter Try.func11, Try.ntmps11
  go_wp2_with fail
  refine HR.out.mono ?_
  rintro e w1 ⟨bb, v1, rfl, T1, hv1, k1⟩
  have hx0 := hid (blk_new w1 (.cells #[.int .u64 x, .int .i64 s] 58))
  have T2 := hid (show TAt (w1.alloc (.cells #[.int .u64 x, .int .i64 s] 58)) p v1 l1 from ⟨blk_alloc T1.hp, T1.hv.alloc _⟩)
  replace T1 := hid T1
  replace k1 := hid k1
  clear HR
  go_wp2_with fail
  have Lp := loc1 T2.out.hp
  have Lx := loc2 hx0.out
  refine wp_region_G (fun _ => True) [(0, .at_), (1, .at_), (2, .at_), (3, .at_), (4, .at_), (5, .eff), (6, .at_), (7, .at_), (8, .at_), (9, .at_), (10, .at_)] ?L1 (by kernel_rfl) (by kernel_rfl) ?hL1 (trivial) ?hG1
  case hL1 => simp only [pickOps, List.map_cons, List.map_nil, List.getD_cons_zero, List.getD_cons_succ]; rfl
  repeat (first | (refine wpG_at (v := ?_) (by rfl) ?_ ?_; rotate_left; (focus (first | (go_simp; with_reducible rfl) | (go_simp; done))); simp only [Act.put, List.setIfInBounds_toArray, List.set_cons_zero, List.set_cons_succ]) | (refine wpG_at_skip (by rfl) ?_; simp only [Act.put, List.setIfInBounds_toArray, List.set_cons_zero, List.set_cons_succ]) | (refine wpG_held_skip (by rfl) ?_; simp only [Act.put, List.setIfInBounds_toArray, List.set_cons_zero, List.set_cons_succ]) | (refine wpG_held (v := ?_) (by rfl) ?_ ?_; rotate_left; (focus (intro w' hSw; (try dsimp only at hSw); go_split_ands; first | (go_simp; with_reducible rfl) | (go_simp; done))); simp only [Act.put, List.setIfInBounds_toArray, List.set_cons_zero, List.set_cons_succ]))
  refine wpG_eff (by rfl) (fun K hK => ?_)
  go_simp
  refine (HB.out _ _ T2.out.hv.drew).mono ?_
  rintro e w2 ⟨b0, rfl, k2⟩
  refine hK _ _ trivial ?_
  clear hK K Lp Lx
  repeat (first | (refine wpG_at (v := ?_) (by rfl) ?_ ?_; rotate_left; (focus (first | (go_simp; with_reducible rfl) | (go_simp; done))); simp only [Act.put, List.setIfInBounds_toArray, List.set_cons_zero, List.set_cons_succ]) | (refine wpG_at_skip (by rfl) ?_; simp only [Act.put, List.setIfInBounds_toArray, List.set_cons_zero, List.set_cons_succ]) | (refine wpG_held_skip (by rfl) ?_; simp only [Act.put, List.setIfInBounds_toArray, List.set_cons_zero, List.set_cons_succ]) | (refine wpG_held (v := ?_) (by rfl) ?_ ?_; rotate_left; (focus (intro w' hSw; (try dsimp only at hSw); go_split_ands; first | (go_simp; with_reducible rfl) | (go_simp; done))); simp only [Act.put, List.setIfInBounds_toArray, List.set_cons_zero, List.set_cons_succ]))
  refine wpG_nil (NoPanic.normal ?_)
  have k2 := (Kp.refl NoB (w1.alloc (.cells #[.int .u64 x, .int .i64 s] 58))).drew.trans k2
  have T3 := hid (T2.out.kn k2)
  have hx1 := hid (k2.get hx0.out (fun h => h))
  have k3 := hid k2
  clear k2 HB
  have Lp := loc1 T3.out.hp
  have Lx := loc2 hx1.out
  go_wp2_with fail
  refine wp_region_G (fun W => W.cell? ⟨p, 0, none⟩ = some v1) [(0, .held), (1, .held), (2, .held), (3, .held), (4, .held), (5, .held), (6, .at_), (7, .eff), (8, .eff), (9, .at_), (10, .at_), (11, .fin)] ?L2 (by kernel_rfl) (by kernel_rfl) ?hL2 (Lp.1) ?hG2
  case hL2 => simp only [pickOps, List.map_cons, List.map_nil, List.getD_cons_zero, List.getD_cons_succ]; rfl
  repeat (first | (refine wpG_at (v := ?_) (by rfl) ?_ ?_; rotate_left; (focus (first | (go_simp; with_reducible rfl) | (go_simp; done))); simp only [Act.put, List.setIfInBounds_toArray, List.set_cons_zero, List.set_cons_succ]) | (refine wpG_at_skip (by rfl) ?_; simp only [Act.put, List.setIfInBounds_toArray, List.set_cons_zero, List.set_cons_succ]) | (refine wpG_held_skip (by rfl) ?_; simp only [Act.put, List.setIfInBounds_toArray, List.set_cons_zero, List.set_cons_succ]) | (refine wpG_held (v := ?_) (by rfl) ?_ ?_; rotate_left; (focus (intro w' hSw; (try dsimp only at hSw); go_split_ands; first | (go_simp; with_reducible rfl) | (go_simp; done))); simp only [Act.put, List.setIfInBounds_toArray, List.set_cons_zero, List.set_cons_succ]))
  refine wpG_eff (by rfl) (fun K hK => ?_)
  go_simp
  refine hK _ _ (by go_simp) ?_
  clear hK K
  repeat (first | (refine wpG_at (v := ?_) (by rfl) ?_ ?_; rotate_left; (focus (first | (go_simp; with_reducible rfl) | (go_simp; done))); simp only [Act.put, List.setIfInBounds_toArray, List.set_cons_zero, List.set_cons_succ]) | (refine wpG_at_skip (by rfl) ?_; simp only [Act.put, List.setIfInBounds_toArray, List.set_cons_zero, List.set_cons_succ]) | (refine wpG_held_skip (by rfl) ?_; simp only [Act.put, List.setIfInBounds_toArray, List.set_cons_zero, List.set_cons_succ]) | (refine wpG_held (v := ?_) (by rfl) ?_ ?_; rotate_left; (focus (intro w' hSw; (try dsimp only at hSw); go_split_ands; first | (go_simp; with_reducible rfl) | (go_simp; done))); simp only [Act.put, List.setIfInBounds_toArray, List.set_cons_zero, List.set_cons_succ]))
  refine wpG_eff (by rfl) (fun K hK => ?_)
  go_simp
  have hgv : v1.ownBlock ≠ some w2.heap.size := fun e => Nat.lt_irrefl _ (T3.out.hv.lt _ e)
  refine (HI.out _ _ w2.heap.size ((T3.out.hv.alloc (.cells #[.int .u64 x, .int .i64 s] 58)).drew) (blk_drew (blk_new w2 _)) hgv).mono ?_
  rintro e w3 ⟨v', rfl, q1, q2, q3⟩
  obtain ⟨ov, cv, hvf, _⟩ := q1.form
  subst hvf
  have hp3 := q3.get (blk_drew (blk_alloc (o' := .cells #[.int .u64 x, .int .i64 s] 58) T3.out.hp)) T3.out.ne
  have Lp3 := loc1 hp3
  refine hK _ _ Lp3.1 ?_
  clear hK K Lp Lx
  have Q1 := hid q1
  have Q2 := hid q2
  have Q3 := hid q3
  replace hp3 := hid hp3
  clear q1 q2 q3 HI
  repeat (first | (refine wpG_at (v := ?_) (by rfl) ?_ ?_; rotate_left; (focus (first | (go_simp; with_reducible rfl) | (go_simp; done))); simp only [Act.put, List.setIfInBounds_toArray, List.set_cons_zero, List.set_cons_succ]) | (refine wpG_at_skip (by rfl) ?_; simp only [Act.put, List.setIfInBounds_toArray, List.set_cons_zero, List.set_cons_succ]) | (refine wpG_held_skip (by rfl) ?_; simp only [Act.put, List.setIfInBounds_toArray, List.set_cons_zero, List.set_cons_succ]) | (refine wpG_held (v := ?_) (by rfl) ?_ ?_; rotate_left; (focus (intro w' hSw; (try dsimp only at hSw); go_split_ands; first | (go_simp; with_reducible rfl) | (go_simp; done))); simp only [Act.put, List.setIfInBounds_toArray, List.set_cons_zero, List.set_cons_succ]))
  refine wpG_fin (by rfl) (fun K hK => ?_)
  go_simp
  refine hK _ _ ?_
  clear hK K
  repeat (first | (refine wpG_at (v := ?_) (by rfl) ?_ ?_; rotate_left; (focus (first | (go_simp; with_reducible rfl) | (go_simp; done))); simp only [Act.put, List.setIfInBounds_toArray, List.set_cons_zero, List.set_cons_succ]) | (refine wpG_at_skip (by rfl) ?_; simp only [Act.put, List.setIfInBounds_toArray, List.set_cons_zero, List.set_cons_succ]) | (refine wpG_held_skip (by rfl) ?_; simp only [Act.put, List.setIfInBounds_toArray, List.set_cons_zero, List.set_cons_succ]) | (refine wpG_held (v := ?_) (by rfl) ?_ ?_; rotate_left; (focus (intro w' hSw; (try dsimp only at hSw); go_split_ands; first | (go_simp; with_reducible rfl) | (go_simp; done))); simp only [Act.put, List.setIfInBounds_toArray, List.set_cons_zero, List.set_cons_succ]))
  refine wpG_nil (NoPanic.normal ?_)
  go_wp2_with fail
  go_ret
  have hp3' := hp3.out
  have q1 := Q1.out
  have q2 := Q2.out
  have q3 := Q3.out
  have K1 := ((k1.out.alloc (.cells #[.int .u64 x, .int .i64 s] 58)).trans (k3.out.mono (fun _ h => h.elim))).alloc (.cells #[.int .u64 x, .int .i64 s] 58)
  refine ⟨rfl, _, ⟨blk_setCell hp3' 0 _, q1.setCell _ _ (q1.ne hp3' (t := 55) (by decide))⟩, ?_, ?_⟩
  · rcases q2 with q2 | ⟨b, q2, hb⟩
    · exact .inl (q2.trans hv1)
    · exact .inr ⟨b, q2, Nat.le_trans K1.size hb⟩
  · exact (K1.drew.trans (q3.mono fun b hb => Or.inr (hv1 ▸ hb))).setCell _ (fun _ => Or.inl rfl)
end
end Go.Proofs.YtackanpobfaglaaRRRR
