/- Walks through the document's arena: Free. -/
import Derived.Test.YtldkogdkadgnkaaR2
import Derived.Test.YtldkogdkadgnkaaLibD
namespace Go.Proofs.Ytldkogdkadgnkaa
set_option linter.unusedSimpArgs false
set_option linter.unusedVariables false
open Go.RowKit
attribute [local go_sem ↓] Go.wp_at_zero Go.wp_at_succ
theorem oneI (B : List Nat) : ∀ u ∈ B.flatMap eI, u.oneCell' = true := by
  intro u hu
  simp [eI] at hu
  obtain ⟨i, _, rfl⟩ := hu
  rfl
section
variable {w w' : World} {r lb c : Nat} {vb : Value} {S : List (Int × Int × Bool)} {B : List Nat} {E : Nat}
set_option maxRecDepth 100000 in
set_option maxHeartbeats 2000000 in
theorem rfree_no (h : WAt w r lb c vb S B) (n2 : S.length ≤ 4096) {i g : Int} (hn : ¬ HOk S i g) :
    Calls Try.prog 23 #[.pointer (some ⟨r, 0, none⟩), .agg #[.int .i64 i, .int .u64 g]] w fun e w' => e = .returned (.int .i64 5) ∧ Kp NoB w w' := by
  have HI := hid (is_no (h.alloc (.cells #[.int .i64 i, .int .u64 g] 36)) n2 hn)
  clear h hn
  go_enter Try.func23, Try.ntmps23
  go_wp2_with fail
  refine HI.out.mono ?_
  rintro e w1 ⟨rfl, k1⟩
  go_wp2_with fail
  go_ret
  exact ⟨rfl, ((Kp.refl _ w).alloc _).trans k1⟩
set_option maxRecDepth 100000 in
set_option maxHeartbeats 4000000 in
theorem rfree_yes (h : WAt w r lb c vb S B) (n2 : S.length ≤ 4096) (bl : B.length < 4096) {k : Nat} {x g : Int} (hk : S[k]? = some (x, g, true)) :
    Calls Try.prog 23 #[.pointer (some ⟨r, 0, none⟩), .agg #[.int .i64 k, .int .u64 g]] w fun e w' => e = .returned (.int .i64 0) ∧
      ∃ v', WAt w' r lb c v' (S.set k (0, IntKind.u64.wrap (g + 1), false)) (B ++ [k]) ∧ New w v' ∧ Kp (fun b => b = r ∨ b = lb) w w' := by
  have HI := hid (is_yes (h.alloc (.cells #[.int .i64 k, .int .u64 g] 36)) n2 hk)
  have hkl := (List.getElem?_eq_some_iff.1 hk).1
  have b1 : (0 : Int) ≤ (k : Int) := Int.natCast_nonneg _
  have b2 : (k : Int) < (S.length : Int) := by omega
  replace h := hid h
  replace hk := hid hk
  go_enter Try.func23, Try.ntmps23
  go_wp2_with fail
  refine HI.out.mono ?_
  clear HI
  rintro e w1 ⟨rfl, k1⟩
  have K1 := ((Kp.refl NoB w).alloc (.cells #[.int .i64 k, .int .u64 g] 36)).trans k1
  have hx := k1.get (blk_new w (.cells #[.int .i64 k, .int .u64 g] 36)) (fun h => h)
  have hA := (h.out.alloc (.cells #[.int .i64 k, .int .u64 g] 36)).kn k1
  have Lx := loc2 hx
  have Lp := hA.cs
  have Le := hA.es hk.out
  obtain ⟨n1, n3, n4⟩ := hA.ne
  have hlx : lb ≠ w.heap.size := by have := h.out.lt.2; omega
  have hrx : r ≠ w.heap.size := by have := h.out.lt.1; omega
  replace hA := hid hA
  replace hx := hid hx
  go_wp2_with fail
  refine wp_region_G (fun _ => True) [(0, .at_), (1, .at_), (2, .at_), (3, .at_), (4, .at_), (5, .at_), (6, .at_), (7, .at_), (8, .at_), (9, .at_), (10, .at_), (11, .eff)] ?L2 (by kernel_rfl) (by kernel_rfl) ?hL2 (trivial) ?hG2
  case hL2 => simp only [pickOps, List.map_cons, List.map_nil, List.getD_cons_zero, List.getD_cons_succ]; rfl
  repeat (first | (refine wpG_at (v := ?_) (by rfl) ?_ ?_; rotate_left; (focus (first | (go_simp; with_reducible rfl) | (go_simp; done))); simp only [Act.put, List.setIfInBounds_toArray, List.set_cons_zero, List.set_cons_succ]) | (refine wpG_at_skip (by rfl) ?_; simp only [Act.put, List.setIfInBounds_toArray, List.set_cons_zero, List.set_cons_succ]) | (refine wpG_held_skip (by rfl) ?_; simp only [Act.put, List.setIfInBounds_toArray, List.set_cons_zero, List.set_cons_succ]) | (refine wpG_held (v := ?_) (by rfl) ?_ ?_; rotate_left; (focus (intro w' hSw; (try dsimp only at hSw); go_split_ands; first | (go_simp; with_reducible rfl) | (go_simp; done))); simp only [Act.put, List.setIfInBounds_toArray, List.set_cons_zero, List.set_cons_succ]))
  refine wpG_eff (by rfl) (fun K hK => ?_)
  go_simp
  refine hK _ _ trivial ?_
  clear hK K
  repeat (first | (refine wpG_at (v := ?_) (by rfl) ?_ ?_; rotate_left; (focus (first | (go_simp; with_reducible rfl) | (go_simp; done))); simp only [Act.put, List.setIfInBounds_toArray, List.set_cons_zero, List.set_cons_succ]) | (refine wpG_at_skip (by rfl) ?_; simp only [Act.put, List.setIfInBounds_toArray, List.set_cons_zero, List.set_cons_succ]) | (refine wpG_held_skip (by rfl) ?_; simp only [Act.put, List.setIfInBounds_toArray, List.set_cons_zero, List.set_cons_succ]) | (refine wpG_held (v := ?_) (by rfl) ?_ ?_; rotate_left; (focus (intro w' hSw; (try dsimp only at hSw); go_split_ands; first | (go_simp; with_reducible rfl) | (go_simp; done))); simp only [Act.put, List.setIfInBounds_toArray, List.set_cons_zero, List.set_cons_succ]))
  refine wpG_nil (NoPanic.normal ?_)
  have HA := (hA.out).three hkl (0, IntKind.u64.wrap (g + 1), false)
  have HX := blk_far (blk_far (blk_far hx.out (a := ⟨lb, k * 3, none⟩) (.int .i64 0) (Ne.symm hlx)) (a := ⟨lb, k * 3 + 1, none⟩) (.int .u64 (IntKind.u64.wrap (g + 1))) (Ne.symm hlx)) (a := ⟨lb, k * 3 + 2, none⟩) (.bool false) (Ne.symm hlx)
  have K2 : Kp (fun b => b = r ∨ b = lb) w (((w1.setCell ⟨lb, k * 3, none⟩ (.int .i64 0)).setCell ⟨lb, k * 3 + 1, none⟩ (.int .u64 (IntKind.u64.wrap (g + 1)))).setCell ⟨lb, k * 3 + 2, none⟩ (.bool false)) :=
    (((K1.mono (fun _ h => h.elim)).setCell _ (fun _ => .inr rfl)).setCell _ (fun _ => .inr rfl)).setCell _ (fun _ => .inr rfl)
  dsimp only at HA
  generalize ((w1.setCell ⟨lb, k * 3, none⟩ (.int .i64 0)).setCell ⟨lb, k * 3 + 1, none⟩ (.int .u64 (IntKind.u64.wrap (g + 1)))).setCell ⟨lb, k * 3 + 2, none⟩ (.bool false) = W at *
  clear Lp Le Lx hA hx k1 K1
  have Lp := HA.cs
  have Lx := loc2 HX
  have hsz := K2.size
  replace HA := hid HA
  replace HX := hid HX
  replace K2 := hid K2
  go_wp2_with fail
  refine wp_region_two 5 8 (fun W' => W'.cell? ⟨r, 1, none⟩ = some vb ∧ W'.cell? ⟨w.heap.size, 0, none⟩ = some (.int .i64 k)) [(0, .held), (1, .at_), (2, .at_), (3, .at_), (4, .at_), (6, .held), (7, .held), (5, .eff), (8, .eff), (9, .eff), (10, .at_), (11, .at_), (12, .fin)] [(0, .held), (1, .held), (2, .held), (3, .held), (4, .held), (6, .at_), (7, .at_), (8, .eff), (5, .eff), (9, .eff), (10, .at_), (11, .at_), (12, .fin)] ?La1 ?Lb1 (by kernel_rfl) (by kernel_rfl) ?hLa1 ?hLb1 (⟨Lp.2.1, Lx.1⟩) ?hGa1 ?hGb1
  case hLa1 => simp only [pickOps, List.map_cons, List.map_nil, List.getD_cons_zero, List.getD_cons_succ]; rfl
  case hLb1 => simp only [pickOps, List.map_cons, List.map_nil, List.getD_cons_zero, List.getD_cons_succ]; rfl
  ·
    repeat (first | (refine wpG_at (v := ?_) (by rfl) ?_ ?_; rotate_left; (focus (first | (go_simp; with_reducible rfl) | (go_simp; done))); simp only [Act.put, List.setIfInBounds_toArray, List.set_cons_zero, List.set_cons_succ]) | (refine wpG_at_skip (by rfl) ?_; simp only [Act.put, List.setIfInBounds_toArray, List.set_cons_zero, List.set_cons_succ]) | (refine wpG_held_skip (by rfl) ?_; simp only [Act.put, List.setIfInBounds_toArray, List.set_cons_zero, List.set_cons_succ]) | (refine wpG_held (v := ?_) (by rfl) ?_ ?_; rotate_left; (focus (intro w' hSw; (try dsimp only at hSw); go_split_ands; first | (go_simp; with_reducible rfl) | (go_simp; done))); simp only [Act.put, List.setIfInBounds_toArray, List.set_cons_zero, List.set_cons_succ]))
    refine wpG_eff (by rfl) (fun K hK => ?_)
    refine wp_grow_row eI_len (by omega) _ _ 43 3 _ 8 rfl u43 i3 rfl (.slice none 0 0) [] rfl (RowAt.nil _ _ _ _) vb B rfl HA.out.hv (oneI B) (by simp; omega) (by omega) ?_
    intro v1 w2 q1 q2 q3
    rw [List.nil_append] at q1
    have hp2 := grown_get q2 HA.out.hp (by simp [Value.ownBlock])
    have hx2 := grown_get q2 HX.out (by simp [Value.ownBlock])
    have kk2 : Kp NoB W w2 := ((Kp.refl NoB W).drew.drew).trans (kp_grown (F := NoB) q2 (fun b hb => by simp [Value.ownBlock] at hb))
    have Lp2 := loc2 hp2
    have Lx2 := loc2 hx2
    refine hK _ _ ⟨Lp2.2.1, Lx2.1⟩ ?_
    clear hK K
    clear Lp Lx
    replace hp2 := hid hp2
    replace hx2 := hid hx2
    repeat (first | (refine wpG_at (v := ?_) (by rfl) ?_ ?_; rotate_left; (focus (first | (go_simp; with_reducible rfl) | (go_simp; done))); simp only [Act.put, List.setIfInBounds_toArray, List.set_cons_zero, List.set_cons_succ]) | (refine wpG_at_skip (by rfl) ?_; simp only [Act.put, List.setIfInBounds_toArray, List.set_cons_zero, List.set_cons_succ]) | (refine wpG_held_skip (by rfl) ?_; simp only [Act.put, List.setIfInBounds_toArray, List.set_cons_zero, List.set_cons_succ]) | (refine wpG_held (v := ?_) (by rfl) ?_ ?_; rotate_left; (focus (intro w' hSw; (try dsimp only at hSw); go_split_ands; first | (go_simp; with_reducible rfl) | (go_simp; done))); simp only [Act.put, List.setIfInBounds_toArray, List.set_cons_zero, List.set_cons_succ]))
    refine wpG_eff (by rfl) (fun K hK => ?_)
    go_simp
    refine hK _ _ (by refine ⟨?_, ?_⟩ <;> go_simp) ?_
    clear hK K
    repeat (first | (refine wpG_at (v := ?_) (by rfl) ?_ ?_; rotate_left; (focus (first | (go_simp; with_reducible rfl) | (go_simp; done))); simp only [Act.put, List.setIfInBounds_toArray, List.set_cons_zero, List.set_cons_succ]) | (refine wpG_at_skip (by rfl) ?_; simp only [Act.put, List.setIfInBounds_toArray, List.set_cons_zero, List.set_cons_succ]) | (refine wpG_held_skip (by rfl) ?_; simp only [Act.put, List.setIfInBounds_toArray, List.set_cons_zero, List.set_cons_succ]) | (refine wpG_held (v := ?_) (by rfl) ?_ ?_; rotate_left; (focus (intro w' hSw; (try dsimp only at hSw); go_split_ands; first | (go_simp; with_reducible rfl) | (go_simp; done))); simp only [Act.put, List.setIfInBounds_toArray, List.set_cons_zero, List.set_cons_succ]))
    refine wpG_eff (by rfl) (fun K hK => ?_)
    refine wp_grow eI_len (by omega) _ _ 43 3 _ 8 rfl u43 i3 rfl v1 B rfl (q1.alloc _) w2.heap.size 1 [k] rfl #[.int .i64 k] 3 (blk_new' _ _ (by simp)) (by intro a j x ha hj; match a, j, ha with | 0, 0, ha => simp at ha; subst ha; rfl) (by simp [eI, Value.oneCell']) (by simp; omega) (by omega) ?_
    intro v3 w3 r1 r2 r3
    obtain ⟨ov, cv, hv3, _⟩ := r1.form
    subst hv3
    rw [show (B ++ [k]).length = B.length + 1 from by simp] at r1 r3
    have nr : v1.ownBlock ≠ some r := q1.ne hp2.out (by decide)
    have nx : v1.ownBlock ≠ some w.heap.size := q1.ne hx2.out (by decide)
    have hp3 := grown_get r2 (blk_alloc (o' := .cells #[.int .i64 k] 3) hp2.out) nr
    have hx3 := grown_get r2 (blk_alloc (o' := .cells #[.int .i64 k] 3) hx2.out) nx
    have Lp3 := loc2 hp3
    have Lx3 := loc2 hx3
    refine hK _ _ ⟨Lp3.2.1, Lx3.1⟩ ?_
    clear hK K
    clear Lp2 Lx2
    repeat (first | (refine wpG_at (v := ?_) (by rfl) ?_ ?_; rotate_left; (focus (first | (go_simp; with_reducible rfl) | (go_simp; done))); simp only [Act.put, List.setIfInBounds_toArray, List.set_cons_zero, List.set_cons_succ]) | (refine wpG_at_skip (by rfl) ?_; simp only [Act.put, List.setIfInBounds_toArray, List.set_cons_zero, List.set_cons_succ]) | (refine wpG_held_skip (by rfl) ?_; simp only [Act.put, List.setIfInBounds_toArray, List.set_cons_zero, List.set_cons_succ]) | (refine wpG_held (v := ?_) (by rfl) ?_ ?_; rotate_left; (focus (intro w' hSw; (try dsimp only at hSw); go_split_ands; first | (go_simp; with_reducible rfl) | (go_simp; done))); simp only [Act.put, List.setIfInBounds_toArray, List.set_cons_zero, List.set_cons_succ]))
    refine wpG_fin (by rfl) (fun K hK => ?_)
    go_simp
    refine hK _ _ ?_
    clear hK K
    repeat (first | (refine wpG_at (v := ?_) (by rfl) ?_ ?_; rotate_left; (focus (first | (go_simp; with_reducible rfl) | (go_simp; done))); simp only [Act.put, List.setIfInBounds_toArray, List.set_cons_zero, List.set_cons_succ]) | (refine wpG_at_skip (by rfl) ?_; simp only [Act.put, List.setIfInBounds_toArray, List.set_cons_zero, List.set_cons_succ]) | (refine wpG_held_skip (by rfl) ?_; simp only [Act.put, List.setIfInBounds_toArray, List.set_cons_zero, List.set_cons_succ]) | (refine wpG_held (v := ?_) (by rfl) ?_ ?_; rotate_left; (focus (intro w' hSw; (try dsimp only at hSw); go_split_ands; first | (go_simp; with_reducible rfl) | (go_simp; done))); simp only [Act.put, List.setIfInBounds_toArray, List.set_cons_zero, List.set_cons_succ]))
    refine wpG_nil (NoPanic.normal ?_)
    go_wp2_with fail
    go_ret
    have vn : ∀ b, v1.ownBlock = some b → W.heap.size ≤ b := by
      intro b hb
      rcases q3 with q | ⟨b', q, hb'⟩
      · rw [q] at hb; simp [Value.ownBlock] at hb
      · rw [q] at hb; injection hb with hb; subst hb; exact hb'
    have W3 : WAt w3 r lb c vb (S.set k (0, IntKind.u64.wrap (g + 1), false)) B := by
      refine ((HA.out.kn kk2).alloc (.cells #[.int .i64 k] 3)).kp (kp_grown (F := fun b => v1.ownBlock = some b) r2 (fun b hb => hb)) nr ?_ ?_
      · obtain ⟨A, hl, _⟩ := ((HA.out.kn kk2).alloc (.cells #[.int .i64 k] 3)).hl
        exact (q1.alloc (.cells #[.int .i64 k] 3)).ne hl (by decide)
      · intro b hb hb'
        have e1 := vn b hb'
        have e2 := HA.out.hv.lt b hb
        omega
    refine ⟨rfl, _, W3.back r1 (r1.ne hp3 (by decide)), ?_, ?_⟩
    · intro b hb
      rcases r3 with q | ⟨b', q, hb'⟩
      · have := vn b (q.symm.trans hb); omega
      · rw [hb] at q; injection q with q; subst q
        have := (kk2.alloc (.cells #[.int .i64 k] 3)).size
        omega
    · have kk3 := (kk2.alloc (.cells #[.int .i64 k] 3)).trans' (F := NoB) (kp_grown (F := fun b => v1.ownBlock = some b) r2 (fun b hb => hb)) (fun b hb hb' => absurd (vn b hb') (by omega))
      exact (K2.out.trans (kk3.mono (fun _ h => h.elim))).setCell _ (fun _ => .inl rfl)
  ·
    repeat (first | (refine wpG_at (v := ?_) (by rfl) ?_ ?_; rotate_left; (focus (first | (go_simp; with_reducible rfl) | (go_simp; done))); simp only [Act.put, List.setIfInBounds_toArray, List.set_cons_zero, List.set_cons_succ]) | (refine wpG_at_skip (by rfl) ?_; simp only [Act.put, List.setIfInBounds_toArray, List.set_cons_zero, List.set_cons_succ]) | (refine wpG_held_skip (by rfl) ?_; simp only [Act.put, List.setIfInBounds_toArray, List.set_cons_zero, List.set_cons_succ]) | (refine wpG_held (v := ?_) (by rfl) ?_ ?_; rotate_left; (focus (intro w' hSw; (try dsimp only at hSw); go_split_ands; first | (go_simp; with_reducible rfl) | (go_simp; done))); simp only [Act.put, List.setIfInBounds_toArray, List.set_cons_zero, List.set_cons_succ]))
    refine wpG_eff (by rfl) (fun K hK => ?_)
    go_simp
    refine hK _ _ (by refine ⟨?_, ?_⟩ <;> go_simp) ?_
    clear hK K
    repeat (first | (refine wpG_at (v := ?_) (by rfl) ?_ ?_; rotate_left; (focus (first | (go_simp; with_reducible rfl) | (go_simp; done))); simp only [Act.put, List.setIfInBounds_toArray, List.set_cons_zero, List.set_cons_succ]) | (refine wpG_at_skip (by rfl) ?_; simp only [Act.put, List.setIfInBounds_toArray, List.set_cons_zero, List.set_cons_succ]) | (refine wpG_held_skip (by rfl) ?_; simp only [Act.put, List.setIfInBounds_toArray, List.set_cons_zero, List.set_cons_succ]) | (refine wpG_held (v := ?_) (by rfl) ?_ ?_; rotate_left; (focus (intro w' hSw; (try dsimp only at hSw); go_split_ands; first | (go_simp; with_reducible rfl) | (go_simp; done))); simp only [Act.put, List.setIfInBounds_toArray, List.set_cons_zero, List.set_cons_succ]))
    refine wpG_eff (by rfl) (fun K hK => ?_)
    refine wp_grow_row eI_len (by omega) _ _ 43 3 _ 8 rfl u43 i3 rfl (.slice none 0 0) [] rfl (RowAt.nil _ _ _ _) vb B rfl (HA.out.hv.alloc _) (oneI B) (by simp; omega) (by omega) ?_
    intro v1 w2 q1 q2 q3
    rw [List.nil_append] at q1
    have hp2 := grown_get q2 (blk_alloc (o' := .cells #[.int .i64 k] 3) HA.out.hp) (by simp [Value.ownBlock])
    have hx2 := grown_get q2 (blk_alloc (o' := .cells #[.int .i64 k] 3) HX.out) (by simp [Value.ownBlock])
    have hn2 := grown_get q2 (blk_new W (.cells #[.int .i64 k] 3)) (by simp [Value.ownBlock])
    have kk2 : Kp NoB W w2 := ((Kp.refl NoB W).drew.drew.alloc (.cells #[.int .i64 k] 3)).trans (kp_grown (F := NoB) q2 (fun b hb => by simp [Value.ownBlock] at hb))
    have Lp2 := loc2 hp2
    have Lx2 := loc2 hx2
    refine hK _ _ ⟨Lp2.2.1, Lx2.1⟩ ?_
    clear hK K
    clear Lp Lx
    replace hp2 := hid hp2
    replace hx2 := hid hx2
    replace hn2 := hid hn2
    repeat (first | (refine wpG_at (v := ?_) (by rfl) ?_ ?_; rotate_left; (focus (first | (go_simp; with_reducible rfl) | (go_simp; done))); simp only [Act.put, List.setIfInBounds_toArray, List.set_cons_zero, List.set_cons_succ]) | (refine wpG_at_skip (by rfl) ?_; simp only [Act.put, List.setIfInBounds_toArray, List.set_cons_zero, List.set_cons_succ]) | (refine wpG_held_skip (by rfl) ?_; simp only [Act.put, List.setIfInBounds_toArray, List.set_cons_zero, List.set_cons_succ]) | (refine wpG_held (v := ?_) (by rfl) ?_ ?_; rotate_left; (focus (intro w' hSw; (try dsimp only at hSw); go_split_ands; first | (go_simp; with_reducible rfl) | (go_simp; done))); simp only [Act.put, List.setIfInBounds_toArray, List.set_cons_zero, List.set_cons_succ]))
    refine wpG_eff (by rfl) (fun K hK => ?_)
    refine wp_grow eI_len (by omega) _ _ 43 3 _ 8 rfl u43 i3 rfl v1 B rfl q1 W.heap.size 1 [k] rfl #[.int .i64 k] 3 hn2.out (by intro a j x ha hj; match a, j, ha with | 0, 0, ha => simp at ha; subst ha; rfl) (by simp [eI, Value.oneCell']) (by simp; omega) (by omega) ?_
    intro v3 w3 r1 r2 r3
    obtain ⟨ov, cv, hv3, _⟩ := r1.form
    subst hv3
    rw [show (B ++ [k]).length = B.length + 1 from by simp] at r1 r3
    have nr : v1.ownBlock ≠ some r := q1.ne hp2.out (by decide)
    have nx : v1.ownBlock ≠ some w.heap.size := q1.ne hx2.out (by decide)
    have hp3 := grown_get r2 hp2.out nr
    have hx3 := grown_get r2 hx2.out nx
    have Lp3 := loc2 hp3
    have Lx3 := loc2 hx3
    refine hK _ _ ⟨Lp3.2.1, Lx3.1⟩ ?_
    clear hK K
    clear Lp2 Lx2
    repeat (first | (refine wpG_at (v := ?_) (by rfl) ?_ ?_; rotate_left; (focus (first | (go_simp; with_reducible rfl) | (go_simp; done))); simp only [Act.put, List.setIfInBounds_toArray, List.set_cons_zero, List.set_cons_succ]) | (refine wpG_at_skip (by rfl) ?_; simp only [Act.put, List.setIfInBounds_toArray, List.set_cons_zero, List.set_cons_succ]) | (refine wpG_held_skip (by rfl) ?_; simp only [Act.put, List.setIfInBounds_toArray, List.set_cons_zero, List.set_cons_succ]) | (refine wpG_held (v := ?_) (by rfl) ?_ ?_; rotate_left; (focus (intro w' hSw; (try dsimp only at hSw); go_split_ands; first | (go_simp; with_reducible rfl) | (go_simp; done))); simp only [Act.put, List.setIfInBounds_toArray, List.set_cons_zero, List.set_cons_succ]))
    refine wpG_fin (by rfl) (fun K hK => ?_)
    go_simp
    refine hK _ _ ?_
    clear hK K
    repeat (first | (refine wpG_at (v := ?_) (by rfl) ?_ ?_; rotate_left; (focus (first | (go_simp; with_reducible rfl) | (go_simp; done))); simp only [Act.put, List.setIfInBounds_toArray, List.set_cons_zero, List.set_cons_succ]) | (refine wpG_at_skip (by rfl) ?_; simp only [Act.put, List.setIfInBounds_toArray, List.set_cons_zero, List.set_cons_succ]) | (refine wpG_held_skip (by rfl) ?_; simp only [Act.put, List.setIfInBounds_toArray, List.set_cons_zero, List.set_cons_succ]) | (refine wpG_held (v := ?_) (by rfl) ?_ ?_; rotate_left; (focus (intro w' hSw; (try dsimp only at hSw); go_split_ands; first | (go_simp; with_reducible rfl) | (go_simp; done))); simp only [Act.put, List.setIfInBounds_toArray, List.set_cons_zero, List.set_cons_succ]))
    refine wpG_nil (NoPanic.normal ?_)
    go_wp2_with fail
    go_ret
    have vn : ∀ b, v1.ownBlock = some b → W.heap.size ≤ b := by
      intro b hb
      rcases q3 with q | ⟨b', q, hb'⟩
      · rw [q] at hb; simp [Value.ownBlock] at hb
      · rw [q] at hb; injection hb with hb; subst hb; simp at hb'; omega
    have W3 : WAt w3 r lb c vb (S.set k (0, IntKind.u64.wrap (g + 1), false)) B := by
      refine (HA.out.kn kk2).kp (kp_grown (F := fun b => v1.ownBlock = some b) r2 (fun b hb => hb)) nr ?_ ?_
      · obtain ⟨A, hl, _⟩ := (HA.out.kn kk2).hl
        exact (q1).ne hl (by decide)
      · intro b hb hb'
        have e1 := vn b hb'
        have e2 := HA.out.hv.lt b hb
        omega
    refine ⟨rfl, _, W3.back r1 (r1.ne hp3 (by decide)), ?_, ?_⟩
    · intro b hb
      rcases r3 with q | ⟨b', q, hb'⟩
      · have := vn b (q.symm.trans hb); omega
      · rw [hb] at q; injection q with q; subst q
        have := (kk2).size
        omega
    · have kk3 := (kk2).trans' (F := NoB) (kp_grown (F := fun b => v1.ownBlock = some b) r2 (fun b hb => hb)) (fun b hb hb' => absurd (vn b hb') (by omega))
      exact (K2.out.trans (kk3.mono (fun _ h => h.elim))).setCell _ (fun _ => .inl rfl)
end
end Go.Proofs.Ytldkogdkadgnkaa
