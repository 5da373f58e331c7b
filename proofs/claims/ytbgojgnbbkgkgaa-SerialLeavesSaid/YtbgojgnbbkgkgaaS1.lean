/- Walks through a table of serials: what each function returns and leaves. -/
import Derived.Test.YtbgojgnbbkgkgaaProg
import Derived.Test.YtbgojgnbbkgkgaaLibB
import Derived.Test.YtbgojgnbbkgkgaaLibN
import Derived.Deep.QuietTactic
import Derived.BigQuiet
import Derived.StillTailTactics
import Derived.Deep.RegionHeld3
import Derived.Deep.DrawnRows
namespace Go.Proofs.Ytbgojgnbbkgkgaa
set_option linter.unusedSimpArgs false
set_option linter.unusedVariables false
open Go.RowKit
attribute [local go_sem ↓] Go.wp_at_zero Go.wp_at_succ

def hV (i g : Int) : Value := .agg #[.int .i64 i, .int .u64 g]
/-- a table: the struct at p, the map at m, of so much room -/
structure TAt (w : World) (p m : Nat) (M : List (Int × Value)) (room : Nat) : Prop where
  hp : w.heap[p]? = some (.cells #[.map (some m), .int .i64 room] 66 (0, 0))
  hm : MapAt .i64 w m M
structure TOk (M : List (Int × Value)) (room : Nat) : Prop where
  k : MOk .i64 M
  n1 : 1 ≤ room
  n2 : room ≤ 64
  le : M.length ≤ room
  el : ∀ x ∈ M, ∃ i g, x.2 = hV i g
section
variable {w w' : World} {p m room : Nat} {M : List (Int × Value)}
theorem TAt.kp {F : Nat → Prop} (h : TAt w p m M room) (k : Kp F w w') (hp : ¬ F p) (hm : ¬ F m) : TAt w' p m M room := ⟨k.get h.hp hp, h.hm.kp k hm⟩
theorem TAt.alloc (h : TAt w p m M room) (o : Obj) : TAt (w.alloc o) p m M room := ⟨blk_alloc h.hp, h.hm.alloc o⟩
theorem TAt.drew (h : TAt w p m M room) : TAt w.drew p m M room := ⟨h.hp, h.hm.drew⟩
theorem TAt.lt (h : TAt w p m M room) : p < w.heap.size ∧ m < w.heap.size := ⟨blk_lt h.hp, h.hm.lt⟩
theorem TAt.ne (h : TAt w p m M room) : p ≠ m := by
  rintro rfl
  obtain ⟨es, c, hb, _⟩ := h.hm
  rw [h.hp] at hb; simp at hb

theorem may_any (s : Int) (w : World) : Calls Try.prog 12 #[.int .i64 s] w fun e w' => e = .returned (.bool (decide (1 ≤ s) && decide (s ≤ 1073741824))) ∧ w = w' := by
  by_cases h1 : 1 ≤ s
  · go_enter Try.func12, Try.ntmps12
    go_wp2
    go_ret
    exact ⟨by simp [h1], rfl⟩
  · have h2 : decide (1 ≤ s) = false := by simpa using h1
    rw [h2]
    go_enter Try.func12, Try.ntmps12
    go_wp2
    go_ret
    exact ⟨rfl, rfl⟩
theorem none_any (h : TAt w p m M room) (n1 : 1 ≤ room) : Calls Try.prog 26 #[.pointer (some ⟨p, 0, none⟩)] w fun e w' => e = .returned (.bool false) ∧ w = w' := by
  have Lp := loc2 h.hp
  have e : ((room : Int) == 0) = false := by simp; omega
  clear h
  go_enter Try.func26, Try.ntmps26
  go_wp2
  go_ret
  exact ⟨by first | rfl | (rw [← e]; rfl), rfl⟩
theorem k22 : Try.prog.underlying 22 = some (.int .i64) := by kernel_rfl
theorem k64 : Try.prog.underlying 64 = some (.map 22 25) := by kernel_rfl
theorem zero25 (w : World) : (zeroValue 25).run Try.prog w = .ok (hV 0 0) w := by kernel_rfl
theorem new_any (n : Nat) (n1 : 1 ≤ n) (n2 : n ≤ 64) (w : World) : Calls Try.prog 9 #[.int .i64 n] w fun e w' => e = .returned (.tuple #[.pointer (some ⟨w.heap.size + 1, 0, none⟩), .int .i64 0]) ∧ TAt w' (w.heap.size + 1) w.heap.size [] n ∧ Kp NoB w w' := by
  have n2' : (n : Int) ≤ 64 := by omega
  have hmk := fun w => run_makeMap (P := Try.prog) 64 w
  go_enter Try.func9, Try.ntmps9
  go_wp2_with fail
  go_ret2
  refine ⟨rfl, ⟨blk_new' _ _ (by simp), (MapAt.new _ _).alloc _⟩, ((Kp.refl _ w).alloc _).alloc _⟩
theorem get_any (h : TAt w p m M room) (o : TOk M room) (s : Int) (hs : (Lit.int .i64 s).wf = true) : Calls Try.prog 11 #[.pointer (some ⟨p, 0, none⟩), .int .i64 s] w fun e w' =>
    e = .returned (.tuple #[(mget M s).getD (hV 0 0), .bool (mget M s).isSome]) ∧ Kp NoB w w' := by
  have hg : ∃ i g, (mget M s).getD (hV 0 0) = hV i g := by
    rcases hm : mget M s with _ | v
    · exact ⟨0, 0, rfl⟩
    · obtain ⟨i, g, hv⟩ := o.el _ (mget_mem hm); exact ⟨i, g, hv⟩
  obtain ⟨i, g, hg⟩ := hg
  have hl := (h.alloc (.cells #[.int .i64 0, .int .u64 0] 25)).hm.look o.k k22 k64 (zero25 _) s hs true
  rw [hg] at hl ⊢
  have HN := hid (none_any (h.alloc (.cells #[.int .i64 0, .int .u64 0] 25)) o.n1)
  have Lp := loc2 h.hp
  have up := ups Lp.2.2.2.2
  generalize (mget M s).isSome = b at *
  clear h hg
  unfold hV at *
  simp only [if_true] at hl
  go_enter Try.func11, Try.ntmps11
  go_wp2_with fail
  refine HN.out.mono ?_
  rintro e w' ⟨rfl, rfl⟩
  go_wp2_with fail
  refine bodyPost_ret (v := .tuple #[.agg #[.int .i64 i, .int .u64 g], .bool b]) (by simp [results, Try.results11, go_sem]) rfl ⟨rfl, ?_⟩
  repeat (first | exact Kp.refl _ w | refine Kp.alloc ?_ _)
theorem one_any (n : Int) (w : World) : Calls Try.prog 15 #[.int .i64 n] w fun e w' => e = .returned (hV n 1) ∧ Kp NoB w w' := by
  unfold hV
  go_enter Try.func15, Try.ntmps15
  go_wp2_with fail
  refine bodyPost_ret (v := .agg #[.int .i64 n, .int .u64 1]) (by simp [results, Try.results15, go_sem]) rfl ⟨rfl, ?_⟩
  repeat (first | exact Kp.refl _ w | refine Kp.alloc ?_ _)

/-- put -/
def putE (M : List (Int × Value)) (room : Nat) (s g : Int) : Int :=
  if ¬ (1 ≤ s ∧ s ≤ 1073741824) ∨ g = 0 then 2 else if (mget M s).isSome then 15 else if M.length ≥ room then 3 else 0
def putM (M : List (Int × Value)) (room : Nat) (s i g : Int) : List (Int × Value) := if putE M room s g = 0 then mput M s (hV i g) else M
theorem TOk.put (o : TOk M room) (s i g : Int) (hs : (Lit.int .i64 s).wf = true) : TOk (putM M room s i g) room := by
  unfold putM
  split
  · rename_i h
    refine ⟨o.k.put hs _, o.n1, o.n2, ?_, ?_⟩
    · rw [mput_len]
      have := o.le
      unfold putE at h
      split
      · exact this
      · repeat' split at h
        all_goals omega
    · intro x hx
      unfold mput at hx
      split at hx
      · obtain ⟨y, hy, rfl⟩ := List.mem_map.1 hx
        split
        · exact ⟨i, g, rfl⟩
        · exact o.el y hy
      · rcases List.mem_append.1 hx with h | h
        · exact o.el x h
        · simp at h; subst h; exact ⟨i, g, rfl⟩
  · exact o
set_option maxRecDepth 100000 in
set_option maxHeartbeats 4000000 in
theorem put_any (h : TAt w p m M room) (o : TOk M room) (s i g : Int) (hs : (Lit.int .i64 s).wf = true) : Calls Try.prog 10 #[.pointer (some ⟨p, 0, none⟩), .int .i64 s, hV i g] w fun e w' =>
    e = .returned (.int .i64 (putE M room s g)) ∧ TAt w' p m (putM M room s i g) room ∧ Kp (· = m) w w' := by
  have HG := hid (fun (w1 : World) (h1 : TAt w1 p m M room) => get_any h1 o s hs)
  have HN := hid (fun (w1 : World) (h1 : TAt w1 p m M room) => none_any h1 o.n1)
  have HM := hid (may_any s)
  have H0 := hid (h.alloc (.cells #[.int .i64 i, .int .u64 g] 25))
  have N0 := hid (blk_new w (.cells #[.int .i64 i, .int .u64 g] 25))
  obtain ⟨j, k, hg⟩ : ∃ j k, (mget M s).getD (hV 0 0) = hV j k := by
    rcases hm : mget M s with _ | v
    · exact ⟨0, 0, rfl⟩
    · obtain ⟨i, g, hv⟩ := o.el _ (mget_mem hm); exact ⟨i, g, hv⟩
  replace hg := hid hg
  have hlen := hid (fun (w1 : World) (h1 : TAt w1 p m M room) => h1.hm.len k64 3 (by have := o.le; have := o.n2; omega))
  have n2 := o.n2
  have le := o.le
  have n1 := o.n1
  have ow := hid (o.put s i g hs)
  have hlt := h.lt
  unfold hV at *
  by_cases c1 : 1 ≤ s ∧ s ≤ 1073741824
  · have hmay := hid (show (decide (1 ≤ s) && decide (s ≤ 1073741824)) = true from by simpa using c1)
    by_cases c2 : g = 0
    · have hE := hid (show putE M room s g = 2 from by unfold putE; rw [if_pos (.inr c2)])
      have hP := hid (show putM M room s i g = M from by unfold putM; rw [hE.out, if_neg (by omega)])
      obtain ⟨bb, hb⟩ : ∃ bb, (mget M s).isSome = bb := ⟨_, rfl⟩
      replace hb := hid hb
      subst c2
      go_enter Try.func10, Try.ntmps10
      go_wp2_with fail
      refine (HG.out _ H0.out).mono ?_
      rintro e w1 ⟨rfl, k1⟩
      have T1 := H0.out.kp k1 (fun h => h) (fun h => h)
      have K1 : Kp (· = m) w w1 := ((Kp.refl _ w).alloc _).trans (k1.mono (fun _ h => h.elim))
      have T2 := hid (T1.alloc (.cells #[.int .i64 j, .int .u64 k] 25))
      have N1 := hid (k1.get N0.out (fun h => h))
      have Ln := loc2 (blk_alloc (o' := .cells #[.int .i64 j, .int .u64 k] 25) N1.out)
      have Lp := loc2 T1.hp
      have up := ups Lp.2.2.2.2
      have un := ups (loc2 N1.out).2.2.2.2
      rw [hg.out, hb.out]
      go_wp2_with fail
      refine (HN.out _ T2.out).mono ?_
      rintro e w' ⟨rfl, rfl⟩
      go_wp2_with fail
      refine (HM.out _).mono ?_
      rintro e w' ⟨rfl, rfl⟩
      rw [hmay.out]
      go_wp2_with fail
      go_ret
      exact ⟨by rw [hE.out]; rfl, by rw [hP.out]; exact T2.out, K1.alloc _⟩
    · have c2' : (g == 0) = false := by simpa using c2
      by_cases c3 : (mget M s).isSome = true
      · have hb := hid c3
        have hE := hid (show putE M room s g = 15 from by unfold putE; rw [if_neg (fun h => h.elim (fun h => h c1) c2), if_pos c3])
        have hP := hid (show putM M room s i g = M from by unfold putM; rw [hE.out, if_neg (by omega)])
        clear c3
        go_enter Try.func10, Try.ntmps10
        go_wp2_with fail
        refine (HG.out _ H0.out).mono ?_
        rintro e w1 ⟨rfl, k1⟩
        have T1 := H0.out.kp k1 (fun h => h) (fun h => h)
        have K1 : Kp (· = m) w w1 := ((Kp.refl _ w).alloc _).trans (k1.mono (fun _ h => h.elim))
        have T2 := hid (T1.alloc (.cells #[.int .i64 j, .int .u64 k] 25))
        have N1 := hid (k1.get N0.out (fun h => h))
        have Ln := loc2 (blk_alloc (o' := .cells #[.int .i64 j, .int .u64 k] 25) N1.out)
        have Lp := loc2 T1.hp
        have up := ups Lp.2.2.2.2
        have un := ups (loc2 N1.out).2.2.2.2
        rw [hg.out, hb.out]
        go_wp2_with fail
        refine (HN.out _ T2.out).mono ?_
        rintro e w' ⟨rfl, rfl⟩
        go_wp2_with fail
        refine (HM.out _).mono ?_
        rintro e w' ⟨rfl, rfl⟩
        rw [hmay.out]
        go_wp2_with fail
        go_ret
        exact ⟨by rw [hE.out]; rfl, by rw [hP.out]; exact T2.out, K1.alloc _⟩
      · have hb := hid (show (mget M s).isSome = false from by simpa using c3)
        by_cases c4 : M.length ≥ room
        · have hE := hid (show putE M room s g = 3 from by unfold putE; rw [if_neg (fun h => h.elim (fun h => h c1) c2), if_neg c3, if_pos c4])
          have hP := hid (show putM M room s i g = M from by unfold putM; rw [hE.out, if_neg (by omega)])
          have c4' : (room : Int) ≤ (M.length : Int) := by omega
          clear c3
          go_enter Try.func10, Try.ntmps10
          go_wp2_with fail
          refine (HG.out _ H0.out).mono ?_
          rintro e w1 ⟨rfl, k1⟩
          have T1 := H0.out.kp k1 (fun h => h) (fun h => h)
          have K1 : Kp (· = m) w w1 := ((Kp.refl _ w).alloc _).trans (k1.mono (fun _ h => h.elim))
          have T2 := hid (T1.alloc (.cells #[.int .i64 j, .int .u64 k] 25))
          have N1 := hid (k1.get N0.out (fun h => h))
          have Ln := loc2 (blk_alloc (o' := .cells #[.int .i64 j, .int .u64 k] 25) N1.out)
          have Lp := loc2 T1.hp
          have up := ups Lp.2.2.2.2
          have un := ups (loc2 N1.out).2.2.2.2
          rw [hg.out, hb.out]
          go_wp2_with fail
          refine (HN.out _ T2.out).mono ?_
          rintro e w' ⟨rfl, rfl⟩
          go_wp2_with fail
          refine (HM.out _).mono ?_
          rintro e w' ⟨rfl, rfl⟩
          rw [hmay.out]
          go_wp2_with fail
          have hl := hlen.out _ T2.out.drew
          refine wp_region_G (fun _ => True) [(0, .at_), (1, .at_), (2, .at_), (3, .at_), (4, .at_), (5, .at_), (6, .at_), (7, .at_), (8, .at_), (9, .at_), (10, .at_)] ?L1 (by kernel_rfl) (by kernel_rfl) ?hL1 (trivial) ?hG1
          case hL1 => simp only [pickOps, List.map_cons, List.map_nil, List.getD_cons_zero, List.getD_cons_succ]; rfl
          repeat (first | (refine wpG_at (v := ?_) (by rfl) ?_ ?_; rotate_left; (focus (first | (go_simp; with_reducible rfl) | (go_simp; done))); simp only [Act.put, List.setIfInBounds_toArray, List.set_cons_zero, List.set_cons_succ]) | (refine wpG_at_skip (by rfl) ?_; simp only [Act.put, List.setIfInBounds_toArray, List.set_cons_zero, List.set_cons_succ]) | (refine wpG_held_skip (by rfl) ?_; simp only [Act.put, List.setIfInBounds_toArray, List.set_cons_zero, List.set_cons_succ]) | (refine wpG_held (v := ?_) (by rfl) ?_ ?_; rotate_left; (focus (intro w' hSw; (try dsimp only at hSw); go_split_ands; first | (go_simp; with_reducible rfl) | (go_simp; done))); simp only [Act.put, List.setIfInBounds_toArray, List.set_cons_zero, List.set_cons_succ]))
          refine wpG_nil (NoPanic.normal ?_)
          go_wp2_with fail
          go_ret
          exact ⟨by rw [hE.out]; rfl, by rw [hP.out]; exact T2.out.drew, (K1.alloc _).drew⟩
        · have hE := hid (show putE M room s g = 0 from by unfold putE; rw [if_neg (fun h => h.elim (fun h => h c1) c2), if_neg c3, if_neg c4])
          have hP := hid (show putM M room s i g = mput M s (.agg #[.int .i64 i, .int .u64 g]) from by unfold putM; rw [hE.out, if_pos rfl]; rfl)
          have c4' : ¬ (room : Int) ≤ (M.length : Int) := by omega
          clear c3
          go_enter Try.func10, Try.ntmps10
          go_wp2_with fail
          refine (HG.out _ H0.out).mono ?_
          rintro e w1 ⟨rfl, k1⟩
          have T1 := H0.out.kp k1 (fun h => h) (fun h => h)
          have K1 : Kp (· = m) w w1 := ((Kp.refl _ w).alloc _).trans (k1.mono (fun _ h => h.elim))
          have T2 := hid (T1.alloc (.cells #[.int .i64 j, .int .u64 k] 25))
          have N1 := hid (k1.get N0.out (fun h => h))
          have Ln := loc2 (blk_alloc (o' := .cells #[.int .i64 j, .int .u64 k] 25) N1.out)
          have Lp := loc2 T1.hp
          have up := ups Lp.2.2.2.2
          have un := ups (loc2 N1.out).2.2.2.2
          rw [hg.out, hb.out]
          go_wp2_with fail
          refine (HN.out _ T2.out).mono ?_
          rintro e w' ⟨rfl, rfl⟩
          go_wp2_with fail
          refine (HM.out _).mono ?_
          rintro e w' ⟨rfl, rfl⟩
          rw [hmay.out]
          go_wp2_with fail
          have hl := hlen.out _ T2.out.drew
          refine wp_region_G (fun _ => True) [(0, .at_), (1, .at_), (2, .at_), (3, .at_), (4, .at_), (5, .at_), (6, .at_), (7, .at_), (8, .at_), (9, .at_), (10, .at_)] ?L2 (by kernel_rfl) (by kernel_rfl) ?hL2 (trivial) ?hG2
          case hL2 => simp only [pickOps, List.map_cons, List.map_nil, List.getD_cons_zero, List.getD_cons_succ]; rfl
          repeat (first | (refine wpG_at (v := ?_) (by rfl) ?_ ?_; rotate_left; (focus (first | (go_simp; with_reducible rfl) | (go_simp; done))); simp only [Act.put, List.setIfInBounds_toArray, List.set_cons_zero, List.set_cons_succ]) | (refine wpG_at_skip (by rfl) ?_; simp only [Act.put, List.setIfInBounds_toArray, List.set_cons_zero, List.set_cons_succ]) | (refine wpG_held_skip (by rfl) ?_; simp only [Act.put, List.setIfInBounds_toArray, List.set_cons_zero, List.set_cons_succ]) | (refine wpG_held (v := ?_) (by rfl) ?_ ?_; rotate_left; (focus (intro w' hSw; (try dsimp only at hSw); go_split_ands; first | (go_simp; with_reducible rfl) | (go_simp; done))); simp only [Act.put, List.setIfInBounds_toArray, List.set_cons_zero, List.set_cons_succ]))
          refine wpG_nil (NoPanic.normal ?_)
          go_wp2_with fail
          refine wp_region_G (fun _ => True) [(0, .at_), (1, .at_), (2, .at_), (3, .at_), (4, .at_), (5, .at_), (6, .eff)] ?L3 (by kernel_rfl) (by kernel_rfl) ?hL3 (trivial) ?hG3
          case hL3 => simp only [pickOps, List.map_cons, List.map_nil, List.getD_cons_zero, List.getD_cons_succ]; rfl
          repeat (first | (refine wpG_at (v := ?_) (by rfl) ?_ ?_; rotate_left; (focus (first | (go_simp; with_reducible rfl) | (go_simp; done))); simp only [Act.put, List.setIfInBounds_toArray, List.set_cons_zero, List.set_cons_succ]) | (refine wpG_at_skip (by rfl) ?_; simp only [Act.put, List.setIfInBounds_toArray, List.set_cons_zero, List.set_cons_succ]) | (refine wpG_held_skip (by rfl) ?_; simp only [Act.put, List.setIfInBounds_toArray, List.set_cons_zero, List.set_cons_succ]) | (refine wpG_held (v := ?_) (by rfl) ?_ ?_; rotate_left; (focus (intro w' hSw; (try dsimp only at hSw); go_split_ands; first | (go_simp; with_reducible rfl) | (go_simp; done))); simp only [Act.put, List.setIfInBounds_toArray, List.set_cons_zero, List.set_cons_succ]))
          refine wpG_eff (by rfl) (fun K hK => ?_)
          refine wp_map_upd _ _ _ rfl k22 k64 rfl s rfl _ rfl T2.out.drew.drew.hm o.k hs ?_
          intro w5 h5 k5
          refine hK _ _ trivial ?_
          clear hK K
          repeat (first | (refine wpG_at (v := ?_) (by rfl) ?_ ?_; rotate_left; (focus (first | (go_simp; with_reducible rfl) | (go_simp; done))); simp only [Act.put, List.setIfInBounds_toArray, List.set_cons_zero, List.set_cons_succ]) | (refine wpG_at_skip (by rfl) ?_; simp only [Act.put, List.setIfInBounds_toArray, List.set_cons_zero, List.set_cons_succ]) | (refine wpG_held_skip (by rfl) ?_; simp only [Act.put, List.setIfInBounds_toArray, List.set_cons_zero, List.set_cons_succ]) | (refine wpG_held (v := ?_) (by rfl) ?_ ?_; rotate_left; (focus (intro w' hSw; (try dsimp only at hSw); go_split_ands; first | (go_simp; with_reducible rfl) | (go_simp; done))); simp only [Act.put, List.setIfInBounds_toArray, List.set_cons_zero, List.set_cons_succ]))
          refine wpG_nil (NoPanic.normal ?_)
          go_wp2_with fail
          go_ret
          have hne := h.ne
          refine ⟨by rw [hE.out]; rfl, ?_, ((K1.alloc _).drew.drew).trans k5⟩
          rw [hP.out]
          exact ⟨k5.get T2.out.drew.drew.hp hne, h5⟩
  · have hmay := hid (show (decide (1 ≤ s) && decide (s ≤ 1073741824)) = false from by simp; omega)
    have hE := hid (show putE M room s g = 2 from by unfold putE; rw [if_pos (.inl c1)])
    have hP := hid (show putM M room s i g = M from by unfold putM; rw [hE.out, if_neg (by omega)])
    obtain ⟨bb, hb⟩ : ∃ bb, (mget M s).isSome = bb := ⟨_, rfl⟩
    replace hb := hid hb
    go_enter Try.func10, Try.ntmps10
    go_wp2_with fail
    refine (HG.out _ H0.out).mono ?_
    rintro e w1 ⟨rfl, k1⟩
    have T1 := H0.out.kp k1 (fun h => h) (fun h => h)
    have K1 : Kp (· = m) w w1 := ((Kp.refl _ w).alloc _).trans (k1.mono (fun _ h => h.elim))
    have T2 := hid (T1.alloc (.cells #[.int .i64 j, .int .u64 k] 25))
    have N1 := hid (k1.get N0.out (fun h => h))
    have Ln := loc2 (blk_alloc (o' := .cells #[.int .i64 j, .int .u64 k] 25) N1.out)
    have Lp := loc2 T1.hp
    have up := ups Lp.2.2.2.2
    have un := ups (loc2 N1.out).2.2.2.2
    rw [hg.out, hb.out]
    go_wp2_with fail
    refine (HN.out _ T2.out).mono ?_
    rintro e w' ⟨rfl, rfl⟩
    go_wp2_with fail
    refine (HM.out _).mono ?_
    rintro e w' ⟨rfl, rfl⟩
    rw [hmay.out]
    go_wp2_with fail
    go_ret
    exact ⟨by rw [hE.out]; rfl, by rw [hP.out]; exact T2.out, K1.alloc _⟩
end
end Go.Proofs.Ytbgojgnbbkgkgaa
