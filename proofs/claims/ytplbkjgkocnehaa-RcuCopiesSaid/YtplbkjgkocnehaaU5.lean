/- Walks through rcu: New, own, one. -/
import Derived.Test.YtplbkjgkocnehaaU4
import Derived.Lib.AppendZeros
namespace Go.Proofs.Ytplbkjgkocnehaa
set_option linter.unusedSimpArgs false
set_option linter.unusedVariables false
open Go.RowKit
attribute [local go_sem ↓] Go.wp_at_zero Go.wp_at_succ
theorem u43 : Try.prog.underlying 43 = some (.slice 3) := by kernel_rfl
theorem u33 : Try.prog.underlying 33 = some (.slice 59) := by kernel_rfl
theorem i59 : (Try.prog.info? 59).map (fun i => (i.zero, i.size, i.bytes)) = some (some (.agg #[.int .i64 0, .int .u64 0]), 2, 16) := by kernel_rfl
theorem oneH (l : List (Int × Int)) : ∀ u ∈ l.flatMap eH, u.oneCell' = true := by
  intro u hu; simp [eH] at hu; obtain ⟨x, y, _, rfl | rfl⟩ := hu <;> rfl
def New (w : World) (v : Value) : Prop := ∀ b, v.ownBlock = some b → w.heap.size ≤ b
theorem New.nil (w : World) : New w (.slice none 0 0) := by intro b h; cases h
theorem New.mono {w w1 : World} {v : Value} (h : New w1 v) (k : w.heap.size ≤ w1.heap.size) : New w v := fun b hb => Nat.le_trans k (h b hb)
theorem new_out (n : Int) (hn : ¬ (1 ≤ n ∧ n ≤ 8)) (w : World) : Calls Try.prog 12 #[.int .i64 n] w fun e w' => e = .returned (.tuple #[.pointer none, .int .i64 2]) ∧ w = w' := by
  by_cases h1 : n < 1
  · go_enter Try.func12, Try.ntmps12
    go_wp2
    go_ret2
    exact ⟨rfl, rfl⟩
  · have h2 : 8 < n := by omega
    clear hn
    go_enter Try.func12, Try.ntmps12
    go_wp2
    go_ret2
    exact ⟨rfl, rfl⟩
theorem new_any (n : Nat) (n1 : 1 ≤ n) (n2 : n ≤ 8) (w : World) : Calls Try.prog 12 #[.int .i64 n] w fun e w' => ∃ p u, e = .returned (.tuple #[.pointer (some ⟨p, 0, none⟩), .int .i64 0]) ∧
    UAt w' p u (.slice none 0 0) (List.replicate n 0) [] [] ∧ w.heap.size ≤ p ∧ New w u ∧ Kp NoB w w' := by
  have b1 : (1 : Int) ≤ (n : Int) := by omega
  have b2 : (n : Int) ≤ 8 := by omega
  have hmk := fun w => run_make_rows (P := Try.prog) eN_len (by omega) 0 43 3 _ 8 u43 i3 rfl n (by omega) (by omega) w
  have H0 : UAt ((w.alloc (.cells (rows eN (List.replicate n 0)) 3)).alloc (.cells #[.slice (some ⟨w.heap.size, 0, none⟩) n n, .slice none 0 0] 68)) (w.heap.size + 1) (.slice (some ⟨w.heap.size, 0, none⟩) n n) (.slice none 0 0) (List.replicate n 0) [] [] :=
    ⟨blk_new' _ _ (by simp), by have := (RowAt.new eN_len w 3 (List.replicate n 0) (by simp [maxLen]; omega)).alloc (.cells #[.slice (some ⟨w.heap.size, 0, none⟩) n n, .slice none 0 0] 68); rw [List.length_replicate] at this; exact this,
     Off.nil _ _ _ _, rfl, by simp, by simp⟩
  replace H0 := hid H0
  go_enter Try.func12, Try.ntmps12
  go_wp2_with fail
  go_ret2
  exact ⟨_, _, rfl, H0.out, by omega, by intro b hb; injection hb with hb; subst hb; exact Nat.le_refl _, ((Kp.refl _ w).alloc _).alloc _⟩
set_option maxRecDepth 100000 in
set_option maxHeartbeats 2000000 in
theorem own1_any {w : World} {x : Value} {l : List (Int × Int)} (h : Sg w eH x l) (hl : l.length ≤ 100000) :
    Calls Try.prog 53 #[x] w fun e w' => ∃ v, e = .returned v ∧ RowAt w' 59 eH 2 v l ∧ New w v ∧ Kp NoB w w' := by
  obtain ⟨v, w2, hr, q1, k, q2⟩ := run_nil_sg (P := Try.prog) (ty := 33) eH_len (by omega) u33 i59 rfl h (oneH l) (by omega) (by omega)
  obtain ⟨o, c, rfl, _⟩ := h.form
  obtain ⟨o2, c2, hv, _⟩ := q1.form
  subst hv
  clear h
  replace hr := hid hr
  replace q1 := hid q1
  replace k := hid k
  have q2' := hid q2
  clear q2
  go_enter Try.func53, Try.ntmps53
  go_wp2_with (at_builtin; refine Lib.wpList_append_run _ rfl _ _ _ _ rfl _ _ rfl rfl _ _ hr.out ?_)
  go_ret
  exact ⟨_, rfl, q1.out, q2'.out, k.out⟩
theorem cf53 : ∀ args w, (callFunc 53 args).run Try.prog w = .ok (.enter 53 args) w := fun _ _ => rfl
/-- what is handed in -/
structure SlR (w : World) (a b c : Value) (x : Ret) : Prop where
  a : Sg w eH a x.a
  b : Sg w eH b x.b
  c : Sg w eH c x.c
/-- what is known, and read -/
structure SlS (w : World) (a b c : Value) (x : Ret) : Prop where
  a : Sl w 59 eH a x.a
  b : Sl w 59 eH b x.b
  c : Sl w 59 eH c x.c
/-- the same in memory of its own -/
structure RowR (w : World) (a b c : Value) (x : Ret) : Prop where
  a : RowAt w 59 eH 2 a x.a
  b : RowAt w 59 eH 2 b x.b
  c : RowAt w 59 eH 2 c x.c
def Ret.few (x : Ret) : Prop := x.a.length ≤ 3000 ∧ x.b.length ≤ 3000 ∧ x.c.length ≤ 3000
theorem SlR.kn {w w' : World} {a b c : Value} {x : Ret} (h : SlR w a b c x) (k : Kp NoB w w') : SlR w' a b c x := ⟨h.a.kn k, h.b.kn k, h.c.kn k⟩
theorem RowR.sl {w : World} {a b c : Value} {x : Ret} (h : RowR w a b c x) : SlR w a b c x := ⟨h.a.sg eH_len (by omega), h.b.sg eH_len (by omega), h.c.sg eH_len (by omega)⟩
theorem RowR.ss {w : World} {a b c : Value} {x : Ret} (h : RowR w a b c x) : SlS w a b c x := ⟨h.a.sl eH_len (by omega), h.b.sl eH_len (by omega), h.c.sl eH_len (by omega)⟩
theorem RowR.kp {F : Nat → Prop} {w w' : World} {a b c : Value} {x : Ret} (h : RowR w a b c x) (k : Kp F w w') (h1 : ∀ q, a.ownBlock = some q → ¬ F q) (h2 : ∀ q, b.ownBlock = some q → ¬ F q) (h3 : ∀ q, c.ownBlock = some q → ¬ F q) : RowR w' a b c x :=
  ⟨h.a.kp k h1, h.b.kp k h2, h.c.kp k h3⟩
theorem RowR.kn {w w' : World} {a b c : Value} {x : Ret} (h : RowR w a b c x) (k : Kp NoB w w') : RowR w' a b c x := h.kp k (fun _ _ h => h) (fun _ _ h => h) (fun _ _ h => h)
set_option maxRecDepth 100000 in
set_option maxHeartbeats 2000000 in
theorem own_any {w : World} {a b c : Value} {x : Ret} (h : SlR w a b c x) (hx : x.few) :
    Calls Try.prog 38 #[.agg #[a, b, c]] w fun e w' => ∃ a' b' c', e = .returned (.agg #[a', b', c']) ∧ RowR w' a' b' c' x ∧ New w a' ∧ New w b' ∧ New w c' ∧ Kp NoB w w' := by
  have HO := hid (fun (W : World) (v : Value) (l : List (Int × Int)) (k : Kp NoB w W) (hs : Sg w eH v l) (hl : l.length ≤ 100000) => own1_any (hs.kn k) hl)
  have cf := cf53
  obtain ⟨oa, ca, rfl, _⟩ := h.a.form
  obtain ⟨ob, cb, rfl, _⟩ := h.b.form
  obtain ⟨oc, cc, rfl, _⟩ := h.c.form
  obtain ⟨x1, x2, x3⟩ := hx
  have hh := hid h
  clear h
  have L1 := hid (show ((w.alloc (.cells #[.slice oa x.a.length ca, .slice ob x.b.length cb, .slice oc x.c.length cc] 35)).alloc (.cells #[.slice none 0 0, .slice none 0 0, .slice none 0 0] 35)).heap[w.heap.size]? = some (.cells #[.slice oa x.a.length ca, .slice ob x.b.length cb, .slice oc x.c.length cc] 35 (0, 0)) from blk_alloc (blk_new w _))
  have L2 := hid (show ((w.alloc (.cells #[.slice oa x.a.length ca, .slice ob x.b.length cb, .slice oc x.c.length cc] 35)).alloc (.cells #[.slice none 0 0, .slice none 0 0, .slice none 0 0] 35)).heap[w.heap.size + 1]? = some (.cells #[.slice none 0 0, .slice none 0 0, .slice none 0 0] 35 (0, 0)) from blk_new' _ _ (by simp))
  have K0 := hid (((Kp.refl NoB w).alloc (.cells #[.slice oa x.a.length ca, .slice ob x.b.length cb, .slice oc x.c.length cc] 35)).alloc (.cells #[.slice none 0 0, .slice none 0 0, .slice none 0 0] 35))
  go_enter Try.func38, Try.ntmps38
  go_wp2_with fail
  generalize ((w.alloc (.cells #[.slice oa x.a.length ca, .slice ob x.b.length cb, .slice oc x.c.length cc] 35)).alloc (.cells #[.slice none 0 0, .slice none 0 0, .slice none 0 0] 35)) = W0 at *
  have M1 := loc3 L1.out
  refine wp_region_G (fun W => W.cell? ⟨w.heap.size, 1, none⟩ = some (.slice ob x.b.length cb) ∧ W.cell? ⟨w.heap.size, 2, none⟩ = some (.slice oc x.c.length cc)) [(0, .at_), (1, .at_), (2, .at_), (4, .held), (5, .held), (6, .held), (8, .held), (9, .held), (10, .held), (3, .eff), (7, .eff), (11, .eff), (12, .at_), (13, .eff)] ?L1 (by kernel_rfl) (by kernel_rfl) ?hL1 (⟨M1.2.1, M1.2.2.1⟩) ?hG1
  case hL1 => simp only [pickOps, List.map_cons, List.map_nil, List.getD_cons_zero, List.getD_cons_succ]; rfl
  repeat (first | (refine wpG_at (v := ?_) (by rfl) ?_ ?_; rotate_left; (focus (first | (go_simp; with_reducible rfl) | (go_simp; done))); simp only [Act.put, List.setIfInBounds_toArray, List.set_cons_zero, List.set_cons_succ]) | (refine wpG_at_skip (by rfl) ?_; simp only [Act.put, List.setIfInBounds_toArray, List.set_cons_zero, List.set_cons_succ]) | (refine wpG_held_skip (by rfl) ?_; simp only [Act.put, List.setIfInBounds_toArray, List.set_cons_zero, List.set_cons_succ]) | (refine wpG_held (v := ?_) (by rfl) ?_ ?_; rotate_left; (focus (intro w' hSw; (try dsimp only at hSw); go_split_ands; first | (go_simp; with_reducible rfl) | (go_simp; done))); simp only [Act.put, List.setIfInBounds_toArray, List.set_cons_zero, List.set_cons_succ]))
  refine wpG_eff (by rfl) (fun K hK => ?_)
  go_simp
  refine (HO.out _ _ _ (K0.out.drew) hh.out.a (by omega)).mono ?_
  rintro e w1 ⟨va, rfl, ra, na, ka⟩
  have K1 := hid (K0.out.drew.trans ka)
  have L11 := hid (ka.get (show W0.drew.heap[w.heap.size]? = _ from L1.out) (fun h => h))
  have L21 := hid (ka.get (show W0.drew.heap[w.heap.size + 1]? = _ from L2.out) (fun h => h))
  have na' := hid (na.mono (by simpa using K0.out.size))
  obtain ⟨o1, c1, hv, _⟩ := ra.form
  subst hv
  replace ra := hid ra
  have M2 := loc3 L11.out
  refine hK _ _ ⟨M2.2.1, M2.2.2.1⟩ ?_
  clear hK K M1 ka na
  repeat (first | (refine wpG_at (v := ?_) (by rfl) ?_ ?_; rotate_left; (focus (first | (go_simp; with_reducible rfl) | (go_simp; done))); simp only [Act.put, List.setIfInBounds_toArray, List.set_cons_zero, List.set_cons_succ]) | (refine wpG_at_skip (by rfl) ?_; simp only [Act.put, List.setIfInBounds_toArray, List.set_cons_zero, List.set_cons_succ]) | (refine wpG_held_skip (by rfl) ?_; simp only [Act.put, List.setIfInBounds_toArray, List.set_cons_zero, List.set_cons_succ]) | (refine wpG_held (v := ?_) (by rfl) ?_ ?_; rotate_left; (focus (intro w' hSw; (try dsimp only at hSw); go_split_ands; first | (go_simp; with_reducible rfl) | (go_simp; done))); simp only [Act.put, List.setIfInBounds_toArray, List.set_cons_zero, List.set_cons_succ]))
  refine wpG_eff (by rfl) (fun K hK => ?_)
  go_simp
  refine (HO.out _ _ _ K1.out hh.out.b (by omega)).mono ?_
  rintro e w2 ⟨vb, rfl, rb, nb, kb⟩
  have K2 := hid (K1.out.trans kb)
  have L12 := hid (kb.get L11.out (fun h => h))
  have L22 := hid (kb.get L21.out (fun h => h))
  have nb' := hid (nb.mono K1.out.size)
  have ra2 := hid (ra.out.kp kb (fun _ _ h => h))
  obtain ⟨o2, c2, hv, _⟩ := rb.form
  subst hv
  replace rb := hid rb
  have M3 := loc3 L12.out
  refine hK _ _ ⟨M3.2.1, M3.2.2.1⟩ ?_
  clear hK K M2 kb nb
  repeat (first | (refine wpG_at (v := ?_) (by rfl) ?_ ?_; rotate_left; (focus (first | (go_simp; with_reducible rfl) | (go_simp; done))); simp only [Act.put, List.setIfInBounds_toArray, List.set_cons_zero, List.set_cons_succ]) | (refine wpG_at_skip (by rfl) ?_; simp only [Act.put, List.setIfInBounds_toArray, List.set_cons_zero, List.set_cons_succ]) | (refine wpG_held_skip (by rfl) ?_; simp only [Act.put, List.setIfInBounds_toArray, List.set_cons_zero, List.set_cons_succ]) | (refine wpG_held (v := ?_) (by rfl) ?_ ?_; rotate_left; (focus (intro w' hSw; (try dsimp only at hSw); go_split_ands; first | (go_simp; with_reducible rfl) | (go_simp; done))); simp only [Act.put, List.setIfInBounds_toArray, List.set_cons_zero, List.set_cons_succ]))
  refine wpG_eff (by rfl) (fun K hK => ?_)
  go_simp
  refine (HO.out _ _ _ K2.out hh.out.c (by omega)).mono ?_
  rintro e w3 ⟨vc, rfl, rc, nc, kc⟩
  have K3 := hid (K2.out.trans kc)
  have L23 := hid (kc.get L22.out (fun h => h))
  have nc' := hid (nc.mono K2.out.size)
  have ra3 := hid (ra2.out.kp kc (fun _ _ h => h))
  have rb3 := hid (rb.out.kp kc (fun _ _ h => h))
  obtain ⟨o3, c3, hv, _⟩ := rc.form
  subst hv
  replace rc := hid rc
  have M4 := loc3 L23.out
  have M5 := loc3 (kc.get L12.out (fun h => h))
  refine hK _ _ ⟨M5.2.1, M5.2.2.1⟩ ?_
  clear hK K M3 kc nc
  repeat (first | (refine wpG_at (v := ?_) (by rfl) ?_ ?_; rotate_left; (focus (first | (go_simp; with_reducible rfl) | (go_simp; done))); simp only [Act.put, List.setIfInBounds_toArray, List.set_cons_zero, List.set_cons_succ]) | (refine wpG_at_skip (by rfl) ?_; simp only [Act.put, List.setIfInBounds_toArray, List.set_cons_zero, List.set_cons_succ]) | (refine wpG_held_skip (by rfl) ?_; simp only [Act.put, List.setIfInBounds_toArray, List.set_cons_zero, List.set_cons_succ]) | (refine wpG_held (v := ?_) (by rfl) ?_ ?_; rotate_left; (focus (intro w' hSw; (try dsimp only at hSw); go_split_ands; first | (go_simp; with_reducible rfl) | (go_simp; done))); simp only [Act.put, List.setIfInBounds_toArray, List.set_cons_zero, List.set_cons_succ]))
  refine wpG_eff (by rfl) (fun K hK => ?_)
  go_simp
  refine hK _ _ (by refine ⟨?_, ?_⟩ <;> go_simp) ?_
  clear hK K
  repeat (first | (refine wpG_at (v := ?_) (by rfl) ?_ ?_; rotate_left; (focus (first | (go_simp; with_reducible rfl) | (go_simp; done))); simp only [Act.put, List.setIfInBounds_toArray, List.set_cons_zero, List.set_cons_succ]) | (refine wpG_at_skip (by rfl) ?_; simp only [Act.put, List.setIfInBounds_toArray, List.set_cons_zero, List.set_cons_succ]) | (refine wpG_held_skip (by rfl) ?_; simp only [Act.put, List.setIfInBounds_toArray, List.set_cons_zero, List.set_cons_succ]) | (refine wpG_held (v := ?_) (by rfl) ?_ ?_; rotate_left; (focus (intro w' hSw; (try dsimp only at hSw); go_split_ands; first | (go_simp; with_reducible rfl) | (go_simp; done))); simp only [Act.put, List.setIfInBounds_toArray, List.set_cons_zero, List.set_cons_succ]))
  refine wpG_nil (NoPanic.normal ?_)
  go_wp2_with fail
  have hw : w.heap.size + 1 < w3.heap.size := blk_lt L23.out
  have hlt : ∀ {v : Value} {l : List (Int × Int)}, RowAt w3 59 eH 2 v l → v.ownBlock ≠ some (w.heap.size + 1) := fun h => h.ne L23.out (by decide)
  refine bodyPost_ret (v := .agg #[.slice o1 x.a.length c1, .slice o2 x.b.length c2, .slice o3 x.c.length c3]) (by simp [results, Try.results38, go_sem, M4]) rfl ⟨_, _, _, rfl, ?_, na'.out, nb'.out, nc'.out, ?_⟩
  · exact ⟨((ra3.out.setCell _ _ (hlt ra3.out)).setCell _ _ (hlt ra3.out)).setCell _ _ (hlt ra3.out), ((rb3.out.setCell _ _ (hlt rb3.out)).setCell _ _ (hlt rb3.out)).setCell _ _ (hlt rb3.out), ((rc.out.setCell _ _ (hlt rc.out)).setCell _ _ (hlt rc.out)).setCell _ _ (hlt rc.out)⟩
  · exact ((K3.out.setCell (p := ⟨w.heap.size + 1, 0, none⟩) _ (fun h => absurd h (by simp))).setCell (p := ⟨w.heap.size + 1, 1, none⟩) _ (fun h => absurd h (by simp))).setCell (p := ⟨w.heap.size + 1, 2, none⟩) _ (fun h => absurd h (by simp))
/-- one handle -/
theorem one_any (n : Int) (w : World) : Calls Try.prog 18 #[.int .i64 n] w fun e w' => ∃ v, e = .returned (.agg #[.slice none 0 0, v, .slice none 0 0]) ∧ RowR w' (.slice none 0 0) v (.slice none 0 0) ⟨[], [(n, 1)], []⟩ ∧ New w v ∧ Kp NoB w w' := by
  go_enter Try.func18, Try.ntmps18
  go_wp2_with fail
  have hb := blk_new' (w.alloc (.cells #[.slice none 0 0, .slice (some ⟨w.heap.size + 1, 0, none⟩) 1 1, .slice none 0 0] 35)) (.cells #[.int .i64 n, .int .u64 1] 59) (n := w.heap.size + 1) (by simp)
  have L := loc3 (blk_alloc (o' := .cells #[.int .i64 n, .int .u64 1] 59) (blk_new w (.cells #[.slice none 0 0, .slice (some ⟨w.heap.size + 1, 0, none⟩) 1 1, .slice none 0 0] 35)))
  refine bodyPost_ret (v := .agg #[.slice none 0 0, .slice (some ⟨w.heap.size + 1, 0, none⟩) 1 1, .slice none 0 0]) (by simp [results, Try.results18, go_sem, L]) rfl ⟨_, rfl, ⟨RowAt.nil _ _ _ _, ?_, RowAt.nil _ _ _ _⟩, ?_, ((Kp.refl _ w).alloc _).alloc _⟩
  · exact RowAt.own eH_len (l := [(n, 1)]) hb (by intro a b x ha hb; match a, ha with | 0, ha => simp at ha; subst ha; match b, hb with | 0, _ => rfl | 1, _ => rfl) (Nat.le_refl _) (by simp [maxLen]) rfl
  · intro b hb; injection hb with hb; subst hb; simp
end Go.Proofs.Ytplbkjgkocnehaa
