/- Walks: what a table and the document's table say alike. -/
import Derived.Test.YtbgojgnbbkgkgaaS23
import Derived.Test.YtbgojgnbbkgkgaaS7
namespace Go.Proofs.Ytbgojgnbbkgkgaa
set_option linter.unusedSimpArgs false
set_option linter.unusedVariables false
open Go.RowKit Go.Shelf
attribute [local go_sem ↓] Go.wp_at_zero Go.wp_at_succ
attribute [local go_sem] Oper.semAt_some
def SmI (w : World) (B q : Nat) (L pre : List (Int × Int × Int)) (W : World) : Prop :=
  W.heap[w.heap.size]? = some (.cells #[.pointer (some ⟨q, 0, none⟩)] 43 (0, 0)) ∧ W.heap[w.heap.size + 1]? = some (.cells #[.bool false] 4 (0, 0)) ∧ W.heap[w.heap.size + 3]? = some (.cells #[.int .i64 pre.length] 3 (0, 0)) ∧ Kp NoB w W ∧ pre.length ≤ L.length ∧ B ≤ W.heap.size
def SmX (w : World) (L : List (Int × Int × Int)) (c : Code) (pre : List (Int × Int × Int)) (W : World) : Prop := c = .ret ∧ ¬ pre <+: L
theorem pre_at {α : Type} {L pre : List α} {x : α} (h : pre ++ [x] <+: L) : L[pre.length]? = some x := by
  obtain ⟨t, ht⟩ := h
  rw [← ht, List.append_assoc, List.getElem?_append_right (Nat.le_refl _), Nat.sub_self]
  rfl
section
variable {w w' : World} {q p m room : Nat} {v : Value} {M : List (Int × Value)}
set_option maxRecDepth 100000 in
set_option maxHeartbeats 16000000 in
theorem same_any (h : JAt w p m q room M v) :
    Calls Try.prog 18 #[.pointer (some ⟨p, 0, none⟩), .pointer (some ⟨q, 0, none⟩)] w fun e w' => e = .returned (.bool true) ∧ Kp NoB w w' := by
  have HA := hid (fun W => all_any (.pointer (some ⟨p, 0, none⟩)) _ rfl W)
  have hml : M.length ≤ 64 := Nat.le_trans h.o.le h.o.n2
  have hll := hid (rowsL_len M)
  have hlen : (rowsL M).length ≤ 64 := by have := hll.out; omega
  have hne : ((M.length : Int) != ((rowsL M).length : Int)) = false := by rw [hll.out]; simp
  obtain ⟨ov, cv, hvv, _⟩ := h.r.hv.form
  subst hvv
  have J := hid h
  have H3 := hid (show ((w.alloc (.cells #[.pointer (some ⟨q, 0, none⟩)] 43)).alloc (.cells #[.bool false] 4)).heap[w.heap.size]? = some (.cells #[.pointer (some ⟨q, 0, none⟩)] 43 (0, 0)) from blk_alloc (blk_new _ _))
  have H4 := hid (show ((w.alloc (.cells #[.pointer (some ⟨q, 0, none⟩)] 43)).alloc (.cells #[.bool false] 4)).heap[w.heap.size + 1]? = some (.cells #[.bool false] 4 (0, 0)) from blk_new' _ _ (by simp))
  have K0 := hid (((Kp.refl NoB w).alloc (.cells #[.pointer (some ⟨q, 0, none⟩)] 43)).alloc (.cells #[.bool false] 4))
  have hsz : ((w.alloc (.cells #[.pointer (some ⟨q, 0, none⟩)] 43)).alloc (.cells #[.bool false] 4)).heap.size = w.heap.size + 2 := by simp
  clear h
  refine calls_of_wp_marks Try.func18 rfl ?_
  simp only [Try.ntmps18, List.size_toArray, List.length_cons, List.length_nil, Nat.reduceAdd, Nat.reduceSub, Array.replicate_succ, Array.replicate_zero, List.push_toArray, List.append_toArray, List.nil_append, List.cons_append]
  go_wp2_with fail
  refine (HA.out _).mono ?_
  rintro e w1 ⟨rfl, hw1⟩
  generalize ((w.alloc (.cells #[.pointer (some ⟨q, 0, none⟩)] 43)).alloc (.cells #[.bool false] 4)) = W0 at *
  have hc1 : w1.heap[w.heap.size + 2]? = some (.cells #[.pointer (some ⟨p, 0, none⟩)] 26 (0, 0)) := by rw [hw1, ← hsz]; exact blk_new _ _
  have k1 : Kp NoB W0 w1 := by rw [hw1]; exact (Kp.refl _ W0).alloc _
  have hs1 : w1.heap.size = w.heap.size + 3 := by rw [hw1]; simp [hsz]
  have K1 := hid (K0.out.trans k1)
  have G3 := hid (k1.get H3.out (fun h => h))
  have G4 := hid (k1.get H4.out (fun h => h))
  have J1 := hid (J.out.kn K1.out)
  rw [hsz]
  have hb1 : w.heap.size + 2 < w1.heap.size := by omega
  replace hc1 := hid hc1
  replace hs1 := hid hs1
  clear H3 H4 K0 hw1 hsz k1
  have hnf : ∀ W lb, (binOp .eql 53 (.func (.func 31) #[] lb) .nilFunc).run Try.prog W = .ok (.bool false) W := fun _ _ => by kernel_rfl
  have HL := hid (len_any J1.out.c.drew J1.out.o)
  have L3 := loc1 G3.out
  have Lq := loc2 J1.out.r.hq
  go_wp2_with fail
  refine wp_region_G (fun W => W.cell? ⟨w.heap.size, 0, none⟩ = some (.pointer (some ⟨q, 0, none⟩)) ∧ W.cell? ⟨q, 0, none⟩ = some (.slice ov (rowsL M).length cv)) [(0, .at_), (1, .at_), (2, .at_), (3, .at_), (5, .held), (6, .held), (7, .held), (8, .held), (9, .held), (4, .eff), (10, .at_), (11, .at_)] ?L5 (by kernel_rfl) (by kernel_rfl) ?hL5 (⟨L3.1, Lq.1⟩) ?hG5
  case hL5 => simp only [pickOps, List.map_cons, List.map_nil, List.getD_cons_zero, List.getD_cons_succ]; rfl
  repeat (first | (refine wpG_at (v := ?_) (by rfl) ?_ ?_; rotate_left; (focus (first | (go_simp; with_reducible rfl) | (go_simp; done))); simp only [Act.put, List.setIfInBounds_toArray, List.set_cons_zero, List.set_cons_succ]) | (refine wpG_at_skip (by rfl) ?_; simp only [Act.put, List.setIfInBounds_toArray, List.set_cons_zero, List.set_cons_succ]) | (refine wpG_held_skip (by rfl) ?_; simp only [Act.put, List.setIfInBounds_toArray, List.set_cons_zero, List.set_cons_succ]) | (refine wpG_held (v := ?_) (by rfl) ?_ ?_; rotate_left; (focus (intro w' hSw; (try dsimp only at hSw); go_split_ands; first | (go_simp; with_reducible rfl) | (go_simp; done))); simp only [Act.put, List.setIfInBounds_toArray, List.set_cons_zero, List.set_cons_succ]))
  refine wpG_eff (by rfl) (fun K hK => ?_)
  go_simp
  refine HL.out.mono ?_
  rintro e w2 ⟨rfl, rfl⟩
  refine hK _ _ ⟨L3.1, Lq.1⟩ ?_
  clear hK K
  repeat (first | (refine wpG_at (v := ?_) (by rfl) ?_ ?_; rotate_left; (focus (first | (go_simp; with_reducible rfl) | (go_simp; done))); simp only [Act.put, List.setIfInBounds_toArray, List.set_cons_zero, List.set_cons_succ]) | (refine wpG_at_skip (by rfl) ?_; simp only [Act.put, List.setIfInBounds_toArray, List.set_cons_zero, List.set_cons_succ]) | (refine wpG_held_skip (by rfl) ?_; simp only [Act.put, List.setIfInBounds_toArray, List.set_cons_zero, List.set_cons_succ]) | (refine wpG_held (v := ?_) (by rfl) ?_ ?_; rotate_left; (focus (intro w' hSw; (try dsimp only at hSw); go_split_ands; first | (go_simp; with_reducible rfl) | (go_simp; done))); simp only [Act.put, List.setIfInBounds_toArray, List.set_cons_zero, List.set_cons_succ]))
  refine wpG_nil (NoPanic.normal ?_)
  have hseq := hid (fun W (k : Kp NoB w1 W) => all_seq ((J1.out.kn k).c) J1.out.o (k.get hc1.out (fun h => h)))
  have kd := hid ((Kp.refl NoB w1).drew)
  have hsd := hid (show w1.drew.heap.size = w.heap.size + 3 by simp [hs1.out])
  clear L3 Lq HL
  generalize w1.drew = wd at *
  go_wp2_with fail
  have k2 := hid (kd.out.alloc (.cells #[.int .i64 0] 3))
  have G6 := hid (show (wd.alloc (.cells #[.int .i64 0] 3)).heap[w.heap.size + 3]? = some (.cells #[.int .i64 0] 3 (0, 0)) from blk_new' _ _ (by simp [hsd.out]))
  have hsz2 := hid (show (wd.alloc (.cells #[.int .i64 0] 3)).heap.size = w.heap.size + 4 by simp [hsd.out])
  rw [hsd.out]
  generalize (wd.alloc (.cells #[.int .i64 0] 3)) = w2 at *
  have hb2 : w.heap.size + 3 < w2.heap.size := by have := hsz2.out; omega
  have G3' := hid (k2.out.get G3.out (fun h => h))
  have G4' := hid (k2.out.get G4.out (fun h => h))
  have K2 := hid (K1.out.trans k2.out)
  have J2 := hid (J.out.kn K2.out)
  refine wp_range_list (gf := 31) (lb := #[.pointer (some ⟨w.heap.size + 2, 0, none⟩)]) rfl (enters_of Try.func31 (by kernel_rfl) rfl) (encs := encR) (L := rowsL M) (by rw [rowsL_len]; exact hseq.out _ k2.out) (fun _ => rfl)
    (SmI w w2.heap.size q (rowsL M)) (SmX w (rowsL M))
    (own_of_kp (fun s W W' h k => ⟨k.get h.1 (by omega), k.get h.2.1 (by omega), k.get h.2.2.1 (by omega), h.2.2.2.1.trans' k (fun b hb e => by omega), h.2.2.2.2.1, Nat.le_trans h.2.2.2.2.2 k.size⟩))
    (fun c => own_of_kp (fun s W W' h k => h))
    ⟨G3'.out, G4'.out, G6.out, K2.out, Nat.zero_le _, Nat.le_refl _⟩
    (fun x a' W => ∃ (b8 : Nat) (u9 u10 u11 u12 u13 u14 u15 u16 u17 u18 u19 u20 u21 u22 u23 u24 u25 : Value), w2.heap.size ≤ b8 ∧ W.heap[b8]? = some (.cells #[.int .i64 x.2.1, .int .u64 x.2.2] 25 (0, 0)) ∧ a' = { tmps := #[.pointer (some ⟨p, 0, none⟩), .pointer (some ⟨q, 0, none⟩), undef, .pointer (some ⟨w.heap.size, 0, none⟩), .pointer (some ⟨w.heap.size + 1, 0, none⟩), .func (.func 31) #[] #[.pointer (some ⟨w.heap.size + 2, 0, none⟩)], .pointer (some ⟨w.heap.size + 3, 0, none⟩), .int .i64 x.1, .pointer (some ⟨b8, 0, none⟩), u9, u10, u11, u12, u13, u14, u15, u16, u17, u18, u19, u20, u21, u22, u23, u24, u25, undef, undef, undef, undef, undef, undef, undef, undef, undef, undef, undef, undef, undef, undef, undef, undef, undef, undef, undef, undef, undef, undef, undef, undef, undef, undef, undef, undef, undef, undef, undef, undef, undef, undef, undef, undef, undef, undef, undef, undef], defers := [] })
    ?_ ?_ ?_ ?_ ?_
  · -- the row's box is the round's own
    rintro x a' s W W' row ⟨b8, u9, u10, u11, u12, u13, u14, u15, u16, u17, u18, u19, u20, u21, u22, u23, u24, u25, h1, h2, h3⟩ hg hr
    exact ⟨b8, u9, u10, u11, u12, u13, u14, u15, u16, u17, u18, u19, u20, u21, u22, u23, u24, u25, h1, grown_get hg h2 (fun e => by obtain ⟨_, o, ho, hc⟩ := hr _ e; rw [h2] at ho; injection ho with ho; subst ho; cases hc), h3⟩
  · -- the loop's variables
    rintro l pre ⟨x1, x2, x3⟩ W K ⟨h1, h2, h3, h4, h5, h6⟩ hK
    unfold encR hV
    have hWs := h4.size
    have hnb := hid (blk_new W (.cells #[.int .i64 0, .int .u64 0] 25))
    replace h1 := hid h1
    replace h2 := hid h2
    replace h3 := hid h3
    gi_wp2_with fail
    have KW : Kp NoB W (W.alloc (.cells #[.int .i64 x2, .int .u64 x3] 25)) := (Kp.refl _ W).alloc _
    exact hK _ _ (KW.mono (fun _ h => h.elim)) ⟨KW.get h1.out (fun h => h), KW.get h2.out (fun h => h), KW.get h3.out (fun h => h), h4.trans KW, h5, Nat.le_trans h6 KW.size⟩ ⟨W.heap.size, _, _, _, _, _, _, _, _, _, _, _, _, _, _, _, _, _, h6, blk_new W _, rfl⟩
  · -- a round
    rintro l pre ⟨x1, x2, x3⟩ a' W hl ⟨h1, h2, h3, h4, h5, h6⟩ ⟨b8, u9, u10, u11, u12, u13, u14, u15, u16, u17, u18, u19, u20, u21, u22, u23, u24, u25, hb8, h8, rfl⟩ hn
    have L3 := loc1 h1
    have L4 := loc1 h2
    have L6 := loc1 h3
    have L8 := loc2 h8
    dsimp only at L8
    obtain ⟨⟨s, i, g⟩, hsig⟩ : ∃ y, (rowsL M)[pre.length] = y := ⟨_, rfl⟩
    have hk : (rowsL M)[pre.length]? = some (s, i, g) := by rw [← hsig]; exact List.getElem?_eq_getElem hn
    obtain ⟨b, c', hv', hcc, hcell⟩ := (J.out.kn h4).r.cells hk
    injection hv' with hv1 _ hv3
    subst hv1; subst hv3
    have Le := hcell _ (Kp.refl _ _)
    have Lq := loc2 (J.out.kn h4).r.hq
    generalize hpl : pre.length = k at *
    have c1 : (0 : Int) ≤ (k : Int) := Int.natCast_nonneg _
    have c2 : (k : Int) < ((rowsL M).length : Int) := by omega
    have c3 : ((rowsL M).length : Int) ≤ (cv : Int) := by omega
    have c4 : decide ((rowsL M).length ≤ k) = false := decide_eq_false (by omega)
    have hbad : (s, i, g) ≠ (x1, x2, x3) → Hid (¬ pre ++ [(x1, x2, x3)] <+: rowsL M) := fun hne => hid (fun hp => hne (by
      have := pre_at hp
      rw [hpl, hk] at this
      injection this))
    replace hbad := hid hbad
    replace hpl := hid hpl
    replace hk := hid hk
    replace hsig := hid hsig
    replace hcell := hid hcell
    replace h1 := hid h1
    replace h2 := hid h2
    replace h3 := hid h3
    replace h8 := hid h8
    have hX : ∀ W', Kp (fun b => b = w.heap.size + 1) W W' → (s, i, g) ≠ (x1, x2, x3) → (KeepsFrom w2.heap.size W W' ∧ True) ∧ SmX w (rowsL M) .ret (pre ++ [(x1, x2, x3)]) W' := fun W' k hne =>
      ⟨⟨keepsFrom_kp (k.mono (fun b hb => by omega)), trivial⟩, rfl, (hbad.out hne).out⟩
    replace hX := hid hX
    by_cases e1 : s = x1
    · by_cases e2 : i = x2
      · by_cases e3 : g = x3
        · subst e1; subst e2; subst e3
          gi_wp2_with fail
          refine wpIn_region_G (fun _ => True) [(0, .at_), (1, .at_), (2, .at_), (3, .at_), (4, .at_), (5, .at_), (6, .at_), (7, .at_), (8, .at_), (9, .at_), (10, .at_), (11, .at_), (12, .at_), (13, .at_), (14, .at_), (15, .at_), (16, .at_), (17, .at_), (18, .at_), (19, .at_), (20, .at_), (21, .at_), (22, .at_), (23, .at_), (24, .at_), (25, .at_), (26, .at_), (27, .at_), (28, .at_), (29, .at_), (30, .at_)] ?L1 (by kernel_rfl) (by kernel_rfl) (by kernel_rfl) ?hL1 (trivial) ?hG1
          case hL1 => simp only [pickOps, List.map_cons, List.map_nil, List.getD_cons_zero, List.getD_cons_succ]; rfl
          repeat (first | (refine wpGS_at (v := ?_) (by rfl) ?_ ?_; rotate_left; (focus (first | (go_simp; with_reducible rfl) | (go_simp; done))); simp only [Act.put, List.setIfInBounds_toArray, List.set_cons_zero, List.set_cons_succ]) | (refine wpGS_at_skip (by rfl) ?_; simp only [Act.put, List.setIfInBounds_toArray, List.set_cons_zero, List.set_cons_succ]) | (refine wpGS_held_skip (by rfl) ?_; simp only [Act.put, List.setIfInBounds_toArray, List.set_cons_zero, List.set_cons_succ]) | (refine wpGS_held (v := ?_) (by rfl) ?_ ?_; rotate_left; (focus (intro w' hSw; (try dsimp only at hSw); go_split_ands; first | (go_simp; with_reducible rfl) | (go_simp; done))); simp only [Act.put, List.setIfInBounds_toArray, List.set_cons_zero, List.set_cons_succ]))
          refine wpGS_nil (NoPanic.normal ?_)
          gi_wp2_with fail
          have KS : Kp (fun b => b = w.heap.size + 3) W (W.drew.setCell ⟨w.heap.size + 3, 0, none⟩ (.int .i64 ((k : Int) + 1))) := ((Kp.refl _ W).drew).setCell _ (fun _ => rfl)
          refine ⟨keepsFrom_kp (KS.mono (fun b hb => by omega)), KN.of_kp (KS.mono (fun b hb => by omega)), ?_⟩
          refine ⟨KS.get h1.out (by omega), KS.get h2.out (by omega), ?_, h4.trans' KS (fun b hb e => by omega), by rw [List.length_append, hpl.out]; simp; omega, Nat.le_trans h6 KS.size⟩
          have := blk_drew (blk_setCell h3.out 0 (.int .i64 ((k : Int) + 1)))
          rw [List.length_append, hpl.out]
          simpa using this
        · have e4 : (g == x3) = false := by simpa using e3
          have hx := hid (fun W' k => hX.out W' k (fun e => e3 (by injection e with _ e; injection e)))
          subst e1; subst e2
          clear e3 hX hbad
          gi_wp2_with fail
          refine wpIn_region_G (fun _ => True) [(0, .at_), (1, .at_), (2, .at_), (3, .at_), (4, .at_), (5, .at_), (6, .at_), (7, .at_), (8, .at_), (9, .at_), (10, .at_), (11, .at_), (12, .at_), (13, .at_), (14, .at_), (15, .at_), (16, .at_), (17, .at_), (18, .at_), (19, .at_), (20, .at_), (21, .at_), (22, .at_), (23, .at_), (24, .at_), (25, .at_), (26, .at_), (27, .at_), (28, .at_), (29, .at_), (30, .at_)] ?L2 (by kernel_rfl) (by kernel_rfl) (by kernel_rfl) ?hL2 (trivial) ?hG2
          case hL2 => simp only [pickOps, List.map_cons, List.map_nil, List.getD_cons_zero, List.getD_cons_succ]; rfl
          repeat (first | (refine wpGS_at (v := ?_) (by rfl) ?_ ?_; rotate_left; (focus (first | (go_simp; with_reducible rfl) | (go_simp; done))); simp only [Act.put, List.setIfInBounds_toArray, List.set_cons_zero, List.set_cons_succ]) | (refine wpGS_at_skip (by rfl) ?_; simp only [Act.put, List.setIfInBounds_toArray, List.set_cons_zero, List.set_cons_succ]) | (refine wpGS_held_skip (by rfl) ?_; simp only [Act.put, List.setIfInBounds_toArray, List.set_cons_zero, List.set_cons_succ]) | (refine wpGS_held (v := ?_) (by rfl) ?_ ?_; rotate_left; (focus (intro w' hSw; (try dsimp only at hSw); go_split_ands; first | (go_simp; with_reducible rfl) | (go_simp; done))); simp only [Act.put, List.setIfInBounds_toArray, List.set_cons_zero, List.set_cons_succ]))
          refine wpGS_nil (NoPanic.normal ?_)
          gi_wp2_with fail
          have KS : Kp (fun b => b = w.heap.size + 1) W (W.drew.setCell ⟨w.heap.size + 1, 0, none⟩ (.bool false)) := ((Kp.refl _ W).drew).setCell _ (fun _ => rfl)
          exact ⟨(hx.out _ KS).1.1, (hx.out _ KS).2⟩
      · have e4 : (i == x2) = false := by simpa using e2
        have hx := hid (fun W' k => hX.out W' k (fun e => e2 (by injection e with _ e; injection e)))
        subst e1
        clear e2 hX hbad
        gi_wp2_with fail
        refine wpIn_region_G (fun _ => True) [(0, .at_), (1, .at_), (2, .at_), (3, .at_), (4, .at_), (5, .at_), (6, .at_), (7, .at_), (8, .at_), (9, .at_), (10, .at_), (11, .at_), (12, .at_), (13, .at_), (14, .at_), (15, .at_), (16, .at_), (17, .at_), (18, .at_), (19, .at_), (20, .at_), (21, .at_), (22, .at_), (23, .at_), (24, .at_), (25, .at_), (26, .at_), (27, .at_), (28, .at_), (29, .at_), (30, .at_)] ?L3 (by kernel_rfl) (by kernel_rfl) (by kernel_rfl) ?hL3 (trivial) ?hG3
        case hL3 => simp only [pickOps, List.map_cons, List.map_nil, List.getD_cons_zero, List.getD_cons_succ]; rfl
        repeat (first | (refine wpGS_at (v := ?_) (by rfl) ?_ ?_; rotate_left; (focus (first | (go_simp; with_reducible rfl) | (go_simp; done))); simp only [Act.put, List.setIfInBounds_toArray, List.set_cons_zero, List.set_cons_succ]) | (refine wpGS_at_skip (by rfl) ?_; simp only [Act.put, List.setIfInBounds_toArray, List.set_cons_zero, List.set_cons_succ]) | (refine wpGS_held_skip (by rfl) ?_; simp only [Act.put, List.setIfInBounds_toArray, List.set_cons_zero, List.set_cons_succ]) | (refine wpGS_held (v := ?_) (by rfl) ?_ ?_; rotate_left; (focus (intro w' hSw; (try dsimp only at hSw); go_split_ands; first | (go_simp; with_reducible rfl) | (go_simp; done))); simp only [Act.put, List.setIfInBounds_toArray, List.set_cons_zero, List.set_cons_succ]))
        refine wpGS_nil (NoPanic.normal ?_)
        gi_wp2_with fail
        have KS : Kp (fun b => b = w.heap.size + 1) W (W.drew.setCell ⟨w.heap.size + 1, 0, none⟩ (.bool false)) := ((Kp.refl _ W).drew).setCell _ (fun _ => rfl)
        exact ⟨(hx.out _ KS).1.1, (hx.out _ KS).2⟩
    · have e4 : (s != x1) = true := by simpa using e1
      have hx := hid (fun W' k => hX.out W' k (fun e => e1 (by injection e)))
      clear e1 hX hbad
      gi_wp2_with fail
      refine wpIn_region_G (fun _ => True) [(0, .at_), (1, .at_), (2, .at_), (3, .at_), (4, .at_), (5, .at_), (6, .at_), (7, .at_), (8, .at_), (9, .at_), (10, .at_), (11, .at_), (12, .at_), (13, .at_), (14, .at_), (15, .at_), (16, .at_), (17, .at_), (18, .at_), (19, .at_), (20, .at_), (21, .at_), (22, .at_), (23, .at_), (24, .at_), (25, .at_), (26, .at_), (27, .at_), (28, .at_), (29, .at_), (30, .at_)] ?L4 (by kernel_rfl) (by kernel_rfl) (by kernel_rfl) ?hL4 (trivial) ?hG4
      case hL4 => simp only [pickOps, List.map_cons, List.map_nil, List.getD_cons_zero, List.getD_cons_succ]; rfl
      repeat (first | (refine wpGS_at (v := ?_) (by rfl) ?_ ?_; rotate_left; (focus (first | (go_simp; with_reducible rfl) | (go_simp; done))); simp only [Act.put, List.setIfInBounds_toArray, List.set_cons_zero, List.set_cons_succ]) | (refine wpGS_at_skip (by rfl) ?_; simp only [Act.put, List.setIfInBounds_toArray, List.set_cons_zero, List.set_cons_succ]) | (refine wpGS_held_skip (by rfl) ?_; simp only [Act.put, List.setIfInBounds_toArray, List.set_cons_zero, List.set_cons_succ]) | (refine wpGS_held (v := ?_) (by rfl) ?_ ?_; rotate_left; (focus (intro w' hSw; (try dsimp only at hSw); go_split_ands; first | (go_simp; with_reducible rfl) | (go_simp; done))); simp only [Act.put, List.setIfInBounds_toArray, List.set_cons_zero, List.set_cons_succ]))
      refine wpGS_nil (NoPanic.normal ?_)
      gi_wp2_with fail
      have KS : Kp (fun b => b = w.heap.size + 1) W (W.drew.setCell ⟨w.heap.size + 1, 0, none⟩ (.bool false)) := ((Kp.refl _ W).drew).setCell _ (fun _ => rfl)
      exact ⟨(hx.out _ KS).1.1, (hx.out _ KS).2⟩
  · -- all have come
    rintro D W hD ⟨h1, h2, h3, h4, h5, h6⟩ hk
    have L3 := loc1 h1
    have L4 := loc1 h2
    have L6 := loc1 h3
    have Lq := loc2 (J.out.kn h4).r.hq
    replace h2 := hid h2
    replace hk := hid hk
    clear h1 h3 h5
    go_wp2_with fail
    refine wp_region_G (fun _ => True) [(0, .at_), (1, .at_), (2, .at_), (3, .at_), (4, .at_), (5, .at_), (6, .at_), (7, .eff)] ?L6 (by kernel_rfl) (by kernel_rfl) ?hL6 (trivial) ?hG6
    case hL6 => simp only [pickOps, List.map_cons, List.map_nil, List.getD_cons_zero, List.getD_cons_succ]; rfl
    repeat (first | (refine wpG_at (v := ?_) (by rfl) ?_ ?_; rotate_left; (focus (first | (go_simp; with_reducible rfl) | (go_simp; done))); simp only [Act.put, List.setIfInBounds_toArray, List.set_cons_zero, List.set_cons_succ]) | (refine wpG_at_skip (by rfl) ?_; simp only [Act.put, List.setIfInBounds_toArray, List.set_cons_zero, List.set_cons_succ]) | (refine wpG_held_skip (by rfl) ?_; simp only [Act.put, List.setIfInBounds_toArray, List.set_cons_zero, List.set_cons_succ]) | (refine wpG_held (v := ?_) (by rfl) ?_ ?_; rotate_left; (focus (intro w' hSw; (try dsimp only at hSw); go_split_ands; first | (go_simp; with_reducible rfl) | (go_simp; done))); simp only [Act.put, List.setIfInBounds_toArray, List.set_cons_zero, List.set_cons_succ]))
    refine wpG_eff (by rfl) (fun K hK => ?_)
    go_simp
    refine hK _ _ trivial ?_
    clear hK K
    repeat (first | (refine wpG_at (v := ?_) (by rfl) ?_ ?_; rotate_left; (focus (first | (go_simp; with_reducible rfl) | (go_simp; done))); simp only [Act.put, List.setIfInBounds_toArray, List.set_cons_zero, List.set_cons_succ]) | (refine wpG_at_skip (by rfl) ?_; simp only [Act.put, List.setIfInBounds_toArray, List.set_cons_zero, List.set_cons_succ]) | (refine wpG_held_skip (by rfl) ?_; simp only [Act.put, List.setIfInBounds_toArray, List.set_cons_zero, List.set_cons_succ]) | (refine wpG_held (v := ?_) (by rfl) ?_ ?_; rotate_left; (focus (intro w' hSw; (try dsimp only at hSw); go_split_ands; first | (go_simp; with_reducible rfl) | (go_simp; done))); simp only [Act.put, List.setIfInBounds_toArray, List.set_cons_zero, List.set_cons_succ]))
    refine wpG_nil (NoPanic.normal ?_)
    go_wp2_with fail
    have n1 : w.heap.size + 1 ≠ D := by omega
    have hK2 : (W.setCell ⟨w.heap.size + 1, 0, none⟩ (.bool true)).drew.heap[D]? = some (.deferred (some [])) :=
      (Below.heap_setCell _ _ _ _ (Ne.symm n1)).trans hk.out
    have g4 := blk_drew (blk_setCell h2.out 0 (.bool true))
    have KF : Kp NoB w (W.setCell ⟨w.heap.size + 1, 0, none⟩ (.bool true)).drew :=
      (h4.setCell (p := ⟨w.heap.size + 1, 0, none⟩) _ (fun h => absurd h (by simp))).drew
    generalize (W.setCell ⟨w.heap.size + 1, 0, none⟩ (.bool true)).drew = W3 at *
    have L4' := loc1 ((World.putObj_heap_other n1 (o := .deferred none) (w := W3)).trans g4)
    have KP := KF.putObj (D := D) (.deferred none) (fun h => absurd h (by omega))
    refine leaves_one hK2 (v := .bool true) ?_ ⟨rfl, KP⟩
    generalize W3.putObj D (.deferred none) = W4 at *
    simp [results, Try.results18, go_sem, L4'.1]
  · -- left early
    rintro D c' pre W hD hp ⟨rfl, hx⟩ hk
    exact absurd hp hx
end
end Go.Proofs.Ytbgojgnbbkgkgaa
