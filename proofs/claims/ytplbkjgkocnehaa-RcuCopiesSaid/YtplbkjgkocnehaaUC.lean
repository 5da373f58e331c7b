/- Joined: U42 U43. -/
import Derived.Test.YtplbkjgkocnehaaUB
import Derived.Test.YtplbkjgkocnehaaU33
import Derived.Lib.AppendZeros
namespace Go.Proofs.Ytplbkjgkocnehaa
set_option linter.unusedSimpArgs false
set_option linter.unusedVariables false
open Go.RowKit Go.Shelf
attribute [local go_sem ↓] Go.wp_at_zero Go.wp_at_succ
section
variable {w w' : World} {q K : Nat} {dv ov rv : Value} {D Z : List Nat} {G : List QV} {S : List (Ret × List Int)}
theorem oneQs (h : QAt w q dv ov rv D Z G S) : ∀ u ∈ G.flatMap eQ, u.oneCell' = true := by
  intro u hu
  obtain ⟨g, hg, hx⟩ := List.mem_flatMap.1 hu
  obtain ⟨k, hk⟩ := List.mem_iff_getElem?.1 hg
  obtain ⟨x, out, _, o⟩ := h.at_ hk
  obtain ⟨o1, c1, e1, _⟩ := o.x.a.form
  obtain ⟨o2, c2, e2, _⟩ := o.x.b.form
  obtain ⟨o3, c3, e3, _⟩ := o.x.c.form
  obtain ⟨o4, c4, e4, _⟩ := o.o.form
  simp [eQ, e1, e2, e3, e4] at hx
  rcases hx with rfl | rfl | rfl | rfl <;> rfl
set_option maxRecDepth 100000 in
set_option maxHeartbeats 8000000 in
theorem dcopy_any (h : QAt w q dv ov rv D Z G S) (o : QOkS D Z S K) :
    Calls Try.prog 28 #[.pointer (some ⟨q, 0, none⟩)] w fun e w' => ∃ q' va vb vc, e = .returned (.pointer (some ⟨q', 0, none⟩)) ∧ QAt w' q' va vb vc D Z G S ∧ w.heap.size ≤ q' ∧ New w va ∧ New w vb ∧ New w vc ∧ Kp NoB w w' := by
  have n8 := o.n8
  have zl := o.zl
  have hS : S.length ≤ 1000 := Nat.le_trans o.r o.k
  have hl := h.hl
  have hd0 := h.drew
  obtain ⟨va, wa, hra, a1, ka, na⟩ := run_nil_sg (P := Try.prog) (t := 43) (ty := 43) eN_len (by omega) u43 i3 rfl (hd0.hd.sg eN_len (by omega)) (oneNc D) (by omega) (by omega)
  have hda := hd0.kn ka
  obtain ⟨vb, wb, hrb, b1, kb, nb⟩ := run_nil_sg (P := Try.prog) (t := 43) (ty := 43) eN_len (by omega) u43 i3 rfl (hda.ho.sg eN_len (by omega)) (oneNc Z) (by omega) (by omega)
  have hdb := hda.kn kb
  obtain ⟨vc, wc, hrc, c1, kc, nc⟩ := run_nil_sg (P := Try.prog) (t := 52) (ty := 52) eQ_len (by omega) sl52 i81 rfl (hdb.hr.sg eQ_len (by omega)) (oneQs hdb) (by omega) (by omega)
  have hdc := hdb.kn kc
  have La := loc3 hd0.hq
  have Lb := loc3 hda.hq
  have Lc := loc3 hdb.hq
  have Ld := loc3 hdc.hq
  have KT := hid (((Kp.refl NoB w).drew.trans ka).trans (kb.trans kc))
  have a3 := (a1.kp kb (fun _ _ h => h)).kp kc (fun _ _ h => h)
  have b3 := b1.kp kc (fun _ _ h => h)
  have hsa : w.heap.size ≤ wa.heap.size := ka.size
  have hsb : wa.heap.size ≤ wb.heap.size := kb.size
  have hna : ∀ b, va.ownBlock = some b → w.heap.size ≤ b ∧ b < wa.heap.size := fun b hb => ⟨na b hb, a1.lt b hb⟩
  have hnb : ∀ b, vb.ownBlock = some b → wa.heap.size ≤ b ∧ b < wb.heap.size := fun b hb => ⟨nb b hb, b1.lt b hb⟩
  have hnc : ∀ b, vc.ownBlock = some b → w.heap.size ≤ b := fun b hb => Nat.le_trans (Nat.le_trans hsa hsb) (nc b hb)
  have hlt := h.lt
  have QF := hid (⟨blk_new wc _, a3.alloc _, b3.alloc _, c1.alloc _, hdc.hl, fun k h' x out h1 h2 => (hdc.hh k h' x out h1 h2).kp ((Kp.refl NoB wc).alloc _) (fun _ _ h => h),
    fun b hb hb2 => by
      have := hna b hb
      rcases hb2 with e | ⟨g, hg, e⟩
      · have := hnb b e; omega
      · have := hlt b (.inr (.inr (.inr (.inr ⟨g, hg, .inr (.inr (.inr e))⟩)))); omega,
    fun b hb hb2 => by
      have := hnb b hb
      obtain ⟨g, hg, e⟩ := hb2
      have := hlt b (.inr (.inr (.inr (.inr ⟨g, hg, .inr (.inr (.inr e))⟩)))); omega⟩ : QAt (wc.alloc (.cells #[va, vb, vc] 54)) wc.heap.size va vb vc D Z G S)
  have hqs := hid (show w.heap.size ≤ wc.heap.size from KT.out.size)
  obtain ⟨o1, d1, e1, _⟩ := h.hd.form
  obtain ⟨o2, d2, e2, _⟩ := h.ho.form
  obtain ⟨o3, d3, e3, _⟩ := h.hr.form
  obtain ⟨o4, d4, e4, _⟩ := a1.form
  obtain ⟨o5, d5, e5, _⟩ := b1.form
  obtain ⟨o6, d6, e6, _⟩ := c1.form
  subst e1; subst e2; subst e3; subst e4; subst e5; subst e6
  have hna' := hid hna
  have hqc := hid hdc.hq
  have hsa' := hid hsa
  have hnb' := hid hnb
  have hnc' := hid hnc
  replace hra := hid hra
  replace hrb := hid hrb
  replace hrc := hid hrc
  clear hl zl h o hd0 hda hdb hdc a1 b1 c1 a3 b3 ka kb kc na nb nc hna hnb hnc hlt hsa hsb
  go_enter Try.func28, Try.ntmps28
  go_wp2_with fail
  refine wp_region_G (fun W => W.cell? ⟨q, 1, none⟩ = some (.slice o2 Z.length d2) ∧ W.cell? ⟨q, 2, none⟩ = some (.slice o3 G.length d3)) [(0, .at_), (1, .at_), (2, .at_), (3, .at_), (5, .held), (6, .held), (7, .held), (8, .held), (10, .held), (11, .held), (12, .held), (13, .held), (4, .eff), (9, .eff), (14, .eff), (15, .at_), (16, .eff), (17, .at_)] ?L1 (by kernel_rfl) (by kernel_rfl) ?hL1 (⟨La.2.1, La.2.2.1⟩) ?hG1
  case hL1 => simp only [pickOps, List.map_cons, List.map_nil, List.getD_cons_zero, List.getD_cons_succ]; rfl
  repeat (first | (refine wpG_at (v := ?_) (by rfl) ?_ ?_; rotate_left; (focus (first | (go_simp; with_reducible rfl) | (go_simp; done))); simp only [Act.put, List.setIfInBounds_toArray, List.set_cons_zero, List.set_cons_succ]) | (refine wpG_at_skip (by rfl) ?_; simp only [Act.put, List.setIfInBounds_toArray, List.set_cons_zero, List.set_cons_succ]) | (refine wpG_held_skip (by rfl) ?_; simp only [Act.put, List.setIfInBounds_toArray, List.set_cons_zero, List.set_cons_succ]) | (refine wpG_held (v := ?_) (by rfl) ?_ ?_; rotate_left; (focus (intro w' hSw; (try dsimp only at hSw); go_split_ands; first | (go_simp; with_reducible rfl) | (go_simp; done))); simp only [Act.put, List.setIfInBounds_toArray, List.set_cons_zero, List.set_cons_succ]))
  refine wpG_eff (by rfl) (fun K hK => ?_)
  refine Lib.wp_append_run _ _ _ 43 43 rfl (.slice none 0 0) (.slice o1 D.length d1) rfl rfl _ _ hra.out ?_
  refine hK _ _ ⟨Lb.2.1, Lb.2.2.1⟩ ?_
  clear hK K
  repeat (first | (refine wpG_at (v := ?_) (by rfl) ?_ ?_; rotate_left; (focus (first | (go_simp; with_reducible rfl) | (go_simp; done))); simp only [Act.put, List.setIfInBounds_toArray, List.set_cons_zero, List.set_cons_succ]) | (refine wpG_at_skip (by rfl) ?_; simp only [Act.put, List.setIfInBounds_toArray, List.set_cons_zero, List.set_cons_succ]) | (refine wpG_held_skip (by rfl) ?_; simp only [Act.put, List.setIfInBounds_toArray, List.set_cons_zero, List.set_cons_succ]) | (refine wpG_held (v := ?_) (by rfl) ?_ ?_; rotate_left; (focus (intro w' hSw; (try dsimp only at hSw); go_split_ands; first | (go_simp; with_reducible rfl) | (go_simp; done))); simp only [Act.put, List.setIfInBounds_toArray, List.set_cons_zero, List.set_cons_succ]))
  refine wpG_eff (by rfl) (fun K hK => ?_)
  refine Lib.wp_append_run _ _ _ 43 43 rfl (.slice none 0 0) (.slice o2 Z.length d2) rfl rfl _ _ hrb.out ?_
  refine hK _ _ ⟨Lc.2.1, Lc.2.2.1⟩ ?_
  clear hK K
  repeat (first | (refine wpG_at (v := ?_) (by rfl) ?_ ?_; rotate_left; (focus (first | (go_simp; with_reducible rfl) | (go_simp; done))); simp only [Act.put, List.setIfInBounds_toArray, List.set_cons_zero, List.set_cons_succ]) | (refine wpG_at_skip (by rfl) ?_; simp only [Act.put, List.setIfInBounds_toArray, List.set_cons_zero, List.set_cons_succ]) | (refine wpG_held_skip (by rfl) ?_; simp only [Act.put, List.setIfInBounds_toArray, List.set_cons_zero, List.set_cons_succ]) | (refine wpG_held (v := ?_) (by rfl) ?_ ?_; rotate_left; (focus (intro w' hSw; (try dsimp only at hSw); go_split_ands; first | (go_simp; with_reducible rfl) | (go_simp; done))); simp only [Act.put, List.setIfInBounds_toArray, List.set_cons_zero, List.set_cons_succ]))
  refine wpG_eff (by rfl) (fun K hK => ?_)
  refine Lib.wp_append_run _ _ _ 52 52 rfl (.slice none 0 0) (.slice o3 G.length d3) rfl rfl _ _ hrc.out ?_
  refine hK _ _ ⟨Ld.2.1, Ld.2.2.1⟩ ?_
  clear hK K
  repeat (first | (refine wpG_at (v := ?_) (by rfl) ?_ ?_; rotate_left; (focus (first | (go_simp; with_reducible rfl) | (go_simp; done))); simp only [Act.put, List.setIfInBounds_toArray, List.set_cons_zero, List.set_cons_succ]) | (refine wpG_at_skip (by rfl) ?_; simp only [Act.put, List.setIfInBounds_toArray, List.set_cons_zero, List.set_cons_succ]) | (refine wpG_held_skip (by rfl) ?_; simp only [Act.put, List.setIfInBounds_toArray, List.set_cons_zero, List.set_cons_succ]) | (refine wpG_held (v := ?_) (by rfl) ?_ ?_; rotate_left; (focus (intro w' hSw; (try dsimp only at hSw); go_split_ands; first | (go_simp; with_reducible rfl) | (go_simp; done))); simp only [Act.put, List.setIfInBounds_toArray, List.set_cons_zero, List.set_cons_succ]))
  refine wpG_eff (by rfl) (fun K hK => ?_)
  go_simp
  have Le := loc3 (blk_alloc (o' := .cells #[.slice o4 D.length d4, .slice o5 Z.length d5, .slice o6 G.length d6] 54) hqc.out)
  refine hK _ _ ⟨Le.2.1, Le.2.2.1⟩ ?_
  clear hK K
  repeat (first | (refine wpG_at (v := ?_) (by rfl) ?_ ?_; rotate_left; (focus (first | (go_simp; with_reducible rfl) | (go_simp; done))); simp only [Act.put, List.setIfInBounds_toArray, List.set_cons_zero, List.set_cons_succ]) | (refine wpG_at_skip (by rfl) ?_; simp only [Act.put, List.setIfInBounds_toArray, List.set_cons_zero, List.set_cons_succ]) | (refine wpG_held_skip (by rfl) ?_; simp only [Act.put, List.setIfInBounds_toArray, List.set_cons_zero, List.set_cons_succ]) | (refine wpG_held (v := ?_) (by rfl) ?_ ?_; rotate_left; (focus (intro w' hSw; (try dsimp only at hSw); go_split_ands; first | (go_simp; with_reducible rfl) | (go_simp; done))); simp only [Act.put, List.setIfInBounds_toArray, List.set_cons_zero, List.set_cons_succ]))
  refine wpG_nil (NoPanic.normal ?_)
  go_wp2_with fail
  go_ret
  exact ⟨_, _, _, _, rfl, QF.out, hqs.out, fun b hb => (hna'.out b hb).1, fun b hb => by have := hnb'.out b hb; have := hsa'.out; omega, hnc'.out, KT.out.alloc _⟩
end
open Go.RowKit Go.Shelf
attribute [local go_sem ↓] Go.wp_at_zero Go.wp_at_succ
theorem rel_at {Z : List Nat} {S : List (Ret × List Int)} {j : Nat} {x : Ret} {out : List Int} (h : S[j]? = some (x, out)) : (relR Z S)[j]? = some (x, waitsOf Z out) := by
  unfold relR
  rw [List.getElem?_map, h]; rfl
section
variable {w w' : World} {q q2 K K2 : Nat} {dv ov rv dv2 ov2 rv2 : Value} {D Z D2 Z2 : List Nat} {G G2 : List QV} {S S2 : List (Ret × List Int)}
set_option maxRecDepth 100000 in
set_option maxHeartbeats 16000000 in
theorem dsame_any (A : QAt w q dv ov rv D Z G S) (B : QAt w q2 dv2 ov2 rv2 D2 Z2 G2 S2) (oA : QOkS D Z S K) (oB : QOkS D2 Z2 S2 K2) :
    Calls Try.prog 30 #[.pointer (some ⟨q, 0, none⟩), .pointer (some ⟨q2, 0, none⟩)] w fun e w' => e = .returned (.bool (decide (D = D2) && decide (relR Z S = relR Z2 S2))) ∧ Kp NoB w w' := by
  have HI := hid (fun W (k : Kp NoB w W) => (sameints_any ((row_int (A.hd.kp k (fun _ _ h => h))).sl eI_len (by omega)) ((row_int (B.hd.kp k (fun _ _ h => h))).sl eI_len (by omega)) (by have := oA.n8; rw [List.length_map]; omega) (by have := oB.n8; rw [List.length_map]; omega)).mono
    (R' := fun e w' => e = .returned (.bool (decide (D = D2))) ∧ Kp NoB W w') (fun e w' h => ⟨by rw [h.1, decide_eq_decide.2 map_int_inj], h.2⟩))
  have A0 := hid A
  have B0 := hid B
  have OA := hid oA
  have OB := hid oB
  have hS : S.length ≤ 1000 := Nat.le_trans oA.r oA.k
  obtain ⟨o1, c1, e1, _⟩ := A.hd.form
  obtain ⟨o2, c2, e2, _⟩ := B.hd.form
  obtain ⟨o3, c3, e3, _⟩ := A.hr.form
  obtain ⟨o4, c4, e4, _⟩ := B.hr.form
  rw [A.hl] at e3
  rw [B.hl] at e4
  subst e1; subst e2; subst e3; subst e4
  have La := loc3 A.hq
  have Lb := loc3 B.hq
  clear A B oA oB
  by_cases hd : D = D2
  · rw [decide_eq_true hd] at HI ⊢
    rw [Bool.true_and]
    clear hd
    by_cases hl : S.length = S2.length
    · have f1 : ((S.length : Int) == (S2.length : Int)) = true := by simp; omega
      have f2 : ((S.length : Int) != (S2.length : Int)) = false := by simp; omega
      have hrl : (relR Z S).length = (relR Z2 S2).length := by unfold relR; rw [List.length_map, List.length_map, hl]
      have hrl' : (relR Z S).length = S.length := by unfold relR; rw [List.length_map]
      replace hl := hid hl
      replace hrl := hid hrl
      replace hrl' := hid hrl'
      go_enter Try.func30, Try.ntmps30
      go_wp2_with fail
      refine wp_region_G (fun _ => True) [(0, .at_), (1, .at_), (2, .at_), (3, .at_), (4, .at_), (5, .at_), (6, .at_), (7, .at_), (8, .eff), (9, .at_), (10, .at_), (11, .at_), (12, .at_), (13, .at_), (14, .at_), (15, .at_), (16, .at_), (17, .at_), (18, .at_), (19, .at_), (20, .at_), (21, .at_), (22, .at_)] ?L2 (by kernel_rfl) (by kernel_rfl) ?hL2 (trivial) ?hG2
      case hL2 => simp only [pickOps, List.map_cons, List.map_nil, List.getD_cons_zero, List.getD_cons_succ]; rfl
      repeat (first | (refine wpG_at (v := ?_) (by rfl) ?_ ?_; rotate_left; (focus (first | (go_simp; with_reducible rfl) | (go_simp; done))); simp only [Act.put, List.setIfInBounds_toArray, List.set_cons_zero, List.set_cons_succ]) | (refine wpG_at_skip (by rfl) ?_; simp only [Act.put, List.setIfInBounds_toArray, List.set_cons_zero, List.set_cons_succ]) | (refine wpG_held_skip (by rfl) ?_; simp only [Act.put, List.setIfInBounds_toArray, List.set_cons_zero, List.set_cons_succ]) | (refine wpG_held (v := ?_) (by rfl) ?_ ?_; rotate_left; (focus (intro w' hSw; (try dsimp only at hSw); go_split_ands; first | (go_simp; with_reducible rfl) | (go_simp; done))); simp only [Act.put, List.setIfInBounds_toArray, List.set_cons_zero, List.set_cons_succ]))
      refine wpG_eff (by rfl) (fun K hK => ?_)
      go_simp
      refine (HI.out _ (Kp.refl NoB w).drew).mono ?_
      rintro e w1 ⟨rfl, k1⟩
      have K1 := hid (((Kp.refl NoB w).drew).trans k1)
      have La1 := loc3 (K1.out.get A0.out.hq (fun h => h))
      have Lb1 := loc3 (K1.out.get B0.out.hq (fun h => h))
      refine hK _ _ trivial ?_
      clear hK K La Lb k1
      repeat (first | (refine wpG_at (v := ?_) (by rfl) ?_ ?_; rotate_left; (focus (first | (go_simp; with_reducible rfl) | (go_simp; done))); simp only [Act.put, List.setIfInBounds_toArray, List.set_cons_zero, List.set_cons_succ]) | (refine wpG_at_skip (by rfl) ?_; simp only [Act.put, List.setIfInBounds_toArray, List.set_cons_zero, List.set_cons_succ]) | (refine wpG_held_skip (by rfl) ?_; simp only [Act.put, List.setIfInBounds_toArray, List.set_cons_zero, List.set_cons_succ]) | (refine wpG_held (v := ?_) (by rfl) ?_ ?_; rotate_left; (focus (intro w' hSw; (try dsimp only at hSw); go_split_ands; first | (go_simp; with_reducible rfl) | (go_simp; done))); simp only [Act.put, List.setIfInBounds_toArray, List.set_cons_zero, List.set_cons_succ]))
      refine wpG_nil (NoPanic.normal ?_)
      clear La1 Lb1
      go_wp2_with fail
      go_loopw [5] (fun i W => ∃ j : Nat, j ≤ S.length ∧ i = .int .i64 j ∧ Hid ((relR Z S).take j = (relR Z2 S2).take j) ∧ Kp NoB w W) (fun i _ => S.length - (intOf i).toNat)
      case atStart => exact ⟨0, Nat.zero_le _, rfl, hid (by simp), K1.out⟩
      case round =>
        obtain ⟨j, hj, rfl, hT, hK⟩ := hrel
        have d1 : (0 : Int) ≤ (j : Int) := Int.natCast_nonneg _
        have hA := A0.out.kn hK
        have hB := B0.out.kn hK
        have La := loc3 hA.hq
        by_cases hlt : j < S.length
        · have d2 : (j : Int) < (S.length : Int) := by omega
          have d3 : (j : Int) < (S2.length : Int) := by have := hl.out; omega
          have Lb := loc3 hB.hq
          obtain ⟨⟨x, out1⟩, ha⟩ : ∃ a, S[j]? = some a := ⟨_, List.getElem?_eq_getElem hlt⟩
          obtain ⟨⟨y, out2⟩, hb⟩ : ∃ b, S2[j]? = some b := ⟨_, List.getElem?_eq_getElem (by have := hl.out; omega)⟩
          obtain ⟨h1, hh1⟩ : ∃ h', G[j]? = some h' := ⟨_, List.getElem?_eq_getElem (by rw [hA.hl]; exact hlt)⟩
          obtain ⟨h2, hh2⟩ : ∃ h', G2[j]? = some h' := ⟨_, List.getElem?_eq_getElem (by rw [hB.hl]; have := hl.out; omega)⟩
          have k1 := hA.hh j h1 x out1 hh1 ha
          have k2 := hB.hh j h2 y out2 hh2 hb
          obtain ⟨b1, cc1, ev1, _, lb1, La0, La1, La2, La3⟩ := qrow_cells hA hh1
          obtain ⟨b2, cc2, ev2, _, lb2, Lb0, Lb1, Lb2, Lb3⟩ := qrow_cells hB hh2
          injection ev1 with ea eb ec
          subst ea; subst ec
          clear eb
          injection ev2 with ea eb ec
          subst ea; subst ec
          clear eb
          have x1 := OA.out.x x out1 (List.mem_of_getElem? ha)
          have x2 := OB.out.x y out2 (List.mem_of_getElem? hb)
          have HO := hid (fun W (k : Kp NoB wr W) => sameone_any (k1.x.kn k).ss (k2.x.kn k).ss x1 x2)
          have HWa := hid (fun W (k : Kp NoB wr W) (a b c : Value) => qwaits_any (a := a) (b := b) (c := c) (hA.kn k) (k1.o.kp k (fun _ _ h => h)) (by rw [OA.out.o x out1 (List.mem_of_getElem? ha), OA.out.zl]; exact Nat.le_refl _) (by rw [OA.out.zl]; exact OA.out.n8))
          have HWb := hid (fun W (k : Kp NoB wr W) (a b c : Value) => qwaits_any (a := a) (b := b) (c := c) (hB.kn k) (k2.o.kp k (fun _ _ h => h)) (by rw [OB.out.o y out2 (List.mem_of_getElem? hb), OB.out.zl]; exact Nat.le_refl _) (by rw [OB.out.zl]; exact OB.out.n8))
          have n1 : (ints (waitsOf Z out1)).length ≤ 100000 := by
            unfold ints waitsOf wK
            rw [List.length_map]
            refine Nat.le_trans (List.length_filter_le _ _) ?_
            rw [List.length_range, OA.out.o x out1 (List.mem_of_getElem? ha)]
            have := OA.out.n8; omega
          have n2 : (ints (waitsOf Z2 out2)).length ≤ 100000 := by
            unfold ints waitsOf wK
            rw [List.length_map]
            refine Nat.le_trans (List.length_filter_le _ _) ?_
            rw [List.length_range, OB.out.o y out2 (List.mem_of_getElem? hb)]
            have := OB.out.n8; omega
          obtain ⟨ha1, hb1, hc1, ho1⟩ := h1
          obtain ⟨ha2, hb2, hc2, ho2⟩ := h2
          obtain ⟨p1, s1, e3, _⟩ := k1.x.a.form
          obtain ⟨p2, s2, e4, _⟩ := k1.x.b.form
          obtain ⟨p3, s3, e5, _⟩ := k1.x.c.form
          obtain ⟨p4, s4, e6, _⟩ := k2.x.a.form
          obtain ⟨p5, s5, e7, _⟩ := k2.x.b.form
          obtain ⟨p6, s6, e8, _⟩ := k2.x.c.form
          obtain ⟨p7, s7, e9, _⟩ := k1.o.form
          obtain ⟨p8, s8, e10, _⟩ := k2.o.form
          dsimp only at e3 e4 e5 e6 e7 e8 e9 e10 La0 La1 La2 La3 Lb0 Lb1 Lb2 Lb3 HO HWa HWb
          subst e3; subst e4; subst e5; subst e6; subst e7; subst e8; subst e9; subst e10
          have HCa := hid (fun W (k : Kp NoB wr W) => (⟨(cell_blk (by exact k.blk q (blk_lt hA.hq) (fun h => h))).trans La.2.2.1, (cell_blk (by exact k.blk b1 lb1 (fun h => h))).trans La0, (cell_blk (by exact k.blk b1 lb1 (fun h => h))).trans La1, (cell_blk (by exact k.blk b1 lb1 (fun h => h))).trans La2, (cell_blk (by exact k.blk b1 lb1 (fun h => h))).trans La3⟩ : W.cell? ⟨q, 2, none⟩ = some (.slice (some ⟨b1, 0, none⟩) S.length c3) ∧ W.cell? ⟨b1, j * 4, none⟩ = some (.slice p1 x.a.length s1) ∧ W.cell? ⟨b1, j * 4 + 1, none⟩ = some (.slice p2 x.b.length s2) ∧ W.cell? ⟨b1, j * 4 + 2, none⟩ = some (.slice p3 x.c.length s3) ∧ W.cell? ⟨b1, j * 4 + 3, none⟩ = some (.slice p7 out1.length s7)))
          have HCb := hid (fun W (k : Kp NoB wr W) => (⟨(cell_blk (by exact k.blk q2 (blk_lt hB.hq) (fun h => h))).trans Lb.2.2.1, (cell_blk (by exact k.blk b2 lb2 (fun h => h))).trans Lb0, (cell_blk (by exact k.blk b2 lb2 (fun h => h))).trans Lb1, (cell_blk (by exact k.blk b2 lb2 (fun h => h))).trans Lb2, (cell_blk (by exact k.blk b2 lb2 (fun h => h))).trans Lb3⟩ : W.cell? ⟨q2, 2, none⟩ = some (.slice (some ⟨b2, 0, none⟩) S2.length c4) ∧ W.cell? ⟨b2, j * 4, none⟩ = some (.slice p4 y.a.length s4) ∧ W.cell? ⟨b2, j * 4 + 1, none⟩ = some (.slice p5 y.b.length s5) ∧ W.cell? ⟨b2, j * 4 + 2, none⟩ = some (.slice p6 y.c.length s6) ∧ W.cell? ⟨b2, j * 4 + 3, none⟩ = some (.slice p8 out2.length s8)))
          have ra := rel_at (Z := Z) ha
          have rb := rel_at (Z := Z2) hb
          have hK' := hid hK
          replace hA := hid hA
          replace hB := hid hB
          replace k1 := hid k1
          replace k2 := hid k2
          replace hK := hid hK
          replace hh1 := hid hh1
          replace hh2 := hid hh2
          replace ha := hid ha
          replace hb := hid hb
          replace x1 := hid x1
          replace x2 := hid x2
          replace ra := hid ra
          replace rb := hid rb
          replace n1 := hid n1
          replace n2 := hid n2
          by_cases hxy : x = y
          · rw [decide_eq_true hxy] at HO
            have hxy' := hid hxy
            clear hxy
            go_wp2_with fail
            refine wp_region_G (fun W => W.cell? ⟨q2, 2, none⟩ = some (.slice (some ⟨b2, 0, none⟩) S2.length c4) ∧ W.cell? ⟨b2, j * 4, none⟩ = some (.slice p4 y.a.length s4) ∧ W.cell? ⟨b2, j * 4 + 1, none⟩ = some (.slice p5 y.b.length s5) ∧ W.cell? ⟨b2, j * 4 + 2, none⟩ = some (.slice p6 y.c.length s6) ∧ W.cell? ⟨b2, j * 4 + 3, none⟩ = some (.slice p8 out2.length s8)) [(0, .at_), (1, .at_), (2, .at_), (3, .at_), (4, .at_), (5, .at_), (6, .at_), (7, .at_), (8, .at_), (9, .at_), (10, .at_), (11, .at_), (12, .at_), (13, .at_), (14, .at_), (15, .at_), (16, .eff), (17, .at_), (18, .at_), (19, .at_), (20, .at_), (21, .at_), (22, .at_), (23, .at_), (24, .at_), (25, .at_), (26, .at_), (28, .held), (29, .held), (30, .held), (31, .held), (32, .held), (33, .held), (34, .held), (35, .held), (27, .eff), (36, .eff), (37, .eff), (38, .at_), (39, .at_)] ?L3 (by kernel_rfl) (by kernel_rfl) ?hL3 (HCb.out _ ((Kp.refl NoB wr).drew)) ?hG3
            case hL3 => simp only [pickOps, List.map_cons, List.map_nil, List.getD_cons_zero, List.getD_cons_succ]; rfl
            repeat (first | (refine wpG_at (v := ?_) (by rfl) ?_ ?_; rotate_left; (focus (first | (go_simp; with_reducible rfl) | (go_simp; done))); simp only [Act.put, List.setIfInBounds_toArray, List.set_cons_zero, List.set_cons_succ]) | (refine wpG_at_skip (by rfl) ?_; simp only [Act.put, List.setIfInBounds_toArray, List.set_cons_zero, List.set_cons_succ]) | (refine wpG_held_skip (by rfl) ?_; simp only [Act.put, List.setIfInBounds_toArray, List.set_cons_zero, List.set_cons_succ]) | (refine wpG_held (v := ?_) (by rfl) ?_ ?_; rotate_left; (focus (intro w' hSw; (try dsimp only at hSw); go_split_ands; first | (go_simp; with_reducible rfl) | (go_simp; done))); simp only [Act.put, List.setIfInBounds_toArray, List.set_cons_zero, List.set_cons_succ]))
            refine wpG_eff (by rfl) (fun K hK => ?_)
            go_simp
            refine (HO.out _ ((Kp.refl NoB wr).drew)).mono ?_
            rintro e w2 ⟨rfl, k3⟩
            have K2 := hid (((Kp.refl NoB wr).drew).trans k3)
            obtain ⟨u0, u1, u2, u3, u4⟩ := HCa.out _ K2.out
            refine hK _ _ (HCb.out _ K2.out) ?_
            clear hK K k3
            repeat (first | (refine wpG_at (v := ?_) (by rfl) ?_ ?_; rotate_left; (focus (first | (go_simp; with_reducible rfl) | (go_simp; done))); simp only [Act.put, List.setIfInBounds_toArray, List.set_cons_zero, List.set_cons_succ]) | (refine wpG_at_skip (by rfl) ?_; simp only [Act.put, List.setIfInBounds_toArray, List.set_cons_zero, List.set_cons_succ]) | (refine wpG_held_skip (by rfl) ?_; simp only [Act.put, List.setIfInBounds_toArray, List.set_cons_zero, List.set_cons_succ]) | (refine wpG_held (v := ?_) (by rfl) ?_ ?_; rotate_left; (focus (intro w' hSw; (try dsimp only at hSw); go_split_ands; first | (go_simp; with_reducible rfl) | (go_simp; done))); simp only [Act.put, List.setIfInBounds_toArray, List.set_cons_zero, List.set_cons_succ]))
            refine wpG_eff (by rfl) (fun K hK => ?_)
            go_simp
            refine (HWa.out _ K2.out _ _ _).mono ?_
            rintro e w3 ⟨va, rfl, r3, _, k3⟩
            have K3 := hid (K2.out.trans k3)
            have R3 := hid r3
            refine hK _ _ (HCb.out _ K3.out) ?_
            clear hK K k3 r3 u0 u1 u2 u3 u4
            repeat (first | (refine wpG_at (v := ?_) (by rfl) ?_ ?_; rotate_left; (focus (first | (go_simp; with_reducible rfl) | (go_simp; done))); simp only [Act.put, List.setIfInBounds_toArray, List.set_cons_zero, List.set_cons_succ]) | (refine wpG_at_skip (by rfl) ?_; simp only [Act.put, List.setIfInBounds_toArray, List.set_cons_zero, List.set_cons_succ]) | (refine wpG_held_skip (by rfl) ?_; simp only [Act.put, List.setIfInBounds_toArray, List.set_cons_zero, List.set_cons_succ]) | (refine wpG_held (v := ?_) (by rfl) ?_ ?_; rotate_left; (focus (intro w' hSw; (try dsimp only at hSw); go_split_ands; first | (go_simp; with_reducible rfl) | (go_simp; done))); simp only [Act.put, List.setIfInBounds_toArray, List.set_cons_zero, List.set_cons_succ]))
            refine wpG_eff (by rfl) (fun K hK => ?_)
            go_simp
            refine (HWb.out _ K3.out _ _ _).mono ?_
            rintro e w4 ⟨vb, rfl, r4, _, k4⟩
            have K4 := hid (K3.out.trans k4)
            have HQ := hid (sameints_any ((R3.out.kp k4 (fun _ _ h => h)).sl eI_len (by omega)) (r4.sl eI_len (by omega)) n1.out n2.out)
            obtain ⟨_, _, eva, _⟩ := R3.out.form
            obtain ⟨_, _, evb, _⟩ := r4.form
            subst eva; subst evb
            refine hK _ _ (HCb.out _ K4.out) ?_
            clear hK K k4 r4
            repeat (first | (refine wpG_at (v := ?_) (by rfl) ?_ ?_; rotate_left; (focus (first | (go_simp; with_reducible rfl) | (go_simp; done))); simp only [Act.put, List.setIfInBounds_toArray, List.set_cons_zero, List.set_cons_succ]) | (refine wpG_at_skip (by rfl) ?_; simp only [Act.put, List.setIfInBounds_toArray, List.set_cons_zero, List.set_cons_succ]) | (refine wpG_held_skip (by rfl) ?_; simp only [Act.put, List.setIfInBounds_toArray, List.set_cons_zero, List.set_cons_succ]) | (refine wpG_held (v := ?_) (by rfl) ?_ ?_; rotate_left; (focus (intro w' hSw; (try dsimp only at hSw); go_split_ands; first | (go_simp; with_reducible rfl) | (go_simp; done))); simp only [Act.put, List.setIfInBounds_toArray, List.set_cons_zero, List.set_cons_succ]))
            refine wpG_eff (by rfl) (fun K hK => ?_)
            go_simp
            refine HQ.out.mono ?_
            rintro e w5 ⟨rfl, k5⟩
            have K5 := hid (K4.out.trans k5)
            have KF := hid (hK'.out.trans K5.out)
            refine hK _ _ (HCb.out _ K5.out) ?_
            clear hK K k5
            by_cases hw : ints (waitsOf Z out1) = ints (waitsOf Z2 out2)
            · rw [decide_eq_true hw]
              have hT' := hid (take_next hT.out ra.out (by rw [hxy'.out, map_int_inj.1 hw]; exact rb.out))
              clear hw
              repeat (first | (refine wpG_at (v := ?_) (by rfl) ?_ ?_; rotate_left; (focus (first | (go_simp; with_reducible rfl) | (go_simp; done))); simp only [Act.put, List.setIfInBounds_toArray, List.set_cons_zero, List.set_cons_succ]) | (refine wpG_at_skip (by rfl) ?_; simp only [Act.put, List.setIfInBounds_toArray, List.set_cons_zero, List.set_cons_succ]) | (refine wpG_held_skip (by rfl) ?_; simp only [Act.put, List.setIfInBounds_toArray, List.set_cons_zero, List.set_cons_succ]) | (refine wpG_held (v := ?_) (by rfl) ?_ ?_; rotate_left; (focus (intro w' hSw; (try dsimp only at hSw); go_split_ands; first | (go_simp; with_reducible rfl) | (go_simp; done))); simp only [Act.put, List.setIfInBounds_toArray, List.set_cons_zero, List.set_cons_succ]))
              refine wpG_nil (NoPanic.normal ?_)
              go_wp2_with fail
              go_roundw
              case rel => exact ⟨j + 1, by omega, by go_num, hT', KF.out⟩
              case measure => simp [intOf]; omega
            · rw [decide_eq_false hw]
              have hne := hid (ne_at ra.out rb.out (fun e => hw (by injection e with _ e; rw [e])))
              clear hw
              repeat (first | (refine wpG_at (v := ?_) (by rfl) ?_ ?_; rotate_left; (focus (first | (go_simp; with_reducible rfl) | (go_simp; done))); simp only [Act.put, List.setIfInBounds_toArray, List.set_cons_zero, List.set_cons_succ]) | (refine wpG_at_skip (by rfl) ?_; simp only [Act.put, List.setIfInBounds_toArray, List.set_cons_zero, List.set_cons_succ]) | (refine wpG_held_skip (by rfl) ?_; simp only [Act.put, List.setIfInBounds_toArray, List.set_cons_zero, List.set_cons_succ]) | (refine wpG_held (v := ?_) (by rfl) ?_ ?_; rotate_left; (focus (intro w' hSw; (try dsimp only at hSw); go_split_ands; first | (go_simp; with_reducible rfl) | (go_simp; done))); simp only [Act.put, List.setIfInBounds_toArray, List.set_cons_zero, List.set_cons_succ]))
              refine wpG_nil (NoPanic.normal ?_)
              go_wp2_with fail
              go_ret
              exact ⟨by rw [decide_eq_false hne.out]; rfl, KF.out⟩
          · rw [decide_eq_false hxy] at HO
            have hne := hid (ne_at ra.out rb.out (fun e => hxy (by injection e)))
            clear hxy
            go_wp2_with fail
            refine wp_region_G (fun _ => True) [(0, .at_), (1, .at_), (2, .at_), (3, .at_), (4, .at_), (5, .at_), (6, .at_), (7, .at_), (8, .at_), (9, .at_), (10, .at_), (11, .at_), (12, .at_), (13, .at_), (14, .at_), (15, .at_), (16, .eff), (17, .at_), (18, .at_), (19, .at_), (20, .at_), (21, .at_), (22, .at_), (23, .at_), (24, .at_), (25, .at_), (26, .at_), (28, .held), (29, .held), (30, .held), (31, .held), (32, .held), (33, .held), (34, .held), (35, .held), (27, .eff), (36, .eff), (37, .eff), (38, .at_), (39, .at_)] ?L4 (by kernel_rfl) (by kernel_rfl) ?hL4 (trivial) ?hG4
            case hL4 => simp only [pickOps, List.map_cons, List.map_nil, List.getD_cons_zero, List.getD_cons_succ]; rfl
            repeat (first | (refine wpG_at (v := ?_) (by rfl) ?_ ?_; rotate_left; (focus (first | (go_simp; with_reducible rfl) | (go_simp; done))); simp only [Act.put, List.setIfInBounds_toArray, List.set_cons_zero, List.set_cons_succ]) | (refine wpG_at_skip (by rfl) ?_; simp only [Act.put, List.setIfInBounds_toArray, List.set_cons_zero, List.set_cons_succ]) | (refine wpG_held_skip (by rfl) ?_; simp only [Act.put, List.setIfInBounds_toArray, List.set_cons_zero, List.set_cons_succ]) | (refine wpG_held (v := ?_) (by rfl) ?_ ?_; rotate_left; (focus (intro w' hSw; (try dsimp only at hSw); go_split_ands; first | (go_simp; with_reducible rfl) | (go_simp; done))); simp only [Act.put, List.setIfInBounds_toArray, List.set_cons_zero, List.set_cons_succ]))
            refine wpG_eff (by rfl) (fun K hK => ?_)
            go_simp
            refine (HO.out _ ((Kp.refl NoB wr).drew)).mono ?_
            rintro e w2 ⟨rfl, k3⟩
            have KF := hid (hK'.out.trans (((Kp.refl NoB wr).drew).trans k3))
            refine hK _ _ trivial ?_
            clear hK K k3
            repeat (first | (refine wpG_at (v := ?_) (by rfl) ?_ ?_; rotate_left; (focus (first | (go_simp; with_reducible rfl) | (go_simp; done))); simp only [Act.put, List.setIfInBounds_toArray, List.set_cons_zero, List.set_cons_succ]) | (refine wpG_at_skip (by rfl) ?_; simp only [Act.put, List.setIfInBounds_toArray, List.set_cons_zero, List.set_cons_succ]) | (refine wpG_held_skip (by rfl) ?_; simp only [Act.put, List.setIfInBounds_toArray, List.set_cons_zero, List.set_cons_succ]) | (refine wpG_held (v := ?_) (by rfl) ?_ ?_; rotate_left; (focus (intro w' hSw; (try dsimp only at hSw); go_split_ands; first | (go_simp; with_reducible rfl) | (go_simp; done))); simp only [Act.put, List.setIfInBounds_toArray, List.set_cons_zero, List.set_cons_succ]))
            refine wpG_eff_skip (by rfl) trivial ?_; simp only [Act.put, List.setIfInBounds_toArray, List.set_cons_zero, List.set_cons_succ]
            repeat (first | (refine wpG_at (v := ?_) (by rfl) ?_ ?_; rotate_left; (focus (first | (go_simp; with_reducible rfl) | (go_simp; done))); simp only [Act.put, List.setIfInBounds_toArray, List.set_cons_zero, List.set_cons_succ]) | (refine wpG_at_skip (by rfl) ?_; simp only [Act.put, List.setIfInBounds_toArray, List.set_cons_zero, List.set_cons_succ]) | (refine wpG_held_skip (by rfl) ?_; simp only [Act.put, List.setIfInBounds_toArray, List.set_cons_zero, List.set_cons_succ]) | (refine wpG_held (v := ?_) (by rfl) ?_ ?_; rotate_left; (focus (intro w' hSw; (try dsimp only at hSw); go_split_ands; first | (go_simp; with_reducible rfl) | (go_simp; done))); simp only [Act.put, List.setIfInBounds_toArray, List.set_cons_zero, List.set_cons_succ]))
            refine wpG_eff_skip (by rfl) trivial ?_; simp only [Act.put, List.setIfInBounds_toArray, List.set_cons_zero, List.set_cons_succ]
            repeat (first | (refine wpG_at (v := ?_) (by rfl) ?_ ?_; rotate_left; (focus (first | (go_simp; with_reducible rfl) | (go_simp; done))); simp only [Act.put, List.setIfInBounds_toArray, List.set_cons_zero, List.set_cons_succ]) | (refine wpG_at_skip (by rfl) ?_; simp only [Act.put, List.setIfInBounds_toArray, List.set_cons_zero, List.set_cons_succ]) | (refine wpG_held_skip (by rfl) ?_; simp only [Act.put, List.setIfInBounds_toArray, List.set_cons_zero, List.set_cons_succ]) | (refine wpG_held (v := ?_) (by rfl) ?_ ?_; rotate_left; (focus (intro w' hSw; (try dsimp only at hSw); go_split_ands; first | (go_simp; with_reducible rfl) | (go_simp; done))); simp only [Act.put, List.setIfInBounds_toArray, List.set_cons_zero, List.set_cons_succ]))
            refine wpG_eff_skip (by rfl) trivial ?_; simp only [Act.put, List.setIfInBounds_toArray, List.set_cons_zero, List.set_cons_succ]
            repeat (first | (refine wpG_at (v := ?_) (by rfl) ?_ ?_; rotate_left; (focus (first | (go_simp; with_reducible rfl) | (go_simp; done))); simp only [Act.put, List.setIfInBounds_toArray, List.set_cons_zero, List.set_cons_succ]) | (refine wpG_at_skip (by rfl) ?_; simp only [Act.put, List.setIfInBounds_toArray, List.set_cons_zero, List.set_cons_succ]) | (refine wpG_held_skip (by rfl) ?_; simp only [Act.put, List.setIfInBounds_toArray, List.set_cons_zero, List.set_cons_succ]) | (refine wpG_held (v := ?_) (by rfl) ?_ ?_; rotate_left; (focus (intro w' hSw; (try dsimp only at hSw); go_split_ands; first | (go_simp; with_reducible rfl) | (go_simp; done))); simp only [Act.put, List.setIfInBounds_toArray, List.set_cons_zero, List.set_cons_succ]))
            refine wpG_nil (NoPanic.normal ?_)
            go_wp2_with fail
            go_ret
            exact ⟨by rw [decide_eq_false hne.out]; rfl, KF.out⟩
        · have d2 : ¬ (j : Int) < (S.length : Int) := by omega
          obtain rfl : j = S.length := by omega
          have hlm := hid (take_end (show (relR Z S).take (relR Z S).length = (relR Z2 S2).take (relR Z S).length by rw [hrl'.out]; exact hT.out) hrl.out)
          replace hA := hid hA
          replace hB := hid hB
          replace hK := hid hK
          go_wp2_with fail
          go_ret
          exact ⟨by rw [decide_eq_true hlm.out]; rfl, hK.out⟩
    · have f1 : ((S.length : Int) == (S2.length : Int)) = false := by simp; omega
      have f2 : ((S.length : Int) != (S2.length : Int)) = true := by simp; omega
      have hne := hid (show decide (relR Z S = relR Z2 S2) = false from decide_eq_false (fun e => hl (by have := congrArg List.length e; unfold relR at this; rw [List.length_map, List.length_map] at this; exact this)))
      replace hl := hid hl
      go_enter Try.func30, Try.ntmps30
      go_wp2_with fail
      refine wp_region_G (fun _ => True) [(0, .at_), (1, .at_), (2, .at_), (3, .at_), (4, .at_), (5, .at_), (6, .at_), (7, .at_), (8, .eff), (9, .at_), (10, .at_), (11, .at_), (12, .at_), (13, .at_), (14, .at_), (15, .at_), (16, .at_), (17, .at_), (18, .at_), (19, .at_), (20, .at_), (21, .at_), (22, .at_)] ?L5 (by kernel_rfl) (by kernel_rfl) ?hL5 (trivial) ?hG5
      case hL5 => simp only [pickOps, List.map_cons, List.map_nil, List.getD_cons_zero, List.getD_cons_succ]; rfl
      repeat (first | (refine wpG_at (v := ?_) (by rfl) ?_ ?_; rotate_left; (focus (first | (go_simp; with_reducible rfl) | (go_simp; done))); simp only [Act.put, List.setIfInBounds_toArray, List.set_cons_zero, List.set_cons_succ]) | (refine wpG_at_skip (by rfl) ?_; simp only [Act.put, List.setIfInBounds_toArray, List.set_cons_zero, List.set_cons_succ]) | (refine wpG_held_skip (by rfl) ?_; simp only [Act.put, List.setIfInBounds_toArray, List.set_cons_zero, List.set_cons_succ]) | (refine wpG_held (v := ?_) (by rfl) ?_ ?_; rotate_left; (focus (intro w' hSw; (try dsimp only at hSw); go_split_ands; first | (go_simp; with_reducible rfl) | (go_simp; done))); simp only [Act.put, List.setIfInBounds_toArray, List.set_cons_zero, List.set_cons_succ]))
      refine wpG_eff (by rfl) (fun K hK => ?_)
      go_simp
      refine (HI.out _ (Kp.refl NoB w).drew).mono ?_
      rintro e w1 ⟨rfl, k1⟩
      have K1 := hid (((Kp.refl NoB w).drew).trans k1)
      have La1 := loc3 (K1.out.get A0.out.hq (fun h => h))
      have Lb1 := loc3 (K1.out.get B0.out.hq (fun h => h))
      refine hK _ _ trivial ?_
      clear hK K La Lb k1
      repeat (first | (refine wpG_at (v := ?_) (by rfl) ?_ ?_; rotate_left; (focus (first | (go_simp; with_reducible rfl) | (go_simp; done))); simp only [Act.put, List.setIfInBounds_toArray, List.set_cons_zero, List.set_cons_succ]) | (refine wpG_at_skip (by rfl) ?_; simp only [Act.put, List.setIfInBounds_toArray, List.set_cons_zero, List.set_cons_succ]) | (refine wpG_held_skip (by rfl) ?_; simp only [Act.put, List.setIfInBounds_toArray, List.set_cons_zero, List.set_cons_succ]) | (refine wpG_held (v := ?_) (by rfl) ?_ ?_; rotate_left; (focus (intro w' hSw; (try dsimp only at hSw); go_split_ands; first | (go_simp; with_reducible rfl) | (go_simp; done))); simp only [Act.put, List.setIfInBounds_toArray, List.set_cons_zero, List.set_cons_succ]))
      refine wpG_nil (NoPanic.normal ?_)
      go_wp2_with fail
      go_ret
      exact ⟨by rw [hne.out]; rfl, K1.out⟩
  · rw [decide_eq_false hd] at HI ⊢
    rw [Bool.false_and]
    replace hd := hid hd
    go_enter Try.func30, Try.ntmps30
    go_wp2_with fail
    refine wp_region_G (fun _ => True) [(0, .at_), (1, .at_), (2, .at_), (3, .at_), (4, .at_), (5, .at_), (6, .at_), (7, .at_), (8, .eff), (9, .at_), (10, .at_), (11, .at_), (12, .at_), (13, .at_), (14, .at_), (15, .at_), (16, .at_), (17, .at_), (18, .at_), (19, .at_), (20, .at_), (21, .at_), (22, .at_)] ?L6 (by kernel_rfl) (by kernel_rfl) ?hL6 (trivial) ?hG6
    case hL6 => simp only [pickOps, List.map_cons, List.map_nil, List.getD_cons_zero, List.getD_cons_succ]; rfl
    repeat (first | (refine wpG_at (v := ?_) (by rfl) ?_ ?_; rotate_left; (focus (first | (go_simp; with_reducible rfl) | (go_simp; done))); simp only [Act.put, List.setIfInBounds_toArray, List.set_cons_zero, List.set_cons_succ]) | (refine wpG_at_skip (by rfl) ?_; simp only [Act.put, List.setIfInBounds_toArray, List.set_cons_zero, List.set_cons_succ]) | (refine wpG_held_skip (by rfl) ?_; simp only [Act.put, List.setIfInBounds_toArray, List.set_cons_zero, List.set_cons_succ]) | (refine wpG_held (v := ?_) (by rfl) ?_ ?_; rotate_left; (focus (intro w' hSw; (try dsimp only at hSw); go_split_ands; first | (go_simp; with_reducible rfl) | (go_simp; done))); simp only [Act.put, List.setIfInBounds_toArray, List.set_cons_zero, List.set_cons_succ]))
    refine wpG_eff (by rfl) (fun K hK => ?_)
    go_simp
    refine (HI.out _ (Kp.refl NoB w).drew).mono ?_
    rintro e w1 ⟨rfl, k1⟩
    have K1 := hid (((Kp.refl NoB w).drew).trans k1)
    refine hK _ _ trivial ?_
    clear hK K k1
    repeat (first | (refine wpG_at (v := ?_) (by rfl) ?_ ?_; rotate_left; (focus (first | (go_simp; with_reducible rfl) | (go_simp; done))); simp only [Act.put, List.setIfInBounds_toArray, List.set_cons_zero, List.set_cons_succ]) | (refine wpG_at_skip (by rfl) ?_; simp only [Act.put, List.setIfInBounds_toArray, List.set_cons_zero, List.set_cons_succ]) | (refine wpG_held_skip (by rfl) ?_; simp only [Act.put, List.setIfInBounds_toArray, List.set_cons_zero, List.set_cons_succ]) | (refine wpG_held (v := ?_) (by rfl) ?_ ?_; rotate_left; (focus (intro w' hSw; (try dsimp only at hSw); go_split_ands; first | (go_simp; with_reducible rfl) | (go_simp; done))); simp only [Act.put, List.setIfInBounds_toArray, List.set_cons_zero, List.set_cons_succ]))
    refine wpG_nil (NoPanic.normal ?_)
    go_wp2_with fail
    go_ret
    exact ⟨rfl, K1.out⟩
end
end Go.Proofs.Ytplbkjgkocnehaa
