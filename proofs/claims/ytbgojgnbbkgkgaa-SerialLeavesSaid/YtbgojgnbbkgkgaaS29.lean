/- Walks: SerialLeaves. -/
import Derived.Test.YtbgojgnbbkgkgaaS28
namespace Go.Proofs.Ytbgojgnbbkgkgaa
set_option linter.unusedSimpArgs false
set_option linter.unusedVariables false
open Go.RowKit Go.Shelf
attribute [local go_sem ↓] Go.wp_at_zero Go.wp_at_succ
attribute [local go_sem] Oper.semAt_some
section
set_option maxRecDepth 100000 in
set_option maxHeartbeats 32000000 in
theorem leaves_law (w : World) (x : Option Addr) (len cap : Nat) (A : List A5) (hL : ActsAt w w.heap.size x len A) (at_ : Int) (hat : (Lit.int .i64 at_).wf = true) :
   Calls Try.prog 6 #[.slice x len cap, .int .i64 at_] w fun e w' => e = .returned (.bool true) ∧ Kp NoB w w' := by
  have HN := hid (fun W => new_any 64 (by omega) (by omega) W)
  have HA := hid (fun p W => all_any (.pointer (some ⟨p, 0, none⟩)) _ rfl W)
  have HK := hid known_any
  have HL := hid hL
  have hnf : ∀ W lb, (binOp .eql 53 (.func (.func 31) #[] lb) .nilFunc).run Try.prog W = .ok (.bool false) W := fun _ _ => by kernel_rfl
  have H3 := hid (show ((w.alloc (.cells #[.int .i64 at_] 3)).alloc (.cells #[.bool false] 4)).heap[w.heap.size]? = some (.cells #[.int .i64 at_] 3 (0, 0)) from blk_alloc (blk_new _ _))
  have H4 := hid (show ((w.alloc (.cells #[.int .i64 at_] 3)).alloc (.cells #[.bool false] 4)).heap[w.heap.size + 1]? = some (.cells #[.bool false] 4 (0, 0)) from blk_new' _ _ (by simp))
  have K0 := hid (((Kp.refl NoB w).alloc (.cells #[.int .i64 at_] 3)).alloc (.cells #[.bool false] 4))
  have hsz : ((w.alloc (.cells #[.int .i64 at_] 3)).alloc (.cells #[.bool false] 4)).heap.size = w.heap.size + 2 := by simp
  have hmx := hL.mx
  clear hL hat
  refine calls_of_wp_marks Try.func6 rfl ?_
  simp only [Try.ntmps6, List.size_toArray, List.length_cons, List.length_nil, Nat.reduceAdd, Nat.reduceSub, Array.replicate_succ, Array.replicate_zero, List.push_toArray, List.append_toArray, List.nil_append, List.cons_append]
  go_wp2_with fail
  refine (HN.out _).mono ?_
  rintro e w1 ⟨rfl, T1, k1⟩
  generalize ((w.alloc (.cells #[.int .i64 at_] 3)).alloc (.cells #[.bool false] 4)) = W0 at *
  rw [hsz] at T1 ⊢
  have G3 := hid (k1.get H3.out (fun h => h))
  have G4 := hid (k1.get H4.out (fun h => h))
  have K1 := hid (K0.out.trans k1)
  replace T1 := hid T1
  clear H3 H4 K0 k1 hsz
  by_cases hl : len > 60
  · have hl' : (60 : Int) < (len : Int) := by omega
    go_wp2_with fail
    refine (HK.out _).mono ?_
    rintro e w2 ⟨rfl, k2⟩
    have kk := (((Kp.refl NoB w1).alloc (.cells #[.pointer (some ⟨w.heap.size + 2 + 1, 0, none⟩)] 26)).trans k2)
    have K2 := hid (K1.out.trans kk)
    have g4 := kk.get G4.out (fun h => h)
    have L4 := loc1 g4
    replace g4 := hid g4
    clear k2 kk
    go_wp2_with fail
    have g4' := blk_setCell g4.out 0 (.bool true)
    have KF : Kp NoB w (w2.setCell ⟨w.heap.size + 1, 0, none⟩ (.bool true)) := K2.out.setCell (p := ⟨w.heap.size + 1, 0, none⟩) _ (fun h => absurd h (by simp))
    generalize (w2.setCell ⟨w.heap.size + 1, 0, none⟩ (.bool true)) = W3 at *
    have L4' := loc1 g4'
    refine leaves_none (v := .bool true) ?_ ⟨rfl, KF⟩
    simp [results, Try.results6, go_sem, L4'.1]
  · have hl' : ¬ ((60 : Int) < (len : Int)) := by omega
    obtain ⟨b5, hb5⟩ : ∃ b5, w1.heap.size = b5 := ⟨_, rfl⟩
    have LV := hid (show Lv w (((w1.alloc (.cells #[.pointer (some ⟨w.heap.size + 2 + 1, 0, none⟩)] 26)).alloc (.cells #[.slice none 0 0, .int .i64 64] 46)).alloc (.cells #[.pointer (some ⟨b5 + 1, 0, none⟩)] 43)) b5 (b5 + 1 + 1) (w.heap.size + 2 + 1) (w.heap.size + 2) (b5 + 1) [] (rowsL []) (.slice none 0 0) at_ from
      ⟨blk_alloc (blk_alloc (blk_alloc G3.out)), blk_alloc (blk_alloc (blk_alloc G4.out)), blk_alloc (blk_alloc (blk_new' _ _ hb5.symm)), blk_new' _ _ (by simp [hb5]), ((T1.out.alloc _).alloc _).alloc _, tok_nil (by omega) (by omega),
       ⟨blk_alloc (blk_new' _ _ (by simp [hb5])), rows_nil ▸ RowAt.nil _ 56 eR 3⟩, ((K1.out.alloc _).alloc _).alloc _, by omega, by have := K1.out.size; omega⟩)
    clear T1 G3 G4
    go_wp2_with fail
    try rw [hb5]
    generalize (((w1.alloc (.cells #[.pointer (some ⟨w.heap.size + 2 + 1, 0, none⟩)] 26)).alloc (.cells #[.slice none 0 0, .int .i64 64] 46)).alloc (.cells #[.pointer (some ⟨b5 + 1, 0, none⟩)] 43)) = w4 at *
    obtain ⟨b7, hb7⟩ : ∃ b7, b5 + 1 + 1 = b7 := ⟨_, rfl⟩
    obtain ⟨p, hp⟩ : ∃ p, w.heap.size + 2 + 1 = p := ⟨_, rfl⟩
    obtain ⟨m, hm⟩ : ∃ m, w.heap.size + 2 = m := ⟨_, rfl⟩
    obtain ⟨q, hq⟩ : ∃ q, b5 + 1 = q := ⟨_, rfl⟩
    have hb7' : b5 + 2 = b7 := hb7
    have hp' : w.heap.size + 3 = p := hp
    rw [hb7, hp, hm, hq] at LV
    simp only [hb7, hb7', hp, hp']
    try simp only [hm, hq]
    clear hb7' hp'
    replace hb5 := hid hb5
    replace hb7 := hid hb7
    replace hp := hid hp
    replace hm := hid hm
    replace hq := hid hq
    go_loopw [8] (fun i W => ∃ (j : Nat) (M : List (Int × Value)) (v : Value), j ≤ len ∧ i = .int .i64 j ∧ Lv w W b5 b7 p m q M (rowsL M) v at_) (fun i _ => len - (intOf i).toNat)
    case atStart => exact ⟨0, [], _, Nat.zero_le _, rfl, LV.out⟩
    case round =>
      clear LV
      obtain ⟨j, M, v, hj, rfl, hV⟩ := hrel
      have d1 : (0 : Int) ≤ (j : Int) := Int.natCast_nonneg _
      by_cases hlt : j < len
      · have ha := HL.out.kp hV.k (Nat.le_refl _) (fun _ h => h.elim)
        have hjl : j < A.length := by rw [HL.out.ln]; exact hlt
        obtain ⟨z, hz⟩ : ∃ z, A[j]? = some z := ⟨_, List.getElem?_eq_getElem hjl⟩
        obtain ⟨y, rfl, hy, f0, f1, f2, f3, f4⟩ := ha.at_ j z hz
        have hwf := HL.out.wf z (List.mem_of_getElem? hz)
        have HD := hid (do_any (w := wr.drew) ⟨hV.c.drew, hV.o, hV.x.kn ((Kp.refl _ _).drew)⟩ z.k z.s z.i z.g z.d hwf.1 hwf.2)
        unfold aV at HD
        have d2 : (j : Int) < (len : Int) := by omega
        have L5 := loc1 hV.t
        have L7 := loc1 hV.d
        replace hV := hid hV
        replace ha := hid ha
        replace hwf := hid hwf
        replace hz := hid hz
        go_wp2_with fail
        refine wp_region_G (fun _ => True) [(0, .at_), (1, .at_), (2, .at_), (3, .at_), (4, .at_), (5, .at_), (6, .eff)] ?L8 (by kernel_rfl) (by kernel_rfl) ?hL8 (trivial) ?hG8
        case hL8 => simp only [pickOps, List.map_cons, List.map_nil, List.getD_cons_zero, List.getD_cons_succ]; rfl
        repeat (first | (refine wpG_at (v := ?_) (by rfl) ?_ ?_; rotate_left; (focus (first | (go_simp; with_reducible rfl) | (go_simp; done))); simp only [Act.put, List.setIfInBounds_toArray, List.set_cons_zero, List.set_cons_succ]) | (refine wpG_at_skip (by rfl) ?_; simp only [Act.put, List.setIfInBounds_toArray, List.set_cons_zero, List.set_cons_succ]) | (refine wpG_held_skip (by rfl) ?_; simp only [Act.put, List.setIfInBounds_toArray, List.set_cons_zero, List.set_cons_succ]) | (refine wpG_held (v := ?_) (by rfl) ?_ ?_; rotate_left; (focus (intro w' hSw; (try dsimp only at hSw); go_split_ands; first | (go_simp; with_reducible rfl) | (go_simp; done))); simp only [Act.put, List.setIfInBounds_toArray, List.set_cons_zero, List.set_cons_succ]))
        refine wpG_eff (by rfl) (fun K hK => ?_)
        go_simp
        refine HD.out.mono ?_
        rintro e w5 ⟨rfl, M', v', J5, k5⟩
        have V5 := hid ((hV.out.kn ((Kp.refl _ _).drew)).act J5 k5)
        clear J5 k5
        refine hK _ _ trivial ?_
        clear hK K
        repeat (first | (refine wpG_at (v := ?_) (by rfl) ?_ ?_; rotate_left; (focus (first | (go_simp; with_reducible rfl) | (go_simp; done))); simp only [Act.put, List.setIfInBounds_toArray, List.set_cons_zero, List.set_cons_succ]) | (refine wpG_at_skip (by rfl) ?_; simp only [Act.put, List.setIfInBounds_toArray, List.set_cons_zero, List.set_cons_succ]) | (refine wpG_held_skip (by rfl) ?_; simp only [Act.put, List.setIfInBounds_toArray, List.set_cons_zero, List.set_cons_succ]) | (refine wpG_held (v := ?_) (by rfl) ?_ ?_; rotate_left; (focus (intro w' hSw; (try dsimp only at hSw); go_split_ands; first | (go_simp; with_reducible rfl) | (go_simp; done))); simp only [Act.put, List.setIfInBounds_toArray, List.set_cons_zero, List.set_cons_succ]))
        refine wpG_nil (NoPanic.normal ?_)
        go_wp2_with fail
        go_roundw
        case rel => exact ⟨j + 1, M', v', by omega, by go_num, V5.out⟩
        case measure => simp [intOf]; omega
      · have hV0 := hid hV
        obtain ⟨ov, cv, hvv, _⟩ := hV.x.hv.form
        subst hvv
        have L5 := loc1 hV.t
        clear hV
        go_wp2_with fail
        refine (HA.out _ _).mono ?_
        rintro e w5 ⟨rfl, hw5⟩
        obtain ⟨c10, hc10⟩ : ∃ c10, wr.heap.size = c10 := ⟨_, rfl⟩
        have hC5 := hid (show w5.heap[c10]? = some (.cells #[.pointer (some ⟨p, 0, none⟩)] 26 (0, 0)) from by rw [hw5, ← hc10]; exact blk_new _ _)
        have V5 := hid (hV0.out.kn (show Kp NoB wr w5 from by rw [hw5]; exact (Kp.refl _ _).alloc _))
        rw [hc10]
        clear hw5 hV0 L5 hc10
        go_wp2_with fail
        obtain ⟨b10, hb10⟩ : ∃ b10, w5.heap.size = b10 := ⟨_, rfl⟩
        have V6 := hid (V5.out.kn ((Kp.refl _ _).alloc (.cells #[.int .i64 0] 3)))
        have G10 := hid (show (w5.alloc (.cells #[.int .i64 0] 3)).heap[b10]? = some (.cells #[.int .i64 0] 3 (0, 0)) from blk_new' _ _ hb10.symm)
        have C6 := hid (show (w5.alloc (.cells #[.int .i64 0] 3)).heap[c10]? = some (.cells #[.pointer (some ⟨p, 0, none⟩)] 26 (0, 0)) from blk_alloc hC5.out)
        have US := hid (show Under w b5 b7 p m q (.slice ov (rowsL M).length cv) b10 from hb10 ▸ V5.out.under)
        have hcb : c10 < b10 := by rw [← hb10]; exact blk_lt hC5.out
        have hbl := blk_lt G10.out
        rw [hb10]
        generalize (w5.alloc (.cells #[.int .i64 0] 3)) = w6 at *
        have U6 := hid (US.out.mono (Nat.le_of_lt hbl))
        have O6 := hid V6.out.o
        have hrl := hid (rowsL_len M)
        have hlen : (rowsL M).length ≤ 64 := by have := hrl.out; have := O6.out.le; omega
        have hseq := hid (fun W (T : TAt W p m M 64) (hc : W.heap[c10]? = some (.cells #[.pointer (some ⟨p, 0, none⟩)] 26 (0, 0))) => all_seq T O6.out hc)
        clear V5 hC5 hb10
        refine wp_range_list (gf := 31) (lb := #[.pointer (some ⟨c10, 0, none⟩)]) rfl (enters_of Try.func31 (by kernel_rfl) rfl) (encs := encR) (L := rowsL M) (by rw [rowsL_len]; exact hseq.out _ V6.out.c C6.out) (fun _ => rfl)
          (LvI w b5 b7 p m q c10 b10 w6.heap.size M (.slice ov (rowsL M).length cv) at_) (LvX w b5 b7 p m q c10 b10 w6.heap.size M (.slice ov (rowsL M).length cv) at_)
          (own_of_kp (fun s W W' h k => ⟨h.1.keep U6.out k, k.get h.2.1 (by omega), h.2.2.1, Nat.le_trans h.2.2.2.1 k.size, k.get h.2.2.2.2 (by omega)⟩))
          (fun c => own_of_kp (fun s W W' h k => by
            rcases h with h | ⟨h1, h2, ⟨n, h3⟩, h4, h5⟩
            · exact .inl h
            · exact .inr ⟨h1, h2.keep U6.out k, ⟨n, k.get h3 (by omega)⟩, Nat.le_trans h4 k.size, k.get h5 (by omega)⟩))
          ⟨V6.out, G10.out, Nat.zero_le _, Nat.le_refl _, C6.out⟩
          (fun x a' _ => ∃ u : Nat → Value, a' = { tmps := #[u 0, u 1, u 2, .pointer (some ⟨w.heap.size, 0, none⟩), .pointer (some ⟨w.heap.size + 1, 0, none⟩), .pointer (some ⟨b5, 0, none⟩), u 6, .pointer (some ⟨b7, 0, none⟩), u 8, u 9, .pointer (some ⟨b10, 0, none⟩), .int .i64 x.1, u 12, u 13, u 14, u 15, u 16, u 17, u 18, u 19, u 20, u 21, u 22, u 23, u 24, u 25, u 26, u 27, u 28, u 29, u 30, u 31, u 32, u 33, u 34, u 35, u 36, u 37, u 38, u 39, u 40, u 41, u 42, u 43, u 44, u 45, u 46, u 47, u 48, u 49, u 50, u 51, u 52, u 53, u 54, u 55, u 56, u 57, u 58, u 59, u 60, u 61, u 62, u 63, u 64, u 65, u 66, u 67, u 68, u 69, u 70, u 71, u 72, u 73, u 74, u 75, u 76, u 77, u 78, u 79, u 80, u 81, u 82, u 83, u 84, u 85, u 86, u 87, u 88, u 89, u 90, u 91, u 92, u 93, u 94, u 95, u 96, u 97, u 98, u 99, u 100, u 101, u 102, u 103, u 104, u 105, u 106, u 107, u 108, u 109, u 110, u 111, u 112, u 113, u 114], defers := [] })
          (fun x a' s W W' row h _ _ => h) ?_ ?_ ?_ ?_
        · -- the loop's variables
          rintro l pre ⟨x1, x2, x3⟩ W K hI hK
          unfold encR hV
          replace hI := hid hI
          gi_wp2_with fail
          exact hK _ _ (Kp.refl _ W) hI.out (ax_fun _ (by rfl))
        · -- a round
          rintro l pre ⟨x1, x2, x3⟩ a' W hl ⟨h1, h2, h3, h4, h5⟩ ⟨u, rfl⟩ hn
          obtain ⟨k, hpl⟩ : ∃ k, pre.length = k := ⟨_, rfl⟩
          rw [hpl] at h2 h3 hn
          have L3 := loc1 h1.a
          have L4 := loc1 h1.r
          have L5 := loc1 h1.t
          have L7 := loc1 h1.d
          have L10 := loc1 h2
          obtain ⟨⟨s, i, g⟩, hsig⟩ : ∃ y, (rowsL M)[k] = y := ⟨_, rfl⟩
          have hk : (rowsL M)[k]? = some (s, i, g) := by rw [← hsig]; exact List.getElem?_eq_getElem hn
          clear hsig
          obtain ⟨b, Le, hbv⟩ := cells_at h1.x hk
          have Lq := loc2 h1.x.hq
          have c1 : (0 : Int) ≤ (k : Int) := Int.natCast_nonneg _
          have c2 : (k : Int) < ((rowsL M).length : Int) := by omega
          have c4 : decide ((rowsL M).length ≤ k) = false := decide_eq_false (by omega)
          have hbad : s ≠ x1 → Hid (¬ pre ++ [(x1, x2, x3)] <+: rowsL M) := fun hne => hid (fun hp => hne (by
            have := pre_at hp
            rw [hpl, hk] at this
            injection this with this
            injection this))
          replace hbad := hid hbad
          replace hpl := hid hpl
          replace hk := hid hk
          replace h1 := hid h1
          replace h2 := hid h2
          obtain ⟨rfl, c3⟩ := hbv
          by_cases e1 : s = x1
          · subst e1
            have KS : Kp (fun b => b = b10) W (W.setCell ⟨b10, 0, none⟩ (.int .i64 ((k : Int) + 1))).drew := ((Kp.refl (fun b => b = b10) W).setCell (p := ⟨b10, 0, none⟩) _ (fun _ => rfl)).drew
            have hb10s := US.out.s
            have V7 := hid (h1.out.keep US.out (KS.mono (fun b hb => by omega)))
            have G7 := hid (blk_drew (blk_setCell h2.out 0 (.int .i64 ((k : Int) + 1))))
            have HI := hid (show LvI w b5 b7 p m q c10 b10 w6.heap.size M (.slice (some ⟨b, 0, none⟩) (rowsL M).length cv) at_ (pre ++ [(s, x2, x3)]) (W.setCell ⟨b10, 0, none⟩ (.int .i64 ((k : Int) + 1))).drew from
              ⟨V7.out, by rw [List.length_append, hpl.out]; exact G7.out, by rw [List.length_append, hpl.out]; simp; omega, Nat.le_trans h4 KS.size, KS.get h5 (by omega)⟩)
            have KF := hid (keepsFrom_kp (KS.mono (fun b hb => (by omega : b < w6.heap.size))))
            have KNN := hid (KN.of_kp (KS.mono (fun b hb => (by omega : b < w6.heap.size))))
            replace KS := hid KS
            clear hbad
            by_cases hgt : at_ < (k : Int) + 1
            · gi_wp2_with fail
              refine wpIn_region_G (fun _ => True) [(0, .at_), (1, .at_), (2, .at_), (3, .at_), (4, .at_), (5, .at_), (6, .at_), (7, .at_), (8, .at_), (9, .at_), (10, .at_), (11, .at_), (12, .at_), (13, .at_), (14, .at_), (15, .at_), (16, .at_), (17, .at_), (18, .at_)] ?L1 (by kernel_rfl) (by kernel_rfl) (by kernel_rfl) ?hL1 (trivial) ?hG1
              case hL1 => simp only [pickOps, List.map_cons, List.map_nil, List.getD_cons_zero, List.getD_cons_succ]; rfl
              repeat (first | (refine wpGS_at (v := ?_) (by rfl) ?_ ?_; rotate_left; (focus (first | (go_simp; with_reducible rfl) | (go_simp; done))); simp only [Act.put, List.setIfInBounds_toArray, List.set_cons_zero, List.set_cons_succ]) | (refine wpGS_at_skip (by rfl) ?_; simp only [Act.put, List.setIfInBounds_toArray, List.set_cons_zero, List.set_cons_succ]) | (refine wpGS_held_skip (by rfl) ?_; simp only [Act.put, List.setIfInBounds_toArray, List.set_cons_zero, List.set_cons_succ]) | (refine wpGS_held (v := ?_) (by rfl) ?_ ?_; rotate_left; (focus (intro w' hSw; (try dsimp only at hSw); go_split_ands; first | (go_simp; with_reducible rfl) | (go_simp; done))); simp only [Act.put, List.setIfInBounds_toArray, List.set_cons_zero, List.set_cons_succ]))
              refine wpGS_nil (NoPanic.normal ?_)
              gi_wp2_with fail
              exact ⟨KF.out, .inr ⟨rfl, V7.out, ⟨_, G7.out⟩, Nat.le_trans h4 KS.out.size, KS.out.get h5 (by omega)⟩⟩
            · gi_wp2_with fail
              refine wpIn_region_G (fun _ => True) [(0, .at_), (1, .at_), (2, .at_), (3, .at_), (4, .at_), (5, .at_), (6, .at_), (7, .at_), (8, .at_), (9, .at_), (10, .at_), (11, .at_), (12, .at_), (13, .at_), (14, .at_), (15, .at_), (16, .at_), (17, .at_), (18, .at_)] ?L2 (by kernel_rfl) (by kernel_rfl) (by kernel_rfl) ?hL2 (trivial) ?hG2
              case hL2 => simp only [pickOps, List.map_cons, List.map_nil, List.getD_cons_zero, List.getD_cons_succ]; rfl
              repeat (first | (refine wpGS_at (v := ?_) (by rfl) ?_ ?_; rotate_left; (focus (first | (go_simp; with_reducible rfl) | (go_simp; done))); simp only [Act.put, List.setIfInBounds_toArray, List.set_cons_zero, List.set_cons_succ]) | (refine wpGS_at_skip (by rfl) ?_; simp only [Act.put, List.setIfInBounds_toArray, List.set_cons_zero, List.set_cons_succ]) | (refine wpGS_held_skip (by rfl) ?_; simp only [Act.put, List.setIfInBounds_toArray, List.set_cons_zero, List.set_cons_succ]) | (refine wpGS_held (v := ?_) (by rfl) ?_ ?_; rotate_left; (focus (intro w' hSw; (try dsimp only at hSw); go_split_ands; first | (go_simp; with_reducible rfl) | (go_simp; done))); simp only [Act.put, List.setIfInBounds_toArray, List.set_cons_zero, List.set_cons_succ]))
              refine wpGS_nil (NoPanic.normal ?_)
              gi_wp2_with fail
              exact ⟨KF.out, KNN.out, HI.out⟩
          · skip
            have e4 : (s != x1) = true := by simpa using e1
            have hb := hid (hbad.out e1).out
            clear e1 hbad
            gi_wp2_with fail
            refine wpIn_region_G (fun _ => True) [(0, .at_), (1, .at_), (2, .at_), (3, .at_), (4, .at_), (5, .at_), (6, .at_), (7, .at_), (8, .at_), (9, .at_), (10, .at_), (11, .at_), (12, .at_), (13, .at_), (14, .at_), (15, .at_), (16, .at_), (17, .at_), (18, .at_)] ?L3 (by kernel_rfl) (by kernel_rfl) (by kernel_rfl) ?hL3 (trivial) ?hG3
            case hL3 => simp only [pickOps, List.map_cons, List.map_nil, List.getD_cons_zero, List.getD_cons_succ]; rfl
            repeat (first | (refine wpGS_at (v := ?_) (by rfl) ?_ ?_; rotate_left; (focus (first | (go_simp; with_reducible rfl) | (go_simp; done))); simp only [Act.put, List.setIfInBounds_toArray, List.set_cons_zero, List.set_cons_succ]) | (refine wpGS_at_skip (by rfl) ?_; simp only [Act.put, List.setIfInBounds_toArray, List.set_cons_zero, List.set_cons_succ]) | (refine wpGS_held_skip (by rfl) ?_; simp only [Act.put, List.setIfInBounds_toArray, List.set_cons_zero, List.set_cons_succ]) | (refine wpGS_held (v := ?_) (by rfl) ?_ ?_; rotate_left; (focus (intro w' hSw; (try dsimp only at hSw); go_split_ands; first | (go_simp; with_reducible rfl) | (go_simp; done))); simp only [Act.put, List.setIfInBounds_toArray, List.set_cons_zero, List.set_cons_succ]))
            refine wpGS_nil (NoPanic.normal ?_)
            gi_wp2_with fail
            have KS : Kp (fun b => b = w.heap.size + 1) W (W.setCell ⟨w.heap.size + 1, 0, none⟩ (.bool false)).drew := ((Kp.refl (fun b => b = w.heap.size + 1) W).setCell (p := ⟨w.heap.size + 1, 0, none⟩) _ (fun _ => rfl)).drew
            exact ⟨keepsFrom_kp (KS.mono (fun b hb => by have := US.out.s; omega)), .inl ⟨rfl, hb.out⟩⟩
        · -- all have come
          rintro D W hD ⟨h1, h2, h3, h4, h5⟩ hDk
          have L10 := loc1 h2
          have hDm : D ≠ b10 := by omega
          have V8 := hid (h1.keep US.out (((Kp.refl (fun b => b = b10) W).setCell (p := ⟨b10, 0, none⟩) (.int .i64 0) (fun _ => rfl)).mono (fun b hb => by omega)))
          have G8 := hid (blk_setCell h2 0 (.int .i64 0))
          have C8 := hid (blk_far h5 (a := ⟨b10, 0, none⟩) (.int .i64 0) (by simp; omega))
          have D8 := hid (show (W.setCell ⟨b10, 0, none⟩ (.int .i64 0)).heap[D]? = some (.deferred (some [])) from (Below.heap_setCell _ _ _ _ hDm).trans hDk)
          have hs8 : w6.heap.size ≤ (W.setCell ⟨b10, 0, none⟩ (.int .i64 0)).heap.size := by simpa using h4
          have hDl := hid (blk_lt D8.out)
          clear h1 h2 h4 h5 hDk V6 G10 C6
          try clear h3
          go_wp2_with fail
          generalize (W.setCell ⟨b10, 0, none⟩ (.int .i64 0)) = w8 at *
          clear L10
          have U8 := hid (U6.out.mono hs8)
          refine wp_range_list (gf := 31) (lb := #[.pointer (some ⟨c10, 0, none⟩)]) rfl (enters_of Try.func31 (by kernel_rfl) rfl) (encs := encR) (L := rowsL M) (by rw [rowsL_len]; exact hseq.out _ V8.out.c C8.out) (fun _ => rfl)
            (LvJ w b5 b7 p m q c10 b10 w8.heap.size D M (.slice ov (rowsL M).length cv) at_) (LvY M)
            (own_of_kp (fun s W W' h k => ⟨by obtain ⟨M', h1, h2⟩ := h.1; exact ⟨M', h1.keep U8.out k, h2⟩, k.get h.2.1 (by omega), h.2.2.1, Nat.le_trans h.2.2.2.1 k.size, k.get h.2.2.2.2 (by have := hDl.out; omega)⟩))
            (fun c => own_of_kp (fun s W W' h k => h))
            ⟨⟨M, V8.out, Less.nil M⟩, G8.out, Nat.zero_le _, Nat.le_refl _, D8.out⟩
            (fun x a' _ => ∃ u : Nat → Value, a' = { tmps := #[u 0, u 1, u 2, .pointer (some ⟨w.heap.size, 0, none⟩), .pointer (some ⟨w.heap.size + 1, 0, none⟩), .pointer (some ⟨b5, 0, none⟩), u 6, .pointer (some ⟨b7, 0, none⟩), u 8, u 9, .pointer (some ⟨b10, 0, none⟩), u 11, .int .i64 x.1, u 13, u 14, u 15, u 16, u 17, u 18, u 19, u 20, u 21, u 22, u 23, u 24, u 25, u 26, u 27, u 28, u 29, u 30, u 31, u 32, u 33, u 34, u 35, u 36, u 37, u 38, u 39, u 40, u 41, u 42, u 43, u 44, u 45, u 46, u 47, u 48, u 49, u 50, u 51, u 52, u 53, u 54, u 55, u 56, u 57, u 58, u 59, u 60, u 61, u 62, u 63, u 64, u 65, u 66, u 67, u 68, u 69, u 70, u 71, u 72, u 73, u 74, u 75, u 76, u 77, u 78, u 79, u 80, u 81, u 82, u 83, u 84, u 85, u 86, u 87, u 88, u 89, u 90, u 91, u 92, u 93, u 94, u 95, u 96, u 97, u 98, u 99, u 100, u 101, u 102, u 103, u 104, u 105, u 106, u 107, u 108, u 109, u 110, u 111, u 112, u 113, u 114], defers := [] })
            (fun x a' s W W' row h _ _ => h) ?_ ?_ ?_ ?_
          · -- the loop's variables
            rintro l pre ⟨x1, x2, x3⟩ W K hI hK
            unfold encR hV
            replace hI := hid hI
            gi_wp2_with fail
            exact hK _ _ (Kp.refl _ W) hI.out (ax_fun _ (by rfl))
          · -- a round
            rintro l pre ⟨x1, x2, x3⟩ a' W hl ⟨⟨M', h1, hless⟩, h2, h3, h4, h5⟩ ⟨u, rfl⟩ hn
            replace hless := hid hless
            obtain ⟨k, hpl⟩ : ∃ k, pre.length = k := ⟨_, rfl⟩
            rw [hpl] at h2 h3 hn
            have L3 := loc1 h1.a
            have L4 := loc1 h1.r
            have L5 := loc1 h1.t
            have L7 := loc1 h1.d
            have L10 := loc1 h2
            obtain ⟨⟨s, i, g⟩, hsig⟩ : ∃ y, (rowsL M)[k] = y := ⟨_, rfl⟩
            have hk : (rowsL M)[k]? = some (s, i, g) := by rw [← hsig]; exact List.getElem?_eq_getElem hn
            clear hsig
            obtain ⟨b, Le, hbv⟩ := cells_at h1.x hk
            have Lq := loc2 h1.x.hq
            have c1 : (0 : Int) ≤ (k : Int) := Int.natCast_nonneg _
            have c2 : (k : Int) < ((rowsL M).length : Int) := by omega
            have c4 : decide ((rowsL M).length ≤ k) = false := decide_eq_false (by omega)
            have hbad : s ≠ x1 → Hid (¬ pre ++ [(x1, x2, x3)] <+: rowsL M) := fun hne => hid (fun hp => hne (by
              have := pre_at hp
              rw [hpl, hk] at this
              injection this with this
              injection this))
            replace hbad := hid hbad
            replace hpl := hid hpl
            replace hk := hid hk
            replace h1 := hid h1
            replace h2 := hid h2
            obtain ⟨rfl, c3⟩ := hbv
            by_cases e1 : s = x1
            · subst e1
              have hb10s := US.out.s
              have hm10 := US.out.m
              have hwf : (Lit.int .i64 s).wf = true := O6.out.k.w _ (mget_mem ((row_mem O6.out).1 (List.mem_of_getElem? hk.out)))
              have HD := hid (cdrop_any (w := W.drew) h1.out.c.drew h1.out.o s hwf)
              have hDm' := hDl.out
              clear hbad hwf
              gi_wp2_with fail
              refine wpIn_region_G (fun _ => True) [(0, .at_), (1, .at_), (2, .at_), (3, .at_), (4, .at_), (5, .at_), (6, .at_), (7, .at_), (8, .at_), (9, .at_), (10, .at_), (11, .at_), (12, .at_), (13, .at_), (14, .at_), (15, .at_), (16, .at_), (17, .at_), (18, .at_)] ?L4 (by kernel_rfl) (by kernel_rfl) (by kernel_rfl) ?hL4 (trivial) ?hG4
              case hL4 => simp only [pickOps, List.map_cons, List.map_nil, List.getD_cons_zero, List.getD_cons_succ]; rfl
              repeat (first | (refine wpGS_at (v := ?_) (by rfl) ?_ ?_; rotate_left; (focus (first | (go_simp; with_reducible rfl) | (go_simp; done))); simp only [Act.put, List.setIfInBounds_toArray, List.set_cons_zero, List.set_cons_succ]) | (refine wpGS_at_skip (by rfl) ?_; simp only [Act.put, List.setIfInBounds_toArray, List.set_cons_zero, List.set_cons_succ]) | (refine wpGS_held_skip (by rfl) ?_; simp only [Act.put, List.setIfInBounds_toArray, List.set_cons_zero, List.set_cons_succ]) | (refine wpGS_held (v := ?_) (by rfl) ?_ ?_; rotate_left; (focus (intro w' hSw; (try dsimp only at hSw); go_split_ands; first | (go_simp; with_reducible rfl) | (go_simp; done))); simp only [Act.put, List.setIfInBounds_toArray, List.set_cons_zero, List.set_cons_succ]))
              refine wpGS_nil (NoPanic.normal ?_)
              gi_wp2_with fail
              refine ⟨trivial, (callsIn_wide.2 HD.out).mono ?_⟩
              rintro e w9 ⟨rfl, T9, k9⟩
              have k9' := hid (((Kp.refl NoB W).drew).mono (fun _ h => h.elim) |>.trans k9)
              have V9 := h1.out.drop T9 (h1.out.o.del s) k9'.out
              have hmb : b10 ≠ m := by omega
              have G9 := k9'.out.get h2.out hmb
              have hDM : D ≠ m := by omega
              have D9 := k9'.out.get h5 hDM
              have L9 := loc1 G9
              have KS : Kp (fun b => b = b10) w9 (w9.setCell ⟨b10, 0, none⟩ (.int .i64 ((k : Int) + 1))) := (Kp.refl (fun b => b = b10) w9).setCell (p := ⟨b10, 0, none⟩) _ (fun _ => rfl)
              have KA : Kp (fun b => b < w8.heap.size) W (w9.setCell ⟨b10, 0, none⟩ (.int .i64 ((k : Int) + 1))) := (k9'.out.mono (fun b hb => (by omega : b < w8.heap.size))).trans (KS.mono (fun b hb => (by omega : b < w8.heap.size)))
              have HJ := hid (show LvJ w b5 b7 p m q c10 b10 w8.heap.size D M (.slice (some ⟨b, 0, none⟩) (rowsL M).length cv) at_ (pre ++ [(s, x2, x3)]) (w9.setCell ⟨b10, 0, none⟩ (.int .i64 ((k : Int) + 1))) from
                ⟨⟨_, V9.keep US.out (KS.mono (fun b hb => by omega)), hless.out.step (s, x2, x3)⟩, by rw [List.length_append, hpl.out]; exact blk_setCell G9 0 _, by rw [List.length_append, hpl.out]; simp; omega, Nat.le_trans h4 KA.size, KS.get D9 (by omega)⟩)
              replace KS := hid KS
              replace KA := hid KA
              replace G9 := hid G9
              replace D9 := hid D9
              replace V9 := hid V9
              clear T9 k9
              gi_wp2_with fail
              exact ⟨keepsFrom_kp KA.out, KN.of_kp KA.out, HJ.out⟩
            · skip
              have e4 : (s != x1) = true := by simpa using e1
              have hb := hid (hbad.out e1).out
              clear e1 hbad
              gi_wp2_with fail
              refine wpIn_region_G (fun _ => True) [(0, .at_), (1, .at_), (2, .at_), (3, .at_), (4, .at_), (5, .at_), (6, .at_), (7, .at_), (8, .at_), (9, .at_), (10, .at_), (11, .at_), (12, .at_), (13, .at_), (14, .at_), (15, .at_), (16, .at_), (17, .at_), (18, .at_)] ?L5 (by kernel_rfl) (by kernel_rfl) (by kernel_rfl) ?hL5 (trivial) ?hG5
              case hL5 => simp only [pickOps, List.map_cons, List.map_nil, List.getD_cons_zero, List.getD_cons_succ]; rfl
              repeat (first | (refine wpGS_at (v := ?_) (by rfl) ?_ ?_; rotate_left; (focus (first | (go_simp; with_reducible rfl) | (go_simp; done))); simp only [Act.put, List.setIfInBounds_toArray, List.set_cons_zero, List.set_cons_succ]) | (refine wpGS_at_skip (by rfl) ?_; simp only [Act.put, List.setIfInBounds_toArray, List.set_cons_zero, List.set_cons_succ]) | (refine wpGS_held_skip (by rfl) ?_; simp only [Act.put, List.setIfInBounds_toArray, List.set_cons_zero, List.set_cons_succ]) | (refine wpGS_held (v := ?_) (by rfl) ?_ ?_; rotate_left; (focus (intro w' hSw; (try dsimp only at hSw); go_split_ands; first | (go_simp; with_reducible rfl) | (go_simp; done))); simp only [Act.put, List.setIfInBounds_toArray, List.set_cons_zero, List.set_cons_succ]))
              refine wpGS_nil (NoPanic.normal ?_)
              gi_wp2_with fail
              have KS : Kp (fun b => b = w.heap.size + 1) W (W.setCell ⟨w.heap.size + 1, 0, none⟩ (.bool false)).drew := ((Kp.refl (fun b => b = w.heap.size + 1) W).setCell (p := ⟨w.heap.size + 1, 0, none⟩) _ (fun _ => rfl)).drew
              exact ⟨keepsFrom_kp (KS.mono (fun b hb => by have := US.out.s; omega)), rfl, hb.out⟩
          · -- all have come
            rintro D2 W hD2 ⟨⟨M', h1, hless⟩, h2, h3, h4, h5⟩ hk
            obtain rfl := hless.all O6.out
            have HLn := hid (len_any (h1.c.drew) h1.o)
            have L4 := loc1 h1.r
            have L5 := loc1 h1.t
            have L7 := loc1 h1.d
            have L10 := loc1 h2
            have Lq := loc2 h1.x.hq
            replace h1 := hid h1
            replace h2 := hid h2
            replace hk := hid hk
            replace h5 := hid h5
            clear h3 hless
            simp only [List.length_nil] at HLn
            go_wp2_with fail
            refine wp_region_G (fun _ => True) [(0, .at_), (1, .at_), (2, .at_), (3, .at_), (4, .at_), (5, .at_), (6, .at_), (7, .at_), (8, .at_), (9, .eff), (10, .at_), (11, .at_), (12, .at_), (13, .eff), (14, .at_), (15, .eff)] ?L9 (by kernel_rfl) (by kernel_rfl) ?hL9 (trivial) ?hG9
            case hL9 => simp only [pickOps, List.map_cons, List.map_nil, List.getD_cons_zero, List.getD_cons_succ]; rfl
            repeat (first | (refine wpG_at (v := ?_) (by rfl) ?_ ?_; rotate_left; (focus (first | (go_simp; with_reducible rfl) | (go_simp; done))); simp only [Act.put, List.setIfInBounds_toArray, List.set_cons_zero, List.set_cons_succ]) | (refine wpG_at_skip (by rfl) ?_; simp only [Act.put, List.setIfInBounds_toArray, List.set_cons_zero, List.set_cons_succ]) | (refine wpG_held_skip (by rfl) ?_; simp only [Act.put, List.setIfInBounds_toArray, List.set_cons_zero, List.set_cons_succ]) | (refine wpG_held (v := ?_) (by rfl) ?_ ?_; rotate_left; (focus (intro w' hSw; (try dsimp only at hSw); go_split_ands; first | (go_simp; with_reducible rfl) | (go_simp; done))); simp only [Act.put, List.setIfInBounds_toArray, List.set_cons_zero, List.set_cons_succ]))
            refine wpG_eff (by rfl) (fun K hK => ?_)
            go_simp
            refine HLn.out.mono ?_
            rintro e w9 ⟨rfl, rfl⟩
            refine hK _ _ trivial ?_
            clear hK K
            repeat (first | (refine wpG_at (v := ?_) (by rfl) ?_ ?_; rotate_left; (focus (first | (go_simp; with_reducible rfl) | (go_simp; done))); simp only [Act.put, List.setIfInBounds_toArray, List.set_cons_zero, List.set_cons_succ]) | (refine wpG_at_skip (by rfl) ?_; simp only [Act.put, List.setIfInBounds_toArray, List.set_cons_zero, List.set_cons_succ]) | (refine wpG_held_skip (by rfl) ?_; simp only [Act.put, List.setIfInBounds_toArray, List.set_cons_zero, List.set_cons_succ]) | (refine wpG_held (v := ?_) (by rfl) ?_ ?_; rotate_left; (focus (intro w' hSw; (try dsimp only at hSw); go_split_ands; first | (go_simp; with_reducible rfl) | (go_simp; done))); simp only [Act.put, List.setIfInBounds_toArray, List.set_cons_zero, List.set_cons_succ]))
            refine wpG_eff (by rfl) (fun K hK => ?_)
            go_simp
            refine (HK.out _).mono ?_
            rintro e w9 ⟨rfl, k9⟩
            have V9 := hid ((h1.out.kn ((Kp.refl _ _).drew)).kn k9)
            have hk9 := hid (k9.get (show W.drew.heap[D2]? = _ from hk.out) (fun h => h))
            have h59 := hid (k9.get (show W.drew.heap[D]? = _ from h5.out) (fun h => h))
            have L9 := loc1 V9.out.r
            refine hK _ _ trivial ?_
            clear hK K k9 L4 L5 L7 L10 Lq
            repeat (first | (refine wpG_at (v := ?_) (by rfl) ?_ ?_; rotate_left; (focus (first | (go_simp; with_reducible rfl) | (go_simp; done))); simp only [Act.put, List.setIfInBounds_toArray, List.set_cons_zero, List.set_cons_succ]) | (refine wpG_at_skip (by rfl) ?_; simp only [Act.put, List.setIfInBounds_toArray, List.set_cons_zero, List.set_cons_succ]) | (refine wpG_held_skip (by rfl) ?_; simp only [Act.put, List.setIfInBounds_toArray, List.set_cons_zero, List.set_cons_succ]) | (refine wpG_held (v := ?_) (by rfl) ?_ ?_; rotate_left; (focus (intro w' hSw; (try dsimp only at hSw); go_split_ands; first | (go_simp; with_reducible rfl) | (go_simp; done))); simp only [Act.put, List.setIfInBounds_toArray, List.set_cons_zero, List.set_cons_succ]))
            refine wpG_eff (by rfl) (fun K hK => ?_)
            go_simp
            refine hK _ _ trivial ?_
            clear hK K
            repeat (first | (refine wpG_at (v := ?_) (by rfl) ?_ ?_; rotate_left; (focus (first | (go_simp; with_reducible rfl) | (go_simp; done))); simp only [Act.put, List.setIfInBounds_toArray, List.set_cons_zero, List.set_cons_succ]) | (refine wpG_at_skip (by rfl) ?_; simp only [Act.put, List.setIfInBounds_toArray, List.set_cons_zero, List.set_cons_succ]) | (refine wpG_held_skip (by rfl) ?_; simp only [Act.put, List.setIfInBounds_toArray, List.set_cons_zero, List.set_cons_succ]) | (refine wpG_held (v := ?_) (by rfl) ?_ ?_; rotate_left; (focus (intro w' hSw; (try dsimp only at hSw); go_split_ands; first | (go_simp; with_reducible rfl) | (go_simp; done))); simp only [Act.put, List.setIfInBounds_toArray, List.set_cons_zero, List.set_cons_succ]))
            refine wpG_nil (NoPanic.normal ?_)
            go_wp2_with fail
            have hb10s := US.out.s
            have hDl' := hDl.out
            have n1 : w.heap.size + 1 ≠ D2 := by omega
            have n2 : w.heap.size + 1 ≠ D := by omega
            have n3 : D2 ≠ D := by omega
            have hK2 : (w9.setCell ⟨w.heap.size + 1, 0, none⟩ (.bool true)).heap[D2]? = some (.deferred (some [])) := (Below.heap_setCell _ _ _ _ (Ne.symm n1)).trans hk9.out
            have hK1 : (w9.setCell ⟨w.heap.size + 1, 0, none⟩ (.bool true)).heap[D]? = some (.deferred (some [])) := (Below.heap_setCell _ _ _ _ (Ne.symm n2)).trans h59.out
            have g4 := blk_setCell V9.out.r 0 (.bool true)
            have KF : Kp NoB w (w9.setCell ⟨w.heap.size + 1, 0, none⟩ (.bool true)) := V9.out.k.setCell (p := ⟨w.heap.size + 1, 0, none⟩) _ (fun h => absurd h (by simp))
            generalize (w9.setCell ⟨w.heap.size + 1, 0, none⟩ (.bool true)) = W3 at *
            have g5 := (World.putObj_heap_other n1 (o := .deferred none) (w := W3)).trans g4
            have KP := KF.putObj (D := D2) (.deferred none) (fun h => absurd h (by omega))
            have L4' := loc1 ((World.putObj_heap_other n2 (o := .deferred none) (w := W3.putObj D2 (.deferred none))).trans g5)
            have KP2 := KP.putObj (D := D) (.deferred none) (fun h => absurd h (by omega))
            refine leaves_two hK2 hK1 n3 (v := .bool true) ?_ ⟨rfl, KP2⟩
            generalize (W3.putObj D2 (.deferred none)).putObj D (.deferred none) = W4 at *
            simp [results, Try.results6, go_sem, L4'.1]
          · -- left early
            rintro D2 c' pre W hD2 hp ⟨rfl, hx⟩ hk
            exact absurd hp hx
        · -- left early
          rintro D c' pre W hD hp (⟨rfl, hx⟩ | ⟨rfl, h1, ⟨n, h2⟩, h4, h5⟩) hDk
          · exact absurd hp hx
          · skip
            clear hp
            have L10 := loc1 h2
            have hDm : D ≠ b10 := by omega
            have V8 := hid (h1.keep US.out (((Kp.refl (fun b => b = b10) W).setCell (p := ⟨b10, 0, none⟩) (.int .i64 0) (fun _ => rfl)).mono (fun b hb => by omega)))
            have G8 := hid (blk_setCell h2 0 (.int .i64 0))
            have C8 := hid (blk_far h5 (a := ⟨b10, 0, none⟩) (.int .i64 0) (by simp; omega))
            have D8 := hid (show (W.setCell ⟨b10, 0, none⟩ (.int .i64 0)).heap[D]? = some (.deferred (some [])) from (Below.heap_setCell _ _ _ _ hDm).trans hDk)
            have hs8 : w6.heap.size ≤ (W.setCell ⟨b10, 0, none⟩ (.int .i64 0)).heap.size := by simpa using h4
            have hDl := hid (blk_lt D8.out)
            clear h1 h2 h4 h5 hDk V6 G10 C6
            try clear h3
            go_wp2_with fail
            generalize (W.setCell ⟨b10, 0, none⟩ (.int .i64 0)) = w8 at *
            clear L10
            have U8 := hid (U6.out.mono hs8)
            refine wp_range_list (gf := 31) (lb := #[.pointer (some ⟨c10, 0, none⟩)]) rfl (enters_of Try.func31 (by kernel_rfl) rfl) (encs := encR) (L := rowsL M) (by rw [rowsL_len]; exact hseq.out _ V8.out.c C8.out) (fun _ => rfl)
              (LvJ w b5 b7 p m q c10 b10 w8.heap.size D M (.slice ov (rowsL M).length cv) at_) (LvY M)
              (own_of_kp (fun s W W' h k => ⟨by obtain ⟨M', h1, h2⟩ := h.1; exact ⟨M', h1.keep U8.out k, h2⟩, k.get h.2.1 (by omega), h.2.2.1, Nat.le_trans h.2.2.2.1 k.size, k.get h.2.2.2.2 (by have := hDl.out; omega)⟩))
              (fun c => own_of_kp (fun s W W' h k => h))
              ⟨⟨M, V8.out, Less.nil M⟩, G8.out, Nat.zero_le _, Nat.le_refl _, D8.out⟩
              (fun x a' _ => ∃ u : Nat → Value, a' = { tmps := #[u 0, u 1, u 2, .pointer (some ⟨w.heap.size, 0, none⟩), .pointer (some ⟨w.heap.size + 1, 0, none⟩), .pointer (some ⟨b5, 0, none⟩), u 6, .pointer (some ⟨b7, 0, none⟩), u 8, u 9, .pointer (some ⟨b10, 0, none⟩), u 11, .int .i64 x.1, u 13, u 14, u 15, u 16, u 17, u 18, u 19, u 20, u 21, u 22, u 23, u 24, u 25, u 26, u 27, u 28, u 29, u 30, u 31, u 32, u 33, u 34, u 35, u 36, u 37, u 38, u 39, u 40, u 41, u 42, u 43, u 44, u 45, u 46, u 47, u 48, u 49, u 50, u 51, u 52, u 53, u 54, u 55, u 56, u 57, u 58, u 59, u 60, u 61, u 62, u 63, u 64, u 65, u 66, u 67, u 68, u 69, u 70, u 71, u 72, u 73, u 74, u 75, u 76, u 77, u 78, u 79, u 80, u 81, u 82, u 83, u 84, u 85, u 86, u 87, u 88, u 89, u 90, u 91, u 92, u 93, u 94, u 95, u 96, u 97, u 98, u 99, u 100, u 101, u 102, u 103, u 104, u 105, u 106, u 107, u 108, u 109, u 110, u 111, u 112, u 113, u 114], defers := [] })
              (fun x a' s W W' row h _ _ => h) ?_ ?_ ?_ ?_
            · -- the loop's variables
              rintro l pre ⟨x1, x2, x3⟩ W K hI hK
              unfold encR hV
              replace hI := hid hI
              gi_wp2_with fail
              exact hK _ _ (Kp.refl _ W) hI.out (ax_fun _ (by rfl))
            · -- a round
              rintro l pre ⟨x1, x2, x3⟩ a' W hl ⟨⟨M', h1, hless⟩, h2, h3, h4, h5⟩ ⟨u, rfl⟩ hn
              replace hless := hid hless
              obtain ⟨k, hpl⟩ : ∃ k, pre.length = k := ⟨_, rfl⟩
              rw [hpl] at h2 h3 hn
              have L3 := loc1 h1.a
              have L4 := loc1 h1.r
              have L5 := loc1 h1.t
              have L7 := loc1 h1.d
              have L10 := loc1 h2
              obtain ⟨⟨s, i, g⟩, hsig⟩ : ∃ y, (rowsL M)[k] = y := ⟨_, rfl⟩
              have hk : (rowsL M)[k]? = some (s, i, g) := by rw [← hsig]; exact List.getElem?_eq_getElem hn
              clear hsig
              obtain ⟨b, Le, hbv⟩ := cells_at h1.x hk
              have Lq := loc2 h1.x.hq
              have c1 : (0 : Int) ≤ (k : Int) := Int.natCast_nonneg _
              have c2 : (k : Int) < ((rowsL M).length : Int) := by omega
              have c4 : decide ((rowsL M).length ≤ k) = false := decide_eq_false (by omega)
              have hbad : s ≠ x1 → Hid (¬ pre ++ [(x1, x2, x3)] <+: rowsL M) := fun hne => hid (fun hp => hne (by
                have := pre_at hp
                rw [hpl, hk] at this
                injection this with this
                injection this))
              replace hbad := hid hbad
              replace hpl := hid hpl
              replace hk := hid hk
              replace h1 := hid h1
              replace h2 := hid h2
              obtain ⟨rfl, c3⟩ := hbv
              by_cases e1 : s = x1
              · subst e1
                have hb10s := US.out.s
                have hm10 := US.out.m
                have hwf : (Lit.int .i64 s).wf = true := O6.out.k.w _ (mget_mem ((row_mem O6.out).1 (List.mem_of_getElem? hk.out)))
                have HD := hid (cdrop_any (w := W.drew) h1.out.c.drew h1.out.o s hwf)
                have hDm' := hDl.out
                clear hbad hwf
                gi_wp2_with fail
                refine wpIn_region_G (fun _ => True) [(0, .at_), (1, .at_), (2, .at_), (3, .at_), (4, .at_), (5, .at_), (6, .at_), (7, .at_), (8, .at_), (9, .at_), (10, .at_), (11, .at_), (12, .at_), (13, .at_), (14, .at_), (15, .at_), (16, .at_), (17, .at_), (18, .at_)] ?L6 (by kernel_rfl) (by kernel_rfl) (by kernel_rfl) ?hL6 (trivial) ?hG6
                case hL6 => simp only [pickOps, List.map_cons, List.map_nil, List.getD_cons_zero, List.getD_cons_succ]; rfl
                repeat (first | (refine wpGS_at (v := ?_) (by rfl) ?_ ?_; rotate_left; (focus (first | (go_simp; with_reducible rfl) | (go_simp; done))); simp only [Act.put, List.setIfInBounds_toArray, List.set_cons_zero, List.set_cons_succ]) | (refine wpGS_at_skip (by rfl) ?_; simp only [Act.put, List.setIfInBounds_toArray, List.set_cons_zero, List.set_cons_succ]) | (refine wpGS_held_skip (by rfl) ?_; simp only [Act.put, List.setIfInBounds_toArray, List.set_cons_zero, List.set_cons_succ]) | (refine wpGS_held (v := ?_) (by rfl) ?_ ?_; rotate_left; (focus (intro w' hSw; (try dsimp only at hSw); go_split_ands; first | (go_simp; with_reducible rfl) | (go_simp; done))); simp only [Act.put, List.setIfInBounds_toArray, List.set_cons_zero, List.set_cons_succ]))
                refine wpGS_nil (NoPanic.normal ?_)
                gi_wp2_with fail
                refine ⟨trivial, (callsIn_wide.2 HD.out).mono ?_⟩
                rintro e w9 ⟨rfl, T9, k9⟩
                have k9' := hid (((Kp.refl NoB W).drew).mono (fun _ h => h.elim) |>.trans k9)
                have V9 := h1.out.drop T9 (h1.out.o.del s) k9'.out
                have hmb : b10 ≠ m := by omega
                have G9 := k9'.out.get h2.out hmb
                have hDM : D ≠ m := by omega
                have D9 := k9'.out.get h5 hDM
                have L9 := loc1 G9
                have KS : Kp (fun b => b = b10) w9 (w9.setCell ⟨b10, 0, none⟩ (.int .i64 ((k : Int) + 1))) := (Kp.refl (fun b => b = b10) w9).setCell (p := ⟨b10, 0, none⟩) _ (fun _ => rfl)
                have KA : Kp (fun b => b < w8.heap.size) W (w9.setCell ⟨b10, 0, none⟩ (.int .i64 ((k : Int) + 1))) := (k9'.out.mono (fun b hb => (by omega : b < w8.heap.size))).trans (KS.mono (fun b hb => (by omega : b < w8.heap.size)))
                have HJ := hid (show LvJ w b5 b7 p m q c10 b10 w8.heap.size D M (.slice (some ⟨b, 0, none⟩) (rowsL M).length cv) at_ (pre ++ [(s, x2, x3)]) (w9.setCell ⟨b10, 0, none⟩ (.int .i64 ((k : Int) + 1))) from
                  ⟨⟨_, V9.keep US.out (KS.mono (fun b hb => by omega)), hless.out.step (s, x2, x3)⟩, by rw [List.length_append, hpl.out]; exact blk_setCell G9 0 _, by rw [List.length_append, hpl.out]; simp; omega, Nat.le_trans h4 KA.size, KS.get D9 (by omega)⟩)
                replace KS := hid KS
                replace KA := hid KA
                replace G9 := hid G9
                replace D9 := hid D9
                replace V9 := hid V9
                clear T9 k9
                gi_wp2_with fail
                exact ⟨keepsFrom_kp KA.out, KN.of_kp KA.out, HJ.out⟩
              · skip
                have e4 : (s != x1) = true := by simpa using e1
                have hb := hid (hbad.out e1).out
                clear e1 hbad
                gi_wp2_with fail
                refine wpIn_region_G (fun _ => True) [(0, .at_), (1, .at_), (2, .at_), (3, .at_), (4, .at_), (5, .at_), (6, .at_), (7, .at_), (8, .at_), (9, .at_), (10, .at_), (11, .at_), (12, .at_), (13, .at_), (14, .at_), (15, .at_), (16, .at_), (17, .at_), (18, .at_)] ?L7 (by kernel_rfl) (by kernel_rfl) (by kernel_rfl) ?hL7 (trivial) ?hG7
                case hL7 => simp only [pickOps, List.map_cons, List.map_nil, List.getD_cons_zero, List.getD_cons_succ]; rfl
                repeat (first | (refine wpGS_at (v := ?_) (by rfl) ?_ ?_; rotate_left; (focus (first | (go_simp; with_reducible rfl) | (go_simp; done))); simp only [Act.put, List.setIfInBounds_toArray, List.set_cons_zero, List.set_cons_succ]) | (refine wpGS_at_skip (by rfl) ?_; simp only [Act.put, List.setIfInBounds_toArray, List.set_cons_zero, List.set_cons_succ]) | (refine wpGS_held_skip (by rfl) ?_; simp only [Act.put, List.setIfInBounds_toArray, List.set_cons_zero, List.set_cons_succ]) | (refine wpGS_held (v := ?_) (by rfl) ?_ ?_; rotate_left; (focus (intro w' hSw; (try dsimp only at hSw); go_split_ands; first | (go_simp; with_reducible rfl) | (go_simp; done))); simp only [Act.put, List.setIfInBounds_toArray, List.set_cons_zero, List.set_cons_succ]))
                refine wpGS_nil (NoPanic.normal ?_)
                gi_wp2_with fail
                have KS : Kp (fun b => b = w.heap.size + 1) W (W.setCell ⟨w.heap.size + 1, 0, none⟩ (.bool false)).drew := ((Kp.refl (fun b => b = w.heap.size + 1) W).setCell (p := ⟨w.heap.size + 1, 0, none⟩) _ (fun _ => rfl)).drew
                exact ⟨keepsFrom_kp (KS.mono (fun b hb => by have := US.out.s; omega)), rfl, hb.out⟩
            · -- all have come
              rintro D2 W hD2 ⟨⟨M', h1, hless⟩, h2, h3, h4, h5⟩ hk
              obtain rfl := hless.all O6.out
              have HLn := hid (len_any (h1.c.drew) h1.o)
              have L4 := loc1 h1.r
              have L5 := loc1 h1.t
              have L7 := loc1 h1.d
              have L10 := loc1 h2
              have Lq := loc2 h1.x.hq
              replace h1 := hid h1
              replace h2 := hid h2
              replace hk := hid hk
              replace h5 := hid h5
              clear h3 hless
              simp only [List.length_nil] at HLn
              go_wp2_with fail
              refine wp_region_G (fun _ => True) [(0, .at_), (1, .at_), (2, .at_), (3, .at_), (4, .at_), (5, .at_), (6, .at_), (7, .at_), (8, .at_), (9, .eff), (10, .at_), (11, .at_), (12, .at_), (13, .eff), (14, .at_), (15, .eff)] ?L10 (by kernel_rfl) (by kernel_rfl) ?hL10 (trivial) ?hG10
              case hL10 => simp only [pickOps, List.map_cons, List.map_nil, List.getD_cons_zero, List.getD_cons_succ]; rfl
              repeat (first | (refine wpG_at (v := ?_) (by rfl) ?_ ?_; rotate_left; (focus (first | (go_simp; with_reducible rfl) | (go_simp; done))); simp only [Act.put, List.setIfInBounds_toArray, List.set_cons_zero, List.set_cons_succ]) | (refine wpG_at_skip (by rfl) ?_; simp only [Act.put, List.setIfInBounds_toArray, List.set_cons_zero, List.set_cons_succ]) | (refine wpG_held_skip (by rfl) ?_; simp only [Act.put, List.setIfInBounds_toArray, List.set_cons_zero, List.set_cons_succ]) | (refine wpG_held (v := ?_) (by rfl) ?_ ?_; rotate_left; (focus (intro w' hSw; (try dsimp only at hSw); go_split_ands; first | (go_simp; with_reducible rfl) | (go_simp; done))); simp only [Act.put, List.setIfInBounds_toArray, List.set_cons_zero, List.set_cons_succ]))
              refine wpG_eff (by rfl) (fun K hK => ?_)
              go_simp
              refine HLn.out.mono ?_
              rintro e w9 ⟨rfl, rfl⟩
              refine hK _ _ trivial ?_
              clear hK K
              repeat (first | (refine wpG_at (v := ?_) (by rfl) ?_ ?_; rotate_left; (focus (first | (go_simp; with_reducible rfl) | (go_simp; done))); simp only [Act.put, List.setIfInBounds_toArray, List.set_cons_zero, List.set_cons_succ]) | (refine wpG_at_skip (by rfl) ?_; simp only [Act.put, List.setIfInBounds_toArray, List.set_cons_zero, List.set_cons_succ]) | (refine wpG_held_skip (by rfl) ?_; simp only [Act.put, List.setIfInBounds_toArray, List.set_cons_zero, List.set_cons_succ]) | (refine wpG_held (v := ?_) (by rfl) ?_ ?_; rotate_left; (focus (intro w' hSw; (try dsimp only at hSw); go_split_ands; first | (go_simp; with_reducible rfl) | (go_simp; done))); simp only [Act.put, List.setIfInBounds_toArray, List.set_cons_zero, List.set_cons_succ]))
              refine wpG_eff (by rfl) (fun K hK => ?_)
              go_simp
              refine (HK.out _).mono ?_
              rintro e w9 ⟨rfl, k9⟩
              have V9 := hid ((h1.out.kn ((Kp.refl _ _).drew)).kn k9)
              have hk9 := hid (k9.get (show W.drew.heap[D2]? = _ from hk.out) (fun h => h))
              have h59 := hid (k9.get (show W.drew.heap[D]? = _ from h5.out) (fun h => h))
              have L9 := loc1 V9.out.r
              refine hK _ _ trivial ?_
              clear hK K k9 L4 L5 L7 L10 Lq
              repeat (first | (refine wpG_at (v := ?_) (by rfl) ?_ ?_; rotate_left; (focus (first | (go_simp; with_reducible rfl) | (go_simp; done))); simp only [Act.put, List.setIfInBounds_toArray, List.set_cons_zero, List.set_cons_succ]) | (refine wpG_at_skip (by rfl) ?_; simp only [Act.put, List.setIfInBounds_toArray, List.set_cons_zero, List.set_cons_succ]) | (refine wpG_held_skip (by rfl) ?_; simp only [Act.put, List.setIfInBounds_toArray, List.set_cons_zero, List.set_cons_succ]) | (refine wpG_held (v := ?_) (by rfl) ?_ ?_; rotate_left; (focus (intro w' hSw; (try dsimp only at hSw); go_split_ands; first | (go_simp; with_reducible rfl) | (go_simp; done))); simp only [Act.put, List.setIfInBounds_toArray, List.set_cons_zero, List.set_cons_succ]))
              refine wpG_eff (by rfl) (fun K hK => ?_)
              go_simp
              refine hK _ _ trivial ?_
              clear hK K
              repeat (first | (refine wpG_at (v := ?_) (by rfl) ?_ ?_; rotate_left; (focus (first | (go_simp; with_reducible rfl) | (go_simp; done))); simp only [Act.put, List.setIfInBounds_toArray, List.set_cons_zero, List.set_cons_succ]) | (refine wpG_at_skip (by rfl) ?_; simp only [Act.put, List.setIfInBounds_toArray, List.set_cons_zero, List.set_cons_succ]) | (refine wpG_held_skip (by rfl) ?_; simp only [Act.put, List.setIfInBounds_toArray, List.set_cons_zero, List.set_cons_succ]) | (refine wpG_held (v := ?_) (by rfl) ?_ ?_; rotate_left; (focus (intro w' hSw; (try dsimp only at hSw); go_split_ands; first | (go_simp; with_reducible rfl) | (go_simp; done))); simp only [Act.put, List.setIfInBounds_toArray, List.set_cons_zero, List.set_cons_succ]))
              refine wpG_nil (NoPanic.normal ?_)
              go_wp2_with fail
              have hb10s := US.out.s
              have hDl' := hDl.out
              have n1 : w.heap.size + 1 ≠ D2 := by omega
              have n2 : w.heap.size + 1 ≠ D := by omega
              have n3 : D2 ≠ D := by omega
              have hK2 : (w9.setCell ⟨w.heap.size + 1, 0, none⟩ (.bool true)).heap[D2]? = some (.deferred (some [])) := (Below.heap_setCell _ _ _ _ (Ne.symm n1)).trans hk9.out
              have hK1 : (w9.setCell ⟨w.heap.size + 1, 0, none⟩ (.bool true)).heap[D]? = some (.deferred (some [])) := (Below.heap_setCell _ _ _ _ (Ne.symm n2)).trans h59.out
              have g4 := blk_setCell V9.out.r 0 (.bool true)
              have KF : Kp NoB w (w9.setCell ⟨w.heap.size + 1, 0, none⟩ (.bool true)) := V9.out.k.setCell (p := ⟨w.heap.size + 1, 0, none⟩) _ (fun h => absurd h (by simp))
              generalize (w9.setCell ⟨w.heap.size + 1, 0, none⟩ (.bool true)) = W3 at *
              have g5 := (World.putObj_heap_other n1 (o := .deferred none) (w := W3)).trans g4
              have KP := KF.putObj (D := D2) (.deferred none) (fun h => absurd h (by omega))
              have L4' := loc1 ((World.putObj_heap_other n2 (o := .deferred none) (w := W3.putObj D2 (.deferred none))).trans g5)
              have KP2 := KP.putObj (D := D) (.deferred none) (fun h => absurd h (by omega))
              refine leaves_two hK2 hK1 n3 (v := .bool true) ?_ ⟨rfl, KP2⟩
              generalize (W3.putObj D2 (.deferred none)).putObj D (.deferred none) = W4 at *
              simp [results, Try.results6, go_sem, L4'.1]
            · -- left early
              rintro D2 c' pre W hD2 hp ⟨rfl, hx⟩ hk
              exact absurd hp hx
end
end Go.Proofs.Ytbgojgnbbkgkgaa
