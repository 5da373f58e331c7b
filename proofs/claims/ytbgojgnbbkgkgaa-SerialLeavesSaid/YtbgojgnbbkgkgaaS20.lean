/- Walks: Drop and Next of the document's table, Drop of the code's. -/
import Derived.Test.YtbgojgnbbkgkgaaS19
namespace Go.Proofs.Ytbgojgnbbkgkgaa
set_option linter.unusedSimpArgs false
set_option linter.unusedVariables false
open Go.RowKit Go.Shelf
attribute [local go_sem ↓] Go.wp_at_zero Go.wp_at_succ
def dropE (M : List (Int × Value)) (s : Int) : Int := if (mget M s).isSome then 0 else 4
section
variable {w w' : World} {q p m room : Nat} {v : Value} {M : List (Int × Value)}
set_option maxRecDepth 100000 in
set_option maxHeartbeats 4000000 in
theorem rput_any (h : RAt w q room v (rowsL M)) (o : TOk M room) (s i g : Int) (hs : (Lit.int .i64 s).wf = true) :
    Calls Try.prog 27 #[.pointer (some ⟨q, 0, none⟩), .int .i64 s, hV i g] w fun e w' => e = .returned (.int .i64 (putE M room s g)) ∧ ∃ v', RAt w' q room v' (rowsL (putM M room s i g)) ∧ Kp (· = q) w w' := by
  have hl := rowsL_len M
  have hml : M.length ≤ 64 := Nat.le_trans o.le o.n2
  by_cases hb : (1 ≤ s ∧ s ≤ 1073741824) ∧ g ≠ 0
  · have hb' : ¬ (¬ (1 ≤ s ∧ s ≤ 1073741824) ∨ g = 0) := by omega
    by_cases hf : 0 ≤ findR (rowsL M) s
    · have hE : putE M room s g = 15 := by unfold putE; rw [if_neg hb', if_pos ((find_iff o).1 hf)]
      refine (rput_exists h (by omega) s i g hb hf).mono ?_
      rintro e w1 ⟨rfl, k⟩
      rw [hE]
      exact ⟨rfl, v, by rw [putM, hE]; exact h.kn k, k.mono (fun _ h => h.elim)⟩
    · have hn : ¬ (mget M s).isSome = true := fun h => hf ((find_iff o).2 h)
      by_cases hr : room ≤ M.length
      · have hE : putE M room s g = 3 := by unfold putE; rw [if_neg hb', if_neg hn, if_pos hr]
        refine (rput_full h (by omega) s i g hb (by omega) (by omega)).mono ?_
        rintro e w1 ⟨rfl, k⟩
        rw [hE]
        exact ⟨rfl, v, by rw [putM, hE]; exact h.kn k, k.mono (fun _ h => h.elim)⟩
      · have hE : putE M room s g = 0 := by unfold putE; rw [if_neg hb', if_neg hn, if_neg hr]
        refine (rput_good h (rows_rise o) (by omega) s i g hb (by omega) (by omega)).mono ?_
        rintro e w1 ⟨rfl, v', L', h1, h2, h3, k⟩
        rw [hE]
        exact ⟨rfl, v', by rw [← rows_put o hs hE h2 h3]; exact h1, k⟩
  · have hE : putE M room s g = 2 := by unfold putE; rw [if_pos (by omega)]
    refine (rput_bad h s i g (by omega)).mono ?_
    rintro e w1 ⟨rfl, k⟩
    rw [hE]
    exact ⟨rfl, v, by rw [putM, hE]; exact h.kn k, k.mono (fun _ h => h.elim)⟩
set_option maxRecDepth 100000 in
set_option maxHeartbeats 4000000 in
theorem rdrop_any (h : RAt w q room v (rowsL M)) (o : TOk M room) (s : Int) :
    Calls Try.prog 28 #[.pointer (some ⟨q, 0, none⟩), .int .i64 s] w fun e w' => e = .returned (.int .i64 (dropE M s)) ∧ ∃ v', RAt w' q room v' (rowsL (mdel M s)) ∧ Kp (· = q) w w' := by
  have hll := rowsL_len M
  have hml : M.length ≤ 64 := Nat.le_trans o.le o.n2
  have HF := hid (find_any h (by omega) s)
  unfold dropE
  by_cases hf : 0 ≤ findR (rowsL M) s
  · rw [if_pos ((find_iff o).1 hf)]
    obtain ⟨i, hfi, hi, hie⟩ := find_pos hf
    rw [hfi] at HF
    have hdel := hid (rows_del o hi hie)
    generalize rowsL (mdel M s) = L' at *
    have hlen : (rowsL M).length ≤ 64 := by omega
    clear hfi hf hie hll
    generalize rowsL M = L at *
    have Lp := loc2 h.hq
    have H0 := hid h
    rcases h.hv.drew.cut eR_len (by omega) with ⟨_, hL0⟩ | ⟨gb, ca, hv1, hca, hgl, hTk, hDr⟩
    · subst hL0; simp at hi
    subst hv1
    have c1 : (0 : Int) ≤ (i : Int) := Int.natCast_nonneg _
    have c2 : (i : Int) ≤ (ca : Int) := by omega
    have c3 : (i : Int) + 1 ≤ (L.length : Int) := by omega
    have c4 : (L.length : Int) ≤ (ca : Int) := by omega
    have c5 : ¬ ca = i := by omega
    have c6 : ¬ (i : Int) < 0 := by omega
    have c7 : (0 : Int) ≤ (i : Int) + 1 := by omega
    have c8 : ((i : Int) + 1).toNat = i + 1 := by omega
    have c9 : IntKind.i64.wrap ((i : Int) + 1) = (i : Int) + 1 := by simp [IntKind.wrap, IntKind.bits, IntKind.signed]; omega
    obtain ⟨va, wa, r1, a1, ka, oa⟩ := run_nil_sl (P := Try.prog) (t := 44) (ty := 44) eR_len (by omega) sl44 i56 rfl (hTk i (by omega) ca (by omega)) (oneR _) (by rw [List.length_take]; omega) (by omega)
    have hD := hid (fun o' c' h1 h2 => (hDr (i + 1) o' c' h1 h2).kn ka)
    have SK := hid (fun W (k : Kp NoB w.drew W) => (loc2 (k.get (blk_drew H0.out.hq) (fun h => h))).1)
    have hlT : (L.take i).length + (L.drop (i + 1)).length ≤ 4294967296 := by rw [List.length_take, List.length_drop]; omega
    replace r1 := hid r1
    clear h hTk hDr
    rcases (show ca = i + 1 ∨ ¬ ca = i + 1 from by omega) with hce | hce
    · have hle : L.length = i + 1 := by omega
      have hD1 := hD.out 0 0 (fun h => by omega) (by omega)
      rw [show L.length - (i + 1) = 0 from by omega] at hD1
      subst hce
      have b9 : (L.length : Int) ≤ (i : Int) + 1 := by omega
      have b10 : (i : Int) ≤ (i : Int) + 1 := by omega
      clear hle
      obtain ⟨vb, wb, r2, a2, g2, o2⟩ := run_grow_sl (P := Try.prog) (t := 44) (ty := 44) eR_len (by omega) sl44 i56 rfl a1 hD1 (oneR _) hlT (by omega)
      have kb : Kp NoB w.drew wb := ka.trans' (kp_grown (F := fun b => va.ownBlock = some b) g2 (fun b hb => hb)) (fun b hb hg => absurd (oa b hg) (by omega))
      have hq4 := kb.get (blk_drew H0.out.hq) (fun h => h)
      have L4 := loc2 hq4
      rw [hdel.out] at a2
      obtain ⟨oc, cc, hvc, _, _⟩ := a2.form
      have hne := hid (a2.ne hq4 (by decide))
      replace r2 := hid r2
      replace ka := hid ka
      replace kb := hid kb
      replace a2 := hid a2
      replace hq4 := hid hq4
      subst hvc
      clear a1 g2 o2 oa hD1 hD hlT
      go_enter Try.func28, Try.ntmps28
      go_wp2_with fail
      refine HF.out.mono ?_
      rintro e w1 ⟨rfl, rfl⟩
      go_wp2_with fail
      refine wp_region_G (fun W => W.cell? ⟨q, 0, none⟩ = some (.slice (some ⟨gb, 0, none⟩) L.length (i + 1))) [(0, .held), (1, .at_), (2, .at_), (3, .at_), (4, .at_), (5, .at_), (6, .at_), (8, .held), (9, .held), (10, .held), (11, .held), (12, .held), (13, .held), (14, .held), (7, .eff), (15, .eff), (16, .at_), (17, .at_), (18, .fin)] ?L1 (by kernel_rfl) (by kernel_rfl) ?hL1 (Lp.1) ?hG1
      case hL1 => simp only [pickOps, List.map_cons, List.map_nil, List.getD_cons_zero, List.getD_cons_succ]; rfl
      repeat (first | (refine wpG_at (v := ?_) (by rfl) ?_ ?_; rotate_left; (focus (first | (go_simp; with_reducible rfl) | (go_simp; done))); simp only [Act.put, List.setIfInBounds_toArray, List.set_cons_zero, List.set_cons_succ]) | (refine wpG_at_skip (by rfl) ?_; simp only [Act.put, List.setIfInBounds_toArray, List.set_cons_zero, List.set_cons_succ]) | (refine wpG_held_skip (by rfl) ?_; simp only [Act.put, List.setIfInBounds_toArray, List.set_cons_zero, List.set_cons_succ]) | (refine wpG_held (v := ?_) (by rfl) ?_ ?_; rotate_left; (focus (intro w' hSw; (try dsimp only at hSw); go_split_ands; first | (go_simp; with_reducible rfl) | (go_simp; done))); simp only [Act.put, List.setIfInBounds_toArray, List.set_cons_zero, List.set_cons_succ]))
      refine wpG_eff (by rfl) (fun K hK => ?_)
      refine Lib.wp_append_run _ _ _ 44 44 rfl (.slice none 0 0) (.slice (some ⟨gb, 0, none⟩) i (i + 1)) rfl rfl _ _ r1.out ?_
      refine hK _ _ (SK.out _ ka.out) ?_
      clear hK K
      repeat (first | (refine wpG_at (v := ?_) (by rfl) ?_ ?_; rotate_left; (focus (first | (go_simp; with_reducible rfl) | (go_simp; done))); simp only [Act.put, List.setIfInBounds_toArray, List.set_cons_zero, List.set_cons_succ]) | (refine wpG_at_skip (by rfl) ?_; simp only [Act.put, List.setIfInBounds_toArray, List.set_cons_zero, List.set_cons_succ]) | (refine wpG_held_skip (by rfl) ?_; simp only [Act.put, List.setIfInBounds_toArray, List.set_cons_zero, List.set_cons_succ]) | (refine wpG_held (v := ?_) (by rfl) ?_ ?_; rotate_left; (focus (intro w' hSw; (try dsimp only at hSw); go_split_ands; first | (go_simp; with_reducible rfl) | (go_simp; done))); simp only [Act.put, List.setIfInBounds_toArray, List.set_cons_zero, List.set_cons_succ]))
      refine wpG_eff (by rfl) (fun K hK => ?_)
      refine Lib.wp_append_run _ _ _ 44 44 rfl va (.slice (some ⟨gb, 0, none⟩) 0 0) rfl rfl _ _ r2.out ?_
      refine hK _ _ (SK.out _ kb.out) ?_
      clear hK K
      repeat (first | (refine wpG_at (v := ?_) (by rfl) ?_ ?_; rotate_left; (focus (first | (go_simp; with_reducible rfl) | (go_simp; done))); simp only [Act.put, List.setIfInBounds_toArray, List.set_cons_zero, List.set_cons_succ]) | (refine wpG_at_skip (by rfl) ?_; simp only [Act.put, List.setIfInBounds_toArray, List.set_cons_zero, List.set_cons_succ]) | (refine wpG_held_skip (by rfl) ?_; simp only [Act.put, List.setIfInBounds_toArray, List.set_cons_zero, List.set_cons_succ]) | (refine wpG_held (v := ?_) (by rfl) ?_ ?_; rotate_left; (focus (intro w' hSw; (try dsimp only at hSw); go_split_ands; first | (go_simp; with_reducible rfl) | (go_simp; done))); simp only [Act.put, List.setIfInBounds_toArray, List.set_cons_zero, List.set_cons_succ]))
      refine wpG_fin (by rfl) (fun K hK => ?_)
      go_simp
      refine hK _ _ ?_
      clear hK K
      repeat (first | (refine wpG_at (v := ?_) (by rfl) ?_ ?_; rotate_left; (focus (first | (go_simp; with_reducible rfl) | (go_simp; done))); simp only [Act.put, List.setIfInBounds_toArray, List.set_cons_zero, List.set_cons_succ]) | (refine wpG_at_skip (by rfl) ?_; simp only [Act.put, List.setIfInBounds_toArray, List.set_cons_zero, List.set_cons_succ]) | (refine wpG_held_skip (by rfl) ?_; simp only [Act.put, List.setIfInBounds_toArray, List.set_cons_zero, List.set_cons_succ]) | (refine wpG_held (v := ?_) (by rfl) ?_ ?_; rotate_left; (focus (intro w' hSw; (try dsimp only at hSw); go_split_ands; first | (go_simp; with_reducible rfl) | (go_simp; done))); simp only [Act.put, List.setIfInBounds_toArray, List.set_cons_zero, List.set_cons_succ]))
      refine wpG_nil (NoPanic.normal ?_)
      go_wp2_with fail
      go_ret
      exact ⟨rfl, _, ⟨blk_setCell hq4.out 0 _, a2.out.setCell _ _ hne.out⟩, (((Kp.refl NoB _).drew.trans kb.out).mono (fun _ h => h.elim)).setCell (p := ⟨q, 0, none⟩) _ (fun _ => rfl)⟩
    · have hD1 := hD.out ((i + 1) * 3) (ca - (i + 1)) (fun _ => rfl) (by omega)
      obtain ⟨vb, wb, r2, a2, g2, o2⟩ := run_grow_sl (P := Try.prog) (t := 44) (ty := 44) eR_len (by omega) sl44 i56 rfl a1 hD1 (oneR _) hlT (by omega)
      have kb : Kp NoB w.drew wb := ka.trans' (kp_grown (F := fun b => va.ownBlock = some b) g2 (fun b hb => hb)) (fun b hb hg => absurd (oa b hg) (by omega))
      have hq4 := kb.get (blk_drew H0.out.hq) (fun h => h)
      have L4 := loc2 hq4
      rw [hdel.out] at a2
      obtain ⟨oc, cc, hvc, _, _⟩ := a2.form
      have hne := hid (a2.ne hq4 (by decide))
      replace r2 := hid r2
      replace ka := hid ka
      replace kb := hid kb
      replace a2 := hid a2
      replace hq4 := hid hq4
      subst hvc
      clear a1 g2 o2 oa hD1 hD hlT
      go_enter Try.func28, Try.ntmps28
      go_wp2_with fail
      refine HF.out.mono ?_
      rintro e w1 ⟨rfl, rfl⟩
      go_wp2_with fail
      refine wp_region_G (fun W => W.cell? ⟨q, 0, none⟩ = some (.slice (some ⟨gb, 0, none⟩) L.length ca)) [(0, .held), (1, .at_), (2, .at_), (3, .at_), (4, .at_), (5, .at_), (6, .at_), (8, .held), (9, .held), (10, .held), (11, .held), (12, .held), (13, .held), (14, .held), (7, .eff), (15, .eff), (16, .at_), (17, .at_), (18, .fin)] ?L2 (by kernel_rfl) (by kernel_rfl) ?hL2 (Lp.1) ?hG2
      case hL2 => simp only [pickOps, List.map_cons, List.map_nil, List.getD_cons_zero, List.getD_cons_succ]; rfl
      repeat (first | (refine wpG_at (v := ?_) (by rfl) ?_ ?_; rotate_left; (focus (first | (go_simp; with_reducible rfl) | (go_simp; done))); simp only [Act.put, List.setIfInBounds_toArray, List.set_cons_zero, List.set_cons_succ]) | (refine wpG_at_skip (by rfl) ?_; simp only [Act.put, List.setIfInBounds_toArray, List.set_cons_zero, List.set_cons_succ]) | (refine wpG_held_skip (by rfl) ?_; simp only [Act.put, List.setIfInBounds_toArray, List.set_cons_zero, List.set_cons_succ]) | (refine wpG_held (v := ?_) (by rfl) ?_ ?_; rotate_left; (focus (intro w' hSw; (try dsimp only at hSw); go_split_ands; first | (go_simp; with_reducible rfl) | (go_simp; done))); simp only [Act.put, List.setIfInBounds_toArray, List.set_cons_zero, List.set_cons_succ]))
      refine wpG_eff (by rfl) (fun K hK => ?_)
      refine Lib.wp_append_run _ _ _ 44 44 rfl (.slice none 0 0) (.slice (some ⟨gb, 0, none⟩) i ca) rfl rfl _ _ r1.out ?_
      refine hK _ _ (SK.out _ ka.out) ?_
      clear hK K
      repeat (first | (refine wpG_at (v := ?_) (by rfl) ?_ ?_; rotate_left; (focus (first | (go_simp; with_reducible rfl) | (go_simp; done))); simp only [Act.put, List.setIfInBounds_toArray, List.set_cons_zero, List.set_cons_succ]) | (refine wpG_at_skip (by rfl) ?_; simp only [Act.put, List.setIfInBounds_toArray, List.set_cons_zero, List.set_cons_succ]) | (refine wpG_held_skip (by rfl) ?_; simp only [Act.put, List.setIfInBounds_toArray, List.set_cons_zero, List.set_cons_succ]) | (refine wpG_held (v := ?_) (by rfl) ?_ ?_; rotate_left; (focus (intro w' hSw; (try dsimp only at hSw); go_split_ands; first | (go_simp; with_reducible rfl) | (go_simp; done))); simp only [Act.put, List.setIfInBounds_toArray, List.set_cons_zero, List.set_cons_succ]))
      refine wpG_eff (by rfl) (fun K hK => ?_)
      refine Lib.wp_append_run _ _ _ 44 44 rfl va (.slice (some ⟨gb, (i + 1) * 3, none⟩) (L.length - (i + 1)) (ca - (i + 1))) rfl rfl _ _ r2.out ?_
      refine hK _ _ (SK.out _ kb.out) ?_
      clear hK K
      repeat (first | (refine wpG_at (v := ?_) (by rfl) ?_ ?_; rotate_left; (focus (first | (go_simp; with_reducible rfl) | (go_simp; done))); simp only [Act.put, List.setIfInBounds_toArray, List.set_cons_zero, List.set_cons_succ]) | (refine wpG_at_skip (by rfl) ?_; simp only [Act.put, List.setIfInBounds_toArray, List.set_cons_zero, List.set_cons_succ]) | (refine wpG_held_skip (by rfl) ?_; simp only [Act.put, List.setIfInBounds_toArray, List.set_cons_zero, List.set_cons_succ]) | (refine wpG_held (v := ?_) (by rfl) ?_ ?_; rotate_left; (focus (intro w' hSw; (try dsimp only at hSw); go_split_ands; first | (go_simp; with_reducible rfl) | (go_simp; done))); simp only [Act.put, List.setIfInBounds_toArray, List.set_cons_zero, List.set_cons_succ]))
      refine wpG_fin (by rfl) (fun K hK => ?_)
      go_simp
      refine hK _ _ ?_
      clear hK K
      repeat (first | (refine wpG_at (v := ?_) (by rfl) ?_ ?_; rotate_left; (focus (first | (go_simp; with_reducible rfl) | (go_simp; done))); simp only [Act.put, List.setIfInBounds_toArray, List.set_cons_zero, List.set_cons_succ]) | (refine wpG_at_skip (by rfl) ?_; simp only [Act.put, List.setIfInBounds_toArray, List.set_cons_zero, List.set_cons_succ]) | (refine wpG_held_skip (by rfl) ?_; simp only [Act.put, List.setIfInBounds_toArray, List.set_cons_zero, List.set_cons_succ]) | (refine wpG_held (v := ?_) (by rfl) ?_ ?_; rotate_left; (focus (intro w' hSw; (try dsimp only at hSw); go_split_ands; first | (go_simp; with_reducible rfl) | (go_simp; done))); simp only [Act.put, List.setIfInBounds_toArray, List.set_cons_zero, List.set_cons_succ]))
      refine wpG_nil (NoPanic.normal ?_)
      go_wp2_with fail
      go_ret
      exact ⟨rfl, _, ⟨blk_setCell hq4.out 0 _, a2.out.setCell _ _ hne.out⟩, (((Kp.refl NoB _).drew.trans kb.out).mono (fun _ h => h.elim)).setCell (p := ⟨q, 0, none⟩) _ (fun _ => rfl)⟩
  · rw [if_neg (fun h => hf ((find_iff o).2 h))]
    have hn : mget M s = none := by
      cases hq : mget M s with
      | none => rfl
      | some x => exact absurd ((find_iff o).2 (by rw [hq]; rfl)) hf
    rw [del_none hn]
    have hf' : findR (rowsL M) s < 0 := by omega
    have H0 := hid h
    generalize findR (rowsL M) s = r at *
    clear h hf hn
    go_enter Try.func28, Try.ntmps28
    go_wp2_with fail
    refine HF.out.mono ?_
    rintro e w1 ⟨rfl, rfl⟩
    go_wp2_with fail
    go_ret
    exact ⟨rfl, v, H0.out, Kp.refl _ _⟩
end
end Go.Proofs.Ytbgojgnbbkgkgaa
