/- Walks: the chapter's rows. -/
import Derived.Test.YtplbkjgkocnehaaU11
namespace Go.Proofs.Ytplbkjgkocnehaa
set_option linter.unusedSimpArgs false
set_option linter.unusedVariables false
open Go.RowKit
attribute [local go_sem ↓] Go.wp_at_zero Go.wp_at_succ
theorem rowI_sl {w : World} {x : Value} {l : List Int} (h : RowAt w 3 eI 1 x l) : Sl w 3 eI x l := h.sl eI_len (by omega)
theorem next_any {w : World} {p : Nat} {u v : Value} {D : List Nat} {H : List HV} {x : Ret} {R' : List (Ret × List Nat)} {K : Nat} (h : UAt w p u v D H ((x, []) :: R')) (o : UOk D ((x, []) :: R') K) :
    Calls Try.prog 23 #[.pointer (some ⟨p, 0, none⟩)] w fun e w' => ∃ a b c v' H', e = .returned (.tuple #[.agg #[a, b, c], .bool true]) ∧ UAt w' p u v' D H' R' ∧ RowR w' a b c x ∧ Grow w w' (ufp p u v H) (ufp p u v' H') ∧ Kp (· = p) w w' ∧
      (∀ q, (a.ownBlock = some q ∨ b.ownBlock = some q ∨ c.ownBlock = some q) → ufp p u v H q ∧ q ≠ p) := by
  refine (next_yes h o).mono ?_
  rintro e w1 ⟨h', H', v', rfl, rfl, hU, hR, hv, k1⟩
  have ho := h.hh 0 h' x [] rfl rfl
  refine ⟨_, _, _, v', H', rfl, hU, hR, ⟨k1.mono (fun b hb => .inl hb), ?_⟩, k1, ?_⟩
  · rintro b (rfl | hb | hb | ⟨h2, hm, hb⟩)
    · exact .inl (.inl rfl)
    · exact .inl (.inr (.inl hb))
    · exact .inl (.inr (.inr (.inl (hv ▸ hb))))
    · exact .inl (.inr (.inr (.inr ⟨h2, List.mem_cons_of_mem _ hm, hb⟩)))
  · intro q hq
    have hf : h'.fp q := by
      rcases hq with hq | hq | hq
      · exact .inl hq
      · exact .inr (.inl hq)
      · exact .inr (.inr (.inl hq))
    exact ⟨.inr (.inr (.inr ⟨h', List.mem_cons_self, hf⟩)), fun e => ho.nfp h.hp h.hv q hf (.inl e)⟩
set_option maxRecDepth 100000 in
set_option maxHeartbeats 8000000 in
theorem known_any (w : World) : Calls Try.prog 11 #[] w fun e w' => e = .returned (.bool true) ∧ Kp NoB w w' := by
  have HN := hid (new_any 2 (by omega) (by omega) w)
  have HE := hid (fun (W : World) {p : Nat} {u v : Value} {D : List Nat} {H : List HV} {R : List (Ret × List Nat)} {K : Nat} (h : UAt W p u v D H R) (o : UOk D R K) (t : Int) => enter_any h o t)
  have H1 := hid (fun W => one_any 7 W)
  go_enter Try.func11, Try.ntmps11
  go_wp2_with fail
  refine HN.out.mono ?_
  rintro e w1 ⟨p, u, rfl, A1, hp, hu, k1⟩
  have B0 := hid (fun b h => UAt.new_fp (p := p) (u := u) (n := 2) (b := b) hp hu h)
  replace A1 : UAt w1 p u (.slice none 0 0) [0, 0] [] [] := A1
  have O1 : UOk [0, 0] [] 0 := UOk.new (n := 2) (by omega) (by omega)
  have G1 := hid (show Grow w w1 NoB (ufp p u (.slice none 0 0) []) from ⟨k1, fun b hb => .inr (B0.out b hb)⟩)
  have E1 := hid (enter_any A1 O1 0)
  have O2 := hid (O1.ent (by omega) 0)
  clear A1 O1 k1 hu hp
  go_wp2_with fail
  refine E1.out.mono ?_
  rintro e w2 ⟨rfl, A2, g2⟩
  replace A2 : UAt w2 p u (.slice none 0 0) [1, 0] [] [] := A2
  have O2' : UOk [1, 0] [] 1 := O2.out
  have G2 := hid (G1.out.trans g2)
  replace A2 := hid A2
  clear g2 E1
  go_wp2_with fail
  refine (H1.out _).mono ?_
  rintro e w3 ⟨x, rfl, hx, hn, k3⟩
  have A3 := A2.out.kn k3
  have E3 := hid (retire_any A3 O2' hx.sl ⟨by simp, by simp, by simp⟩)
  have O3 := hid (O2'.ret (x := ⟨[], [(7, 1)], []⟩) (by omega) ⟨by simp, by simp, by simp⟩)
  have G3 := hid (G2.out.trans (Grow.of_kn k3))
  obtain ⟨ox, cx, hxv, _⟩ := hx.b.form
  subst hxv
  replace hx := hid hx
  replace A3 := hid A3
  clear k3 hn O2'
  go_wp2_with fail
  refine E3.out.mono ?_
  rintro e w4 ⟨rfl, v4, H4, A4, g4, _⟩
  replace A4 : UAt w4 p u v4 [1, 0] H4 [(⟨[], [(7, 1)], []⟩, [0])] := A4
  have O4 : UOk [1, 0] [(⟨[], [(7, 1)], []⟩, [0])] 2 := O3.out
  have G4 := hid (G3.out.trans g4)
  have E4 := hid (enter_any A4 O4 1)
  have O5 := hid (O4.ent (by omega) 1)
  clear A4 O4 g4 E3 O3
  go_wp2_with fail
  refine E4.out.mono ?_
  rintro e w5 ⟨rfl, A5, g5⟩
  replace A5 : UAt w5 p u v4 [1, 1] H4 [(⟨[], [(7, 1)], []⟩, [0])] := A5
  have O5' : UOk [1, 1] [(⟨[], [(7, 1)], []⟩, [0])] 3 := O5.out
  have G5 := hid (G4.out.trans g5)
  have E5 := hid (waits_any A5 O5')
  replace A5 := hid A5
  clear E4 g5
  go_wp2_with fail
  refine E5.out.mono ?_
  rintro e w6 ⟨y, rfl, hy, hyn, k6⟩
  have A6 := A5.out.kn k6
  have G6 := hid (G5.out.trans (Grow.of_kn k6))
  replace hy : RowAt w6 3 eI 1 y [0] := hy
  have hyf := hid (show ∀ b, y.ownBlock = some b → ¬ ufp p u v4 H4 b from fun b hb hq => by have := A5.out.lt b hq; have := hyn b hb; omega)
  obtain ⟨oy, cy, hyv, _⟩ := hy.form
  subst hyv
  replace hy := hid hy
  have E6 := hid (enter_any A6 O5' 0)
  have O6 := hid (O5'.ent (by omega) 0)
  clear A6 k6 hyn E5
  go_wp2_with fail
  refine E6.out.mono ?_
  rintro e w7 ⟨rfl, A7, g7⟩
  replace A7 : UAt w7 p u v4 [2, 1] H4 [(⟨[], [(7, 1)], []⟩, [0])] := A7
  have O7 : UOk [2, 1] [(⟨[], [(7, 1)], []⟩, [0])] 4 := O6.out
  have hy7 := hid (hy.out.kp g7.kp (fun b hb hq => hyf.out b hb hq))
  have G7 := hid (G6.out.trans g7)
  have E7 := hid (leave_any A7 O7 0)
  have O8 := hid (O7.lev 0)
  clear A7 O7 g7 E6
  go_wp2_with fail
  refine E7.out.mono ?_
  rintro e w8 ⟨rfl, A8, g8⟩
  replace A8 : UAt w8 p u v4 [1, 1] H4 [(⟨[], [(7, 1)], []⟩, [0])] := A8
  have O8' : UOk [1, 1] [(⟨[], [(7, 1)], []⟩, [0])] 4 := O8.out
  have hy8 := hid (hy7.out.kp g8.kp (fun b hb hq => hyf.out b hb hq))
  have G8 := hid (G7.out.trans g8)
  have E8 := hid (ripe_any A8 O8')
  rw [show ripe [((⟨[], [(7, 1)], []⟩ : Ret), ([0] : List Nat))] = false from rfl] at E8
  have E9 := hid (leave_any A8 O8' 0)
  have O9 := hid (O8'.lev 0)
  clear A8 g8 E7
  go_wp2_with fail
  refine E8.out.mono ?_
  rintro e w9 ⟨rfl, rfl⟩
  go_wp2_with fail
  refine E9.out.mono ?_
  rintro e w9 ⟨rfl, A9, g9⟩
  replace A9 : UAt w9 p u v4 [0, 1] H4 [(⟨[], [(7, 1)], []⟩, [])] := A9
  have O9' : UOk [0, 1] [(⟨[], [(7, 1)], []⟩, [])] 4 := O9.out
  have hy9 := hid (hy8.out.kp g9.kp (fun b hb hq => hyf.out b hb hq))
  have G9 := hid (G8.out.trans g9)
  have E10 := hid (ripe_any A9 O9')
  rw [show ripe [((⟨[], [(7, 1)], []⟩ : Ret), ([] : List Nat))] = true from rfl] at E10
  have E11 := hid (next_any A9 O9')
  clear A9 g9 E8 E9
  go_wp2_with fail
  refine E10.out.mono ?_
  rintro e w10 ⟨rfl, rfl⟩
  go_wp2_with fail
  refine E11.out.mono ?_
  rintro e w10 ⟨a, b, c, v5, H5, rfl, A10, hR10, g10, k10, hfp⟩
  obtain ⟨oa, ca, e1, _⟩ := hR10.a.form
  obtain ⟨ob, cb, e2, _⟩ := hR10.b.form
  obtain ⟨oc, cc, e3, _⟩ := hR10.c.form
  subst e1; subst e2; subst e3
  have hy10 := hid (hy9.out.kp g10.kp (fun b hb hq => hyf.out b hb hq))
  have G10 := hid (G9.out.trans g10)
  have O10 : UOk [0, 1] [] 4 := O9'.tail
  obtain ⟨b6, hb6⟩ : ∃ b6, w10.heap.size = b6 := ⟨_, rfl⟩
  have B6 := hid (show (w10.alloc (.cells #[.slice oa 0 ca, .slice ob 1 cb, .slice oc 0 cc] 35)).heap[b6]? = some (.cells #[.slice oa 0 ca, .slice ob 1 cb, .slice oc 0 cc] 35 (0, 0)) from blk_new' _ _ hb6.symm)
  have A11 := hid (A10.alloc (.cells #[.slice oa 0 ca, .slice ob 1 cb, .slice oc 0 cc] 35))
  have R11 := hid (hR10.kn ((Kp.refl NoB w10).alloc (.cells #[.slice oa 0 ca, .slice ob 1 cb, .slice oc 0 cc] 35)))
  have Y11 := hid (hy10.out.alloc (.cells #[.slice oa 0 ca, .slice ob 1 cb, .slice oc 0 cc] 35))
  have G11 := hid (G10.out.alloc (.cells #[.slice oa 0 ca, .slice ob 1 cb, .slice oc 0 cc] 35))
  clear A10 hR10 g10 k10 hfp E11 E10
  go_wp2_with fail
  try rw [hb6]
  generalize (w10.alloc (.cells #[.slice oa 0 ca, .slice ob 1 cb, .slice oc 0 cc] 35)) = w11 at *
  have L6 := loc3 B6.out
  refine wp_region_G (fun W => W.cell? ⟨b6, 0, none⟩ = some (.slice oa 0 ca) ∧ W.cell? ⟨b6, 1, none⟩ = some (.slice ob 1 cb) ∧ W.cell? ⟨b6, 2, none⟩ = some (.slice oc 0 cc)) [(0, .held), (1, .eff), (2, .eff), (3, .at_), (4, .at_), (5, .at_), (6, .at_), (7, .at_), (8, .at_), (9, .at_), (10, .at_), (11, .at_), (12, .at_), (13, .at_), (14, .held), (15, .eff), (16, .eff), (17, .at_), (18, .at_), (19, .at_), (20, .eff), (21, .at_), (22, .at_), (23, .at_)] ?L1 (by kernel_rfl) (by kernel_rfl) ?hL1 (⟨L6.1, L6.2.1, L6.2.2.1⟩) ?hG1
  case hL1 => simp only [pickOps, List.map_cons, List.map_nil, List.getD_cons_zero, List.getD_cons_succ]; rfl
  repeat (first | (refine wpG_at (v := ?_) (by rfl) ?_ ?_; rotate_left; (focus (first | (go_simp; with_reducible rfl) | (go_simp; done))); simp only [Act.put, List.setIfInBounds_toArray, List.set_cons_zero, List.set_cons_succ]) | (refine wpG_at_skip (by rfl) ?_; simp only [Act.put, List.setIfInBounds_toArray, List.set_cons_zero, List.set_cons_succ]) | (refine wpG_held_skip (by rfl) ?_; simp only [Act.put, List.setIfInBounds_toArray, List.set_cons_zero, List.set_cons_succ]) | (refine wpG_held (v := ?_) (by rfl) ?_ ?_; rotate_left; (focus (intro w' hSw; (try dsimp only at hSw); go_split_ands; first | (go_simp; with_reducible rfl) | (go_simp; done))); simp only [Act.put, List.setIfInBounds_toArray, List.set_cons_zero, List.set_cons_succ]))
  refine wpG_eff (by rfl) (fun K hK => ?_)
  go_simp
  have SI := hid (sameInts_any (w := (w11.alloc (.cells #[.int .i64 0] 3)).drew) (l := [0]) (m := [0]) (rowI_sl (Y11.out.alloc (.cells #[.int .i64 0] 3))) (Sl.one w11 3 (0 : Int) (f := eI)) (by simp) (by simp))
  rw [show decide (([0] : List Int) = [0]) = true from rfl] at SI
  have B12 := hid (blk_alloc (o' := .cells #[.int .i64 0] 3) B6.out)
  have A12 := hid ((A11.out.alloc (.cells #[.int .i64 0] 3)).drew)
  have R12 := hid (R11.out.kn (((Kp.refl NoB w11).alloc (.cells #[.int .i64 0] 3)).drew))
  have G12 := hid ((G11.out.alloc (.cells #[.int .i64 0] 3)).drew)
  have L12 := loc3 (blk_drew B12.out)
  refine hK _ _ ⟨L12.1, L12.2.1, L12.2.2.1⟩ ?_
  clear hK K L6
  repeat (first | (refine wpG_at (v := ?_) (by rfl) ?_ ?_; rotate_left; (focus (first | (go_simp; with_reducible rfl) | (go_simp; done))); simp only [Act.put, List.setIfInBounds_toArray, List.set_cons_zero, List.set_cons_succ]) | (refine wpG_at_skip (by rfl) ?_; simp only [Act.put, List.setIfInBounds_toArray, List.set_cons_zero, List.set_cons_succ]) | (refine wpG_held_skip (by rfl) ?_; simp only [Act.put, List.setIfInBounds_toArray, List.set_cons_zero, List.set_cons_succ]) | (refine wpG_held (v := ?_) (by rfl) ?_ ?_; rotate_left; (focus (intro w' hSw; (try dsimp only at hSw); go_split_ands; first | (go_simp; with_reducible rfl) | (go_simp; done))); simp only [Act.put, List.setIfInBounds_toArray, List.set_cons_zero, List.set_cons_succ]))
  refine wpG_eff (by rfl) (fun K hK => ?_)
  go_simp
  refine SI.out.mono ?_
  rintro e w13 ⟨rfl, k13⟩
  have B13 := hid (k13.get (blk_drew B12.out) (fun h => h))
  have A13 := hid (A12.out.kn k13)
  have R13 := hid (R12.out.kn k13)
  have G13 := hid (G12.out.trans (Grow.of_kn k13))
  have L13 := loc3 B13.out
  refine hK _ _ ⟨L13.1, L13.2.1, L13.2.2.1⟩ ?_
  clear hK K L12 k13
  repeat (first | (refine wpG_at (v := ?_) (by rfl) ?_ ?_; rotate_left; (focus (first | (go_simp; with_reducible rfl) | (go_simp; done))); simp only [Act.put, List.setIfInBounds_toArray, List.set_cons_zero, List.set_cons_succ]) | (refine wpG_at_skip (by rfl) ?_; simp only [Act.put, List.setIfInBounds_toArray, List.set_cons_zero, List.set_cons_succ]) | (refine wpG_held_skip (by rfl) ?_; simp only [Act.put, List.setIfInBounds_toArray, List.set_cons_zero, List.set_cons_succ]) | (refine wpG_held (v := ?_) (by rfl) ?_ ?_; rotate_left; (focus (intro w' hSw; (try dsimp only at hSw); go_split_ands; first | (go_simp; with_reducible rfl) | (go_simp; done))); simp only [Act.put, List.setIfInBounds_toArray, List.set_cons_zero, List.set_cons_succ]))
  refine wpG_eff (by rfl) (fun K hK => ?_)
  go_simp
  refine (H1.out _).mono ?_
  rintro e w14 ⟨x, rfl, hx14, hn14, k14⟩
  have B14 := hid (k14.get B13.out (fun h => h))
  have A14 := hid (A13.out.kn k14)
  have R14 := R13.out.kn k14
  have G14 := hid (G13.out.trans (Grow.of_kn k14))
  have SO := hid (sameone_any R14.ss hx14.ss ⟨by simp, by simp, by simp⟩ ⟨by simp, by simp, by simp⟩)
  rw [show decide ((⟨[], [(7, 1)], []⟩ : Ret) = ⟨[], [(7, 1)], []⟩) = true from rfl] at SO
  obtain ⟨ox2, cx2, hxv, _⟩ := hx14.b.form
  subst hxv
  have L14 := loc3 B14.out
  refine hK _ _ ⟨L14.1, L14.2.1, L14.2.2.1⟩ ?_
  clear hK K L13 k14 hn14 hx14 R14
  repeat (first | (refine wpG_at (v := ?_) (by rfl) ?_ ?_; rotate_left; (focus (first | (go_simp; with_reducible rfl) | (go_simp; done))); simp only [Act.put, List.setIfInBounds_toArray, List.set_cons_zero, List.set_cons_succ]) | (refine wpG_at_skip (by rfl) ?_; simp only [Act.put, List.setIfInBounds_toArray, List.set_cons_zero, List.set_cons_succ]) | (refine wpG_held_skip (by rfl) ?_; simp only [Act.put, List.setIfInBounds_toArray, List.set_cons_zero, List.set_cons_succ]) | (refine wpG_held (v := ?_) (by rfl) ?_ ?_; rotate_left; (focus (intro w' hSw; (try dsimp only at hSw); go_split_ands; first | (go_simp; with_reducible rfl) | (go_simp; done))); simp only [Act.put, List.setIfInBounds_toArray, List.set_cons_zero, List.set_cons_succ]))
  refine wpG_eff (by rfl) (fun K hK => ?_)
  go_simp
  refine SO.out.mono ?_
  rintro e w15 ⟨rfl, k15⟩
  have B15 := hid (k15.get B14.out (fun h => h))
  have A15 := A14.out.kn k15
  have G15 := hid (G14.out.trans (Grow.of_kn k15))
  have E15 := hid (depth_any A15 O10 1)
  have L15 := loc3 B15.out
  refine hK _ _ ⟨L15.1, L15.2.1, L15.2.2.1⟩ ?_
  clear hK K L14 k15 A15
  repeat (first | (refine wpG_at (v := ?_) (by rfl) ?_ ?_; rotate_left; (focus (first | (go_simp; with_reducible rfl) | (go_simp; done))); simp only [Act.put, List.setIfInBounds_toArray, List.set_cons_zero, List.set_cons_succ]) | (refine wpG_at_skip (by rfl) ?_; simp only [Act.put, List.setIfInBounds_toArray, List.set_cons_zero, List.set_cons_succ]) | (refine wpG_held_skip (by rfl) ?_; simp only [Act.put, List.setIfInBounds_toArray, List.set_cons_zero, List.set_cons_succ]) | (refine wpG_held (v := ?_) (by rfl) ?_ ?_; rotate_left; (focus (intro w' hSw; (try dsimp only at hSw); go_split_ands; first | (go_simp; with_reducible rfl) | (go_simp; done))); simp only [Act.put, List.setIfInBounds_toArray, List.set_cons_zero, List.set_cons_succ]))
  refine wpG_eff (by rfl) (fun K hK => ?_)
  go_simp
  refine E15.out.mono ?_
  rintro e w16 ⟨rfl, rfl⟩
  refine hK _ _ ⟨L15.1, L15.2.1, L15.2.2.1⟩ ?_
  clear hK K
  repeat (first | (refine wpG_at (v := ?_) (by rfl) ?_ ?_; rotate_left; (focus (first | (go_simp; with_reducible rfl) | (go_simp; done))); simp only [Act.put, List.setIfInBounds_toArray, List.set_cons_zero, List.set_cons_succ]) | (refine wpG_at_skip (by rfl) ?_; simp only [Act.put, List.setIfInBounds_toArray, List.set_cons_zero, List.set_cons_succ]) | (refine wpG_held_skip (by rfl) ?_; simp only [Act.put, List.setIfInBounds_toArray, List.set_cons_zero, List.set_cons_succ]) | (refine wpG_held (v := ?_) (by rfl) ?_ ?_; rotate_left; (focus (intro w' hSw; (try dsimp only at hSw); go_split_ands; first | (go_simp; with_reducible rfl) | (go_simp; done))); simp only [Act.put, List.setIfInBounds_toArray, List.set_cons_zero, List.set_cons_succ]))
  refine wpG_nil (NoPanic.normal ?_)
  go_wp2_with fail
  go_ret
  exact ⟨rfl, G15.out.kp⟩
end Go.Proofs.Ytplbkjgkocnehaa
