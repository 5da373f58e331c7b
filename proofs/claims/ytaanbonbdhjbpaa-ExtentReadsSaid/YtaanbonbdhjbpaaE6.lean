/- Walks: a writer's handles; all given back. -/
import Derived.Test.YtaanbonbdhjbpaaE5
namespace Go.Proofs.Ytaanbonbdhjbpaa
set_option linter.unusedSimpArgs false
set_option linter.unusedVariables false
open Go.RowKit
attribute [local go_sem ↓] Go.wp_at_zero Go.wp_at_succ
section
variable {w w' : World} {q p l : Nat} {v lv mv : Value} {over : Bool} {Ls : List X} {Hs : List (Int × Int)} {S : List Sl3} {B : List Nat} {E : Nat}
theorem made_over (h : WAt w q p lv mv true Ls Hs) : Calls Try.prog 17 #[.pointer (some ⟨q, 0, none⟩)] w fun e w' => e = .returned (.tuple #[.slice none 0 0, .int .i64 18]) ∧ w = w' := by
  have HR := hid (ready_over h)
  clear h
  go_enter Try.func17, Try.ntmps17
  go_wp2_with fail
  refine HR.out.mono ?_
  rintro e w1 ⟨rfl, rfl⟩
  go_wp2_with fail
  go_ret2
  exact ⟨rfl, rfl⟩
theorem made_more (h : WAt w q p lv mv false Ls Hs) (h0 : 0 < Ls.length) : Calls Try.prog 17 #[.pointer (some ⟨q, 0, none⟩)] w fun e w' => e = .returned (.tuple #[.slice none 0 0, .int .i64 18]) ∧ w = w' := by
  have HR := hid (ready_go h)
  obtain ⟨o, c, hv, hc, _⟩ := h.hl.form
  subst hv
  have Lq := h.cs
  clear h
  go_enter Try.func17, Try.ntmps17
  go_wp2_with fail
  refine HR.out.mono ?_
  rintro e w1 ⟨rfl, rfl⟩
  go_wp2_with fail
  go_ret2
  exact ⟨rfl, rfl⟩
set_option maxRecDepth 100000 in
set_option maxHeartbeats 2000000 in
theorem made_done (h : WAt w q p lv mv false [] Hs) (hl : Hs.length ≤ 100000) : Calls Try.prog 17 #[.pointer (some ⟨q, 0, none⟩)] w fun e w' => ∃ v', e = .returned (.tuple #[v', .int .i64 0]) ∧ RowAt w' 33 eH 2 v' Hs.reverse ∧ (∀ b, v'.ownBlock = some b → w.heap.size ≤ b) ∧ Kp NoB w w' := by
  have HR := hid (ready_go h)
  have HC := hid (hclone_any h.hm hl)
  obtain ⟨o, c, hv, hc, _⟩ := h.hl.form
  subst hv
  have Lq := h.cs
  clear h
  go_enter Try.func17, Try.ntmps17
  go_wp2_with fail
  refine HR.out.mono ?_
  rintro e w1 ⟨rfl, rfl⟩
  go_wp2_with fail
  refine HC.out.mono ?_
  rintro e w1 ⟨v', rfl, r1, n1, k1⟩
  have HV := hid (rev_any r1 hl)
  replace r1 := hid r1
  replace n1 := hid n1
  clear Lq
  go_wp2_with fail
  refine HV.out.mono ?_
  rintro e w2 ⟨rfl, r2, k2⟩
  go_wp2_with fail
  go_ret2
  exact ⟨_, rfl, r2, n1.out, k1.trans' k2 (fun b hb hf => absurd (n1.out b hf) (by omega))⟩
/-- the handles are slots' that are in use, each another one's -/
def Live (S : List Sl3) (Hs : List (Int × Int)) : Prop := (∀ h ∈ Hs, ∃ (k : Nat) (x : X), h.1 = k ∧ S[k]? = some (x, h.2, true)) ∧ (Hs.map (·.1)).Nodup
theorem Live.tail {h : Int × Int} (H : Live S (h :: Hs)) {k : Nat} (hk : h.1 = k) (s : Sl3) : Live (S.set k s) Hs := by
  refine ⟨fun h' hh' => ?_, (List.nodup_cons.1 H.2).2⟩
  obtain ⟨k', x, e, hx⟩ := H.1 h' (by simp [hh'])
  refine ⟨k', x, e, ?_⟩
  rw [List.getElem?_set_ne]
  · exact hx
  · rintro rfl
    exact (List.nodup_cons.1 H.2).1 (List.mem_map.2 ⟨h', hh', e.trans hk.symm⟩)
/-- which blocks a writer's work may turn -/
def WF (q p l : Nat) (v mv : Value) (b : Nat) : Prop := b = q ∨ b = p ∨ b = l ∨ v.ownBlock = some b ∨ mv.ownBlock = some b
theorem undo_over (h : WAt w q p lv mv true Ls Hs) : Calls Try.prog 19 #[.pointer (some ⟨q, 0, none⟩)] w fun e w' => e = .returned (.int .i64 18) ∧ w = w' := by
  have HR := hid (ready_over h)
  clear h
  go_enter Try.func19, Try.ntmps19
  go_wp2_with fail
  refine HR.out.mono ?_
  rintro e w1 ⟨rfl, rfl⟩
  go_wp2_with fail
  go_ret
  exact ⟨rfl, rfl⟩
theorem _root_.Go.Proofs.Ytaanbonbdhjbpaa.RowAt.far {α β : Type} {f : α → List Value} {g : β → List Value} {n m : Nat} {e e' : TypeId} {v v' : Value} {l : List α} {l' : List β} (h : RowAt w e f n v l) (h' : RowAt w e' g m v' l') (ht : e ≠ e') {b : Nat} (hb : v.ownBlock = some b) : v'.ownBlock ≠ some b := by
  rcases h.2 with ⟨rfl, _⟩ | ⟨k, cap, cur, rfl, _, hg, _⟩
  · cases hb
  · injection hb with hb; subst hb
    exact h'.ne hg ht
/-- a writer stands apart from an arena -/
theorem WAt.free (hw : WAt w q p lv mv over Ls Hs) {p' l : Nat} (h : AAt w p' l v S B E) (k : Kp (fun b => b = p' ∨ b = l ∨ v.ownBlock = some b) w w') : WAt w' q p lv mv over Ls Hs := by
  refine hw.kp k ?_ ?_ ?_
  · rintro (e | e | e)
    · exact ne_of_types hw.hq h.hp (by decide) e
    · exact ne_of_types hw.hq h.hl (by decide) e
    · exact h.hv.ne hw.hq (by decide) e
  · rintro b hb (e | e | e)
    · subst e; exact hw.hl.ne h.hp (by decide) hb
    · subst e; exact hw.hl.ne h.hl (by decide) hb
    · exact hw.hl.far h.hv (by decide) hb e
  · rintro b hb (e | e | e)
    · subst e; exact hw.hm.ne h.hp (by decide) hb
    · subst e; exact hw.hm.ne h.hl (by decide) hb
    · exact hw.hm.far h.hv (by decide) hb e
/-- the state within Undo, so many given back -/
def UnI (w : World) (q p l : Nat) (v lv mv : Value) (Ls : List X) (Hs : List (Int × Int)) (n0 r0 E n : Nat) (W : World) : Prop :=
  ∃ v' S' B', AAt W p l v' S' B' E ∧ AInv S' B' E ∧ S'.length = n0 ∧ room S' B' E = r0 + n ∧ Live S' (Hs.drop n) ∧ WAt W q p lv mv false Ls Hs ∧ (v'.ownBlock = v.ownBlock ∨ ∃ b, v'.ownBlock = some b ∧ w.heap.size ≤ b) ∧ Kp (fun b => b = p ∨ b = l ∨ v.ownBlock = some b) w W
set_option maxRecDepth 100000 in
set_option maxHeartbeats 4000000 in
theorem undo_go (h : AAt w p l v S B E) (inv : AInv S B E) (hw : WAt w q p lv mv false Ls Hs) (hL : Live S Hs) (hl : Hs.length ≤ 100000) : Calls Try.prog 19 #[.pointer (some ⟨q, 0, none⟩)] w fun e w' => e = .returned (.int .i64 0) ∧
    ∃ v' S' B', AAt w' p l v' S' B' E ∧ AInv S' B' E ∧ S'.length = S.length ∧ room S' B' E = room S B E + Hs.length ∧ WAt w' q p lv mv true Ls Hs ∧ (v'.ownBlock = v.ownBlock ∨ ∃ b, v'.ownBlock = some b ∧ w.heap.size ≤ b) ∧ Kp (fun b => b = q ∨ b = p ∨ b = l ∨ v.ownBlock = some b) w w' := by
  have HR := hid (ready_go hw)
  have H0 : UnI w q p l v lv mv Ls Hs S.length (room S B E) E 0 w := ⟨v, S, B, h, inv, rfl, rfl, hL, hw, .inl rfl, Kp.refl _ _⟩
  obtain ⟨o, c, hv, hc, hcm, ha⟩ := hw.hm.form
  subst hv
  have Lq := hw.cs
  have U := hid hw
  clear h hw hL
  replace inv := hid inv
  replace ha := hid ha
  replace H0 := hid H0
  go_enter Try.func19, Try.ntmps19
  go_wp2_with fail
  refine HR.out.mono ?_
  rintro e w1 ⟨rfl, rfl⟩
  go_wp2_with fail
  go_loopw [16] (fun i W => ∃ n : Nat, n ≤ Hs.length ∧ i = .int .i64 n ∧ UnI w q p l v lv (.slice o Hs.length c) Ls Hs S.length (room S B E) E n W) (fun i _ => Hs.length - (intOf i).toNat)
  case atStart => exact ⟨0, Nat.zero_le _, rfl, H0.out⟩
  case round =>
    obtain ⟨n, hn, rfl, hU⟩ := hrel
    have HU := hid hU
    obtain ⟨v', S', B', A, I, hlS, hr, L', W', ho, hKp⟩ := hU
    by_cases hlt : n < Hs.length
    · obtain ⟨⟨hi, hg⟩, hh⟩ : ∃ h, Hs[n]? = some h := ⟨_, List.getElem?_eq_getElem hlt⟩
      have hdrop : Hs.drop n = (hi, hg) :: Hs.drop (n + 1) := by
        rw [List.drop_eq_getElem_cons hlt]; congr 1; exact (List.getElem?_eq_some_iff.1 hh).2
      rw [hdrop] at L'
      obtain ⟨k, x, hk, hx⟩ := L'.1 (hi, hg) (by simp)
      obtain rfl : hi = k := hk
      obtain ⟨g, cg, hv, hgo, hgl, hgc⟩ := W'.hm.blk (by omega)
      injection hv with hv1 _ hv3
      subst hv1; subst hv3
      have r1 := W'.hm.range eH_len hh
      have c1 : wr.cell? ⟨g, n * 2, none⟩ = some (.int .i64 k) := r1 0 _ rfl
      have c2 : wr.cell? ⟨g, n * 2 + 1, none⟩ = some (.int .u64 hg) := r1 1 _ rfl
      have LW := W'.cs
      have upw := ups LW.2.2.2.2.2.2.2
      obtain ⟨I2, hbl⟩ := I.free (g' := IntKind.u64.wrap (hg + 1)) hx
      have HF := hid (fun (W : World) (h : AAt W p l v' S' B' E) => free_yes h I.ok hbl hx)
      have b1 : (0 : Int) ≤ (n : Int) := Int.natCast_nonneg _
      have b2 : (n : Int) < (Hs.length : Int) := by omega
      have upg := ups hgl
      replace A := hid A
      replace W' := hid W'
      replace I := hid I
      replace I2 := hid I2
      replace L' := hid L'
      replace hr := hid hr
      replace hlS := hid hlS
      replace ho := hid ho
      replace hx := hid hx
      clear hdrop hh r1 HU Lq hgo
      go_wp2_with fail
      refine wp_region_G (fun _ => True) [(0, .at_), (1, .at_), (2, .at_), (3, .at_), (4, .at_), (5, .eff)] ?L1 (by kernel_rfl) (by kernel_rfl) ?hL1 (trivial) ?hG1
      case hL1 => simp only [pickOps, List.map_cons, List.map_nil, List.getD_cons_zero, List.getD_cons_succ]; rfl
      repeat (first | (refine wpG_at (v := ?_) (by rfl) ?_ ?_; rotate_left; (focus (first | (go_simp; with_reducible rfl) | (go_simp; done))); simp only [Act.put, List.setIfInBounds_toArray, List.set_cons_zero, List.set_cons_succ]) | (refine wpG_at_skip (by rfl) ?_; simp only [Act.put, List.setIfInBounds_toArray, List.set_cons_zero, List.set_cons_succ]) | (refine wpG_held_skip (by rfl) ?_; simp only [Act.put, List.setIfInBounds_toArray, List.set_cons_zero, List.set_cons_succ]) | (refine wpG_held (v := ?_) (by rfl) ?_ ?_; rotate_left; (focus (intro w' hSw; (try dsimp only at hSw); go_split_ands; first | (go_simp; with_reducible rfl) | (go_simp; done))); simp only [Act.put, List.setIfInBounds_toArray, List.set_cons_zero, List.set_cons_succ]))
      refine wpG_eff (by rfl) (fun K hK => ?_)
      go_simp
      refine (HF.out _ (A.out.alloc _).drew).mono ?_
      rintro e w3 ⟨rfl, v2, A2, o2, k2⟩
      refine hK _ _ trivial ?_
      clear hK K
      refine wpG_nil (NoPanic.normal ?_)
      have k3 : Kp (fun b => b = p ∨ b = l ∨ v'.ownBlock = some b) wr w3 := ⟨k2.os, k2.tape, k2.output, Nat.le_trans (by simp) k2.size, fun b hb hf => (k2.blk b (by simp; omega) hf).trans (Below.heap_alloc wr _ b hb)⟩
      have hU2 : UnI w q p l v lv (.slice (some ⟨g, 0, none⟩) Hs.length c) Ls Hs S.length (room S B E) E (n + 1) w3 := by
        refine ⟨v2, _, _, A2, I2.out, by rw [List.length_set]; exact hlS.out, ?_, L'.out.tail rfl _, W'.out.free A.out k3, ?_, ?_⟩
        · have := hr.out
          unfold room at this ⊢
          simp only [List.length_set, List.length_append, List.length_cons, List.length_nil] at this ⊢
          omega
        · rcases o2 with e | ⟨b, e, hb⟩
          · rw [e]; exact ho.out
          · refine .inr ⟨b, e, ?_⟩
            have := hKp.size; simp at hb; omega
        · refine hKp.trans' k3 (fun b hb hf => ?_)
          rcases hf with e | e | e
          · exact .inl e
          · exact .inr (.inl e)
          · rcases ho.out with e2 | ⟨b2, e2, h2⟩
            · exact .inr (.inr (e2 ▸ e))
            · rw [e] at e2; injection e2 with e2; omega
      replace hU2 := hid hU2
      clear k2 k3 o2 A2
      go_wp2_with fail
      go_roundw
      case rel => exact ⟨n + 1, by omega, by go_num, hU2.out⟩
      case measure => simp [intOf]; omega
    · obtain rfl : n = Hs.length := by omega
      have LW := W'.cs
      have A3 := A.far ⟨q, 3, none⟩ (.bool true) (ne_of_types A.hp W'.hq (by decide)) (ne_of_types A.hl W'.hq (by decide)) (A.hv.ne W'.hq (by decide))
      have W3 : WAt (wr.setCell ⟨q, 3, none⟩ (.bool true)) q p lv (.slice o Hs.length c) true Ls Hs := ⟨blk_setCell W'.hq 3 _, W'.hl.setCell _ _ W'.ne.1, W'.hm.setCell _ _ W'.ne.2⟩
      have K3 : Kp (fun b => b = q ∨ b = p ∨ b = l ∨ v.ownBlock = some b) w (wr.setCell ⟨q, 3, none⟩ (.bool true)) := (hKp.mono (fun b hb => .inr hb)).setCell _ (fun _ => .inl rfl)
      replace A3 := hid A3
      replace W3 := hid W3
      replace hr := hid hr
      replace hlS := hid hlS
      replace I := hid I
      replace ho := hid ho
      clear A W' L' HU
      go_wp2_with fail
      go_ret
      exact ⟨rfl, v', S', B', A3.out, I.out, hlS.out, hr.out, W3.out, ho.out, K3⟩
end
end Go.Proofs.Ytaanbonbdhjbpaa
