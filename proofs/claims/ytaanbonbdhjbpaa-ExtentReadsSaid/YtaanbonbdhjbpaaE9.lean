/- Walks: a writer is made; what is so of a writer at work. -/
import Derived.Test.YtaanbonbdhjbpaaE8
namespace Go.Proofs.Ytaanbonbdhjbpaa
set_option linter.unusedSimpArgs false
set_option linter.unusedVariables false
open Go.RowKit
attribute [local go_sem ↓] Go.wp_at_zero Go.wp_at_succ
section
variable {w w' : World} {q p l : Nat} {v lv mv : Value} {over : Bool} {Ls : List X} {Hs : List (Int × Int)} {S : List Sl3} {B : List Nat} {E : Nat}
theorem write_long (h : AAt w p l v S B E) (n1 : 1 ≤ S.length) (y : Option Addr) (n c : Nat) (hn : 256 < n) : Calls Try.prog 16 #[.pointer (some ⟨p, 0, none⟩), .slice y n c] w fun e w' => e = .returned (.tuple #[.pointer none, .int .i64 17]) ∧ w = w' := by
  have HS := hid (size_any h)
  have HP := hid (pieces_long (w := w) y n c hn)
  have n1' : ((S.length : Int) == 0) = false := by simp; intro e; rw [e] at n1; simp at n1
  clear h
  go_enter Try.func16, Try.ntmps16
  go_wp2_with fail
  refine HS.out.mono ?_
  rintro e w1 ⟨rfl, rfl⟩
  go_wp2_with fail
  refine HP.out.mono ?_
  rintro e w1 ⟨rfl, rfl⟩
  go_wp2_with fail
  go_ret2
  exact ⟨rfl, rfl⟩
set_option maxRecDepth 100000 in
set_option maxHeartbeats 2000000 in
theorem write_go (h : AAt w p l v S B E) (n1 : 1 ≤ S.length) {u : Value} {L : List Int} (hu : Sg w eB u L) (hl : L.length ≤ 256) : Calls Try.prog 16 #[.pointer (some ⟨p, 0, none⟩), u] w fun e w' => ∃ q lv, e = .returned (.tuple #[.pointer (some ⟨q, 0, none⟩), .int .i64 0]) ∧
    WAt w' q p lv (.slice none 0 0) false (pcs L) [] ∧ w.heap.size ≤ q ∧ (∀ b, lv.ownBlock = some b → w.heap.size ≤ b) ∧ Kp NoB w w' := by
  have HS := hid (size_any h)
  have HP := hid (pieces_any hu hl)
  have n1' : ((S.length : Int) == 0) = false := by simp; intro e; rw [e] at n1; simp at n1
  clear h hu
  go_enter Try.func16, Try.ntmps16
  go_wp2_with fail
  refine HS.out.mono ?_
  rintro e w1 ⟨rfl, rfl⟩
  go_wp2_with fail
  refine HP.out.mono ?_
  rintro e w1 ⟨ov, rfl, r1, o1, k1⟩
  obtain ⟨oo, nn, cc, hv⟩ : ∃ oo nn cc, ov = .slice oo nn cc := by obtain ⟨o, c, h, _⟩ := r1.form; exact ⟨_, _, _, h⟩
  subst hv
  replace r1 := hid r1
  go_wp2_with fail
  go_ret2
  exact ⟨w1.heap.size, _, rfl, ⟨blk_new w1 _, r1.out.alloc _, RowAt.nil _ _ _ _⟩, k1.size, o1, k1.alloc _⟩
end
/-- rows of extents, and of bytes, are as they were -/
def Kt (w w' : World) : Prop := ∀ (b : Nat) (A : Array Value) (t : TypeId) (z : Nat × Nat), (t = 35 ∨ t = 5) → w.heap[b]? = some (.cells A t z) → w'.heap[b]? = some (.cells A t z)
theorem Kt.refl (w : World) : Kt w w := fun _ _ _ _ _ h => h
theorem Kt.trans {w w1 w2 : World} (h : Kt w w1) (k : Kt w1 w2) : Kt w w2 := fun b A t z ht hb => k b A t z ht (h b A t z ht hb)
theorem Kt.kn {w w1 : World} (k : Kp NoB w w1) : Kt w w1 := fun _ _ _ _ _ hb => k.get hb (fun h => h)
theorem Kt.row {α : Type} {w w' : World} {f : α → List Value} {n : Nat} {e : TypeId} {v : Value} {l : List α} (k : Kt w w') (he : e = 35 ∨ e = 5) (h : RowAt w e f n v l) : RowAt w' e f n v l := by
  refine ⟨h.1, ?_⟩
  rcases h.2 with h1 | ⟨g, cap, cur, h1, h2, hg, h3⟩
  · exact .inl h1
  · exact .inr ⟨g, cap, cur, h1, h2, k g _ _ _ he hg, h3⟩
section
variable {w w' : World} {q p l : Nat} {v lv mv : Value} {over : Bool} {Ls : List X} {Hs : List (Int × Int)} {S : List Sl3} {B : List Nat} {E : Nat}
/-- a writer's work turns none of these -/
theorem wf_kt (A : AAt w p l v S B E) (W : WAt w q p lv mv over Ls Hs) (k : Kp (WF q p l v mv) w w') : Kt w w' := by
  intro b A' t z ht hb
  refine k.get hb ?_
  rintro (e | e | e | e | e)
  · subst e; rw [W.hq] at hb; injection hb with hb; injection hb with _ h3 _; rcases ht with rfl | rfl <;> cases h3
  · subst e; rw [A.hp] at hb; injection hb with hb; injection hb with _ h3 _; rcases ht with rfl | rfl <;> cases h3
  · subst e; rw [A.hl] at hb; injection hb with hb; injection hb with _ h3 _; rcases ht with rfl | rfl <;> cases h3
  · exact A.hv.ne hb (by rcases ht with rfl | rfl <;> decide) e
  · exact W.hm.ne hb (by rcases ht with rfl | rfl <;> decide) e
/-- what was made lies in the arena, each one with the one behind it -/
def Wr (S : List Sl3) (Hs : List (Int × Int)) (Xs : List X) : Prop :=
  (∀ (k : Nat) (h : Int × Int), Hs[k]? = some h → ∃ (j : Nat) (x : X), h.1 = j ∧ Xs[Xs.length - 1 - k]? = some x ∧ S[j]? = some (lnk x (Hs.take k), h.2, true)) ∧ (Hs.map (·.1)).Nodup
theorem Wr.live {Xs : List X} (h : Wr S Hs Xs) : Live S Hs := by
  refine ⟨fun hh hm => ?_, h.2⟩
  obtain ⟨k, hk⟩ := List.getElem?_of_mem hm
  obtain ⟨j, x, e, _, hx⟩ := h.1 k hh hk
  exact ⟨j, _, e, hx⟩
theorem Wr.nil (S : List Sl3) (Xs : List X) : Wr S [] Xs := ⟨by simp, by simp⟩
theorem Wr.step {Xs : List X} (h : Wr S Hs Xs) {i : Nat} {g : Int} (hi : S[i]? = some (zX, g, false)) {x : X} (hx : Xs[Xs.length - 1 - Hs.length]? = some x) : Wr (S.set i (lnk x Hs, g, true)) (Hs ++ [((i : Int), g)]) Xs := by
  have hil := (List.getElem?_eq_some_iff.1 hi).1
  have hfresh : ∀ hh ∈ Hs, hh.1 ≠ (i : Int) := by
    intro hh hm e
    obtain ⟨j, x, e2, hj⟩ := h.live.1 hh hm
    have : j = i := by omega
    subst this
    rw [hi] at hj; cases hj
  refine ⟨fun k hh hk => ?_, ?_⟩
  · by_cases hkl : k < Hs.length
    · rw [List.getElem?_append_left hkl] at hk
      obtain ⟨j, y, e, hy, hj⟩ := h.1 k hh hk
      refine ⟨j, y, e, hy, ?_⟩
      rw [List.take_append_of_le_length (by omega), List.getElem?_set_ne]
      · exact hj
      · rintro rfl
        exact hfresh hh (List.mem_of_getElem? hk) e
    · have hkl' : k < Hs.length + 1 := by have := (List.getElem?_eq_some_iff.1 hk).1; simpa using this
      obtain rfl : k = Hs.length := by omega
      rw [List.getElem?_append_right (Nat.le_refl _), Nat.sub_self] at hk
      simp at hk
      subst hk
      refine ⟨i, x, rfl, hx, ?_⟩
      rw [List.take_left' rfl, List.getElem?_set_self hil]
  · rw [List.map_append, List.nodup_append]
    refine ⟨h.2, by simp, ?_⟩
    intro a ha b hb
    simp at hb; subst hb
    obtain ⟨hh, hm, rfl⟩ := List.mem_map.1 ha
    exact hfresh hh hm
/-- generations are such -/
def Gok (S : List Sl3) : Prop := ∀ (k : Nat) (s : Sl3), S[k]? = some s → (Lit.int .u64 s.2.1).wf = true ∧ 0 < s.2.1
theorem Gok.set (h : Gok S) {k : Nat} {x y : X} {g : Int} {b b' : Bool} (hk : S[k]? = some (x, g, b)) : Gok (S.set k (y, g, b')) := by
  intro j s hj
  by_cases e : k = j
  · subst e
    rw [List.getElem?_set_self (List.getElem?_eq_some_iff.1 hk).1] at hj
    injection hj with hj; subst hj
    exact h k (x, g, b) hk
  · rw [List.getElem?_set_ne e] at hj
    exact h j s hj
theorem Gok.new (n : Nat) : Gok (List.replicate n (zX, 1, false)) := by
  intro k s hk
  rw [List.getElem?_replicate] at hk
  split at hk
  · injection hk with hk; subst hk; decide
  · cases hk
/-- a writer at work, i made -/
def Wg (w : World) (q p l N : Nat) (Xs : List X) (B0 i r : Nat) (Hs : List (Int × Int)) : Prop :=
  ∃ v S B E lv mv, AAt w p l v S B E ∧ AInv S B E ∧ S.length = N ∧ room S B E = r ∧ WAt w q p lv mv false (Xs.take (Xs.length - i)) Hs ∧ Hs.length = i ∧ i ≤ Xs.length ∧ Wr S Hs Xs ∧ Gok S ∧ (∀ b, WF q p l v mv b → B0 ≤ b)
/-- one that is done with -/
def Wo (w : World) (q p l N B0 r : Nat) : Prop :=
  ∃ v S B E lv mv Ls Hs, AAt w p l v S B E ∧ AInv S B E ∧ S.length = N ∧ room S B E = r ∧ WAt w q p lv mv true Ls Hs ∧ (∀ b, WF q p l v mv b → B0 ≤ b)
variable {N B0 i r : Nat} {Xs : List X}
theorem Wg.kn (h : Wg w q p l N Xs B0 i r Hs) (k : Kp NoB w w') : Wg w' q p l N Xs B0 i r Hs := by
  obtain ⟨v, S, B, E, lv, mv, h1, h2, h3, h4, h5, h6⟩ := h
  exact ⟨v, S, B, E, lv, mv, h1.kn k, h2, h3, h4, h5.kn k, h6⟩
theorem Wo.kn (h : Wo w q p l N B0 r) (k : Kp NoB w w') : Wo w' q p l N B0 r := by
  obtain ⟨v, S, B, E, lv, mv, Ls, Hs, h1, h2, h3, h4, h5, h6⟩ := h
  exact ⟨v, S, B, E, lv, mv, Ls, Hs, h1.kn k, h2, h3, h4, h5.kn k, h6⟩
theorem take_last {α : Type} {Xs : List α} {i : Nat} (hi : i < Xs.length) : ∃ x, Xs[Xs.length - 1 - i]? = some x ∧ Xs.take (Xs.length - i) = Xs.take (Xs.length - (i + 1)) ++ [x] := by
  refine ⟨Xs[Xs.length - 1 - i]'(by omega), List.getElem?_eq_getElem (by omega), ?_⟩
  rw [show Xs.length - i = (Xs.length - (i + 1)) + 1 from by omega, List.take_succ_eq_append_getElem (by omega)]
  congr 2
  simp only [show Xs.length - (i + 1) = Xs.length - 1 - i from by omega]
theorem wg_step (h : Wg w q p l N Xs B0 i r Hs) (hi : i < Xs.length) (hx : Xs.length ≤ 1000) (hr : 0 < r) (hB : B0 ≤ w.heap.size) : Calls Try.prog 21 #[.pointer (some ⟨q, 0, none⟩)] w fun e w' => e = .returned (.tuple #[.bool (((Xs.length - (i + 1) : Nat) : Int) == 0), .int .i64 0]) ∧
    (∃ hh, Wg w' q p l N Xs B0 (i + 1) (r - 1) (Hs ++ [hh])) ∧ Kt w w' ∧ Kp (fun b => B0 ≤ b) w w' := by
  obtain ⟨v, S, B, E, lv, mv, A, I, hN, hrm, W, hH, hi', R, hG, hF⟩ := h
  subst hrm
  obtain ⟨x, hx1, hx2⟩ := take_last hi
  rw [hx2] at W
  obtain ⟨g, hk⟩ := I.next hr
  refine (step_go A I W (by omega) (by rw [List.length_take]; omega) hr hk).mono ?_
  rintro e w' ⟨rfl, v', lv', mv', A', W', o1, o2, o3, k⟩
  obtain ⟨I', hr'⟩ := I.alloc hr (x := lnk x Hs) (g := g)
  refine ⟨by rw [List.length_take, Nat.min_eq_left (by omega)], ⟨_, v', _, _, _, lv', mv', A', I', by rw [List.length_set]; exact hN, by omega, W', by simp [hH], by omega, R.step hk (by rw [hH]; exact hx1), hG.set hk, ?_⟩, wf_kt A W k, k.mono hF⟩
  rintro b (e | e | e | e | e)
  · exact hF b (.inl e)
  · exact hF b (.inr (.inl e))
  · exact hF b (.inr (.inr (.inl e)))
  · exact hF b (.inr (.inr (.inr (.inl (o1 ▸ e)))))
  · rcases o3 with o | ⟨b2, o, hb2⟩
    · exact hF b (.inr (.inr (.inr (.inr (o ▸ e)))))
    · rw [e] at o; injection o with o; omega
theorem wo_of {S' : List Sl3} {B' : List Nat} {v' : Value} (A : AAt w p l v S B E) (W : WAt w q p lv mv false Ls Hs) (hF : ∀ b, WF q p l v mv b → B0 ≤ b) (hB : B0 ≤ w.heap.size) (hN : S.length = N)
    (A' : AAt w' p l v' S' B' E) (I' : AInv S' B' E) (hl : S'.length = S.length) {r' : Nat} (hr : room S' B' E = r') (W' : WAt w' q p lv mv true Ls Hs) (o : v'.ownBlock = v.ownBlock ∨ ∃ b, v'.ownBlock = some b ∧ w.heap.size ≤ b) (k : Kp (fun b => b = q ∨ b = p ∨ b = l ∨ v.ownBlock = some b) w w') :
    Wo w' q p l N B0 r' ∧ Kt w w' ∧ Kp (fun b => B0 ≤ b) w w' := by
  have k' : Kp (WF q p l v mv) w w' := k.mono (fun b hb => by
    rcases hb with e | e | e | e
    · exact .inl e
    · exact .inr (.inl e)
    · exact .inr (.inr (.inl e))
    · exact .inr (.inr (.inr (.inl e))))
  refine ⟨⟨v', S', B', E, lv, mv, Ls, Hs, A', I', by omega, hr, W', ?_⟩, wf_kt A W k', k'.mono hF⟩
  rintro b (e | e | e | e | e)
  · exact hF b (.inl e)
  · exact hF b (.inr (.inl e))
  · exact hF b (.inr (.inr (.inl e)))
  · rcases o with o | ⟨b2, o, hb2⟩
    · exact hF b (.inr (.inr (.inr (.inl (o ▸ e)))))
    · rw [e] at o; injection o with o; omega
  · exact hF b (.inr (.inr (.inr (.inr e))))
theorem wg_full (h : Wg w q p l N Xs B0 i 0 Hs) (hi : i < Xs.length) (hx : Xs.length ≤ 1000) (hB : B0 ≤ w.heap.size) : Calls Try.prog 21 #[.pointer (some ⟨q, 0, none⟩)] w fun e w' => e = .returned (.tuple #[.bool false, .int .i64 3]) ∧ Wo w' q p l N B0 i ∧ Kt w w' ∧ Kp (fun b => B0 ≤ b) w w' := by
  obtain ⟨v, S, B, E, lv, mv, A, I, hN, hrm, W, hH, hi', R, hG, hF⟩ := h
  refine (step_full A I W R.live (by omega) (by rw [List.length_take]; omega) hrm).mono ?_
  rintro e w' ⟨rfl, v', S', B', A', I', hl', hr', W', o, k⟩
  exact ⟨rfl, wo_of A W hF hB hN A' I' hl' (by omega) W' o k⟩
theorem wg_undo (h : Wg w q p l N Xs B0 i r Hs) (hx : Xs.length ≤ 1000) (hB : B0 ≤ w.heap.size) : Calls Try.prog 19 #[.pointer (some ⟨q, 0, none⟩)] w fun e w' => e = .returned (.int .i64 0) ∧ Wo w' q p l N B0 (r + i) ∧ Kt w w' ∧ Kp (fun b => B0 ≤ b) w w' := by
  obtain ⟨v, S, B, E, lv, mv, A, I, hN, hrm, W, hH, hi', R, hG, hF⟩ := h
  refine (undo_go A I W R.live (by omega)).mono ?_
  rintro e w' ⟨rfl, v', S', B', A', I', hl', hr', W', o, k⟩
  exact ⟨rfl, wo_of A W hF hB hN A' I' hl' (by omega) W' o k⟩
theorem wo_step (h : Wo w q p l N B0 r) : Calls Try.prog 21 #[.pointer (some ⟨q, 0, none⟩)] w fun e w' => e = .returned (.tuple #[.bool false, .int .i64 18]) ∧ w = w' := by
  obtain ⟨v, S, B, E, lv, mv, Ls, Hs, A, I, hN, hrm, W, hF⟩ := h
  exact step_over W
theorem wo_undo (h : Wo w q p l N B0 r) : Calls Try.prog 19 #[.pointer (some ⟨q, 0, none⟩)] w fun e w' => e = .returned (.int .i64 18) ∧ w = w' := by
  obtain ⟨v, S, B, E, lv, mv, Ls, Hs, A, I, hN, hrm, W, hF⟩ := h
  exact undo_over W
theorem wo_need (h : Wo w q p l N B0 r) : Calls Try.prog 18 #[.pointer (some ⟨q, 0, none⟩)] w fun e w' => e = .returned (.int .i64 0) ∧ w = w' := by
  obtain ⟨v, S, B, E, lv, mv, Ls, Hs, A, I, hN, hrm, W, hF⟩ := h
  exact wneed_over W
theorem wg_need (h : Wg w q p l N Xs B0 i r Hs) : Calls Try.prog 18 #[.pointer (some ⟨q, 0, none⟩)] w fun e w' => e = .returned (.int .i64 ((Xs.length : Int) - i)) ∧ w = w' := by
  obtain ⟨v, S, B, E, lv, mv, A, I, hN, hrm, W, hH, hi', R, hG, hF⟩ := h
  refine (wneed_go W).mono ?_
  rintro e w' ⟨rfl, rfl⟩
  exact ⟨by rw [List.length_take, Nat.min_eq_left (by omega), Int.ofNat_sub hi'], rfl⟩
theorem wg_room (h : Wg w q p l N Xs B0 i r Hs) : Calls Try.prog 15 #[.pointer (some ⟨p, 0, none⟩)] w fun e w' => e = .returned (.int .i64 r) ∧ Kp NoB w w' := by
  obtain ⟨v, S, B, E, lv, mv, A, I, hN, hrm, W, hH, hi', R, hG, hF⟩ := h
  refine (room_any A I.ok).mono ?_
  rintro e w' ⟨rfl, k⟩
  exact ⟨by rw [I.room_eq, hrm], k⟩
theorem wo_room (h : Wo w q p l N B0 r) : Calls Try.prog 15 #[.pointer (some ⟨p, 0, none⟩)] w fun e w' => e = .returned (.int .i64 r) ∧ Kp NoB w w' := by
  obtain ⟨v, S, B, E, lv, mv, Ls, Hs, A, I, hN, hrm, W, hF⟩ := h
  refine (room_any A I.ok).mono ?_
  rintro e w' ⟨rfl, k⟩
  exact ⟨by rw [I.room_eq, hrm], k⟩
theorem wo_zero (h : Wo w q p l N B0 r) : Calls Try.prog 20 #[.pointer (some ⟨p, 0, none⟩)] w fun e w' => e = .returned (.bool true) ∧ Kp NoB w w' := by
  obtain ⟨v, S, B, E, lv, mv, Ls, Hs, A, I, hN, hrm, W, hF⟩ := h
  exact zero_any A I.ok I.zz
theorem wg_more (h : Wg w q p l N Xs B0 i r Hs) (hi : i < Xs.length) : Calls Try.prog 17 #[.pointer (some ⟨q, 0, none⟩)] w fun e w' => e = .returned (.tuple #[.slice none 0 0, .int .i64 18]) ∧ w = w' := by
  obtain ⟨v, S, B, E, lv, mv, A, I, hN, hrm, W, hH, hi', R, hG, hF⟩ := h
  exact made_more W (by rw [List.length_take]; omega)
theorem wg_made (h : Wg w q p l N Xs B0 Xs.length r Hs) (hx : Xs.length ≤ 1000) : Calls Try.prog 17 #[.pointer (some ⟨q, 0, none⟩)] w fun e w' => ∃ v', e = .returned (.tuple #[v', .int .i64 0]) ∧ RowAt w' 33 eH 2 v' Hs.reverse ∧ (∀ b, v'.ownBlock = some b → w.heap.size ≤ b) ∧ Kp NoB w w' := by
  obtain ⟨v, S, B, E, lv, mv, A, I, hN, hrm, W, hH, hi', R, hG, hF⟩ := h
  rw [Nat.sub_self, List.take_zero] at W
  exact made_done W (by omega)
theorem wg_end (h : Wg w q p l N Xs B0 Xs.length r Hs) : Calls Try.prog 21 #[.pointer (some ⟨q, 0, none⟩)] w fun e w' => e = .returned (.tuple #[.bool true, .int .i64 0]) ∧ w = w' := by
  obtain ⟨v, S, B, E, lv, mv, A, I, hN, hrm, W, hH, hi', R, hG, hF⟩ := h
  rw [Nat.sub_self, List.take_zero] at W
  exact step_end W
end
end Go.Proofs.Ytaanbonbdhjbpaa
