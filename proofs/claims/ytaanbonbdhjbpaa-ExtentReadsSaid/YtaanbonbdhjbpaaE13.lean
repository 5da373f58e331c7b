/- What is so of an arena at work; of a writer that is done. -/
import Derived.Test.YtaanbonbdhjbpaaE12
namespace Go.Proofs.Ytaanbonbdhjbpaa
set_option linter.unusedSimpArgs false
set_option linter.unusedVariables false
open Go.RowKit
attribute [local go_sem ↓] Go.wp_at_zero Go.wp_at_succ
def PF (p l : Nat) (v : Value) (b : Nat) : Prop := b = p ∨ b = l ∨ v.ownBlock = some b
/-- an arena at work: N slots, r of them free; all of it new -/
def Ag (w : World) (p l N B0 r : Nat) : Prop := ∃ v S B E, AAt w p l v S B E ∧ AInv S B E ∧ S.length = N ∧ room S B E = r ∧ Gok S ∧ (∀ b, PF p l v b → B0 ≤ b)
section
variable {w w' : World} {p l q N B0 r i : Nat} {Xs : List X} {Hs : List (Int × Int)}
theorem Ag.kn (h : Ag w p l N B0 r) (k : Kp NoB w w') : Ag w' p l N B0 r := by
  obtain ⟨v, S, B, E, h1, h2⟩ := h
  exact ⟨v, S, B, E, h1.kn k, h2⟩
theorem Ag.pos (h : Ag w p l N B0 r) : 1 ≤ N ∧ N ≤ 4096 ∧ r ≤ N := by
  obtain ⟨v, S, B, E, h1, h2, h3, h4, _⟩ := h
  have := h2.n1; have := h2.n2; have := h2.bl; have := h2.e
  unfold room at h4
  omega
theorem ag_new (n : Nat) (n1 : 1 ≤ n) (n2 : n ≤ 4096) (w : World) : Calls Try.prog 13 #[.int .i64 n] w fun e w' => ∃ p l, e = .returned (.tuple #[.pointer (some ⟨p, 0, none⟩), .int .i64 0]) ∧ Ag w' p l n w.heap.size n ∧ w.heap.size ≤ p ∧ Kp NoB w w' := by
  refine (new_any n n1 n2 w).mono ?_
  rintro e w' ⟨p, l, rfl, A, hp, hl, k⟩
  refine ⟨p, l, rfl, ⟨_, _, _, _, A, AInv.new n n1 n2, by simp, by simp [room], Gok.new n, ?_⟩, hp, k⟩
  rintro b (rfl | rfl | e)
  · exact hp
  · exact hl
  · cases e
theorem ag_alloc (h : Ag w p l N B0 r) (hr : 0 < r) : Calls Try.prog 14 #[.pointer (some ⟨p, 0, none⟩)] w fun e w' => (∃ (i : Nat) (g : Int), e = .returned (.tuple #[.agg #[.int .i64 i, .int .u64 g], .int .i64 0])) ∧ Ag w' p l N B0 (r - 1) ∧ Kp (fun b => B0 ≤ b) w w' := by
  obtain ⟨v, S, B, E, A, I, hN, hrm, hG, hF⟩ := h
  subst hrm
  obtain ⟨g, hk⟩ := I.next hr
  refine (alloc_any A I.ok hk).mono ?_
  rintro e w' ⟨rfl, v', A', o, k⟩
  obtain ⟨I', hr'⟩ := I.alloc hr (x := zX) (g := g)
  refine ⟨⟨_, _, rfl⟩, ⟨v', _, _, _, A', I', by rw [List.length_set]; exact hN, by omega, hG.set hk, ?_⟩, k.mono ?_⟩
  · rintro b (e | e | e)
    · exact hF b (.inl e)
    · exact hF b (.inr (.inl e))
    · exact hF b (.inr (.inr (o ▸ e)))
  · rintro b (e | e)
    · exact hF b (.inl e)
    · exact hF b (.inr (.inl e))
theorem ag_room (h : Ag w p l N B0 r) : Calls Try.prog 15 #[.pointer (some ⟨p, 0, none⟩)] w fun e w' => e = .returned (.int .i64 r) ∧ Kp NoB w w' := by
  obtain ⟨v, S, B, E, A, I, hN, hrm, hG, hF⟩ := h
  refine (room_any A I.ok).mono ?_
  rintro e w' ⟨rfl, k⟩
  exact ⟨by rw [I.room_eq, hrm], k⟩
theorem ag_write_long (h : Ag w p l N B0 r) (y : Option Addr) (n c : Nat) (hn : 256 < n) : Calls Try.prog 16 #[.pointer (some ⟨p, 0, none⟩), .slice y n c] w fun e w' => e = .returned (.tuple #[.pointer none, .int .i64 17]) ∧ w = w' := by
  obtain ⟨v, S, B, E, A, I, hN, hrm, hG, hF⟩ := h
  exact write_long A I.n1 y n c hn
/-- a writer begins -/
theorem ag_write (h : Ag w p l N B0 r) (hB : B0 ≤ w.heap.size) {u : Value} {L : List Int} (hu : Sg w eB u L) (hl : L.length ≤ 256) : Calls Try.prog 16 #[.pointer (some ⟨p, 0, none⟩), u] w fun e w' => ∃ q, e = .returned (.tuple #[.pointer (some ⟨q, 0, none⟩), .int .i64 0]) ∧
    Wg w' q p l N (pcs L) B0 0 r [] ∧ Kp NoB w w' := by
  obtain ⟨v, S, B, E, A, I, hN, hrm, hG, hF⟩ := h
  refine (write_go A I.n1 hu hl).mono ?_
  rintro e w' ⟨q, lv, rfl, W, hq, hlv, k⟩
  refine ⟨q, rfl, ⟨v, S, B, E, lv, _, A.kn k, I, hN, hrm, by rw [Nat.sub_zero, List.take_length]; exact W, rfl, Nat.zero_le _, Wr.nil _ _, hG, ?_⟩, k⟩
  rintro b (e | e | e | e | e)
  · omega
  · exact hF b (.inl e)
  · exact hF b (.inr (.inl e))
  · exact hF b (.inr (.inr e))
  · cases e
/-- bytes beside it are turned -/
theorem Wg.byte (h : Wg w q p l N Xs B0 i r Hs) {g o : Nat} {A : Array Value} {z : Nat × Nat} (hg : w.heap[g]? = some (.cells A 5 z)) (u : Value) : Wg (w.setCell ⟨g, o, none⟩ u) q p l N Xs B0 i r Hs := by
  obtain ⟨v, S, B, E, lv, mv, A', I, hN, hrm, W, hH, hi', R, hG, hF⟩ := h
  refine ⟨v, S, B, E, lv, mv, A'.far _ u (ne_of_types A'.hp hg (by decide)) (ne_of_types A'.hl hg (by decide)) (A'.hv.ne hg (by decide)), I, hN, hrm, ?_, hH, hi', R, hG, hF⟩
  exact ⟨blk_far W.hq u (ne_of_types W.hq hg (by decide)), W.hl.setCell _ _ (W.hl.ne hg (by decide)), W.hm.setCell _ _ (W.hm.ne hg (by decide))⟩
/-- the k-th handle's extent, with the one behind it -/
def want (Xs : List X) (Ms : List (Int × Int)) (k : Nat) (x : X) : X := match Ms[k + 1]? with
  | some h => setN x h.1 h.2
  | none => x
theorem wg_get (h : Wg w q p l N Xs B0 Xs.length r Hs) {k : Nat} {hh : Int × Int} (hk : Hs.reverse[k]? = some hh) : ∃ x, Xs[k]? = some x ∧ (Lit.int .i64 hh.1).wf = true ∧ (Lit.int .u64 hh.2).wf = true ∧
    Calls Try.prog 22 #[.pointer (some ⟨p, 0, none⟩), .agg #[.int .i64 hh.1, .int .u64 hh.2]] w fun e w' => e = .returned (.tuple #[.agg (want Xs Hs.reverse k x).1.toArray, .int .i64 0]) ∧ Kp NoB w w' := by
  obtain ⟨v, S, B, E, lv, mv, A, I, hN, hrm, W, hH, hi', R, hG, hF⟩ := h
  have hkl : k < Hs.length := by have := (List.getElem?_eq_some_iff.1 hk).1; simpa using this
  rw [List.getElem?_reverse hkl] at hk
  obtain ⟨j, x, e, hx, hj⟩ := R.1 _ hh hk
  refine ⟨x, ?_, ?_, (hG j _ hj).1, ?_⟩
  · rw [← hx]; congr 1; omega
  · rw [e]
    have := (List.getElem?_eq_some_iff.1 hj).1
    have := I.n2
    exact wf_small (by omega)
  · have hw : lnk x (Hs.take (Hs.length - 1 - k)) = want Xs Hs.reverse k x := by
      unfold lnk want
      by_cases h0 : k + 1 < Hs.length
      · rw [List.getElem?_reverse h0, List.getLast?_eq_getElem?, List.length_take, List.getElem?_take_of_lt (by omega)]
        rw [show min (Hs.length - 1 - k) Hs.length - 1 = Hs.length - 1 - (k + 1) from by omega]
        rw [List.getElem?_eq_getElem (by omega)]
      · rw [show Hs.length - 1 - k = 0 from by omega, List.take_zero, List.getElem?_eq_none (by simp; omega)]; rfl
    rw [hw] at hj
    obtain ⟨a, b⟩ := hh
    simp only at e
    subst e
    exact get_yes A I.ok hj
/-- handles that are given are such -/
theorem wg_wf (h : Wg w q p l N Xs B0 Xs.length r Hs) {k : Nat} {hh : Int × Int} (hk : Hs.reverse[k]? = some hh) : (Lit.int .i64 hh.1).wf = true ∧ (Lit.int .u64 hh.2).wf = true := by
  obtain ⟨x, _, h1, h2, _⟩ := wg_get h hk
  exact ⟨h1, h2⟩
theorem setN_pc {L : List Int} (hL : ∀ x ∈ L, 0 ≤ x ∧ x < 256) (k : Nat) {hh : Int × Int} (h1 : (Lit.int .i64 hh.1).wf = true) (h2 : (Lit.int .u64 hh.2).wf = true) : XEq (setN (pc L k) hh.1 hh.2) := by
  unfold pc
  rw [setN_mk]
  exact mkE_eqs (wf_small (by omega)) (fun j _ => byte_at hL _) h1 h2
end
end Go.Proofs.Ytaanbonbdhjbpaa
