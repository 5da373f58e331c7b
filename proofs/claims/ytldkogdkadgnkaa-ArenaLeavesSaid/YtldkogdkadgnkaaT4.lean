/- What a walk over an arena finds, round by round. -/
import Derived.Test.YtldkogdkadgnkaaT3
import Derived.Test.YtldkogdkadgnkaaR8
namespace Go.Proofs.Ytldkogdkadgnkaa
set_option linter.unusedSimpArgs false
set_option linter.unusedVariables false
open Go.RowKit Go.Shelf
theorem row_cells {α : Type} {f : α → List Value} {n : Nat} {w : World} {e : TypeId} {v : Value} {l : List α} (h : RowAt w e f n v l) {b : Nat} (hb : v.ownBlock = some b) : ∃ A, w.heap[b]? = some (.cells A e (0, 0)) := by
  rcases h.2 with ⟨h2, _⟩ | ⟨g, cap, cur, h2, _, hg, _⟩
  · rw [h2] at hb; cases hb
  · rw [h2] at hb; injection hb with hb; subst hb; exact ⟨_, hg⟩
structure Av (w0 W : World) (b7 b9 pg p l : Nat) (v wv : Value) (S : List (Int × Int × Bool)) (B : List Nat) (E : Nat) (wl : List (Nat × Int)) (at_ : Int) : Prop where
  a : W.heap[w0.heap.size]? = some (.cells #[.int .i64 at_] 3 (0, 0))
  r : W.heap[w0.heap.size + 1]? = some (.cells #[.bool false] 4 (0, 0))
  d : W.heap[b7]? = some (.cells #[.pointer (some ⟨pg, 0, none⟩)] 25 (0, 0))
  g : ∃ rr hv, W.heap[pg]? = some (.cells #[.pointer (some ⟨p, 0, none⟩), rr, hv] 32 (0, 0))
  n : W.heap[b9]? = some (.cells #[wv] 30 (0, 0))
  q : RowAt W 36 eH 2 wv wl
  h : AAt W p l v S B E
  i : AInv S B E
  k : Kp NoB w0 W
  gp : w0.heap.size + 2 ≤ p ∧ w0.heap.size + 2 ≤ l
  gv : ∀ b, v.ownBlock = some b → w0.heap.size + 2 ≤ b
section
variable {w0 W W' : World} {b7 b9 pg p l : Nat} {v wv : Value} {S : List (Int × Int × Bool)} {B : List Nat} {E : Nat} {wl : List (Nat × Int)} {at_ : Int}
theorem Av.cells {F : Nat → Prop} (h : Av w0 W b7 b9 pg p l v wv S B E wl at_) (k : Kp F W W') (hF : ∀ b, F b → ∀ A t f, W.heap[b]? ≠ some (.cells A t f)) (h0 : ∀ b, F b → w0.heap.size ≤ b) : Av w0 W' b7 b9 pg p l v wv S B E wl at_ := by
  have hn : ∀ {b : Nat} {A : Array Value} {t : TypeId} {f : Nat × Nat}, W.heap[b]? = some (.cells A t f) → ¬ F b := fun hb e => hF _ e _ _ _ hb
  obtain ⟨rr, hv, hg⟩ := h.g
  exact ⟨k.get h.a (hn h.a), k.get h.r (hn h.r), k.get h.d (hn h.d), ⟨rr, hv, k.get hg (hn hg)⟩, k.get h.n (hn h.n),
    h.q.kp k (fun b hb => by obtain ⟨A, hA⟩ := row_cells h.q hb; exact hn hA),
    h.h.kp k (hn h.h.hp) (hn h.h.hl) (fun b hb => by obtain ⟨A, hA⟩ := row_cells h.h.hv hb; exact hn hA), h.i, h.k.trans' k (fun b hb e => by have := h0 b e; omega), h.gp, h.gv⟩
theorem Av.kn (h : Av w0 W b7 b9 pg p l v wv S B E wl at_) (k : Kp NoB W W') : Av w0 W' b7 b9 pg p l v wv S B E wl at_ := h.cells k (fun _ h => h.elim) (fun _ h => h.elim)
/-- the counter turns -/
theorem Av.num {b : Nat} (h : Av w0 W b7 b9 pg p l v wv S B E wl at_) {A : Array Value} (hb : W.heap[b]? = some (.cells A 3 (0, 0))) (h0 : w0.heap.size + 1 < b) (hv : v.ownBlock ≠ some b) (k : Kp (· = b) W W') : Av w0 W' b7 b9 pg p l v wv S B E wl at_ := by
  have hn : ∀ {c : Nat} {A' : Array Value} {t : TypeId}, W.heap[c]? = some (.cells A' t (0, 0)) → t ≠ 3 → ¬ c = b := by
    rintro c A' t hc ht rfl
    rw [hb] at hc; injection hc with hc; injection hc with _ h3 _; exact ht h3.symm
  obtain ⟨rr, hv', hg⟩ := h.g
  exact ⟨k.get h.a (by omega), k.get h.r (by omega), k.get h.d (hn h.d (by decide)), ⟨rr, hv', k.get hg (hn hg (by decide))⟩, k.get h.n (hn h.n (by decide)),
    h.q.kp k (fun c hc => by obtain ⟨A, hA⟩ := row_cells h.q hc; exact hn hA (by decide)),
    h.h.kp k (hn h.h.hp (by decide)) (hn h.h.hl (by decide)) (fun c hc e => by subst e; exact hv hc), h.i, h.k.trans' k (fun c hc e => by omega), h.gp, h.gv⟩
/-- one is freed -/
theorem Av.free {v' : Value} {S' : List (Int × Int × Bool)} {B' : List Nat} (h : Av w0 W b7 b9 pg p l v wv S B E wl at_) (hA : AAt W' p l v' S' B' E) (hi : AInv S' B' E) (ho : v'.ownBlock = v.ownBlock ∨ ∃ b, v'.ownBlock = some b ∧ W.heap.size ≤ b) (k : Kp (fun b => b = p ∨ b = l ∨ v.ownBlock = some b) W W') : Av w0 W' b7 b9 pg p l v' wv S' B' E wl at_ := by
  have h1 := h.gp
  have hn : ∀ {c : Nat} {A' : Array Value} {t : TypeId}, W.heap[c]? = some (.cells A' t (0, 0)) → t ≠ 76 ∧ t ≠ 72 → (t ≠ 3 ∨ c < w0.heap.size + 2) → ¬ (c = p ∨ c = l ∨ v.ownBlock = some c) := by
    rintro c A' t hc ht h3 (rfl | rfl | hv)
    · have := h.h.hp; rw [hc] at this; injection this with this; injection this with _ h4 _; exact ht.1 h4
    · have := h.h.hl; rw [hc] at this; injection this with this; injection this with _ h4 _; exact ht.2 h4
    · rcases h3 with h3 | h3
      · obtain ⟨A, hA⟩ := row_cells h.h.hv hv
        rw [hc] at hA; injection hA with hA; injection hA with _ h4 _; exact h3 h4
      · have := h.gv c hv; omega
  obtain ⟨rr, hv', hg⟩ := h.g
  have hs := h.k.size
  have hlt := blk_lt h.r
  exact ⟨k.get h.a (hn h.a (by decide) (.inr (by omega))), k.get h.r (hn h.r (by decide) (.inl (by decide))), k.get h.d (hn h.d (by decide) (.inl (by decide))), ⟨rr, hv', k.get hg (hn hg (by decide) (.inl (by decide)))⟩, k.get h.n (hn h.n (by decide) (.inl (by decide))),
    h.q.kp k (fun c hc => by obtain ⟨A, hA⟩ := row_cells h.q hc; exact hn hA (by decide) (.inl (by decide))), hA, hi,
    h.k.trans' k (fun c hc e => by rcases e with e | e | e <;> first | omega | (have := h.gv c e; omega)), h.gp, fun b hb => by
      rcases ho with e | ⟨b', e, hb'⟩
      · exact h.gv b (e ▸ hb)
      · rw [hb] at e; injection e with e; subst e; omega⟩
end
end Go.Proofs.Ytldkogdkadgnkaa
