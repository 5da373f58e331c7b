/- Walks through a game: where it lies; its beginning. -/
import Derived.Test.YtldkogdkadgnkaaR4
import Derived.Deep.DeepCutAuto
namespace Go.Proofs.Ytldkogdkadgnkaa
set_option linter.unusedSimpArgs false
set_option linter.unusedVariables false
open Go.RowKit
attribute [local go_sem ↓] Go.wp_at_zero Go.wp_at_succ

/-- a game: its struct at pg, the arena at p, the document's at r, the handles in hv; all from block N on -/
structure GAt (N : Nat) (w : World) (pg p l r lb c : Nat) (v vb hv : Value) (S : List (Int × Int × Bool)) (B : List Nat) (E : Nat) (H : List (Nat × Int)) : Prop where
  hg : w.heap[pg]? = some (.cells #[.pointer (some ⟨p, 0, none⟩), .pointer (some ⟨r, 0, none⟩), hv] 32 (0, 0))
  ha : AAt w p l v S B E
  hw : WAt w r lb c vb S B
  hh : RowAt w 36 eH 2 hv H
  vv : ∀ b, v.ownBlock = some b → vb.ownBlock ≠ some b
  nn : N ≤ pg ∧ N ≤ p ∧ N ≤ l ∧ N ≤ r ∧ N ≤ lb
  nv : ∀ b, v.ownBlock = some b → N ≤ b
  nb : ∀ b, vb.ownBlock = some b → N ≤ b
  nh : ∀ b, hv.ownBlock = some b → N ≤ b
/-- its blocks -/
def FP (pg p l r lb : Nat) (v vb hv : Value) (b : Nat) : Prop := b = pg ∨ b = p ∨ b = l ∨ b = r ∨ b = lb ∨ v.ownBlock = some b ∨ vb.ownBlock = some b ∨ hv.ownBlock = some b
section
variable {N : Nat} {w w' : World} {pg p l r lb c : Nat} {v vb hv : Value} {S : List (Int × Int × Bool)} {B : List Nat} {E : Nat} {H : List (Nat × Int)}
theorem GAt.fp (h : GAt N w pg p l r lb c v vb hv S B E H) : ∀ b, FP pg p l r lb v vb hv b → N ≤ b := by
  intro b hb
  obtain ⟨n1, n2, n3, n4, n5⟩ := h.nn
  rcases hb with rfl | rfl | rfl | rfl | rfl | hb | hb | hb
  · exact n1
  · exact n2
  · exact n3
  · exact n4
  · exact n5
  · exact h.nv b hb
  · exact h.nb b hb
  · exact h.nh b hb
/-- a block of another type is none of its -/
theorem GAt.not_fp (h : GAt N w pg p l r lb c v vb hv S B E H) {b : Nat} {A : Array Value} {t : TypeId} {z : Nat × Nat} (hb : w.heap[b]? = some (.cells A t z)) (ht : t ≠ 32 ∧ t ≠ 76 ∧ t ≠ 72 ∧ t ≠ 59 ∧ t ≠ 56 ∧ t ≠ 3 ∧ t ≠ 36) : ¬ FP pg p l r lb v vb hv b := by
  obtain ⟨t1, t2, t3, t4, t5, t6, t7⟩ := ht
  obtain ⟨A', hl, _⟩ := h.hw.hl
  rintro (rfl | rfl | rfl | rfl | rfl | hv | hv | hv)
  · exact ne_of_types hb h.hg t1 rfl
  · exact ne_of_types hb h.ha.hp t2 rfl
  · exact ne_of_types hb h.ha.hl t3 rfl
  · exact ne_of_types hb h.hw.hp t4 rfl
  · exact ne_of_types hb hl t5 rfl
  · exact h.ha.hv.ne hb t6 hv
  · exact h.hw.hv.ne hb t6 hv
  · exact h.hh.ne hb t7 hv
theorem GAt.lt (h : GAt N w pg p l r lb c v vb hv S B E H) : ∀ b, FP pg p l r lb v vb hv b → b < w.heap.size := by
  intro b hb
  rcases hb with rfl | rfl | rfl | rfl | rfl | hb | hb | hb
  · exact blk_lt h.hg
  · exact h.ha.lt.1
  · exact h.ha.lt.2
  · exact h.hw.lt.1
  · exact h.hw.lt.2
  · exact h.ha.hv.lt b hb
  · exact h.hw.hv.lt b hb
  · exact h.hh.lt b hb
theorem GAt.kp {F : Nat → Prop} (h : GAt N w pg p l r lb c v vb hv S B E H) (k : Kp F w w') (hF : ∀ b, FP pg p l r lb v vb hv b → ¬ F b) : GAt N w' pg p l r lb c v vb hv S B E H :=
  ⟨k.get h.hg (hF _ (.inl rfl)), h.ha.kp k (hF _ (.inr (.inl rfl))) (hF _ (.inr (.inr (.inl rfl)))) (fun b hb => hF _ (.inr (.inr (.inr (.inr (.inr (.inl hb))))))),
   h.hw.kp k (hF _ (.inr (.inr (.inr (.inl rfl))))) (hF _ (.inr (.inr (.inr (.inr (.inl rfl)))))) (fun b hb => hF _ (.inr (.inr (.inr (.inr (.inr (.inr (.inl hb)))))))),
   h.hh.kp k (fun b hb => hF _ (.inr (.inr (.inr (.inr (.inr (.inr (.inr hb)))))))), h.vv, h.nn, h.nv, h.nb, h.nh⟩
theorem GAt.kn (h : GAt N w pg p l r lb c v vb hv S B E H) (k : Kp NoB w w') : GAt N w' pg p l r lb c v vb hv S B E H := h.kp k (fun _ _ h => h)
theorem GAt.alloc (h : GAt N w pg p l r lb c v vb hv S B E H) (o : Obj) : GAt N (w.alloc o) pg p l r lb c v vb hv S B E H := h.kn ((Kp.refl _ w).alloc o)
theorem GAt.drew (h : GAt N w pg p l r lb c v vb hv S B E H) : GAt N w.drew pg p l r lb c v vb hv S B E H := h.kn (Kp.refl _ w).drew
/-- which of its blocks are apart -/
theorem GAt.ne (h : GAt N w pg p l r lb c v vb hv S B E H) : pg ≠ p ∧ pg ≠ l ∧ pg ≠ r ∧ pg ≠ lb ∧ p ≠ l ∧ p ≠ r ∧ p ≠ lb ∧ l ≠ r ∧ l ≠ lb ∧ r ≠ lb := by
  obtain ⟨A', hl, _⟩ := h.hw.hl
  exact ⟨ne_of_types h.hg h.ha.hp (by decide), ne_of_types h.hg h.ha.hl (by decide), ne_of_types h.hg h.hw.hp (by decide), ne_of_types h.hg hl (by decide),
    ne_of_types h.ha.hp h.ha.hl (by decide), ne_of_types h.ha.hp h.hw.hp (by decide), ne_of_types h.ha.hp hl (by decide), ne_of_types h.ha.hl h.hw.hp (by decide), ne_of_types h.ha.hl hl (by decide), ne_of_types h.hw.hp hl (by decide)⟩
theorem GAt.ow (h : GAt N w pg p l r lb c v vb hv S B E H) : (v.ownBlock ≠ some pg ∧ v.ownBlock ≠ some r ∧ v.ownBlock ≠ some lb ∧ (∀ b, v.ownBlock = some b → hv.ownBlock ≠ some b)) ∧
    (vb.ownBlock ≠ some pg ∧ vb.ownBlock ≠ some p ∧ vb.ownBlock ≠ some l ∧ (∀ b, vb.ownBlock = some b → hv.ownBlock ≠ some b)) ∧ (hv.ownBlock ≠ some pg ∧ hv.ownBlock ≠ some p ∧ hv.ownBlock ≠ some l ∧ hv.ownBlock ≠ some r ∧ hv.ownBlock ≠ some lb) := by
  obtain ⟨A', hl, _⟩ := h.hw.hl
  have hvb : ∀ (u : Value) (T : List Nat), RowAt w 3 eI 1 u T → ∀ b, u.ownBlock = some b → hv.ownBlock ≠ some b := by
    intro u T hu b hb hh
    rcases hu.2 with ⟨rfl, _⟩ | ⟨g, cap, cur, rfl, _, hg, _⟩
    · cases hb
    · injection hb with hb; subst hb
      exact h.hh.ne hg (by decide) hh
  exact ⟨⟨h.ha.hv.ne h.hg (by decide), h.ha.hv.ne h.hw.hp (by decide), h.ha.hv.ne hl (by decide), hvb _ _ h.ha.hv⟩,
    ⟨h.hw.hv.ne h.hg (by decide), h.hw.hv.ne h.ha.hp (by decide), h.hw.hv.ne h.ha.hl (by decide), hvb _ _ h.hw.hv⟩,
    h.hh.ne h.hg (by decide), h.hh.ne h.ha.hp (by decide), h.hh.ne h.ha.hl (by decide), h.hh.ne h.hw.hp (by decide), h.hh.ne hl (by decide)⟩
theorem begin_any (n : Nat) (n1 : 1 ≤ n) (n2 : n ≤ 4096) (w : World) : Calls Try.prog 8 #[.int .i64 n] w fun e w' => ∃ pg p l r lb c, e = .returned (.pointer (some ⟨pg, 0, none⟩)) ∧
    GAt w.heap.size w' pg p l r lb c (.slice none 0 0) (.slice none 0 0) (.slice none 0 0) (List.replicate n (0, 1, false)) [] 0 [] ∧ Kp NoB w w' := by
  have HN := hid (new_any n n1 n2 w)
  have HR := hid (fun (W : World) => rnew_any n n1 n2 W)
  go_enter Try.func8, Try.ntmps8
  go_wp2_with fail
  refine HN.out.mono ?_
  rintro e w1 ⟨p, l, rfl, A1, hp, hl, k1⟩
  replace A1 := hid A1
  go_wp2_with fail
  refine (HR.out _).mono ?_
  rintro e w2 ⟨r, lb, c, rfl, W2, hr, hlb, k2⟩
  replace W2 := hid W2
  go_wp2_with fail
  go_ret
  have s1 := k1.size
  have s2 := k2.size
  refine ⟨w2.heap.size, p, l, r, lb, c, rfl, ⟨blk_new _ _, (A1.out.kn k2).alloc _, W2.out.alloc _, RowAt.nil _ _ _ _, (by intro b hb; cases hb), ⟨by omega, hp, hl, by omega, by omega⟩, (by intro b hb; cases hb), (by intro b hb; cases hb), (by intro b hb; cases hb)⟩, ?_⟩
  exact (k1.trans k2).alloc _
end
end Go.Proofs.Ytldkogdkadgnkaa
