/- Walks through the document's RCU: Retire. -/
import Derived.Test.YtplbkjgkocnehaaU14
import Derived.Test.YtplbkjgkocnehaaLibE
import Derived.Lib.AppendZeros
namespace Go.Proofs.Ytplbkjgkocnehaa
set_option linter.unusedSimpArgs false
set_option linter.unusedVariables false
open Go.RowKit
attribute [local go_sem ↓] Go.wp_at_zero Go.wp_at_succ
def qoutK (D Z : List Nat) (k : Nat) : List Int := (List.range k).map fun t => if D.getD t 0 = 0 then -1 else ((Z.getD t 0 : Nat) : Int)
def qout (D Z : List Nat) : List Int := qoutK D Z D.length
theorem ax_fun (T : Array Value) {R : (Nat → Value) → Array Value} (h : T = R (fun i => T.toList.getD i undef)) : ∃ u, ({ tmps := T, defers := [] } : Act) = { tmps := R u, defers := [] } := ⟨_, congrArg (fun t => ({ tmps := t, defers := [] } : Act)) h⟩
theorem qoutK_succ (D Z : List Nat) (k : Nat) : qoutK D Z (k + 1) = qoutK D Z k ++ [if D.getD k 0 = 0 then -1 else ((Z.getD k 0 : Nat) : Int)] := by
  unfold qoutK
  rw [List.range_succ, List.map_append]; rfl
theorem qoutK_len (D Z : List Nat) (k : Nat) : (qoutK D Z k).length = k := by simp [qoutK]
theorem sl33 : Try.prog.underlying 33 = some (.slice 59) := u33
theorem sl52 : Try.prog.underlying 52 = some (.slice 81) := by kernel_rfl
theorem i81 : (Try.prog.info? 81).map (fun i => (i.zero, i.size, i.bytes)) = some (some (.agg #[.slice none 0 0, .slice none 0 0, .slice none 0 0, .slice none 0 0]), 4, 96) := by kernel_rfl
theorem oneQ {a b c d : Option Addr} {l1 l2 l3 l4 c1 c2 c3 c4 : Nat} : ∀ u ∈ [(⟨.slice a l1 c1, .slice b l2 c2, .slice c l3 c3, .slice d l4 c4⟩ : QV)].flatMap eQ, u.oneCell' = true := by
  intro u hu
  simp [eQ] at hu
  rcases hu with rfl | rfl | rfl | rfl <;> rfl
section
variable {w w' : World} {q : Nat} {dv ov rv : Value} {D Z : List Nat} {H : List QV} {S : List (Ret × List Int)} {K : Nat}
theorem QAt.oneH (h : QAt w q dv ov rv D Z H S) : ∀ u ∈ H.flatMap eQ, u.oneCell' = true := by
  intro u hu
  obtain ⟨h', hm, hu⟩ := List.mem_flatMap.1 hu
  obtain ⟨k, hk⟩ := List.getElem?_of_mem hm
  obtain ⟨x, out, _, o⟩ := h.at_ hk
  obtain ⟨_, _, e1, _⟩ := o.x.a.form
  obtain ⟨_, _, e2, _⟩ := o.x.b.form
  obtain ⟨_, _, e3, _⟩ := o.x.c.form
  obtain ⟨_, _, e4, _⟩ := o.o.form
  unfold eQ at hu
  rw [e1, e2, e3, e4] at hu
  simp at hu
  rcases hu with rfl | rfl | rfl | rfl <;> rfl
theorem QAt.push {h' : QV} {x : Ret} {out : List Int} {rv' : Value} (h : QAt w q dv ov rv D Z H S) (ho : QOk w h' x out) (hne : ∀ b, h'.o.ownBlock = some b → dv.ownBlock ≠ some b ∧ ov.ownBlock ≠ some b) (hq' : w'.heap[q]? = some (.cells #[dv, ov, rv'] 54 (0, 0)))
    (hr' : RowAt w' 81 eQ 4 rv' (H ++ [h'])) (k : Kp (fun b => b = q) w w') : QAt w' q dv ov rv' D Z (H ++ [h']) (S ++ [(x, out)]) := by
  have hn : ∀ {g : QV} {y : Ret} {o : List Int}, QOk w g y o → ∀ b, g.fp b → ¬ b = q := by
    rintro g y o hg b (h1 | h1 | h1 | h1) rfl
    · exact hg.x.a.ne h.hq (by decide) h1
    · exact hg.x.b.ne h.hq (by decide) h1
    · exact hg.x.c.ne h.hq (by decide) h1
    · exact hg.o.ne h.hq (by decide) h1
  refine ⟨hq', h.hd.kp k (fun b hb e => by subst e; exact h.hd.ne h.hq (by decide) hb), h.ho.kp k (fun b hb e => by subst e; exact h.ho.ne h.hq (by decide) hb), hr', by simp [h.hl], ?_, ?_, ?_⟩
  · intro i h2 y o2 hi hy
    by_cases hil : i < H.length
    · rw [List.getElem?_append_left hil] at hi
      rw [List.getElem?_append_left (by rw [← h.hl]; exact hil)] at hy
      have o := h.hh i h2 y o2 hi hy
      exact o.kp k (hn o)
    · rw [List.getElem?_append_right (by omega)] at hi
      rw [List.getElem?_append_right (by rw [← h.hl]; omega)] at hy
      have hi0 : i - H.length = 0 := by have := (List.getElem?_eq_some_iff.1 hi).1; simp at this; omega
      rw [hi0] at hi
      rw [← h.hl, hi0] at hy
      injection hi with hi
      injection hy with hy
      injection hy with hy1 hy2
      subst hi; subst hy1; subst hy2
      exact ho.kp k (hn ho)
  · rintro b hb (e | ⟨h2, hm, e⟩)
    · exact h.nd b hb (.inl e)
    · rcases List.mem_append.1 hm with hm | hm
      · exact h.nd b hb (.inr ⟨h2, hm, e⟩)
      · simp at hm; subst hm; exact (hne b e).1 hb
  · rintro b hb ⟨h2, hm, e⟩
    rcases List.mem_append.1 hm with hm | hm
    · exact h.no b hb ⟨h2, hm, e⟩
    · simp at hm; subst hm; exact (hne b e).2 hb
set_option maxRecDepth 100000 in
theorem qretire_none (h : QAt w q dv ov rv D Z H S) {a b c : Value} {x : Ret} (hx : SlR w a b c x) (h0 : x.none) :
    Calls Try.prog 34 #[.pointer (some ⟨q, 0, none⟩), .agg #[a, b, c]] w fun e w' => e = .returned (.tuple #[]) ∧ Kp NoB w w' := by
  obtain ⟨oa, ca, rfl, _⟩ := hx.a.form
  obtain ⟨ob, cb, rfl, _⟩ := hx.b.form
  obtain ⟨oc, cc, rfl, _⟩ := hx.c.form
  obtain ⟨h1, h2, h3⟩ : x.a.length = 0 ∧ x.b.length = 0 ∧ x.c.length = 0 := by unfold Ret.none at h0; omega
  rw [h1, h2, h3]
  clear h hx h0 h1 h2 h3
  go_enter Try.func34, Try.ntmps34
  go_wp2_with fail
  refine bodyPost_ret (results_none rfl _ _ _) rfl ⟨rfl, (Kp.refl _ w).alloc _⟩
end
end Go.Proofs.Ytplbkjgkocnehaa
