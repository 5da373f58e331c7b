/- Walks through the document's RCU: Retire, Enter, Leave, in one sentence each. -/
import Derived.Test.YtplbkjgkocnehaaU15a
import Derived.Test.YtplbkjgkocnehaaU15b
import Derived.Test.YtplbkjgkocnehaaU15c
namespace Go.Proofs.Ytplbkjgkocnehaa
set_option linter.unusedSimpArgs false
set_option linter.unusedVariables false
open Go.RowKit
section
variable {w w' : World} {q : Nat} {dv ov rv : Value} {D Z : List Nat} {H : List QV} {S : List (Ret × List Int)} {K : Nat}
def qretS (D Z : List Nat) (S : List (Ret × List Int)) (x : Ret) : List (Ret × List Int) := if x.none then S else S ++ [(x, qout D Z)]
theorem qretire_any (h : QAt w q dv ov rv D Z H S) (o : QOkS D Z S K) {a b c : Value} {x : Ret} (hx : SlR w a b c x) (hf : x.few) :
    Calls Try.prog 34 #[.pointer (some ⟨q, 0, none⟩), .agg #[a, b, c]] w fun e w' => e = .returned (.tuple #[]) ∧ ∃ rv' H', QAt w' q dv ov rv' D Z H' (qretS D Z S x) ∧ (∀ b, qfp q dv ov rv' H' b → qfp q dv ov rv H b ∨ w.heap.size ≤ b) ∧ Kp (fun b => b = q) w w' := by
  unfold qretS
  by_cases hn : x.none
  · rw [if_pos hn]
    refine (qretire_none h hx hn).mono ?_
    rintro e w1 ⟨rfl, k⟩
    exact ⟨rfl, rv, H, h.kn k, fun b hb => .inl hb, k.mono (fun _ h => h.elim)⟩
  · rw [if_neg hn]
    have key : ∀ e w1, (e = Ending.returned (.tuple #[]) ∧ ∃ rv' h', QAt w1 q dv ov rv' D Z (H ++ [h']) (S ++ [(x, qout D Z)]) ∧ (∀ b, h'.fp b → w.heap.size ≤ b) ∧ New w rv' ∧ Kp (fun b => b = q) w w1) →
        (e = Ending.returned (.tuple #[]) ∧ ∃ rv' H', QAt w1 q dv ov rv' D Z H' (S ++ [(x, qout D Z)]) ∧ (∀ b, qfp q dv ov rv' H' b → qfp q dv ov rv H b ∨ w.heap.size ≤ b) ∧ Kp (fun b => b = q) w w1) := by
      rintro e w1 ⟨rfl, rv', h', hQ, hf', hn', k⟩
      refine ⟨rfl, rv', _, hQ, ?_, k⟩
      rintro b (hb | hb | hb | hb | ⟨h2, hm, hb⟩)
      · exact .inl (.inl hb)
      · exact .inl (.inr (.inl hb))
      · exact .inl (.inr (.inr (.inl hb)))
      · exact .inr (hn' b hb)
      · rcases List.mem_append.1 hm with hm | hm
        · exact .inl (.inr (.inr (.inr (.inr ⟨h2, hm, hb⟩))))
        · simp at hm; subst hm; exact .inr (hf' b hb)
    unfold Ret.none at hn
    by_cases h1 : x.a.length = 0
    · by_cases h2 : x.b.length = 0
      · exact (qretire_c h o hx hf ⟨h1, h2, by omega⟩).mono key
      · exact (qretire_b h o hx hf ⟨h1, h2⟩).mono key
    · exact (qretire_a h o hx hf h1).mono key
end
end Go.Proofs.Ytplbkjgkocnehaa
