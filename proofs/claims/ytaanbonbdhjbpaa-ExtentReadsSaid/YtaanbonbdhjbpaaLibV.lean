/- Arguments that are rows of structs within structs, opened to cells. No program in sight. -/
import Derived.Test.YtaanbonbdhjbpaaLibF
namespace Go.Proofs.Ytaanbonbdhjbpaa
open Go.RowKit Go.ChangeShapes Go.WideShapes Go.Deep

section
variable {H : Type} {enc : TypeId × Value → H} {P : Program} {w : World} {base : Nat} {spare : Nat → Bool} {held : Bool}
/-- a struct's cells, field by field -/
theorem trod_fields {e : TypeId} {fs : Array Field} {n : Nat} {cs : List Value} {x : DataW H × List MemPlace} (he : P.underlying e = some (.struct fs)) (h : DataW.trod enc P w base spare held n e cs = some x) :
    cs.length = P.cellsOf e ∧ ∃ n', ∀ (j : Nat) (f : Field), fs[j]? = some f → ∃ z, DataW.trod enc P w base spare held n' f.type ((cs.drop f.offset).take (P.cellsOf f.type)) = some z := by
  obtain ⟨ys, n', _, _, hl, hyl, hf⟩ := DataW.trod_struct he h
  refine ⟨hl, n', fun j f hj => ?_⟩
  have hjl : j < fs.size := (Array.getElem?_eq_some_iff.1 hj).1
  have h1 := hf j f hj
  rw [List.getElem?_eq_getElem (show j < ys.length by omega)] at h1
  exact ⟨_, h1⟩
theorem open_deep {t e : TypeId} {fuel : Nat} {a : Option Addr} {len cap : Nat} {x : DataW H × List MemPlace} (ht : P.underlying t = some (.slice e))
    (h : DataW.trod enc P w base spare held fuel t [.slice a len cap] = some x) :
    (a = none ∧ len = 0 ∧ cap = 0) ∨ ∃ y, a = some y ∧ len ≤ cap ∧ cap ≤ maxLen ∧ ∀ i, i < len → ∃ n cs z, DataW.trod enc P w base spare held n e cs = some z ∧ ∀ (j : Nat) v, cs[j]? = some v → w.cell? (y.add (i * P.cellsOf e + j)) = some v := by
  rcases open_slice ht h with ⟨h0, _⟩ | ⟨y, l, c, m, n, D, Pl, hcs, _, hl, hm, hmm, _, hi⟩
  · injection h0 with h1 _; injection h1 with h1 h2 h3; exact .inl ⟨h1, h2, h3⟩
  · injection hcs with h1 _; injection h1 with h1 h2 h3
    subst h1; subst h2; subst h3
    refine .inr ⟨y, rfl, hl, hm, fun i hil => ?_⟩
    have him : i < m := by rw [hmm]; split <;> omega
    obtain ⟨cs', hc, ht'⟩ := hi i him
    obtain ⟨_, hcl, hat⟩ := World.cells?_some hc
    refine ⟨n, cs', _, ht', fun j v hj => ?_⟩
    have hjl := (List.getElem?_eq_some_iff.1 hj).1
    have := hat j (by omega)
    rw [add_add, hj] at this
    exact this
end
end Go.Proofs.Ytaanbonbdhjbpaa
