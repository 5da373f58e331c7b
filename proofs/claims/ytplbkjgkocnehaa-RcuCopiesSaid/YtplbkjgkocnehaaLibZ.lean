/- Readings whose parts are no larger than the form reaches. No program in sight. -/
import Derived.Test.YtplbkjgkocnehaaLibV
import Derived.SizedLaws
namespace Go.Proofs.Ytplbkjgkocnehaa
open Go.RowKit Go.ChangeShapes Go.WideShapes Go.Deep

/-- each part of it weighs no more than the form reaches -/
def Wt {H : Type} (P : Program) (t : TypeId) (d : DataW H) : Prop := ∀ n ∈ d.weights P t, n ≤ reachBytes
theorem weightsAll_mem {H : Type} {P : Program} {e : TypeId} : ∀ {l : List (DataW H)} {d : DataW H}, d ∈ l → ∀ n ∈ d.weights P e, n ∈ DataW.weightsAll P e l
  | x :: r, d, hd, n, hn => by
    simp only [DataW.weightsAll, List.mem_append]
    rcases List.mem_cons.1 hd with rfl | h
    · exact .inl hn
    · exact .inr (weightsAll_mem h n hn)
theorem Wt.of_args {H : Type} {P : Program} {ts : List TypeId} {ds : List (DataW H)} (h : (DataW.weightsEach P ts ds).all (· ≤ reachBytes) = true) {j : Nat} {t : TypeId} {d : DataW H} (ht : ts[j]? = some t) (hd : ds[j]? = some d) : Wt P t d := fun n hn => by
  have := List.all_eq_true.1 h _ (DataW.weights_mem_each ht hd n hn)
  simpa using this
section
variable {H : Type} {enc : TypeId × Value → H} {P : Program} {w : World} {base : Nat} {spare : Nat → Bool} {held : Bool}
/-- a struct's cells, field by field -/
theorem fields_sized {e : TypeId} {fs : Array Field} {n : Nat} {cs : List Value} {x : DataW H × List MemPlace} (he : P.underlying e = some (.struct fs)) (h : DataW.trod enc P w base spare held n e cs = some x) (hw : Wt P e x.1) :
    cs.length = P.cellsOf e ∧ ∃ n', ∀ (j : Nat) (f : Field), fs[j]? = some f → ∃ z, DataW.trod enc P w base spare held n' f.type ((cs.drop f.offset).take (P.cellsOf f.type)) = some z ∧ Wt P f.type z.1 := by
  obtain ⟨ys, n', _, hx, hl, hyl, hf⟩ := DataW.trod_struct he h
  refine ⟨hl, n', fun j f hj => ?_⟩
  have hjl : j < fs.size := (Array.getElem?_eq_some_iff.1 hj).1
  have h1 := hf j f hj
  rw [List.getElem?_eq_getElem (show j < ys.length by omega)] at h1
  refine ⟨_, h1, fun m hm => hw m ?_⟩
  rw [hx]
  simp only [DataW.weights, he]
  refine DataW.weights_mem_each (j := j) (t := f.type) (d := (ys[j]'(by omega)).1) ?_ ?_ m hm
  · rw [List.getElem?_map, Array.getElem?_toList, hj]; rfl
  · rw [List.getElem?_map, List.getElem?_eq_getElem (show j < ys.length by omega)]; rfl
theorem slice_sized {t e : TypeId} {fuel : Nat} {v : Value} {x : DataW H × List MemPlace} (ht : P.underlying t = some (.slice e)) (h : DataW.trod enc P w base spare held fuel t [v] = some x) (hw : Wt P t x.1) :
    v = .slice none 0 0 ∨ ∃ y l c, v = .slice (some y) l c ∧ l ≤ c ∧ c ≤ maxLen ∧ l * P.bytesOf e ≤ reachBytes ∧
      ∀ i, i < l → ∃ n cs z, DataW.trod enc P w base spare held n e cs = some z ∧ Wt P e z.1 ∧ ∀ (j : Nat) v, cs[j]? = some v → w.cell? (y.add (i * P.cellsOf e + j)) = some v := by
  rcases open_slice ht h with ⟨h0, _⟩ | ⟨y, l, c, m, n, D, Pl, hcs, _, hl, hm, hmm, hx, hi⟩
  · injection h0 with h1 _; exact .inl h1
  · injection hcs with h1 _
    subst h1
    subst hx
    simp only [Wt, DataW.weights, ht] at hw
    refine .inr ⟨y, l, c, rfl, hl, hm, ?_, fun i hil => ?_⟩
    · have := hw _ List.mem_cons_self
      simp only [List.length_map, List.length_range] at this
      exact Nat.le_trans (Nat.mul_le_mul_right _ (by omega)) this
    · have him : i < m := by rw [hmm]; split <;> omega
      obtain ⟨cs', hc, ht'⟩ := hi i him
      obtain ⟨_, hcl, hat⟩ := World.cells?_some hc
      refine ⟨n, cs', _, ht', fun q hq => hw q ?_, fun j v hj => ?_⟩
      · refine List.mem_cons_of_mem _ (List.mem_append.2 (.inl (weightsAll_mem (List.mem_map.2 ⟨i, List.mem_range.2 hil, rfl⟩) q hq)))
      · have hjl := (List.getElem?_eq_some_iff.1 hj).1
        have := hat j (by omega)
        rw [add_add, hj] at this
        exact this
end
end Go.Proofs.Ytplbkjgkocnehaa
