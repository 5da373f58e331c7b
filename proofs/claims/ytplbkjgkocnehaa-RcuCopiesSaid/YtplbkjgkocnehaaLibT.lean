/- Rows of integers that the library sorts. No program in sight. -/
import Derived.Test.YtplbkjgkocnehaaLibR
import Derived.Shelf.SortM.Plain
import Derived.Shelf.SortM.SortNone
import Derived.Sort.OwnSortedInts
namespace Go.Proofs.Ytplbkjgkocnehaa
open Go.RowKit Go.Sort Go.Shelf

def le2 (x y : Int) : Bool := decide (x ≤ y)
theorem flat_map1 (l : List Int) : l.flatMap (fun x => [Value.int .i64 x]) = l.map (Value.int .i64) := by
  induction l with
  | nil => rfl
  | cons a r ih => rw [List.flatMap_cons, ih]; rfl
theorem sort_row {P : Program} {ρ : Ren} (Ly : SlLaysM.n5 P ρ) {w : World} {e : TypeId} {v : Value} {l : List Int} (h : RowAt w e (fun x => [Value.int .i64 x]) 1 v l) (hl : l.length ≤ 1000000) :
    Calls P (ρ.f 5) #[v] w fun en w' => en = .returned (.tuple #[]) ∧ RowAt w' e (fun x => [Value.int .i64 x]) 1 v (l.mergeSort le2) ∧ Kp (fun b => v.ownBlock = some b) w w' := by
  unfold RowAt at h ⊢
  have hlen : (l.mergeSort le2).length = l.length := List.length_mergeSort l
  rcases h.2 with ⟨h1, h2⟩ | ⟨g, cap, cur, h1, _, hg, h3, h4, h5, h6⟩
  · obtain rfl := List.eq_nil_of_length_eq_zero h2
    subst h1
    refine (AnyM.slices_Sort_int_none Ly none 0 w).mono ?_
    rintro en w' ⟨rfl, rfl⟩
    exact ⟨rfl, by simpa using h, Kp.refl _ _⟩
  · subst h1
    rw [flat_map1, Nat.mul_one] at h6
    refine (AnyM.slices_Sort_int Ly g 0 cap l w (holds_of_blockI hg h6) (blk_lt hg) (by omega)).mono ?_
    rintro en w' ⟨rfl, n, os, rfl⟩
    refine ⟨rfl, ?_, Kp.of_grownBy (grownBy_sortedI _) |>.mono (fun b hb => by subst hb; rfl)⟩
    rw [hlen, flat_map1]
    exact ownsRow_sortedI (ss := l) (ts := l.mergeSort le2) hlen (Nat.zero_le _) hg h3 h4 h5
theorem le2_trans (a b c : Int) (h1 : le2 a b = true) (h2 : le2 b c = true) : le2 a c = true := by unfold le2 at *; simp at *; omega
theorem le2_total (a b : Int) : (le2 a b || le2 b a) = true := by unfold le2; simp; omega
/-- two rising lists that have the same, each once, are one -/
theorem rising_eq : ∀ {l l' : List Int}, l.Pairwise (· < ·) → l'.Pairwise (· < ·) → (∀ x, x ∈ l ↔ x ∈ l') → l = l' := by
  intro l
  induction l with
  | nil =>
    intro l' _ _ h
    cases l' with
    | nil => rfl
    | cons b r => have := (h b).2 List.mem_cons_self; cases this
  | cons a r ih =>
    intro l' h1 h2 h
    cases l' with
    | nil => have := (h a).1 List.mem_cons_self; cases this
    | cons b s =>
      rw [List.pairwise_cons] at h1 h2
      have hab : a = b := by
        have ha := (h a).1 List.mem_cons_self
        have hb := (h b).2 List.mem_cons_self
        rcases List.mem_cons.1 ha with e | ha
        · exact e
        · rcases List.mem_cons.1 hb with e | hb
          · exact e.symm
          · have := h2.1 a ha; have := h1.1 b hb; omega
      subst hab
      congr 1
      refine ih h1.2 h2.2 (fun x => ⟨fun hx => ?_, fun hx => ?_⟩)
      · rcases List.mem_cons.1 ((h x).1 (List.mem_cons_of_mem _ hx)) with e | hx'
        · subst e; have := h1.1 x hx; omega
        · exact hx'
      · rcases List.mem_cons.1 ((h x).2 (List.mem_cons_of_mem _ hx)) with e | hx'
        · subst e; have := h2.1 x hx; omega
        · exact hx'
/-- what is sorted, each once, rises -/
theorem sorted_rising {l : List Int} (h : l.Nodup) : (l.mergeSort le2).Pairwise (· < ·) := by
  have h1 := List.pairwise_mergeSort le2_trans le2_total l
  have h2 : (l.mergeSort le2).Nodup := (List.mergeSort_perm l le2).nodup_iff.2 h
  rw [List.nodup_iff_pairwise_ne] at h2
  refine (h1.and h2).imp ?_
  rintro a b ⟨ha, hb⟩
  unfold le2 at ha
  simp at ha
  omega
theorem mem_sorted {l : List Int} {x : Int} : x ∈ l.mergeSort le2 ↔ x ∈ l := (List.mergeSort_perm l le2).mem_iff
end Go.Proofs.Ytplbkjgkocnehaa
