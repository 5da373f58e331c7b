/- Plain law: the rows of a map, risen. -/
import Derived.Test.YtbgojgnbbkgkgaaS18
namespace Go.Proofs.Ytbgojgnbbkgkgaa
set_option linter.unusedSimpArgs false
set_option linter.unusedVariables false
open Go.RowKit Go.Shelf
theorem rise_eq : ∀ {L1 L2 : List (Int × Int × Int)}, Rise L1 → Rise L2 → (∀ y, y ∈ L1 ↔ y ∈ L2) → L1 = L2
  | [], [], _, _, _ => rfl
  | [], b :: l2, _, _, h => absurd ((h b).2 List.mem_cons_self) (by simp)
  | a :: l1, [], _, _, h => absurd ((h a).1 List.mem_cons_self) (by simp)
  | a :: l1, b :: l2, h1, h2, h => by
    unfold Rise at h1 h2
    rw [List.pairwise_cons] at h1 h2
    have hab : a = b := by
      rcases List.mem_cons.1 ((h a).1 List.mem_cons_self) with e | e
      · exact e
      · rcases List.mem_cons.1 ((h b).2 List.mem_cons_self) with e' | e'
        · exact e'.symm
        · have := h1.1 _ e'; have := h2.1 _ e; omega
    subst hab
    rw [rise_eq h1.2 h2.2 (fun y => by
      constructor
      · intro hy
        rcases List.mem_cons.1 ((h y).1 (List.mem_cons_of_mem _ hy)) with e | e
        · subst e; have := h1.1 _ hy; omega
        · exact e
      · intro hy
        rcases List.mem_cons.1 ((h y).2 (List.mem_cons_of_mem _ hy)) with e | e
        · subst e; have := h2.1 _ hy; omega
        · exact e)]
theorem keysL_mem {M : List (Int × Value)} {k : Int} : k ∈ keysL M ↔ (mget M k).isSome = true := by
  unfold keysL
  rw [mem_sorted]
  constructor
  · intro h
    cases hq : mget M k with
    | some v => rfl
    | none =>
      obtain ⟨x, hx, rfl⟩ := List.mem_map.1 h
      exact absurd rfl (mget_none.1 hq x hx)
  · exact mget_key
theorem row_mem {M : List (Int × Value)} {room : Nat} (o : TOk M room) {y : Int × Int × Int} : y ∈ rowsL M ↔ mget M y.1 = some (hV y.2.1 y.2.2) := by
  unfold rowsL
  rw [List.mem_map]
  constructor
  · rintro ⟨k, hk, rfl⟩
    have h1 := keysL_mem.1 hk
    have h2 := row_el o k
    cases hq : mget M k with
    | none => rw [hq] at h1; simp at h1
    | some v =>
      rw [hq] at h2
      show mget M k = _
      rw [hq]; exact congrArg some h2
  · intro h
    refine ⟨y.1, keysL_mem.2 (by rw [h]; rfl), ?_⟩
    unfold rowOf
    rw [h]; rfl
theorem rows_rise {M : List (Int × Value)} {room : Nat} (o : TOk M room) : Rise (rowsL M) := by
  unfold Rise rowsL
  rw [List.pairwise_map]
  exact sorted_rising o.k.u
theorem find_pos {L : List (Int × Int × Int)} {s : Int} (h : 0 ≤ findR L s) : ∃ i : Nat, findR L s = i ∧ ∃ hi : i < L.length, L[i].1 = s := by
  unfold findR at h ⊢
  cases hq : L.findIdx? (fun x => x.1 == s) with
  | none => rw [hq] at h; simp at h
  | some i =>
    rw [List.findIdx?_eq_some_iff_getElem] at hq
    exact ⟨i, rfl, hq.1, by simpa using hq.2.1⟩
theorem find_iff {M : List (Int × Value)} {room : Nat} (o : TOk M room) {s : Int} : 0 ≤ findR (rowsL M) s ↔ (mget M s).isSome = true := by
  constructor
  · intro h
    obtain ⟨i, _, hi, e⟩ := find_pos h
    have := (row_mem o).1 (List.getElem_mem hi)
    rw [e] at this
    rw [this]; rfl
  · intro h
    refine Classical.byContradiction fun hc => ?_
    cases hq : mget M s with
    | none => rw [hq] at h; simp at h
    | some v =>
      obtain ⟨i, g, hv⟩ := o.el _ (mget_mem hq)
      simp only at hv; subst hv
      exact find_neg (Int.not_le.1 hc) (s, i, g) ((row_mem o).2 hq) rfl
/-- what stands where the find points -/
theorem find_row {M : List (Int × Value)} {room : Nat} (o : TOk M room) {s : Int} (h : (mget M s).isSome = true) : ∃ i : Nat, findR (rowsL M) s = i ∧ (rowsL M)[i]? = some (rowOf M s) := by
  obtain ⟨i, e, hi, e2⟩ := find_pos ((find_iff o).2 h)
  refine ⟨i, e, ?_⟩
  rw [List.getElem?_eq_getElem hi]
  have h1 := (row_mem o).1 (List.getElem_mem hi)
  rw [e2] at h1
  unfold rowOf
  rw [h1, Option.getD_some, dec_h]
  congr 1
  rw [← e2]
theorem rows_put {M : List (Int × Value)} {room : Nat} (o : TOk M room) {s i g : Int} (hs : (Lit.int .i64 s).wf = true) (he : putE M room s g = 0) {L' : List (Int × Int × Int)} (hr : Rise L') (hm : InsM L' (rowsL M) (s, i, g)) : L' = rowsL (putM M room s i g) := by
  have o' := o.put s i g hs
  have hn : mget M s = none := by
    unfold putE at he
    repeat' split at he
    all_goals first | omega | (rename_i h; cases hq : mget M s with | none => rfl | some v => rw [hq] at h; simp at h) | skip
    cases hq : mget M s with
    | none => rfl
    | some v => simp [hq] at *
  refine rise_eq hr (rows_rise o') fun y => ?_
  rw [hm y, row_mem o', row_mem o, putM, if_pos he, mget_put]
  by_cases hy : y.1 = s
  · rw [if_pos hy, hy, hn]
    obtain ⟨a, b, c⟩ := y
    simp only at hy; subst hy
    simp [hV, eq_comm]
  · rw [if_neg hy]
    constructor
    · rintro (e | e)
      · subst e; exact absurd rfl hy
      · exact e
    · exact .inr
theorem TOk.del {M : List (Int × Value)} {room : Nat} (o : TOk M room) (s : Int) : TOk (mdel M s) room :=
  ⟨o.k.del s, o.n1, o.n2, Nat.le_trans (List.length_filter_le _ _) o.le, fun x hx => o.el x (List.mem_filter.1 hx).1⟩
theorem rows_del {M : List (Int × Value)} {room : Nat} (o : TOk M room) {s : Int} {i : Nat} (hi : i < (rowsL M).length) (he : (rowsL M)[i].1 = s) : (rowsL M).take i ++ (rowsL M).drop (i + 1) = rowsL (mdel M s) := by
  have hr := rows_rise o
  have hsp : rowsL M = (rowsL M).take i ++ (rowsL M)[i] :: (rowsL M).drop (i + 1) := by rw [← List.drop_eq_getElem_cons hi, List.take_append_drop]
  have hsub : ((rowsL M).take i ++ (rowsL M).drop (i + 1)).Sublist (rowsL M) := by
    conv => rhs; rw [hsp]
    exact List.Sublist.append (List.Sublist.refl _) (List.sublist_cons_self _ _)
  refine rise_eq (hr.sublist hsub) (rows_rise (o.del s)) fun y => ?_
  rw [row_mem (o.del s), mget_del]
  have hp := hr
  unfold Rise at hp
  rw [hsp, List.pairwise_append, List.pairwise_cons] at hp
  have h1 : ∀ y, y ∈ (rowsL M).take i ++ (rowsL M).drop (i + 1) ↔ y ∈ rowsL M ∧ y.1 ≠ s := fun y => by
    constructor
    · intro hy
      refine ⟨hsub.subset hy, ?_⟩
      rcases List.mem_append.1 hy with e | e
      · have := hp.2.2 y e _ List.mem_cons_self; omega
      · have := hp.2.1.1 y e; omega
    · rintro ⟨hy, hne⟩
      rw [hsp] at hy
      rcases List.mem_append.1 hy with e | e
      · exact List.mem_append_left _ e
      · rcases List.mem_cons.1 e with e | e
        · subst e; exact absurd he hne
        · exact List.mem_append_right _ e
  rw [h1 y, row_mem o]
  by_cases hy : y.1 = s
  · simp [hy]
  · simp [hy]
end Go.Proofs.Ytbgojgnbbkgkgaa
