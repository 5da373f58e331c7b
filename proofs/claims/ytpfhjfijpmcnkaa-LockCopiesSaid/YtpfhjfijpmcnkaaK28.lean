/- Walks: which locks are the same. -/
import Derived.Test.YtpfhjfijpmcnkaaK27
import Derived.Laws.EntriesVeiled
namespace Go.Proofs.Ytpfhjfijpmcnkaa
set_option linter.unusedSimpArgs false
set_option linter.unusedVariables false
open Go.RowKit
attribute [local go_sem ↓] Go.wp_at_zero Go.wp_at_succ
def sameB (L1 L2 : List (Int × Int)) : Bool := decide (L1.length = L2.length) && L1.all (fun s => decide (rowL L1 s.1 = rowL L2 s.1))
theorem count_row (L : List (Int × Int)) (id t : Int) : L.count (id, t) = (rowL L id).count t := by
  unfold rowL
  induction L with
  | nil => rfl
  | cons s L ih =>
    obtain ⟨a, b⟩ := s
    rw [List.count_cons, List.filter_cons]
    by_cases e : a = id
    · subst e
      simp only [beq_self_eq_true, if_true, List.map_cons, List.count_cons, ih]
      congr 1
      by_cases h : b = t
      · subst h; simp
      · simp [h]
    · simp [e, ih]
theorem rows_perm {L1 L2 : List (Int × Int)} (h : ∀ id, rowL L1 id = rowL L2 id) : L1.Perm L2 := by
  rw [List.perm_iff_count]
  rintro ⟨id, t⟩
  rw [count_row, count_row, h]
theorem row_nil {L : List (Int × Int)} {id : Int} (h : ∀ s ∈ L, s.1 ≠ id) : rowL L id = [] := by
  unfold rowL
  rw [List.filter_eq_nil_iff.2 (by intro s hs; simpa using h s hs)]; rfl
theorem same_iff {L1 L2 : List (Int × Int)} : sameB L1 L2 = true ↔ ∀ id, rowL L1 id = rowL L2 id := by
  unfold sameB
  simp only [Bool.and_eq_true, decide_eq_true_eq, List.all_eq_true]
  constructor
  · rintro ⟨hl, ha⟩ id
    by_cases hin : ∃ s ∈ L1, s.1 = id
    · obtain ⟨s, hs, rfl⟩ := hin
      exact ha s hs
    · have h1 : rowL L1 id = [] := row_nil (fun s hs e => hin ⟨s, hs, e⟩)
      rw [h1]
      let p : Int × Int → Bool := fun s => (L1.map (·.1)).contains s.1
      have hp : L1.Perm (L2.filter p) := by
        rw [List.perm_iff_count]
        rintro ⟨i, t⟩
        by_cases hi : ∃ s ∈ L1, s.1 = i
        · have hpi : p (i, t) = true := by
            obtain ⟨s, hs, rfl⟩ := hi
            simp only [p, List.contains_eq_mem, decide_eq_true_eq]
            exact List.mem_map_of_mem (f := fun x : Int × Int => x.1) hs
          rw [List.count_filter hpi, count_row, count_row]
          obtain ⟨s, hs, rfl⟩ := hi
          rw [ha s hs]
        · rw [count_row, row_nil (fun s hs e => hi ⟨s, hs, e⟩)]
          symm
          rw [List.count_nil, List.count_eq_zero]
          intro hm
          have := (List.mem_filter.1 hm).2
          simp only [p, List.contains_eq_mem, decide_eq_true_eq] at this
          obtain ⟨s, hs, e⟩ := List.mem_map.1 this
          exact hi ⟨s, hs, e⟩
      have hlen : (L2.filter p).length = L2.length := by rw [← hp.length_eq, hl]
      have hall := List.length_filter_eq_length_iff.1 hlen
      symm
      refine row_nil (fun s hs e => ?_)
      have := hall s hs
      simp only [p, List.contains_eq_mem, decide_eq_true_eq] at this
      obtain ⟨s', hs', e'⟩ := List.mem_map.1 this
      exact hin ⟨s', hs', e'.trans e⟩
  · intro h
    exact ⟨(rows_perm h).length_eq, fun s _ => h s.1⟩
theorem same_comm (L1 L2 : List (Int × Int)) : sameB L1 L2 = sameB L2 L1 := by
  rw [Bool.eq_iff_iff, same_iff, same_iff]
  exact ⟨fun h id => (h id).symm, fun h id => (h id).symm⟩
theorem same_self (L : List (Int × Int)) : sameB L L = true := same_iff.2 (fun _ => rfl)
theorem nodup_sub {l l' : List Int} (h : l.Nodup) (hs : ∀ x ∈ l, x ∈ l') (hl : l'.length ≤ l.length) : ∀ x ∈ l', x ∈ l := by
  intro x hx
  by_cases hin : x ∈ l
  · exact hin
  · exfalso
    have h1 : (x :: l).Nodup := List.nodup_cons.2 ⟨hin, h⟩
    have := nodup_len h1 (l' := l') (fun y hy => by
      rcases List.mem_cons.1 hy with e | h
      · subst e; exact hx
      · exact hs y h)
    rw [List.length_cons] at this
    omega
section
variable {w w' : World} {p m n p1 m1 p2 m2 q : Nat} {M M1 M2 : List (Int × Value)} {v v1 v2 : Value} {L L1 L2 : List (Int × Int)} {l l' : List Int}
theorem key_row (h : LAt w p m n M L) {id : Int} : (mget M id).isSome = true ↔ rowL L id ≠ [] := by
  constructor
  · exact h.ne id
  · intro hr
    cases hg : mget M id with
    | none => exact absurd (h.none hg) hr
    | some v => rfl
theorem key_mem {M : List (Int × Value)} {id : Int} : (mget M id).isSome = true ↔ id ∈ M.map (·.1) := by
  constructor
  · intro h
    cases hg : mget M id with
    | none => rw [hg] at h; cases h
    | some v => exact List.mem_map.2 ⟨_, mget_mem hg, rfl⟩
  · intro h
    cases hg : mget M id with
    | none =>
      obtain ⟨x, hx, e⟩ := List.mem_map.1 h
      exact absurd e (mget_none.1 hg x hx)
    | some v => rfl
/-- all keys of the one with the same rows: the same, if there are as many -/
theorem same_of (h1 : LAt w p1 m1 n M1 L1) (h2 : LAt w p2 m2 n M2 L2) (hl : M1.length = M2.length) (hk : ∀ id, (mget M1 id).isSome = true → rowL L1 id = rowL L2 id) : sameB L1 L2 = true := by
  rw [same_iff]
  intro id
  by_cases hi : (mget M1 id).isSome = true
  · exact hk id hi
  · have e1 : rowL L1 id = [] := by
      by_cases h : rowL L1 id = []
      · exact h
      · exact absurd ((key_row h1).2 h) hi
    rw [e1]; symm
    by_cases e2 : rowL L2 id = []
    · exact e2
    · exfalso
      have := nodup_sub (l := M1.map (·.1)) (l' := M2.map (·.1)) h1.k.u (fun x hx => key_mem.1 ((key_row h2).2 (by
        have hx' := key_mem.2 hx
        rw [← hk x hx']; exact (key_row h1).1 hx'))) (by simp [hl]) id (key_mem.1 ((key_row h2).2 e2))
      exact hi (key_mem.2 this)
theorem same_len (h1 : LAt w p1 m1 n M1 L1) (h2 : LAt w p2 m2 n M2 L2) (hs : sameB L1 L2 = true) : M1.length = M2.length := by
  rw [same_iff] at hs
  have a := nodup_len (l := M1.map (·.1)) (l' := M2.map (·.1)) h1.k.u (fun x hx => key_mem.1 ((key_row h2).2 (by rw [← hs]; exact (key_row h1).1 (key_mem.2 hx))))
  have b := nodup_len (l := M2.map (·.1)) (l' := M1.map (·.1)) h2.k.u (fun x hx => key_mem.1 ((key_row h1).2 (by rw [hs]; exact (key_row h2).1 (key_mem.2 hx))))
  simp at a b; omega
theorem keys_len (h : LAt w p m n M L) : M.length ≤ L.length := by
  have := nodup_len (l := M.map (·.1)) (l' := L.map (·.1)) h.k.u (fun x hx => by
    have hr := (key_row h).1 (key_mem.2 hx)
    by_cases hin : ∃ s ∈ L, s.1 = x
    · obtain ⟨s, hs, rfl⟩ := hin; exact List.mem_map_of_mem (f := fun x : Int × Int => x.1) hs
    · exact absurd (row_nil (fun s hs e => hin ⟨s, hs, e⟩)) hr)
  simpa using this
end
end Go.Proofs.Ytpfhjfijpmcnkaa
