/- The next serial: the plain law. No program in sight. -/
import Derived.Test.YtbgojgnbbkgkgaaS1
namespace Go.Proofs.Ytbgojgnbbkgkgaa
set_option linter.unusedSimpArgs false
set_option linter.unusedVariables false
open Go.RowKit

/-- the d-th serial from s on -/
def it (d : Nat) (s : Int) : Int := (s - 1 + d) % 1073741824 + 1
theorem it_range (d : Nat) (s : Int) : 1 ≤ it d s ∧ it d s ≤ 1073741824 := by unfold it; omega
theorem it_zero {s : Int} (h1 : 1 ≤ s) (h2 : s ≤ 1073741824) : it 0 s = s := by unfold it; omega
theorem it_succ (d : Nat) (s : Int) : it (d + 1) s = it d s % 1073741824 + 1 := by unfold it; omega
theorem it_inj {d d' : Nat} {s : Int} (hd : d < 1073741824) (hd' : d' < 1073741824) (h : it d s = it d' s) : d = d' := by unfold it at h; omega
theorem sub_len {α : Type} [DecidableEq α] : ∀ (l l' : List α), l.Nodup → (∀ x ∈ l, x ∈ l') → l.length ≤ l'.length := by
  intro l
  induction l with
  | nil => intro l' _ _; simp
  | cons x l ih =>
    intro l' hn hs
    rw [List.nodup_cons] at hn
    have hx : x ∈ l' := hs x (by simp)
    have := ih (l'.erase x) hn.2 (fun y hy => by
      have hne : y ≠ x := fun e => hn.1 (e ▸ hy)
      exact (List.mem_erase_of_ne hne).2 (hs y (by simp [hy])))
    rw [List.length_erase_of_mem hx] at this
    have : 0 < l'.length := List.length_pos_of_mem hx
    simp only [List.length_cons]; omega
theorem mget_key {M : List (Int × Value)} {k : Int} (h : (mget M k).isSome = true) : k ∈ M.map (·.1) := by
  obtain ⟨v, hv⟩ := Option.isSome_iff_exists.1 h
  exact List.mem_map_of_mem (f := (·.1)) (mget_mem hv)
theorem next_is {M : List (Int × Value)} (hl : M.length ≤ 64) (s : Int) : ∃ d, d ≤ M.length ∧ mget M (it d s) = none ∧ ∀ i, i < d → (mget M (it i s)).isSome = true := by
  have hex : ∃ d, d ≤ M.length ∧ mget M (it d s) = none := by
    apply Classical.byContradiction
    intro hc
    have hall : ∀ d, d ≤ M.length → (mget M (it d s)).isSome = true := fun d hd => by
      rcases hm : mget M (it d s) with _ | v
      · exact absurd ⟨d, hd, hm⟩ hc
      · rfl
    have hn : ((List.range (M.length + 1)).map (fun d => it d s)).Nodup := by
      rw [List.nodup_iff_pairwise_ne, List.pairwise_map]
      refine List.Pairwise.imp_of_mem ?_ (List.nodup_iff_pairwise_ne.1 List.nodup_range)
      intro a b ha hb hne e
      have ha' := List.mem_range.1 ha
      have hb' := List.mem_range.1 hb
      exact hne (it_inj (by omega) (by omega) e)
    have := sub_len _ (M.map (·.1)) hn (fun x hx => by
      obtain ⟨d, hd, rfl⟩ := List.mem_map.1 hx
      exact mget_key (hall d (by have := List.mem_range.1 hd; omega)))
    simp at this
    omega
  -- the least one
  have key : ∀ n d, d ≤ n → d ≤ M.length → mget M (it d s) = none → ∃ d, d ≤ M.length ∧ mget M (it d s) = none ∧ ∀ i, i < d → (mget M (it i s)).isSome = true := by
    intro n
    induction n with
    | zero => intro d hd hm h; exact ⟨d, hm, h, fun i hi => by omega⟩
    | succ n ih =>
      intro d hd hm h
      by_cases hh : ∃ i, i < d ∧ mget M (it i s) = none
      · obtain ⟨i, hi, hi'⟩ := hh
        exact ih i (by omega) (by omega) hi'
      · refine ⟨d, hm, h, fun i hi => ?_⟩
        rcases hm' : mget M (it i s) with _ | v
        · exact absurd ⟨i, hi, hm'⟩ hh
        · rfl
  obtain ⟨d, hd, hm⟩ := hex
  exact key d d (Nat.le_refl _) hd hm
/-- the first one from s on that isn't there -/
def IsNext (M : List (Int × Value)) (s : Int) (d : Nat) : Prop := d ≤ M.length ∧ mget M (it d s) = none ∧ ∀ i, i < d → (mget M (it i s)).isSome = true
theorem next_one {M : List (Int × Value)} {s : Int} {d d' : Nat} (h : IsNext M s d) (h' : IsNext M s d') : d = d' := by
  rcases Nat.lt_trichotomy d d' with c | c | c
  · have := h'.2.2 d c; rw [h.2.1] at this; simp at this
  · exact c
  · have := h.2.2 d' c; rw [h'.2.1] at this; simp at this
end Go.Proofs.Ytbgojgnbbkgkgaa
