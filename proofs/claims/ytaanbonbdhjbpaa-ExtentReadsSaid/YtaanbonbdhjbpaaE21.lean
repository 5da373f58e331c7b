/- A payload that was written, as steps that go; bytes as strings. -/
import Derived.Test.YtaanbonbdhjbpaaE20
import Derived.Laws.BytesArg
namespace Go.Proofs.Ytaanbonbdhjbpaa
set_option linter.unusedSimpArgs false
set_option linter.unusedVariables false
open Go.RowKit
attribute [local go_sem ↓] Go.wp_at_zero Go.wp_at_succ
def stH (Ms : List (Int × Int)) (j : Nat) : Int × Int := (Ms[j]?).getD (0, 0)
def lnB (L : List Int) (j : Nat) : Nat := min 16 (L.length - 16 * j)
def atB (L : List Int) (j i : Nat) : Int := (L[16 * j + i]?).getD 0
theorem mm_take (L : List Int) (j : Nat) : MM (lnB L) (atB L) j = L.take (16 * j) := by
  induction j with
  | zero => rfl
  | succ j ih =>
    rw [MM, ih, show 16 * (j + 1) = 16 * j + 16 from by omega, List.take_add]
    congr 1
    apply List.ext_getElem?
    intro i
    by_cases hi : i < lnB L j
    · have h16 : i < 16 := by unfold lnB at hi; omega
      have hl : 16 * j + i < L.length := by unfold lnB at hi; omega
      rw [List.getElem?_map, List.getElem?_range hi, List.getElem?_take_of_lt h16, List.getElem?_drop, List.getElem?_eq_getElem hl]
      simp [atB, List.getElem?_eq_getElem hl]
    · rw [List.getElem?_eq_none (by simpa using hi), List.getElem?_eq_none (by simp; unfold lnB at hi; omega)]
section
variable {w w' : World} {q p l N B0 r : Nat} {Hs : List (Int × Int)} {L : List Int}
theorem wg_tr (h : Wg w q p l N (pcs L) B0 (pcs L).length r Hs) (hl : L.length ≤ 256) : ∃ v S B E, AAt w p l v S B E ∧ AOk S B E ∧ Tr S (stH Hs.reverse) (lnB L) (atB L) (pcs L).length ∧ Hs.reverse.length = (pcs L).length := by
  obtain ⟨v, S, B, E, lv, mv, A, I, hN, hrm, W, hH, hi', R, hG, hF⟩ := h
  refine ⟨v, S, B, E, A, I.ok, ⟨fun k hk => ?_, fun k hk => ?_, fun k hk => ?_, ?_⟩, by simpa using hH⟩
  · have hkl : Hs.length - 1 - k < Hs.length := by omega
    obtain ⟨hh, hg⟩ : ∃ hh, Hs[Hs.length - 1 - k]? = some hh := ⟨_, List.getElem?_eq_getElem hkl⟩
    have hr : Hs.reverse[k]? = some hh := by rw [List.getElem?_reverse (by omega)]; exact hg
    obtain ⟨j, x, e, hx, hj⟩ := R.1 _ hh hg
    have hst : stH Hs.reverse k = hh := by unfold stH; rw [hr]; rfl
    have hxp : x = pc L k := by
      have := pcs_get L (k := k) (by rw [pcs_len] at hk; exact hk)
      rw [show (pcs L).length - 1 - (Hs.length - 1 - k) = k from by omega, this] at hx
      injection hx with hx; exact hx.symm
    refine ⟨j, by rw [hst]; exact e, by rw [hst]; exact (hG j _ hj).2, ?_⟩
    rw [hst, hj]
    have hlk : lnk x (Hs.take (Hs.length - 1 - k)) = mkE (lnB L k) (atB L k) (stH Hs.reverse (k + 1)).1 (stH Hs.reverse (k + 1)).2 := by
      subst hxp
      unfold lnk stH
      by_cases h0 : k + 1 < Hs.length
      · rw [List.getElem?_reverse h0, List.getLast?_eq_getElem?, List.length_take, List.getElem?_take_of_lt (by omega)]
        rw [show min (Hs.length - 1 - k) Hs.length - 1 = Hs.length - 1 - (k + 1) from by omega]
        rw [List.getElem?_eq_getElem (by omega)]
        rfl
      · rw [show Hs.length - 1 - k = 0 from by omega, List.take_zero, List.getElem?_eq_none (by simp; omega)]
        rfl
    rw [hlk]
  · rw [pcs_len] at hk; unfold need at hk; unfold lnB; omega
  · unfold lnB; omega
  · rw [mm_take, List.length_take]; omega
/-- []byte to string -/
theorem sl22c : Try.prog.underlying 22 = some (.slice 5) := by kernel_rfl
theorem u5c : Try.prog.underlying 5 = some (.int .u8) := by kernel_rfl
theorem u9c : Try.prog.underlying 9 = some .string := by kernel_rfl
theorem conv_row {v : Value} (h : RowAt w 5 eB 1 v L) : (convert 22 9 v).run Try.prog w = .ok (.string (strOfNums L)) w := by
  rcases h.sl eB_len (by omega) with ⟨rfl, rfl⟩ | ⟨b, o, c, A, rfl, h2, h3, h4⟩
  · rw [run_convert_bytes_nil w 22 5 sl22c u5c 0 0 9 u9c]; rfl
  · refine run_convert_bytes_arg w 22 5 sl22c u5c b o L.length c L rfl (fun i hi => ?_) 9 u9c
    rw [cell_of h2]
    refine h3 i _ ?_
    rw [flatB, List.getElem?_map, List.getElem?_eq_getElem hi]
    simp [List.getD, List.getElem?_eq_getElem hi]
end
end Go.Proofs.Ytaanbonbdhjbpaa
