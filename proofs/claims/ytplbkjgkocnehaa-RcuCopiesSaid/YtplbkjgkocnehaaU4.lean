/- Walks: slices.Sorted over a map's keys. -/
import Derived.Test.YtplbkjgkocnehaaU3
import Derived.Test.YtplbkjgkocnehaaUS
namespace Go.Proofs.Ytplbkjgkocnehaa
set_option linter.unusedSimpArgs false
set_option linter.unusedVariables false
open Go.RowKit Go.Shelf
attribute [local go_sem ↓] Go.wp_at_zero Go.wp_at_succ
theorem sort_any {w : World} {v : Value} {l : List Int} (h : RowAt w 3 eI 1 v l) (hl : l.length ≤ 1000000) :
    Calls Try.prog 55 #[v] w fun en w' => en = .returned (.tuple #[]) ∧ RowAt w' 3 eI 1 v (l.mergeSort le2) ∧ Kp (fun b => v.ownBlock = some b) w w' := sort_row Try.sortA h hl
/-- what has the same, each once, is the same sorted -/
theorem sorted_one {l l' : List Int} (h : l.Nodup) (h' : l'.Nodup) (e : ∀ x, x ∈ l ↔ x ∈ l') : l.mergeSort le2 = l'.mergeSort le2 :=
  rising_eq (sorted_rising h) (sorted_rising h') (fun x => by rw [mem_sorted, mem_sorted]; exact e x)
def keysL (M : List (Int × Value)) : List Int := (M.map (·.1)).mergeSort le2
section
variable {w w' : World} {m c : Nat} {M : List (Int × Value)}
set_option maxRecDepth 100000 in
theorem sorted_any (hm : MapAt .i64 w m M) (hk : MOk .i64 M) (hc : w.heap[c]? = some (.cells #[.map (some m)] 71 (0, 0))) (hl : M.length ≤ 100000) :
    Calls Try.prog 39 #[.func (.func 56) #[] #[.pointer (some ⟨c, 0, none⟩)]] w fun e w' => ∃ v, e = .returned v ∧ RowAt w' 3 eI 1 v (keysL M) ∧ (∀ b, v.ownBlock = some b → w.heap.size ≤ b) ∧ Kp NoB w w' := by
  have HC := hid (collect_any (keys_seq hm hk hc) (enters_of Try.func56 (by kernel_rfl) rfl) hl)
  have hku := hid hk.u
  have hml : (M.map (·.1)).length ≤ 100000 := by simpa using hl
  clear hm hk hc
  go_enter Try.func39, Try.ntmps39
  go_wp2_with fail
  refine HC.out.mono ?_
  rintro e w1 ⟨v, xs, rfl, hS, hR, hO, k⟩
  have hxl := nodup_len hS.1 (fun x hx => (hS.2 x).1 hx)
  have HSt := hid (sort_any hR (by omega))
  have hE := hid (show xs.mergeSort le2 = keysL M from sorted_one hS.1 hku.out hS.2)
  obtain ⟨o, c, hv, _⟩ := hR.form
  subst hv
  replace hR := hid hR
  replace hS := hid hS
  have hO' := hid hO
  clear hO
  go_wp2_with fail
  refine HSt.out.mono ?_
  rintro e w2 ⟨rfl, q, k2⟩
  rw [hE.out] at q
  replace q := hid q
  go_wp2_with fail
  go_ret
  exact ⟨_, rfl, q.out, hO'.out, k.trans' k2 (fun b hb e => absurd (hO'.out b e) (by omega))⟩
end
end Go.Proofs.Ytplbkjgkocnehaa
