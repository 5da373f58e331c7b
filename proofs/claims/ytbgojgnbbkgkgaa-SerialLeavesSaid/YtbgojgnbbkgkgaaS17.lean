/- Walks through the document's table: Find. -/
import Derived.Test.YtbgojgnbbkgkgaaS16
import Derived.Test.YtbgojgnbbkgkgaaLibU
import Derived.Test.YtbgojgnbbkgkgaaLibD
import Derived.Lib.AppendZeros
namespace Go.Proofs.Ytbgojgnbbkgkgaa
set_option linter.unusedSimpArgs false
set_option linter.unusedVariables false
open Go.RowKit Go.Shelf
attribute [local go_sem ↓] Go.wp_at_zero Go.wp_at_succ
def eR (x : Int × Int × Int) : List Value := [.int .i64 x.1, .int .i64 x.2.1, .int .u64 x.2.2]
theorem eR_len (x : Int × Int × Int) : (eR x).length = 3 := rfl
theorem sl44 : Try.prog.underlying 44 = some (.slice 56) := by kernel_rfl
theorem i56 : (Try.prog.info? 56).map (fun i => (i.zero, i.size, i.bytes)) = some (some (.agg #[.int .i64 0, .int .i64 0, .int .u64 0]), 3, 24) := by kernel_rfl
theorem oneR (l : List (Int × Int × Int)) : ∀ u ∈ l.flatMap eR, u.oneCell' = true := by
  intro u hu; simp [eR] at hu; obtain ⟨a, b, c, _, rfl | rfl | rfl⟩ := hu <;> rfl
structure RAt (w : World) (q room : Nat) (v : Value) (L : List (Int × Int × Int)) : Prop where
  hq : w.heap[q]? = some (.cells #[v, .int .i64 room] 46 (0, 0))
  hv : RowAt w 56 eR 3 v L
def findR (L : List (Int × Int × Int)) (s : Int) : Int := match L.findIdx? (fun x => x.1 == s) with | some i => i | none => -1
section
variable {w w' : World} {q room : Nat} {v : Value} {L : List (Int × Int × Int)}
theorem RAt.kn (h : RAt w q room v L) (k : Kp NoB w w') : RAt w' q room v L := ⟨k.get h.hq (fun h => h), h.hv.kp k (fun _ _ h => h)⟩
theorem RAt.ne (h : RAt w q room v L) : v.ownBlock ≠ some q := h.hv.ne h.hq (by decide)
theorem RAt.cells (h : RAt w q room v L) {k : Nat} {x y z : Int} (hk : L[k]? = some (x, y, z)) : ∃ b c, v = .slice (some ⟨b, 0, none⟩) L.length c ∧ L.length ≤ c ∧ ∀ W, Kp NoB w W → W.cell? ⟨b, k * 3, none⟩ = some (.int .i64 x) ∧ W.cell? ⟨b, k * 3 + 1, none⟩ = some (.int .i64 y) ∧ W.cell? ⟨b, k * 3 + 2, none⟩ = some (.int .u64 z) := by
  obtain ⟨b, c, A, hv, hb, hA, hc, _⟩ := h.hv.pos eR_len (by have := (List.getElem?_eq_some_iff.1 hk).1; omega)
  refine ⟨b, c, hv, hc, fun W kW => ?_⟩
  have hb' := kW.get hb (fun h => h)
  exact ⟨by rw [cell_of hb']; exact hA k 0 _ hk (by omega), by rw [cell_of hb']; exact hA k 1 _ hk (by omega), by rw [cell_of hb']; exact hA k 2 _ hk (by omega)⟩
theorem find_at' {s : Int} {j : Nat} (hj : j < L.length) (h1 : L[j].1 = s) (h0 : ∀ k (hk : k < L.length), k < j → L[k].1 ≠ s) : findR L s = j := by
  have : L.findIdx? (fun x => x.1 == s) = some j := by
    rw [List.findIdx?_eq_some_iff_getElem]
    exact ⟨hj, by simpa using h1, fun k hk => by simpa using h0 k (by omega) hk⟩
  simp [findR, this]
theorem find_none' {s : Int} (h0 : ∀ k (hk : k < L.length), L[k].1 ≠ s) : findR L s = -1 := by
  have : L.findIdx? (fun x => x.1 == s) = none := by
    rw [List.findIdx?_eq_none_iff]
    intro x hx
    obtain ⟨k, hk, rfl⟩ := List.getElem_of_mem hx
    simpa using h0 k hk
  simp [findR, this]
set_option maxRecDepth 100000 in
set_option maxHeartbeats 2000000 in
theorem find_any (h : RAt w q room v L) (n2 : L.length ≤ 4000) (s : Int) :
    Calls Try.prog 29 #[.pointer (some ⟨q, 0, none⟩), .int .i64 s] w fun e w' => e = .returned (.int .i64 (findR L s)) ∧ w = w' := by
  obtain ⟨ov, cv, hvv, _⟩ := h.hv.form
  subst hvv
  have H0 := hid h
  have Lp := loc2 h.hq
  clear h
  go_enter Try.func29, Try.ntmps29
  go_wp2_with fail
  go_loop [5] (fun i => ∃ j : Nat, j ≤ L.length ∧ i = .int .i64 j ∧ Hid (∀ k (hk : k < L.length), k < j → L[k].1 ≠ s)) (fun i => L.length - (intOf i).toNat)
  case atStart => exact ⟨0, Nat.zero_le _, rfl, hid (by intro k hk h; omega)⟩
  case round =>
    obtain ⟨j, hj, rfl, hT⟩ := hrel
    have b3 : (0 : Int) ≤ (j : Int) := Int.natCast_nonneg _
    by_cases hlt : j < L.length
    · have b4 : (j : Int) < (L.length : Int) := by omega
      have hk : L[j]? = some L[j] := List.getElem?_eq_getElem hlt
      obtain ⟨⟨x, y, z⟩, hxy⟩ : ∃ s, L[j] = s := ⟨_, rfl⟩
      rw [hxy] at hk
      obtain ⟨b, c', hv', hcc, hcell⟩ := H0.out.cells hk
      injection hv' with hv1 _ hv3
      subst hv1; subst hv3
      have Le := hcell _ (Kp.refl _ _)
      have hcc' : (L.length : Int) ≤ (cv : Int) := by omega
      replace hcell := hid hcell
      replace hxy := hid hxy
      replace hk := hid hk
      by_cases hx : x = s
      · subst hx
        go_wp2_with fail
        go_ret
        exact ⟨by rw [find_at' hlt (by rw [hxy.out]) hT.out]; rfl, rfl⟩
      · have hxb : (x == s) = false := by simpa using hx
        have hx' := hid hx
        clear hx
        go_wp2_with fail
        go_round
        case rel => exact ⟨j + 1, by omega, by go_num, hid (by
          intro k hk h
          by_cases e : k = j
          · subst e; rw [hxy.out]; exact hx'.out
          · exact hT.out k hk (by omega))⟩
        case measure => simp [intOf]; omega
    · obtain rfl : j = L.length := by omega
      go_wp2_with fail
      go_ret
      exact ⟨by rw [find_none' (fun k hk => hT.out k hk hk)]; rfl, rfl⟩
end
end Go.Proofs.Ytbgojgnbbkgkgaa
