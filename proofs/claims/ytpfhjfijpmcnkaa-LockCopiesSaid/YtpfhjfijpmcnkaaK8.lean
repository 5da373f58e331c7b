/- Walks through the document's locks: a row, who is first. -/
import Derived.Test.YtpfhjfijpmcnkaaK7
namespace Go.Proofs.Ytpfhjfijpmcnkaa
set_option linter.unusedSimpArgs false
set_option linter.unusedVariables false
open Go.RowKit
attribute [local go_sem ↓] Go.wp_at_zero Go.wp_at_succ
def eI (x : Int) : List Value := [.int .i64 x]
theorem eI_len (x : Int) : (eI x).length = 1 := rfl
def eP (x : Int × Int) : List Value := [.int .i64 x.1, .int .i64 x.2]
theorem eP_len (x : Int × Int) : (eP x).length = 2 := rfl
theorem sl31 : Try.prog.underlying 31 = some (.slice 3) := u31
theorem sl61 : Try.prog.underlying 61 = some (.slice 65) := by kernel_rfl
theorem i65 : (Try.prog.info? 65).map (fun i => (i.zero, i.size, i.bytes)) = some (some (.agg #[.int .i64 0, .int .i64 0]), 2, 16) := by kernel_rfl
theorem one3 (l : List Int) : ∀ u ∈ l.flatMap eI, u.oneCell' = true := by
  intro u hu; simp [eI] at hu; obtain ⟨x, _, rfl⟩ := hu; rfl
theorem oneP (l : List (Int × Int)) : ∀ u ∈ l.flatMap eP, u.oneCell' = true := by
  intro u hu; simp [eP] at hu; obtain ⟨x, y, _, rfl | rfl⟩ := hu <;> rfl
/-- the document's locks: the struct at q, the list in v -/
structure RAt (w : World) (q n : Nat) (v : Value) (L : List (Int × Int)) : Prop where
  hq : w.heap[q]? = some (.cells #[.int .i64 n, v] 63 (0, 0))
  hv : RowAt w 65 eP 2 v L
section
variable {w w' : World} {q n : Nat} {v : Value} {L : List (Int × Int)}
theorem RAt.kn (h : RAt w q n v L) (k : Kp NoB w w') : RAt w' q n v L := ⟨k.get h.hq (fun h => h), h.hv.kp k (fun _ _ h => h)⟩
theorem RAt.ne (h : RAt w q n v L) : v.ownBlock ≠ some q := h.hv.ne h.hq (by decide)
theorem RAt.cells (h : RAt w q n v L) {k : Nat} {x y : Int} (hk : L[k]? = some (x, y)) : ∃ b c, v = .slice (some ⟨b, 0, none⟩) L.length c ∧ L.length ≤ c ∧ ∀ W, Kp NoB w W → W.cell? ⟨b, k * 2, none⟩ = some (.int .i64 x) ∧ W.cell? ⟨b, k * 2 + 1, none⟩ = some (.int .i64 y) := by
  obtain ⟨b, c, A, hv, hb, hA, hc, _⟩ := h.hv.pos eP_len (by have := (List.getElem?_eq_some_iff.1 hk).1; omega)
  refine ⟨b, c, hv, hc, fun W kW => ?_⟩
  have hb' := kW.get hb (fun h => h)
  exact ⟨by rw [cell_of hb']; exact hA k 0 _ hk (by omega), by rw [cell_of hb']; exact hA k 1 _ hk (by omega)⟩
set_option maxRecDepth 100000 in
set_option maxHeartbeats 4000000 in
theorem row_any (h : RAt w q n v L) (n2 : L.length ≤ 4000) (id : Int) :
    Calls Try.prog 16 #[.pointer (some ⟨q, 0, none⟩), .int .i64 id] w fun e w' => ∃ v', e = .returned v' ∧ Rs 3 w' v' (rowL L id) ∧ Kp NoB w w' := by
  obtain ⟨ov, cv, hvv, _⟩ := h.hv.form
  subst hvv
  have H0 := hid h
  clear h
  go_enter Try.func16, Try.ntmps16
  go_wp2_with fail
  go_loopw [5, 6] (fun a i W => ∃ j : Nat, j ≤ L.length ∧ i = .int .i64 j ∧ RowAt W 3 eI 1 a (rowL (L.take j) id) ∧ (∀ b, a.ownBlock = some b → w.heap.size ≤ b) ∧ Kp NoB w W) (fun _ i _ => L.length - (intOf i).toNat)
  case atStart => exact ⟨0, Nat.zero_le _, rfl, by simpa [rowL] using RowAt.nil w 3 eI 1, by simp [Value.ownBlock], Kp.refl _ _⟩
  case round =>
    obtain ⟨j, hj, rfl, hR, hO, hK⟩ := hrel
    have hA := H0.out.kn hK
    have Lp := loc2 hA.hq
    have b3 : (0 : Int) ≤ (j : Int) := Int.natCast_nonneg _
    by_cases hlt : j < L.length
    · have b4 : (j : Int) < (L.length : Int) := by omega
      have hk : L[j]? = some L[j] := List.getElem?_eq_getElem hlt
      obtain ⟨⟨x, y⟩, hxy⟩ : ∃ s, L[j] = s := ⟨_, rfl⟩
      rw [hxy] at hk
      obtain ⟨b, c', hv', hcc, hcell⟩ := H0.out.cells hk
      injection hv' with hv1 _ hv3
      subst hv1; subst hv3
      have Le := hcell _ hK
      have hcc' : (L.length : Int) ≤ (cv : Int) := by omega
      have htk : rowL (L.take (j + 1)) id = rowL (L.take j) id ++ (if x = id then [y] else []) := by
        rw [List.take_add_one, hk]
        simp only [Option.toList_some]
        rw [row_app]
        split
        · rename_i e; rw [if_pos e.symm]
        · rename_i e; rw [if_neg (fun h => e h.symm)]; simp
      have hlR := row_len (L.take j) id
      have hlR2 : (L.take j).length ≤ L.length := by rw [List.length_take]; omega
      replace hk := hid hk
      replace hxy := hid hxy
      replace hcell := hid hcell
      replace hA := hid hA
      replace htk := hid htk
      generalize hrr : rowL (L.take j) id = R at *
      replace hrr := hid hrr
      by_cases hx : x = id
      · subst hx
        obtain ⟨oa, ca, hav, hac, _⟩ := hR.form
        subst hav
        have hRa := hid (hR.alloc (.cells #[.int .i64 y] 3))
        have hR0 := hid hR
        clear hR
        go_wp2_with (at_builtin; refine wpList_plain rfl fun K hK' => ?_; refine wp_grow eI_len (by omega) _ _ 31 3 _ 8 rfl sl31 i3 rfl (.slice oa R.length ca) R rfl hRa.out wr.heap.size 1 [y] rfl #[.int .i64 y] 3 (blk_new _ _) (by intro a j x ha hj; match a, j, ha with | 0, 0, ha => simp at ha; subst ha; rfl) (one3 _) (by simp; omega) (by omega) ?_; intro v' w' q1 q2 q3; refine hK' _ _ ?_; clear hK' K)
        go_roundw
        case rel => exact ⟨j + 1, by omega, by go_num, by rw [htk.out]; simpa using q1, fun b' hb' => by
            rcases q3 with o | ⟨b2, o, h2⟩
            · exact hO b' (o ▸ hb')
            · rw [hb'] at o; injection o with o; subst o; exact Nat.le_trans (hK.alloc (.cells #[.int .i64 y] 3)).size h2,
          (hK.alloc (.cells #[.int .i64 y] 3)).trans' (kp_grown (F := fun b => (Value.slice oa R.length ca).ownBlock = some b) q2 (fun b hb => hb)) (fun b hb hg => absurd hb (by have := hO b hg; omega))⟩
        case measure => simp [intOf]; omega
      · have hxb : (x == id) = false := by simpa using hx
        have hx' := hid hx
        clear hx
        go_wp2_with fail
        go_roundw
        case rel => exact ⟨j + 1, by omega, by go_num, by rw [htk.out, if_neg hx'.out]; simpa using hR, hO, hK⟩
        case measure => simp [intOf]; omega
    · obtain rfl : j = L.length := by omega
      replace hA := hid hA
      rw [List.take_length] at hR
      go_wp2_with fail
      go_ret
      exact ⟨_, rfl, hR.rs, hK⟩
set_option maxRecDepth 100000 in
theorem rhas_any (h : RAt w q n v L) (n2 : L.length ≤ 4000) (t id : Int) :
    Calls Try.prog 37 #[.pointer (some ⟨q, 0, none⟩), .int .i64 t, .int .i64 id] w fun e w' => e = .returned (.bool (hasB L t id)) ∧ Kp NoB w w' := by
  have HR := hid (row_any h n2 id)
  clear h
  unfold hasB
  cases hr : rowL L id with
  | nil =>
    rw [hr] at HR
    go_enter Try.func37, Try.ntmps37
    go_wp2_with fail
    refine HR.out.mono ?_
    rintro e w1 ⟨v', rfl, q1, k1⟩
    obtain ⟨o, c, rfl, _⟩ := q1.form
    go_wp2_with fail
    go_ret
    exact ⟨rfl, k1⟩
  | cons x r =>
    rw [hr] at HR
    simp only [isL, hdL, Bool.true_and]
    go_enter Try.func37, Try.ntmps37
    go_wp2_with fail
    refine HR.out.mono ?_
    rintro e w1 ⟨v', rfl, q1, k1⟩
    obtain ⟨b, f, c, rfl, hc, _, hcell⟩ := q1.cells (by simp)
    have Le := hcell _ (Kp.refl _ _) 0 x rfl
    rw [Nat.add_zero] at Le
    simp only [List.length_cons] at hc
    have b1 : (0 : Int) < (r.length : Int) + 1 := by omega
    replace q1 := hid q1
    simp only [List.length_cons]
    clear hcell
    go_wp2_with fail
    go_ret
    exact ⟨rfl, k1⟩
end
end Go.Proofs.Ytpfhjfijpmcnkaa
