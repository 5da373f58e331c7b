/- Walks through the document's locks: Try, New; two lists the same. -/
import Derived.Test.YtpfhjfijpmcnkaaK9
namespace Go.Proofs.Ytpfhjfijpmcnkaa
set_option linter.unusedSimpArgs false
set_option linter.unusedVariables false
open Go.RowKit
attribute [local go_sem ↓] Go.wp_at_zero Go.wp_at_succ
theorem has_try {n : Nat} {L : List (Int × Int)} {t id : Int} (h : okL n t id) : hasB (tryL n L t id) t id = tryB n L t id := by
  have ht : t ∈ rowL (tryL n L t id) id := by
    unfold tryL
    split
    · rw [row_app, if_pos rfl]; simp
    · rename_i hc
      exact Classical.byContradiction fun hn => hc ⟨h, hn⟩
  unfold hasB tryB
  cases hr : rowL (tryL n L t id) id with
  | nil => rw [hr] at ht; simp at ht
  | cons x r => simp [isL, h]
section
variable {w w' : World} {p m q n : Nat} {M : List (Int × Value)} {v : Value} {L : List (Int × Int)} {l l' : List Int}
theorem rnew_any (w : World) {n : Nat} (n1 : 1 ≤ n) (n2 : n ≤ 8) : Calls Try.prog 27 #[.int .i64 n] w fun e w' => e = .returned (.tuple #[.pointer (some ⟨w.heap.size, 0, none⟩), .int .i64 0]) ∧ RAt w' w.heap.size n (.slice none 0 0) [] ∧ Kp NoB w w' := by
  have b1 : (1 : Int) ≤ n := by omega
  have b2 : (n : Int) ≤ 8 := by omega
  go_enter Try.func27, Try.ntmps27
  go_wp2_with fail
  go_ret2
  exact ⟨rfl, ⟨blk_new _ _, RowAt.nil _ _ _ _⟩, (Kp.refl _ w).alloc _⟩
theorem rnew_no (w : World) {n : Int} (hn : ¬ (1 ≤ n ∧ n ≤ 8)) : Calls Try.prog 27 #[.int .i64 n] w fun e w' => e = .returned (.tuple #[.pointer none, .int .i64 2]) ∧ w = w' := by
  rcases (by omega : n < 1 ∨ (¬ n < 1 ∧ 8 < n)) with h | ⟨h, h'⟩
  all_goals
    go_enter Try.func27, Try.ntmps27
    go_wp2_with fail
    go_ret2
    exact ⟨rfl, rfl⟩
set_option maxRecDepth 100000 in
set_option maxHeartbeats 2000000 in
theorem rtry_no (h : RAt w q n v L) {t id : Int} (ho : ¬ okL n t id) : Calls Try.prog 33 #[.pointer (some ⟨q, 0, none⟩), .int .i64 t, .int .i64 id] w fun e w' => e = .returned (.bool false) ∧ w = w' := by
  have L0 : w.cell? ⟨q, 0, none⟩ = some (.int .i64 n) := by rw [cell_of h.hq]; rfl
  clear h
  rcases (show t < 0 ∨ (0 ≤ t ∧ (n : Int) ≤ t) ∨ (0 ≤ t ∧ t < n ∧ id < 0) from by unfold okL at ho; omega) with h1 | ⟨h1, h2⟩ | ⟨h1, h2, h3⟩
  all_goals
    clear ho
    go_enter Try.func33, Try.ntmps33
    go_wp2_with fail
    go_ret
    exact ⟨rfl, rfl⟩
set_option maxRecDepth 100000 in
set_option maxHeartbeats 4000000 in
theorem rtry_yes (h : RAt w q n v L) (n2 : L.length ≤ 3999) {t id : Int} (ho : okL n t id) : Calls Try.prog 33 #[.pointer (some ⟨q, 0, none⟩), .int .i64 t, .int .i64 id] w fun e w' => e = .returned (.bool (tryB n L t id)) ∧ ∃ v', RAt w' q n v' (tryL n L t id) ∧ Kp (· = q) w w' := by
  have HR := hid (row_any h (by omega) id)
  have H0 := hid h
  have L0 : w.cell? ⟨q, 0, none⟩ = some (.int .i64 n) := by rw [cell_of h.hq]; rfl
  have hlr := row_len L id
  have hht := has_try (L := L) ho
  obtain ⟨o1, o2, o3⟩ := ho
  have hex := hid (show tryL n L t id = if t ∈ rowL L id then L else L ++ [(id, t)] from by
    unfold tryL
    by_cases ht : t ∈ rowL L id
    · rw [if_pos ht, if_neg (fun h => h.2 ht)]
    · rw [if_neg ht, if_pos ⟨⟨o1, o2, o3⟩, ht⟩])
  rw [← hht]
  clear hht
  generalize tryL n L t id = L' at *
  clear h
  go_enter Try.func33, Try.ntmps33
  go_wp2_with fail
  refine HR.out.mono ?_
  rintro e w1 ⟨vr, rfl, R1, k1⟩
  obtain ⟨orr, cr, hvr, hcr⟩ := R1.form
  subst hvr
  generalize hR : rowL L id = R at *
  have H1 := hid (H0.out.kn k1)
  have K1 := hid k1
  replace hR := hid hR
  clear k1 HR L0
  go_wp2_with fail
  go_loopw [8, 9] (fun b i W => ∃ j : Nat, j ≤ R.length ∧ i = .int .i64 j ∧ b = .bool (decide (t ∈ R.take j)) ∧ W = w1) (fun _ i _ => R.length - (intOf i).toNat)
  case atStart => exact ⟨0, Nat.zero_le _, rfl, by simp, rfl⟩
  case round =>
    obtain ⟨j, hj, rfl, rfl, rfl⟩ := hrel
    by_cases hlt : j < R.length
    · have b3 : (0 : Int) ≤ (j : Int) := Int.natCast_nonneg _
      have b4 : (j : Int) < (R.length : Int) := by omega
      have hk : R[j]? = some R[j] := List.getElem?_eq_getElem hlt
      obtain ⟨x, hx⟩ : ∃ x, R[j] = x := ⟨_, rfl⟩
      rw [hx] at hk
      obtain ⟨b, f, c', hv', hcc, _, hcell⟩ := R1.cells (by rintro rfl; simp at hlt)
      injection hv' with hv1 _ hv3
      subst hv1; subst hv3
      have Le := hcell _ (Kp.refl _ _) j x hk
      have hmem : t ∈ R.take (j + 1) ↔ (t ∈ R.take j ∨ x = t) := by
        rw [List.take_add_one, hk]; simp [eq_comm]
      replace hk := hid hk
      replace hx := hid hx
      have R1h := hid R1
      clear R1
      replace hcell := hid hcell
      by_cases h1 : t ∈ R.take j
      · have h2 : t ∈ R.take (j + 1) := hmem.2 (.inl h1)
        have e1 : decide (t ∈ R.take j) = true := by simpa using h1
        have e2 := hid (show decide (t ∈ R.take (j + 1)) = true from by simpa using h2)
        rw [e1]
        clear hmem h1 h2 e1
        go_wp2_with fail
        go_roundw
        case rel => exact ⟨j + 1, by omega, by go_num, by simp [e2.out], by first | rfl | trivial⟩
        case measure => simp [intOf]; omega
      · have e1 : decide (t ∈ R.take j) = false := by simpa using h1
        rw [e1]
        have e2 := hid (show decide (t ∈ R.take (j + 1)) = (x == t) from by
          cases hc : (x == t)
          · simp at hc; simp; rw [hmem]; rintro (h | h); exact h1 h; exact hc h
          · simp at hc; simp; rw [hmem]; exact .inr hc)
        clear hmem h1 e1
        go_wp2_with fail
        go_roundw
        case rel => exact ⟨j + 1, by omega, by go_num, by simp [e2.out], by first | rfl | trivial⟩
        case measure => simp [intOf]; omega
    · obtain rfl : j = R.length := by omega
      rw [List.take_length]
      clear R1
      by_cases ht : t ∈ R
      · rw [show decide (t ∈ R) = true from by simpa using ht]
        have hL := hid (show L' = L from by rw [hex.out, if_pos ht])
        have HH := hid (rhas_any H1.out (by omega) t id)
        clear ht
        go_wp2_with fail
        refine HH.out.mono ?_
        rintro e w2 ⟨rfl, k2⟩
        go_wp2_with fail
        go_ret
        exact ⟨by rw [hL.out]; rfl, _, by rw [hL.out]; exact H1.out.kn k2, (K1.out.trans k2).mono (fun _ h => h.elim)⟩
      · rw [show decide (t ∈ R) = false from by simpa using ht]
        have hL := hid (show L' = L ++ [(id, t)] from by rw [hex.out, if_neg ht])
        clear ht
        obtain ⟨ov, cv, hvv, _⟩ := H1.out.hv.form
        subst hvv
        have Lp := loc2 H1.out.hq
        go_wp2_with (at_builtin; first
          | (refine wpList_plain rfl fun K hK' => ?_; refine wp_grow_row eP_len (by omega) (.const (.slice none 0 0)) _ 61 65 _ 16 rfl sl61 i65 rfl (.slice none 0 0) [] rfl (RowAt.nil _ 65 eP 2) (.slice ov L.length cv) L rfl H1.out.hv (oneP _) (by simp; omega) (by omega) ?_; intro va wa a1 a2 a3; rw [List.nil_append] at a1; obtain ⟨oa, ca, hva, hoa⟩ := a1.form; subst hva; have hqa := grown_get a2 H1.out.hq (by simp [Value.ownBlock]); have ka := kp_grown (F := NoB) a2 (by simp [Value.ownBlock]); have A1 := hid a1; have HQA := hid hqa; have KA := hid ka; have A2 := hid (a1.alloc (.cells #[.int .i64 id, .int .i64 t] 65)); have NQ := hid ((a1.alloc (.cells #[.int .i64 id, .int .i64 t] 65)).ne (blk_alloc (o' := .cells #[.int .i64 id, .int .i64 t] 65) hqa) (by decide)); have Lqa := loc2 hqa; replace a3 := hid a3; clear a1 a2 hqa ka hoa; refine hK' _ _ ?_; clear hK' K)
          | (refine wpList_plain rfl fun K hK' => ?_; refine wp_grow eP_len (by omega) _ _ 61 65 _ 16 rfl sl61 i65 rfl (.slice oa L.length ca) L rfl A2.out wa.heap.size 1 [(id, t)] rfl #[.int .i64 id, .int .i64 t] 65 (blk_new _ _) (by intro a b z ha hb; match a, ha with | 0, ha => simp at ha; subst ha; match b, hb with | 0, _ => rfl | 1, _ => rfl) (oneP _) (by simp; omega) (by omega) ?_; intro vb wb b1 b2 b3; obtain ⟨ob, cb, hvb, hob⟩ := b1.form; subst hvb; have hqb := grown_get b2 (blk_alloc (o' := .cells #[.int .i64 id, .int .i64 t] 65) HQA.out) NQ.out; have Lqb := loc2 hqb; have HQB := hid hqb; have B1 := hid b1; have B2 := hid b2; replace b3 := hid b3; clear Lqa b1 b2 hqb hob; refine hK' _ _ ?_; clear hK' K))
        have hl1 : (L ++ [(id, t)]).length = L.length + 1 := by simp
        have B1' := B1.out
        rw [hl1] at B1'
        have HS := hid (show RAt (wb.setCell ⟨q, 1, none⟩ (.slice ob (L.length + 1) cb)) q n (.slice ob (L.length + 1) cb) (L ++ [(id, t)]) from ⟨blk_setCell HQB.out 1 _, B1'.setCell _ _ (B1'.ne HQB.out (by decide))⟩)
        clear B1' hl1
        have HH := hid (rhas_any HS.out (by simp; omega) t id)
        refine HH.out.mono ?_
        rintro e w2 ⟨rfl, k2⟩
        go_wp2_with fail
        go_ret
        have s1 := (H1.out.hv.lt)
        have KB : Kp NoB wr wb := (KA.out.alloc (.cells #[.int .i64 id, .int .i64 t] 65)).trans' (kp_grown (F := fun b => (Value.slice oa L.length ca).ownBlock = some b) B2.out (fun b hb => hb)) (fun b hb hg => by
          rcases a3.out with o | ⟨b2, o, h2⟩
          · rw [o] at hg; cases hg
          · rw [hg] at o; injection o with o; subst o; omega)
        exact ⟨by rw [hL.out]; rfl, _, by rw [hL.out]; exact HS.out.kn k2, (((K1.out.trans KB).mono (G := fun b => b = q) (fun _ h => h.elim)).setCell (p := ⟨q, 1, none⟩) _ (fun _ => rfl)).trans (k2.mono (fun _ h => h.elim))⟩
end
end Go.Proofs.Ytpfhjfijpmcnkaa
