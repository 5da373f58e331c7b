/- Walks through locks: leave. -/
import Derived.Test.YtpfhjfijpmcnkaaK4
namespace Go.Proofs.Ytpfhjfijpmcnkaa
set_option linter.unusedSimpArgs false
set_option linter.unusedVariables false
open Go.RowKit
attribute [local go_sem ↓] Go.wp_at_zero Go.wp_at_succ
/-- all but one that stands in one row -/
def outL (L : List (Int × Int)) (t id : Int) : List (Int × Int) := L.filter (fun s => !(s.2 == t && s.1 == id))
theorem row_out (L : List (Int × Int)) (t id id' : Int) : rowL (outL L t id) id' = if id' = id then (rowL L id).filter (fun x => x != t) else rowL L id' := by
  unfold rowL outL
  rw [List.filter_filter]
  split
  · rename_i h; subst h
    rw [List.filter_map, List.filter_filter]
    congr 1
    apply List.filter_congr
    intro s _
    cases h1 : (s.1 == id') <;> cases h2 : (s.2 == t) <;> simp [Function.comp, h1, h2, bne]
  · rename_i h
    congr 1
    apply List.filter_congr
    intro s _
    cases h1 : (s.1 == id')
    · simp
    · have : (s.1 == id) = false := by
        rw [beq_eq_false_iff_ne]; rw [beq_iff_eq] at h1; rw [h1]; exact h
      simp [this]
theorem erase_is {R : List Int} (hn : R.Nodup) {t : Int} {i : Nat} (hi : R.findIdx? (fun x => x == t) = some i) : R.eraseIdx i = R.filter (fun x => x != t) := by
  rw [List.findIdx?_eq_some_iff_getElem] at hi
  obtain ⟨hl, h1, h2⟩ := hi
  have h1 : R[i] = t := by simpa using h1
  rw [← hn.erase_eq_filter, List.erase_eq_eraseIdx]
  have : List.idxOf? t R = some i := by
    rw [List.idxOf?, List.findIdx?_eq_some_iff_getElem]
    exact ⟨hl, by simp [h1], fun k hk => by have := h2 k hk; simpa using this⟩
  rw [this]
section
variable {w w' : World} {p m n : Nat} {M : List (Int × Value)} {L L' : List (Int × Int)} {v : Value} {l : List Int}
theorem LAt.congr (h : LAt w p m n M L) (e : ∀ id, rowL L' id = rowL L id) : LAt w p m n M L' := ⟨h.hp, h.hm, h.k, fun id => by rw [e]; exact h.rows id, fun id hi => by rw [e]; exact h.ne id hi⟩
theorem LAt.cut (h : LAt w p m n M L) {w1 : World} {id : Int} (k : Kp (· = m) w w1) {M2 : List (Int × Value)} (hm : MapAt .i64 w1 m M2) (hk : MOk .i64 M2) (hg : ∀ id', mget M2 id' = if id' = id then none else mget M id') (h0 : rowL L' id = []) (ho : ∀ id', id' ≠ id → rowL L' id' = rowL L id') :
    LAt w1 p m n M2 L' := by
  refine ⟨k.get h.hp h.pm, hm, hk, fun id' => ?_, fun id' hi => ?_⟩
  · rw [hg]
    by_cases e : id' = id
    · subst e; rw [if_pos rfl, h0]; exact Rs.nil _ _
    · rw [if_neg e, ho _ e]
      obtain ⟨es, c, h1, _⟩ := h.hm
      exact (h.rows id').mp h1 k
  · rw [hg] at hi
    by_cases e : id' = id
    · subst e; rw [if_pos rfl] at hi; simp at hi
    · rw [if_neg e] at hi; rw [ho _ e]; exact h.ne _ hi
set_option maxRecDepth 100000 in
set_option maxHeartbeats 2000000 in
theorem leave_none (h : LAt w p m n M L) {t id : Int} (hw : (Lit.int .i64 id).wf = true) (n2 : (rowL L id).length ≤ 4000) (ht : t ∉ rowL L id) :
    Calls Try.prog 32 #[.pointer (some ⟨p, 0, none⟩), .int .i64 t, .int .i64 id] w fun e w' => e = .returned (.tuple #[]) ∧ Kp NoB w w' := by
  obtain ⟨v, hl, hv⟩ := h.look hw
  have HI := hid (index_any hv (by omega) t)
  have h0 : ¬ 0 ≤ idxL (rowL L id) t := fun h => ht (idx_mem.1 h)
  have Lp := loc2 h.hp
  replace hl := hl w (Kp.refl _ _)
  obtain ⟨o, c, hvv, _⟩ := hv.form
  subst hvv
  have h1 : idxL (rowL L id) t < 0 := by omega
  generalize idxL (rowL L id) t = i at *
  clear h hv ht h0
  go_enter Try.func32, Try.ntmps32
  go_wp2_with fail
  refine HI.out.mono ?_
  rintro e w1 ⟨rfl, k1⟩
  go_wp2_with fail
  exact bodyPost_ret (results_none rfl _ _ _) rfl ⟨rfl, k1⟩
set_option maxRecDepth 100000 in
set_option maxHeartbeats 4000000 in
theorem leave_some (h : LAt w p m n M L) {t id : Int} (hw : (Lit.int .i64 id).wf = true) (n2 : (rowL L id).length ≤ 4000) (hnd : (rowL L id).Nodup) (ht : t ∈ rowL L id) :
    Calls Try.prog 32 #[.pointer (some ⟨p, 0, none⟩), .int .i64 t, .int .i64 id] w fun e w' => e = .returned (.tuple #[]) ∧ ∃ M', LAt w' p m n M' (outL L t id) ∧ Kp (· = m) w w' := by
  obtain ⟨v, hl, hv⟩ := h.look hw
  have HI := hid (index_any hv (by omega) t)
  obtain ⟨i, hi⟩ : ∃ i, (rowL L id).findIdx? (fun x => x == t) = some i := by
    cases hq : (rowL L id).findIdx? (fun x => x == t) with
    | none => rw [List.findIdx?_eq_none_iff] at hq; have := hq t ht; simp at this
    | some i => exact ⟨i, rfl⟩
  have hii : idxL (rowL L id) t = (i : Int) := by simp [idxL, hi]
  rw [hii] at HI
  have hlt : i < (rowL L id).length := by rw [List.findIdx?_eq_some_iff_getElem] at hi; exact hi.1
  have her := erase_is hnd hi
  have Lp := loc2 h.hp
  have HP := hid (fun W (k : Kp NoB w W) => loc2 (h.kn k).hp)
  have H0 := hid h
  replace hl := hl w (Kp.refl _ _)
  have hro : rowL (outL L t id) id = (rowL L id).eraseIdx i := by rw [row_out, if_pos rfl, her]
  have hot : ∀ id', id' ≠ id → rowL (outL L t id) id' = rowL L id' := fun id' e => by rw [row_out, if_neg e]
  generalize outL L t id = L' at *
  generalize hR : rowL L id = R at *
  rcases hv with ⟨_, h0⟩ | ⟨b, f, c, A, rfl, hb, hA, hc⟩
  · subst h0; simp at ht
  have hT : Rs 3 w (.slice (some ⟨b, f, none⟩) i i) (R.take i) := .inr ⟨b, f, i, A, by rw [List.length_take, Nat.min_eq_left (by omega)], hb, fun j x hj => hA j x (by
    have := (List.getElem?_eq_some_iff.1 hj).1
    rw [List.length_take] at this
    rw [List.getElem?_take, if_pos (by omega)] at hj; exact hj), by rw [List.length_take]; omega⟩
  have hD : ∀ g c', (c ≠ i + 1 → g = f + (i + 1)) → R.length - (i + 1) ≤ c' → Rs 3 w (.slice (some ⟨b, g, none⟩) (R.length - (i + 1)) c') (R.drop (i + 1)) := fun g c' hg hc' =>
    .inr ⟨b, g, c', A, by rw [List.length_drop], hb, fun j x hj => by
      have hj' := (List.getElem?_eq_some_iff.1 hj).1
      rw [List.length_drop] at hj'
      rw [hg (by omega), Nat.add_assoc]
      rw [List.getElem?_drop] at hj
      exact hA _ x hj, by rw [List.length_drop]; exact hc'⟩
  have HT := hid (fun W (k : Kp NoB w W) => hT.kn k)
  have HD := hid (fun W (k : Kp NoB w W) g c' h1 h2 => (hD g c' h1 h2).kn k)
  have hlT : (R.take i).length = i := by rw [List.length_take]; omega
  have b1 : (0 : Int) ≤ (i : Int) := Int.natCast_nonneg _
  have b2 : ¬ (i : Int) < 0 := by omega
  have b3 : (0 : Int) ≤ (i : Int) + 1 := by omega
  have b4 : (i : Int) + 1 ≤ (R.length : Int) := by omega
  have b5 : (R.length : Int) ≤ (c : Int) := by omega
  have b6 : ((i : Int) + 1).toNat = i + 1 := by omega
  have b7 : IntKind.i64.wrap ((i : Int) + 1) = (i : Int) + 1 := by simp [IntKind.wrap, IntKind.bits, IntKind.signed]; omega
  have b8 : (i : Int) ≤ (c : Int) := by omega
  have hrow : R.take i ++ R.drop (i + 1) = R.eraseIdx i := (List.eraseIdx_eq_take_drop_succ _ _).symm
  have hel : (R.eraseIdx i).length = R.length - 1 := by rw [List.length_eraseIdx]; simp [hlt]
  clear h hT hD ht hi hii hnd her
  replace hb := hid hb
  replace hA := hid hA
  replace hR := hid hR
  replace hro := hid hro
  replace hot := hid hot
  replace hrow := hid hrow
  replace hel := hid hel
  replace hlT := hid hlT
  by_cases hce : c = i + 1
  ·
    subst hce
    have b9 : (R.length : Int) ≤ (i : Int) + 1 := by omega
    have b10 : (i : Int) ≤ (i : Int) + 1 := by omega
    have HX := hid (fun W (k : Kp NoB w W) => (show Rs 3 W (.slice (some ⟨b, f, none⟩) 0 0) (R.drop (i + 1)) from .inr ⟨b, f, 0, A, by rw [List.length_drop, show R.length - (i + 1) = 0 from by omega], k.get hb.out (fun h => h), fun j x hj => by
      rw [List.drop_eq_nil_of_le (by omega)] at hj; simp at hj, by rw [List.length_drop]; omega⟩))
    clear HD
    go_enter Try.func32, Try.ntmps32
    go_wp2_with fail
    refine HI.out.mono ?_
    rintro e w1 ⟨rfl, k1⟩
    have Lp1 := HP.out _ k1
    replace k1 := hid k1
    clear Lp
    go_wp2_with fail
    refine wp_region_G (fun W => W.cell? ⟨p, 1, none⟩ = some (.map (some m))) [(0, .held), (1, .held), (2, .held), (3, .held), (4, .held), (5, .at_), (6, .at_), (7, .at_), (8, .at_), (9, .at_), (10, .at_), (11, .at_), (12, .at_), (13, .eff), (14, .fin)] ?L1 (by kernel_rfl) (by kernel_rfl) ?hL1 (Lp1.2.1) ?hG1
    case hL1 => simp only [pickOps, List.map_cons, List.map_nil, List.getD_cons_zero, List.getD_cons_succ]; rfl
    repeat (first | (refine wpG_at (v := ?_) (by rfl) ?_ ?_; rotate_left; (focus (first | (go_simp; with_reducible rfl) | (go_simp; done))); simp only [Act.put, List.setIfInBounds_toArray, List.set_cons_zero, List.set_cons_succ]) | (refine wpG_at_skip (by rfl) ?_; simp only [Act.put, List.setIfInBounds_toArray, List.set_cons_zero, List.set_cons_succ]) | (refine wpG_held_skip (by rfl) ?_; simp only [Act.put, List.setIfInBounds_toArray, List.set_cons_zero, List.set_cons_succ]) | (refine wpG_held (v := ?_) (by rfl) ?_ ?_; rotate_left; (focus (intro w' hSw; (try dsimp only at hSw); go_split_ands; first | (go_simp; with_reducible rfl) | (go_simp; done))); simp only [Act.put, List.setIfInBounds_toArray, List.set_cons_zero, List.set_cons_succ]))
    refine wpG_eff (by rfl) (fun K hK => ?_)
    obtain ⟨v', w2, hr, q1, q2⟩ := run_append_rs (P := Try.prog) (t := 31) (ty := 31) u31 i3 (HT.out _ k1.out.drew) (some ⟨b, f, none⟩) (by rw [hlT.out]) (HX.out _ k1.out.drew) (by simp; omega)
    rw [hrow.out] at q1
    refine Lib.wp_append_run _ _ _ 31 31 rfl (.slice (some ⟨b, f, none⟩) i i) (.slice (some ⟨b, f, none⟩) 0 0) rfl rfl _ _ hr ?_
    clear hr
    have K2 := k1.out.drew.trans q2
    have H2 := H0.out.kn K2
    have Lp2 := loc2 H2.hp
    refine hK _ _ Lp2.2.1 ?_
    clear hK K Lp1
    have Q1 := hid q1
    have Q2 := hid H2
    have KK := hid K2
    clear q1 q2 H2 K2
    repeat (first | (refine wpG_at (v := ?_) (by rfl) ?_ ?_; rotate_left; (focus (first | (go_simp; with_reducible rfl) | (go_simp; done))); simp only [Act.put, List.setIfInBounds_toArray, List.set_cons_zero, List.set_cons_succ]) | (refine wpG_at_skip (by rfl) ?_; simp only [Act.put, List.setIfInBounds_toArray, List.set_cons_zero, List.set_cons_succ]) | (refine wpG_held_skip (by rfl) ?_; simp only [Act.put, List.setIfInBounds_toArray, List.set_cons_zero, List.set_cons_succ]) | (refine wpG_held (v := ?_) (by rfl) ?_ ?_; rotate_left; (focus (intro w' hSw; (try dsimp only at hSw); go_split_ands; first | (go_simp; with_reducible rfl) | (go_simp; done))); simp only [Act.put, List.setIfInBounds_toArray, List.set_cons_zero, List.set_cons_succ]))
    refine wpG_fin (by rfl) (fun K hK => ?_)
    refine wp_map_upd _ _ _ rfl k23 k51 rfl id rfl v' rfl Q2.out.hm Q2.out.k hw ?_
    intro w3 hm3 k3
    have hQ3 := hid (show Rs 3 w3 v' (R.eraseIdx i) from by
      obtain ⟨es, c, h1, _⟩ := Q2.out.hm
      exact Q1.out.mp h1 k3)
    have KF := hid ((KK.out.mono (fun _ h => h.elim)).trans k3)
    have Lp3 := loc2 (k3.get Q2.out.hp Q2.out.pm)
    refine hK _ _ ?_
    clear hK K Lp2
    repeat (first | (refine wpG_at (v := ?_) (by rfl) ?_ ?_; rotate_left; (focus (first | (go_simp; with_reducible rfl) | (go_simp; done))); simp only [Act.put, List.setIfInBounds_toArray, List.set_cons_zero, List.set_cons_succ]) | (refine wpG_at_skip (by rfl) ?_; simp only [Act.put, List.setIfInBounds_toArray, List.set_cons_zero, List.set_cons_succ]) | (refine wpG_held_skip (by rfl) ?_; simp only [Act.put, List.setIfInBounds_toArray, List.set_cons_zero, List.set_cons_succ]) | (refine wpG_held (v := ?_) (by rfl) ?_ ?_; rotate_left; (focus (intro w' hSw; (try dsimp only at hSw); go_split_ands; first | (go_simp; with_reducible rfl) | (go_simp; done))); simp only [Act.put, List.setIfInBounds_toArray, List.set_cons_zero, List.set_cons_succ]))
    refine wpG_nil (NoPanic.normal ?_)
    obtain ⟨w4, hdel, hm4, k4⟩ := hm3.del (Q2.out.k.put hw v') k23 k51 id hw 0
    replace hm3 := hid hm3
    replace k3 := hid k3
    replace hm4 := hid hm4
    replace k4 := hid k4
    replace hdel := hid hdel
    by_cases hone : R.length = 1
    · have h1 : ((R.length : Int) == 1) = true := by rw [beq_iff_eq]; omega
      replace hone := hid hone
      go_wp2_with fail
      rw [hdel.out]
      go_wp2_with fail
      go_end0
      refine ⟨rfl, _, H0.out.cut (KF.out.trans k4.out) hm4.out ((Q2.out.k.put hw v').del id) (fun id' => ?_) (by rw [hro.out]; exact List.eq_nil_of_length_eq_zero (by rw [hel.out, hone.out])) hot.out, KF.out.trans k4.out⟩
      rw [mget_del, mget_put]
      split <;> rfl
    · have h1 : ((R.length : Int) == 1) = false := by rw [beq_eq_false_iff_ne]; omega
      replace hone := hid hone
      go_wp2_with fail
      go_end0
      refine ⟨rfl, _, H0.out.put hw KF.out hm3.out (by rw [hro.out]; exact hQ3.out) (fun h => ?_) hot.out, KF.out⟩
      rw [hro.out] at h
      have := hel.out
      rw [h] at this
      have h2 := hone.out
      simp at this
      omega
  ·
    have HX := hid (fun W (k : Kp NoB w W) => HD.out W k (f + (i + 1)) (c - (i + 1)) (fun _ => rfl) (by omega))
    clear HD
    go_enter Try.func32, Try.ntmps32
    go_wp2_with fail
    refine HI.out.mono ?_
    rintro e w1 ⟨rfl, k1⟩
    have Lp1 := HP.out _ k1
    replace k1 := hid k1
    clear Lp
    go_wp2_with fail
    refine wp_region_G (fun W => W.cell? ⟨p, 1, none⟩ = some (.map (some m))) [(0, .held), (1, .held), (2, .held), (3, .held), (4, .held), (5, .at_), (6, .at_), (7, .at_), (8, .at_), (9, .at_), (10, .at_), (11, .at_), (12, .at_), (13, .eff), (14, .fin)] ?L2 (by kernel_rfl) (by kernel_rfl) ?hL2 (Lp1.2.1) ?hG2
    case hL2 => simp only [pickOps, List.map_cons, List.map_nil, List.getD_cons_zero, List.getD_cons_succ]; rfl
    repeat (first | (refine wpG_at (v := ?_) (by rfl) ?_ ?_; rotate_left; (focus (first | (go_simp; with_reducible rfl) | (go_simp; done))); simp only [Act.put, List.setIfInBounds_toArray, List.set_cons_zero, List.set_cons_succ]) | (refine wpG_at_skip (by rfl) ?_; simp only [Act.put, List.setIfInBounds_toArray, List.set_cons_zero, List.set_cons_succ]) | (refine wpG_held_skip (by rfl) ?_; simp only [Act.put, List.setIfInBounds_toArray, List.set_cons_zero, List.set_cons_succ]) | (refine wpG_held (v := ?_) (by rfl) ?_ ?_; rotate_left; (focus (intro w' hSw; (try dsimp only at hSw); go_split_ands; first | (go_simp; with_reducible rfl) | (go_simp; done))); simp only [Act.put, List.setIfInBounds_toArray, List.set_cons_zero, List.set_cons_succ]))
    refine wpG_eff (by rfl) (fun K hK => ?_)
    obtain ⟨v', w2, hr, q1, q2⟩ := run_append_rs (P := Try.prog) (t := 31) (ty := 31) u31 i3 (HT.out _ k1.out.drew) (some ⟨b, f, none⟩) (by rw [hlT.out]) (HX.out _ k1.out.drew) (by simp; omega)
    rw [hrow.out] at q1
    refine Lib.wp_append_run _ _ _ 31 31 rfl (.slice (some ⟨b, f, none⟩) i i) (.slice (some ⟨b, f + (i + 1), none⟩) (R.length - (i + 1)) (c - (i + 1))) rfl rfl _ _ hr ?_
    clear hr
    have K2 := k1.out.drew.trans q2
    have H2 := H0.out.kn K2
    have Lp2 := loc2 H2.hp
    refine hK _ _ Lp2.2.1 ?_
    clear hK K Lp1
    have Q1 := hid q1
    have Q2 := hid H2
    have KK := hid K2
    clear q1 q2 H2 K2
    repeat (first | (refine wpG_at (v := ?_) (by rfl) ?_ ?_; rotate_left; (focus (first | (go_simp; with_reducible rfl) | (go_simp; done))); simp only [Act.put, List.setIfInBounds_toArray, List.set_cons_zero, List.set_cons_succ]) | (refine wpG_at_skip (by rfl) ?_; simp only [Act.put, List.setIfInBounds_toArray, List.set_cons_zero, List.set_cons_succ]) | (refine wpG_held_skip (by rfl) ?_; simp only [Act.put, List.setIfInBounds_toArray, List.set_cons_zero, List.set_cons_succ]) | (refine wpG_held (v := ?_) (by rfl) ?_ ?_; rotate_left; (focus (intro w' hSw; (try dsimp only at hSw); go_split_ands; first | (go_simp; with_reducible rfl) | (go_simp; done))); simp only [Act.put, List.setIfInBounds_toArray, List.set_cons_zero, List.set_cons_succ]))
    refine wpG_fin (by rfl) (fun K hK => ?_)
    refine wp_map_upd _ _ _ rfl k23 k51 rfl id rfl v' rfl Q2.out.hm Q2.out.k hw ?_
    intro w3 hm3 k3
    have hQ3 := hid (show Rs 3 w3 v' (R.eraseIdx i) from by
      obtain ⟨es, c, h1, _⟩ := Q2.out.hm
      exact Q1.out.mp h1 k3)
    have KF := hid ((KK.out.mono (fun _ h => h.elim)).trans k3)
    have Lp3 := loc2 (k3.get Q2.out.hp Q2.out.pm)
    refine hK _ _ ?_
    clear hK K Lp2
    repeat (first | (refine wpG_at (v := ?_) (by rfl) ?_ ?_; rotate_left; (focus (first | (go_simp; with_reducible rfl) | (go_simp; done))); simp only [Act.put, List.setIfInBounds_toArray, List.set_cons_zero, List.set_cons_succ]) | (refine wpG_at_skip (by rfl) ?_; simp only [Act.put, List.setIfInBounds_toArray, List.set_cons_zero, List.set_cons_succ]) | (refine wpG_held_skip (by rfl) ?_; simp only [Act.put, List.setIfInBounds_toArray, List.set_cons_zero, List.set_cons_succ]) | (refine wpG_held (v := ?_) (by rfl) ?_ ?_; rotate_left; (focus (intro w' hSw; (try dsimp only at hSw); go_split_ands; first | (go_simp; with_reducible rfl) | (go_simp; done))); simp only [Act.put, List.setIfInBounds_toArray, List.set_cons_zero, List.set_cons_succ]))
    refine wpG_nil (NoPanic.normal ?_)
    obtain ⟨w4, hdel, hm4, k4⟩ := hm3.del (Q2.out.k.put hw v') k23 k51 id hw 0
    replace hm3 := hid hm3
    replace k3 := hid k3
    replace hm4 := hid hm4
    replace k4 := hid k4
    replace hdel := hid hdel
    by_cases hone : R.length = 1
    · have h1 : ((R.length : Int) == 1) = true := by rw [beq_iff_eq]; omega
      replace hone := hid hone
      go_wp2_with fail
      rw [hdel.out]
      go_wp2_with fail
      go_end0
      refine ⟨rfl, _, H0.out.cut (KF.out.trans k4.out) hm4.out ((Q2.out.k.put hw v').del id) (fun id' => ?_) (by rw [hro.out]; exact List.eq_nil_of_length_eq_zero (by rw [hel.out, hone.out])) hot.out, KF.out.trans k4.out⟩
      rw [mget_del, mget_put]
      split <;> rfl
    · have h1 : ((R.length : Int) == 1) = false := by rw [beq_eq_false_iff_ne]; omega
      replace hone := hid hone
      go_wp2_with fail
      go_end0
      refine ⟨rfl, _, H0.out.put hw KF.out hm3.out (by rw [hro.out]; exact hQ3.out) (fun h => ?_) hot.out, KF.out⟩
      rw [hro.out] at h
      have := hel.out
      rw [h] at this
      have h2 := hone.out
      simp at this
      omega
end
end Go.Proofs.Ytpfhjfijpmcnkaa
