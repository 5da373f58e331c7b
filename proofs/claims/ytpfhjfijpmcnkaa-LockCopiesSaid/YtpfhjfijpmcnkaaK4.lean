/- Walks through locks: Try. -/
import Derived.Test.YtpfhjfijpmcnkaaK3
namespace Go.Proofs.Ytpfhjfijpmcnkaa
set_option linter.unusedSimpArgs false
set_option linter.unusedVariables false
open Go.RowKit
attribute [local go_sem ↓] Go.wp_at_zero Go.wp_at_succ
def okL (n : Nat) (t id : Int) : Prop := 0 ≤ t ∧ t < n ∧ 0 ≤ id
instance (n : Nat) (t id : Int) : Decidable (okL n t id) := by unfold okL; exact inferInstance
def tryL (n : Nat) (L : List (Int × Int)) (t id : Int) : List (Int × Int) := if okL n t id ∧ t ∉ rowL L id then L ++ [(id, t)] else L
def tryB (n : Nat) (L : List (Int × Int)) (t id : Int) : Bool := decide (okL n t id) && hdL (rowL (tryL n L t id) id) == t
theorem row_app (L : List (Int × Int)) (id id' t : Int) : rowL (L ++ [(id, t)]) id' = if id' = id then rowL L id' ++ [t] else rowL L id' := by
  unfold rowL
  rw [List.filter_append, List.map_append]
  split
  · rename_i h; subst h; simp
  · rename_i h
    have : ¬ id = id' := fun e => h e.symm
    simp [this]
section
variable {w w' : World} {p m n : Nat} {M : List (Int × Value)} {L : List (Int × Int)} {v : Value} {l : List Int}
/-- one stored in a row's place -/
theorem Rs.full {e : TypeId} {o : Option Addr} {c : Nat} (h : Rs e w (.slice o l.length c) l) : Rs e w (.slice o l.length l.length) l := by
  rcases h with ⟨h, rfl⟩ | ⟨b, f, c', A, h1, h2, h3, h4⟩
  · injection h with h1 _ _
    subst h1
    exact Rs.nil e w
  · injection h1 with h1 _ _
    subst h1
    exact .inr ⟨b, f, _, A, rfl, h2, h3, Nat.le_refl _⟩
theorem Rs.one {e : TypeId} (w : World) (t : Int) : Rs e (w.alloc (.cells #[.int .i64 t] e)) (.slice (some ⟨w.heap.size, 0, none⟩) 1 1) [t] := by
  refine .inr ⟨_, 0, 1, _, rfl, blk_new w _, ?_, by simp⟩
  intro j x hj
  match j, hj with
  | 0, hj => simp at hj; subst hj; rfl
theorem Rs.mp {e : TypeId} (h : Rs e w v l) {m : Nat} {es : Array MapEntry} {c : Nat} (hm : w.heap[m]? = some (.map es c)) (k : Kp (· = m) w w') : Rs e w' v l := by
  refine h.kp k ?_
  rintro b A rfl hb
  rw [hm] at hb; cases hb
theorem LAt.put (h : LAt w p m n M L) {w1 : World} {id : Int} {v : Value} {L' : List (Int × Int)} (hw : (Lit.int .i64 id).wf = true) (k : Kp (· = m) w w1) (hm : MapAt .i64 w1 m (mput M id v)) (hv : Rs 3 w1 v (rowL L' id)) (h0 : rowL L' id ≠ []) (ho : ∀ id', id' ≠ id → rowL L' id' = rowL L id') :
    LAt w1 p m n (mput M id v) L' := by
  refine ⟨k.get h.hp h.pm, hm, h.k.put hw v, fun id' => ?_, fun id' hi => ?_⟩
  · rw [mget_put]
    by_cases e : id' = id
    · subst e; rw [if_pos rfl]; exact hv
    · rw [if_neg e, ho _ e]
      refine (h.rows id').kp k ?_
      rintro b A rfl hb
      obtain ⟨es, c, h1, _⟩ := h.hm
      rw [h1] at hb; cases hb
  · rw [mget_put] at hi
    by_cases e : id' = id
    · subst e; exact h0
    · rw [if_neg e] at hi; rw [ho _ e]; exact h.ne _ hi
set_option maxRecDepth 100000 in
set_option maxHeartbeats 2000000 in
theorem try_out (h : LAt w p m n M L) (n1 : 1 ≤ n) {t id : Int} (ho : ¬ okL n t id) :
    Calls Try.prog 13 #[.pointer (some ⟨p, 0, none⟩), .int .i64 t, .int .i64 id] w fun e w' => e = .returned (.bool false) ∧ w = w' := by
  have HM := hid (may_no h n1 ho)
  clear h ho
  go_enter Try.func13, Try.ntmps13
  go_wp2_with fail
  refine HM.out.mono ?_
  rintro e w1 ⟨rfl, rfl⟩
  go_wp2_with fail
  go_ret
  exact ⟨rfl, rfl⟩
set_option maxRecDepth 100000 in
set_option maxHeartbeats 2000000 in
theorem try_in (h : LAt w p m n M L) (n1 : 1 ≤ n) {t id : Int} (ho : okL n t id) (hw : (Lit.int .i64 id).wf = true) (n2 : (rowL L id).length ≤ 4000) (ht : t ∈ rowL L id) :
    Calls Try.prog 13 #[.pointer (some ⟨p, 0, none⟩), .int .i64 t, .int .i64 id] w fun e w' => e = .returned (.bool (hdL (rowL L id) == t)) ∧ Kp NoB w w' := by
  have HM := hid (may_yes h n1 ho)
  obtain ⟨v, hl, hv⟩ := h.look hw
  have HC := hid (contains_any hv (by omega) t)
  rw [show decide (t ∈ rowL L id) = true from by simpa using ht] at HC
  have Lp := loc2 h.hp
  have HP := hid (fun W (k : Kp NoB w W) => loc2 (h.kn k).hp)
  cases hr : rowL L id with
  | nil => rw [hr] at ht; simp at ht
  | cons x r =>
    rw [hr] at hv
    simp only [hdL]
    obtain ⟨b, f, c, rfl, hc, _, hcell⟩ := hv.cells (by simp)
    simp only [List.length_cons] at hc hl HC
    have hcell0 := hid (fun W k => hcell W k 0 x rfl)
    have hl0 := hl w (Kp.refl _ _)
    have HL := hid hl
    have b1 : (0 : Int) < (r.length : Int) + 1 := by omega
    clear h hv ht ho hl hcell
    go_enter Try.func13, Try.ntmps13
    go_wp2_with fail
    refine HM.out.mono ?_
    rintro e w1 ⟨rfl, rfl⟩
    go_wp2_with fail
    refine HC.out.mono ?_
    rintro e w1 ⟨rfl, k1⟩
    clear Lp hl0
    have Lp := HP.out _ k1
    have hl1 := HL.out _ k1
    have Le := hcell0.out _ k1
    rw [Nat.add_zero] at Le
    go_wp2_with fail
    go_ret
    exact ⟨rfl, k1⟩
set_option maxRecDepth 100000 in
set_option maxHeartbeats 2000000 in
theorem try_new (h : LAt w p m n M L) (n1 : 1 ≤ n) {t id : Int} (ho : okL n t id) (hw : (Lit.int .i64 id).wf = true) (n2 : (rowL L id).length ≤ 4000) (ht : t ∉ rowL L id) :
    Calls Try.prog 13 #[.pointer (some ⟨p, 0, none⟩), .int .i64 t, .int .i64 id] w fun e w' => e = .returned (.bool (hdL (rowL L id ++ [t]) == t)) ∧ ∃ M', LAt w' p m n M' (L ++ [(id, t)]) ∧ Kp (· = m) w w' := by
  have HM := hid (may_yes h n1 ho)
  obtain ⟨v, hl, hv⟩ := h.look hw
  have HC := hid (contains_any hv (by omega) t)
  rw [show decide (t ∈ rowL L id) = false from by simpa using ht] at HC
  have Lp := loc2 h.hp
  have HP := hid (fun W (k : Kp NoB w W) => loc2 (h.kn k).hp)
  have hl0 := hl w (Kp.refl _ _)
  have HL := hid hl
  have H0 := hid h
  obtain ⟨o, c, hvv, hvc⟩ := hv.form
  have HV := hid (fun W (k : Kp NoB w W) => hv.kn k)
  subst hvv
  have b1 : (0 : Int) ≤ ((rowL L id).length : Int) := by omega
  have b2 : ((rowL L id).length : Int) ≤ (c : Int) := by omega
  clear h hv ht ho hl
  generalize hR : rowL L id = R at *
  replace hR := hid hR
  obtain ⟨x, r, hxr⟩ : ∃ x r, R ++ [t] = x :: r := by cases R with | nil => exact ⟨_, _, rfl⟩ | cons a b => exact ⟨_, _, rfl⟩
  rw [hxr]
  simp only [hdL]
  replace hxr := hid hxr
  go_enter Try.func13, Try.ntmps13
  go_wp2_with fail
  refine HM.out.mono ?_
  rintro e w1 ⟨rfl, rfl⟩
  go_wp2_with fail
  refine HC.out.mono ?_
  rintro e w1 ⟨rfl, k1⟩
  clear Lp hl0
  have Lp := HP.out _ k1
  go_wp2_with fail
  refine wp_region_G (fun W => W.cell? ⟨p, 1, none⟩ = some (.map (some m))) [(0, .held), (1, .held), (2, .held), (3, .held), (4, .held), (5, .held), (6, .held), (7, .held), (8, .held), (9, .held), (10, .held), (11, .at_), (12, .eff), (13, .eff), (14, .fin)] ?L1 (by kernel_rfl) (by kernel_rfl) ?hL1 (Lp.2.1) ?hG1
  case hL1 => simp only [pickOps, List.map_cons, List.map_nil, List.getD_cons_zero, List.getD_cons_succ]; rfl
  repeat (first | (refine wpG_at (v := ?_) (by rfl) ?_ ?_; rotate_left; (focus (first | (go_simp; with_reducible rfl) | (go_simp; done))); simp only [Act.put, List.setIfInBounds_toArray, List.set_cons_zero, List.set_cons_succ]) | (refine wpG_at_skip (by rfl) ?_; simp only [Act.put, List.setIfInBounds_toArray, List.set_cons_zero, List.set_cons_succ]) | (refine wpG_held_skip (by rfl) ?_; simp only [Act.put, List.setIfInBounds_toArray, List.set_cons_zero, List.set_cons_succ]) | (refine wpG_held (v := ?_) (by rfl) ?_ ?_; rotate_left; (focus (intro w' hSw; (try dsimp only at hSw); go_split_ands; first | (go_simp; with_reducible rfl) | (go_simp; done))); simp only [Act.put, List.setIfInBounds_toArray, List.set_cons_zero, List.set_cons_succ]))
  refine wpG_eff (by rfl) (fun K hK => ?_)
  go_simp
  refine hK _ _ (by go_simp) ?_
  clear hK K
  repeat (first | (refine wpG_at (v := ?_) (by rfl) ?_ ?_; rotate_left; (focus (first | (go_simp; with_reducible rfl) | (go_simp; done))); simp only [Act.put, List.setIfInBounds_toArray, List.set_cons_zero, List.set_cons_succ]) | (refine wpG_at_skip (by rfl) ?_; simp only [Act.put, List.setIfInBounds_toArray, List.set_cons_zero, List.set_cons_succ]) | (refine wpG_held_skip (by rfl) ?_; simp only [Act.put, List.setIfInBounds_toArray, List.set_cons_zero, List.set_cons_succ]) | (refine wpG_held (v := ?_) (by rfl) ?_ ?_; rotate_left; (focus (intro w' hSw; (try dsimp only at hSw); go_split_ands; first | (go_simp; with_reducible rfl) | (go_simp; done))); simp only [Act.put, List.setIfInBounds_toArray, List.set_cons_zero, List.set_cons_succ]))
  refine wpG_eff (by rfl) (fun K hK => ?_)
  obtain ⟨v', w2, hr, q1, q2⟩ := run_append_rs (P := Try.prog) (t := 31) (ty := 31) u31 i3 ((HV.out _ ((k1.drew).alloc (.cells #[.int .i64 t] 3))).full) o rfl (Rs.one w1.drew t) (by simp; omega)
  refine Lib.wp_append_run _ _ _ 31 31 rfl (.slice o R.length R.length) (.slice (some ⟨w1.heap.size, 0, none⟩) 1 1) rfl rfl _ _ hr ?_
  clear hr
  have K2 := ((k1.drew).alloc (.cells #[.int .i64 t] 3)).trans q2
  have H2 := H0.out.kn K2
  have Lp2 := loc2 H2.hp
  refine hK _ _ Lp2.2.1 ?_
  clear hK K Lp
  have Q1 := hid q1
  have Q2 := hid H2
  have KK := hid K2
  clear q1 q2 H2 K2
  repeat (first | (refine wpG_at (v := ?_) (by rfl) ?_ ?_; rotate_left; (focus (first | (go_simp; with_reducible rfl) | (go_simp; done))); simp only [Act.put, List.setIfInBounds_toArray, List.set_cons_zero, List.set_cons_succ]) | (refine wpG_at_skip (by rfl) ?_; simp only [Act.put, List.setIfInBounds_toArray, List.set_cons_zero, List.set_cons_succ]) | (refine wpG_held_skip (by rfl) ?_; simp only [Act.put, List.setIfInBounds_toArray, List.set_cons_zero, List.set_cons_succ]) | (refine wpG_held (v := ?_) (by rfl) ?_ ?_; rotate_left; (focus (intro w' hSw; (try dsimp only at hSw); go_split_ands; first | (go_simp; with_reducible rfl) | (go_simp; done))); simp only [Act.put, List.setIfInBounds_toArray, List.set_cons_zero, List.set_cons_succ]))
  refine wpG_fin (by rfl) (fun K hK => ?_)
  refine wp_map_upd _ _ _ rfl k23 k51 rfl id rfl v' rfl Q2.out.hm Q2.out.k hw ?_
  intro w3 hm3 k3
  have H3 := Q2.out.put (L' := L ++ [(id, t)]) hw k3 hm3 (by
    obtain ⟨es, c, h1, _⟩ := Q2.out.hm
    rw [row_app, if_pos rfl, hR.out]
    exact Q1.out.mp h1 k3) (by rw [row_app, if_pos rfl]; simp) (fun id' e => by rw [row_app, if_neg e])
  have KF := hid ((KK.out.mono (fun _ h => h.elim)).trans k3)
  obtain ⟨v3, hl3, hv3⟩ := H3.look hw
  rw [row_app, if_pos rfl, hR.out] at hv3
  replace hl3 := hl3 _ (Kp.refl _ _)
  have Lp3 := loc2 H3.hp
  rw [hxr.out] at hv3
  obtain ⟨b, f, c3, rfl, hc3, _, hcell⟩ := hv3.cells (by simp)
  have Le := hcell _ (Kp.refl _ _) 0 x rfl
  rw [Nat.add_zero] at Le
  simp only [List.length_cons] at hl3 hc3
  have b3 : (0 : Int) < (r.length : Int) + 1 := by omega
  replace H3 := hid H3
  replace hm3 := hid hm3
  clear hv3 hcell k3
  refine hK _ _ ?_
  clear hK K Lp2
  repeat (first | (refine wpG_at (v := ?_) (by rfl) ?_ ?_; rotate_left; (focus (first | (go_simp; with_reducible rfl) | (go_simp; done))); simp only [Act.put, List.setIfInBounds_toArray, List.set_cons_zero, List.set_cons_succ]) | (refine wpG_at_skip (by rfl) ?_; simp only [Act.put, List.setIfInBounds_toArray, List.set_cons_zero, List.set_cons_succ]) | (refine wpG_held_skip (by rfl) ?_; simp only [Act.put, List.setIfInBounds_toArray, List.set_cons_zero, List.set_cons_succ]) | (refine wpG_held (v := ?_) (by rfl) ?_ ?_; rotate_left; (focus (intro w' hSw; (try dsimp only at hSw); go_split_ands; first | (go_simp; with_reducible rfl) | (go_simp; done))); simp only [Act.put, List.setIfInBounds_toArray, List.set_cons_zero, List.set_cons_succ]))
  refine wpG_nil (NoPanic.normal ?_)
  go_wp2_with fail
  go_ret
  exact ⟨rfl, _, H3.out, KF.out⟩
end
end Go.Proofs.Ytpfhjfijpmcnkaa
