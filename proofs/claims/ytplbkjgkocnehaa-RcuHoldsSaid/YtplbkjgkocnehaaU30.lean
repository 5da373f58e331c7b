/- Walks and laws under RcuHolds: who is held, and how one leaves. -/
import Derived.Test.YtplbkjgkocnehaaU26
namespace Go.Proofs.Ytplbkjgkocnehaa
set_option linter.unusedSimpArgs false
set_option linter.unusedVariables false
open Go.RowKit Go.Shelf
attribute [local go_sem ↓] Go.wp_at_zero Go.wp_at_succ
def eB (b : Bool) : List Value := [.bool b]
theorem eB_len (b : Bool) : (eB b).length = 1 := rfl
theorem u38 : Try.prog.underlying 38 = some (.slice 4) := by kernel_rfl
theorem i4 : (Try.prog.info? 4).map (fun i => (i.zero, i.size, i.bytes)) = some (some (.bool false), 1, 1) := by kernel_rfl
/-- a row of bools that says who is in ws -/
structure Row01 (w : World) (h : Value) (n : Nat) (ws : List Nat) : Prop where
  r : ∃ B, RowAt w 4 eB 1 h B ∧ B.length = n ∧ ∀ k, k < n → B[k]? = some (decide (k ∈ ws))
theorem Row01.kp {F : Nat → Prop} {w w' : World} {h : Value} {n : Nat} {ws : List Nat} (r : Row01 w h n ws) (k : Kp F w w') (hF : ∀ b, h.ownBlock = some b → ¬ F b) : Row01 w' h n ws := by
  obtain ⟨B, h1, h2, h3⟩ := r
  exact ⟨B, h1.kp k hF, h2, h3⟩
theorem Row01.kn {w w' : World} {h : Value} {n : Nat} {ws : List Nat} (r : Row01 w h n ws) (k : Kp NoB w w') : Row01 w' h n ws := r.kp k (fun _ _ h => h)
theorem Row01.form {w : World} {h : Value} {n : Nat} {ws : List Nat} (r : Row01 w h n ws) : ∃ o c, h = .slice o n c ∧ n ≤ c := by
  obtain ⟨B, h1, h2, h3⟩ := r
  obtain ⟨o, c, e, hc, _⟩ := h1.form
  exact ⟨o, c, by rw [← h2]; exact e, by rw [← h2]; exact hc⟩
theorem Row01.slot {w : World} {h : Value} {n : Nat} {ws : List Nat} (r : Row01 w h n ws) {k : Nat} (hk : k < n) : ∃ b c, h = .slice (some ⟨b, 0, none⟩) n c ∧ n ≤ c ∧ w.cell? ⟨b, k, none⟩ = some (.bool (decide (k ∈ ws))) ∧ w.frozen? ⟨b, k, none⟩ = false ∧ b < w.heap.size ∧
    ∀ x ws', (∀ j, j < n → j ≠ k → (j ∈ ws' ↔ j ∈ ws)) → (k ∈ ws' ↔ x = true) → Row01 (w.setCell ⟨b, k, none⟩ (.bool x)) h n ws' := by
  obtain ⟨B, h1, h2, h3⟩ := r
  obtain ⟨b, c, A, hv, hb, hA, hc, hm, hs⟩ := h1.pos eB_len (by omega)
  subst hv
  have e := h3 k hk
  refine ⟨b, c, by rw [h2], by omega, ?_, ?_, blk_lt hb, fun x ws' hj hx => ?_⟩
  · have := hA k 0 _ e (by show 0 < 1; omega)
    rw [Nat.mul_one, Nat.add_zero] at this
    rw [cell_of hb]
    exact this
  · exact frozen_of hb k
  · have hp := h1.put eB_len (k := k) (by omega) (y := x) (z := .bool x) rfl
    refine ⟨B.set k x, hp, by rw [List.length_set]; exact h2, fun j hjn => ?_⟩
    by_cases hjk : k = j
    · subst hjk
      rw [List.getElem?_set_self (by omega)]
      congr 1
      cases x
      · exact (decide_eq_false (fun h => by cases hx.1 h)).symm
      · exact (decide_eq_true (hx.2 rfl)).symm
    · rw [List.getElem?_set_ne hjk, h3 j hjn]
      congr 1
      exact decide_eq_decide.2 (hj j hjn (Ne.symm hjk)).symm
section
variable {w w' : World} {p q n K : Nat} {u v : Value} {D : List Nat} {H : List HV} {R : List (Ret × List Nat)} {x : Ret} {ws : List Nat}
/-- who stays held behind a step -/
def wsN (D' : List Nat) (ws : List Nat) (t : Int) : List Nat := if inT D' t ∧ t.toNat ∈ ws ∧ D'.getD t.toNat 0 = 0 then ws.filter (· != t.toNat) else ws
theorem filter_out {ws : List Nat} {t : Nat} (h : t ∉ ws) : ws.filter (· != t) = ws := by
  rw [List.filter_eq_self]
  intro a ha
  exact bne_iff_ne.2 (fun e => h (e ▸ ha))
theorem entD_len (D : List Nat) (t : Int) : (entD D t).length = D.length := by unfold entD; split <;> simp
theorem levD_len (D : List Nat) (t : Int) : (levD D t).length = D.length := by unfold levD; split <;> simp
theorem inT_len {D D' : List Nat} (h : D'.length = D.length) {t : Int} : inT D' t ↔ inT D t := by unfold inT; rw [h]
theorem getD_self {D : List Nat} {t d : Nat} (h : t < D.length) : (D.set t d).getD t 0 = d := by rw [List.getD_eq_getElem?_getD, List.getElem?_set_self h]; rfl
theorem ws_ent (o : UOk D [(x, ws)] K) (t : Int) : wsN (entD D t) ws t = ws := by
  unfold wsN
  rw [if_neg]
  rintro ⟨h1, h2, h3⟩
  have h1' := (inT_len (entD_len D t)).1 h1
  unfold entD at h3
  rw [if_pos h1', getD_self (by have := h1'.1; have := h1'.2; omega)] at h3
  omega
theorem ws_lev (o : UOk D [(x, ws)] K) (t : Int) : levR D [(x, ws)] t = [(x, wsN (levD D t) ws t)] := by
  unfold wsN levR
  by_cases hi : inT D t
  · have hi' := (inT_len (levD_len D t)).2 hi
    have e : (levD D t).getD t.toNat 0 = D.getD t.toNat 0 - 1 := by
      unfold levD
      rw [if_pos hi, getD_self (by have := hi.1; have := hi.2; omega)]
    rw [e]
    by_cases h1 : D.getD t.toNat 0 = 1
    · rw [if_pos ⟨hi, h1⟩]
      by_cases hm : t.toNat ∈ ws
      · rw [if_pos ⟨hi', hm, by omega⟩]; rfl
      · rw [if_neg (fun h => hm h.2.1)]
        show [(x, ws.filter (· != t.toNat))] = _
        rw [filter_out hm]
    · rw [if_neg (fun h => h1 h.2), if_neg]
      rintro ⟨_, hm, h0⟩
      have := o.i x ws List.mem_cons_self _ hm
      omega
  · rw [if_neg (fun h => hi h.1), if_neg (fun h => hi ((inT_len (levD_len D t)).1 h.1))]
/-- what a step leaves -/
def StPost (w : World) (p : Nat) (u v : Value) (H : List HV) (x : Ret) (ws : List Nat) (D : List Nat) (K : Nat) (t : Int) (e : Ending) (w' : World) : Prop :=
  ∃ c D', e = .returned (.int .i64 c) ∧ D'.length = D.length ∧ UAt w' p u v D' H [(x, wsN D' ws t)] ∧ UOk D' [(x, wsN D' ws t)] (K + 1) ∧ Grow w w' (ufp p u v H) (ufp p u v H)
theorem enter_st (h : UAt w p u v D H [(x, ws)]) (o : UOk D [(x, ws)] K) (hK : K + 1 ≤ 1000) (t : Int) : Calls Try.prog 21 #[.pointer (some ⟨p, 0, none⟩), .int .i64 t] w (StPost w p u v H x ws D K t) := by
  refine (enter_any h o t).mono ?_
  rintro e w1 ⟨rfl, h1, g1⟩
  refine ⟨_, _, rfl, entD_len D t, ?_, ?_, g1⟩
  · rw [ws_ent o]; exact h1
  · rw [ws_ent o]; exact o.ent hK t
theorem leave_st (h : UAt w p u v D H [(x, ws)]) (o : UOk D [(x, ws)] K) (hK : K + 1 ≤ 1000) (t : Int) : Calls Try.prog 22 #[.pointer (some ⟨p, 0, none⟩), .int .i64 t] w (StPost w p u v H x ws D K t) := by
  refine (leave_any h o t).mono ?_
  rintro e w1 ⟨rfl, h1, g1⟩
  refine ⟨_, _, rfl, levD_len D t, ?_, ?_, g1⟩
  · rw [← ws_lev o]; exact h1
  · rw [← ws_lev o]; exact (o.lev t).mono (by omega) hK
/-- the code's alone, nothing retired, new since w0 -/
def HN0 (w0 w : World) (p n K : Nat) : Prop := ∃ u D, UAt w p u (.slice none 0 0) D [] [] ∧ UOk D [] K ∧ D.length = n ∧ (∀ b, ufp p u (.slice none 0 0) [] b → w0.heap.size ≤ b) ∧ Kp NoB w0 w
theorem HN0.kn {w0 : World} (h : HN0 w0 w p n K) (k : Kp NoB w w') : HN0 w0 w' p n K := by
  obtain ⟨u, D, h1, h2, h3, h4, h5⟩ := h
  exact ⟨u, D, h1.kn k, h2, h3, h4, h5.trans k⟩
theorem HN0.k {w0 : World} (h : HN0 w0 w p n K) : Kp NoB w0 w := by obtain ⟨u, D, h1, h2, h3, h4, h5⟩ := h; exact h5
def HPost (w0 : World) (p n K : Nat) (e : Ending) (w' : World) : Prop := ∃ b, e = .returned (.bool b) ∧ HN0 w0 w' p n K
theorem do_fresh {w0 : World} {dv ov : Value} (h : HN0 w0 w p n K) (hK : K + 1 ≤ 1000) (n1 : 1 ≤ n) (n8 : n ≤ 8) (hQ : QAt w' q dv ov (.slice none 0 0) (List.replicate n 0) (List.replicate n 0) [] [])
    (hq : ∀ b, qfp q dv ov (.slice none 0 0) [] b → w.heap.size ≤ b) (k : Kp NoB w w') {c : Int} (hc : -3 < c ∧ c < 3) (t : Int) :
    Calls Try.prog 13 #[.pointer (some ⟨p, 0, none⟩), .pointer (some ⟨q, 0, none⟩), .agg #[.int .i64 c, .int .i64 t, .slice none 0 0, .slice none 0 0, .slice none 0 0]] w' (HPost w0 p n (K + 1)) := by
  obtain ⟨u, D, h1, h2, h3, h4, h5⟩ := h
  have dj : ∀ b, ufp p u (.slice none 0 0) [] b → ¬ qfp q dv ov (.slice none 0 0) [] b := fun b hb hb' => by have := h1.lt b hb; have := hq b hb'; omega
  have nw : ∀ b, dfp p u (.slice none 0 0) [] q dv ov b → w0.heap.size ≤ b := by
    rintro b (hb | hb | hb | hb)
    · exact h4 b hb
    · exact Nat.le_trans h5.size (hq b (.inl hb))
    · exact Nat.le_trans h5.size (hq b (.inr (.inl hb)))
    · exact Nat.le_trans h5.size (hq b (.inr (.inr (.inl hb))))
  by_cases c1 : c = 1
  · subst c1
    refine (do1 (h1.kn k) hQ dj h2 (QOkS.new n1 n8) t _ _ _).mono ?_
    rintro e w2 ⟨rfl, hA, _, k2⟩
    exact ⟨_, rfl, u, _, hA, h2.ent hK t, (entD_len D t).trans h3, h4, (h5.trans k).trans' k2 (fun b hb e => by have := nw b e; omega)⟩
  · by_cases c2 : c = 2
    · subst c2
      refine (do2 (h1.kn k) hQ dj h2 (QOkS.new n1 n8) t _ _ _).mono ?_
      rintro e w2 ⟨rfl, hA, _, k2⟩
      have e : levR D [] t = [] := by unfold levR; split <;> rfl
      have o2 := h2.lev t
      rw [e] at hA o2
      exact ⟨_, rfl, u, _, hA, o2.mono (by omega) hK, (levD_len D t).trans h3, h4, (h5.trans k).trans' k2 (fun b hb e => by have := nw b e; omega)⟩
    · refine (do0 c1 c2 (by omega) (by omega) t _ _ _).mono ?_
      rintro e w2 ⟨rfl, k2⟩
      exact ⟨_, rfl, u, D, (h1.kn k).kn k2, h2.mono (by omega) hK, h3, h4, (h5.trans k).trans k2⟩
end
end Go.Proofs.Ytplbkjgkocnehaa
