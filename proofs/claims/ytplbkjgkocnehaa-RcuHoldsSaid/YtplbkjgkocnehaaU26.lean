/- Walks: RcuOrder. -/
import Derived.Test.YtplbkjgkocnehaaU25
namespace Go.Proofs.Ytplbkjgkocnehaa
set_option linter.unusedSimpArgs false
set_option linter.unusedVariables false
open Go.RowKit Go.Shelf
attribute [local go_sem ↓] Go.wp_at_zero Go.wp_at_succ
/-- both while the tasks leave, t of them gone -/
structure ON (w0 w : World) (p : Nat) (u v : Value) (H : List HV) (q : Nat) (dv ov rv : Value) (G : List QV) (S : List (Ret × List Int)) (Z : List Nat) (K n t : Nat) (D : List Nat) (R : List (Ret × List Nat)) : Prop where
  c : UAt w p u v D H R
  o : UOk D R K
  d : QAt w q dv ov rv D Z G S
  r : R.length = S.length
  n : D.length = n
  z : ∀ k, k < t → D.getD k 0 = 0
  k : Kp NoB w0 w
/-- a row's cell, as a number -/
def depC (u : Value) (t : Nat) (W : World) : Nat := match u with
  | .slice (some ⟨b, _, _⟩) _ _ => (match W.cell? ⟨b, t, none⟩ with | some (.int _ x) => x.toNat | _ => 0)
  | _ => 0
section
variable {w0 w w' : World} {p q K n t : Nat} {u v dv ov rv : Value} {H : List HV} {G : List QV} {D Z : List Nat} {S : List (Ret × List Int)} {R : List (Ret × List Nat)}
theorem ON.dep (h : ON w0 w p u v H q dv ov rv G S Z K n t D R) {d : Nat} (hd : D[t]? = some d) : depC u t w = d := by
  obtain ⟨b, c, rfl, _, _, h1, _⟩ := row_slot h.c.hu hd
  unfold depC
  simp only [h1]
  exact Int.toNat_natCast d
theorem depE_get {d : Nat} (hd : D[t]? = some d) : depE D (t : Int) = d := by
  unfold depE
  have hl := (List.getElem?_eq_some_iff.1 hd).1
  rw [if_pos (show inT D t from ⟨by omega, by omega⟩), Int.toNat_natCast, List.getD_eq_getElem?_getD, hd]; rfl
theorem levD_get {d : Nat} (hd : D[t]? = some d) : levD D (t : Int) = D.set t (d - 1) := by
  unfold levD
  have hl := (List.getElem?_eq_some_iff.1 hd).1
  rw [if_pos (show inT D t from ⟨by omega, by omega⟩), Int.toNat_natCast, List.getD_eq_getElem?_getD, hd]; rfl
theorem levR_len {t : Int} : (levR D R t).length = R.length := by
  unfold levR
  split
  · simp [gone]
  · rfl
theorem ON.step (h : ON w0 w p u v H q dv ov rv G S Z K n t D R) {d : Nat} (hd : D[t]? = some d) (h0 : 0 < d) (dj : ∀ b, ufp p u v H b → ¬ qfp q dv ov rv G b) (nw : ∀ b, tfp p u v H q dv ov rv G b → w0.heap.size ≤ b)
    (c' : UAt w' p u v (levD D (t : Int)) H (levR D R (t : Int))) (g : Grow w w' (ufp p u v H) (ufp p u v H)) :
    QAt w' q dv ov rv D Z G S ∧ ∀ b c, dv = .slice (some ⟨b, 0, none⟩) D.length c → ON w0 (w'.setCell ⟨b, t, none⟩ (.int .i64 ((d : Int) - 1))) p u v H q dv ov rv G S Z K n t (levD D (t : Int)) (levR D R (t : Int)) := by
  have hq : QAt w' q dv ov rv D Z G S := h.d.kp g.kp (fun b hb hu => dj b hu hb)
  refine ⟨hq, fun b c hdv => ?_⟩
  have hl := (List.getElem?_eq_some_iff.1 hd).1
  have hb : qfp q dv ov rv G b := .inr (.inl (by rw [hdv]; rfl))
  have KS : Kp (fun x => x = b) w' (w'.setCell ⟨b, t, none⟩ (.int .i64 ((d : Int) - 1))) := (Kp.refl (fun x => x = b) w').setCell (p := ⟨b, t, none⟩) _ (fun _ => rfl)
  have e : ((d : Int) - 1) = ((d - 1 : Nat) : Int) := by omega
  refine ⟨c'.kp KS (fun x hx e => dj x hx (e ▸ hb)), h.o.lev _, ?_, levR_len.trans h.r, ?_, fun k hk => ?_, (h.k.trans' g.kp (fun x hx hu => by have := nw x (.inl hu); omega)).trans' KS (fun x hx e => by have := nw b (.inr hb); omega)⟩
  · rw [e, levD_get hd]; exact hq.setD hdv hl _
  · rw [levD_get hd, List.length_set]; exact h.n
  · rw [levD_get hd, List.getD_eq_getElem?_getD, List.getElem?_set_ne (by omega), ← List.getD_eq_getElem?_getD]; exact h.z k hk
theorem ON.next (h : ON w0 w p u v H q dv ov rv G S Z K n t D R) (hd : D[t]? = some 0) : ON w0 w p u v H q dv ov rv G S Z K n (t + 1) D R :=
  ⟨h.c, h.o, h.d, h.r, h.n, fun k hk => by
    rcases Nat.lt_succ_iff_lt_or_eq.1 hk with h1 | h1
    · exact h.z k h1
    · subst h1; rw [List.getD_eq_getElem?_getD, hd]; rfl, h.k⟩
/-- nobody is waited for -/
theorem ON.free (h : ON w0 w p u v H q dv ov rv G S Z K n n D R) : ∀ x ws, (x, ws) ∈ R → ws = [] := by
  intro x ws hm
  match ws, hm with
  | [], _ => rfl
  | t :: ws, hm =>
    exfalso
    have h1 := h.o.i x _ hm t List.mem_cons_self
    have h2 := (h.o.w x _ hm).2 t List.mem_cons_self
    rw [h.z t (by have := h.n; omega)] at h1
    cases h1
theorem ON.start (T : TT w p u v H q dv ov rv G D Z S K) (k : Kp NoB w0 w) : ON w0 w p u v H q dv ov rv G S Z K D.length 0 D (relR Z S) :=
  ⟨T.c, T.oc, T.d, by unfold relR; rw [List.length_map], rfl, fun k hk => by omega, k⟩
theorem UOk.drop (o : UOk D R K) (j : Nat) : UOk D (R.drop j) K := by
  induction j with
  | zero => exact o
  | succ j ih =>
    rcases h : R.drop j with _ | ⟨r, R'⟩
    · rw [List.drop_add_one_eq_tail_drop, h]; rw [h] at ih; exact ih
    · rw [List.drop_add_one_eq_tail_drop, h]; rw [h] at ih; exact ih.tail
theorem nextU {j : Nat} {X : List (Ret × List Nat)} (hX : ∀ x ws, (x, ws) ∈ X → ws = []) {x : Ret} (hx : (X.map (·.1))[j]? = some x) : X.drop j = (x, []) :: X.drop (j + 1) := by
  rw [List.getElem?_map] at hx
  rcases h : X[j]? with _ | ⟨y, ws⟩
  · rw [h] at hx; cases hx
  · rw [h] at hx
    injection hx with hx
    have hl := (List.getElem?_eq_some_iff.1 h).1
    rw [List.drop_eq_getElem_cons hl]
    have e : X[j] = (y, ws) := (List.getElem?_eq_some_iff.1 h).2
    rw [e, hX y ws (List.mem_of_getElem? h), show y = x from hx]
end
end Go.Proofs.Ytplbkjgkocnehaa
