/- Plain law: the code's row and the document's. -/
import Derived.Test.YtplbkjgkocnehaaU16
namespace Go.Proofs.Ytplbkjgkocnehaa
set_option linter.unusedSimpArgs false
set_option linter.unusedVariables false
open Go.RowKit
def relR (Z : List Nat) (S : List (Ret × List Int)) : List (Ret × List Nat) := S.map fun s => (s.1, waitsOf Z s.2)
structure RelOk (Z : List Nat) (S : List (Ret × List Int)) : Prop where
  l : ∀ x out, (x, out) ∈ S → out.length = Z.length
  b : ∀ x out, (x, out) ∈ S → ∀ t, out.getD t 0 ≤ ((Z.getD t 0 : Nat) : Int)
theorem getD_set_self {Z : List Nat} {t d : Nat} (h : t < Z.length) : (Z.set t d).getD t 0 = d := by rw [List.getD_eq_getElem?_getD, List.getElem?_set_self h]; rfl
theorem getD_set_other {Z : List Nat} {t k d : Nat} (h : k ≠ t) : (Z.set t d).getD k 0 = Z.getD k 0 := by rw [List.getD_eq_getElem?_getD, List.getElem?_set_ne (Ne.symm h), ← List.getD_eq_getElem?_getD]
theorem waits_gone {Z : List Nat} {out : List Int} {t : Nat} (ht : t < Z.length) (hb : out.getD t 0 ≤ ((Z.getD t 0 : Nat) : Int)) : waitsOf (Z.set t (Z.getD t 0 + 1)) out = (waitsOf Z out).filter (· != t) := by
  unfold waitsOf wK
  rw [List.filter_filter]
  apply List.filter_congr
  intro k _
  unfold wt
  by_cases h : k = t
  · subst h
    rw [getD_set_self ht]
    have e : (((Z.getD k 0 + 1 : Nat) : Int) == out.getD k 0) = false := by rw [beq_eq_false_iff_ne]; omega
    rw [e]
    simp
  · rw [getD_set_other h]
    have e : (k != t) = true := bne_iff_ne.2 h
    rw [e, Bool.true_and]
theorem relR_gone {Z : List Nat} {S : List (Ret × List Int)} {t : Nat} (ht : t < Z.length) (o : RelOk Z S) : relR (Z.set t (Z.getD t 0 + 1)) S = gone t (relR Z S) := by
  unfold relR gone
  rw [List.map_map]
  apply List.map_congr_left
  rintro ⟨x, out⟩ hm
  show (x, waitsOf _ out) = (x, _)
  rw [waits_gone ht (o.b x out hm t)]
theorem qout_waits (D Z : List Nat) : waitsOf Z (qout D Z) = inside D := by
  unfold waitsOf inside
  rw [show (qout D Z).length = D.length from qoutK_len D Z _]
  unfold wK inK
  apply List.filter_congr
  intro k hk
  have hk' := List.mem_range.1 hk
  have e : (qout D Z).getD k 0 = if D.getD k 0 = 0 then -1 else ((Z.getD k 0 : Nat) : Int) := by
    unfold qout qoutK
    rw [List.getD_eq_getElem?_getD, List.getElem?_map, List.getElem?_range hk']; rfl
  unfold wt
  rw [e]
  by_cases h : D.getD k 0 = 0
  · rw [if_pos h, h]; rfl
  · rw [if_neg h]
    have e2 : (D.getD k 0 != 0) = true := bne_iff_ne.2 h
    rw [e2]
    simp
theorem RelOk.lev {D Z : List Nat} {S : List (Ret × List Int)} (o : RelOk Z S) (hl : Z.length = D.length) (t : Int) : RelOk (levZ D Z t) S ∧ relR (levZ D Z t) S = levR D (relR Z S) t := by
  unfold levZ levR
  by_cases h : inT D t ∧ D.getD t.toNat 0 = 1
  · rw [if_pos h, if_pos h]
    obtain ⟨k, d, rfl, hd, _, e2⟩ := in_get h.1
    rw [e2]
    have hk : k < Z.length := by rw [hl]; exact (List.getElem?_eq_some_iff.1 hd).1
    refine ⟨⟨fun x out hm => by rw [List.length_set]; exact o.l x out hm, fun x out hm t => ?_⟩, relR_gone hk o⟩
    by_cases e : t = k
    · subst e
      rw [getD_set_self hk]
      have := o.b x out hm t
      omega
    · rw [getD_set_other e]; exact o.b x out hm t
  · rw [if_neg h, if_neg h]; exact ⟨o, rfl⟩
theorem RelOk.ret {D Z : List Nat} {S : List (Ret × List Int)} (o : RelOk Z S) (hl : Z.length = D.length) (x : Ret) : RelOk Z (qretS D Z S x) ∧ relR Z (qretS D Z S x) = retR D (relR Z S) x := by
  unfold qretS retR
  by_cases h : x.none
  · rw [if_pos h, if_pos h]; exact ⟨o, rfl⟩
  · rw [if_neg h, if_neg h]
    refine ⟨⟨fun y out hm => ?_, fun y out hm t => ?_⟩, ?_⟩
    · rcases List.mem_append.1 hm with hm | hm
      · exact o.l y out hm
      · simp at hm; obtain ⟨rfl, rfl⟩ := hm
        rw [hl]; exact qoutK_len D Z _
    · rcases List.mem_append.1 hm with hm | hm
      · exact o.b y out hm t
      · simp at hm; obtain ⟨rfl, rfl⟩ := hm
        unfold qout qoutK
        rw [List.getD_eq_getElem?_getD, List.getElem?_map]
        by_cases ht : t < D.length
        · rw [List.getElem?_range ht]
          show (if D.getD t 0 = 0 then (-1 : Int) else _) ≤ _
          split <;> omega
        · rw [List.getElem?_eq_none (by simpa using ht)]
          show (0 : Int) ≤ _
          omega
    · unfold relR
      rw [List.map_append]
      show _ ++ [(x, waitsOf Z (qout D Z))] = _
      rw [qout_waits]
theorem RelOk.tail {Z : List Nat} {s : Ret × List Int} {S : List (Ret × List Int)} (o : RelOk Z (s :: S)) : RelOk Z S := ⟨fun x out h => o.l x out (List.mem_cons_of_mem _ h), fun x out h => o.b x out (List.mem_cons_of_mem _ h)⟩
theorem rel_ripe (Z : List Nat) (S : List (Ret × List Int)) : ripe (relR Z S) = qripe Z S := by
  cases S with
  | nil => rfl
  | cons s S =>
    show (((waitsOf Z s.2).length : Int) == 0) = (((ints (waitsOf Z s.2)).length : Int) == 0)
    unfold ints; rw [List.length_map]
theorem rel_waits (Z : List Nat) (S : List (Ret × List Int)) : waitsL (relR Z S) = qwaitsL Z S := by
  cases S with
  | nil => rfl
  | cons s S => rfl
/-- the code's and the document's, side by side -/
structure TT (w : World) (p : Nat) (u v : Value) (H : List HV) (q : Nat) (dv ov rv : Value) (G : List QV) (D Z : List Nat) (S : List (Ret × List Int)) (K : Nat) : Prop where
  c : UAt w p u v D H (relR Z S)
  d : QAt w q dv ov rv D Z G S
  dj : ∀ b, ufp p u v H b → ¬ qfp q dv ov rv G b
  r : RelOk Z S
  oc : UOk D (relR Z S) K
  oq : QOkS D Z S K
/-- all their blocks -/
def tfp (p : Nat) (u v : Value) (H : List HV) (q : Nat) (dv ov rv : Value) (G : List QV) (b : Nat) : Prop := ufp p u v H b ∨ qfp q dv ov rv G b
section
variable {w w' : World} {p q : Nat} {u v dv ov rv : Value} {H : List HV} {G : List QV} {D Z : List Nat} {S : List (Ret × List Int)} {K : Nat}
theorem TT.lt (h : TT w p u v H q dv ov rv G D Z S K) : ∀ b, tfp p u v H q dv ov rv G b → b < w.heap.size := fun b hb => hb.elim (h.c.lt b) (h.d.lt b)
theorem TT.kp {F : Nat → Prop} (h : TT w p u v H q dv ov rv G D Z S K) (k : Kp F w w') (hF : ∀ b, tfp p u v H q dv ov rv G b → ¬ F b) : TT w' p u v H q dv ov rv G D Z S K :=
  ⟨h.c.kp k (fun b hb => hF b (.inl hb)), h.d.kp k (fun b hb => hF b (.inr hb)), h.dj, h.r, h.oc, h.oq⟩
theorem TT.kn (h : TT w p u v H q dv ov rv G D Z S K) (k : Kp NoB w w') : TT w' p u v H q dv ov rv G D Z S K := h.kp k (fun _ _ h => h)
end
end Go.Proofs.Ytplbkjgkocnehaa
