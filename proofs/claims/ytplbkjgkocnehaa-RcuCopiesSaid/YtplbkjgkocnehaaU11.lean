/- What each call does to an RCU, in one sentence each; which blocks. -/
import Derived.Test.YtplbkjgkocnehaaU10
namespace Go.Proofs.Ytplbkjgkocnehaa
set_option linter.unusedSimpArgs false
set_option linter.unusedVariables false
open Go.RowKit
/-- blocks P, of which some may turn, become blocks Q: those, and new ones -/
structure Grow (w w' : World) (P Q : Nat → Prop) : Prop where
  kp : Kp P w w'
  fp : ∀ b, Q b → P b ∨ w.heap.size ≤ b
theorem Grow.refl (w : World) (P : Nat → Prop) : Grow w w P P := ⟨Kp.refl _ w, fun _ h => .inl h⟩
theorem Grow.trans {w w1 w2 : World} {P Q S : Nat → Prop} (h : Grow w w1 P Q) (k : Grow w1 w2 Q S) : Grow w w2 P S :=
  ⟨h.kp.trans' k.kp (fun b hb hq => (h.fp b hq).resolve_right (by omega)), fun b hs => by
    rcases k.fp b hs with h1 | h1
    · exact h.fp b h1
    · exact .inr (Nat.le_trans h.kp.size h1)⟩
theorem Grow.of_kn {w w' : World} {P : Nat → Prop} (k : Kp NoB w w') : Grow w w' P P := ⟨k.mono (fun _ h => h.elim), fun _ h => .inl h⟩
theorem Grow.drew {w w' : World} {P Q : Nat → Prop} (h : Grow w w' P Q) : Grow w w'.drew P Q := ⟨h.kp.drew, h.fp⟩
theorem Grow.alloc {w w' : World} {P Q : Nat → Prop} (h : Grow w w' P Q) (o : Obj) : Grow w (w'.alloc o) P Q := ⟨h.kp.alloc o, h.fp⟩
section
variable {w w' : World} {p : Nat} {u v : Value} {D : List Nat} {H : List HV} {R : List (Ret × List Nat)} {K : Nat}
def inT (D : List Nat) (t : Int) : Prop := 0 ≤ t ∧ t < D.length
instance (D : List Nat) (t : Int) : Decidable (inT D t) := by unfold inT; infer_instance
def depE (D : List Nat) (t : Int) : Nat := if inT D t then D.getD t.toNat 0 else 0
def entE (D : List Nat) (t : Int) : Int := if inT D t then 0 else 2
def entD (D : List Nat) (t : Int) : List Nat := if inT D t then D.set t.toNat (D.getD t.toNat 0 + 1) else D
def levE (D : List Nat) (t : Int) : Int := if inT D t then (if D.getD t.toNat 0 = 0 then 18 else 0) else 2
def levD (D : List Nat) (t : Int) : List Nat := if inT D t then D.set t.toNat (D.getD t.toNat 0 - 1) else D
def levR (D : List Nat) (R : List (Ret × List Nat)) (t : Int) : List (Ret × List Nat) := if inT D t ∧ D.getD t.toNat 0 = 1 then gone t.toNat R else R
def Ret.none (x : Ret) : Prop := x.a.length + x.b.length + x.c.length = 0
instance (x : Ret) : Decidable x.none := by unfold Ret.none; infer_instance
def retR (D : List Nat) (R : List (Ret × List Nat)) (x : Ret) : List (Ret × List Nat) := if x.none then R else R ++ [(x, inside D)]
theorem in_get {D : List Nat} {t : Int} (h : inT D t) : ∃ (k d : Nat), t = k ∧ D[k]? = some d ∧ D.getD t.toNat 0 = d ∧ t.toNat = k := by
  obtain ⟨h0, h1⟩ := h
  obtain ⟨k, rfl⟩ : ∃ k : Nat, t = k := ⟨t.toNat, by omega⟩
  have hk : k < D.length := by omega
  exact ⟨k, D[k], rfl, List.getElem?_eq_getElem hk, by rw [Int.toNat_natCast, List.getD_eq_getElem?_getD, List.getElem?_eq_getElem hk]; rfl, Int.toNat_natCast k⟩
theorem ufp_u {b : Nat} (h : u.ownBlock = some b) : ufp p u v H b := .inr (.inl h)
theorem ufp_m {b : Nat} (h : ∃ h ∈ H, h.m = b) : ufp p u v H b := by
  obtain ⟨h', hm, e⟩ := h
  exact .inr (.inr (.inr ⟨h', hm, .inr (.inr (.inr e))⟩))
theorem depth_any (h : UAt w p u v D H R) (o : UOk D R K) (t : Int) : Calls Try.prog 15 #[.pointer (some ⟨p, 0, none⟩), .int .i64 t] w fun e w' => e = .returned (.int .i64 (depE D t)) ∧ w = w' := by
  unfold depE
  by_cases hi : inT D t
  · obtain ⟨k, d, rfl, hd, e, _⟩ := in_get hi
    rw [if_pos hi, e]
    exact depth_in h o hd
  · rw [if_neg hi]
    exact depth_out h o hi
theorem enter_any (h : UAt w p u v D H R) (o : UOk D R K) (t : Int) : Calls Try.prog 21 #[.pointer (some ⟨p, 0, none⟩), .int .i64 t] w fun e w' => e = .returned (.int .i64 (entE D t)) ∧ UAt w' p u v (entD D t) H R ∧ Grow w w' (ufp p u v H) (ufp p u v H) := by
  unfold entE entD
  by_cases hi : inT D t
  · obtain ⟨k, d, rfl, hd, e, e2⟩ := in_get hi
    rw [if_pos hi, if_pos hi, e, e2]
    refine (enter_in h o hd).mono ?_
    rintro e w1 ⟨rfl, h1, k1⟩
    exact ⟨rfl, h1, k1.mono (fun _ h => ufp_u h), fun _ h => .inl h⟩
  · rw [if_neg hi, if_neg hi]
    refine (enter_out h o hi).mono ?_
    rintro e w1 ⟨rfl, rfl⟩
    exact ⟨rfl, h, Grow.refl _ _⟩
theorem leave_any (h : UAt w p u v D H R) (o : UOk D R K) (t : Int) : Calls Try.prog 22 #[.pointer (some ⟨p, 0, none⟩), .int .i64 t] w fun e w' => e = .returned (.int .i64 (levE D t)) ∧ UAt w' p u v (levD D t) H (levR D R t) ∧ Grow w w' (ufp p u v H) (ufp p u v H) := by
  unfold levE levD levR
  by_cases hi : inT D t
  · obtain ⟨k, d, rfl, hd, e, e2⟩ := in_get hi
    rw [if_pos hi, if_pos hi, e, e2]
    match d, hd, e with
    | 0, hd, e =>
      rw [if_pos rfl, if_neg (by rintro ⟨_, h⟩; cases h)]
      refine (leave_none h o hd).mono ?_
      rintro e w1 ⟨rfl, rfl⟩
      refine ⟨rfl, ?_, Grow.refl _ _⟩
      rw [show (0 : Nat) - 1 = 0 from rfl, show D.set k 0 = D from ?_]
      · exact h
      · apply List.ext_getElem?
        intro i
        by_cases hik : k = i
        · subst hik
          rw [List.getElem?_set_self (List.getElem?_eq_some_iff.1 hd).1, hd]
        · rw [List.getElem?_set_ne hik]
    | 1, hd, e =>
      rw [if_neg (by omega), if_pos ⟨hi, rfl⟩]
      refine (leave_last h o hd).mono ?_
      rintro e w1 ⟨rfl, h1, k1⟩
      exact ⟨rfl, h1, k1.mono (fun _ h => h.elim ufp_u ufp_m), fun _ h => .inl h⟩
    | d + 2, hd, e =>
      rw [if_neg (by omega), if_neg (by rintro ⟨_, h⟩; omega)]
      refine (leave_one h o hd).mono ?_
      rintro e w1 ⟨rfl, h1, k1⟩
      exact ⟨rfl, h1, k1.mono (fun _ h => ufp_u h), fun _ h => .inl h⟩
  · rw [if_neg hi, if_neg hi, if_neg (fun h => hi h.1)]
    refine (leave_out h o hi).mono ?_
    rintro e w1 ⟨rfl, rfl⟩
    exact ⟨rfl, h, Grow.refl _ _⟩
theorem retire_any (h : UAt w p u v D H R) (o : UOk D R K) {a b c : Value} {x : Ret} (hx : SlR w a b c x) (hf : x.few) :
    Calls Try.prog 17 #[.pointer (some ⟨p, 0, none⟩), .agg #[a, b, c]] w fun e w' => e = .returned (.int .i64 0) ∧ ∃ v' H', UAt w' p u v' D H' (retR D R x) ∧ Grow w w' (ufp p u v H) (ufp p u v' H') ∧ Kp (fun b => b = p ∨ v.ownBlock = some b) w w' := by
  unfold retR
  by_cases hn : x.none
  · rw [if_pos hn]
    refine (retire_none h o hx hn).mono ?_
    rintro e w1 ⟨rfl, k1⟩
    exact ⟨rfl, v, H, h.kn k1, Grow.of_kn k1, k1.mono (fun _ h => h.elim)⟩
  · rw [if_neg hn]
    refine (retire_some h o hx hf (Nat.pos_of_ne_zero hn)).mono ?_
    rintro e w1 ⟨rfl, v', h', h1, hfr, hv, k1⟩
    refine ⟨rfl, v', H ++ [h'], h1, ⟨k1.mono (fun b hb => hb.elim (fun e => .inl e) (fun e => .inr (.inr (.inl e)))), ?_⟩, k1⟩
    rintro b (rfl | hb | hb | ⟨h2, hm, hb⟩)
    · exact .inl (.inl rfl)
    · exact .inl (.inr (.inl hb))
    · rcases hv with e | ⟨b', e, hb'⟩
      · exact .inl (.inr (.inr (.inl (e ▸ hb))))
      · rw [hb] at e; injection e with e; subst e; exact .inr hb'
    · rcases List.mem_append.1 hm with hm | hm
      · exact .inl (.inr (.inr (.inr ⟨h2, hm, hb⟩)))
      · simp at hm; subst hm; exact .inr (hfr b hb)
/-- what stays true of the sizes -/
theorem UOk.mono {K' : Nat} (o : UOk D R K) (h : K ≤ K') (hk : K' ≤ 1000) : UOk D R K' := ⟨o.n1, o.n8, fun d hd => Nat.le_trans (o.d d hd) h, Nat.le_trans o.r h, hk, o.x, o.w, o.i⟩
theorem getD_le (o : UOk D R K) (k : Nat) : D.getD k 0 ≤ K := by
  rw [List.getD_eq_getElem?_getD]
  rcases h : D[k]? with _ | d
  · exact Nat.zero_le _
  · exact o.d d (List.mem_of_getElem? h)
theorem UOk.setD {K' : Nat} (o : UOk D R K) (h : K ≤ K') (hk : K' ≤ 1000) (k d : Nat) (hd : d ≤ K') (hi : ∀ x ws, (x, ws) ∈ R → k ∈ ws → 0 < d) : UOk (D.set k d) R K' := by
  refine ⟨by rw [List.length_set]; exact o.n1, by rw [List.length_set]; exact o.n8, fun x hx => ?_, Nat.le_trans o.r h, hk, o.x, fun x ws hm => ?_, fun x ws hm t ht => ?_⟩
  · rcases List.mem_or_eq_of_mem_set hx with h' | h'
    · exact Nat.le_trans (o.d x h') h
    · rw [h']; exact hd
  · rw [List.length_set]; exact o.w x ws hm
  · rw [List.getD_eq_getElem?_getD]
    by_cases hk : k = t
    · subst hk
      rw [List.getElem?_set_self ((o.w x ws hm).2 k ht)]
      exact hi x ws hm ht
    · rw [List.getElem?_set_ne hk, ← List.getD_eq_getElem?_getD]
      exact o.i x ws hm t ht
theorem UOk.ent (o : UOk D R K) (hk : K + 1 ≤ 1000) (t : Int) : UOk (entD D t) R (K + 1) := by
  unfold entD
  split
  · exact o.setD (by omega) hk _ _ (by have := getD_le o t.toNat; omega) (fun _ _ _ _ => Nat.succ_pos _)
  · exact o.mono (by omega) hk
theorem UOk.gone (o : UOk D R K) (t : Nat) : UOk D (gone t R) K := by
  refine ⟨o.n1, o.n8, o.d, by unfold Proofs.Ytplbkjgkocnehaa.gone; rw [List.length_map]; exact o.r, o.k, fun x ws hm => ?_, fun x ws hm => ?_, fun x ws hm => ?_⟩
  · obtain ⟨⟨x', ws'⟩, hm', e⟩ := List.mem_map.1 hm
    injection e with e1 e2
    subst e1; subst e2
    exact o.x _ _ hm'
  · obtain ⟨⟨x', ws'⟩, hm', e⟩ := List.mem_map.1 hm
    injection e with e1 e2
    subst e1; subst e2
    have := o.w _ _ hm'
    exact ⟨this.1.filter _, fun t ht => this.2 t (List.mem_filter.1 ht).1⟩
  · obtain ⟨⟨x', ws'⟩, hm', e⟩ := List.mem_map.1 hm
    injection e with e1 e2
    subst e1; subst e2
    exact fun t ht => o.i _ _ hm' t (List.mem_filter.1 ht).1
theorem UOk.lev (o : UOk D R K) (t : Int) : UOk (levD D t) (levR D R t) K := by
  unfold levD levR
  have h1 : UOk D (if inT D t ∧ D.getD t.toNat 0 = 1 then Proofs.Ytplbkjgkocnehaa.gone t.toNat R else R) K := by
    split
    · exact o.gone _
    · exact o
  by_cases hi : inT D t
  · rw [if_pos hi]
    refine h1.setD (Nat.le_refl _) o.k _ _ (by have := getD_le o t.toNat; omega) (fun x ws hm ht => ?_)
    by_cases h2 : D.getD t.toNat 0 = 1
    · rw [if_pos ⟨hi, h2⟩] at hm
      obtain ⟨⟨x', ws'⟩, hm', e⟩ := List.mem_map.1 hm
      injection e with e1 e2
      subst e1; subst e2
      have := (List.mem_filter.1 ht).2
      simp at this
    · rw [if_neg (fun h => h2 h.2)] at hm
      have := o.i x ws hm _ ht
      omega
  · rw [if_neg hi]; exact h1
theorem UOk.ret (o : UOk D R K) (hk : K + 1 ≤ 1000) {x : Ret} (hx : x.few) : UOk D (retR D R x) (K + 1) := by
  unfold retR
  split
  · exact o.mono (by omega) hk
  · refine ⟨o.n1, o.n8, fun d hd => Nat.le_succ_of_le (o.d d hd), by rw [List.length_append, List.length_singleton]; have := o.r; omega, hk, fun y ws hm => ?_, fun y ws hm => ?_, fun y ws hm => ?_⟩
    · rcases List.mem_append.1 hm with h | h
      · exact o.x y ws h
      · simp at h; obtain ⟨rfl, rfl⟩ := h; exact hx
    · rcases List.mem_append.1 hm with h | h
      · exact o.w y ws h
      · simp at h; obtain ⟨rfl, rfl⟩ := h; exact ⟨inK_up D _, fun t ht => inK_lt ht⟩
    · rcases List.mem_append.1 hm with h | h
      · exact o.i y ws h
      · simp at h; obtain ⟨rfl, rfl⟩ := h
        intro t ht
        have := (List.mem_filter.1 ht).2
        exact Nat.pos_of_ne_zero (bne_iff_ne.1 this)
theorem UOk.tail {r : Ret × List Nat} (o : UOk D (r :: R) K) : UOk D R K :=
  ⟨o.n1, o.n8, o.d, by have := o.r; simp at this; omega, o.k, fun x ws h => o.x x ws (List.mem_cons_of_mem _ h), fun x ws h => o.w x ws (List.mem_cons_of_mem _ h), fun x ws h => o.i x ws (List.mem_cons_of_mem _ h)⟩
theorem UOk.new {n : Nat} (n1 : 1 ≤ n) (n8 : n ≤ 8) : UOk (List.replicate n 0) [] 0 :=
  ⟨by simpa using n1, by simpa using n8, fun d hd => by rw [List.eq_of_mem_replicate hd]; exact Nat.le_refl _, Nat.le_refl _, by omega, fun _ _ h => (by cases h), fun _ _ h => (by cases h), fun _ _ h => (by cases h)⟩
theorem UAt.new_fp {n : Nat} {b B : Nat} (hp : B ≤ p) (hu : ∀ b, u.ownBlock = some b → B ≤ b) (h : ufp p u (.slice none 0 0) [] b) : B ≤ b := by
  rcases h with rfl | h | h | ⟨h', hm, _⟩
  · exact hp
  · exact hu b h
  · cases h
  · cases hm
end
end Go.Proofs.Ytplbkjgkocnehaa
