/- A region that draws its order, with one effect x that waits not for a chain of effects, nor these for it: gone through in as many orders as x has places. No program in sight. -/
import Derived.Test.YtplbkjgkocnehaaLibD
namespace Go.Proofs.Ytplbkjgkocnehaa

section
variable {P : Program} {ops : Array Oper} {Q : Exit → Act → World → Prop} {S : World → Prop}
/-- a plan: x waits for pre, nxt waits for x -/
structure Plan where
  pre : Option Nat
  nxt : Option Nat
  R : List (Nat × Fl)
def dX (ops : Array Oper) (x : Nat) (pre nxt : Option Nat) (k y : Nat) : Bool := dep ops k y || (k == x && pre == some y) || (nxt == some k && y == x)
def chkX (ops : Array Oper) (x : Nat) (cs : List Nat) (R : List (Nat × Fl)) : Bool := R.all fun k => k.1 == x || cs.contains k.1 || (k.2 != .eff && k.2 != .fin) || (reach ops [x] R).contains k.1
theorem chkX_drop {x : Nat} {cs cs' : List Nat} {k : Nat × Fl} {A B : List (Nat × Fl)} (hi : dep ops k.1 x = false) (hA : ∀ y ∈ A, dep ops k.1 y.1 = false) (hcs : ∀ y ∈ A ++ B, y.1 ∈ cs → y.1 ∈ cs') (h : chkX ops x cs (A ++ k :: B) = true) : chkX ops x cs' (A ++ B) = true := by
  unfold chkX at h ⊢
  rw [reach_skip (fun x hx => by simp at hx; subst hx; exact hi) hA] at h
  rw [List.all_eq_true] at h ⊢
  intro y hy
  have h1 := h y (mem_moreD hy)
  simp only [Bool.or_eq_true, List.contains_eq_mem, decide_eq_true_eq] at h1 ⊢
  rcases h1 with ((h1 | h1) | h1) | h1
  · exact .inl (.inl (.inl h1))
  · exact .inl (.inl (.inr (hcs y hy h1)))
  · exact .inl (.inr h1)
  · exact .inr h1
def less (k : Nat) (R : List (Nat × Fl)) : List (Nat × Fl) := R.filter fun y => y.1 != k
theorem less_at {k : Nat} {f : Fl} {A B : List (Nat × Fl)} (h : k ∉ (A ++ B).map (·.1)) : less k (A ++ (k, f) :: B) = A ++ B := by
  have e : ∀ L : List (Nat × Fl), k ∉ L.map (·.1) → L.filter (fun y => y.1 != k) = L := fun L hL => by
    rw [List.filter_eq_self]
    intro y hy
    rw [bne_iff_ne]
    rintro rfl
    exact hL (List.mem_map.2 ⟨y, hy, rfl⟩)
  unfold less
  rw [List.filter_append, List.filter_cons]
  have h1 : k ∉ A.map (·.1) := fun h' => h (by rw [List.map_append]; exact List.mem_append.2 (.inl h'))
  have h2 : k ∉ B.map (·.1) := fun h' => h (by rw [List.map_append]; exact List.mem_append.2 (.inr h'))
  rw [e A h1, e B h2]
  simp
/-- what enters no function -/
def QuickAt (P : Program) (ops : Array Oper) (k : Nat) (a : Act) (w : World) : Prop := ∀ o, ops[k]? = some o → Region.wanted o (yielded ops a.tmps) = true →
  match (execOp a.eval o).run P w with
  | .ok (.enter _ _) _ => False
  | .ok (.row _ _) _ => False
  | _ => True
theorem wp_and {o : Oper} {a : Act} {w : World} {K1 K2 : Act → World → Prop} (hq : match (execOp a.eval o).run P w with | .ok (.enter _ _) _ => False | .ok (.row _ _) _ => False | _ => True)
    (h1 : o.wp P a w K1 Q) (h2 : o.wp P a w K2 Q) : o.wp P a w (fun a w => K1 a w ∧ K2 a w) Q := by
  unfold Oper.wp at *
  generalize (execOp a.eval o).run P w = r at *
  cases r with
  | ok n w' =>
    cases n with
    | value v => exact ⟨h1, h2⟩
    | skip => exact ⟨h1, h2⟩
    | defer d => exact ⟨h1, h2⟩
    | enter f args => exact hq.elim
    | row r args => exact hq.elim
    | _ => exact h1.elim
  | halt hh w' =>
    cases hh with
    | panic v => exact h1
    | _ => exact h1.elim
theorem wpOp_and {k : Nat} {a : Act} {w : World} {K1 K2 : Act → World → Prop} (hq : QuickAt P ops k a w) (h1 : wpOp P ops Q k K1 a w) (h2 : wpOp P ops Q k K2 a w) : wpOp P ops Q k (fun a w => K1 a w ∧ K2 a w) a w := by
  unfold wpOp at *
  cases ho : ops[k]? with
  | none => rw [ho] at h1 h2; exact ⟨h1, h2⟩
  | some o =>
    rw [ho] at h1 h2
    dsimp only at h1 h2 ⊢
    split at h1
    · rename_i hw
      rw [if_pos hw] at h2 ⊢
      rcases h1 with h1 | h1
      · rcases h2 with h2 | h2
        · exact .inl (wp_and (hq o ho hw) h1 h2)
        · exact .inr h2
      · exact .inr h1
    · rename_i hw
      rw [if_neg hw] at h2 ⊢
      exact ⟨h1, h2⟩
theorem wpOp_all {α : Type} {k : Nat} {a : Act} {w : World} {C : α → Act → World → Prop} (hq : QuickAt P ops k a w) : ∀ (l : List α), l ≠ [] → (∀ x ∈ l, wpOp P ops Q k (C x) a w) → wpOp P ops Q k (fun a' w' => ∀ x ∈ l, C x a' w') a w := by
  intro l
  induction l with
  | nil => intro h _; exact absurd rfl h
  | cons y l ih =>
    intro _ h
    by_cases hl : l = []
    · subst hl
      exact wpOp_mono (fun a' w' h' x hx => by simp at hx; subst hx; exact h') (h y List.mem_cons_self)
    · refine wpOp_mono (fun a' w' h' x hx => ?_) (wpOp_and hq (h y List.mem_cons_self) (ih hl (fun x hx => h x (List.mem_cons_of_mem _ hx))))
      rcases List.mem_cons.1 hx with rfl | hx
      · exact h'.1
      · exact h'.2 x hx
structure POk (P : Program) (ops : Array Oper) (Q : Exit → Act → World → Prop) (S : World → Prop) (x fuel : Nat) (cs : List Nat) (listed : Array Bool) (a : Act) (w : World) (p : Plan) : Prop where
  len : p.R.length = fuel
  lst : ∀ y, listed.getD y true = false ↔ y ∈ p.R.map (·.1)
  ok : okFD ops (dX ops x p.pre p.nxt) p.R = true
  chk : chkX ops x cs p.R = true
  hx : x ∈ p.R.map (·.1)
  hc : ∀ c ∈ cs, c ∈ p.R.map (·.1)
  hS : S w ∨ ∀ y ∈ p.R, y.2 ≠ .held
  h : wpF P ops Q S p.R a w
/-- the plans that are left, x not yet taken: the i-th one takes x behind the i-th of the chain that is left -/
def Linked : List Nat → List Plan → Prop
  | [], [p] => p.nxt = none
  | c :: cs, p :: ps => p.nxt = some c ∧ (∀ q, ps.head? = some q → q.pre = some c) ∧ Linked cs ps
  | _, _ => False
theorem linked_nxt : ∀ {cs : List Nat} {ps : List Plan}, Linked cs ps → ∀ p ∈ ps, ∀ n, p.nxt = some n → n ∈ cs := by
  intro cs
  induction cs with
  | nil =>
    intro ps h p hp n hn
    match ps, h with
    | [p'], h => simp at hp; subst hp; rw [h] at hn; cases hn
  | cons c cs ih =>
    intro ps h p hp n hn
    match ps, h with
    | p' :: ps, h =>
      obtain ⟨h1, h2, h3⟩ := h
      rcases List.mem_cons.1 hp with rfl | hp
      · rw [h1] at hn; injection hn with hn; subst hn; exact List.mem_cons_self
      · exact List.mem_cons_of_mem _ (ih h3 p hp n hn)
theorem linked_map {g : Plan → Plan} (hg : ∀ p, (g p).pre = p.pre ∧ (g p).nxt = p.nxt) : ∀ {cs : List Nat} {ps : List Plan}, Linked cs ps → Linked cs (ps.map g) := by
  intro cs
  induction cs with
  | nil =>
    intro ps h
    match ps, h with
    | [p], h => exact (hg p).2.trans h
  | cons c cs ih =>
    intro ps h
    match ps, h with
    | p :: ps, h =>
      refine ⟨(hg p).2.trans h.1, fun q hq => ?_, ih h.2.2⟩
      match ps, hq with
      | q' :: ps, hq =>
        simp at hq; subst hq
        exact (hg q').1.trans (h.2.1 q' rfl)
theorem linked_head {cs : List Nat} {ps : List Plan} (h : Linked cs ps) : ∃ p, ps.head? = some p ∧ p ∈ ps := by
  match cs, ps, h with
  | [], [p], _ => exact ⟨p, rfl, List.mem_cons_self⟩
  | c :: cs, p :: ps, _ => exact ⟨p, rfl, List.mem_cons_self⟩
variable (hsel : Region.noSelect ops = true) (hQ : ∀ d v c a w, Q (.panic c) (Act.put a d v) w → Q (.panic c) a w)
include hsel hQ in
theorem pok_step {x fuel k : Nat} {cs cs' : List Nat} {listed : Array Bool} {a : Act} {w : World} {p : Plan} (h : POk P ops Q S x (fuel + 1) cs listed a w p) (hsz : listed.size = ops.size) (hk : k ∈ Region.ready .any ops listed)
    (hkx : k ≠ x) (hn : p.nxt ≠ some k) (hcs : ∀ y ∈ cs, y ≠ k → y ∈ cs') (hcs' : ∀ y ∈ cs', y ∈ cs ∧ y ≠ k) : wpOp P ops Q k (fun a' w' => POk P ops Q S x fuel cs' (listed.setIfInBounds k true) a' w' { p with R := less k p.R }) a w := by
  obtain ⟨hkR, hfree⟩ := ready_free hsz h.lst hk
  obtain ⟨⟨k', f⟩, hmem, e⟩ := List.mem_map.1 hkR
  dsimp only at e
  subst e
  obtain ⟨A, B, hAB⟩ := List.append_of_mem hmem
  obtain ⟨h1, h2, h3, h4, h5, h6, h7, h8⟩ := h
  rw [hAB] at h1 h2 h3 h4 h5 h6 h7 h8 hfree
  have hkn := not_left h3
  have hA : ∀ y ∈ A, dep ops k' y.1 = false := fun y hy => hfree _ (List.mem_map.2 ⟨y, by simp [hy], rfl⟩)
  have hAX : ∀ y ∈ A, dX ops x p.pre p.nxt k' y.1 = false := by
    intro y hy
    unfold dX
    rw [hA y hy, show (k' == x) = false from by simpa using hkx, show (p.nxt == some k') = false from by rw [beq_eq_false_iff_ne]; exact hn]
    simp
  rw [hAB, less_at hkn]
  refine wpOp_frontD hsel hQ hAX h3 h7 h8 fun a' w' hS' h' => ?_
  have keep : ∀ y, y ∈ (A ++ (k', f) :: B).map (·.1) → y ≠ k' → y ∈ (A ++ B).map (·.1) := by
    intro y hy hne
    simp only [List.map_append, List.map_cons, List.mem_append, List.mem_cons] at hy ⊢
    rcases hy with hy | hy | hy
    · exact .inl hy
    · exact absurd hy hne
    · exact .inr hy
  exact ⟨by simp at h1 ⊢; omega, listed_less h2 hkn, okF_dropD (k := (k', f)) hAX h3,
    chkX_drop (k := (k', f)) (hfree x h5) hA (fun y hy hyc => hcs _ hyc (fun e => hkn (e ▸ List.mem_map.2 ⟨y, hy, rfl⟩))) h4, keep x h5 (Ne.symm hkx), fun c hc => keep c (h6 c (hcs' c hc).1) (hcs' c hc).2, hS', h'⟩
include hsel hQ in
theorem wpAny_chain (he : edgesB ops = true) {x : Nat} : ∀ (fuel : Nat) (cs : List Nat) (ps : List Plan) (listed : Array Bool) (a : Act) (w : World), Linked cs ps → cs.Nodup → x ∉ cs → listed.size = ops.size →
    (∀ p, ps.head? = some p → ∀ n, p.pre = some n → n ∉ p.R.map (·.1)) → (∀ (i ci cj : Nat), cs[i]? = some ci → cs[i + 1]? = some cj → dep ops cj ci = true) → (∀ c ∈ cs, ∀ a w, QuickAt P ops c a w) →
    (∀ p ∈ ps, POk P ops Q S x fuel cs listed a w p) → wpAny P .any ops Q fuel listed a w := by
  intro fuel
  induction fuel with
  | zero =>
    intro cs ps listed a w hL _ _ _ _ _ _ h
    obtain ⟨p, _, hp⟩ := linked_head hL
    have h1 := (h p hp).len
    have h2 := List.length_eq_zero_iff.1 h1
    have := (h p hp).hx
    rw [h2] at this; simp at this
  | succ fuel ih =>
    intro cs ps listed a w hL hnd hxc hsz hpre hord hqk h
    have hd : ∀ p : Plan, ∀ k y, dep ops k y = true → dX ops x p.pre p.nxt k y = true := fun p k y h => by simp [dX, h]
    obtain ⟨p0, hh0, hp0⟩ := linked_head hL
    refine ⟨?_, ?_⟩
    · intro hnone
      obtain ⟨h1, h2, h3, _, _, _, _, _⟩ := h p0 hp0
      cases hpR : p0.R with
      | nil => rw [hpR] at h1; simp at h1
      | cons y R =>
        rw [hpR] at h2 h3
        have := first_ready he hsz h2 (hd p0) h3
        rw [hnone] at this
        cases this
    · intro k hk
      by_cases e1 : k = x
      · -- x itself: by the first plan
        subst e1
        obtain ⟨h1, h2, h3, h4, h5, h6, h7, h8⟩ := h p0 hp0
        have hprem := hpre p0 hh0
        obtain ⟨hkR, hfree⟩ := ready_free hsz h2 hk
        obtain ⟨⟨k', f⟩, hmem, e⟩ := List.mem_map.1 hkR
        dsimp only at e
        subst e
        obtain ⟨A, B, hAB⟩ := List.append_of_mem hmem
        rw [hAB] at h1 h2 h3 h7 h8 hfree hprem
        have hkn := not_left h3
        have hAX : ∀ y ∈ A, dX ops k' p0.pre p0.nxt k' y.1 = false := by
          intro y hy
          unfold dX
          rw [hfree _ (List.mem_map.2 ⟨y, by simp [hy], rfl⟩)]
          have h2 : (p0.pre == some y.1) = false := by
            rw [beq_eq_false_iff_ne]
            intro e
            exact hprem y.1 e (List.mem_map.2 ⟨y, by simp [hy], rfl⟩)
          have h3 : (p0.nxt == some k') = false := by
            rw [beq_eq_false_iff_ne]
            intro e
            exact hxc (linked_nxt hL p0 hp0 k' e)
          rw [h2, h3]; simp
        refine wpOp_frontD hsel hQ hAX h3 h7 h8 fun a' w' hS' h' => wpAny_of_FD hsel hQ he (hd p0) fuel (A ++ B) _ a' w' (by simp at h1 ⊢; omega) (by simp [hsz]) (listed_less h2 hkn) ?_ (okF_dropD (k := (k', f)) hAX h3) hS' h'
        intro k2 y hy hdx
        simp only [dX, Bool.or_eq_true, Bool.and_eq_true, beq_iff_eq] at hdx
        rcases hdx with (h1 | ⟨_, h1⟩) | ⟨_, h1⟩
        · exact h1
        · exact absurd (mem_mid hy) (hprem y h1)
        · subst h1; exact absurd hy hkn
      · by_cases e2 : k ∈ cs
        · -- the next one of the chain: the first plan falls
          match cs, ps, hL with
          | c :: cs', p :: ps', hL =>
            obtain ⟨hn1, hn2, hL'⟩ := hL
            have hkc : k = c := by
              obtain ⟨i, hi⟩ := List.getElem?_of_mem e2
              match i, hi with
              | 0, hi => simp at hi; exact hi.symm
              | i + 1, hi =>
                obtain ⟨ci, hci⟩ : ∃ ci, (c :: cs')[i]? = some ci := ⟨_, List.getElem?_eq_getElem (by have := (List.getElem?_eq_some_iff.1 hi).1; omega)⟩
                have h1 := hord i ci k hci hi
                obtain ⟨hkR, hfree⟩ := ready_free hsz (h p List.mem_cons_self).lst hk
                have h2 := hfree ci ((h p List.mem_cons_self).hc ci (List.mem_of_getElem? hci))
                rw [h1] at h2; cases h2
            subst hkc
            have hcs' : k ∉ cs' := (List.nodup_cons.1 hnd).1
            obtain ⟨q0, hq0, hq0m⟩ := linked_head hL'
            have hne : ps' ≠ [] := by rintro rfl; cases hq0
            refine wpOp_mono (fun a' w' h' => ih cs' (ps'.map fun q => { q with R := less k q.R }) _ a' w' (linked_map (g := fun q : Plan => { q with R := less k q.R }) (fun p => ⟨rfl, rfl⟩) hL') (List.nodup_cons.1 hnd).2 (fun hx => hxc (List.mem_cons_of_mem _ hx)) (by simp [hsz]) ?_ (fun i ci cj hi hj => hord (i + 1) ci cj (by simpa using hi) (by simpa using hj)) (fun c hc => hqk c (List.mem_cons_of_mem _ hc)) ?_)
              (wpOp_all (C := fun q a' w' => POk P ops Q S x fuel cs' (listed.setIfInBounds k true) a' w' { q with R := less k q.R }) (hqk k List.mem_cons_self a w) ps' hne (fun q hq => pok_step hsel hQ (h q (List.mem_cons_of_mem _ hq)) hsz hk e1 (fun e => hcs' (linked_nxt hL' q hq k e)) (fun y hy hyk => by
                rcases List.mem_cons.1 hy with rfl | hy
                · exact absurd rfl hyk
                · exact hy) (fun y hy => ⟨List.mem_cons_of_mem _ hy, fun e => hcs' (e ▸ hy)⟩)))
            · intro q hq n hn
              rw [List.head?_map, hq0] at hq
              simp at hq
              subst hq
              have h1 := hn2 q0 hq0
              have h2 : q0.pre = some n := hn
              rw [h1] at h2
              injection h2 with h2
              subst h2
              intro hm
              obtain ⟨y, hy, hyk⟩ := List.mem_map.1 hm
              have := (List.mem_filter.1 hy).2
              rw [bne_iff_ne] at this
              exact this hyk
            · intro q hq
              obtain ⟨q', hq', rfl⟩ := List.mem_map.1 hq
              exact h' q' hq'
        · -- one that stays as it is
          have hne : ps ≠ [] := by rintro rfl; cases hh0
          have hnx : ∀ p ∈ ps, p.nxt ≠ some k := fun p hp e => e2 (linked_nxt hL p hp k e)
          have quick : QuickAt P ops k a w := by
            obtain ⟨h1, h2, h3, h4, h5, h6, h7, h8⟩ := h p0 hp0
            obtain ⟨hkR, hfree⟩ := ready_free hsz h2 hk
            obtain ⟨⟨k', f⟩, hmem, e⟩ := List.mem_map.1 hkR
            dsimp only at e
            subst e
            obtain ⟨A, B, hAB⟩ := List.append_of_mem hmem
            rw [hAB] at h3 h4 h7 h8 hfree
            have hkn := not_left h3
            have hA : ∀ y ∈ A, dep ops k' y.1 = false := fun y hy => hfree _ (List.mem_map.2 ⟨y, by simp [hy], rfl⟩)
            have hAX : ∀ y ∈ A, dX ops x p0.pre p0.nxt k' y.1 = false := by
              intro y hy
              unfold dX
              rw [hA y hy, show (k' == x) = false from by simpa using e1, show (p0.nxt == some k') = false from by rw [beq_eq_false_iff_ne]; exact hnx p0 hp0]
              simp
            have hst : f ≠ .eff ∧ f ≠ .fin := by
              have hc := h4
              unfold chkX at hc
              rw [hAB] at h5
              rw [reach_skip (fun x hx => by simp at hx; subst hx; exact hfree _ h5) hA] at hc
              rw [List.all_eq_true] at hc
              have h3 := hc (k', f) (by simp)
              have h6 : (reach ops [x] (A ++ B)).contains k' = false := by
                simp only [List.contains_eq_mem, decide_eq_false_iff_not]
                intro h
                rcases reach_sub h with h | h
                · simp at h; exact e1 h
                · exact hkn h
              have h7 : cs.contains k' = false := by simp only [List.contains_eq_mem, decide_eq_false_iff_not]; exact e2
              simp only [h6, h7, Bool.or_eq_true, Bool.and_eq_true, beq_iff_eq, bne_iff_ne, ne_eq, e1, false_or, Bool.false_eq_true, or_false] at h3
              exact h3
            have g1 := wpF_frontD hsel hQ (k := (k', f)) hAX h3 h8
            have hy : ∃ (o : Oper) (v : Value) (T : World → Prop), ops[k']? = some o ∧ T w ∧ YieldsIf P ops T o v a := by
              cases f with
              | at_ => obtain ⟨o, v, ho, hv, hr⟩ := g1; exact ⟨o, v, fun w' => w' = w, ho, rfl, hv⟩
              | held =>
                obtain ⟨o, v, ho, hv, hr⟩ := g1
                exact ⟨o, v, S, ho, h7.resolve_right (fun h => h (k', .held) (by simp) rfl), hv⟩
              | eff => exact absurd rfl hst.1
              | fin => exact absurd rfl hst.2
            obtain ⟨o, v, T, ho, hT, hv⟩ := hy
            intro o' ho' hw
            obtain rfl : o = o' := Option.some.inj (ho.symm.trans ho')
            rcases hv with ⟨_, hr⟩ | ⟨h0, _⟩
            · rw [hr w hT]; trivial
            · rw [hw] at h0; cases h0
          refine wpOp_mono (fun a' w' h' => ih cs (ps.map fun q => { q with R := less k q.R }) _ a' w' (linked_map (g := fun q : Plan => { q with R := less k q.R }) (fun p => ⟨rfl, rfl⟩) hL) hnd hxc (by simp [hsz]) ?_ hord hqk ?_)
            (wpOp_all (C := fun q a' w' => POk P ops Q S x fuel cs (listed.setIfInBounds k true) a' w' { q with R := less k q.R }) quick ps hne (fun q hq => pok_step hsel hQ (h q hq) hsz hk e1 (hnx q hq) (fun y hy _ => hy) (fun y hy => ⟨hy, fun e => e2 (e ▸ hy)⟩)))
          · intro q hq n hn
            rw [List.head?_map, hh0] at hq
            simp at hq
            subst hq
            intro hm
            obtain ⟨y, hy, hyk⟩ := List.mem_map.1 hm
            exact hpre p0 hh0 n hn (List.mem_map.2 ⟨y, (List.mem_filter.1 hy).1, hyk⟩)
          · intro q hq
            obtain ⟨q', hq', rfl⟩ := List.mem_map.1 hq
            exact h' q' hq'
end
/-- append enters nothing -/
theorem quick_append {P : Program} {ops : Array Oper} {k : Nat} {as : Array Operand} {ts : Array TypeId} (h : (ops[k]?).map (·.op) = some (.call { callee := .builtin .append, args := as, argTypes := ts })) (a : Act) (w : World) : QuickAt P ops k a w := by
  intro o ho _
  rw [ho] at h
  simp at h
  unfold execOp
  simp only [h, resolve, invoke, builtin, Sem.run_bind, Sem.run_pure, Result.andThen_ok]
  generalize Sem.run P _ w = r
  cases r with
  | ok v w' => trivial
  | halt hh w' => trivial
def goodX (ops : Array Oper) (x : Nat) (cs : List Nat) (p : Plan) : Bool := fullB ops p.R && decide (p.R.length = ops.size) && okFD ops (dX ops x p.pre p.nxt) p.R && chkX ops x cs p.R && (p.R.map (·.1)).contains x && cs.all fun c => (p.R.map (·.1)).contains c
/-- THE BEGINNING, with one effect x that has four places about a chain of three. -/
theorem wp_region_four {P : Program} {id : Nat} {l : List Oper} {Q : Exit → Act → World → Prop} {a : Act} {w : World} (x c1 c2 c3 : Nat) (S : World → Prop) (R0 R1 R2 R3 : List (Nat × Fl)) (L0 L1 L2 L3 : List (Oper × Fl)) (hm : P.follows .mixedOrders = true)
    (hg : (Region.noSelect l.toArray && edgesB l.toArray && goodX l.toArray x [c1, c2, c3] ⟨none, some c1, R0⟩ && goodX l.toArray x [c1, c2, c3] ⟨some c1, some c2, R1⟩ && goodX l.toArray x [c1, c2, c3] ⟨some c2, some c3, R2⟩ && goodX l.toArray x [c1, c2, c3] ⟨some c3, none, R3⟩ &&
      dep l.toArray c2 c1 && dep l.toArray c3 c2 && decide (c1 ≠ c2 ∧ c1 ≠ c3 ∧ c2 ≠ c3 ∧ x ≠ c1 ∧ x ≠ c2 ∧ x ≠ c3)) = true)
    (hq : ∀ c ∈ [c1, c2, c3], ∀ a w, QuickAt P l.toArray c a w)
    (hL0 : pickOps l R0 = L0) (hL1 : pickOps l R1 = L1) (hL2 : pickOps l R2 = L2) (hL3 : pickOps l R3 = L3) (hS : S w.drew)
    (h0 : wpG P l.toArray (NoPanic Q) S L0 a w.drew) (h1 : wpG P l.toArray (NoPanic Q) S L1 a w.drew) (h2 : wpG P l.toArray (NoPanic Q) S L2 a w.drew) (h3 : wpG P l.toArray (NoPanic Q) S L3 a w.drew) : (Code.region id l.toArray true).wp P Q a w := by
  subst hL0; subst hL1; subst hL2; subst hL3
  simp only [Bool.and_eq_true, decide_eq_true_eq] at hg
  obtain ⟨⟨⟨⟨⟨⟨⟨⟨hsel, hed⟩, g0⟩, g1⟩, g2⟩, g3⟩, d21⟩, d32⟩, n1, n2, n3, m1, m2, m3⟩ := hg
  have pok : ∀ p : Plan, goodX l.toArray x [c1, c2, c3] p = true → wpG P l.toArray (NoPanic Q) S (pickOps l p.R) a w.drew → POk P l.toArray (NoPanic Q) S x l.toArray.size [c1, c2, c3] (Array.replicate l.toArray.size false) a w.drew p := by
    intro p g h
    simp only [goodX, Bool.and_eq_true, decide_eq_true_eq, List.all_eq_true, List.contains_eq_mem] at g
    obtain ⟨⟨⟨⟨⟨f1, f2⟩, f3⟩, f4⟩, f5⟩, f6⟩ := g
    refine ⟨f2, full_listed f1, f3, f4, f5, fun c hc => f6 c hc, .inl hS, wpF_of_G p.R a _ ?_ h⟩
    intro k hk
    simp only [fullB, Bool.and_eq_true, List.all_eq_true, decide_eq_true_eq] at f1
    simpa using f1.2 k hk
  refine wp_region_noPanic (wp_region_any hm ?_)
  refine wpAny_chain (x := x) (S := S) hsel (fun _ _ _ _ _ h => h) hed _ [c1, c2, c3] [⟨none, some c1, R0⟩, ⟨some c1, some c2, R1⟩, ⟨some c2, some c3, R2⟩, ⟨some c3, none, R3⟩] _ a _ ?_ ?_ ?_ (by simp) ?_ ?_ hq ?_
  · exact ⟨rfl, fun q hq => by simp at hq; subst hq; rfl, rfl, fun q hq => by simp at hq; subst hq; rfl, rfl, fun q hq => by simp at hq; subst hq; rfl, rfl⟩
  · simp [n1, n2, n3]
  · simp [m1, m2, m3]
  · intro p hp n hn; simp at hp; subst hp; cases hn
  · intro i ci cj hi hj
    match i, hi, hj with
    | 0, hi, hj => simp at hi hj; subst hi; subst hj; exact d21
    | 1, hi, hj => simp at hi hj; subst hi; subst hj; exact d32
    | i + 2, hi, hj => simp at hj
  · intro p hp
    simp only [List.mem_cons, List.not_mem_nil, or_false] at hp
    rcases hp with rfl | rfl | rfl | rfl
    · exact pok _ g0 h0
    · exact pok _ g1 h1
    · exact pok _ g2 h2
    · exact pok _ g3 h3
end Go.Proofs.Ytplbkjgkocnehaa
