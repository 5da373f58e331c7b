/- A region that draws its order may be gone through in ONE order that the prover names: the side conditions are a Bool that the kernel reckons. No program in sight. -/
import Derived.OrdersHeld
import Derived.StillTail
import Derived.Deep.RegionHeld3
namespace Go.Proofs.Ytaanbonbdhjbpaa

/-- How an operation is taken: at the world at hand; in every world that meets S; it may turn the world (S stays met); it turns the world, S or no S, and nothing held lies behind it. -/
inductive Fl where
  | at_ | held | eff | fin
  deriving DecidableEq

section
variable {P : Program} {ops : Array Oper} {Q : Exit → Act → World → Prop} {S : World → Prop}

def wpF (P : Program) (ops : Array Oper) (Q : Exit → Act → World → Prop) (S : World → Prop) : List (Nat × Fl) → Act → World → Prop
  | [], a, w => Q .normal a w
  | (i, f) :: r, a, w =>
    match f with
    | .at_ => ∃ o v, ops[i]? = some o ∧ YieldsIf P ops (fun w' => w' = w) o v a ∧ wpF P ops Q S r (a.put o.dst v) w
    | .held => ∃ o v, ops[i]? = some o ∧ YieldsIf P ops S o v a ∧ wpF P ops Q S r (a.put o.dst v) w
    | .eff => wpOp P ops Q i (fun a' w' => S w' ∧ wpF P ops Q S r a' w') a w
    | .fin => wpOp P ops Q i (fun a' w' => wpF P ops Q S r a' w') a w

def dep (ops : Array Oper) (j i : Nat) : Bool := Region.waitsFor .any ops j i
def reach (ops : Array Oper) (D : List Nat) : List (Nat × Fl) → List Nat
  | [] => D
  | k :: r => if D.any (fun x => dep ops k.1 x) then reach ops (k.1 :: D) r else reach ops D r
def apartB (ops : Array Oper) (i k : Nat) : Bool :=
  match ops[i]?, ops[k]? with
  | some x, some y => x.apart ops y
  | _, _ => false
def okHead (ops : Array Oper) (x : Nat × Fl) (r : List (Nat × Fl)) : Bool :=
  r.all fun k => (x.2 != .fin || k.2 != .held) && ((reach ops [x.1] r).contains k.1 || (x.2 != .eff && x.2 != .fin && apartB ops x.1 k.1 && (k.2 != .eff || x.2 == .held) && k.2 != .fin))
def okF (ops : Array Oper) : List (Nat × Fl) → Bool
  | [] => true
  | x :: r => !dep ops x.1 x.1 && (r.all fun k => !dep ops x.1 k.1 && k.1 != x.1) && okHead ops x r && okF ops r
/-- every edge leads to an operation -/
def edgesB (ops : Array Oper) : Bool := ops.all fun o => o.after.all fun e => decide (e.on < ops.size)
def fullB (ops : Array Oper) (R : List (Nat × Fl)) : Bool := (List.range ops.size).all (fun i => (R.map (·.1)).contains i) && R.all fun k => decide (k.1 < ops.size)
def goodB (ops : Array Oper) (R : List (Nat × Fl)) : Bool := Region.noSelect ops && edgesB ops && fullB ops R && decide (R.length = ops.size) && okF ops R

theorem reach_sub {D : List Nat} {r : List (Nat × Fl)} {x : Nat} (h : x ∈ reach ops D r) : x ∈ D ∨ x ∈ r.map (·.1) := by
  induction r generalizing D with
  | nil => exact .inl h
  | cons k r ih =>
    unfold reach at h
    split at h
    · rcases ih h with h | h
      · rcases List.mem_cons.1 h with rfl | h
        · exact .inr (by simp)
        · exact .inl h
      · exact .inr (by simp at h ⊢; exact .inr h)
    · rcases ih h with h | h
      · exact .inl h
      · exact .inr (by simp at h ⊢; exact .inr h)
/-- k waits for none of D, nor of A: it isn't reached, and what is reached is the same without it -/
theorem reach_skip {A B : List (Nat × Fl)} {k : Nat × Fl} : ∀ {D : List Nat}, (∀ x ∈ D, dep ops k.1 x = false) → (∀ x ∈ A, dep ops k.1 x.1 = false) →
    reach ops D (A ++ k :: B) = reach ops D (A ++ B) := by
  induction A with
  | nil =>
    intro D h _
    show reach ops D (k :: B) = reach ops D B
    have : D.any (fun x => dep ops k.1 x) = false := by rw [List.any_eq_false]; intro x hx; simp [h x hx]
    rw [reach, if_neg (by simp [this])]
  | cons a A ih =>
    intro D h hA
    simp only [List.cons_append, reach]
    split
    · refine ih (D := a.1 :: D) (fun x hx => ?_) (fun x hx => hA x (by simp [hx]))
      rcases List.mem_cons.1 hx with hx | hx
      · rw [hx]; exact hA a (by simp)
      · exact h x hx
    · exact ih h (fun x hx => hA x (by simp [hx]))

theorem mem_more {α : Type} {A B : List α} {k x : α} (h : x ∈ A ++ B) : x ∈ A ++ k :: B := by
  simp at h ⊢
  rcases h with h | h
  · exact .inl h
  · exact .inr (.inr h)
theorem okF_drop {k : Nat × Fl} {B : List (Nat × Fl)} : ∀ {A : List (Nat × Fl)}, (∀ x ∈ A, dep ops k.1 x.1 = false) → okF ops (A ++ k :: B) = true → okF ops (A ++ B) = true := by
  intro A
  induction A with
  | nil => intro _ h; simp only [List.nil_append, okF, Bool.and_eq_true] at h ⊢; exact h.2
  | cons a A ih =>
    intro hA h
    simp only [List.cons_append, okF, Bool.and_eq_true] at h ⊢
    obtain ⟨⟨⟨h1, h2⟩, h3⟩, h4⟩ := h
    refine ⟨⟨⟨h1, ?_⟩, ?_⟩, ih (fun x hx => hA x (by simp [hx])) h4⟩
    · rw [List.all_eq_true] at h2 ⊢
      exact fun x hx => h2 x (mem_more hx)
    · unfold okHead at h3 ⊢
      rw [List.all_eq_true] at h3 ⊢
      intro x hx
      have := h3 x (mem_more hx)
      rwa [reach_skip (fun x hx => by simp at hx; subst hx; exact hA a (by simp)) (fun x hx => hA x (by simp [hx]))] at this
/-- of the first of A ++ k :: B, where k waits for none of A: they are apart; and where k may turn the world, the first is held -/
theorem okF_head {a k : Nat × Fl} {A B : List (Nat × Fl)} (hA : ∀ x ∈ a :: A, dep ops k.1 x.1 = false) (h : okF ops (a :: A ++ k :: B) = true) :
    a.2 ≠ .eff ∧ a.2 ≠ .fin ∧ apartB ops a.1 k.1 = true ∧ (k.2 = .eff → a.2 = .held) ∧ k.2 ≠ .fin := by
  simp only [List.cons_append, okF, Bool.and_eq_true] at h
  obtain ⟨⟨⟨h1, h2⟩, h3⟩, h4⟩ := h
  unfold okHead at h3
  rw [List.all_eq_true] at h3
  have := h3 k (by simp)
  rw [reach_skip (fun x hx => by simp at hx; subst hx; exact hA a (by simp)) (fun x hx => hA x (by simp [hx]))] at this
  have hn : k.1 ∉ reach ops [a.1] (A ++ B) := by
    intro hk
    rcases reach_sub hk with hk | hk
    · simp at hk
      rw [List.all_eq_true] at h2
      have := h2 k (by simp)
      simp [hk] at this
    · have hnd : ∀ {A : List (Nat × Fl)}, okF ops (A ++ k :: B) = true → k.1 ∉ (A ++ B).map (·.1) := by
        intro A
        induction A with
        | nil =>
          intro h hm
          simp only [List.nil_append, okF, Bool.and_eq_true, List.all_eq_true] at h
          simp only [List.nil_append, List.mem_map] at hm
          obtain ⟨x, hx, he⟩ := hm
          have := (h.1.1.2 x hx)
          simp [he] at this
        | cons c A ih =>
          intro h hm
          simp only [List.cons_append, okF, Bool.and_eq_true, List.all_eq_true] at h
          simp only [List.cons_append, List.map_cons, List.mem_cons] at hm
          rcases hm with hm | hm
          · have := h.1.1.2 k (by simp)
            simp [hm] at this
          · exact ih h.2 hm
      exact hnd h4 hk
  have hc : (reach ops [a.1] (A ++ B)).contains k.1 = false := by simpa using hn
  rw [hc] at this
  simp only [Bool.false_or, Bool.and_eq_true, bne_iff_ne, ne_eq, Bool.or_eq_true, beq_iff_eq] at this
  exact ⟨this.2.1.1.1.1, this.2.1.1.1.2, this.2.1.1.2, fun e => this.2.1.2.resolve_left (fun h => h e), this.2.2⟩

theorem apartB_spec {i k : Nat} (h : apartB ops i k = true) : ∃ x y, ops[i]? = some x ∧ ops[k]? = some y ∧ x.apart ops y = true := by
  unfold apartB at h
  split at h
  · rename_i x y hx hy; exact ⟨x, y, hx, hy, h⟩
  · cases h

theorem wpF_fin_eq {i : Nat} {r : List (Nat × Fl)} {a : Act} {w : World} : wpF P ops Q S ((i, .fin) :: r) a w = wpOp P ops Q i (fun a' w' => wpF P ops Q S r a' w') a w := rfl
theorem wpF_eff_eq {i : Nat} {r : List (Nat × Fl)} {a : Act} {w : World} : wpF P ops Q S ((i, .eff) :: r) a w = wpOp P ops Q i (fun a' w' => S w' ∧ wpF P ops Q S r a' w') a w := rfl


theorem wpF_cons_mono {x : Nat × Fl} {r r' : List (Nat × Fl)} {a : Act} {w : World} (h : ∀ a w, wpF P ops Q S r a w → wpF P ops Q S r' a w) (hw : wpF P ops Q S (x :: r) a w) :
    wpF P ops Q S (x :: r') a w := by
  obtain ⟨i, f⟩ := x
  cases f with
  | at_ => obtain ⟨o, v, ho, hv, hr⟩ := hw; exact ⟨o, v, ho, hv, h _ _ hr⟩
  | held => obtain ⟨o, v, ho, hv, hr⟩ := hw; exact ⟨o, v, ho, hv, h _ _ hr⟩
  | eff => rw [wpF_eff_eq] at hw ⊢; exact wpOp_mono (fun a' w' h' => ⟨h'.1, h _ _ h'.2⟩) hw
  | fin => rw [wpF_fin_eq] at hw ⊢; exact wpOp_mono (fun a' w' h' => h _ _ h') hw

variable (hsel : Region.noSelect ops = true) (hQ : ∀ d v c a w, Q (.panic c) (Act.put a d v) w → Q (.panic c) a w)
include hsel hQ

/-- two neighbours change places -/
theorem wpF_swap {i k : Nat} {f g : Fl} {r : List (Nat × Fl)} {a : Act} {w : World} (hf : f ≠ .eff) (hf2 : f ≠ .fin) (hg2 : g ≠ .fin) (hap : apartB ops i k = true) (hg : g = .eff → f = .held)
    (h : wpF P ops Q S ((i, f) :: (k, g) :: r) a w) : wpF P ops Q S ((k, g) :: (i, f) :: r) a w := by
  obtain ⟨x, y, hx, hy, hxy⟩ := apartB_spec hap
  obtain ⟨h1, h2, h3⟩ := Oper.apart_spec hxy
  have sx := fun cs b => Region.noSelect_spec hsel i x cs b hx
  have sy := fun cs b => Region.noSelect_spec hsel k y cs b hy
  -- what i and k look at is the same behind the other one
  have keepx : ∀ {T : World → Prop} {v u}, YieldsIf P ops T x v a → YieldsIf P ops T x v (a.put y.dst u) := fun hyi => hyi.of_same (execOp_put x sx a y.dst _ h3) (wanted_put x a y.dst _ h3)
  have backy : ∀ {T : World → Prop} {v u}, YieldsIf P ops T y v (a.put x.dst u) → YieldsIf P ops T y v a := fun hyi =>
    hyi.of_same (execOp_put y sy a x.dst _ h1).symm (wanted_put y a x.dst _ h1).symm
  have steady : ∀ {T : World → Prop} {v : Value}, YieldsIf P ops T x v a → wpF P ops Q S ((k, g) :: r) (a.put x.dst v) w → g ≠ .eff →
      ∃ u, (match g with | .at_ => YieldsIf P ops (fun w' => w' = w) y u a | _ => YieldsIf P ops S y u a) ∧ wpF P ops Q S r ((a.put y.dst u).put x.dst v) w := by
    intro T v hv hw hge
    cases g with
    | eff => exact absurd rfl hge
    | fin => exact absurd rfl hg2
    | at_ =>
      obtain ⟨o, u, ho, hyu, hr⟩ := hw
      obtain rfl : o = y := Option.some.inj (ho.symm.trans hy)
      exact ⟨u, backy hyu, by rw [← Act.put_comm a v u h2]; exact hr⟩
    | held =>
      obtain ⟨o, u, ho, hyu, hr⟩ := hw
      obtain rfl : o = y := Option.some.inj (ho.symm.trans hy)
      exact ⟨u, backy hyu, by rw [← Act.put_comm a v u h2]; exact hr⟩
  cases f with
  | eff => exact absurd rfl hf
  | fin => exact absurd rfl hf2
  | at_ =>
    obtain ⟨o, v, ho, hv, hr⟩ := h
    obtain rfl : o = x := Option.some.inj (ho.symm.trans hx)
    cases g with
    | fin => exact absurd rfl hg2
    | eff => exact absurd (hg rfl) (by decide)
    | at_ => obtain ⟨u, hu, hr'⟩ := steady hv hr (by decide); exact ⟨y, u, hy, hu, _, v, hx, keepx hv, hr'⟩
    | held => obtain ⟨u, hu, hr'⟩ := steady hv hr (by decide); exact ⟨y, u, hy, hu, _, v, hx, keepx hv, hr'⟩
  | held =>
    obtain ⟨o, v, ho, hv, hr⟩ := h
    obtain rfl : o = x := Option.some.inj (ho.symm.trans hx)
    cases g with
    | fin => exact absurd rfl hg2
    | at_ => obtain ⟨u, hu, hr'⟩ := steady hv hr (by decide); exact ⟨y, u, hy, hu, _, v, hx, keepx hv, hr'⟩
    | held => obtain ⟨u, hu, hr'⟩ := steady hv hr (by decide); exact ⟨y, u, hy, hu, _, v, hx, keepx hv, hr'⟩
    | eff =>
      rw [wpF_eff_eq] at hr ⊢
      have := wpOp_putIf hy hxy sx sy (fun c a w => hQ _ _ c a w) hv hr
      exact wpOp_mono (fun a' w' h' => ⟨h'.2.1, _, v, hx, h'.1, h'.2.2⟩) this

/-- what may come up now comes to the front -/
theorem wpF_front {k : Nat × Fl} {B : List (Nat × Fl)} : ∀ {A : List (Nat × Fl)} {a : Act} {w : World}, (∀ x ∈ A, dep ops k.1 x.1 = false) → okF ops (A ++ k :: B) = true →
    wpF P ops Q S (A ++ k :: B) a w → wpF P ops Q S (k :: (A ++ B)) a w := by
  intro A
  induction A with
  | nil => intro a w _ _ h; exact h
  | cons c A ih =>
    intro a w hA hok h
    have hh := okF_head hA hok
    have hok' : okF ops (A ++ k :: B) = true := by simp only [List.cons_append, okF, Bool.and_eq_true] at hok; exact hok.2
    have h1 : wpF P ops Q S (c :: (k :: (A ++ B))) a w := wpF_cons_mono (fun a w h => ih (fun x hx => hA x (by simp [hx])) hok' h) h
    obtain ⟨i, f⟩ := c
    obtain ⟨j, g⟩ := k
    exact wpF_swap hsel hQ hh.1 hh.2.1 hh.2.2.2.2 hh.2.2.1 hh.2.2.2.1 h1

theorem wpAny_of_F (he : edgesB ops = true) : ∀ (fuel : Nat) (R : List (Nat × Fl)) (listed : Array Bool) (a : Act) (w : World), R.length = fuel → listed.size = ops.size →
    (∀ i, listed.getD i true = false ↔ i ∈ R.map (·.1)) → okF ops R = true → (S w ∨ ∀ x ∈ R, x.2 ≠ .held) → wpF P ops Q S R a w → wpAny P .any ops Q fuel listed a w := by
  have edge : ∀ (i : Nat) (o : Oper), ops[i]? = some o → ∀ e ∈ o.after, e.on < ops.size := by
    intro i o ho e hin
    have := Array.all_eq_true_iff_forall_mem.1 he o (Array.mem_of_getElem? ho)
    simpa using Array.all_eq_true_iff_forall_mem.1 this e hin
  intro fuel
  induction fuel with
  | zero =>
    intro R listed a w hl hsz hR _ _ h
    obtain rfl : R = [] := List.length_eq_zero_iff.1 hl
    refine ⟨?_, h⟩
    rw [List.eq_nil_iff_forall_not_mem]
    intro i hi
    have := (hR i).1 (mem_ready.1 hi).1
    simp at this
  | succ fuel ih =>
    intro R listed a w hl hsz hR hok hS h
    refine ⟨?_, ?_⟩
    · -- the first of R may come up
      intro hnone
      cases R with
      | nil => simp at hl
      | cons x R =>
        exfalso
        have hx : listed.getD x.1 true = false := (hR x.1).2 (by simp)
        have hlt : x.1 < ops.size := by
          rw [← hsz]
          rcases Nat.lt_or_ge x.1 listed.size with h' | h'
          · exact h'
          · simp [Array.getElem?_eq_none h'] at hx
        have : x.1 ∈ Region.ready .any ops listed := by
          refine mem_ready.2 ⟨hx, ops[x.1], Array.getElem?_eq_getElem hlt, fun e hin hb => ?_⟩
          have hon := edge x.1 _ (Array.getElem?_eq_getElem hlt) e hin
          have hdep : dep ops x.1 e.on = true := by
            unfold dep Region.waitsFor
            rw [Array.getElem?_eq_getElem hlt]
            exact Array.any_eq_true'.2 ⟨e, hin, by simp [hb]⟩
          have hnot : e.on ∉ (x :: R).map (·.1) := by
            intro hm
            simp only [okF, Bool.and_eq_true, List.all_eq_true] at hok
            simp only [List.map_cons, List.mem_cons, List.mem_map] at hm
            rcases hm with hm | ⟨k, hk, hm⟩
            · rw [hm] at hdep; simp [hdep] at hok
            · have := (hok.1.1.2 k hk).1; rw [hm, hdep] at this; simp at this
          have hne : listed.getD e.on true ≠ false := fun h => hnot ((hR e.on).1 h)
          simp [hsz, hon] at hne ⊢
          exact hne
        rw [hnone] at this
        cases this
    · intro k hk
      obtain ⟨hun, ok, hok', hall⟩ := mem_ready.1 hk
      have hkR := (hR k).1 hun
      obtain ⟨⟨k', f⟩, hmem, rfl⟩ := List.mem_map.1 hkR
      obtain ⟨A, B, rfl⟩ := List.append_of_mem hmem
      have hA : ∀ x ∈ A, dep ops k' x.1 = false := by
        intro x hx
        cases hd : dep ops k' x.1 with
        | false => rfl
        | true =>
          exfalso
          unfold dep Region.waitsFor at hd
          rw [hok'] at hd
          obtain ⟨e, hin, hb⟩ := Array.any_eq_true'.1 hd
          simp only [Bool.and_eq_true, beq_iff_eq] at hb
          have h1 := hall e hin hb.1
          have h2 : listed.getD e.on true = false := (hR e.on).2 (by rw [hb.2]; simp; exact .inl ⟨x.2, hx⟩)
          rcases Nat.lt_or_ge e.on listed.size with h' | h'
          · simp [h'] at h1 h2; rw [h2] at h1; cases h1
          · simp [Array.getElem?_eq_none h'] at h1
      have hfr := wpF_front hsel hQ (k := (k', f)) hA hok h
      have hokd := okF_drop (k := (k', f)) hA hok
      have hkn : k' ∉ (A ++ B).map (·.1) := by
        intro hm
        have : ∀ {A : List (Nat × Fl)}, okF ops (A ++ (k', f) :: B) = true → k' ∉ (A ++ B).map (·.1) := by
          intro A
          induction A with
          | nil =>
            intro h hm
            simp only [List.nil_append, okF, Bool.and_eq_true, List.all_eq_true] at h
            simp only [List.nil_append, List.mem_map] at hm
            obtain ⟨x, hx, he⟩ := hm
            have := (h.1.1.2 x hx)
            simp [he] at this
          | cons c A ih =>
            intro h hm
            simp only [List.cons_append, okF, Bool.and_eq_true, List.all_eq_true] at h
            simp only [List.cons_append, List.map_cons, List.mem_cons] at hm
            rcases hm with hm | hm
            · have := h.1.1.2 (k', f) (by simp)
              simp [hm] at this
            · exact ih h.2 hm
        exact this hok hm
      have hR' : ∀ i, (listed.setIfInBounds k' true).getD i true = false ↔ i ∈ (A ++ B).map (·.1) := by
        intro i
        by_cases hik : k' = i
        · subst hik
          constructor
          · intro h0
            exfalso
            rcases Nat.lt_or_ge k' listed.size with h' | h'
            · simp [h'] at h0
            · simp [h'] at h0
          · intro hm; exact absurd hm hkn
        · rw [getD_set_ne true hik, hR i]
          simp only [List.map_append, List.map_cons, List.mem_append, List.mem_cons]
          constructor
          · rintro (h | h | h)
            · exact .inl h
            · exact absurd h.symm hik
            · exact .inr h
          · rintro (h | h)
            · exact .inl h
            · exact .inr (.inr h)
      have hlen : (A ++ B).length = fuel := by simp at hl ⊢; omega
      have go : ∀ a' w', (S w' ∨ ∀ x ∈ A ++ B, x.2 ≠ .held) → wpF P ops Q S (A ++ B) a' w' → wpAny P .any ops Q fuel (listed.setIfInBounds k' true) a' w' :=
        fun a' w' hS' h' => ih (A ++ B) _ a' w' hlen (by simp [hsz]) hR' hokd hS' h'
      have hSd : S w ∨ ∀ x ∈ A ++ B, x.2 ≠ .held := hS.imp id (fun h x hx => h x (mem_more hx))
      cases f with
      | at_ =>
        obtain ⟨o, v, ho, hv, hr⟩ := hfr
        exact hv.wpOp ho rfl (go _ _ hSd hr)
      | held =>
        obtain ⟨o, v, ho, hv, hr⟩ := hfr
        have hS' : S w := hS.resolve_right (fun h => h (k', .held) (by simp) rfl)
        exact hv.wpOp ho hS' (go _ _ (.inl hS') hr)
      | eff => rw [wpF_eff_eq] at hfr; exact wpOp_mono (fun a' w' h' => go a' w' (.inl h'.1) h'.2) hfr
      | fin =>
        rw [wpF_fin_eq] at hfr
        have hnh : ∀ x ∈ A ++ B, x.2 ≠ .held := by
          cases A with
          | cons c A => exact absurd rfl (okF_head hA hok).2.2.2.2
          | nil =>
            intro x hx
            simp only [List.nil_append, okF, Bool.and_eq_true] at hok hx
            have h3 := hok.1.2
            unfold okHead at h3
            rw [List.all_eq_true] at h3
            have := h3 x hx
            simp only [Bool.and_eq_true, Bool.or_eq_true, bne_iff_ne, ne_eq] at this
            exact this.1.resolve_left (by simp)
        exact wpOp_mono (fun a' w' h' => go a' w' (.inr hnh) h') hfr
end

/-- THE BEGINNING. No panic in such a region. -/
theorem wp_region_F {P : Program} {id : Nat} {l : List Oper} {Q : Exit → Act → World → Prop} {a : Act} {w : World} (S : World → Prop) (R : List (Nat × Fl)) (hm : P.follows .mixedOrders = true)
    (hg : goodB l.toArray R = true) (hS : S w.drew) (h : wpF P l.toArray (NoPanic Q) S R a w.drew) : (Code.region id l.toArray true).wp P Q a w := by
  simp only [goodB, Bool.and_eq_true, decide_eq_true_eq] at hg
  obtain ⟨⟨⟨⟨hsel, hed⟩, hfull⟩, hlen⟩, hok⟩ := hg
  refine wp_region_noPanic (wp_region_any hm ?_)
  refine wpAny_of_F hsel (fun _ _ _ _ _ h => h) hed _ R _ a _ hlen (by simp) ?_ hok (.inl hS) h
  intro i
  simp only [fullB, Bool.and_eq_true, List.all_eq_true, List.mem_range, decide_eq_true_eq] at hfull
  constructor
  · intro h0
    have : i < l.toArray.size := by
      rcases Nat.lt_or_ge i l.toArray.size with h' | h'
      · exact h'
      · rw [Array.getD_eq_getD_getElem?, Array.getElem?_eq_none (by simpa using h')] at h0; simp at h0
    simpa using hfull.1 i this
  · intro hm
    obtain ⟨k, hk, rfl⟩ := List.mem_map.1 hm
    have := hfull.2 k hk
    rw [Array.getD_eq_getD_getElem?, Array.getElem?_replicate]
    have h2 : k.1 < l.length := by simpa using this
    simp [h2]

/-- The same, the operations written out in the order that was named. -/
def wpG (P : Program) (ops : Array Oper) (Q : Exit → Act → World → Prop) (S : World → Prop) : List (Oper × Fl) → Act → World → Prop
  | [], a, w => Q .normal a w
  | (o, f) :: r, a, w =>
    match f with
    | .at_ => ∃ v, YieldsIf P ops (fun w' => w' = w) o v a ∧ wpG P ops Q S r (a.put o.dst v) w
    | .held => ∃ v, YieldsIf P ops S o v a ∧ wpG P ops Q S r (a.put o.dst v) w
    | .eff => if Region.wanted o (yielded ops a.tmps) then o.wp P a w (fun a' w' => S w' ∧ wpG P ops Q S r a' w') Q ∨ (o.asks P a w ∧ LetsOut Q) else S w ∧ wpG P ops Q S r (a.put o.dst undef) w
    | .fin => if Region.wanted o (yielded ops a.tmps) then o.wp P a w (fun a' w' => wpG P ops Q S r a' w') Q ∨ (o.asks P a w ∧ LetsOut Q) else wpG P ops Q S r (a.put o.dst undef) w

def pickOps (l : List Oper) (R : List (Nat × Fl)) : List (Oper × Fl) := R.map fun k => (l.getD k.1 default, k.2)

theorem wpF_of_G {P : Program} {l : List Oper} {Q : Exit → Act → World → Prop} {S : World → Prop} : ∀ (R : List (Nat × Fl)) (a : Act) (w : World), (∀ k ∈ R, k.1 < l.length) →
    wpG P l.toArray Q S (pickOps l R) a w → wpF P l.toArray Q S R a w := by
  intro R
  induction R with
  | nil => intro a w _ h; exact h
  | cons k R ih =>
    intro a w hk h
    have hlt := hk k (by simp)
    obtain ⟨i, f⟩ := k
    have ho : l.toArray[i]? = some (l.getD i default) := by simp [hlt]
    have ih' := fun a w => ih a w (fun k hk' => hk k (by simp [hk']))
    cases f with
    | at_ => obtain ⟨v, hv, hr⟩ := h; exact ⟨_, v, ho, hv, ih' _ _ hr⟩
    | held => obtain ⟨v, hv, hr⟩ := h; exact ⟨_, v, ho, hv, ih' _ _ hr⟩
    | eff =>
      rw [wpF_eff_eq]
      unfold wpOp
      rw [ho]
      have h' : if Region.wanted (l.getD i default) (yielded l.toArray a.tmps) then _ else _ := h
      show if Region.wanted (l.getD i default) (yielded l.toArray a.tmps) then _ else _
      split at h'
      · rename_i hw
        rw [if_pos hw]
        refine h'.imp (fun h => ?_) id
        exact Oper.wp_mono (fun a' w' h => ⟨h.1, ih' _ _ h.2⟩) h
      · rename_i hw
        rw [if_neg hw]
        exact ⟨h'.1, ih' _ _ h'.2⟩
    | fin =>
      rw [wpF_fin_eq]
      unfold wpOp
      rw [ho]
      have h' : if Region.wanted (l.getD i default) (yielded l.toArray a.tmps) then _ else _ := h
      show if Region.wanted (l.getD i default) (yielded l.toArray a.tmps) then _ else _
      split at h'
      · rename_i hw
        rw [if_pos hw]
        refine h'.imp (fun h => ?_) id
        exact Oper.wp_mono (fun a' w' h => ih' _ _ h) h
      · rename_i hw
        rw [if_neg hw]
        exact ih' _ _ h'

/-- THE BEGINNING. No panic in such a region. -/
theorem wp_region_G {P : Program} {id : Nat} {l : List Oper} {Q : Exit → Act → World → Prop} {a : Act} {w : World} (S : World → Prop) (R : List (Nat × Fl)) (L : List (Oper × Fl)) (hm : P.follows .mixedOrders = true)
    (hg : goodB l.toArray R = true) (hL : pickOps l R = L) (hS : S w.drew) (h : wpG P l.toArray (NoPanic Q) S L a w.drew) : (Code.region id l.toArray true).wp P Q a w := by
  subst hL
  refine wp_region_F S R hm hg hS (wpF_of_G R a _ ?_ h)
  simp only [goodB, fullB, Bool.and_eq_true, decide_eq_true_eq, List.all_eq_true] at hg
  intro k hk
  simpa using hg.1.1.2.2 k hk

section steps
variable {P : Program} {ops : Array Oper} {Q : Exit → Act → World → Prop} {S : World → Prop} {r : List (Oper × Fl)} {a : Act} {w : World} {o : Oper} {v : Value}
theorem wpG_at (hw : Region.wanted o (yielded ops a.tmps) = true) (hv : (execOp a.eval o).run P w = .ok (.value v) w) (h : wpG P ops Q S r (a.put o.dst v) w) : wpG P ops Q S ((o, .at_) :: r) a w :=
  ⟨v, .inl ⟨hw, fun w' e => by subst e; exact hv⟩, h⟩
theorem wpG_held (hw : Region.wanted o (yielded ops a.tmps) = true) (hv : ∀ w', S w' → (execOp a.eval o).run P w' = .ok (.value v) w') (h : wpG P ops Q S r (a.put o.dst v) w) : wpG P ops Q S ((o, .held) :: r) a w :=
  ⟨v, .inl ⟨hw, hv⟩, h⟩
theorem wpG_at_skip (hw : Region.wanted o (yielded ops a.tmps) = false) (h : wpG P ops Q S r (a.put o.dst undef) w) : wpG P ops Q S ((o, .at_) :: r) a w :=
  ⟨undef, .inr ⟨hw, rfl⟩, h⟩
theorem wpG_held_skip (hw : Region.wanted o (yielded ops a.tmps) = false) (h : wpG P ops Q S r (a.put o.dst undef) w) : wpG P ops Q S ((o, .held) :: r) a w :=
  ⟨undef, .inr ⟨hw, rfl⟩, h⟩
theorem wpG_eff (hw : Region.wanted o (yielded ops a.tmps) = true) (h : ∀ K : Act → World → Prop, (∀ a' w', S w' → wpG P ops Q S r a' w' → K a' w') → o.wp P a w K Q) : wpG P ops Q S ((o, .eff) :: r) a w := by
  show if Region.wanted o (yielded ops a.tmps) then _ else _
  rw [if_pos hw]
  exact .inl (h _ fun _ _ hs h' => ⟨hs, h'⟩)
theorem wpG_eff_skip (hw : Region.wanted o (yielded ops a.tmps) = false) (hS : S w) (h : wpG P ops Q S r (a.put o.dst undef) w) : wpG P ops Q S ((o, .eff) :: r) a w := by
  show if Region.wanted o (yielded ops a.tmps) then _ else _
  rw [if_neg (by simp [hw])]
  exact ⟨hS, h⟩
theorem wpG_fin (hw : Region.wanted o (yielded ops a.tmps) = true) (h : ∀ K : Act → World → Prop, (∀ a' w', wpG P ops Q S r a' w' → K a' w') → o.wp P a w K Q) : wpG P ops Q S ((o, .fin) :: r) a w := by
  show if Region.wanted o (yielded ops a.tmps) then _ else _
  rw [if_pos hw]
  exact .inl (h _ fun _ _ h' => h')
theorem wpG_nil (h : Q .normal a w) : wpG P ops Q S [] a w := h
end steps
end Go.Proofs.Ytaanbonbdhjbpaa
