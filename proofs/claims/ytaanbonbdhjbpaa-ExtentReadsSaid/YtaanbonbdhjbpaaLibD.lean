/- A region that draws its order, with two effects that wait not for each other: gone through in two orders. No program in sight. -/
import Derived.Test.YtaanbonbdhjbpaaLibB
namespace Go.Proofs.Ytaanbonbdhjbpaa

section
variable {P : Program} {ops : Array Oper} {Q : Exit → Act → World → Prop} {S : World → Prop} {d : Nat → Nat → Bool}
def reachD (d : Nat → Nat → Bool) (D : List Nat) : List (Nat × Fl) → List Nat
  | [] => D
  | k :: r => if D.any (fun x => d k.1 x) then reachD d (k.1 :: D) r else reachD d D r
def okHeadD (ops : Array Oper) (d : Nat → Nat → Bool) (x : Nat × Fl) (r : List (Nat × Fl)) : Bool :=
  r.all fun k => (x.2 != .fin || k.2 != .held) && ((reachD d [x.1] r).contains k.1 || (x.2 != .eff && x.2 != .fin && apartB ops x.1 k.1 && (k.2 != .eff || x.2 == .held) && k.2 != .fin))
def okFD (ops : Array Oper) (d : Nat → Nat → Bool) : List (Nat × Fl) → Bool
  | [] => true
  | x :: r => !d x.1 x.1 && (r.all fun k => !d x.1 k.1 && k.1 != x.1) && okHeadD ops d x r && okFD ops d r
theorem reach_subD {D : List Nat} {r : List (Nat × Fl)} {x : Nat} (h : x ∈ reachD d D r) : x ∈ D ∨ x ∈ r.map (·.1) := by
  induction r generalizing D with
  | nil => exact .inl h
  | cons k r ih =>
    unfold reachD at h
    split at h
    · rcases ih h with h | h
      · rcases List.mem_cons.1 h with rfl | h
        · exact .inr (by simp)
        · exact .inl h
      · exact .inr (by simp at h ⊢; exact .inr h)
    · rcases ih h with h | h
      · exact .inl h
      · exact .inr (by simp at h ⊢; exact .inr h)
/-- k waits for none of D, nor of A: it isn't reached, and what is reached is the same without it -/
theorem reach_skipD {A B : List (Nat × Fl)} {k : Nat × Fl} : ∀ {D : List Nat}, (∀ x ∈ D, d k.1 x = false) → (∀ x ∈ A, d k.1 x.1 = false) →
    reachD d D (A ++ k :: B) = reachD d D (A ++ B) := by
  induction A with
  | nil =>
    intro D h _
    show reachD d D (k :: B) = reachD d D B
    have : D.any (fun x => d k.1 x) = false := by rw [List.any_eq_false]; intro x hx; simp [h x hx]
    rw [reachD, if_neg (by simp [this])]
  | cons a A ih =>
    intro D h hA
    simp only [List.cons_append, reachD]
    split
    · refine ih (D := a.1 :: D) (fun x hx => ?_) (fun x hx => hA x (by simp [hx]))
      rcases List.mem_cons.1 hx with hx | hx
      · rw [hx]; exact hA a (by simp)
      · exact h x hx
    · exact ih h (fun x hx => hA x (by simp [hx]))

theorem mem_moreD {α : Type} {A B : List α} {k x : α} (h : x ∈ A ++ B) : x ∈ A ++ k :: B := by
  simp at h ⊢
  rcases h with h | h
  · exact .inl h
  · exact .inr (.inr h)
theorem okF_dropD {k : Nat × Fl} {B : List (Nat × Fl)} : ∀ {A : List (Nat × Fl)}, (∀ x ∈ A, d k.1 x.1 = false) → okFD ops d (A ++ k :: B) = true → okFD ops d (A ++ B) = true := by
  intro A
  induction A with
  | nil => intro _ h; simp only [List.nil_append, okFD, Bool.and_eq_true] at h ⊢; exact h.2
  | cons a A ih =>
    intro hA h
    simp only [List.cons_append, okFD, Bool.and_eq_true] at h ⊢
    obtain ⟨⟨⟨h1, h2⟩, h3⟩, h4⟩ := h
    refine ⟨⟨⟨h1, ?_⟩, ?_⟩, ih (fun x hx => hA x (by simp [hx])) h4⟩
    · rw [List.all_eq_true] at h2 ⊢
      exact fun x hx => h2 x (mem_moreD hx)
    · unfold okHeadD at h3 ⊢
      rw [List.all_eq_true] at h3 ⊢
      intro x hx
      have := h3 x (mem_moreD hx)
      rwa [reach_skipD (fun x hx => by simp at hx; subst hx; exact hA a (by simp)) (fun x hx => hA x (by simp [hx]))] at this
/-- of the first of A ++ k :: B, where k waits for none of A: they are apart; and where k may turn the world, the first is held -/
theorem okF_headD {a k : Nat × Fl} {A B : List (Nat × Fl)} (hA : ∀ x ∈ a :: A, d k.1 x.1 = false) (h : okFD ops d (a :: A ++ k :: B) = true) :
    a.2 ≠ .eff ∧ a.2 ≠ .fin ∧ apartB ops a.1 k.1 = true ∧ (k.2 = .eff → a.2 = .held) ∧ k.2 ≠ .fin := by
  simp only [List.cons_append, okFD, Bool.and_eq_true] at h
  obtain ⟨⟨⟨h1, h2⟩, h3⟩, h4⟩ := h
  unfold okHeadD at h3
  rw [List.all_eq_true] at h3
  have := h3 k (by simp)
  rw [reach_skipD (fun x hx => by simp at hx; subst hx; exact hA a (by simp)) (fun x hx => hA x (by simp [hx]))] at this
  have hn : k.1 ∉ reachD d [a.1] (A ++ B) := by
    intro hk
    rcases reach_subD hk with hk | hk
    · simp at hk
      rw [List.all_eq_true] at h2
      have := h2 k (by simp)
      simp [hk] at this
    · have hnd : ∀ {A : List (Nat × Fl)}, okFD ops d (A ++ k :: B) = true → k.1 ∉ (A ++ B).map (·.1) := by
        intro A
        induction A with
        | nil =>
          intro h hm
          simp only [List.nil_append, okFD, Bool.and_eq_true, List.all_eq_true] at h
          simp only [List.nil_append, List.mem_map] at hm
          obtain ⟨x, hx, he⟩ := hm
          have := (h.1.1.2 x hx)
          simp [he] at this
        | cons c A ih =>
          intro h hm
          simp only [List.cons_append, okFD, Bool.and_eq_true, List.all_eq_true] at h
          simp only [List.cons_append, List.map_cons, List.mem_cons] at hm
          rcases hm with hm | hm
          · have := h.1.1.2 k (by simp)
            simp [hm] at this
          · exact ih h.2 hm
      exact hnd h4 hk
  have hc : (reachD d [a.1] (A ++ B)).contains k.1 = false := by simpa using hn
  rw [hc] at this
  simp only [Bool.false_or, Bool.and_eq_true, bne_iff_ne, ne_eq, Bool.or_eq_true, beq_iff_eq] at this
  exact ⟨this.2.1.1.1.1, this.2.1.1.1.2, this.2.1.1.2, fun e => this.2.1.2.resolve_left (fun h => h e), this.2.2⟩


theorem YieldsIf.same {T T' : World → Prop} {o : Oper} {v v' : Value} {a : Act} {w : World} (h : YieldsIf P ops T o v a) (h' : YieldsIf P ops T' o v' a) (hT : T w) (hT' : T' w) : v = v' := by
  rcases h with ⟨h1, h2⟩ | ⟨h1, h2⟩
  · rcases h' with ⟨h3, h4⟩ | ⟨h3, h4⟩
    · have := (h2 w hT).symm.trans (h4 w hT')
      injection this with this
      injection this
    · rw [h1] at h3; cases h3
  · rcases h' with ⟨h3, h4⟩ | ⟨h3, h4⟩
    · rw [h3] at h1; cases h1
    · rw [h2, h4]
variable (hsel : Region.noSelect ops = true) (hQ : ∀ d v c a w, Q (.panic c) (Act.put a d v) w → Q (.panic c) a w)
include hsel hQ
/-- what may come up now comes to the front -/
theorem wpF_frontD {k : Nat × Fl} {B : List (Nat × Fl)} : ∀ {A : List (Nat × Fl)} {a : Act} {w : World}, (∀ x ∈ A, d k.1 x.1 = false) → okFD ops d (A ++ k :: B) = true →
    wpF P ops Q S (A ++ k :: B) a w → wpF P ops Q S (k :: (A ++ B)) a w := by
  intro A
  induction A with
  | nil => intro a w _ _ h; exact h
  | cons c A ih =>
    intro a w hA hok h
    have hh := okF_headD hA hok
    have hok' : okFD ops d (A ++ k :: B) = true := by simp only [List.cons_append, okFD, Bool.and_eq_true] at hok; exact hok.2
    have h1 : wpF P ops Q S (c :: (k :: (A ++ B))) a w := wpF_cons_mono (fun a w h => ih (fun x hx => hA x (by simp [hx])) hok' h) h
    obtain ⟨i, f⟩ := c
    obtain ⟨j, g⟩ := k
    exact wpF_swap hsel hQ hh.1 hh.2.1 hh.2.2.2.2 hh.2.2.1 hh.2.2.2.1 h1


/-- one that is ready is taken -/
theorem wpOp_frontD {k : Nat} {f : Fl} {A B : List (Nat × Fl)} {a : Act} {w : World} {C : Act → World → Prop} (hA : ∀ x ∈ A, d k x.1 = false) (hok : okFD ops d (A ++ (k, f) :: B) = true)
    (hS : S w ∨ ∀ x ∈ A ++ (k, f) :: B, x.2 ≠ .held) (h : wpF P ops Q S (A ++ (k, f) :: B) a w) (go : ∀ a' w', (S w' ∨ ∀ x ∈ A ++ B, x.2 ≠ .held) → wpF P ops Q S (A ++ B) a' w' → C a' w') : wpOp P ops Q k C a w := by
  have hfr := wpF_frontD hsel hQ (k := (k, f)) hA hok h
  have hSd : S w ∨ ∀ x ∈ A ++ B, x.2 ≠ .held := hS.imp id (fun h x hx => h x (mem_moreD hx))
  cases f with
  | at_ =>
    obtain ⟨o, v, ho, hv, hr⟩ := hfr
    exact hv.wpOp ho rfl (go _ _ hSd hr)
  | held =>
    obtain ⟨o, v, ho, hv, hr⟩ := hfr
    have hS' : S w := hS.resolve_right (fun h => h (k, .held) (by simp) rfl)
    exact hv.wpOp ho hS' (go _ _ (.inl hS') hr)
  | eff => rw [wpF_eff_eq] at hfr; exact wpOp_mono (fun a' w' h' => go a' w' (.inl h'.1) h'.2) hfr
  | fin =>
    rw [wpF_fin_eq] at hfr
    have hnh : ∀ x ∈ A ++ B, x.2 ≠ .held := by
      cases A with
      | cons c A => exact absurd rfl (okF_headD hA hok).2.2.2.2
      | nil =>
        intro x hx
        simp only [List.nil_append, okFD, Bool.and_eq_true] at hok hx
        have h3 := hok.1.2
        unfold okHeadD at h3
        rw [List.all_eq_true] at h3
        have := h3 x hx
        simp only [Bool.and_eq_true, Bool.or_eq_true, bne_iff_ne, ne_eq] at this
        exact this.1.resolve_left (by simp)
    exact wpOp_mono (fun a' w' h' => go a' w' (.inr hnh) h') hfr
omit hsel hQ
/-- what is ready waits for none that is left -/
theorem ready_free {R : List (Nat × Fl)} {listed : Array Bool} {k : Nat} (hsz : listed.size = ops.size) (hR : ∀ i, listed.getD i true = false ↔ i ∈ R.map (·.1)) (hk : k ∈ Region.ready .any ops listed) :
    k ∈ R.map (·.1) ∧ ∀ x ∈ R.map (·.1), dep ops k x = false := by
  obtain ⟨hun, ok, hok', hall⟩ := mem_ready.1 hk
  refine ⟨(hR k).1 hun, fun x hx => ?_⟩
  cases hd : dep ops k x with
  | false => rfl
  | true =>
    exfalso
    unfold dep Region.waitsFor at hd
    rw [hok'] at hd
    obtain ⟨e, hin, hb⟩ := Array.any_eq_true'.1 hd
    simp only [Bool.and_eq_true, beq_iff_eq] at hb
    have h1 := hall e hin hb.1
    have h2 : listed.getD e.on true = false := (hR e.on).2 (by rw [hb.2]; exact hx)
    rcases Nat.lt_or_ge e.on listed.size with h' | h'
    · simp [h'] at h1 h2; rw [h2] at h1; cases h1
    · simp [Array.getElem?_eq_none h'] at h1
/-- the first of R may come up -/
theorem first_ready (he : edgesB ops = true) {R : List (Nat × Fl)} {x : Nat × Fl} {listed : Array Bool} (hsz : listed.size = ops.size) (hR : ∀ i, listed.getD i true = false ↔ i ∈ (x :: R).map (·.1))
    (hd : ∀ k y, dep ops k y = true → d k y = true) (hok : okFD ops d (x :: R) = true) : x.1 ∈ Region.ready .any ops listed := by
  have hx : listed.getD x.1 true = false := (hR x.1).2 (by simp)
  have hlt : x.1 < ops.size := by
    rw [← hsz]
    rcases Nat.lt_or_ge x.1 listed.size with h' | h'
    · exact h'
    · simp [Array.getElem?_eq_none h'] at hx
  refine mem_ready.2 ⟨hx, ops[x.1], Array.getElem?_eq_getElem hlt, fun e hin hb => ?_⟩
  have hon : e.on < ops.size := by
    have := Array.all_eq_true_iff_forall_mem.1 he _ (Array.mem_of_getElem? (Array.getElem?_eq_getElem hlt))
    simpa using Array.all_eq_true_iff_forall_mem.1 this e hin
  have hdep : dep ops x.1 e.on = true := by
    unfold dep Region.waitsFor
    rw [Array.getElem?_eq_getElem hlt]
    exact Array.any_eq_true'.2 ⟨e, hin, by simp [hb]⟩
  have hdd := hd _ _ hdep
  have hnot : e.on ∉ (x :: R).map (·.1) := by
    intro hm
    simp only [okFD, Bool.and_eq_true, List.all_eq_true] at hok
    simp only [List.map_cons, List.mem_cons, List.mem_map] at hm
    rcases hm with hm | ⟨k, hk, hm⟩
    · rw [hm] at hdd; simp [hdd] at hok
    · have := (hok.1.1.2 k hk).1; rw [hm, hdd] at this; simp at this
  have hne : listed.getD e.on true ≠ false := fun h => hnot ((hR e.on).1 h)
  simp [hsz, hon] at hne ⊢
  exact hne
theorem not_left {k : Nat} {f : Fl} {B : List (Nat × Fl)} : ∀ {A : List (Nat × Fl)}, okFD ops d (A ++ (k, f) :: B) = true → k ∉ (A ++ B).map (·.1) := by
  intro A
  induction A with
  | nil =>
    intro h hm
    simp only [List.nil_append, okFD, Bool.and_eq_true, List.all_eq_true] at h
    simp only [List.nil_append, List.mem_map] at hm
    obtain ⟨x, hx, he⟩ := hm
    have := (h.1.1.2 x hx)
    simp [he] at this
  | cons c A ih =>
    intro h hm
    simp only [List.cons_append, okFD, Bool.and_eq_true, List.all_eq_true] at h
    simp only [List.cons_append, List.map_cons, List.mem_cons] at hm
    rcases hm with hm | hm
    · have := h.1.1.2 (k, f) (by simp)
      simp [hm] at this
    · exact ih h.2 hm
theorem listed_less {k : Nat} {f : Fl} {A B : List (Nat × Fl)} {listed : Array Bool} (hR : ∀ i, listed.getD i true = false ↔ i ∈ (A ++ (k, f) :: B).map (·.1)) (hkn : k ∉ (A ++ B).map (·.1)) :
    ∀ i, (listed.setIfInBounds k true).getD i true = false ↔ i ∈ (A ++ B).map (·.1) := by
  intro i
  by_cases hik : k = i
  · subst hik
    constructor
    · intro h0
      exfalso
      rcases Nat.lt_or_ge k listed.size with h' | h'
      · simp [h'] at h0
      · simp [h'] at h0
    · intro hm; exact absurd hm hkn
  · rw [getD_set_ne true hik, hR i]
    simp only [List.map_append, List.map_cons, List.mem_append, List.mem_cons]
    constructor
    · rintro (h | h | h)
      · exact .inl h
      · exact absurd h.symm hik
      · exact .inr h
    · rintro (h | h)
      · exact .inl h
      · exact .inr (.inr h)
theorem mem_mid {k : Nat × Fl} {A B : List (Nat × Fl)} {x : Nat} (h : x ∈ (A ++ B).map (·.1)) : x ∈ (A ++ k :: B).map (·.1) := by
  simp only [List.map_append, List.map_cons, List.mem_append, List.mem_cons] at h ⊢
  rcases h with h | h
  · exact .inl h
  · exact .inr (.inr h)
include hsel hQ
theorem wpAny_of_FD (he : edgesB ops = true) (hd : ∀ k y, dep ops k y = true → d k y = true) : ∀ (fuel : Nat) (R : List (Nat × Fl)) (listed : Array Bool) (a : Act) (w : World), R.length = fuel → listed.size = ops.size →
    (∀ i, listed.getD i true = false ↔ i ∈ R.map (·.1)) → (∀ k x, x ∈ R.map (·.1) → d k x = true → dep ops k x = true) → okFD ops d R = true → (S w ∨ ∀ x ∈ R, x.2 ≠ .held) → wpF P ops Q S R a w → wpAny P .any ops Q fuel listed a w := by
  intro fuel
  induction fuel with
  | zero =>
    intro R listed a w hl hsz hR _ _ _ h
    obtain rfl : R = [] := List.length_eq_zero_iff.1 hl
    refine ⟨?_, h⟩
    rw [List.eq_nil_iff_forall_not_mem]
    intro i hi
    have := (hR i).1 (mem_ready.1 hi).1
    simp at this
  | succ fuel ih =>
    intro R listed a w hl hsz hR hdR hok hS h
    refine ⟨?_, ?_⟩
    · intro hnone
      cases R with
      | nil => simp at hl
      | cons x R =>
        have := first_ready he hsz hR hd hok
        rw [hnone] at this
        cases this
    · intro k hk
      obtain ⟨hkR, hfree⟩ := ready_free hsz hR hk
      obtain ⟨⟨k', f⟩, hmem, rfl⟩ := List.mem_map.1 hkR
      obtain ⟨A, B, rfl⟩ := List.append_of_mem hmem
      have hA : ∀ x ∈ A, d k' x.1 = false := by
        intro x hx
        have hxm : x.1 ∈ (A ++ (k', f) :: B).map (·.1) := List.mem_map.2 ⟨x, by simp [hx], rfl⟩
        cases hdx : d k' x.1 with
        | false => rfl
        | true => have := hdR _ _ hxm hdx; rw [hfree _ hxm] at this; cases this
      have hkn := not_left hok
      refine wpOp_frontD hsel hQ hA hok hS h fun a' w' hS' h' => ih (A ++ B) _ a' w' (by simp at hl ⊢; omega) (by simp [hsz]) (listed_less hR hkn) (fun k x hx => hdR k x (mem_mid hx)) (okF_dropD (k := (k', f)) hA hok) hS' h'
omit hsel hQ
/-- two plans: in the one i goes ahead of j, in the other j ahead of i -/
def ahead2 (ops : Array Oper) (i j : Nat) (k x : Nat) : Bool := dep ops k x || (k == j && x == i)
def chk2 (ops : Array Oper) (i j : Nat) (R : List (Nat × Fl)) : Bool := R.all fun k => k.1 == i || k.1 == j || (k.2 != .eff && k.2 != .fin) || ((reach ops [i] R).contains k.1 && (reach ops [j] R).contains k.1)
theorem chk2_drop {i j : Nat} {k : Nat × Fl} {A B : List (Nat × Fl)} (hi : dep ops k.1 i = false) (hj : dep ops k.1 j = false) (hA : ∀ x ∈ A, dep ops k.1 x.1 = false) (h : chk2 ops i j (A ++ k :: B) = true) : chk2 ops i j (A ++ B) = true := by
  unfold chk2 at h ⊢
  rw [reach_skip (fun x hx => by simp at hx; subst hx; exact hi) hA, reach_skip (fun x hx => by simp at hx; subst hx; exact hj) hA] at h
  rw [List.all_eq_true] at h ⊢
  exact fun x hx => h x (mem_moreD hx)
include hsel hQ
theorem wpAny_two (he : edgesB ops = true) {i j : Nat} (hij : i ≠ j) : ∀ (fuel : Nat) (R1 R2 : List (Nat × Fl)) (listed : Array Bool) (a : Act) (w : World), R1.length = fuel → R2.length = fuel → listed.size = ops.size →
    (∀ x, listed.getD x true = false ↔ x ∈ R1.map (·.1)) → (∀ x, listed.getD x true = false ↔ x ∈ R2.map (·.1)) → okFD ops (ahead2 ops i j) R1 = true → okFD ops (ahead2 ops j i) R2 = true →
    chk2 ops i j R1 = true → chk2 ops i j R2 = true → i ∈ R1.map (·.1) → j ∈ R1.map (·.1) → S w → wpF P ops Q S R1 a w → wpF P ops Q S R2 a w → wpAny P .any ops Q fuel listed a w := by
  intro fuel
  induction fuel with
  | zero =>
    intro R1 R2 listed a w hl _ _ _ _ _ _ _ _ hi _ _ _ _
    obtain rfl : R1 = [] := List.length_eq_zero_iff.1 hl
    simp at hi
  | succ fuel ih =>
    intro R1 R2 listed a w hl1 hl2 hsz hR1 hR2 hok1 hok2 hc1 hc2 hi hj hS h1 h2
    have hd1 : ∀ k y, dep ops k y = true → ahead2 ops i j k y = true := fun k y h => by simp [ahead2, h]
    have hd2 : ∀ k y, dep ops k y = true → ahead2 ops j i k y = true := fun k y h => by simp [ahead2, h]
    refine ⟨?_, ?_⟩
    · intro hnone
      cases R1 with
      | nil => simp at hl1
      | cons x R =>
        have := first_ready he hsz hR1 hd1 hok1
        rw [hnone] at this
        cases this
    · intro k hk
      obtain ⟨hkR1, hfree1⟩ := ready_free hsz hR1 hk
      obtain ⟨hkR2, hfree2⟩ := ready_free hsz hR2 hk
      obtain ⟨⟨k1, f1⟩, hmem1, hke1⟩ := List.mem_map.1 hkR1
      obtain ⟨⟨k2, f2⟩, hmem2, hke2⟩ := List.mem_map.1 hkR2
      dsimp only at hke1 hke2
      subst hke1
      subst hke2
      obtain ⟨A1, B1, rfl⟩ := List.append_of_mem hmem1
      obtain ⟨A2, B2, rfl⟩ := List.append_of_mem hmem2
      have hA1 : ∀ x ∈ A1, dep ops k2 x.1 = false := fun x hx => hfree1 _ (List.mem_map.2 ⟨x, by simp [hx], rfl⟩)
      have hA2 : ∀ x ∈ A2, dep ops k2 x.1 = false := fun x hx => hfree2 _ (List.mem_map.2 ⟨x, by simp [hx], rfl⟩)
      have hkn1 := not_left hok1
      have hkn2 := not_left hok2
      by_cases e1 : k2 = i
      · subst e1
        have hA : ∀ x ∈ A1, ahead2 ops k2 j k2 x.1 = false := fun x hx => by simp [ahead2, hA1 x hx, hij]
        refine wpOp_frontD hsel hQ hA hok1 (.inl hS) h1 fun a' w' hS' h' => wpAny_of_FD hsel hQ he hd1 fuel (A1 ++ B1) _ a' w' (by simp at hl1 ⊢; omega) (by simp [hsz]) (listed_less hR1 hkn1) ?_ (okF_dropD (k := (k2, f1)) hA hok1) hS' h'
        intro k x hx hdx
        simp only [ahead2, Bool.or_eq_true, Bool.and_eq_true, beq_iff_eq] at hdx
        rcases hdx with h | ⟨_, h⟩
        · exact h
        · subst h; exact absurd hx hkn1
      · by_cases e2 : k2 = j
        · subst e2
          have hA : ∀ x ∈ A2, ahead2 ops k2 i k2 x.1 = false := fun x hx => by simp [ahead2, hA2 x hx, Ne.symm hij]
          refine wpOp_frontD hsel hQ hA hok2 (.inl hS) h2 fun a' w' hS' h' => wpAny_of_FD hsel hQ he hd2 fuel (A2 ++ B2) _ a' w' (by simp at hl2 ⊢; omega) (by simp [hsz]) (listed_less hR2 hkn2) ?_ (okF_dropD (k := (k2, f2)) hA hok2) hS' h'
          intro k x hx hdx
          simp only [ahead2, Bool.or_eq_true, Bool.and_eq_true, beq_iff_eq] at hdx
          rcases hdx with h | ⟨_, h⟩
          · exact h
          · subst h; exact absurd hx hkn2
        · have hA1' : ∀ x ∈ A1, ahead2 ops i j k2 x.1 = false := fun x hx => by simp [ahead2, hA1 x hx, e2]
          have hA2' : ∀ x ∈ A2, ahead2 ops j i k2 x.1 = false := fun x hx => by simp [ahead2, hA2 x hx, e1]
          have h4 := hfree1 i hi
          have h5 := hfree1 j hj
          have st : ∀ (A B : List (Nat × Fl)) (f : Fl), (∀ x ∈ A, dep ops k2 x.1 = false) → k2 ∉ (A ++ B).map (·.1) → chk2 ops i j (A ++ (k2, f) :: B) = true → f ≠ .eff ∧ f ≠ .fin := by
            intro A B f hA hn hc
            unfold chk2 at hc
            rw [reach_skip (fun x hx => by simp at hx; subst hx; exact h4) hA] at hc
            rw [List.all_eq_true] at hc
            have h3 := hc (k2, f) (by simp)
            have h6 : (reach ops [i] (A ++ B)).contains k2 = false := by
              simp only [List.contains_eq_mem, decide_eq_false_iff_not]
              intro h
              rcases reach_sub h with h | h
              · simp at h; exact e1 h
              · exact hn h
            simp only [Bool.or_eq_true, Bool.and_eq_true, beq_iff_eq, bne_iff_ne, ne_eq, e1, e2, false_or, h6, Bool.false_eq_true, false_and, or_false] at h3
            exact h3
          obtain ⟨s1, s2⟩ := st _ _ _ hA1 hkn1 hc1
          obtain ⟨s3, s4⟩ := st _ _ _ hA2 hkn2 hc2
          have g1 := wpF_frontD hsel hQ (k := (k2, f1)) hA1' hok1 h1
          have g2 := wpF_frontD hsel hQ (k := (k2, f2)) hA2' hok2 h2
          have i1 : i ∈ (A1 ++ B1).map (·.1) := by
            simp only [List.map_append, List.map_cons, List.mem_append, List.mem_cons] at hi ⊢
            rcases hi with h | h | h
            · exact .inl h
            · exact absurd h.symm e1
            · exact .inr h
          have j1 : j ∈ (A1 ++ B1).map (·.1) := by
            simp only [List.map_append, List.map_cons, List.mem_append, List.mem_cons] at hj ⊢
            rcases hj with h | h | h
            · exact .inl h
            · exact absurd h.symm e2
            · exact .inr h
          have go : ∀ a', wpF P ops Q S (A1 ++ B1) a' w → wpF P ops Q S (A2 ++ B2) a' w → wpAny P .any ops Q fuel (listed.setIfInBounds k2 true) a' w := fun a' q1 q2 =>
            ih (A1 ++ B1) (A2 ++ B2) _ a' w (by simp at hl1 ⊢; omega) (by simp at hl2 ⊢; omega) (by simp [hsz]) (listed_less hR1 hkn1) (listed_less hR2 hkn2) (okF_dropD (k := (k2, f1)) hA1' hok1) (okF_dropD (k := (k2, f2)) hA2' hok2)
              (chk2_drop (k := (k2, f1)) h4 h5 hA1 hc1) (chk2_drop (k := (k2, f2)) h4 h5 hA2 hc2) i1 j1 hS q1 q2
          have y1 : ∃ (o : Oper) (v : Value) (T : World → Prop), ops[k2]? = some o ∧ T w ∧ YieldsIf P ops T o v a ∧ wpF P ops Q S (A1 ++ B1) (a.put o.dst v) w := by
            cases f1 with
            | at_ => obtain ⟨o, v, ho, hv, hr⟩ := g1; exact ⟨o, v, fun w' => w' = w, ho, rfl, hv, hr⟩
            | held => obtain ⟨o, v, ho, hv, hr⟩ := g1; exact ⟨o, v, S, ho, hS, hv, hr⟩
            | eff => exact absurd rfl s1
            | fin => exact absurd rfl s2
          have y2 : ∃ (o : Oper) (v : Value) (T : World → Prop), ops[k2]? = some o ∧ T w ∧ YieldsIf P ops T o v a ∧ wpF P ops Q S (A2 ++ B2) (a.put o.dst v) w := by
            cases f2 with
            | at_ => obtain ⟨o, v, ho, hv, hr⟩ := g2; exact ⟨o, v, fun w' => w' = w, ho, rfl, hv, hr⟩
            | held => obtain ⟨o, v, ho, hv, hr⟩ := g2; exact ⟨o, v, S, ho, hS, hv, hr⟩
            | eff => exact absurd rfl s3
            | fin => exact absurd rfl s4
          obtain ⟨o, v, T, ho, hT, hv, hr⟩ := y1
          obtain ⟨o', v', T', ho', hT', hv', hr'⟩ := y2
          obtain rfl : o = o' := Option.some.inj (ho.symm.trans ho')
          obtain rfl := YieldsIf.same hv hv' hT hT'
          exact hv.wpOp ho hT (go _ hr hr')
end
def goodB2 (ops : Array Oper) (i j : Nat) (R1 R2 : List (Nat × Fl)) : Bool :=
  Region.noSelect ops && edgesB ops && fullB ops R1 && fullB ops R2 && decide (R1.length = ops.size) && decide (R2.length = ops.size) && okFD ops (ahead2 ops i j) R1 && okFD ops (ahead2 ops j i) R2 && chk2 ops i j R1 && chk2 ops i j R2 &&
    decide (i ≠ j) && (R1.map (·.1)).contains i && (R1.map (·.1)).contains j
theorem full_listed {l : List Oper} {R : List (Nat × Fl)} (hfull : fullB l.toArray R = true) : ∀ i, (Array.replicate l.toArray.size false).getD i true = false ↔ i ∈ R.map (·.1) := by
  intro i
  simp only [fullB, Bool.and_eq_true, List.all_eq_true, List.mem_range, decide_eq_true_eq] at hfull
  constructor
  · intro h0
    have : i < l.toArray.size := by
      rcases Nat.lt_or_ge i l.toArray.size with h' | h'
      · exact h'
      · rw [Array.getD_eq_getD_getElem?, Array.getElem?_eq_none (by simpa using h')] at h0; simp at h0
    simpa using hfull.1 i this
  · intro hm
    obtain ⟨k, hk, rfl⟩ := List.mem_map.1 hm
    have := hfull.2 k hk
    rw [Array.getD_eq_getD_getElem?, Array.getElem?_replicate]
    have h2 : k.1 < l.length := by simpa using this
    simp [h2]
/-- THE BEGINNING, with two effects i and j that wait not for each other. No panic in such a region. -/
theorem wp_region_two {P : Program} {id : Nat} {l : List Oper} {Q : Exit → Act → World → Prop} {a : Act} {w : World} (i j : Nat) (S : World → Prop) (R1 R2 : List (Nat × Fl)) (L1 L2 : List (Oper × Fl)) (hm : P.follows .mixedOrders = true)
    (hg : goodB2 l.toArray i j R1 R2 = true) (hL1 : pickOps l R1 = L1) (hL2 : pickOps l R2 = L2) (hS : S w.drew) (h1 : wpG P l.toArray (NoPanic Q) S L1 a w.drew) (h2 : wpG P l.toArray (NoPanic Q) S L2 a w.drew) : (Code.region id l.toArray true).wp P Q a w := by
  subst hL1
  subst hL2
  simp only [goodB2, Bool.and_eq_true, decide_eq_true_eq] at hg
  obtain ⟨⟨⟨⟨⟨⟨⟨⟨⟨⟨⟨⟨hsel, hed⟩, hf1⟩, hf2⟩, hl1⟩, hl2⟩, hok1⟩, hok2⟩, hc1⟩, hc2⟩, hij⟩, hi⟩, hj⟩ := hg
  have lt : ∀ R, fullB l.toArray R = true → ∀ k ∈ R, k.1 < l.length := by
    intro R hf k hk
    simp only [fullB, Bool.and_eq_true, List.all_eq_true, decide_eq_true_eq] at hf
    simpa using hf.2 k hk
  refine wp_region_noPanic (wp_region_any hm ?_)
  exact wpAny_two hsel (fun _ _ _ _ _ h => h) hed hij _ R1 R2 _ a _ hl1 hl2 (by simp) (full_listed hf1) (full_listed hf2) hok1 hok2 hc1 hc2 (by simpa using hi) (by simpa using hj) hS (wpF_of_G R1 a _ (lt R1 hf1) h1) (wpF_of_G R2 a _ (lt R2 hf2) h2)
end Go.Proofs.Ytaanbonbdhjbpaa
