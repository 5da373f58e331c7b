/- A region that draws its order, in a round of a range over a function: gone through in one order, as in LibB. No program in sight. -/
import Derived.Test.YtplbkjgkocnehaaLibB
import Derived.OrdersIn
import Derived.RangeFuncCalls
import Derived.RangeFuncNested
import Derived.TacticsIn
namespace Go.Proofs.Ytplbkjgkocnehaa

section
variable {P : Program} {ops : Array Oper} {Q : Exit → Act → World → Prop} {S : World → Prop} {md : Region.Mode}
/-- an operation, with no way out for want of room -/
def wpOpS (P : Program) (ops : Array Oper) (Q : Exit → Act → World → Prop) (i : Nat) (K : Act → World → Prop) (a : Act) (w : World) : Prop :=
  match ops[i]? with
  | none => K a w
  | some o => if Region.wanted o (yielded ops a.tmps) then o.wp P a w K Q else K (a.put o.dst undef) w
def wpAnyS (P : Program) (md : Region.Mode) (ops : Array Oper) (Q : Exit → Act → World → Prop) : Nat → Array Bool → Act → World → Prop
  | 0, listed, a, w => Region.ready md ops listed = [] ∧ Q .normal a w
  | fuel + 1, listed, a, w =>
    (Region.ready md ops listed = [] → Q .normal a w) ∧
    ∀ i ∈ Region.ready md ops listed, wpOpS P ops Q i (wpAnyS P md ops Q fuel (listed.setIfInBounds i true)) a w
def noDeferB (ops : Array Oper) : Bool := ops.all fun o => match o.op with | .defer _ => false | _ => true
theorem noDefer_spec (h : noDeferB ops = true) {i : Nat} {o : Oper} (ho : ops[i]? = some o) : ∀ c, o.op ≠ .defer c := by
  intro c hc
  have := Array.all_eq_true_iff_forall_mem.1 h o (Array.mem_of_getElem? ho)
  rw [hc] at this; cases this
theorem wpOpS_mono {i : Nat} {a : Act} {w : World} {K K' : Act → World → Prop} (h : ∀ a w, K a w → K' a w) (hh : wpOpS P ops Q i K a w) : wpOpS P ops Q i K' a w := by
  unfold wpOpS at *
  split
  · exact h _ _ (by simpa [*] using hh)
  · rename_i o ho
    simp only [ho] at hh
    split
    · rename_i hw; simp only [hw, if_true] at hh; exact Oper.wp_mono h hh
    · rename_i hw; simp only [hw] at hh; exact h _ _ hh
theorem _root_.Go.YieldsIf.wpOpS {i : Nat} {o : Oper} {v : Value} {a : Act} (hy : YieldsIf P ops S o v a) (hi : ops[i]? = some o) 
    {K : Act → World → Prop} {w : World} (hS : S w) (h : K (a.put o.dst v) w) : wpOpS P ops Q i K a w := by
  unfold Go.Proofs.Ytplbkjgkocnehaa.wpOpS
  simp only [hi]
  rcases hy with ⟨hw, hv⟩ | ⟨hw, rfl⟩
  · simp only [hw, if_true, Oper.wp, hv w hS, Oper.upon]; exact h
  · simp only [hw, Bool.false_eq_true, if_false]; exact h
theorem wpOpS_putIf {j : Nat} {oi oj : Oper} {v : Value} (hj : ops[j]? = some oj) (hap : oi.apart ops oj = true)
    (hsi : ∀ cs b, oi.op ≠ .select cs b) (hsj : ∀ cs b, oj.op ≠ .select cs b)
    (hQ : ∀ c a w, Q (.panic c) (a.put oi.dst v) w → Q (.panic c) a w) {K : Act → World → Prop} {a : Act} {w : World}
    (hy : YieldsIf P ops S oi v a) (h : wpOpS P ops Q j K (a.put oi.dst v) w) :
    wpOpS P ops Q j (fun a' w' => YieldsIf P ops S oi v a' ∧ K (a'.put oi.dst v) w') a w := by
  obtain ⟨h1, h2, h3⟩ := Oper.apart_spec hap
  have keep : ∀ (a : Act), YieldsIf P ops S oi v a → ∀ u, YieldsIf P ops S oi v (a.put oj.dst u) := fun a hy u =>
    hy.of_same (execOp_put oi hsi a oj.dst u h3) (wanted_put oi a oj.dst u h3)
  have keepD : ∀ d, YieldsIf P ops S oi v { a with defers := d :: a.defers } := fun d => hy.of_same rfl rfl
  unfold wpOpS at *
  simp only [hj] at *
  rw [wanted_put oj a oi.dst v h1] at h
  split
  · rename_i hw
    simp only [hw, if_true] at h
    unfold Oper.wp at *
    rw [execOp_put oj hsj a oi.dst v h1] at h
    generalize (execOp a.eval oj).run P w = r at *
    cases r with
    | ok n w' =>
      cases n <;> simp only [Oper.upon] at h ⊢
      case value u => exact ⟨keep a hy u, by rw [← Act.put_comm a v u h2]; exact h⟩
      case skip => exact ⟨keep a hy _, by rw [← Act.put_comm a v undef h2]; exact h⟩
      case defer d =>
        refine ⟨keep _ (keepD d) _, ?_⟩
        rw [← Act.put_comm _ v undef h2, ← Act.put_defers]
        exact h
      case enter f args =>
        refine Calls.mono h fun e w'' he => ?_
        cases e with
        | returned u => exact ⟨keep a hy u, by rw [← Act.put_comm a v u h2]; exact he⟩
        | panicked c => exact hQ _ _ _ he
        | outgrown => exact he
      case row row args => exact Rows.mono h fun u w'' he => ⟨keep a hy u, by rw [← Act.put_comm a v u h2]; exact he⟩
    | halt x w' =>
      cases x <;> simp only [Oper.upon] at h ⊢
      case panic u => exact hQ _ _ _ h
  · rename_i hw
    simp only [hw] at h
    exact ⟨keep a hy _, by rw [← Act.put_comm a v undef h2]; exact h⟩
theorem inRound_fn (l0 : Nat) (f : FuncId) : (Fence.wide.inRound l0).fn f := trivial
theorem rowsIn_round {l0 n : Nat} {row : String} {args : Array Value} {w : World} {R : Value → World → Prop} (h : Rows P row args w R) : RowsIn (Fence.wide.inRound l0) n P row args w R :=
  fun c cs _ => let ⟨v, w', r, s⟩ := h c cs; ⟨v, w', r, stepsIn_wide.2 s⟩
theorem wpIn_of_wp {o : Oper} {a : Act} {w : World} {K : Act → World → Prop} {l0 n : Nat} (hnd : ∀ c, o.op ≠ .defer c) (h : o.wp P a w K Q) : o.wpIn (Fence.wide.inRound l0) n P a w K Q := by
  refine ⟨fun f _ => trivial, ?_⟩
  rw [Oper.semAt_eq _ _ _ hnd]
  unfold Oper.wp at h
  generalize (execOp a.eval o).run P w = r at *
  cases r with
  | ok n w' =>
    cases n <;> simp only [Oper.upon, Oper.uponIn] at h ⊢
    case value u => exact h
    case skip => exact h
    case defer d => exact h
    case enter f args => exact ⟨(fun hd => by cases hd), CallsIn.inRound l0 (callsIn_wide.2 h)⟩
    case row row args => exact ⟨(fun hd => by cases hd), rowsIn_round h⟩
  | halt x w' =>
    cases x <;> simp only [Oper.upon, Oper.uponIn] at h ⊢
    case panic u => exact h
theorem wpOpIn_of_S {l0 n i : Nat} {a : Act} {w : World} {K K' : Act → World → Prop} (hnd : noDeferB ops = true) (hK : ∀ a w, K a w → K' a w) (h : wpOpS P ops Q i K a w) : wpOpIn (Fence.wide.inRound l0) n P ops Q i K' a w := by
  unfold wpOpS at h
  unfold wpOpIn
  cases ho : ops[i]? with
  | none => simp only [ho] at h ⊢; exact hK _ _ h
  | some o =>
    simp only [ho] at h ⊢
    split
    · rename_i hw
      simp only [hw, if_true] at h
      exact Oper.wpIn_mono hK (wpIn_of_wp (noDefer_spec hnd ho) h)
    · rename_i hw
      simp only [hw] at h
      exact ⟨fun f _ => trivial, hK _ _ h⟩
theorem wpAnyIn_of_S {l0 n : Nat} (hnd : noDeferB ops = true) : ∀ (fuel : Nat) (listed : Array Bool) (a : Act) (w : World), wpAnyS P md ops Q fuel listed a w → wpAnyIn (Fence.wide.inRound l0) n P md ops Q fuel listed a w
  | 0, _, _, _, h => h
  | fuel + 1, _, _, _, h => ⟨h.1, fun i hi => wpOpIn_of_S hnd (fun a w => wpAnyIn_of_S hnd fuel _ a w) (h.2 i hi)⟩
theorem noPanic_imp {e : Exit} {a : Act} {w : World} (h : NoPanic Q e a w) : Q e a w := by
  cases e <;> first | exact h | exact h.elim
def wpFS (P : Program) (ops : Array Oper) (Q : Exit → Act → World → Prop) (S : World → Prop) : List (Nat × Fl) → Act → World → Prop
  | [], a, w => Q .normal a w
  | (i, f) :: r, a, w =>
    match f with
    | .at_ => ∃ o v, ops[i]? = some o ∧ YieldsIf P ops (fun w' => w' = w) o v a ∧ wpFS P ops Q S r (a.put o.dst v) w
    | .held => ∃ o v, ops[i]? = some o ∧ YieldsIf P ops S o v a ∧ wpFS P ops Q S r (a.put o.dst v) w
    | .eff => wpOpS P ops Q i (fun a' w' => S w' ∧ wpFS P ops Q S r a' w') a w
    | .fin => wpOpS P ops Q i (fun a' w' => wpFS P ops Q S r a' w') a w


theorem wpFS_fin_eq {i : Nat} {r : List (Nat × Fl)} {a : Act} {w : World} : wpFS P ops Q S ((i, .fin) :: r) a w = wpOpS P ops Q i (fun a' w' => wpFS P ops Q S r a' w') a w := rfl
theorem wpFS_eff_eq {i : Nat} {r : List (Nat × Fl)} {a : Act} {w : World} : wpFS P ops Q S ((i, .eff) :: r) a w = wpOpS P ops Q i (fun a' w' => S w' ∧ wpFS P ops Q S r a' w') a w := rfl


theorem wpFS_cons_mono {x : Nat × Fl} {r r' : List (Nat × Fl)} {a : Act} {w : World} (h : ∀ a w, wpFS P ops Q S r a w → wpFS P ops Q S r' a w) (hw : wpFS P ops Q S (x :: r) a w) :
    wpFS P ops Q S (x :: r') a w := by
  obtain ⟨i, f⟩ := x
  cases f with
  | at_ => obtain ⟨o, v, ho, hv, hr⟩ := hw; exact ⟨o, v, ho, hv, h _ _ hr⟩
  | held => obtain ⟨o, v, ho, hv, hr⟩ := hw; exact ⟨o, v, ho, hv, h _ _ hr⟩
  | eff => rw [wpFS_eff_eq] at hw ⊢; exact wpOpS_mono (fun a' w' h' => ⟨h'.1, h _ _ h'.2⟩) hw
  | fin => rw [wpFS_fin_eq] at hw ⊢; exact wpOpS_mono (fun a' w' h' => h _ _ h') hw

variable (hsel : Region.noSelect ops = true) (hQ : ∀ d v c a w, Q (.panic c) (Act.put a d v) w → Q (.panic c) a w)
include hsel hQ

/-- two neighbours change places -/
theorem wpFS_swap {i k : Nat} {f g : Fl} {r : List (Nat × Fl)} {a : Act} {w : World} (hf : f ≠ .eff) (hf2 : f ≠ .fin) (hg2 : g ≠ .fin) (hap : apartB ops i k = true) (hg : g = .eff → f = .held)
    (h : wpFS P ops Q S ((i, f) :: (k, g) :: r) a w) : wpFS P ops Q S ((k, g) :: (i, f) :: r) a w := by
  obtain ⟨x, y, hx, hy, hxy⟩ := apartB_spec hap
  obtain ⟨h1, h2, h3⟩ := Oper.apart_spec hxy
  have sx := fun cs b => Region.noSelect_spec hsel i x cs b hx
  have sy := fun cs b => Region.noSelect_spec hsel k y cs b hy
  -- what i and k look at is the same behind the other one
  have keepx : ∀ {T : World → Prop} {v u}, YieldsIf P ops T x v a → YieldsIf P ops T x v (a.put y.dst u) := fun hyi => hyi.of_same (execOp_put x sx a y.dst _ h3) (wanted_put x a y.dst _ h3)
  have backy : ∀ {T : World → Prop} {v u}, YieldsIf P ops T y v (a.put x.dst u) → YieldsIf P ops T y v a := fun hyi =>
    hyi.of_same (execOp_put y sy a x.dst _ h1).symm (wanted_put y a x.dst _ h1).symm
  have steady : ∀ {T : World → Prop} {v : Value}, YieldsIf P ops T x v a → wpFS P ops Q S ((k, g) :: r) (a.put x.dst v) w → g ≠ .eff →
      ∃ u, (match g with | .at_ => YieldsIf P ops (fun w' => w' = w) y u a | _ => YieldsIf P ops S y u a) ∧ wpFS P ops Q S r ((a.put y.dst u).put x.dst v) w := by
    intro T v hv hw hge
    cases g with
    | eff => exact absurd rfl hge
    | fin => exact absurd rfl hg2
    | at_ =>
      obtain ⟨o, u, ho, hyu, hr⟩ := hw
      obtain rfl : o = y := Option.some.inj (ho.symm.trans hy)
      exact ⟨u, backy hyu, by rw [← Act.put_comm a v u h2]; exact hr⟩
    | held =>
      obtain ⟨o, u, ho, hyu, hr⟩ := hw
      obtain rfl : o = y := Option.some.inj (ho.symm.trans hy)
      exact ⟨u, backy hyu, by rw [← Act.put_comm a v u h2]; exact hr⟩
  cases f with
  | eff => exact absurd rfl hf
  | fin => exact absurd rfl hf2
  | at_ =>
    obtain ⟨o, v, ho, hv, hr⟩ := h
    obtain rfl : o = x := Option.some.inj (ho.symm.trans hx)
    cases g with
    | fin => exact absurd rfl hg2
    | eff => exact absurd (hg rfl) (by decide)
    | at_ => obtain ⟨u, hu, hr'⟩ := steady hv hr (by decide); exact ⟨y, u, hy, hu, _, v, hx, keepx hv, hr'⟩
    | held => obtain ⟨u, hu, hr'⟩ := steady hv hr (by decide); exact ⟨y, u, hy, hu, _, v, hx, keepx hv, hr'⟩
  | held =>
    obtain ⟨o, v, ho, hv, hr⟩ := h
    obtain rfl : o = x := Option.some.inj (ho.symm.trans hx)
    cases g with
    | fin => exact absurd rfl hg2
    | at_ => obtain ⟨u, hu, hr'⟩ := steady hv hr (by decide); exact ⟨y, u, hy, hu, _, v, hx, keepx hv, hr'⟩
    | held => obtain ⟨u, hu, hr'⟩ := steady hv hr (by decide); exact ⟨y, u, hy, hu, _, v, hx, keepx hv, hr'⟩
    | eff =>
      rw [wpFS_eff_eq] at hr ⊢
      have := wpOpS_putIf hy hxy sx sy (fun c a w => hQ _ _ c a w) hv hr
      exact wpOpS_mono (fun a' w' h' => ⟨h'.2.1, _, v, hx, h'.1, h'.2.2⟩) this

/-- what may come up now comes to the front -/
theorem wpFS_front {k : Nat × Fl} {B : List (Nat × Fl)} : ∀ {A : List (Nat × Fl)} {a : Act} {w : World}, (∀ x ∈ A, dep ops k.1 x.1 = false) → okF ops (A ++ k :: B) = true →
    wpFS P ops Q S (A ++ k :: B) a w → wpFS P ops Q S (k :: (A ++ B)) a w := by
  intro A
  induction A with
  | nil => intro a w _ _ h; exact h
  | cons c A ih =>
    intro a w hA hok h
    have hh := okF_head hA hok
    have hok' : okF ops (A ++ k :: B) = true := by simp only [List.cons_append, okF, Bool.and_eq_true] at hok; exact hok.2
    have h1 : wpFS P ops Q S (c :: (k :: (A ++ B))) a w := wpFS_cons_mono (fun a w h => ih (fun x hx => hA x (by simp [hx])) hok' h) h
    obtain ⟨i, f⟩ := c
    obtain ⟨j, g⟩ := k
    exact wpFS_swap hsel hQ hh.1 hh.2.1 hh.2.2.2.2 hh.2.2.1 hh.2.2.2.1 h1

theorem wpAnyS_of_F (he : edgesB ops = true) : ∀ (fuel : Nat) (R : List (Nat × Fl)) (listed : Array Bool) (a : Act) (w : World), R.length = fuel → listed.size = ops.size →
    (∀ i, listed.getD i true = false ↔ i ∈ R.map (·.1)) → okF ops R = true → (S w ∨ ∀ x ∈ R, x.2 ≠ .held) → wpFS P ops Q S R a w → wpAnyS P .any ops Q fuel listed a w := by
  have edge : ∀ (i : Nat) (o : Oper), ops[i]? = some o → ∀ e ∈ o.after, e.on < ops.size := by
    intro i o ho e hin
    have := Array.all_eq_true_iff_forall_mem.1 he o (Array.mem_of_getElem? ho)
    simpa using Array.all_eq_true_iff_forall_mem.1 this e hin
  intro fuel
  induction fuel with
  | zero =>
    intro R listed a w hl hsz hR _ _ h
    obtain rfl : R = [] := List.length_eq_zero_iff.1 hl
    refine ⟨?_, h⟩
    rw [List.eq_nil_iff_forall_not_mem]
    intro i hi
    have := (hR i).1 (mem_ready.1 hi).1
    simp at this
  | succ fuel ih =>
    intro R listed a w hl hsz hR hok hS h
    refine ⟨?_, ?_⟩
    · -- the first of R may come up
      intro hnone
      cases R with
      | nil => simp at hl
      | cons x R =>
        exfalso
        have hx : listed.getD x.1 true = false := (hR x.1).2 (by simp)
        have hlt : x.1 < ops.size := by
          rw [← hsz]
          rcases Nat.lt_or_ge x.1 listed.size with h' | h'
          · exact h'
          · simp [Array.getElem?_eq_none h'] at hx
        have : x.1 ∈ Region.ready .any ops listed := by
          refine mem_ready.2 ⟨hx, ops[x.1], Array.getElem?_eq_getElem hlt, fun e hin hb => ?_⟩
          have hon := edge x.1 _ (Array.getElem?_eq_getElem hlt) e hin
          have hdep : dep ops x.1 e.on = true := by
            unfold dep Region.waitsFor
            rw [Array.getElem?_eq_getElem hlt]
            exact Array.any_eq_true'.2 ⟨e, hin, by simp [hb]⟩
          have hnot : e.on ∉ (x :: R).map (·.1) := by
            intro hm
            simp only [okF, Bool.and_eq_true, List.all_eq_true] at hok
            simp only [List.map_cons, List.mem_cons, List.mem_map] at hm
            rcases hm with hm | ⟨k, hk, hm⟩
            · rw [hm] at hdep; simp [hdep] at hok
            · have := (hok.1.1.2 k hk).1; rw [hm, hdep] at this; simp at this
          have hne : listed.getD e.on true ≠ false := fun h => hnot ((hR e.on).1 h)
          simp [hsz, hon] at hne ⊢
          exact hne
        rw [hnone] at this
        cases this
    · intro k hk
      obtain ⟨hun, ok, hok', hall⟩ := mem_ready.1 hk
      have hkR := (hR k).1 hun
      obtain ⟨⟨k', f⟩, hmem, rfl⟩ := List.mem_map.1 hkR
      obtain ⟨A, B, rfl⟩ := List.append_of_mem hmem
      have hA : ∀ x ∈ A, dep ops k' x.1 = false := by
        intro x hx
        cases hd : dep ops k' x.1 with
        | false => rfl
        | true =>
          exfalso
          unfold dep Region.waitsFor at hd
          rw [hok'] at hd
          obtain ⟨e, hin, hb⟩ := Array.any_eq_true'.1 hd
          simp only [Bool.and_eq_true, beq_iff_eq] at hb
          have h1 := hall e hin hb.1
          have h2 : listed.getD e.on true = false := (hR e.on).2 (by rw [hb.2]; simp; exact .inl ⟨x.2, hx⟩)
          rcases Nat.lt_or_ge e.on listed.size with h' | h'
          · simp [h'] at h1 h2; rw [h2] at h1; cases h1
          · simp [Array.getElem?_eq_none h'] at h1
      have hfr := wpFS_front hsel hQ (k := (k', f)) hA hok h
      have hokd := okF_drop (k := (k', f)) hA hok
      have hkn : k' ∉ (A ++ B).map (·.1) := by
        intro hm
        have : ∀ {A : List (Nat × Fl)}, okF ops (A ++ (k', f) :: B) = true → k' ∉ (A ++ B).map (·.1) := by
          intro A
          induction A with
          | nil =>
            intro h hm
            simp only [List.nil_append, okF, Bool.and_eq_true, List.all_eq_true] at h
            simp only [List.nil_append, List.mem_map] at hm
            obtain ⟨x, hx, he⟩ := hm
            have := (h.1.1.2 x hx)
            simp [he] at this
          | cons c A ih =>
            intro h hm
            simp only [List.cons_append, okF, Bool.and_eq_true, List.all_eq_true] at h
            simp only [List.cons_append, List.map_cons, List.mem_cons] at hm
            rcases hm with hm | hm
            · have := h.1.1.2 (k', f) (by simp)
              simp [hm] at this
            · exact ih h.2 hm
        exact this hok hm
      have hR' : ∀ i, (listed.setIfInBounds k' true).getD i true = false ↔ i ∈ (A ++ B).map (·.1) := by
        intro i
        by_cases hik : k' = i
        · subst hik
          constructor
          · intro h0
            exfalso
            rcases Nat.lt_or_ge k' listed.size with h' | h'
            · simp [h'] at h0
            · simp [h'] at h0
          · intro hm; exact absurd hm hkn
        · rw [getD_set_ne true hik, hR i]
          simp only [List.map_append, List.map_cons, List.mem_append, List.mem_cons]
          constructor
          · rintro (h | h | h)
            · exact .inl h
            · exact absurd h.symm hik
            · exact .inr h
          · rintro (h | h)
            · exact .inl h
            · exact .inr (.inr h)
      have hlen : (A ++ B).length = fuel := by simp at hl ⊢; omega
      have go : ∀ a' w', (S w' ∨ ∀ x ∈ A ++ B, x.2 ≠ .held) → wpFS P ops Q S (A ++ B) a' w' → wpAnyS P .any ops Q fuel (listed.setIfInBounds k' true) a' w' :=
        fun a' w' hS' h' => ih (A ++ B) _ a' w' hlen (by simp [hsz]) hR' hokd hS' h'
      have hSd : S w ∨ ∀ x ∈ A ++ B, x.2 ≠ .held := hS.imp id (fun h x hx => h x (mem_more hx))
      cases f with
      | at_ =>
        obtain ⟨o, v, ho, hv, hr⟩ := hfr
        exact hv.wpOpS ho rfl (go _ _ hSd hr)
      | held =>
        obtain ⟨o, v, ho, hv, hr⟩ := hfr
        have hS' : S w := hS.resolve_right (fun h => h (k', .held) (by simp) rfl)
        exact hv.wpOpS ho hS' (go _ _ (.inl hS') hr)
      | eff => rw [wpFS_eff_eq] at hfr; exact wpOpS_mono (fun a' w' h' => go a' w' (.inl h'.1) h'.2) hfr
      | fin =>
        rw [wpFS_fin_eq] at hfr
        have hnh : ∀ x ∈ A ++ B, x.2 ≠ .held := by
          cases A with
          | cons c A => exact absurd rfl (okF_head hA hok).2.2.2.2
          | nil =>
            intro x hx
            simp only [List.nil_append, okF, Bool.and_eq_true] at hok hx
            have h3 := hok.1.2
            unfold okHead at h3
            rw [List.all_eq_true] at h3
            have := h3 x hx
            simp only [Bool.and_eq_true, Bool.or_eq_true, bne_iff_ne, ne_eq] at this
            exact this.1.resolve_left (by simp)
        exact wpOpS_mono (fun a' w' h' => go a' w' (.inr hnh) h') hfr
end

/-- THE BEGINNING, in a round. -/
theorem wpIn_region_F {P : Program} {id l0 n : Nat} {l : List Oper} {Q : Exit → Act → World → Prop} {a : Act} {w : World} (S : World → Prop) (R : List (Nat × Fl)) (hm : P.follows .mixedOrders = true)
    (hg : goodB l.toArray R = true) (hnd : noDeferB l.toArray = true) (hS : S w.drew) (h : wpFS P l.toArray (NoPanic Q) S R a w.drew) : (Code.region id l.toArray true).wpIn (Fence.wide.inRound l0) n P Q a w := by
  simp only [goodB, Bool.and_eq_true, decide_eq_true_eq] at hg
  obtain ⟨⟨⟨⟨hsel, hed⟩, hfull⟩, hlen⟩, hok⟩ := hg
  refine wpIn_mono (wpIn_region_any hm ?_) (Q := NoPanic Q) (fun e a w h => noPanic_imp h)
  refine wpAnyIn_of_S hnd _ _ _ _ (wpAnyS_of_F hsel (fun _ _ _ _ _ h => h) hed _ R _ a _ hlen (by simp) ?_ hok (.inl hS) h)
  intro i
  simp only [fullB, Bool.and_eq_true, List.all_eq_true, List.mem_range, decide_eq_true_eq] at hfull
  constructor
  · intro h0
    have : i < l.toArray.size := by
      rcases Nat.lt_or_ge i l.toArray.size with h' | h'
      · exact h'
      · rw [Array.getD_eq_getD_getElem?, Array.getElem?_eq_none (by simpa using h')] at h0; simp at h0
    simpa using hfull.1 i this
  · intro hm
    obtain ⟨k, hk, rfl⟩ := List.mem_map.1 hm
    have := hfull.2 k hk
    rw [Array.getD_eq_getD_getElem?, Array.getElem?_replicate]
    have h2 : k.1 < l.length := by simpa using this
    simp [h2]

/-- The same, the operations written out in the order that was named. -/
def wpGS (P : Program) (ops : Array Oper) (Q : Exit → Act → World → Prop) (S : World → Prop) : List (Oper × Fl) → Act → World → Prop
  | [], a, w => Q .normal a w
  | (o, f) :: r, a, w =>
    match f with
    | .at_ => ∃ v, YieldsIf P ops (fun w' => w' = w) o v a ∧ wpGS P ops Q S r (a.put o.dst v) w
    | .held => ∃ v, YieldsIf P ops S o v a ∧ wpGS P ops Q S r (a.put o.dst v) w
    | .eff => if Region.wanted o (yielded ops a.tmps) then o.wp P a w (fun a' w' => S w' ∧ wpGS P ops Q S r a' w') Q else S w ∧ wpGS P ops Q S r (a.put o.dst undef) w
    | .fin => if Region.wanted o (yielded ops a.tmps) then o.wp P a w (fun a' w' => wpGS P ops Q S r a' w') Q else wpGS P ops Q S r (a.put o.dst undef) w

theorem wpFS_of_G {P : Program} {l : List Oper} {Q : Exit → Act → World → Prop} {S : World → Prop} : ∀ (R : List (Nat × Fl)) (a : Act) (w : World), (∀ k ∈ R, k.1 < l.length) →
    wpGS P l.toArray Q S (pickOps l R) a w → wpFS P l.toArray Q S R a w := by
  intro R
  induction R with
  | nil => intro a w _ h; exact h
  | cons k R ih =>
    intro a w hk h
    have hlt := hk k (by simp)
    obtain ⟨i, f⟩ := k
    have ho : l.toArray[i]? = some (l.getD i default) := by simp [hlt]
    have ih' := fun a w => ih a w (fun k hk' => hk k (by simp [hk']))
    cases f with
    | at_ => obtain ⟨v, hv, hr⟩ := h; exact ⟨_, v, ho, hv, ih' _ _ hr⟩
    | held => obtain ⟨v, hv, hr⟩ := h; exact ⟨_, v, ho, hv, ih' _ _ hr⟩
    | eff =>
      rw [wpFS_eff_eq]
      unfold wpOpS
      rw [ho]
      have h' : if Region.wanted (l.getD i default) (yielded l.toArray a.tmps) then _ else _ := h
      show if Region.wanted (l.getD i default) (yielded l.toArray a.tmps) then _ else _
      split at h'
      · rename_i hw
        rw [if_pos hw]
        have h := h'
        exact Oper.wp_mono (fun a' w' h => ⟨h.1, ih' _ _ h.2⟩) h
      · rename_i hw
        rw [if_neg hw]
        exact ⟨h'.1, ih' _ _ h'.2⟩
    | fin =>
      rw [wpFS_fin_eq]
      unfold wpOpS
      rw [ho]
      have h' : if Region.wanted (l.getD i default) (yielded l.toArray a.tmps) then _ else _ := h
      show if Region.wanted (l.getD i default) (yielded l.toArray a.tmps) then _ else _
      split at h'
      · rename_i hw
        rw [if_pos hw]
        have h := h'
        exact Oper.wp_mono (fun a' w' h => ih' _ _ h) h
      · rename_i hw
        rw [if_neg hw]
        exact ih' _ _ h'

/-- THE BEGINNING, in a round. -/
theorem wpIn_region_G {P : Program} {id l0 n : Nat} {l : List Oper} {Q : Exit → Act → World → Prop} {a : Act} {w : World} (S : World → Prop) (R : List (Nat × Fl)) (L : List (Oper × Fl)) (hm : P.follows .mixedOrders = true)
    (hg : goodB l.toArray R = true) (hnd : noDeferB l.toArray = true) (hL : pickOps l R = L) (hS : S w.drew) (h : wpGS P l.toArray (NoPanic Q) S L a w.drew) : (Code.region id l.toArray true).wpIn (Fence.wide.inRound l0) n P Q a w := by
  subst hL
  refine wpIn_region_F S R hm hg hnd hS (wpFS_of_G R a _ ?_ h)
  simp only [goodB, fullB, Bool.and_eq_true, decide_eq_true_eq, List.all_eq_true] at hg
  intro k hk
  simpa using hg.1.1.2.2 k hk

section steps
variable {P : Program} {ops : Array Oper} {Q : Exit → Act → World → Prop} {S : World → Prop} {r : List (Oper × Fl)} {a : Act} {w : World} {o : Oper} {v : Value}
theorem wpGS_at (hw : Region.wanted o (yielded ops a.tmps) = true) (hv : (execOp a.eval o).run P w = .ok (.value v) w) (h : wpGS P ops Q S r (a.put o.dst v) w) : wpGS P ops Q S ((o, .at_) :: r) a w :=
  ⟨v, .inl ⟨hw, fun w' e => by subst e; exact hv⟩, h⟩
theorem wpGS_held (hw : Region.wanted o (yielded ops a.tmps) = true) (hv : ∀ w', S w' → (execOp a.eval o).run P w' = .ok (.value v) w') (h : wpGS P ops Q S r (a.put o.dst v) w) : wpGS P ops Q S ((o, .held) :: r) a w :=
  ⟨v, .inl ⟨hw, hv⟩, h⟩
theorem wpGS_at_skip (hw : Region.wanted o (yielded ops a.tmps) = false) (h : wpGS P ops Q S r (a.put o.dst undef) w) : wpGS P ops Q S ((o, .at_) :: r) a w :=
  ⟨undef, .inr ⟨hw, rfl⟩, h⟩
theorem wpGS_held_skip (hw : Region.wanted o (yielded ops a.tmps) = false) (h : wpGS P ops Q S r (a.put o.dst undef) w) : wpGS P ops Q S ((o, .held) :: r) a w :=
  ⟨undef, .inr ⟨hw, rfl⟩, h⟩
theorem wpGS_eff (hw : Region.wanted o (yielded ops a.tmps) = true) (h : ∀ K : Act → World → Prop, (∀ a' w', S w' → wpGS P ops Q S r a' w' → K a' w') → o.wp P a w K Q) : wpGS P ops Q S ((o, .eff) :: r) a w := by
  show if Region.wanted o (yielded ops a.tmps) then _ else _
  rw [if_pos hw]
  exact h _ fun _ _ hs h' => ⟨hs, h'⟩
theorem wpGS_eff_skip (hw : Region.wanted o (yielded ops a.tmps) = false) (hS : S w) (h : wpGS P ops Q S r (a.put o.dst undef) w) : wpGS P ops Q S ((o, .eff) :: r) a w := by
  show if Region.wanted o (yielded ops a.tmps) then _ else _
  rw [if_neg (by simp [hw])]
  exact ⟨hS, h⟩
theorem wpGS_fin (hw : Region.wanted o (yielded ops a.tmps) = true) (h : ∀ K : Act → World → Prop, (∀ a' w', wpGS P ops Q S r a' w' → K a' w') → o.wp P a w K Q) : wpGS P ops Q S ((o, .fin) :: r) a w := by
  show if Region.wanted o (yielded ops a.tmps) then _ else _
  rw [if_pos hw]
  exact h _ fun _ _ h' => h'
theorem wpGS_nil (h : Q .normal a w) : wpGS P ops Q S [] a w := h
end steps

/-- a region in the order of its text, in a round -/
theorem wpListIn_of_GS {P : Program} {ops : Array Oper} {Q : Exit → Act → World → Prop} {l0 n : Nat}  : ∀ (L : List (Oper × Fl)) (a : Act) (w : World), (∀ k ∈ L, ∀ c, k.1.op ≠ .defer c) →
    wpGS P ops Q (fun _ => True) L a w → wpListIn (Fence.wide.inRound l0) n P ops Q (L.map (·.1)) a w := by
  intro L
  induction L with
  | nil => intro a w _ h; exact h
  | cons k L ih =>
    intro a w hd h
    obtain ⟨o, f⟩ := k
    have ih' := fun a w => ih a w (fun k hk => hd k (List.mem_cons_of_mem _ hk))
    have hdo := hd (o, f) List.mem_cons_self
    have steady : ∀ {T : World → Prop} {v : Value}, T w → YieldsIf P ops T o v a → wpGS P ops Q (fun _ => True) L (a.put o.dst v) w → wpListIn (Fence.wide.inRound l0) n P ops Q (o :: L.map (·.1)) a w := by
      intro T v hT hy hr
      unfold wpListIn
      rcases hy with ⟨hw, hv⟩ | ⟨hw, rfl⟩
      · rw [if_pos hw]
        refine wpIn_of_wp hdo ?_
        unfold Oper.wp
        rw [hv w hT]
        exact ih' _ _ hr
      · rw [if_neg (by simp [hw])]
        exact ⟨fun f _ => trivial, ih' _ _ hr⟩
    cases f with
    | at_ => obtain ⟨v, hv, hr⟩ := h; exact steady (T := fun w' => w' = w) rfl hv hr
    | held => obtain ⟨v, hv, hr⟩ := h; exact steady (T := fun _ => True) trivial hv hr
    | eff =>
      have h' : if Region.wanted o (yielded ops a.tmps) then o.wp P a w (fun a' w' => True ∧ wpGS P ops Q (fun _ => True) L a' w') Q else True ∧ wpGS P ops Q (fun _ => True) L (a.put o.dst undef) w := h
      show wpListIn (Fence.wide.inRound l0) n P ops Q (o :: L.map (·.1)) a w
      unfold wpListIn
      split at h'
      · rename_i hw
        rw [if_pos hw]
        exact wpIn_of_wp hdo (Oper.wp_mono (fun a' w' h => ih' _ _ h.2) h')
      · rename_i hw
        rw [if_neg hw]
        exact ⟨fun f _ => trivial, ih' _ _ h'.2⟩
    | fin =>
      have h' : if Region.wanted o (yielded ops a.tmps) then o.wp P a w (fun a' w' => wpGS P ops Q (fun _ => True) L a' w') Q else wpGS P ops Q (fun _ => True) L (a.put o.dst undef) w := h
      show wpListIn (Fence.wide.inRound l0) n P ops Q (o :: L.map (·.1)) a w
      unfold wpListIn
      split at h'
      · rename_i hw
        rw [if_pos hw]
        exact wpIn_of_wp hdo (Oper.wp_mono (fun a' w' h => ih' _ _ h) h')
      · rename_i hw
        rw [if_neg hw]
        exact ⟨fun f _ => trivial, ih' _ _ h'⟩
theorem wpIn_region_L {P : Program} {id l0 n : Nat} {l : List Oper} {Q : Exit → Act → World → Prop} {a : Act} {w : World} (R : List (Nat × Fl)) (L : List (Oper × Fl)) (hL : pickOps l R = L) (h1 : L.map (·.1) = l) (hnd : noDeferB l.toArray = true)
    (h : wpGS P l.toArray Q (fun _ => True) L a w) : (Code.region id l.toArray false).wpIn (Fence.wide.inRound l0) n P Q a w := by
  refine wpIn_region_lit ?_
  subst h1
  refine wpListIn_of_GS L a w ?_ h
  intro k hk
  obtain ⟨i, hi⟩ := List.getElem?_of_mem hk
  exact noDefer_spec hnd (i := i) (by simp [hi])
end Go.Proofs.Ytplbkjgkocnehaa
