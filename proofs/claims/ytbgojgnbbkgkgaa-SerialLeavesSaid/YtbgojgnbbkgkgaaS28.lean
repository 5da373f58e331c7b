/- What a walk over a table finds, round by round. -/
import Derived.Test.YtbgojgnbbkgkgaaS27
namespace Go.Proofs.Ytbgojgnbbkgkgaa
set_option linter.unusedSimpArgs false
set_option linter.unusedVariables false
open Go.RowKit Go.Shelf
structure Lv (w0 W : World) (b5 b7 p m q : Nat) (M : List (Int × Value)) (L : List (Int × Int × Int)) (v : Value) (at_ : Int) : Prop where
  a : W.heap[w0.heap.size]? = some (.cells #[.int .i64 at_] 3 (0, 0))
  r : W.heap[w0.heap.size + 1]? = some (.cells #[.bool false] 4 (0, 0))
  t : W.heap[b5]? = some (.cells #[.pointer (some ⟨p, 0, none⟩)] 26 (0, 0))
  d : W.heap[b7]? = some (.cells #[.pointer (some ⟨q, 0, none⟩)] 43 (0, 0))
  c : TAt W p m M 64
  o : TOk M 64
  x : RAt W q 64 v L
  k : Kp NoB w0 W
  gm : w0.heap.size ≤ m
  gq : w0.heap.size ≤ q
/-- all of it below B -/
structure Under (w0 : World) (b5 b7 p m q : Nat) (v : Value) (B : Nat) : Prop where
  s : w0.heap.size + 1 < B
  b5 : b5 < B
  b7 : b7 < B
  p : p < B
  m : m < B
  q : q < B
  v : ∀ b, v.ownBlock = some b → b < B
section
variable {w0 W W' : World} {b5 b7 p m q : Nat} {M : List (Int × Value)} {L : List (Int × Int × Int)} {v : Value} {at_ : Int}
theorem Lv.under (h : Lv w0 W b5 b7 p m q M L v at_) : Under w0 b5 b7 p m q v W.heap.size := by
  refine ⟨blk_lt h.r, blk_lt h.t, blk_lt h.d, h.c.lt.1, h.c.lt.2, blk_lt h.x.hq, fun b hb => ?_⟩
  rcases h.x.hv.2 with ⟨h2, _⟩ | ⟨g, cap, cur, h2, _, hg, _⟩
  · rw [h2] at hb; cases hb
  · rw [h2] at hb; injection hb with hb; subst hb; exact blk_lt hg
theorem Under.mono {B B' : Nat} (h : Under w0 b5 b7 p m q v B) (hb : B ≤ B') : Under w0 b5 b7 p m q v B' :=
  ⟨Nat.lt_of_lt_of_le h.s hb, Nat.lt_of_lt_of_le h.b5 hb, Nat.lt_of_lt_of_le h.b7 hb, Nat.lt_of_lt_of_le h.p hb, Nat.lt_of_lt_of_le h.m hb, Nat.lt_of_lt_of_le h.q hb, fun b e => Nat.lt_of_lt_of_le (h.v b e) hb⟩
theorem Lv.keep {B : Nat} (h : Lv w0 W b5 b7 p m q M L v at_) (u : Under w0 b5 b7 p m q v B) (k : Kp (fun b => B ≤ b) W W') : Lv w0 W' b5 b7 p m q M L v at_ := by
  have h1 := u.s; have h2 := u.p; have h3 := u.m; have h4 := u.q; have h5 := u.b5; have h6 := u.b7
  exact ⟨k.get h.a (by omega), k.get h.r (by omega), k.get h.t (by omega), k.get h.d (by omega), h.c.kp k (by omega) (by omega), h.o,
    ⟨k.get h.x.hq (by omega), h.x.hv.kp k (fun b hb e => by have := u.v b hb; omega)⟩, h.k.trans' k (fun b hb e => by omega), h.gm, h.gq⟩
theorem Lv.kn (h : Lv w0 W b5 b7 p m q M L v at_) (k : Kp NoB W W') : Lv w0 W' b5 b7 p m q M L v at_ := h.keep h.under (k.mono (fun _ h => h.elim))
/-- an act is done -/
theorem Lv.act {M' : List (Int × Value)} {v' : Value} (h : Lv w0 W b5 b7 p m q M L v at_) (hj : JAt W' p m q 64 M' v') (k : Kp (Q2 m q) W W') : Lv w0 W' b5 b7 p m q M' (rowsL M') v' at_ := by
  obtain ⟨es, ck, hm, _⟩ := h.c.hm
  have hq := h.x.hq
  have hn : ∀ {b : Nat} {A : Array Value} {t : TypeId}, W.heap[b]? = some (.cells A t (0, 0)) → t ≠ 46 → ¬ Q2 m q b := by
    rintro b A t hb ht (rfl | rfl)
    · rw [hm] at hb; cases hb
    · rw [hq] at hb; injection hb with hb; injection hb with _ h3 _; exact ht h3.symm
  exact ⟨k.get h.a (hn h.a (by decide)), k.get h.r (hn h.r (by decide)), k.get h.t (hn h.t (by decide)), k.get h.d (hn h.d (by decide)), hj.c, hj.o, hj.r, h.k.trans' k (fun b hb e => by
    have := h.gm; have := h.gq
    rcases e with e | e <;> omega), h.gm, h.gq⟩
/-- one more is dropped -/
theorem Lv.drop {M' : List (Int × Value)} (h : Lv w0 W b5 b7 p m q M L v at_) (hc : TAt W' p m M' 64) (ho : TOk M' 64) (k : Kp (· = m) W W') : Lv w0 W' b5 b7 p m q M' L v at_ := by
  obtain ⟨es, ck, hm, _⟩ := h.c.hm
  have hn : ∀ {b : Nat} {A : Array Value} {t : TypeId}, W.heap[b]? = some (.cells A t (0, 0)) → ¬ b = m := by
    rintro b A t hb rfl
    rw [hm] at hb; cases hb
  exact ⟨k.get h.a (hn h.a), k.get h.r (hn h.r), k.get h.t (hn h.t), k.get h.d (hn h.d), hc, ho, h.x.km h.c.hm k, h.k.trans' k (fun b hb e => by have := h.gm; omega), h.gm, h.gq⟩
/-- what is left when some were dropped -/
def Less (M M' : List (Int × Value)) (pre : List (Int × Int × Int)) : Prop := ∀ k, mget M' k = if k ∈ pre.map (·.1) then none else mget M k
theorem Less.nil (M : List (Int × Value)) : Less M M [] := fun k => by simp
theorem Less.step {M' : List (Int × Value)} {pre : List (Int × Int × Int)} (h : Less M M' pre) (x : Int × Int × Int) : Less M (mdel M' x.1) (pre ++ [x]) := by
  intro k
  rw [mget_del, h k]
  by_cases hk : k = x.1
  · subst hk; simp
  · rw [if_neg hk]
    by_cases h2 : k ∈ pre.map (·.1)
    · rw [if_pos h2, if_pos (by rw [List.map_append, List.mem_append]; exact .inl h2)]
    · rw [if_neg h2, if_neg (fun e => by
        rw [List.map_append, List.mem_append] at e
        rcases e with e | e
        · exact h2 e
        · simp at e; exact hk e)]
theorem Less.all {M' : List (Int × Value)} (o : TOk M 64) (h : Less M M' (rowsL M)) : M' = [] := by
  cases M' with
  | nil => rfl
  | cons y r =>
    exfalso
    have hk : mget (y :: r) y.1 = none := by
      rw [h y.1]
      split
      · rfl
      · rename_i hn
        cases hq : mget M y.1 with
        | none => rfl
        | some z =>
          obtain ⟨i, g, hz⟩ := o.el _ (mget_mem hq)
          simp only at hz; subst hz
          exact absurd (List.mem_map.2 ⟨(y.1, i, g), (row_mem o).2 hq, rfl⟩) hn
    exact mget_none.1 hk y List.mem_cons_self rfl
theorem cells_at {o : Option Addr} {cv : Nat} (h : RAt W q 64 (.slice o L.length cv) L) {k : Nat} {s i g : Int} (hk : L[k]? = some (s, i, g)) : ∃ b, W.cell? ⟨b, k * 3, none⟩ = some (.int .i64 s) ∧ o = some ⟨b, 0, none⟩ ∧ (L.length : Int) ≤ (cv : Int) := by
  obtain ⟨b, c', hv', hcc, hcell⟩ := h.cells hk
  injection hv' with hv1 _ hv3
  subst hv1; subst hv3
  exact ⟨b, (hcell _ (Kp.refl _ _)).1, rfl, by omega⟩
theorem ax_fun (T : Array Value) {R : (Nat → Value) → Array Value} (h : T = R (fun i => T.toList.getD i undef)) : ∃ u, ({ tmps := T, defers := [] } : Act) = { tmps := R u, defers := [] } := ⟨_, congrArg (fun t => ({ tmps := t, defers := [] } : Act)) h⟩
def LvI (w0 : World) (b5 b7 p m q c10 b10 B : Nat) (M : List (Int × Value)) (v : Value) (at_ : Int) (pre : List (Int × Int × Int)) (W : World) : Prop :=
  Lv w0 W b5 b7 p m q M (rowsL M) v at_ ∧ W.heap[b10]? = some (.cells #[.int .i64 pre.length] 3 (0, 0)) ∧ pre.length ≤ (rowsL M).length ∧ B ≤ W.heap.size ∧ W.heap[c10]? = some (.cells #[.pointer (some ⟨p, 0, none⟩)] 26 (0, 0))
def LvX (w0 : World) (b5 b7 p m q c10 b10 B : Nat) (M : List (Int × Value)) (v : Value) (at_ : Int) (c : Code) (pre : List (Int × Int × Int)) (W : World) : Prop :=
  (c = .ret ∧ ¬ pre <+: rowsL M) ∨ (c = .exit 2 ∧ Lv w0 W b5 b7 p m q M (rowsL M) v at_ ∧ (∃ n : Int, W.heap[b10]? = some (.cells #[.int .i64 n] 3 (0, 0))) ∧ B ≤ W.heap.size ∧ W.heap[c10]? = some (.cells #[.pointer (some ⟨p, 0, none⟩)] 26 (0, 0)))
def LvJ (w0 : World) (b5 b7 p m q c10 b10 B D : Nat) (M : List (Int × Value)) (v : Value) (at_ : Int) (pre : List (Int × Int × Int)) (W : World) : Prop :=
  (∃ M', Lv w0 W b5 b7 p m q M' (rowsL M) v at_ ∧ Less M M' pre) ∧ W.heap[b10]? = some (.cells #[.int .i64 pre.length] 3 (0, 0)) ∧ pre.length ≤ (rowsL M).length ∧ B ≤ W.heap.size ∧ W.heap[D]? = some (.deferred (some []))
def LvY (M : List (Int × Value)) (c : Code) (pre : List (Int × Int × Int)) (W : World) : Prop := c = .ret ∧ ¬ pre <+: rowsL M
end
end Go.Proofs.Ytbgojgnbbkgkgaa
