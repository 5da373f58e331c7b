/- Words for worlds: which blocks a call may turn, blocks that are known whole, rows of structs. No program in sight. -/
import Derived.WalkKit
import Derived.WalkSpells
import Derived.WalkLawsBesides
namespace Go.Proofs.Ytaanbonbdhjbpaa
open Go.RowKit

/-- Of the blocks that were there only those of F may have turned; the streams are as they were. -/
structure Kp (F : Nat → Prop) (w w' : World) : Prop where
  os : w'.os = w.os
  tape : w'.tape = w.tape
  output : w'.output = w.output
  size : w.heap.size ≤ w'.heap.size
  blk : ∀ b, b < w.heap.size → ¬ F b → w'.heap[b]? = w.heap[b]?

/-- A fact kept from the walk. -/
theorem hid {p : Prop} (h : p) : Hid p := h

def NoB : Nat → Prop := fun _ => False

theorem Kp.refl (F : Nat → Prop) (w : World) : Kp F w w := ⟨rfl, rfl, rfl, Nat.le_refl _, fun _ _ _ => rfl⟩
theorem Kp.trans' {F G : Nat → Prop} {w w1 w2 : World} (h : Kp F w w1) (k : Kp G w1 w2) (hG : ∀ b, b < w.heap.size → G b → F b) : Kp F w w2 :=
  ⟨k.os.trans h.os, k.tape.trans h.tape, k.output.trans h.output, Nat.le_trans h.size k.size,
   fun b hb hf => (k.blk b (Nat.lt_of_lt_of_le hb h.size) (fun g => hf (hG b hb g))).trans (h.blk b hb hf)⟩
theorem Kp.trans {F : Nat → Prop} {w w1 w2 : World} (h : Kp F w w1) (k : Kp F w1 w2) : Kp F w w2 := h.trans' k fun _ _ g => g
theorem Kp.mono {F G : Nat → Prop} {w w1 : World} (h : Kp F w w1) (hG : ∀ b, F b → G b) : Kp G w w1 :=
  ⟨h.os, h.tape, h.output, h.size, fun b hb hf => h.blk b hb (fun x => hf (hG b x))⟩
theorem Kp.alloc {F : Nat → Prop} {w w1 : World} (h : Kp F w w1) (o : Obj) : Kp F w (w1.alloc o) :=
  ⟨h.os, h.tape, h.output, Nat.le_trans h.size (by simp), fun b hb hf => (Below.heap_alloc w1 o b (Nat.lt_of_lt_of_le hb h.size)).trans (h.blk b hb hf)⟩
theorem Kp.drew {F : Nat → Prop} {w w1 : World} (h : Kp F w w1) : Kp F w w1.drew := ⟨h.os, h.tape, h.output, h.size, h.blk⟩
theorem Kp.drewN {F : Nat → Prop} {w w1 : World} (h : Kp F w w1) (n : Nat) : Kp F w (w1.drewN n) := ⟨h.os, h.tape, h.output, h.size, h.blk⟩
theorem Kp.setCell {F : Nat → Prop} {w w1 : World} (h : Kp F w w1) {p : Addr} (u : Value) (hp : p.block < w.heap.size → F p.block) : Kp F w (w1.setCell p u) :=
  ⟨h.os, h.tape, h.output, by simpa [World.setCell] using h.size, fun b hb hf => (Below.heap_setCell w1 p u b (fun e => hf (by subst e; exact hp hb))).trans (h.blk b hb hf)⟩
theorem Kp.of_below {w w1 : World} (h : Below w.heap.size w w1) (F : Nat → Prop) : Kp F w w1 := ⟨h.os, h.tape, h.output, h.size, fun b hb _ => h.block b hb⟩
theorem Kp.below {w w1 : World} (h : Kp NoB w w1) : Below w.heap.size w w1 := ⟨h.os, h.tape, h.output, h.size, fun b hb => h.blk b hb (fun x => x)⟩
theorem Kp.below_at {F : Nat → Prop} {w w1 : World} (h : Kp F w w1) {B : Nat} (hB : B ≤ w.heap.size) (hF : ∀ b, F b → B ≤ b) : Below B w w1 :=
  ⟨h.os, h.tape, h.output, h.size, fun b hb => h.blk b (Nat.lt_of_lt_of_le hb hB) (fun x => by have := hF b x; omega)⟩
theorem Kp.of_grownBy {w w1 : World} {g : Nat} (h : w.grownBy w1 (some g)) : Kp (fun b => b = g) w w1 :=
  ⟨h.os, h.tape, h.output, h.size, fun b hb hf => h.block b hb (fun e => hf (by injection e))⟩
theorem Kp.get {F : Nat → Prop} {w w1 : World} (h : Kp F w w1) {b : Nat} {o : Obj} (hb : w.heap[b]? = some o) (hF : ¬ F b) : w1.heap[b]? = some o := by
  rw [h.blk b (by obtain ⟨x, _⟩ := Array.getElem?_eq_some_iff.1 hb; exact x) hF]; exact hb

theorem blk_lt {w : World} {b : Nat} {o : Obj} (h : w.heap[b]? = some o) : b < w.heap.size := by obtain ⟨x, _⟩ := Array.getElem?_eq_some_iff.1 h; exact x
theorem cell_of {w : World} {b : Nat} {c : Array Value} {t : TypeId} (h : w.heap[b]? = some (.cells c t (0, 0))) (i : Nat) : w.cell? ⟨b, i, none⟩ = c[i]? := by simp [World.cell?, h]
theorem frozen_of {w : World} {b : Nat} {c : Array Value} {t : TypeId} (h : w.heap[b]? = some (.cells c t (0, 0))) (i : Nat) : w.frozen? ⟨b, i, none⟩ = false := by simp [World.frozen?, h]
theorem ne_of_types {w : World} {b b' : Nat} {c c' : Array Value} {t t' : TypeId} {f f' : Nat × Nat} (h : w.heap[b]? = some (.cells c t f)) (h' : w.heap[b']? = some (.cells c' t' f')) (ht : t ≠ t') : b ≠ b' := by
  rintro rfl; rw [h] at h'; injection h' with h'; injection h' with _ h2; exact ht h2
theorem blk_alloc {w : World} {b : Nat} {o o' : Obj} (h : w.heap[b]? = some o) : (w.alloc o').heap[b]? = some o := by
  rw [Below.heap_alloc w o' b (blk_lt h)]; exact h
theorem blk_new (w : World) (o : Obj) : (w.alloc o).heap[w.heap.size]? = some o := by show (w.heap.push o)[w.heap.size]? = _; simp
theorem blk_new' (w : World) (o : Obj) {n : Nat} (h : n = w.heap.size) : (w.alloc o).heap[n]? = some o := by subst h; exact blk_new w o
theorem blk_setCell {w : World} {b : Nat} {c : Array Value} {t : TypeId} {f : Nat × Nat} (h : w.heap[b]? = some (.cells c t f)) (i : Nat) (v : Value) :
    (w.setCell ⟨b, i, none⟩ v).heap[b]? = some (.cells (c.setIfInBounds i v) t f) := by
  simp [World.setCell, Array.getElem?_modify, h]
theorem blk_far {w : World} {b : Nat} {o : Obj} (h : w.heap[b]? = some o) {a : Addr} (v : Value) (hne : b ≠ a.block) : (w.setCell a v).heap[b]? = some o := by
  rw [Below.heap_setCell w a v b hne]; exact h

/-- Rows of cells, n a piece. -/
def rows {α : Type} (f : α → List Value) (l : List α) : Array Value := (l.flatMap f).toArray
theorem rows_len {α : Type} {f : α → List Value} {n : Nat} (hf : ∀ x, (f x).length = n) (l : List α) : (l.flatMap f).length = l.length * n := by
  induction l with
  | nil => simp
  | cons x l ih => simp [hf, ih, Nat.add_mul, Nat.add_comm]
theorem rows_size {α : Type} {f : α → List Value} {n : Nat} (hf : ∀ x, (f x).length = n) (l : List α) : (rows f l).size = l.length * n := by simp [rows]; simpa using rows_len hf l
theorem flat_get {α : Type} {f : α → List Value} {n : Nat} (hf : ∀ x, (f x).length = n) (l : List α) : ∀ (k j : Nat) (x : α), l[k]? = some x → j < n → (l.flatMap f)[k * n + j]? = (f x)[j]? := by
  induction l with
  | nil => intro k j x h _; simp at h
  | cons y l ih =>
    intro k j x h hj
    cases k with
    | zero => simp at h; subst h; simp only [List.flatMap_cons, Nat.zero_mul, Nat.zero_add]; rw [List.getElem?_append_left (by rw [hf]; exact hj)]
    | succ k =>
      simp at h
      simp only [List.flatMap_cons]
      rw [List.getElem?_append_right (by rw [hf, Nat.add_mul]; omega), hf, show (k + 1) * n + j - n = k * n + j from by rw [Nat.add_mul]; omega]
      exact ih k j x h hj
theorem rows_get {α : Type} {f : α → List Value} {n : Nat} (hf : ∀ x, (f x).length = n) {l : List α} {k j : Nat} {x : α} (h : l[k]? = some x) (hj : j < n) : (rows f l)[k * n + j]? = (f x)[j]? := by
  simp [rows]; exact flat_get hf l k j x h hj
theorem flat_set {α : Type} {f : α → List Value} {n : Nat} (hf : ∀ x, (f x).length = n) (l : List α) : ∀ (k : Nat) (x : α), k < l.length → (l.set k x).flatMap f = (l.flatMap f).take (k * n) ++ f x ++ (l.flatMap f).drop (k * n + n) := by
  induction l with
  | nil => intro k x h; simp at h
  | cons y l ih =>
    intro k x h
    cases k with
    | zero => simp [hf]
    | succ k =>
      simp only [List.set_cons_succ, List.flatMap_cons]
      rw [ih k x (by simpa using h), show (k + 1) * n = n + k * n from by rw [Nat.add_mul]; omega, List.take_append, List.drop_append, hf]
      simp [hf, show n + k * n + n - n = k * n + n from by omega, List.take_of_length_le, List.drop_of_length_le]

theorem rows_ext {α : Type} {f : α → List Value} {n : Nat} (hf : ∀ x, (f x).length = n) (hn : 0 < n) {l : List α} {A : Array Value} (hs : A.size = l.length * n)
    (h : ∀ (k j : Nat) (x : α), l[k]? = some x → j < n → A[k * n + j]? = (f x)[j]?) : A = rows f l := by
  apply Array.ext_getElem?
  intro q
  by_cases hq : q < l.length * n
  · have hk : q / n < l.length := (Nat.div_lt_iff_lt_mul hn).2 hq
    have e : q / n * n + q % n = q := by rw [Nat.mul_comm]; exact Nat.div_add_mod q n
    have h1 := h (q / n) (q % n) l[q / n] (List.getElem?_eq_getElem hk) (Nat.mod_lt _ hn)
    have h2 := rows_get hf (l := l) (List.getElem?_eq_getElem hk) (Nat.mod_lt q hn)
    rw [e] at h1 h2
    rw [h1, h2]
  · rw [Array.getElem?_eq_none (by omega), Array.getElem?_eq_none (by rw [rows_size hf]; omega)]
/-- values stored one behind the other -/
def setRow (A : Array Value) (s : Nat) : List Value → Array Value
  | [] => A
  | v :: r => setRow (A.setIfInBounds s v) (s + 1) r
theorem setRow_size (vs : List Value) : ∀ (A : Array Value) (s : Nat), (setRow A s vs).size = A.size := by
  induction vs with
  | nil => intro A s; rfl
  | cons v vs ih => intro A s; rw [setRow, ih]; simp
theorem setRow_get (vs : List Value) : ∀ (A : Array Value) (s i : Nat), s + vs.length ≤ A.size → (setRow A s vs)[i]? = if s ≤ i ∧ i < s + vs.length then vs[i - s]? else A[i]? := by
  induction vs with
  | nil => intro A s i _; simp [setRow]; intro h1 h2; omega
  | cons v vs ih =>
    intro A s i hs
    simp only [List.length_cons] at hs
    rw [setRow, ih _ _ _ (by simp; omega)]
    by_cases h1 : s = i
    · subst h1
      rw [if_neg (by omega), if_pos (by simp), Nat.sub_self, Array.getElem?_setIfInBounds_self]
      rw [if_pos (by omega)]; rfl
    · by_cases h2 : s + 1 ≤ i ∧ i < s + 1 + vs.length
      · rw [if_pos h2, if_pos (by simp; omega), show i - s = (i - (s + 1)) + 1 from by omega]; simp
      · rw [if_neg h2, if_neg (by simp; omega), Array.getElem?_setIfInBounds_ne h1]
theorem rows_setRow {α : Type} {f : α → List Value} {n : Nat} (hf : ∀ x, (f x).length = n) (hn : 0 < n) {l : List α} {k : Nat} {x : α} (hk : k < l.length) :
    setRow (rows f l) (k * n) (f x) = rows f (l.set k x) := by
  have hle : k * n + n ≤ l.length * n := by
    have : (k + 1) * n ≤ l.length * n := Nat.mul_le_mul_right n hk
    rw [Nat.add_mul] at this; omega
  apply rows_ext hf hn
  · rw [setRow_size, rows_size hf]; simp
  · intro k' j y hy hj
    rw [setRow_get _ _ _ _ (by rw [hf, rows_size hf]; exact hle), hf]
    by_cases e : k' = k
    · subst e
      rw [List.getElem?_set_self hk] at hy
      injection hy with hy
      rw [if_pos (by omega), hy, show k' * n + j - k' * n = j from by omega]
    · rw [List.getElem?_set_ne (Ne.symm e)] at hy
      rw [if_neg, rows_get hf hy hj]
      intro ⟨h1, h2⟩
      rcases Nat.lt_or_gt_of_ne e with h | h
      · have : (k' + 1) * n ≤ k * n := Nat.mul_le_mul_right n h
        rw [Nat.add_mul] at this; omega
      · have : (k + 1) * n ≤ k' * n := Nat.mul_le_mul_right n h
        rw [Nat.add_mul] at this; omega
theorem blk_drew {w : World} {b : Nat} {o : Obj} (h : w.heap[b]? = some o) : w.drew.heap[b]? = some o := h
theorem blk_drewN {w : World} {b : Nat} {o : Obj} (h : w.heap[b]? = some o) (n : Nat) : (w.drewN n).heap[b]? = some o := h
/-- a local of one, two, three cells -/
theorem loc1 {w : World} {g : Nat} {v0 : Value} {t : TypeId} (h : w.heap[g]? = some (.cells #[v0] t (0, 0))) : w.cell? ⟨g, 0, none⟩ = some v0 ∧ w.frozen? ⟨g, 0, none⟩ = false ∧ g < w.heap.size :=
  ⟨by rw [cell_of h]; rfl, frozen_of h 0, blk_lt h⟩
theorem loc2 {w : World} {g : Nat} {v0 v1 : Value} {t : TypeId} (h : w.heap[g]? = some (.cells #[v0, v1] t (0, 0))) :
    w.cell? ⟨g, 0, none⟩ = some v0 ∧ w.cell? ⟨g, 1, none⟩ = some v1 ∧ w.frozen? ⟨g, 0, none⟩ = false ∧ w.frozen? ⟨g, 1, none⟩ = false ∧ g < w.heap.size :=
  ⟨by rw [cell_of h]; rfl, by rw [cell_of h]; rfl, frozen_of h 0, frozen_of h 1, blk_lt h⟩
theorem loc3 {w : World} {g : Nat} {v0 v1 v2 : Value} {t : TypeId} (h : w.heap[g]? = some (.cells #[v0, v1, v2] t (0, 0))) :
    w.cell? ⟨g, 0, none⟩ = some v0 ∧ w.cell? ⟨g, 1, none⟩ = some v1 ∧ w.cell? ⟨g, 2, none⟩ = some v2 ∧ w.frozen? ⟨g, 0, none⟩ = false ∧ w.frozen? ⟨g, 1, none⟩ = false ∧ w.frozen? ⟨g, 2, none⟩ = false ∧ g < w.heap.size :=
  ⟨by rw [cell_of h]; rfl, by rw [cell_of h]; rfl, by rw [cell_of h]; rfl, frozen_of h 0, frozen_of h 1, frozen_of h 2, blk_lt h⟩
theorem ups {p n : Nat} (h : p < n) : p < n ∧ p < n + 1 ∧ p < n + 1 + 1 ∧ p < n + 1 + 1 + 1 ∧ p < n + 1 + 1 + 1 + 1 ∧ p < n + 1 + 1 + 1 + 1 + 1 ∧ p < n + 1 + 1 + 1 + 1 + 1 + 1 := by omega
theorem ge_of {n m : Nat} (h : n ≤ m) : ∀ p, p < n → p < m := fun _ hp => Nat.lt_of_lt_of_le hp h
end Go.Proofs.Ytaanbonbdhjbpaa
