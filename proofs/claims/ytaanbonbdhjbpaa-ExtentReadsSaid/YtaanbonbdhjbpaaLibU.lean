/- Slices of whatever block, pieces of n cells; appended to a row of one's own. No program in sight. -/
import Derived.Test.YtaanbonbdhjbpaaLibR
namespace Go.Proofs.Ytaanbonbdhjbpaa
open Go.RowKit

/-- v reads as l: nil, or n cells a piece, from some cell on of a block that is known -/
def Sl {α : Type} (w : World) (e : TypeId) (f : α → List Value) (v : Value) (l : List α) : Prop :=
  (v = .slice none 0 0 ∧ l = []) ∨ ∃ b o c A, v = .slice (some ⟨b, o, none⟩) l.length c ∧ w.heap[b]? = some (.cells A e (0, 0)) ∧ (∀ j u, (l.flatMap f)[j]? = some u → A[o + j]? = some u) ∧ l.length ≤ c
section
variable {α : Type} {f : α → List Value} {n : Nat} {w w' : World} {e : TypeId} {v x : Value} {l m : List α}
theorem Sl.nil (w : World) (e : TypeId) (f : α → List Value) : Sl w e f (.slice none 0 0) [] := .inl ⟨rfl, rfl⟩
theorem Sl.form (h : Sl w e f v l) : ∃ o c, v = .slice o l.length c ∧ l.length ≤ c := by
  rcases h with ⟨rfl, rfl⟩ | ⟨b, o, c, A, rfl, _, _, h⟩
  · exact ⟨none, 0, rfl, Nat.le_refl _⟩
  · exact ⟨_, c, rfl, h⟩
theorem Sl.kp {F : Nat → Prop} (h : Sl w e f v l) (k : Kp F w w') (hF : ∀ b A, F b → w.heap[b]? ≠ some (.cells A e (0, 0))) : Sl w' e f v l := by
  rcases h with h | ⟨b, o, c, A, h1, h2, h3⟩
  · exact .inl h
  · exact .inr ⟨b, o, c, A, h1, k.get h2 (fun x => hF b A x h2), h3⟩
theorem Sl.kn (h : Sl w e f v l) (k : Kp NoB w w') : Sl w' e f v l := h.kp k (fun _ _ h => h.elim)
theorem Sl.cells (hf : ∀ x, (f x).length = n) (h : Sl w e f v l) {k : Nat} {y : α} (hk : l[k]? = some y) : ∃ b o c, v = .slice (some ⟨b, o, none⟩) l.length c ∧ l.length ≤ c ∧ b < w.heap.size ∧ ∀ W, Kp NoB w W → ∀ j u, (f y)[j]? = some u → W.cell? ⟨b, o + (k * n + j), none⟩ = some u := by
  rcases h with ⟨_, h⟩ | ⟨b, o, c, A, h1, h2, h3, h4⟩
  · subst h; simp at hk
  · refine ⟨b, o, c, h1, h4, blk_lt h2, fun W kk j u hj => ?_⟩
    rw [cell_of (kk.get h2 (fun h => h))]
    have hjn : j < n := by have := (List.getElem?_eq_some_iff.1 hj).1; rw [hf] at this; exact this
    exact h3 _ _ ((flat_get hf l k j y hk hjn).trans hj)
theorem RowAt.sl (hf : ∀ x, (f x).length = n) (hn : 0 < n) (h : RowAt w e f n v l) : Sl w e f v l := by
  rcases h.2 with ⟨h1, h2⟩ | ⟨g, cap, cur, h1, _, hg, h3, h4, h5, h6⟩
  · exact .inl ⟨h1, List.eq_nil_of_length_eq_zero h2⟩
  · refine .inr ⟨g, 0, cap, cur, h1, hg, fun j u hj => ?_, h3⟩
    have hlt := (List.getElem?_eq_some_iff.1 hj).1
    rw [rows_len hf] at hlt
    rw [Nat.zero_add, ← hj, ← h6, List.getElem?_take, if_pos hlt, Array.getElem?_toList]
/-- the first k, and what stands behind them -/
theorem RowAt.cut (hf : ∀ x, (f x).length = n) (hn : 0 < n) (h : RowAt w e f n v l) : v = .slice none 0 0 ∧ l = [] ∨ ∃ g c, v = .slice (some ⟨g, 0, none⟩) l.length c ∧ l.length ≤ c ∧ g < w.heap.size ∧
    (∀ k, k ≤ l.length → ∀ c', k ≤ c' → Sl w e f (.slice (some ⟨g, 0, none⟩) k c') (l.take k)) ∧ (∀ k o c', (k < l.length → o = k * n) → l.length - k ≤ c' → Sl w e f (.slice (some ⟨g, o, none⟩) (l.length - k) c') (l.drop k)) := by
  rcases h.sl hf hn with h1 | ⟨b, o, c, A, h1, h2, h3, h4⟩
  · exact .inl h1
  · rcases h.2 with ⟨h5, _⟩ | ⟨g, cap, cur, h5, _, hg, _⟩
    · rw [h5] at h1; cases h1
    rw [h5] at h1
    injection h1 with h6 _ h7
    injection h6 with h6
    injection h6 with h6 h8
    subst h6; subst h7; subst h8
    refine .inr ⟨g, cap, h5, h4, blk_lt h2, fun k hk c' hc' => ?_, fun k o c' ho hc' => ?_⟩
    · refine .inr ⟨g, 0, c', A, by rw [List.length_take, Nat.min_eq_left hk], h2, fun j u hj => ?_, by rw [List.length_take]; omega⟩
      refine h3 j u ?_
      have hjl := (List.getElem?_eq_some_iff.1 hj).1
      rw [rows_len hf, List.length_take, Nat.min_eq_left hk] at hjl
      have e : l.flatMap f = (l.take k).flatMap f ++ (l.drop k).flatMap f := by rw [← List.flatMap_append, List.take_append_drop]
      rw [e, List.getElem?_append_left (by rw [rows_len hf, List.length_take, Nat.min_eq_left hk]; exact hjl)]
      exact hj
    · refine .inr ⟨g, o, c', A, by rw [List.length_drop], h2, fun j u hj => ?_, by rw [List.length_drop]; exact hc'⟩
      have hjl := (List.getElem?_eq_some_iff.1 hj).1
      rw [rows_len hf, List.length_drop] at hjl
      have hkl : k < l.length := by
        rcases Nat.lt_or_ge k l.length with h | h
        · exact h
        · rw [show l.length - k = 0 from by omega] at hjl; omega
      rw [ho hkl]
      have := h3 (k * n + j) u (by
        have e : l.flatMap f = (l.take k).flatMap f ++ (l.drop k).flatMap f := by rw [← List.flatMap_append, List.take_append_drop]
        have hl := rows_len hf (l.take k)
        rw [List.length_take, Nat.min_eq_left (by omega)] at hl
        rw [e, List.getElem?_append_right (by omega), hl, show k * n + j - k * n = j from by omega]
        exact hj)
      rw [Nat.zero_add] at this
      exact this
end
section
variable {P : Program} {α : Type} {f : α → List Value} {n : Nat} {w w' : World} {e : TypeId} {v x : Value} {l m : List α}
theorem run_append_zero' (w : World) (t ty e : TypeId) (i : TypeInfo) (ht : P.underlying t = some (.slice e)) (hi : P.info? e = some i) (base : Option Addr) (n c : Nat) (h : n ≤ c) (o : Option Addr) (c' : Nat) :
    (Builtin.append_ #[t, t] ty #[.slice base n c, .slice o 0 c']).run P w = .ok (.slice base n c) w := by
  cases base <;> cases o <;> simp [Builtin.append_, run_underlying ht, sizeOf, typeInfo, hi, Builtin.lenOf, Builtin.firstCells, h, storeCells, loadCells, loadCellsFrom]
/-- append(v, x...), v a row of one's own, x a slice of whatever block -/
theorem run_grow_sl (hf : ∀ x, (f x).length = n) (hn : 0 < n) {t ty : TypeId} {z : Value} {bytes : Nat} (ht : P.underlying t = some (.slice e)) (hinfo : (P.info? e).map (fun i => (i.zero, i.size, i.bytes)) = some (some z, n, bytes)) (hzs : z.cells.size = n)
    (hv : RowAt w e f n v l) (hx : Sl w e f x m) (h1 : ∀ u ∈ m.flatMap f, u.oneCell' = true) (h63 : l.length + m.length ≤ 4294967296) (hb : bytes ≤ 16384) :
    ∃ v' w', (Builtin.append_ #[t, t] ty #[v, x]).run P w = .ok v' w' ∧ RowAt w' e f n v' (l ++ m) ∧ w.grownBy w' v.ownBlock ∧ (v'.ownBlock = v.ownBlock ∨ ∃ b, v'.ownBlock = some b ∧ w.heap.size ≤ b) := by
  obtain ⟨i, hi, hzz⟩ := Option.map_eq_some_iff.1 hinfo
  simp only [Prod.mk.injEq] at hzz
  obtain ⟨hz, hsz, hby⟩ := hzz
  rcases Nat.eq_zero_or_pos m.length with h0 | h0
  · obtain rfl := List.eq_nil_of_length_eq_zero h0
    obtain ⟨ox, cx, rfl, _⟩ := hx.form
    obtain ⟨o, c, rfl, hc, _⟩ := hv.form
    have := run_append_zero' (P := P) w t ty e i ht hi o l.length c hc ox cx
    exact ⟨_, w, this, by simpa using hv, ⟨rfl, rfl, rfl, Nat.le_refl _, fun _ _ _ => rfl⟩, .inl rfl⟩
  · rcases hx with ⟨_, h⟩ | ⟨b, o, c, A, rfl, hb', hA, hc⟩
    · rw [h] at h0; simp at h0
    have hnews : ∀ j u, (m.flatMap f)[j]? = some u → w.cell? ((⟨b, o, none⟩ : Addr).add j) = some u := fun j u hj => by
      rw [Addr.add_lit, cell_of hb']; exact hA j u hj
    exact run_grow (P := P) hf hn t ty e i z bytes ht hi hz hsz hby hzs v l hv ⟨b, o, none⟩ m c hnews h1 h63 hb
/-- append([]T(nil), x...) -/
theorem run_nil_sl (hf : ∀ x, (f x).length = n) (hn : 0 < n) {t ty : TypeId} {z : Value} {bytes : Nat} (ht : P.underlying t = some (.slice e)) (hinfo : (P.info? e).map (fun i => (i.zero, i.size, i.bytes)) = some (some z, n, bytes)) (hzs : z.cells.size = n)
    (hx : Sl w e f x m) (h1 : ∀ u ∈ m.flatMap f, u.oneCell' = true) (h63 : m.length ≤ 4294967296) (hb : bytes ≤ 16384) :
    ∃ v' w', (Builtin.append_ #[t, t] ty #[.slice none 0 0, x]).run P w = .ok v' w' ∧ RowAt w' e f n v' m ∧ Kp NoB w w' ∧ ∀ b, v'.ownBlock = some b → w.heap.size ≤ b := by
  obtain ⟨v', w', hr, q1, q2, q3⟩ := run_grow_sl (P := P) hf hn (ty := ty) ht hinfo hzs (RowAt.nil w e f n) hx h1 (by simpa using h63) hb
  refine ⟨v', w', hr, by simpa using q1, kp_grown q2 (by simp [Value.ownBlock]), fun b' hb' => ?_⟩
  rcases q3 with o | ⟨b2, o, h2⟩
  · rw [o] at hb'; cases hb'
  · rw [hb'] at o; injection o with o; subst o; exact h2
/-- one piece, laid on its own -/
theorem Sl.one (w : World) (e : TypeId) (y : α) : Sl (w.alloc (.cells (f y).toArray e)) e f (.slice (some ⟨w.heap.size, 0, none⟩) 1 1) [y] := by
  refine .inr ⟨_, 0, 1, _, rfl, blk_new w _, fun j u hj => ?_, Nat.le_refl _⟩
  simp at hj
  rw [Nat.zero_add]; simpa using hj
end
end Go.Proofs.Ytaanbonbdhjbpaa
