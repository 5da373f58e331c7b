/- Rows of one's own that begin at some place of their block (what l[1:] leaves), and grow. No program in sight. -/
import Derived.Test.YtplbkjgkocnehaaLibU
import Derived.Laws.CopyRow
namespace Go.Proofs.Ytplbkjgkocnehaa
open Go.RowKit

/-- v is a slice of l's pieces, n cells each, from cell o of its block on; as many pieces as its capacity says are there. -/
def Off {α : Type} (w : World) (e : TypeId) (f : α → List Value) (n : Nat) (v : Value) (l : List α) : Prop :=
  (v = .slice none 0 0 ∧ l = []) ∨ ∃ b o c A, v = .slice (some ⟨b, o, none⟩) l.length c ∧ w.heap[b]? = some (.cells A e (0, 0)) ∧ (∀ j u, (l.flatMap f)[j]? = some u → A[o + j]? = some u) ∧ l.length ≤ c ∧ c ≤ maxLen ∧ (0 < c → o + c * n ≤ A.size)
section
variable {α : Type} {f : α → List Value} {n : Nat} {w w' : World} {e : TypeId} {v x : Value} {l m : List α}
theorem Off.nil (w : World) (e : TypeId) (f : α → List Value) (n : Nat) : Off w e f n (.slice none 0 0) [] := .inl ⟨rfl, rfl⟩
theorem Off.form (h : Off w e f n v l) : ∃ a c, v = .slice a l.length c ∧ l.length ≤ c ∧ c ≤ maxLen := by
  rcases h with ⟨rfl, rfl⟩ | ⟨b, o, c, A, rfl, _, _, h, h2, _⟩
  · exact ⟨none, 0, rfl, Nat.le_refl _, by simp [maxLen]⟩
  · exact ⟨_, c, rfl, h, h2⟩
theorem Off.sl (h : Off w e f n v l) : Sl w e f v l := by
  rcases h with h | ⟨b, o, c, A, h1, h2, h3, h4, _⟩
  · exact .inl h
  · exact .inr ⟨b, o, c, A, h1, h2, h3, h4⟩
theorem Off.pos (hf : ∀ x, (f x).length = n) (h : Off w e f n v l) (h0 : 0 < l.length) : ∃ b o c A, v = .slice (some ⟨b, o, none⟩) l.length c ∧ w.heap[b]? = some (.cells A e (0, 0)) ∧ l.length ≤ c ∧ c ≤ maxLen ∧
    (∀ (k j : Nat) (x : α) (u : Value), l[k]? = some x → (f x)[j]? = some u → A[o + (k * n + j)]? = some u) := by
  rcases h with ⟨_, h⟩ | ⟨b, o, c, A, h1, h2, h3, h4, h5, _⟩
  · subst h; simp at h0
  · refine ⟨b, o, c, A, h1, h2, h4, h5, fun k j x u hk hj => ?_⟩
    have hjn : j < n := by have := (List.getElem?_eq_some_iff.1 hj).1; rw [hf] at this; exact this
    exact h3 _ _ ((flat_get hf l k j x hk hjn).trans hj)
theorem Off.keep (h : Off w e f n v l) (hk : ∀ b, v.ownBlock = some b → w'.heap[b]? = w.heap[b]?) : Off w' e f n v l := by
  rcases h with h | ⟨b, o, c, A, rfl, h2, h3⟩
  · exact .inl h
  · exact .inr ⟨b, o, c, A, rfl, by rw [hk b rfl]; exact h2, h3⟩
theorem Off.lt (h : Off w e f n v l) : ∀ b, v.ownBlock = some b → b < w.heap.size := by
  intro b hb
  rcases h with ⟨rfl, _⟩ | ⟨g, o, c, A, rfl, h2, _⟩
  · cases hb
  · injection hb with hb; subst hb; exact blk_lt h2
theorem Off.kp {F : Nat → Prop} (h : Off w e f n v l) (hk : Kp F w w') (hF : ∀ b, v.ownBlock = some b → ¬ F b) : Off w' e f n v l := h.keep fun b hb => hk.blk b (h.lt b hb) (hF b hb)
theorem Off.drew (h : Off w e f n v l) : Off w.drew e f n v l := h
theorem Off.alloc (h : Off w e f n v l) (o : Obj) : Off (w.alloc o) e f n v l := h.keep fun b hb => Below.heap_alloc w o b (h.lt b hb)
theorem Off.setCell (h : Off w e f n v l) (a : Addr) (u : Value) (ha : v.ownBlock ≠ some a.block) : Off (w.setCell a u) e f n v l :=
  h.keep fun b hb => Below.heap_setCell w a u b (fun e => ha (by rw [hb, e]))
theorem Off.cells (h : Off w e f n v l) {b : Nat} (hb : v.ownBlock = some b) : ∃ A, w.heap[b]? = some (.cells A e (0, 0)) := by
  rcases h with ⟨rfl, _⟩ | ⟨g, o, c, A, rfl, h2, _⟩
  · cases hb
  · injection hb with hb; subst hb; exact ⟨A, h2⟩
theorem Off.ne (h : Off w e f n v l) {b : Nat} {A : Array Value} {t : TypeId} {z : Nat × Nat} (hb : w.heap[b]? = some (.cells A t z)) (ht : t ≠ e) : v.ownBlock ≠ some b := by
  intro ho
  obtain ⟨A', hA⟩ := h.cells ho
  rw [hb] at hA; injection hA with hA; injection hA with _ h3 _
  exact ht h3
theorem RowAt.off (hf : ∀ x, (f x).length = n) (h : RowAt w e f n v l) : Off w e f n v l := by
  rcases h.2 with ⟨h1, h2⟩ | ⟨g, cap, cur, h1, _, hg, h3, h4, h5, h6⟩
  · exact .inl ⟨h1, List.eq_nil_of_length_eq_zero h2⟩
  · refine .inr ⟨g, 0, cap, cur, h1, hg, fun j u hj => ?_, h3, h4, fun _ => by omega⟩
    have hlt := (List.getElem?_eq_some_iff.1 hj).1
    rw [rows_len hf] at hlt
    rw [Nat.zero_add, ← hj, ← h6, List.getElem?_take, if_pos hlt, Array.getElem?_toList]
/-- the first one taken off -/
theorem Off.tail (hf : ∀ x, (f x).length = n) {y : α} {b o c o' : Nat} (h : Off w e f n (.slice (some ⟨b, o, none⟩) (y :: l).length c) (y :: l)) (ho : 1 < c → o' = o + n) : Off w e f n (.slice (some ⟨b, o', none⟩) l.length (c - 1)) l := by
  rcases h with ⟨h, _⟩ | ⟨b', o2, c', A, h1, h2, h3, h4, h5, h6⟩
  · cases h
  · injection h1 with h1 _ h7
    injection h1 with h1
    injection h1 with h1 h8
    subst h1; subst h7; subst h8
    simp only [List.length_cons] at h4
    refine .inr ⟨b, o', c - 1, A, rfl, h2, fun j u hj => ?_, by omega, by omega, fun hc => ?_⟩
    · have hjl := (List.getElem?_eq_some_iff.1 hj).1
      rw [rows_len hf] at hjl
      have hc1 : 1 < c := by
        rcases Nat.eq_zero_or_pos l.length with h0 | h0
        · rw [h0] at hjl; omega
        · omega
      have := h3 (n + j) u (by
        rw [List.flatMap_cons, List.getElem?_append_right (by rw [hf]; omega), hf, show n + j - n = j from by omega]
        exact hj)
      rw [ho hc1, Nat.add_assoc]; exact this
    · have hc1 : 1 < c := by omega
      have h7 := h6 (by omega)
      rw [ho hc1]
      have e1 : c * n = n + (c - 1) * n := by
        have : c = 1 + (c - 1) := by omega
        conv => lhs; rw [this, Nat.add_mul, Nat.one_mul]
      omega
end
section
variable {P : Program} {α : Type} {f : α → List Value} {n : Nat} {w w' : World} {e : TypeId} {v x : Value} {l m : List α}
theorem run_append_room_off (w : World) (t ty e : TypeId) (i : TypeInfo) (ht : P.underlying t = some (.slice e)) (hi : P.info? e = some i)
    (g o sLen sCap : Nat) (cur : Array Value) (hg : w.heap[g]? = some (.cells cur e (0, 0)))
    (a : Addr) (m c : Nat) (news : List Value) (hl : news.length = m * i.size) (hnews : ∀ j u, news[j]? = some u → w.cell? (a.add j) = some u) (h1 : ∀ u ∈ news, u.oneCell' = true)
    (hroom : sLen + m ≤ sCap) (hfit : o + sLen * i.size + news.length ≤ cur.size) :
    (Builtin.append_ #[t, t] ty #[.slice (some ⟨g, o, none⟩) sLen sCap, .slice (some a) m c]).run P w =
      .ok (.slice (some ⟨g, o, none⟩) (sLen + m) sCap) (w.setRow g (cur.toList.take (o + sLen * i.size) ++ news ++ cur.toList.drop (o + sLen * i.size + news.length)).toArray) := by
  have hf := run_firstCells_some (P := P) w i.size m a m c news hl hnews
  have hst := run_storeCells_at P g (o + sLen * i.size) e news 0 cur w hg (by simpa using hfit) h1
  simp only [Nat.add_zero] at hst
  simp [Builtin.append_, run_underlying ht, sizeOf, typeInfo, hi, Builtin.lenOf, hroom, hf, Addr.add_lit, hst]
/-- append(v, x...), v such a row, x a slice of whatever block -/
theorem run_grow_off (hf : ∀ x, (f x).length = n) (hn : 0 < n) {t ty : TypeId} {z : Value} {bytes : Nat} (ht : P.underlying t = some (.slice e)) (hinfo : (P.info? e).map (fun i => (i.zero, i.size, i.bytes)) = some (some z, n, bytes)) (hzs : z.cells.size = n)
    (hv : Off w e f n v l) (hx : Sl w e f x m) (h1 : ∀ u ∈ m.flatMap f, u.oneCell' = true) (h63 : l.length + m.length ≤ 4294967296) (hb : bytes ≤ 16384) :
    ∃ v' w', (Builtin.append_ #[t, t] ty #[v, x]).run P w = .ok v' w' ∧ Off w' e f n v' (l ++ m) ∧ w.grownBy w' v.ownBlock ∧ (v'.ownBlock = v.ownBlock ∨ ∃ b, v'.ownBlock = some b ∧ w.heap.size ≤ b) := by
  rcases hv with ⟨rfl, rfl⟩ | ⟨b, o, c, A, rfl, hA, hcs, hc, hcm, hroomA⟩
  · obtain ⟨v', w', hr, q1, q2, q3⟩ := run_grow_sl (P := P) hf hn (ty := ty) ht hinfo hzs (RowAt.nil w e f n) hx h1 h63 hb
    exact ⟨v', w', hr, q1.off hf, q2, q3⟩
  obtain ⟨i, hi, hzz⟩ := Option.map_eq_some_iff.1 hinfo
  simp only [Prod.mk.injEq] at hzz
  obtain ⟨hz, hsz, hby⟩ := hzz
  rcases Nat.eq_zero_or_pos m.length with h0 | h0
  · obtain rfl := List.eq_nil_of_length_eq_zero h0
    obtain ⟨ox, cx, rfl, _⟩ := hx.form
    have := run_append_zero' (P := P) w t ty e i ht hi (some ⟨b, o, none⟩) l.length c hc ox cx
    exact ⟨_, w, this, by rw [List.append_nil]; exact .inr ⟨b, o, c, A, rfl, hA, hcs, hc, hcm, hroomA⟩, ⟨rfl, rfl, rfl, Nat.le_refl _, fun _ _ _ => rfl⟩, .inl rfl⟩
  rcases hx with ⟨_, h⟩ | ⟨b2, o2, c2, A2, rfl, hb2, hA2, hc2⟩
  · rw [h] at h0; simp at h0
  have hnews : ∀ j u, (m.flatMap f)[j]? = some u → w.cell? ((⟨b2, o2, none⟩ : Addr).add j) = some u := fun j u hj => by
    rw [Addr.add_lit, cell_of hb2]; exact hA2 j u hj
  have hml : (m.flatMap f).length = m.length * i.size := by rw [hsz]; exact rows_len hf m
  have hll : (l.flatMap f).length = l.length * i.size := by rw [hsz]; exact rows_len hf l
  have hfl : (l ++ m).flatMap f = l.flatMap f ++ m.flatMap f := by simp
  by_cases hroom : l.length + m.length ≤ c
  · have hfit : o + l.length * i.size + (m.flatMap f).length ≤ A.size := by
      have h7 := hroomA (by omega)
      rw [hml, hsz]
      have := Nat.mul_le_mul_right n hroom
      rw [Nat.add_mul] at this; omega
    have hr := run_append_room_off (P := P) w t ty e i ht hi b o l.length c A hA ⟨b2, o2, none⟩ m.length c2 (m.flatMap f) hml hnews h1 hroom hfit
    have hT : (A.toList.take (o + l.length * i.size)).length = o + l.length * i.size := by rw [List.length_take]; have hAl : A.toList.length = A.size := Array.length_toList; omega
    refine ⟨_, _, hr, .inr ⟨b, o, c, _, by rw [List.length_append], setRow_heap w b A _ e _ hA, ?_, by rw [List.length_append]; exact hroom, hcm, fun h => ?_⟩, ⟨rfl, rfl, rfl, by simp, fun k _ hk => setRow_other w b k _ (fun e => hk (by simp [Value.ownBlock, e]))⟩, .inl rfl⟩
    · intro j u hj
      rw [hfl] at hj
      rw [List.getElem?_toArray, List.append_assoc]
      by_cases hjl : j < (l.flatMap f).length
      · rw [List.getElem?_append_left hjl] at hj
        have hlt : o + j < o + l.length * i.size := by omega
        have e1 : (A.toList.take (o + l.length * i.size))[o + j]? = some u := by
          rw [List.getElem?_take, if_pos hlt, Array.getElem?_toList]
          exact hcs j u hj
        rw [List.getElem?_append_left (by rw [hT]; exact hlt)]
        exact e1
      · rw [List.getElem?_append_right (by omega)] at hj
        have hj' := (List.getElem?_eq_some_iff.1 hj).1
        rw [List.getElem?_append_right (by rw [hT]; omega), hT, show o + j - (o + l.length * i.size) = j - (l.flatMap f).length from by omega,
          List.getElem?_append_left hj']
        exact hj
    · have := hroomA h
      simp only [List.size_toArray, List.length_append, List.length_take, List.length_drop, Array.length_toList]
      omega
  · have holds : ∀ j u, (l.flatMap f)[j]? = some u → w.cell? ((⟨b, o, none⟩ : Addr).add j) = some u := fun j u hj => by
      rw [Addr.add_lit, cell_of hA]; exact hcs j u hj
    have hbytes : (l.length + m.length) * i.bytes ≤ 140737488355328 := by
      rw [hby]
      calc (l.length + m.length) * bytes ≤ 4294967296 * 16384 := Nat.mul_le_mul h63 hb
        _ ≤ _ := by omega
    have h63' : l.length + m.length ≤ maxLen := by simp [maxLen]; omega
    have hr := run_append_grow (P := P) w t ty e i z ht hi hz ⟨b, o, none⟩ l.length c (l.flatMap f) hll holds ⟨b2, o2, none⟩ m.length c2 (m.flatMap f) hml hnews (by omega) (by omega) (growslice_fits (by omega) hbytes)
    have hge := grownCap_ge w (l.length + m.length) c e
    have hcm' := grownCap_le_maxLen w (l.length + m.length) c e h63'
    refine ⟨_, _, hr, .inr ⟨w.heap.size, 0, _, _, by rw [List.length_append], heap_alloc_new w.drew _, ?_, by rw [List.length_append]; exact hge, hcm', fun _ => ?_⟩, ⟨rfl, rfl, rfl, by simp, fun k hk _ => Below.heap_alloc w.drew _ k hk⟩, .inr ⟨_, rfl, Nat.le_refl _⟩⟩
    · intro j u hj
      rw [hfl] at hj
      have hj' := (List.getElem?_eq_some_iff.1 hj).1
      rw [Nat.zero_add, Array.getElem?_append_left (by simpa using hj')]
      simpa using hj
    · simp only [Array.size_append, List.size_toArray, size_zeroCells, hzs, hll, hml, hsz, ← Nat.add_mul]
      rw [Nat.zero_add]
      exact Nat.mul_le_mul_right _ (by omega)
end
end Go.Proofs.Ytplbkjgkocnehaa
