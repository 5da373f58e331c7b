/- Rows of one's own that grow: nil, or a block with free room. No program in sight. -/
import Derived.Test.YtaanbonbdhjbpaaLibG
import Derived.Laws.OwnMore
namespace Go.Proofs.Ytaanbonbdhjbpaa
open Go.RowKit

/-- v is a slice of l's pieces, n cells each, in a block of its own: its first cells are l's. -/
def RowAt {α : Type} (w : World) (e : TypeId) (f : α → List Value) (n : Nat) (v : Value) (l : List α) : Prop := w.ownsRow 0 e n v l.length (l.flatMap f)

section
variable {α : Type} {f : α → List Value} {n : Nat} {w w' : World} {e : TypeId} {v : Value} {l : List α}
theorem RowAt.nil (w : World) (e : TypeId) (f : α → List Value) (n : Nat) : RowAt w e f n (.slice none 0 0) [] := ⟨by simp, .inl ⟨rfl, rfl⟩⟩
theorem RowAt.form (h : RowAt w e f n v l) : ∃ o c, v = .slice o l.length c ∧ l.length ≤ c ∧ c ≤ maxLen ∧ (∀ a, o = some a → ∃ b, a = ⟨b, 0, none⟩ ∧ b < w.heap.size) := by
  rcases h.2 with ⟨h1, h2⟩ | ⟨g, cap, cur, h1, _, hg, h3, h4, _⟩
  · exact ⟨none, 0, by rw [h1, h2], by omega, by simp [maxLen], by simp⟩
  · exact ⟨_, _, h1, h3, h4, fun a ha => by injection ha with ha; exact ⟨g, ha.symm, blk_lt hg⟩⟩
theorem RowAt.pos (hf : ∀ x, (f x).length = n) (h : RowAt w e f n v l) (h0 : 0 < l.length) : ∃ b c A, v = .slice (some ⟨b, 0, none⟩) l.length c ∧ w.heap[b]? = some (.cells A e (0, 0)) ∧ Pre f n A l ∧ l.length ≤ c ∧ c ≤ maxLen ∧ A.size = c * n := by
  rcases h.2 with ⟨h1, h2⟩ | ⟨g, cap, cur, h1, _, hg, h3, h4, h5, h6⟩
  · omega
  · refine ⟨g, cap, cur, h1, hg, ?_, h3, h4, h5⟩
    intro k j x hk hj
    have h1 := flat_get hf l k j x hk hj
    rw [← h1, ← h6, List.getElem?_take, if_pos, Array.getElem?_toList]
    have hk' := (List.getElem?_eq_some_iff.1 hk).1
    have : (k + 1) * n ≤ l.length * n := Nat.mul_le_mul_right n hk'
    rw [Nat.add_mul] at this; omega
theorem RowAt.keep (h : RowAt w e f n v l) (hk : ∀ b, v.ownBlock = some b → w'.heap[b]? = w.heap[b]?) : RowAt w' e f n v l := by
  refine ⟨h.1, ?_⟩
  rcases h.2 with h1 | ⟨g, cap, cur, rfl, hb, hg, rest⟩
  · exact .inl h1
  · exact .inr ⟨g, cap, cur, rfl, hb, by rw [hk g rfl]; exact hg, rest⟩
theorem RowAt.lt (h : RowAt w e f n v l) : ∀ b, v.ownBlock = some b → b < w.heap.size := by
  intro b hb
  rcases h.2 with ⟨rfl, _⟩ | ⟨g, cap, cur, rfl, _, hg, _⟩
  · cases hb
  · injection hb with hb; subst hb; exact blk_lt hg
theorem RowAt.kp {F : Nat → Prop} (h : RowAt w e f n v l) (hk : Kp F w w') (hF : ∀ b, v.ownBlock = some b → ¬ F b) : RowAt w' e f n v l := h.keep fun b hb => hk.blk b (h.lt b hb) (hF b hb)
theorem RowAt.drew (h : RowAt w e f n v l) : RowAt w.drew e f n v l := h
theorem RowAt.alloc (h : RowAt w e f n v l) (o : Obj) : RowAt (w.alloc o) e f n v l := h.keep fun b hb => Below.heap_alloc w o b (h.lt b hb)
theorem RowAt.setCell (h : RowAt w e f n v l) (a : Addr) (u : Value) (ha : v.ownBlock ≠ some a.block) : RowAt (w.setCell a u) e f n v l :=
  h.keep fun b hb => Below.heap_setCell w a u b (fun e => ha (by rw [hb, e]))
theorem RowAt.len0 (h : RowAt w e f n v l) (h0 : l.length = 0) : ∃ o c, v = .slice o 0 c ∧ ∀ a, o = some a → ∃ b, a = ⟨b, 0, none⟩ := by
  obtain ⟨o, c, h1, _, _, h2⟩ := h.form
  exact ⟨o, c, by rw [h1, h0], fun a ha => by obtain ⟨b, hb, _⟩ := h2 a ha; exact ⟨b, hb⟩⟩
/-- its type tells it from other blocks -/
theorem RowAt.ne (h : RowAt w e f n v l) {b : Nat} {A : Array Value} {t : TypeId} {z : Nat × Nat} (hb : w.heap[b]? = some (.cells A t z)) (ht : t ≠ e) : v.ownBlock ≠ some b := by
  intro ho
  rcases h.2 with ⟨rfl, _⟩ | ⟨g, cap, cur, rfl, _, hg, _⟩
  · cases ho
  · injection ho with ho
    subst ho
    have h2 := hg.symm.trans hb
    injection h2 with h2
    injection h2 with _ h3 _
    exact ht h3.symm
theorem RowAt.new (hf : ∀ x, (f x).length = n) (w : World) (e : TypeId) (l : List α) (h63 : l.length ≤ maxLen) : RowAt (w.alloc (.cells (rows f l) e)) e f n (.slice (some ⟨w.heap.size, 0, none⟩) l.length l.length) l := by
  refine ⟨rows_len hf l, .inr ⟨w.heap.size, l.length, rows f l, rfl, Nat.zero_le _, blk_new w _, Nat.le_refl _, h63, rows_size hf l, ?_⟩⟩
  rw [List.take_of_length_le]
  · simp [rows]
  · have := rows_len hf l
    simp [rows]
    simpa using Nat.le_of_eq this
theorem RowAt.own (hf : ∀ x, (f x).length = n) {b c : Nat} {A : Array Value} (hb : w.heap[b]? = some (.cells A e (0, 0))) (hA : Pre f n A l) (hc : l.length ≤ c) (hm : c ≤ maxLen) (hs : A.size = c * n) : RowAt w e f n (.slice (some ⟨b, 0, none⟩) l.length c) l := by
  refine ⟨rows_len hf l, .inr ⟨b, c, A, rfl, Nat.zero_le _, hb, hc, hm, hs, ?_⟩⟩
  apply List.ext_getElem?
  intro j
  by_cases hj : j < l.length * n
  · rw [List.getElem?_take, if_pos hj, Array.getElem?_toList]
    have hn : 0 < n := by
      rcases Nat.eq_zero_or_pos n with h | h
      · subst h; omega
      · exact h
    have hlen := rows_len hf l
    have h1 := hA.flat hf hn j _ (List.getElem?_eq_getElem (by omega : j < (l.flatMap f).length))
    rw [h1, List.getElem?_eq_getElem]
  · rw [List.getElem?_eq_none (by simp; omega), List.getElem?_eq_none (by rw [rows_len hf]; omega)]
/-- the last one taken off -/
theorem RowAt.pop (hf : ∀ x, (f x).length = n) {b c : Nat} (h : RowAt w e f n (.slice (some ⟨b, 0, none⟩) l.length c) l) : RowAt w e f n (.slice (some ⟨b, 0, none⟩) (l.length - 1) c) l.dropLast := by
  rcases h.2 with ⟨h1, h2⟩ | ⟨g, cap, cur, h1, _, hg, h3, h4, h5, h6⟩
  · cases h1
  · injection h1 with h1 h2 h3'
    injection h1 with h1
    injection h1 with h1
    subst h1; subst h3'
    refine ⟨by rw [rows_len hf], .inr ⟨b, c, cur, by simp, Nat.zero_le _, hg, by simp; omega, h4, h5, ?_⟩⟩
    have e1 : l.dropLast.flatMap f = (l.flatMap f).take (l.dropLast.length * n) := by
      rcases List.eq_nil_or_concat l with rfl | ⟨l', x, rfl⟩
      · simp
      · have := rows_len hf l'
        simp [List.take_append, this, hf]
    rw [e1, ← h6, List.take_take]
    congr 1
    simp
end

section
variable {P : Program} {w : World} {α : Type} {f : α → List Value} {n : Nat}
theorem run_grow (hf : ∀ x, (f x).length = n) (hn : 0 < n) (t ty e : TypeId) (i : TypeInfo) (z : Value) (bytes : Nat) (ht : P.underlying t = some (.slice e)) (hi : P.info? e = some i) (hz : i.zero = some z)
    (hsize : i.size = n) (hby : i.bytes = bytes) (hzs : z.cells.size = n)
    (v : Value) (l : List α) (hown : RowAt w e f n v l)
    (a : Addr) (m : List α) (c : Nat) (hnews : ∀ j u, (m.flatMap f)[j]? = some u → w.cell? (a.add j) = some u) (h1 : ∀ u ∈ m.flatMap f, u.oneCell' = true)
    (h63 : l.length + m.length ≤ 4294967296) (hb : bytes ≤ 16384) :
    ∃ v' w', (Builtin.append_ #[t, t] ty #[v, .slice (some a) m.length c]).run P w = .ok v' w' ∧ RowAt w' e f n v' (l ++ m) ∧ w.grownBy w' v.ownBlock ∧
      (v'.ownBlock = v.ownBlock ∨ ∃ b, v'.ownBlock = some b ∧ w.heap.size ≤ b) := by
  have hbytes : (l.length + m.length) * bytes ≤ 140737488355328 := by
    calc (l.length + m.length) * bytes ≤ 4294967296 * 16384 := Nat.mul_le_mul h63 hb
      _ ≤ _ := by omega
  have h63' : l.length + m.length ≤ maxLen := by simp [maxLen]; omega
  have hfl : (l ++ m).flatMap f = l.flatMap f ++ m.flatMap f := by simp
  have hll : (l ++ m).length = l.length + m.length := by simp
  rcases hown.2 with ⟨rfl, h0⟩ | ⟨g, cap, cur, rfl, hbg, hg, hnc, hcm, hcs, htake⟩
  · obtain rfl : l = [] := List.eq_nil_of_length_eq_zero h0
    obtain ⟨v', w', hr, ho, hgr, _⟩ := run_append_own (P := P) w w.heap.size t ty e i z n bytes ht hi hz hsize hby hzs hn (.slice none 0 0) 0 [] (World.ownsRow_nil w w.heap.size e n) a m.length c (m.flatMap f) (rows_len hf m) hnews h1 (by simpa using h63') (by simpa using hbytes) (Nat.le_refl _)
    refine ⟨v', w', hr, ?_, hgr, ?_⟩
    · unfold RowAt
      rw [hfl, hll]
      refine ⟨ho.1, ?_⟩
      rcases ho.2 with h | ⟨g, cap, cur, h1, h2, h3⟩
      · exact .inl h
      · exact .inr ⟨g, cap, cur, h1, Nat.zero_le _, h3⟩
    · cases hv : v'.ownBlock with
      | none => exact .inl rfl
      | some b => exact .inr ⟨b, rfl, (ho.lt b hv).1⟩
  · obtain ⟨v', w', hr, ho, hgr, _⟩ := run_append_own (P := P) w 0 t ty e i z n bytes ht hi hz hsize hby hzs hn _ l.length (l.flatMap f) hown a m.length c (m.flatMap f) (rows_len hf m) hnews h1 h63' hbytes (Nat.zero_le _)
    refine ⟨v', w', hr, by unfold RowAt; rw [hfl, hll]; exact ho, hgr, ?_⟩
    by_cases hroom : l.length + m.length ≤ cap
    · have hfit : l.length * i.size + (m.flatMap f).length ≤ cur.size := by rw [rows_len hf, hsize, hcs, ← Nat.add_mul]; exact Nat.mul_le_mul_right _ hroom
      have hr' := run_append_room (P := P) w t ty e i ht hi g l.length cap cur hg a m.length c (m.flatMap f) (by rw [hsize]; exact rows_len hf m) hnews h1 hroom hfit
      rw [hr'] at hr
      injection hr with hr _
      exact .inl (by rw [← hr]; rfl)
    · have holds : ∀ j u, (l.flatMap f)[j]? = some u → w.cell? ((⟨g, 0, none⟩ : Addr).add j) = some u := hown.cells (g := g) rfl
      have hr' := run_append_grow (P := P) w t ty e i z ht hi hz ⟨g, 0, none⟩ l.length cap (l.flatMap f) (by rw [hsize]; exact rows_len hf l) holds a m.length c (m.flatMap f) (by rw [hsize]; exact rows_len hf m) hnews (by omega) (by omega) (growslice_fits (by omega) (by rw [hby]; exact hbytes))
      rw [hr'] at hr
      injection hr with hr _
      exact .inr ⟨w.heap.size, by rw [← hr]; rfl, Nat.le_refl _⟩
/-- append(v, m...), m in a block that is known -/
theorem wp_grow {o : Oper} {a : Act} {K : Act → World → Prop} {Q : Exit → Act → World → Prop} (hf : ∀ x, (f x).length = n) (hn : 0 < n) (s x : Operand) (t e : TypeId) (z : Value) (bytes : Nat)
    (ho : o.op = .call { callee := .builtin .append, args := #[s, x], argTypes := #[t, t] })
    (ht : P.underlying t = some (.slice e)) (hinfo : (P.info? e).map (fun i => (i.zero, i.size, i.bytes)) = some (some z, n, bytes)) (hzs : z.cells.size = n)
    (v : Value) (l : List α) (hs : a.eval s = v) (hown : RowAt w e f n v l) (b c : Nat) (m : List α) (hx : a.eval x = .slice (some ⟨b, 0, none⟩) m.length c)
    (A : Array Value) (t' : TypeId) (hb : w.heap[b]? = some (.cells A t' (0, 0))) (hA : Pre f n A m) (h1 : ∀ u ∈ m.flatMap f, u.oneCell' = true)
    (h63 : l.length + m.length ≤ 4294967296) (h2 : bytes ≤ 16384)
    (h : ∀ v' w', RowAt w' e f n v' (l ++ m) → w.grownBy w' v.ownBlock → (v'.ownBlock = v.ownBlock ∨ ∃ b, v'.ownBlock = some b ∧ w.heap.size ≤ b) → K (a.put o.dst v') w') : o.wp P a w K Q := by
  obtain ⟨i, hi, hzz⟩ := Option.map_eq_some_iff.1 hinfo
  simp only [Prod.mk.injEq] at hzz
  obtain ⟨hz, hsz, hby⟩ := hzz
  have hnews : ∀ j u, (m.flatMap f)[j]? = some u → w.cell? ((⟨b, 0, none⟩ : Addr).add j) = some u := fun j u hj => by
    rw [add0]
    simp only [World.cell?, hb]
    exact hA.flat hf hn j u hj
  obtain ⟨v', w', hr, q1, q2, q3⟩ := run_grow (P := P) hf hn t o.type e i z bytes ht hi hz hsz hby hzs v l hown ⟨b, 0, none⟩ m c hnews h1 h63 h2
  unfold Oper.wp execOp
  simp only [ho, resolve, invoke, builtin, Sem.run_bind, Sem.run_pure, Result.andThen_ok, List.map_toArray, List.map_cons, List.map_nil, hs, hx, hr]
  exact h v' w' q1 q2 q3
/-- append(v, m...), m a row of its own, nil or not -/
theorem wp_grow_row {o : Oper} {a : Act} {K : Act → World → Prop} {Q : Exit → Act → World → Prop} (hf : ∀ x, (f x).length = n) (hn : 0 < n) (s x : Operand) (t e : TypeId) (z : Value) (bytes : Nat)
    (ho : o.op = .call { callee := .builtin .append, args := #[s, x], argTypes := #[t, t] })
    (ht : P.underlying t = some (.slice e)) (hinfo : (P.info? e).map (fun i => (i.zero, i.size, i.bytes)) = some (some z, n, bytes)) (hzs : z.cells.size = n)
    (v : Value) (l : List α) (hs : a.eval s = v) (hown : RowAt w e f n v l) (u : Value) (m : List α) (hx : a.eval x = u) (hu : RowAt w e f n u m) (h1 : ∀ u ∈ m.flatMap f, u.oneCell' = true)
    (h63 : l.length + m.length ≤ 4294967296) (h2 : bytes ≤ 16384)
    (h : ∀ v' w', RowAt w' e f n v' (l ++ m) → w.grownBy w' v.ownBlock → (v'.ownBlock = v.ownBlock ∨ ∃ b, v'.ownBlock = some b ∧ w.heap.size ≤ b) → K (a.put o.dst v') w') : o.wp P a w K Q := by
  obtain ⟨i, hi, hzz⟩ := Option.map_eq_some_iff.1 hinfo
  simp only [Prod.mk.injEq] at hzz
  obtain ⟨hz, hsz, hby⟩ := hzz
  rcases hu.2 with ⟨rfl, h0⟩ | ⟨g, cap, cur, rfl, hbg, hg, hnc, hcm, hcs, htake⟩
  · obtain rfl : m = [] := List.eq_nil_of_length_eq_zero h0
    have hr := run_append_owned_none (P := P) (w := w) 0 t o.type e i n ht hi v l.length (l.flatMap f) hown
    unfold Oper.wp execOp
    simp only [ho, resolve, invoke, builtin, Sem.run_bind, Sem.run_pure, Result.andThen_ok, List.map_toArray, List.map_cons, List.map_nil, hs, hx, hr]
    exact h v w (by simpa using hown) ⟨rfl, rfl, rfl, Nat.le_refl _, fun _ _ _ => rfl⟩ (.inl rfl)
  · have hnews : ∀ j v, (m.flatMap f)[j]? = some v → w.cell? ((⟨g, 0, none⟩ : Addr).add j) = some v := hu.cells (g := g) rfl
    obtain ⟨v', w', hr, q1, q2, q3⟩ := run_grow (P := P) hf hn t o.type e i z bytes ht hi hz hsz hby hzs v l hown ⟨g, 0, none⟩ m cap hnews h1 h63 h2
    unfold Oper.wp execOp
    simp only [ho, resolve, invoke, builtin, Sem.run_bind, Sem.run_pure, Result.andThen_ok, List.map_toArray, List.map_cons, List.map_nil, hs, hx, hr]
    exact h v' w' q1 q2 q3
end
theorem kp_grown {F : Nat → Prop} {w w' : World} {o : Option Nat} (h : w.grownBy w' o) (hF : ∀ b, o = some b → F b) : Kp F w w' :=
  ⟨h.os, h.tape, h.output, h.size, fun b hb hf => h.block b hb (fun e => hf (hF b e.symm))⟩
theorem grown_get {w w' : World} {o : Option Nat} (h : w.grownBy w' o) {b : Nat} {x : Obj} (hb : w.heap[b]? = some x) (hne : o ≠ some b) : w'.heap[b]? = some x := by
  rw [h.block b (blk_lt hb) (fun e => hne e.symm)]; exact hb
end Go.Proofs.Ytaanbonbdhjbpaa
