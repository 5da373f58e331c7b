/- Appends that copy a whole row into a new one. No program in sight. -/
import Derived.Test.YtaanbonbdhjbpaaLibC
import Derived.Laws.AppendOwn
namespace Go.Proofs.Ytaanbonbdhjbpaa
open Go.RowKit

theorem add0 (b j : Nat) : (⟨b, 0, none⟩ : Addr).add j = ⟨b, j, none⟩ := by
  unfold Addr.add
  split
  · subst_vars; rfl
  · simp
theorem Pre.flat {α : Type} {f : α → List Value} {n : Nat} {A : Array Value} {l : List α} (hf : ∀ x, (f x).length = n) (hn : 0 < n) (h : Pre f n A l) (j : Nat) (v : Value) (hj : (l.flatMap f)[j]? = some v) : A[j]? = some v := by
  have hlt := (List.getElem?_eq_some_iff.1 hj).1
  rw [rows_len hf] at hlt
  have hk : j / n < l.length := (Nat.div_lt_iff_lt_mul hn).2 hlt
  have e : j / n * n + j % n = j := by rw [Nat.mul_comm]; exact Nat.div_add_mod j n
  have h1 := h (j / n) (j % n) l[j / n] (List.getElem?_eq_getElem hk) (Nat.mod_lt _ hn)
  have h2 := flat_get hf l (j / n) (j % n) l[j / n] (List.getElem?_eq_getElem hk) (Nat.mod_lt _ hn)
  rw [e] at h1 h2
  rw [h1, ← h2, hj]
theorem Pre.front {α : Type} {f : α → List Value} {n : Nat} (hf : ∀ x, (f x).length = n) (l : List α) (Z : Array Value) : Pre f n ((l.flatMap f).toArray ++ Z) l := by
  intro k j x hk hj
  have h1 := flat_get hf l k j x hk hj
  have hlt : k * n + j < (l.flatMap f).length := by
    rw [rows_len hf]
    have hk' := (List.getElem?_eq_some_iff.1 hk).1
    have : (k + 1) * n ≤ l.length * n := Nat.mul_le_mul_right n hk'
    rw [Nat.add_mul] at this; omega
  rw [Array.getElem?_append_left (by simpa using hlt)]
  simpa using h1

section
variable {P : Program} {w : World} {o : Oper} {a : Act} {K : Act → World → Prop} {Q : Exit → Act → World → Prop} {α : Type} {f : α → List Value} {n : Nat}
/-- append([]T(nil), l...) -/
theorem wp_copy_nil (hf : ∀ x, (f x).length = n) (hn : 0 < n) (s x : Operand) (t e : TypeId) (z : Value) (bytes : Nat)
    (ho : o.op = .call { callee := .builtin .append, args := #[s, x], argTypes := #[t, t] })
    (ht : P.underlying t = some (.slice e)) (hinfo : (P.info? e).map (fun i => (i.zero, i.size, i.bytes)) = some (some z, n, bytes))
    (hs : a.eval s = .slice none 0 0) (b c : Nat) (l : List α) (hx : a.eval x = .slice (some ⟨b, 0, none⟩) l.length c)
    (A : Array Value) (hb : w.heap[b]? = some (.cells A e (0, 0))) (hA : Pre f n A l) (h0 : 0 < l.length) (h1 : l.length ≤ 4294967296) (h2 : bytes ≤ 16384)
    (h : ∀ c N, Pre f n N l → l.length ≤ c → K (a.put o.dst (.slice (some ⟨w.heap.size, 0, none⟩) l.length c)) (w.drew.alloc (.cells N e))) : o.wp P a w K Q := by
  obtain ⟨i, hi, hzz⟩ := Option.map_eq_some_iff.1 hinfo
  simp only [Prod.mk.injEq] at hzz
  obtain ⟨hz, hsz, hby⟩ := hzz
  have hnews : ∀ j v, (l.flatMap f)[j]? = some v → w.cell? ((⟨b, 0, none⟩ : Addr).add j) = some v := fun j v hj => by
    rw [add0, cell_of hb]; exact hA.flat hf hn j v hj
  have hbytes : l.length * i.bytes ≤ 281474976710656 := by
    rw [hby]
    calc l.length * bytes ≤ 4294967296 * 16384 := Nat.mul_le_mul h1 h2
      _ ≤ _ := by omega
  have hr := run_append_nil (P := P) w t o.type e i z ht hi hz ⟨b, 0, none⟩ l.length c (l.flatMap f) (by rw [hsz]; exact rows_len hf l) hnews h0 (by omega) hbytes
  unfold Oper.wp execOp
  simp only [ho, resolve, invoke, builtin, Sem.run_bind, Sem.run_pure, Result.andThen_ok, List.map_toArray, List.map_cons, List.map_nil, hs, hx, hr]
  exact h _ _ (Pre.front hf l _) (grownCap_ge _ _ _ _)
/-- append([]T{}, l...) -/
theorem wp_copy_empty (hf : ∀ x, (f x).length = n) (hn : 0 < n) (s x : Operand) (t e : TypeId) (z : Value) (bytes : Nat)
    (ho : o.op = .call { callee := .builtin .append, args := #[s, x], argTypes := #[t, t] })
    (ht : P.underlying t = some (.slice e)) (hinfo : (P.info? e).map (fun i => (i.zero, i.size, i.bytes)) = some (some z, n, bytes))
    (ad : Addr) (hs : a.eval s = .slice (some ad) 0 0) (b c : Nat) (l : List α) (hx : a.eval x = .slice (some ⟨b, 0, none⟩) l.length c)
    (A : Array Value) (hb : w.heap[b]? = some (.cells A e (0, 0))) (hA : Pre f n A l) (h0 : 0 < l.length) (h1 : l.length ≤ 4294967296) (h2 : bytes ≤ 16384)
    (h : ∀ c N, Pre f n N l → l.length ≤ c → K (a.put o.dst (.slice (some ⟨w.heap.size, 0, none⟩) l.length c)) (w.drew.alloc (.cells N e))) : o.wp P a w K Q := by
  obtain ⟨i, hi, hzz⟩ := Option.map_eq_some_iff.1 hinfo
  simp only [Prod.mk.injEq] at hzz
  obtain ⟨hz, hsz, hby⟩ := hzz
  have hnews : ∀ j v, (l.flatMap f)[j]? = some v → w.cell? ((⟨b, 0, none⟩ : Addr).add j) = some v := fun j v hj => by
    rw [add0, cell_of hb]; exact hA.flat hf hn j v hj
  have hbytes : Builtin.nextslicecap (0 + l.length) 0 * i.bytes ≤ 281474976710656 := by
    rw [hby, Nat.zero_add, nextslicecap_zero h0]
    calc l.length * bytes ≤ 4294967296 * 16384 := Nat.mul_le_mul h1 h2
      _ ≤ _ := by omega
  have hr := run_append_grow (P := P) w t o.type e i z ht hi hz ad 0 0 [] (by simp) (by simp) ⟨b, 0, none⟩ l.length c (l.flatMap f) (by rw [hsz]; exact rows_len hf l) hnews (by omega) (by omega) hbytes
  rw [Nat.zero_add] at hr
  unfold Oper.wp execOp
  simp only [ho, resolve, invoke, builtin, Sem.run_bind, Sem.run_pure, Result.andThen_ok, List.map_toArray, List.map_cons, List.map_nil, hs, hx, hr]
  have : ([] : List Value).toArray ++ (l.flatMap f).toArray = (l.flatMap f).toArray := by simp
  rw [this]
  exact h _ _ (Pre.front hf l _) (grownCap_ge _ _ _ _)
end
end Go.Proofs.Ytaanbonbdhjbpaa
