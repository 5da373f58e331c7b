/- Rows of integers that are read, at any place of a block, and added to by copying. No program in sight. -/
import Derived.Test.YtpfhjfijpmcnkaaLibR
namespace Go.Proofs.Ytpfhjfijpmcnkaa
open Go.RowKit

/-- v reads l -/
def Rs (e : TypeId) (w : World) (v : Value) (l : List Int) : Prop :=
  (v = .slice none 0 0 ∧ l = []) ∨ ∃ b f c A, v = .slice (some ⟨b, f, none⟩) l.length c ∧ w.heap[b]? = some (.cells A e (0, 0)) ∧ (∀ j x, l[j]? = some x → A[f + j]? = some (.int .i64 x)) ∧ l.length ≤ c
section
variable {e : TypeId} {w w' : World} {v : Value} {l : List Int}
theorem Rs.nil (e : TypeId) (w : World) : Rs e w (.slice none 0 0) [] := .inl ⟨rfl, rfl⟩
theorem Rs.form (h : Rs e w v l) : ∃ o c, v = .slice o l.length c ∧ l.length ≤ c := by
  rcases h with ⟨rfl, rfl⟩ | ⟨b, f, c, A, rfl, _, _, h1⟩
  · exact ⟨none, 0, rfl, Nat.le_refl _⟩
  · exact ⟨_, c, rfl, h1⟩
theorem Rs.kp {F : Nat → Prop} (h : Rs e w v l) (k : Kp F w w') (hF : ∀ b A, F b → w.heap[b]? ≠ some (.cells A e (0, 0))) : Rs e w' v l := by
  rcases h with h | ⟨b, f, c, A, h1, h2, h3⟩
  · exact .inl h
  · exact .inr ⟨b, f, c, A, h1, k.get h2 (fun x => hF b A x h2), h3⟩
theorem Rs.kn (h : Rs e w v l) (k : Kp NoB w w') : Rs e w' v l := h.kp k (fun _ _ h => h.elim)
theorem Rs.alloc (h : Rs e w v l) (o : Obj) : Rs e (w.alloc o) v l := h.kn ((Kp.refl _ w).alloc o)
theorem Rs.cells (h : Rs e w v l) (h0 : l ≠ []) : ∃ b f c, v = .slice (some ⟨b, f, none⟩) l.length c ∧ l.length ≤ c ∧ b < w.heap.size ∧ ∀ W, Kp NoB w W → ∀ j x, l[j]? = some x → W.cell? ⟨b, f + j, none⟩ = some (.int .i64 x) := by
  rcases h with ⟨_, h⟩ | ⟨b, f, c, A, h1, h2, h3, h4⟩
  · exact absurd h h0
  · exact ⟨b, f, c, h1, h4, blk_lt h2, fun W k j x hj => by rw [cell_of (k.get h2 (fun h => h))]; exact h3 j x hj⟩
theorem RowAt.rs (h : RowAt w e (fun x => [Value.int .i64 x]) 1 v l) : Rs e w v l := by
  by_cases h0 : l = []
  · subst h0
    rcases h.2 with ⟨h1, _⟩ | ⟨g, cap, cur, h1, _, hg, h3, h4, _⟩
    · exact .inl ⟨h1, rfl⟩
    · exact .inr ⟨g, 0, cap, cur, h1, hg, by simp, h3⟩
  · obtain ⟨b, c, A, h1, h2, h3, h4, _⟩ := h.pos (n := 1) (f := fun x => [Value.int .i64 x]) (fun _ => rfl) (List.length_pos_iff.2 h0)
    refine .inr ⟨b, 0, c, A, h1, h2, ?_, h4⟩
    intro j x hj
    have := h3 j 0 x hj (by omega)
    simp only [Nat.mul_one, Nat.add_zero] at this
    rw [Nat.zero_add]; exact this
variable {P : Program}
theorem run_append_zero (w : World) (t ty e : TypeId) (i : TypeInfo) (ht : P.underlying t = some (.slice e)) (hi : P.info? e = some i) (base : Option Addr) (n c : Nat) (h : n ≤ c) (o : Option Addr) (c' : Nat) :
    (Builtin.append_ #[t, t] ty #[.slice base n c, .slice o 0 c']).run P w = .ok (.slice base n c) w := by
  cases base <;> cases o <;> simp [Builtin.append_, run_underlying ht, sizeOf, typeInfo, hi, Builtin.lenOf, Builtin.firstCells, h, storeCells, loadCells, loadCellsFrom]
theorem run_append_rs {t ty : TypeId} (ht : P.underlying t = some (.slice e)) (hinfo : (P.info? e).map (fun i => (i.zero, i.size, i.bytes)) = some (some (.int .i64 0), 1, 8))
    {s x : Value} {ls lx : List Int} (hs : Rs e w s ls) (o : Option Addr) (hfull : s = .slice o ls.length ls.length) (hx : Rs e w x lx) (h1 : ls.length + lx.length ≤ 1000000) :
    ∃ v' w', (Builtin.append_ #[t, t] ty #[s, x]).run P w = .ok v' w' ∧ Rs e w' v' (ls ++ lx) ∧ Kp NoB w w' := by
  obtain ⟨i, hi, hzz⟩ := Option.map_eq_some_iff.1 hinfo
  simp only [Prod.mk.injEq] at hzz
  obtain ⟨hz, hsz, hby⟩ := hzz
  rcases Nat.eq_zero_or_pos lx.length with h0 | h0
  · obtain rfl := List.eq_nil_of_length_eq_zero h0
    obtain ⟨ox, cx, rfl, _⟩ := hx.form
    have := run_append_zero (P := P) w t ty e i ht hi o ls.length ls.length (Nat.le_refl _) ox cx
    exact ⟨s, w, by rw [hfull]; exact this, by rw [List.append_nil]; exact hs, Kp.refl _ _⟩
  · rcases hx with ⟨_, h⟩ | ⟨b, f, c, A, rfl, hb, hA, hc⟩
    · rw [h] at h0; simp at h0
    have hnews : ∀ j v, (lx.map (Value.int .i64))[j]? = some v → w.cell? ((⟨b, f, none⟩ : Addr).add j) = some v := fun j v hj => by
      rw [List.getElem?_map] at hj
      obtain ⟨x, hx, rfl⟩ := Option.map_eq_some_iff.1 hj
      rw [Addr.add_lit, cell_of hb]; exact hA j x hx
    have hsize : ∀ n, n ≤ 1000000 → ∀ c, c < n → Builtin.nextslicecap n c * i.bytes ≤ 281474976710656 := fun n hn c hc => growslice_fits hc (by rw [hby]; omega)
    rcases hs with ⟨rfl, rfl⟩ | ⟨g, f', c', A', rfl, hg, hA', hc'⟩
    · have hr := run_append_nil (P := P) (w := w) t ty e i _ ht hi hz ⟨b, f, none⟩ lx.length c (lx.map (Value.int .i64)) (by rw [hsz]; simp) hnews h0 (by simp at h1; omega) (by rw [hby]; simp at h1; omega)
      refine ⟨_, _, hr, .inr ⟨_, 0, _, _, rfl, blk_new w.drew _, ?_, grownCap_ge _ _ _ _⟩, ((Kp.refl _ w).drew).alloc _⟩
      intro j x hj
      rw [List.nil_append] at hj
      rw [Array.getElem?_append_left (by have := (List.getElem?_eq_some_iff.1 hj).1; simp; omega)]
      simp [hj]
    · have holds : ∀ j v, (ls.map (Value.int .i64))[j]? = some v → w.cell? ((⟨g, f', none⟩ : Addr).add j) = some v := fun j v hj => by
        rw [List.getElem?_map] at hj
        obtain ⟨x, hx, rfl⟩ := Option.map_eq_some_iff.1 hj
        rw [Addr.add_lit, cell_of hg]; exact hA' j x hx
      injection hfull with hf1 _ hf3
      subst hf3
      have hr := run_append_grow (P := P) (w := w) t ty e i _ ht hi hz ⟨g, f', none⟩ ls.length ls.length (ls.map (Value.int .i64)) (by rw [hsz]; simp) holds ⟨b, f, none⟩ lx.length c (lx.map (Value.int .i64)) (by rw [hsz]; simp) hnews (by omega) (by omega) (hsize _ h1 _ (by omega))
      refine ⟨_, _, hr, .inr ⟨w.heap.size, 0, grownCap w (ls.length + lx.length) ls.length e, _, by rw [List.length_append], blk_new w.drew _, ?_, by rw [List.length_append]; exact grownCap_ge _ _ _ _⟩, ((Kp.refl _ w).drew).alloc _⟩
      intro j x hj
      have hj' := (List.getElem?_eq_some_iff.1 hj).1
      rw [List.length_append] at hj'
      rw [Array.getElem?_append_left (by simp; omega), Nat.zero_add]
      have : ((ls.map (Value.int .i64)).toArray ++ (lx.map (Value.int .i64)).toArray) = ((ls ++ lx).map (Value.int .i64)).toArray := by simp
      rw [this, List.getElem?_toArray, List.getElem?_map, hj]; rfl
end
end Go.Proofs.Ytpfhjfijpmcnkaa
