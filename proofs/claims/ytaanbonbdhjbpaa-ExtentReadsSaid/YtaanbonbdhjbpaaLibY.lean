/- Slices that are read, wherever they lie: what came in, or what is known; appended to nil. No program in sight. -/
import Derived.Test.YtaanbonbdhjbpaaLibU
namespace Go.Proofs.Ytaanbonbdhjbpaa
open Go.RowKit

/-- v reads as l: nil, or n cells a piece, from some address on -/
def Sg {α : Type} (w : World) (f : α → List Value) (v : Value) (l : List α) : Prop :=
  (v = .slice none 0 0 ∧ l = []) ∨ ∃ y c, v = .slice (some y) l.length c ∧ l.length ≤ c ∧ (l ≠ [] → y.block < w.heap.size) ∧ ∀ j u, (l.flatMap f)[j]? = some u → w.cell? (y.add j) = some u
section
variable {α : Type} {f : α → List Value} {n : Nat} {w w' : World} {e : TypeId} {v x : Value} {l m : List α}
theorem Sg.nil (w : World) (f : α → List Value) : Sg w f (.slice none 0 0) [] := .inl ⟨rfl, rfl⟩
theorem Sg.form (h : Sg w f v l) : ∃ o c, v = .slice o l.length c ∧ l.length ≤ c := by
  rcases h with ⟨rfl, rfl⟩ | ⟨y, c, rfl, h, _⟩
  · exact ⟨none, 0, rfl, Nat.le_refl _⟩
  · exact ⟨_, c, rfl, h⟩
theorem Sg.lt (h : Sg w f v l) (hl : l ≠ []) : ∀ b, v.ownBlock = some b → b < w.heap.size := by
  intro b hb
  rcases h with ⟨rfl, _⟩ | ⟨y, c, rfl, _, h, _⟩
  · cases hb
  · injection hb with hb; subst hb; exact h hl
theorem Sg.kp {F : Nat → Prop} (h : Sg w f v l) (k : Kp F w w') (hF : l ≠ [] → ∀ b, v.ownBlock = some b → ¬ F b) : Sg w' f v l := by
  rcases h with h | ⟨y, c, rfl, h1, h2, h3⟩
  · exact .inl h
  · refine .inr ⟨y, c, rfl, h1, fun hl => Nat.lt_of_lt_of_le (h2 hl) k.size, fun j u hj => ?_⟩
    have hl : l ≠ [] := by rintro rfl; simp at hj
    have hb : (y.add j).block = y.block := by unfold Addr.add; split <;> rfl
    have := k.blk y.block (h2 hl) (hF hl _ rfl)
    rw [show w'.cell? (y.add j) = w.cell? (y.add j) from by simp [World.cell?, hb, this]]
    exact h3 j u hj
theorem Sg.kn (h : Sg w f v l) (k : Kp NoB w w') : Sg w' f v l := h.kp k (fun _ _ _ h => h)
theorem Sl.sg (h : Sl w e f v l) : Sg w f v l := by
  rcases h with h | ⟨b, o, c, A, h1, h2, h3, h4⟩
  · exact .inl h
  · exact .inr ⟨⟨b, o, none⟩, c, h1, h4, fun _ => blk_lt h2, fun j u hj => by rw [Addr.add_lit, cell_of h2]; exact h3 j u hj⟩
theorem RowAt.sg (hf : ∀ x, (f x).length = n) (hn : 0 < n) (h : RowAt w e f n v l) : Sg w f v l := (h.sl hf hn).sg
end
section
variable {P : Program} {α : Type} {f : α → List Value} {n : Nat} {w w' : World} {e : TypeId} {v x : Value} {l m : List α}
/-- append([]T(nil), x...) -/
theorem run_nil_sg (hf : ∀ x, (f x).length = n) (hn : 0 < n) {t ty : TypeId} {z : Value} {bytes : Nat} (ht : P.underlying t = some (.slice e)) (hinfo : (P.info? e).map (fun i => (i.zero, i.size, i.bytes)) = some (some z, n, bytes)) (hzs : z.cells.size = n)
    (hx : Sg w f x m) (h1 : ∀ u ∈ m.flatMap f, u.oneCell' = true) (h63 : m.length ≤ 4294967296) (hb : bytes ≤ 16384) :
    ∃ v' w', (Builtin.append_ #[t, t] ty #[.slice none 0 0, x]).run P w = .ok v' w' ∧ RowAt w' e f n v' m ∧ Kp NoB w w' ∧ ∀ b, v'.ownBlock = some b → w.heap.size ≤ b := by
  rcases Nat.eq_zero_or_pos m.length with h0 | h0
  · obtain rfl := List.eq_nil_of_length_eq_zero h0
    obtain ⟨i, hi, hzz⟩ := Option.map_eq_some_iff.1 hinfo
    obtain ⟨ox, cx, rfl, _⟩ := hx.form
    have := run_append_zero' (P := P) w t ty e i ht hi none 0 0 (Nat.le_refl _) ox cx
    exact ⟨_, w, this, RowAt.nil _ _ _ _, Kp.refl _ _, by simp [Value.ownBlock]⟩
  · rcases hx with ⟨_, h⟩ | ⟨y, c, rfl, hc, _, hA⟩
    · rw [h] at h0; simp at h0
    obtain ⟨i, hi, hzz⟩ := Option.map_eq_some_iff.1 hinfo
    simp only [Prod.mk.injEq] at hzz
    obtain ⟨hz, hsz, hby⟩ := hzz
    obtain ⟨v', w', hr, q1, q2, q3⟩ := run_grow (P := P) hf hn t ty e i z bytes ht hi hz hsz hby hzs _ [] (RowAt.nil w e f n) y m c hA h1 (by simpa using h63) hb
    refine ⟨v', w', hr, by simpa using q1, kp_grown q2 (by simp [Value.ownBlock]), fun b' hb' => ?_⟩
    rcases q3 with o | ⟨b2, o, h2⟩
    · rw [o] at hb'; cases hb'
    · rw [hb'] at o; injection o with o; subst o; exact h2
end
end Go.Proofs.Ytaanbonbdhjbpaa
