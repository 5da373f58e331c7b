/- Walks: nobody has a lock beside another one. -/
import Derived.Test.YtpfhjfijpmcnkaaK14
namespace Go.Proofs.Ytpfhjfijpmcnkaa
set_option linter.unusedSimpArgs false
set_option linter.unusedVariables false
open Go.RowKit
attribute [local go_sem ↓] Go.wp_at_zero Go.wp_at_succ
section
variable {w0 w w' : World} {p m q n : Nat} {M : List (Int × Value)} {v : Value} {L : List (Int × Int)} {l : List Int}
theorem run_nil_rs {P : Program} {e : TypeId} {t ty : TypeId} (ht : P.underlying t = some (.slice e)) (hinfo : (P.info? e).map (fun i => (i.zero, i.size, i.bytes)) = some (some (.int .i64 0), 1, 8))
    {x : Value} {lx : List Int} (hx : Rs e w x lx) (h1 : lx.length ≤ 1000000) :
    ∃ v' w', (Builtin.append_ #[t, t] ty #[.slice none 0 0, x]).run P w = .ok v' w' ∧ RowAt w' e eI 1 v' lx ∧ Kp NoB w w' ∧ ∀ b, v'.ownBlock = some b → w.heap.size ≤ b := by
  obtain ⟨i, hi, hzz⟩ := Option.map_eq_some_iff.1 hinfo
  simp only [Prod.mk.injEq] at hzz
  obtain ⟨hz, hsz, hby⟩ := hzz
  rcases Nat.eq_zero_or_pos lx.length with h0 | h0
  · obtain rfl := List.eq_nil_of_length_eq_zero h0
    obtain ⟨ox, cx, rfl, _⟩ := hx.form
    have := run_append_zero (P := P) w t ty e i ht hi none 0 0 (Nat.le_refl _) ox cx
    exact ⟨_, w, this, RowAt.nil _ _ _ _, Kp.refl _ _, by simp [Value.ownBlock]⟩
  · rcases hx with ⟨_, h⟩ | ⟨b, f, c, A, rfl, hb, hA, hc⟩
    · rw [h] at h0; simp at h0
    have hnews : ∀ j v, (lx.flatMap eI)[j]? = some v → w.cell? ((⟨b, f, none⟩ : Addr).add j) = some v := fun j v hj => by
      have : lx.flatMap eI = lx.map (Value.int .i64) := by
        clear h0 h1 hA hc hj
        induction lx with
        | nil => rfl
        | cons a r ih => rw [List.flatMap_cons, ih]; rfl
      rw [this, List.getElem?_map] at hj
      obtain ⟨x, hx, rfl⟩ := Option.map_eq_some_iff.1 hj
      rw [Addr.add_lit, cell_of hb]; exact hA j x hx
    obtain ⟨v', w', hr, q1, q2, q3⟩ := run_grow (P := P) eI_len (by omega) t ty e i _ 8 ht hi hz hsz hby rfl (.slice none 0 0) [] (RowAt.nil w e eI 1) ⟨b, f, none⟩ lx c hnews (one3 _) (by simp; omega) (by omega)
    refine ⟨v', w', hr, by simpa using q1, kp_grown q2 (by simp [Value.ownBlock]), fun b' hb' => ?_⟩
    rcases q3 with o | ⟨b2, o, h2⟩
    · rw [o] at hb'; cases hb'
    · rw [hb'] at o; injection o with o; subst o; exact h2
theorem Rs.mp' {e : TypeId} (h : Rs e w v l) {M : List (Int × Value)} (hm : MapAt .i64 w m M) (k : Kp (· = m) w w') : Rs e w' v l := by
  obtain ⟨es, c, h1, _⟩ := hm
  exact h.mp h1 k
theorem try_new2 (h : LNew w0 w p n L) {t id : Int} (hw : (Lit.int .i64 id).wf = true) (n2 : L.length ≤ 4000) :
    Calls Try.prog 13 #[.pointer (some ⟨p, 0, none⟩), .int .i64 t, .int .i64 id] w fun e w' => e = .returned (.bool (tryB n L t id)) ∧ LNew w0 w' p n (tryL n L t id) ∧ Hid (∀ v l, Rs 3 w v l → Rs 3 w' v l) := by
  obtain ⟨m, M, h1, h2, h3, h4⟩ := h
  refine (try_any h1 h2 hw n2).mono ?_
  rintro e w1 ⟨rfl, M', q, k⟩
  exact ⟨rfl, ⟨m, M', q, h2.try_ t id, h3, h4.trans' k (fun b hb e => by omega)⟩, hid (fun v l hv => hv.mp' h1.hm k)⟩
theorem has_new (h : LNew w0 w p n L) {t id : Int} (hw : (Lit.int .i64 id).wf = true) :
    Calls Try.prog 15 #[.pointer (some ⟨p, 0, none⟩), .int .i64 t, .int .i64 id] w fun e w' => e = .returned (.bool (hasB L t id)) ∧ w = w' := by
  obtain ⟨m, M, h1, h2, h3, h4⟩ := h
  exact has_any h1 h2.n1 hw
end
end Go.Proofs.Ytpfhjfijpmcnkaa
