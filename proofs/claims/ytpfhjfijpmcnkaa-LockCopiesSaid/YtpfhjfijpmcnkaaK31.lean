/- Walks: a copy goes on apart. -/
import Derived.Test.YtpfhjfijpmcnkaaK30
namespace Go.Proofs.Ytpfhjfijpmcnkaa
set_option linter.unusedSimpArgs false
set_option linter.unusedVariables false
open Go.RowKit
attribute [local go_sem ↓] Go.wp_at_zero Go.wp_at_succ
def eA (z : A3) : List Value := [.int .i64 z.k, .int .i64 z.t, .int .i64 z.i]
theorem eA_len (z : A3) : (eA z).length = 3 := rfl
theorem sl22 : Try.prog.underlying 22 = some (.slice 39) := by kernel_rfl
theorem i39 : (Try.prog.info? 39).map (fun i => (i.zero, i.size, i.bytes)) = some (some (.agg #[.int .i64 0, .int .i64 0, .int .i64 0]), 3, 24) := by kernel_rfl
theorem oneA (l : List A3) : ∀ u ∈ l.flatMap eA, u.oneCell' = true := by
  intro u hu; simp [eA] at hu; obtain ⟨x, _, rfl | rfl | rfl⟩ := hu <;> rfl
section
variable {w0 w w' : World} {p m n p1 m1 p2 m2 q q1 q2 B : Nat} {M M1 M2 : List (Int × Value)} {v v1 v2 : Value} {L L1 L2 : List (Int × Int)} {x : Option Addr} {len : Nat} {A l : List A3}
theorem ActsAt.news (h : ActsAt w B x len A) {y : Addr} (hx : x = some y) (j : Nat) (u : Value) (hj : (A.flatMap eA)[j]? = some u) : w.cell? (y.add j) = some u := by
  have hlt := (List.getElem?_eq_some_iff.1 hj).1
  rw [rows_len eA_len] at hlt
  have hk : j / 3 < A.length := by omega
  have e : j / 3 * 3 + j % 3 = j := by omega
  have hz : A[j / 3]? = some A[j / 3] := List.getElem?_eq_getElem hk
  have h2 := flat_get eA_len A (j / 3) (j % 3) _ hz (by omega)
  rw [e, hj] at h2
  obtain ⟨y', hx', _, c0, c1, c2⟩ := h.at_ _ _ hz
  rw [hx] at hx'; injection hx' with hx'; subst hx'
  generalize A[j / 3] = z at *
  rcases (by omega : j % 3 = 0 ∨ j % 3 = 1 ∨ j % 3 = 2) with hr | hr | hr
  · rw [hr] at h2 e; rw [← e, Nat.add_zero, c0]; simpa [eA] using h2.symm
  · rw [hr] at h2 e; rw [← e, add_at y (j / 3 * 3) 0, c1]; simpa [eA] using h2.symm
  · rw [hr] at h2 e; rw [← e, add_at y (j / 3 * 3) 1, c2]; simpa [eA] using h2.symm
theorem run_grow_acts {t ty : TypeId} (ht : Try.prog.underlying t = some (.slice 39)) (hv : RowAt w 39 eA 3 v l) (h : ActsAt w B x len A) (cap : Nat) (h1 : l.length + A.length ≤ 100000) :
    ∃ v' w', (Builtin.append_ #[t, t] ty #[v, .slice x len cap]).run Try.prog w = .ok v' w' ∧ RowAt w' 39 eA 3 v' (l ++ A) ∧ w.grownBy w' v.ownBlock ∧ (v'.ownBlock = v.ownBlock ∨ ∃ b, v'.ownBlock = some b ∧ w.heap.size ≤ b) := by
  obtain ⟨i, hi, hzz⟩ := Option.map_eq_some_iff.1 i39
  simp only [Prod.mk.injEq] at hzz
  obtain ⟨hz, hsz, hby⟩ := hzz
  have hln := h.ln
  rcases Nat.eq_zero_or_pos len with h0 | h0
  · subst h0
    obtain rfl := List.eq_nil_of_length_eq_zero hln
    obtain ⟨o, c, rfl, hc, _⟩ := hv.form
    have := run_append_zero (P := Try.prog) w t ty 39 i ht hi o l.length c hc x cap
    exact ⟨_, w, this, by simpa using hv, ⟨rfl, rfl, rfl, Nat.le_refl _, fun _ _ _ => rfl⟩, .inl rfl⟩
  · obtain ⟨y, hx, _⟩ := h.at_ 0 A[0] (List.getElem?_eq_getElem (by omega))
    subst hx
    subst hln
    exact run_grow (P := Try.prog) eA_len (by omega) t ty 39 i _ 24 ht hi hz hsz hby rfl v l hv y A cap (h.news rfl) (oneA _) (by omega) (by omega)
theorem row_acts (h : RowAt w 39 eA 3 v A) (hw : ∀ z ∈ A, (Lit.int .i64 z.i).wf = true) (hl : A.length ≤ 100000) : ∃ x c, v = .slice x A.length c ∧ ActsAt w w.heap.size x A.length A := by
  by_cases h0 : A = []
  · subst h0
    obtain ⟨o, c, hv, _⟩ := h.form
    exact ⟨o, c, hv, rfl, by simp, by simp, by simp⟩
  · obtain ⟨b, c, B, hv, hb, hB, _⟩ := h.pos eA_len (List.length_pos_iff.2 h0)
    refine ⟨_, c, hv, rfl, by omega, hw, fun i z hz => ⟨_, rfl, blk_lt hb, ?_, ?_, ?_⟩⟩
    · rw [add0, cell_of hb]; exact hB i 0 z hz (by omega)
    · rw [add0, cell_of hb]; exact hB i 1 z hz (by omega)
    · rw [add0, cell_of hb]; exact hB i 2 z hz (by omega)
/-- all three laid behind each other -/
theorem all_acts {x1 x2 x3 : Option Addr} {l1 l2 l3 B1 B2 B3 : Nat} {A1 A2 A3' : List A3} (c1 c2 c3 : Nat) (h1 : ActsAt w B1 x1 l1 A1) (h2 : ActsAt w B2 x2 l2 A2) (h3 : ActsAt w B3 x3 l3 A3') (b1 : B1 ≤ w.heap.size) (b2 : B2 ≤ w.heap.size) (b3 : B3 ≤ w.heap.size) (hl : l1 + l2 + l3 ≤ 100000) :
    ∃ va wa vb wb vc wc, (Builtin.append_ #[22, 22] 22 #[.slice none 0 0, .slice x1 l1 c1]).run Try.prog w = .ok va wa ∧ (Builtin.append_ #[22, 22] 22 #[va, .slice x2 l2 c2]).run Try.prog wa = .ok vb wb ∧
      (Builtin.append_ #[22, 22] 22 #[vb, .slice x3 l3 c3]).run Try.prog wb = .ok vc wc ∧ (∃ x len c A, vc = .slice x len c ∧ ActsAt wc wc.heap.size x len A) ∧ Kp NoB w wc := by
  have e1 := h1.ln
  have e2 := h2.ln
  have e3 := h3.ln
  obtain ⟨va, wa, r1, a1, g1, o1⟩ := run_grow_acts (t := 22) (ty := 22) sl22 (RowAt.nil w 39 eA 3) h1 c1 (by simp; omega)
  have ka : Kp NoB w wa := kp_grown g1 (by simp [Value.ownBlock])
  have oa : ∀ b, va.ownBlock = some b → w.heap.size ≤ b := fun b hb => by
    rcases o1 with o | ⟨b2, o, h2⟩
    · rw [o] at hb; cases hb
    · rw [hb] at o; injection o with o; subst o; exact h2
  obtain ⟨vb, wb, r2, a2, g2, o2⟩ := run_grow_acts (t := 22) (ty := 22) sl22 a1 (h2.kp ka b2 (fun _ h => h.elim)) c2 (by simp; omega)
  have kb : Kp NoB w wb := ka.trans' (kp_grown (F := fun b => va.ownBlock = some b) g2 (fun b hb => hb)) (fun b hb hg => absurd (oa b hg) (by omega))
  have ob : ∀ b, vb.ownBlock = some b → w.heap.size ≤ b := fun b hb => by
    rcases o2 with o | ⟨b2, o, h2⟩
    · exact oa b (o ▸ hb)
    · rw [hb] at o; injection o with o; subst o; exact Nat.le_trans ka.size h2
  obtain ⟨vc, wc, r3, a3, g3, o3⟩ := run_grow_acts (t := 22) (ty := 22) sl22 a2 (h3.kp kb b3 (fun _ h => h.elim)) c3 (by simp; omega)
  have kc : Kp NoB w wc := kb.trans' (kp_grown (F := fun b => vb.ownBlock = some b) g3 (fun b hb => hb)) (fun b hb hg => absurd (ob b hg) (by omega))
  obtain ⟨x, c, hv, hA⟩ := row_acts a3 (fun z hz => by
    simp only [List.nil_append, List.mem_append] at hz
    rcases hz with (hz | hz) | hz
    · exact h1.wf z hz
    · exact h2.wf z hz
    · exact h3.wf z hz) (by simp; omega)
  exact ⟨va, wa, vb, wb, vc, wc, r1, r2, r3, ⟨x, _, c, _, hv, hA⟩, kc⟩
/-- two that go on apart -/
def Two (w0 w : World) (p q p2 q2 n : Nat) (L L2 : List (Int × Int)) : Prop := ∃ m M v m2 M2 v2, JAt w p m q n M v L ∧ JAt w p2 m2 q2 n M2 v2 L2 ∧ m ≠ m2 ∧ q ≠ q2 ∧ w0.heap.size ≤ m ∧ w0.heap.size ≤ q ∧ w0.heap.size ≤ m2 ∧ w0.heap.size ≤ q2 ∧ Kp NoB w0 w
theorem Two.symm (h : Two w0 w p q p2 q2 n L L2) : Two w0 w p2 q2 p q n L2 L := by
  obtain ⟨m, M, v, m2, M2, v2, h1, h2, h3, h4, h5, h6, h7, h8, h9⟩ := h
  exact ⟨m2, M2, v2, m, M, v, h2, h1, Ne.symm h3, Ne.symm h4, h7, h8, h5, h6, h9⟩
theorem Two.kn (h : Two w0 w p q p2 q2 n L L2) (k : Kp NoB w w') : Two w0 w' p q p2 q2 n L L2 := by
  obtain ⟨m, M, v, m2, M2, v2, h1, h2, h3, h4, h5, h6, h7, h8, h9⟩ := h
  exact ⟨m, M, v, m2, M2, v2, h1.kn k, h2.kn k, h3, h4, h5, h6, h7, h8, h9.trans k⟩
theorem Two.k (h : Two w0 w p q p2 q2 n L L2) : Kp NoB w0 w := by
  obtain ⟨m, M, v, m2, M2, v2, h1, h2, h3, h4, h5, h6, h7, h8, h9⟩ := h
  exact h9
theorem JAt.apart (h : JAt w p m q n M v L) {Bq : Array Value} {es : Array MapEntry} {c : Nat} (hm : w.heap[m2]? = some (.map es c)) (hq : w.heap[q2]? = some (.cells Bq 63 (0, 0))) (n1 : m ≠ m2) (n2 : q ≠ q2) (k : Kp (fun b => b = m2 ∨ b = q2) w w') : JAt w' p m q n M v L := by
  have cells : ∀ {b : Nat} {A : Array Value} {t : TypeId}, w.heap[b]? = some (.cells A t (0, 0)) → (t ≠ 63 ∨ b ≠ q2) → ¬ (b = m2 ∨ b = q2) := by
    rintro b A t hb hne (rfl | rfl)
    · rw [hm] at hb; cases hb
    · rcases hne with hne | hne
      · rw [hq] at hb; injection hb with hb; injection hb with _ h3 _; exact hne h3.symm
      · exact hne rfl
  refine ⟨⟨k.get h.c.hp (cells h.c.hp (.inl (by decide))), h.c.hm.kp k ?_, h.c.k, fun id => (h.c.rows id).kp k ?_, h.c.ne⟩, ⟨k.get h.r.hq (cells h.r.hq (.inr n2)), h.r.hv.kp k ?_⟩, h.o⟩
  · rintro (e | e)
    · exact n1 e
    · obtain ⟨es', c', h1, _⟩ := h.c.hm
      subst e; rw [hq] at h1; cases h1
  · intro b A hF hb
    exact cells hb (.inl (by decide)) hF
  · intro b hb hF
    rcases h.r.hv.2 with ⟨h2, _⟩ | ⟨g, cap, cur, h2, _, hg, _⟩
    · rw [h2] at hb; cases hb
    · rw [h2] at hb; injection hb with hb; subst hb
      exact cells hg (.inl (by decide)) hF
theorem two_do (h : Two w0 w p q p2 q2 n L L2) (l1 : L.length ≤ 3999) {k t id : Int} (hw : (Lit.int .i64 id).wf = true) :
    Calls Try.prog 18 #[.pointer (some ⟨p, 0, none⟩), .pointer (some ⟨q, 0, none⟩), .agg #[.int .i64 k, .int .i64 t, .int .i64 id]] w fun e w' => e = .returned (.bool true) ∧ Two w0 w' p q p2 q2 n (doL n L k t id) L2 := by
  obtain ⟨m, M, v, m2, M2, v2, h1, h2, h3, h4, h5, h6, h7, h8, h9⟩ := h
  refine (do_any h1 l1 hw).mono ?_
  rintro e w1 ⟨rfl, M', v', h', k'⟩
  obtain ⟨es, c, hm, _⟩ := h1.c.hm
  exact ⟨rfl, m, M', v', m2, M2, v2, h', h2.apart hm h1.r.hq (Ne.symm h3) (Ne.symm h4) k', h3, h4, h5, h6, h7, h8, h9.trans' k' (fun b hb e => by omega)⟩
theorem two_same (h : Two w0 w p q p2 q2 n L L2) (l1 : L.length ≤ 3999) {x : Option Addr} {len cap B : Nat} {A : List A3} (hL : ActsAt w B x len A) (hB : B ≤ w.heap.size) :
    Calls Try.prog 19 #[.pointer (some ⟨p, 0, none⟩), .pointer (some ⟨q, 0, none⟩), .slice x len cap] w fun e w' => e = .returned (.bool true) ∧ Kp NoB w w' := by
  obtain ⟨m, M, v, m2, M2, v2, h1, h2, h3, h4, h5, h6, h7, h8, h9⟩ := h
  exact same_any h1 l1 hL hB
theorem two_csame (h : Two w0 w p q p2 q2 n L L2) (l1 : L.length ≤ 3999) (l2 : L2.length ≤ 3999) :
    Calls Try.prog 24 #[.pointer (some ⟨p, 0, none⟩), .pointer (some ⟨p2, 0, none⟩)] w fun e w' => e = .returned (.bool (sameB L L2)) ∧ Kp NoB w w' := by
  obtain ⟨m, M, v, m2, M2, v2, h1, h2, h3, h4, h5, h6, h7, h8, h9⟩ := h
  exact csame_any h1.c h2.c h1.o.n1 (by omega) (by omega)
theorem two_rsame (h : Two w0 w p q p2 q2 n L L2) (l1 : L.length ≤ 3999) (l2 : L2.length ≤ 3999) :
    Calls Try.prog 25 #[.pointer (some ⟨q, 0, none⟩), .pointer (some ⟨q2, 0, none⟩)] w fun e w' => e = .returned (.bool (sameB L L2)) ∧ Kp NoB w w' := by
  obtain ⟨m, M, v, m2, M2, v2, h1, h2, h3, h4, h5, h6, h7, h8, h9⟩ := h
  exact rsame_any h1.r h2.r (by omega) (by omega)
end
end Go.Proofs.Ytpfhjfijpmcnkaa
