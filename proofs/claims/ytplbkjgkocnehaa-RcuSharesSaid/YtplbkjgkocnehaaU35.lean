/- Rows of handles that are written in place. -/
import Derived.Test.YtplbkjgkocnehaaU25
import Derived.Test.YtplbkjgkocnehaaU34
namespace Go.Proofs.Ytplbkjgkocnehaa
set_option linter.unusedSimpArgs false
set_option linter.unusedVariables false
open Go.RowKit Go.Shelf Go.ChangeShapes Go.WideShapes Go.Deep
attribute [local go_sem ↓] Go.wp_at_zero Go.wp_at_succ
theorem row_id {w : World} {b c k : Nat} {l : List (Int × Int)} (h : RowAt w 59 eH 2 (.slice (some ⟨b, 0, none⟩) l.length c) l) {i g : Int} (hk : l[k]? = some (i, g)) (i' : Int) :
    RowAt (w.setCell ⟨b, k * 2, none⟩ (.int .i64 i')) 59 eH 2 (.slice (some ⟨b, 0, none⟩) l.length c) (l.set k (i', g)) ∧ w.cell? ⟨b, k * 2, none⟩ = some (.int .i64 i) ∧ w.frozen? ⟨b, k * 2, none⟩ = false ∧ b < w.heap.size := by
  have hkl := (List.getElem?_eq_some_iff.1 hk).1
  obtain ⟨b', c', A, hv, hb, hP, hc, hm, hs⟩ := h.pos eH_len (by omega)
  injection hv with h1 _ h3
  injection h1 with h1
  injection h1 with h1
  subst h1; subst h3
  refine ⟨?_, by rw [cell_of hb]; exact hP k 0 _ hk (by omega), frozen_of hb _, blk_lt hb⟩
  have hb' := blk_setCell hb (k * 2) (.int .i64 i')
  have := RowAt.own eH_len (l := l.set k (i', g)) (c := c) hb' ?_ (by rw [List.length_set]; exact hc) hm (by rw [Array.size_setIfInBounds]; exact hs)
  · rw [List.length_set] at this; exact this
  · intro k' j y hy hj
    by_cases e : k' = k
    · subst e
      rw [List.getElem?_set_self hkl] at hy
      injection hy with hy
      subst hy
      match j, hj with
      | 0, _ =>
        rw [Nat.add_zero, Array.getElem?_setIfInBounds_self, if_pos (by rw [hs]; omega)]; rfl
      | 1, _ =>
        rw [Array.getElem?_setIfInBounds_ne (by omega), hP k' 1 _ hk (by omega)]
        rfl
    · rw [List.getElem?_set_ne (Ne.symm e)] at hy
      rw [Array.getElem?_setIfInBounds_ne (by omega)]
      exact hP k' j y hy hj
/-- what All told, while its rows are written -/
structure SH (wB W : World) (xa : Value) (L : List XV) : Prop where
  k : Kp NoB wB W
  r : RowAt W 35 eX 3 xa L
  x : ∀ h ∈ L, (∃ l, RowAt W 59 eH 2 h.a l) ∧ (∃ l, RowAt W 59 eH 2 h.c l)
  s : ∀ h ∈ L, ∀ b, h.a.ownBlock = some b → h.c.ownBlock ≠ some b
  n : ∀ h ∈ L, ∀ b, h.fp b → wB.heap.size ≤ b
  o : L.length ≤ 1
theorem one_eq {α : Type} {L : List α} (h : L.length ≤ 1) {a b : α} (ha : a ∈ L) (hb : b ∈ L) : a = b := by
  match L, h, ha, hb with
  | [c], _, ha, hb =>
    simp at ha hb
    rw [ha, hb]
section
variable {wB W : World} {xa : Value} {L : List XV}
theorem Told.sh {v : Value} {X : List Ret} (h : Told wB W v L X) (k : Kp NoB wB W) (hX : X.length ≤ 1) : SH wB W v L := by
  refine ⟨k, h.r, fun x hx => ?_, h.s, h.n, by rw [h.l]; exact hX⟩
  obtain ⟨i, hi⟩ := List.mem_iff_getElem?.1 hx
  obtain ⟨y, hy⟩ : ∃ y, X[i]? = some y := ⟨_, List.getElem?_eq_getElem (by rw [← h.l]; exact (List.getElem?_eq_some_iff.1 hi).1)⟩
  have := h.x i x y hi hy
  exact ⟨⟨_, this.a⟩, ⟨_, this.c⟩⟩
theorem SH.setA (s : SH wB W xa L) {h : XV} (hL : h ∈ L) {oa : Option Addr} {n ca k : Nat} (ha : h.a = .slice oa n ca) (hk : k < n) : ∃ b i, oa = some ⟨b, 0, none⟩ ∧ n ≤ ca ∧ W.cell? ⟨b, k * 2, none⟩ = some (.int .i64 i) ∧ W.frozen? ⟨b, k * 2, none⟩ = false ∧ b < W.heap.size ∧
    ∀ y, SH wB (W.setCell ⟨b, k * 2, none⟩ (.int .i64 y)) xa L := by
  obtain ⟨⟨l, hl⟩, ⟨l2, hl2⟩⟩ := s.x h hL
  obtain ⟨o', c', e, _⟩ := hl.form
  have hln : l.length = n := by rw [ha] at e; injection e with _ e _; exact e.symm
  obtain ⟨b, c, A, hv, hb, hP, hc, _⟩ := hl.pos eH_len (by omega)
  rw [hv, hln] at ha
  injection ha with ha1 _ ha3
  subst ha1; subst ha3
  obtain ⟨⟨i, g⟩, hz⟩ : ∃ z, l[k]? = some z := ⟨_, List.getElem?_eq_getElem (by omega)⟩
  have hl' := hl
  rw [hv] at hl'
  have hob : h.a.ownBlock = some b := by rw [hv]; rfl
  obtain ⟨_, hc1, hf1, hb1⟩ := row_id hl' hz 0
  refine ⟨b, i, rfl, by omega, hc1, hf1, hb1, fun y => ?_⟩
  have KS : Kp (fun x => x = b) W (W.setCell ⟨b, k * 2, none⟩ (.int .i64 y)) := (Kp.refl (fun x => x = b) W).setCell (p := ⟨b, k * 2, none⟩) _ (fun _ => rfl)
  refine ⟨s.k.trans' KS (fun x hx e => by have := s.n h hL b (.inl hob); omega), s.r.setCell _ _ (s.r.ne hb (by decide)), fun h2 hm2 => ?_, s.s, s.n, s.o⟩
  rw [one_eq s.o hm2 hL]
  exact ⟨⟨l.set k (y, g), by rw [hv]; exact (row_id hl' hz y).1⟩, ⟨l2, hl2.setCell _ _ (s.s h hL b hob)⟩⟩
theorem SH.setC (s : SH wB W xa L) {h : XV} (hL : h ∈ L) {oa : Option Addr} {n ca k : Nat} (ha : h.c = .slice oa n ca) (hk : k < n) : ∃ b i, oa = some ⟨b, 0, none⟩ ∧ n ≤ ca ∧ W.cell? ⟨b, k * 2 + 1, none⟩ = some (.int .u64 i) ∧ W.frozen? ⟨b, k * 2 + 1, none⟩ = false ∧ b < W.heap.size ∧
    ∀ y, SH wB (W.setCell ⟨b, k * 2 + 1, none⟩ (.int .u64 y)) xa L := by
  obtain ⟨⟨l2, hl2⟩, ⟨l, hl⟩⟩ := s.x h hL
  obtain ⟨o', c', e, _⟩ := hl.form
  have hln : l.length = n := by rw [ha] at e; injection e with _ e _; exact e.symm
  obtain ⟨b, c, A, hv, hb, hP, hc, _⟩ := hl.pos eH_len (by omega)
  rw [hv, hln] at ha
  injection ha with ha1 _ ha3
  subst ha1; subst ha3
  obtain ⟨⟨i, g⟩, hz⟩ : ∃ z, l[k]? = some z := ⟨_, List.getElem?_eq_getElem (by omega)⟩
  have hl' := hl
  rw [hv] at hl'
  have hob : h.c.ownBlock = some b := by rw [hv]; rfl
  obtain ⟨_, hc1, hf1, hb1⟩ := row_gen hl' hz 0
  refine ⟨b, g, rfl, by omega, hc1, hf1, hb1, fun y => ?_⟩
  have KS : Kp (fun x => x = b) W (W.setCell ⟨b, k * 2 + 1, none⟩ (.int .u64 y)) := (Kp.refl (fun x => x = b) W).setCell (p := ⟨b, k * 2 + 1, none⟩) _ (fun _ => rfl)
  refine ⟨s.k.trans' KS (fun x hx e => by have := s.n h hL b (.inr (.inr hob)); omega), s.r.setCell _ _ (s.r.ne hb (by decide)), fun h2 hm2 => ?_, s.s, s.n, s.o⟩
  rw [one_eq s.o hm2 hL]
  exact ⟨⟨l2, hl2.setCell _ _ (fun e => s.s h hL b e hob)⟩, ⟨l.set k (i, y), by rw [hv]; exact (row_gen hl' hz y).1⟩⟩
theorem SH.cells (s : SH wB W xa L) {k : Nat} {h : XV} (hk : L[k]? = some h) : ∃ b c, xa = .slice (some ⟨b, 0, none⟩) L.length c ∧ L.length ≤ c ∧ W.cell? ⟨b, k * 3, none⟩ = some h.a ∧ W.cell? ⟨b, k * 3 + 1, none⟩ = some h.b ∧ W.cell? ⟨b, k * 3 + 2, none⟩ = some h.c := by
  obtain ⟨b, c, A, hv, hb, hA, hc, _⟩ := s.r.pos eX_len (by have := (List.getElem?_eq_some_iff.1 hk).1; omega)
  refine ⟨b, c, hv, hc, ?_, ?_, ?_⟩
  · rw [cell_of hb]; exact hA k 0 _ hk (by omega)
  · rw [cell_of hb]; exact hA k 1 _ hk (by omega)
  · rw [cell_of hb]; exact hA k 2 _ hk (by omega)
end
set_option maxRecDepth 100000 in
theorem retv_of {H : Type} {enc : TypeId × Value → H} {w : World} {base : Nat} {spare : Nat → Bool} {held : Bool} {r : Reach} {b0 : Nat} {v : Value} {d : DataW H} {p : List MemPlace} (hv : Value.okWide Try.prog w r b0 35 v) (h : DataW.Trod enc Try.prog w base spare held 35 v d p) (hw : Wt Try.prog 35 d) :
    ∃ z : Ac, v = .agg #[z.a, z.b, z.c] ∧ SlR w z.a z.b z.c z.x ∧ z.x.sized := by
  obtain ⟨cs, rfl, hsz⟩ := okWide_struct Try.underlying35 hv
  obtain ⟨fuel, hf⟩ := h
  obtain ⟨a, b, c, rr, e, h1, h2⟩ := ret_of (x := (d, p)) hf hw
  obtain ⟨l⟩ := cs
  have e' : l = [a, b, c] := e
  subst e'
  exact ⟨⟨0, 0, a, b, c, rr⟩, rfl, h1, h2⟩
theorem fresh_rel (x : Ret) : relR [0] (qretS [0] [0] [] x) = if x.none then [] else [(x, [])] := by
  unfold qretS
  split
  · rfl
  · show [(x, waitsOf [0] (qout [0] [0]))] = _
    rw [qout_waits]; rfl
end Go.Proofs.Ytplbkjgkocnehaa
