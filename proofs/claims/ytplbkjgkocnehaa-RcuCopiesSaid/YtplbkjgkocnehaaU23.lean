/- Acts that came in. -/
import Derived.Test.YtplbkjgkocnehaaU22
import Derived.Test.YtplbkjgkocnehaaLibZ
namespace Go.Proofs.Ytplbkjgkocnehaa
set_option linter.unusedSimpArgs false
set_option linter.unusedVariables false
open Go.RowKit Go.ChangeShapes Go.WideShapes Go.Deep
structure Ac where
  k : Int
  t : Int
  a : Value
  b : Value
  c : Value
  x : Ret
instance : Inhabited Ac := ⟨⟨0, 0, .slice none 0 0, .slice none 0 0, .slice none 0 0, ⟨[], [], []⟩⟩⟩
/-- no longer than the form reaches -/
def Ret.sized (x : Ret) : Prop := x.a.length ≤ 8796093022208 ∧ x.b.length ≤ 8796093022208 ∧ x.c.length ≤ 8796093022208
/-- a row of acts that came in: below B -/
structure ActsAt (w : World) (B : Nat) (xo : Option Addr) (len : Nat) (L : List Ac) : Prop where
  ln : L.length = len
  mx : len ≤ 9223372036854775807
  sl : ∀ z ∈ L, SlR w z.a z.b z.c z.x
  sz : ∀ z ∈ L, z.x.sized
  bl : ∀ z ∈ L, ∀ s, rdR z.a z.b z.c z.x s → s < B
  at_ : ∀ i z, L[i]? = some z → ∃ y : Addr, xo = some y ∧ y.block < B ∧ w.cell? (y.add (i * 5)) = some (.int .i64 z.k) ∧ w.cell? ⟨(y.add (i * 5)).block, (y.add (i * 5)).off + 1, none⟩ = some (.int .i64 z.t) ∧ w.cell? ⟨(y.add (i * 5)).block, (y.add (i * 5)).off + 2, none⟩ = some z.a ∧ w.cell? ⟨(y.add (i * 5)).block, (y.add (i * 5)).off + 3, none⟩ = some z.b ∧ w.cell? ⟨(y.add (i * 5)).block, (y.add (i * 5)).off + 4, none⟩ = some z.c
theorem ActsAt.kp {w w' : World} {B : Nat} {x : Option Addr} {len : Nat} {L : List Ac} {F : Nat → Prop} (h : ActsAt w B x len L) (k : Kp F w w') (hB : B ≤ w.heap.size) (hF : ∀ q, F q → B ≤ q) : ActsAt w' B x len L := by
  refine ⟨h.ln, h.mx, fun z hz => (h.sl z hz).kp k (fun s hs hf => by have := hF s hf; have := h.bl z hz s hs; omega), h.sz, h.bl, fun i z hz => ?_⟩
  obtain ⟨y, hx, hy, h0, h1, h2, h3, h4⟩ := h.at_ i z hz
  have hb : ∀ q : Addr, q.block = (y.add (i * 5)).block → w'.cell? q = w.cell? q := fun q hq => by
    rw [add_blk] at hq
    exact cell_blk (k.blk _ (by omega) (fun f => by have := hF _ f; omega))
  exact ⟨y, hx, hy, (hb _ rfl).trans h0, (hb ⟨_, _, none⟩ rfl).trans h1, (hb ⟨_, _, none⟩ rfl).trans h2, (hb ⟨_, _, none⟩ rfl).trans h3, (hb ⟨_, _, none⟩ rfl).trans h4⟩
section
variable {H : Type} {enc : TypeId × Value → H} {w : World} {base : Nat} {spare : Nat → Bool} {held : Bool}
theorem b59 : Try.prog.bytesOf 59 = 16 := by kernel_rfl
set_option maxRecDepth 100000 in
theorem handles_of {fuel : Nat} {v : Value} {x : DataW H × List MemPlace} (h : DataW.trod enc Try.prog w base spare held fuel 33 [v] = some x) (hw : Wt Try.prog 33 x.1) : ∃ l : List (Int × Int), Sg w eH v l ∧ l.length ≤ 8796093022208 := by
  have c59 : Try.prog.cellsOf 59 = 2 := by kernel_rfl
  have c3 : Try.prog.cellsOf 3 = 1 := by kernel_rfl
  have c57 : Try.prog.cellsOf 57 = 1 := by kernel_rfl
  rcases slice_sized u33 h hw with rfl | ⟨y, l, c, rfl, hl, hm, hby, hi⟩
  · exact ⟨[], .inl ⟨rfl, rfl⟩, Nat.zero_le _⟩
  · have hh : ∀ i, i < l → ∃ z : Int × Int, w.cell? (y.add (i * 2)) = some (.int .i64 z.1) ∧ w.cell? (y.add (i * 2 + 1)) = some (.int .u64 z.2) := by
      intro i hil
      obtain ⟨n, cs, z, ht, hz, hc⟩ := hi i hil
      obtain ⟨hcl, n', hf⟩ := trod_fields Try.underlying59 ht
      rw [c59] at hc hcl
      obtain ⟨z0, t0⟩ := hf 0 _ rfl
      obtain ⟨z1, t1⟩ := hf 1 _ rfl
      match cs, hcl with
      | [x0, x1], _ =>
        replace t0 : DataW.trod enc Try.prog w base spare held n' 3 (([x0, x1].drop 0).take (Try.prog.cellsOf 3)) = some z0 := t0
        replace t1 : DataW.trod enc Try.prog w base spare held n' 57 (([x0, x1].drop 1).take (Try.prog.cellsOf 57)) = some z1 := t1
        rw [c3] at t0
        rw [c57] at t1
        simp only [List.drop_zero, List.drop_succ_cons, List.take_succ_cons, List.take_zero] at t0 t1
        obtain ⟨n0, e0, _, f0⟩ := DataW.trod_int Try.underlying3 t0
        obtain ⟨n1, e1, _, f1⟩ := DataW.trod_int Try.underlying57 t1
        injection e0 with e0 _; injection e1 with e1 _
        subst e0; subst e1
        exact ⟨(n0, n1), hc 0 _ rfl, hc 1 _ rfl⟩
    obtain ⟨L, hL, hz⟩ := list_of hh
    refine ⟨L, .inr ⟨y, c, by rw [hL], by rw [hL]; exact hl, fun hne => ?_, fun j u hj => ?_⟩, by rw [b59] at hby; unfold reachBytes at hby; omega⟩
    · obtain ⟨z, hz0⟩ : ∃ z, L[0]? = some z := ⟨_, List.getElem?_eq_getElem ((Nat.pos_of_ne_zero (fun e => hne (List.length_eq_zero_iff.1 e))))⟩
      have := cell_lt (hz 0 z hz0).1
      rwa [add_blk] at this
    · have hjl := (List.getElem?_eq_some_iff.1 hj).1
      rw [rows_len eH_len] at hjl
      have hk : j / 2 < L.length := by omega
      have e : j / 2 * 2 + j % 2 = j := by omega
      obtain ⟨z, hz0⟩ : ∃ z, L[j / 2]? = some z := ⟨_, List.getElem?_eq_getElem hk⟩
      have h2 := flat_get eH_len L (j / 2) (j % 2) z hz0 (by omega)
      rw [e, hj] at h2
      obtain ⟨h3, h4⟩ := hz _ z hz0
      rcases (by omega : j % 2 = 0 ∨ j % 2 = 1) with h5 | h5
      · rw [h5] at h2 e
        injection h2 with h2
        rw [h2, ← e, Nat.add_zero]; exact h3
      · rw [h5] at h2 e
        injection h2 with h2
        rw [h2, ← e]; exact h4
set_option maxRecDepth 100000 in
theorem ret_of {fuel : Nat} {cs : List Value} {x : DataW H × List MemPlace} (h : DataW.trod enc Try.prog w base spare held fuel 35 cs = some x) (hw : Wt Try.prog 35 x.1) : ∃ a b c r, cs = [a, b, c] ∧ SlR w a b c r ∧ r.sized := by
  have c35 : Try.prog.cellsOf 35 = 3 := by kernel_rfl
  have c33 : Try.prog.cellsOf 33 = 1 := by kernel_rfl
  obtain ⟨hcl, n', hf⟩ := fields_sized Try.underlying35 h hw
  rw [c35] at hcl
  obtain ⟨z0, t0, q0⟩ := hf 0 _ rfl
  obtain ⟨z1, t1, q1⟩ := hf 1 _ rfl
  obtain ⟨z2, t2, q2⟩ := hf 2 _ rfl
  match cs, hcl with
  | [x0, x1, x2], _ =>
    replace t0 : DataW.trod enc Try.prog w base spare held n' 33 (([x0, x1, x2].drop 0).take (Try.prog.cellsOf 33)) = some z0 := t0
    replace t1 : DataW.trod enc Try.prog w base spare held n' 33 (([x0, x1, x2].drop 1).take (Try.prog.cellsOf 33)) = some z1 := t1
    replace t2 : DataW.trod enc Try.prog w base spare held n' 33 (([x0, x1, x2].drop 2).take (Try.prog.cellsOf 33)) = some z2 := t2
    rw [c33] at t0 t1 t2
    simp only [List.drop_zero, List.drop_succ_cons, List.take_succ_cons, List.take_zero] at t0 t1 t2
    obtain ⟨l0, h0, g0⟩ := handles_of t0 q0
    obtain ⟨l1, h1, g1⟩ := handles_of t1 q1
    obtain ⟨l2, h2, g2⟩ := handles_of t2 q2
    exact ⟨x0, x1, x2, ⟨l0, l1, l2⟩, rfl, ⟨h0, h1, h2⟩, g0, g1, g2⟩
set_option maxRecDepth 100000 in
theorem acts_of {fuel : Nat} {a : Option Addr} {len cap : Nat} {x : DataW H × List MemPlace} (h : DataW.trod enc Try.prog w base spare held fuel 22 [.slice a len cap] = some x) (hw : Wt Try.prog 22 x.1) :
    ∃ L, ActsAt w w.heap.size a len L := by
  have c37 : Try.prog.cellsOf 37 = 5 := by kernel_rfl
  have c35 : Try.prog.cellsOf 35 = 3 := by kernel_rfl
  have c3 : Try.prog.cellsOf 3 = 1 := by kernel_rfl
  rcases slice_sized Try.underlying22 h hw with e | ⟨y, l, c, e, hl, hm, hby, hi⟩
  · injection e with e1 e2 e3; subst e1; subst e2; exact ⟨[], rfl, by omega, by simp, by simp, by simp, by simp⟩
  · injection e with e1 e2 e3
    subst e1; subst e2; subst e3
    have hh : ∀ i, i < len → ∃ z : Ac, (SlR w z.a z.b z.c z.x ∧ z.x.sized) ∧ w.cell? (y.add (i * 5)) = some (.int .i64 z.k) ∧ w.cell? (y.add (i * 5 + 1)) = some (.int .i64 z.t) ∧ w.cell? (y.add (i * 5 + 2)) = some z.a ∧ w.cell? (y.add (i * 5 + 3)) = some z.b ∧ w.cell? (y.add (i * 5 + 4)) = some z.c := by
      intro i hil
      obtain ⟨n, cs, z, ht, hz, hc⟩ := hi i hil
      obtain ⟨hcl, n', hf⟩ := fields_sized Try.underlying37 ht hz
      rw [c37] at hc hcl
      obtain ⟨z0, t0, _⟩ := hf 0 _ rfl
      obtain ⟨z1, t1, _⟩ := hf 1 _ rfl
      obtain ⟨z2, t2, q2⟩ := hf 2 _ rfl
      match cs, hcl with
      | [x0, x1, x2, x3, x4], _ =>
        replace t0 : DataW.trod enc Try.prog w base spare held n' 3 (([x0, x1, x2, x3, x4].drop 0).take (Try.prog.cellsOf 3)) = some z0 := t0
        replace t1 : DataW.trod enc Try.prog w base spare held n' 3 (([x0, x1, x2, x3, x4].drop 1).take (Try.prog.cellsOf 3)) = some z1 := t1
        replace t2 : DataW.trod enc Try.prog w base spare held n' 35 (([x0, x1, x2, x3, x4].drop 2).take (Try.prog.cellsOf 35)) = some z2 := t2
        rw [c3] at t0 t1
        rw [c35] at t2
        simp only [List.drop_zero, List.drop_succ_cons, List.take_succ_cons, List.take_zero] at t0 t1 t2
        obtain ⟨n0, e0, _, f0⟩ := DataW.trod_int Try.underlying3 t0
        obtain ⟨n1, e1, _, f1⟩ := DataW.trod_int Try.underlying3 t1
        obtain ⟨a, b, c, r, e2, hr⟩ := ret_of t2 q2
        injection e0 with e0 _; injection e1 with e1 _
        injection e2 with e2 e3
        injection e3 with e3 e4
        injection e4 with e4 _
        subst e0; subst e1; subst e2; subst e3; subst e4
        exact ⟨⟨n0, n1, x2, x3, x4, r⟩, hr, hc 0 _ rfl, hc 1 _ rfl, hc 2 _ rfl, hc 3 _ rfl, hc 4 _ rfl⟩
    obtain ⟨L, hL, hz⟩ := list_of hh
    refine ⟨L, hL, by have := hm; simp [maxLen] at this; omega, fun z hz' => ?_, fun z hz' => ?_, fun z hz' => ?_, fun i z hiz => ?_⟩
    · obtain ⟨i, hi'⟩ := List.mem_iff_getElem?.1 hz'
      exact (hz i z hi').1.1
    · obtain ⟨i, hi'⟩ := List.mem_iff_getElem?.1 hz'
      exact (hz i z hi').1.2
    · obtain ⟨i, hi'⟩ := List.mem_iff_getElem?.1 hz'
      exact (hz i z hi').1.1.lt
    · obtain ⟨_, c0, c1, c2, c3, c4⟩ := hz i z hiz
      rw [add_at _ _ 0] at c1
      rw [add_at _ _ 1] at c2
      rw [add_at _ _ 2] at c3
      rw [add_at _ _ 3] at c4
      exact ⟨y, rfl, by have := cell_lt c0; rwa [add_blk] at this, c0, c1, c2, c3, c4⟩
end
end Go.Proofs.Ytplbkjgkocnehaa
