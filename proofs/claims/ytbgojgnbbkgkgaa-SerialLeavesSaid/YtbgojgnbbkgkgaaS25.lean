/- Acts that came in; tables behind acts. -/
import Derived.Test.YtbgojgnbbkgkgaaS24
import Derived.Test.YtbgojgnbbkgkgaaLibV
import Derived.Test.YtbgojgnbbkgkgaaS8
namespace Go.Proofs.Ytbgojgnbbkgkgaa
set_option linter.unusedSimpArgs false
set_option linter.unusedVariables false
open Go.RowKit Go.ChangeShapes Go.WideShapes Go.Deep
structure A5 where
  k : Int
  s : Int
  i : Int
  g : Int
  d : Int
instance : Inhabited A5 := ⟨⟨0, 0, 0, 0, 0⟩⟩
/-- a row of acts that came in: below B -/
structure ActsAt (w : World) (B : Nat) (x : Option Addr) (len : Nat) (L : List A5) : Prop where
  ln : L.length = len
  mx : len ≤ 9223372036854775807
  wf : ∀ z ∈ L, (Lit.int .i64 z.s).wf = true ∧ 0 ≤ z.d ∧ z.d < 18446744073709551616
  at_ : ∀ i z, L[i]? = some z → ∃ y : Addr, x = some y ∧ y.block < B ∧ w.cell? (y.add (i * 5)) = some (.int .i64 z.k) ∧ w.cell? ⟨(y.add (i * 5)).block, (y.add (i * 5)).off + 1, none⟩ = some (.int .i64 z.s) ∧ w.cell? ⟨(y.add (i * 5)).block, (y.add (i * 5)).off + 2, none⟩ = some (.int .i64 z.i) ∧ w.cell? ⟨(y.add (i * 5)).block, (y.add (i * 5)).off + 3, none⟩ = some (.int .u64 z.g) ∧ w.cell? ⟨(y.add (i * 5)).block, (y.add (i * 5)).off + 4, none⟩ = some (.int .u64 z.d)
theorem ActsAt.kp {w w' : World} {B : Nat} {x : Option Addr} {len : Nat} {L : List A5} {F : Nat → Prop} (h : ActsAt w B x len L) (k : Kp F w w') (hB : B ≤ w.heap.size) (hF : ∀ q, F q → B ≤ q) : ActsAt w' B x len L := by
  refine ⟨h.ln, h.mx, h.wf, fun i z hz => ?_⟩
  obtain ⟨y, hx, hy, h0, h1, h2, h3, h4⟩ := h.at_ i z hz
  have hb : ∀ q : Addr, q.block = (y.add (i * 5)).block → w'.cell? q = w.cell? q := fun q hq => by
    rw [add_blk] at hq
    exact cell_blk (k.blk _ (by omega) (fun f => by have := hF _ f; omega))
  exact ⟨y, hx, hy, (hb _ rfl).trans h0, (hb ⟨_, _, none⟩ rfl).trans h1, (hb ⟨_, _, none⟩ rfl).trans h2, (hb ⟨_, _, none⟩ rfl).trans h3, (hb ⟨_, _, none⟩ rfl).trans h4⟩
theorem ActsAt.nil (w : World) (B : Nat) : ActsAt w B none 0 [] := ⟨rfl, by omega, by simp, by simp⟩
section
variable {H : Type} {enc : TypeId × Value → H} {w : World} {base : Nat} {spare : Nat → Bool} {held : Bool}
set_option maxRecDepth 100000 in
theorem acts_of {fuel : Nat} {a : Option Addr} {len cap : Nat} {x : DataW H × List MemPlace} (h : DataW.trod enc Try.prog w base spare held fuel 42 [.slice a len cap] = some x) :
    ∃ L, ActsAt w w.heap.size a len L := by
  have c49 : Try.prog.cellsOf 49 = 5 := by kernel_rfl
  have c25 : Try.prog.cellsOf 25 = 2 := by kernel_rfl
  have c3 : Try.prog.cellsOf 3 = 1 := by kernel_rfl
  have c22 : Try.prog.cellsOf 22 = 1 := by kernel_rfl
  have c23 : Try.prog.cellsOf 23 = 1 := by kernel_rfl
  rcases open_deep Try.underlying42 h with ⟨rfl, rfl, rfl⟩ | ⟨y, rfl, hl, hm, hi⟩
  · exact ⟨[], rfl, by omega, by simp, by simp⟩
  · have hh : ∀ i, i < len → ∃ z : A5, ((Lit.int .i64 z.s).wf = true ∧ 0 ≤ z.d ∧ z.d < 18446744073709551616) ∧ w.cell? (y.add (i * 5)) = some (.int .i64 z.k) ∧ w.cell? (y.add (i * 5 + 1)) = some (.int .i64 z.s) ∧ w.cell? (y.add (i * 5 + 2)) = some (.int .i64 z.i) ∧ w.cell? (y.add (i * 5 + 3)) = some (.int .u64 z.g) ∧ w.cell? (y.add (i * 5 + 4)) = some (.int .u64 z.d) := by
      intro i hil
      obtain ⟨n, cs, z, ht, hc⟩ := hi i hil
      obtain ⟨hcl, n', hf⟩ := trod_fields Try.underlying49 ht
      rw [c49] at hc hcl
      obtain ⟨z0, t0⟩ := hf 0 _ rfl
      obtain ⟨z1, t1⟩ := hf 1 _ rfl
      obtain ⟨z2, t2⟩ := hf 2 _ rfl
      obtain ⟨z3, t3⟩ := hf 3 _ rfl
      match cs, hcl with
      | [x0, x1, x2, x3, x4], _ =>
        replace t0 : DataW.trod enc Try.prog w base spare held n' 3 (([x0, x1, x2, x3, x4].drop 0).take (Try.prog.cellsOf 3)) = some z0 := t0
        replace t1 : DataW.trod enc Try.prog w base spare held n' 22 (([x0, x1, x2, x3, x4].drop 1).take (Try.prog.cellsOf 22)) = some z1 := t1
        replace t2 : DataW.trod enc Try.prog w base spare held n' 25 (([x0, x1, x2, x3, x4].drop 2).take (Try.prog.cellsOf 25)) = some z2 := t2
        replace t3 : DataW.trod enc Try.prog w base spare held n' 23 (([x0, x1, x2, x3, x4].drop 4).take (Try.prog.cellsOf 23)) = some z3 := t3
        rw [c3] at t0
        rw [c22] at t1
        rw [c25] at t2
        rw [c23] at t3
        simp only [List.drop_zero, List.drop_succ_cons, List.take_succ_cons, List.take_zero] at t0 t1 t2 t3
        obtain ⟨n0, e0, _, f0⟩ := DataW.trod_int Try.underlying3 t0
        obtain ⟨n1, e1, _, f1⟩ := DataW.trod_int Try.underlying22 t1
        obtain ⟨_, n2', hf2⟩ := trod_fields Try.underlying25 t2
        obtain ⟨z20, t20⟩ := hf2 0 _ rfl
        obtain ⟨z21, t21⟩ := hf2 1 _ rfl
        replace t20 : DataW.trod enc Try.prog w base spare held n2' 3 (([x2, x3].drop 0).take (Try.prog.cellsOf 3)) = some z20 := t20
        replace t21 : DataW.trod enc Try.prog w base spare held n2' 23 (([x2, x3].drop 1).take (Try.prog.cellsOf 23)) = some z21 := t21
        rw [c3] at t20
        rw [c23] at t21
        simp only [List.drop_zero, List.drop_succ_cons, List.take_succ_cons, List.take_zero] at t20 t21
        obtain ⟨n2, e2, _, f2⟩ := DataW.trod_int Try.underlying3 t20
        obtain ⟨n3, e3, _, f3⟩ := DataW.trod_int Try.underlying23 t21
        obtain ⟨n4, e4, _, f4⟩ := DataW.trod_int Try.underlying23 t3
        injection e0 with e0 _; injection e1 with e1 _; injection e2 with e2 _; injection e3 with e3 _; injection e4 with e4 _
        subst e0; subst e1; subst e2; subst e3; subst e4
        exact ⟨⟨n0, n1, n2, n3, n4⟩, ⟨f1, wf_u64 f4⟩, hc 0 _ rfl, hc 1 _ rfl, hc 2 _ rfl, hc 3 _ rfl, hc 4 _ rfl⟩
    obtain ⟨L, hL, hz⟩ := list_of hh
    refine ⟨L, hL, by have := hm; simp [maxLen] at this; omega, fun z hz' => ?_, fun i z hiz => ?_⟩
    · obtain ⟨i, hi'⟩ := List.mem_iff_getElem?.1 hz'
      exact (hz i z hi').1
    · obtain ⟨_, c0, c1, c2, c3, c4⟩ := hz i z hiz
      rw [add_at _ _ 0] at c1
      rw [add_at _ _ 1] at c2
      rw [add_at _ _ 2] at c3
      rw [add_at _ _ 3] at c4
      exact ⟨y, rfl, by have := cell_lt c0; rwa [add_blk] at this, c0, c1, c2, c3, c4⟩
end
end Go.Proofs.Ytbgojgnbbkgkgaa
