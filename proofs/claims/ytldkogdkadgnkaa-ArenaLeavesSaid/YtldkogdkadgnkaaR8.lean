/- Acts that came in; what is stale stays stale. -/
import Derived.Test.YtldkogdkadgnkaaR7
import Derived.Test.YtldkogdkadgnkaaA9
namespace Go.Proofs.Ytldkogdkadgnkaa
set_option linter.unusedSimpArgs false
set_option linter.unusedVariables false
open Go.RowKit Go.ChangeShapes Go.WideShapes Go.Deep

structure Ac where
  kind : Int
  hi : Int
  hg : Int
  at_ : Int
  x : Int
  deriving Inhabited
/-- a row of acts that came in: below B -/
structure ActsAt (w : World) (B : Nat) (x : Option Addr) (len : Nat) (L : List Ac) : Prop where
  ln : L.length = len
  mx : len ≤ 9223372036854775807
  wf : ∀ z ∈ L, -9223372036854775808 ≤ z.at_ ∧ z.at_ < 9223372036854775808
  at_ : ∀ (i : Nat) (z : Ac), L[i]? = some z → ∃ y : Addr, x = some y ∧ y.block < B ∧ w.cell? (y.add (i * 5)) = some (.int .i64 z.kind) ∧ w.cell? ⟨(y.add (i * 5)).block, (y.add (i * 5)).off + 1, none⟩ = some (.int .i64 z.hi) ∧
    w.cell? ⟨(y.add (i * 5)).block, (y.add (i * 5)).off + 2, none⟩ = some (.int .u64 z.hg) ∧ w.cell? ⟨(y.add (i * 5)).block, (y.add (i * 5)).off + 3, none⟩ = some (.int .i64 z.at_) ∧ w.cell? ⟨(y.add (i * 5)).block, (y.add (i * 5)).off + 4, none⟩ = some (.int .i64 z.x)
theorem ActsAt.kp {w w' : World} {B : Nat} {x : Option Addr} {len : Nat} {L : List Ac} {F : Nat → Prop} (h : ActsAt w B x len L) (k : Kp F w w') (hB : B ≤ w.heap.size) (hF : ∀ q, F q → B ≤ q) : ActsAt w' B x len L := by
  refine ⟨h.ln, h.mx, h.wf, fun i z hz => ?_⟩
  obtain ⟨y, hx, hy, h0, h1, h2, h3, h4⟩ := h.at_ i z hz
  have hb : ∀ q : Addr, q.block = y.block → w'.cell? q = w.cell? q := fun q hq => cell_blk (k.blk _ (by omega) (fun f => by have := hF _ f; omega))
  have e := add_blk y (i * 5)
  exact ⟨y, hx, hy, (hb _ e).trans h0, (hb ⟨_, _, none⟩ e).trans h1, (hb ⟨_, _, none⟩ e).trans h2, (hb ⟨_, _, none⟩ e).trans h3, (hb ⟨_, _, none⟩ e).trans h4⟩
section
variable {H : Type} {enc : TypeId × Value → H} {w : World} {base : Nat} {spare : Nat → Bool} {held : Bool}
set_option maxRecDepth 100000 in
theorem acts_of {fuel : Nat} {a : Option Addr} {len cap : Nat} {x : DataW H × List MemPlace} (h : DataW.trod enc Try.prog w base spare held fuel 22 [.slice a len cap] = some x) :
    ∃ L, ActsAt w w.heap.size a len L := by
  rcases open_slice Try.underlying22 h with ⟨hcs, _⟩ | ⟨y, l, c, m, n, D, Pl, hcs, _, hl, hm, hmm, _, hi⟩
  · injection hcs with h1 _; injection h1 with h1 h2 h3
    subst h1; subst h2; subst h3
    exact ⟨[], rfl, by omega, by simp, by simp⟩
  · injection hcs with h1 _; injection h1 with h1 h2 h3
    subst h1; subst h2; subst h3
    have hC : Try.prog.cellsOf 38 = 5 := by kernel_rfl
    have hh : ∀ i, i < len → ∃ z : Ac, (-9223372036854775808 ≤ z.at_ ∧ z.at_ < 9223372036854775808) ∧ w.cell? (y.add (i * 5)) = some (.int .i64 z.kind) ∧ w.cell? (y.add (i * 5 + 1)) = some (.int .i64 z.hi) ∧ w.cell? (y.add (i * 5 + 2)) = some (.int .u64 z.hg) ∧
        w.cell? (y.add (i * 5 + 3)) = some (.int .i64 z.at_) ∧ w.cell? (y.add (i * 5 + 4)) = some (.int .i64 z.x) := by
      intro i hil
      have him : i < m := by rw [hmm]; split <;> omega
      obtain ⟨cs', hc, ht'⟩ := hi i him
      rw [hC] at hc
      obtain ⟨ys, n', _, _, _, hyl, hf⟩ := DataW.trod_struct Try.underlying38 ht'
      obtain ⟨_, hcl, hat⟩ := World.cells?_some hc
      have hy4 : ys.length = 4 := hyl
      have hC3 : Try.prog.cellsOf 3 = 1 := by kernel_rfl
      have hC36 : Try.prog.cellsOf 36 = 2 := by kernel_rfl
      have hC34 : Try.prog.cellsOf 34 = 1 := by kernel_rfl
      match cs', hcl with
      | [c0, c1, c2, c3, c4], _ =>
        have f0 := hf 0 _ rfl
        have f1 := hf 1 _ rfl
        have f2 := hf 2 _ rfl
        have f3 := hf 3 _ rfl
        rw [List.getElem?_eq_getElem (by omega)] at f0 f1 f2 f3
        have q0 : DataW.trod enc Try.prog w base spare held n' 3 (([c0, c1, c2, c3, c4].drop 0).take (Try.prog.cellsOf 3)) = some _ := f0
        have q1 : DataW.trod enc Try.prog w base spare held n' 36 (([c0, c1, c2, c3, c4].drop 1).take (Try.prog.cellsOf 36)) = some _ := f1
        have q2 : DataW.trod enc Try.prog w base spare held n' 3 (([c0, c1, c2, c3, c4].drop 3).take (Try.prog.cellsOf 3)) = some _ := f2
        have q3 : DataW.trod enc Try.prog w base spare held n' 3 (([c0, c1, c2, c3, c4].drop 4).take (Try.prog.cellsOf 3)) = some _ := f3
        rw [hC3] at q0 q2 q3
        rw [hC36] at q1
        obtain ⟨z0, e0, _, _⟩ := DataW.trod_int Try.underlying3 q0
        obtain ⟨z3, e3, _, w3⟩ := DataW.trod_int Try.underlying3 q2
        obtain ⟨z4, e4, _, _⟩ := DataW.trod_int Try.underlying3 q3
        obtain ⟨ys', n'', _, _, _, hyl', hf'⟩ := DataW.trod_struct Try.underlying36 q1
        have hy2 : ys'.length = 2 := hyl'
        have g0 := hf' 0 _ rfl
        have g1 := hf' 1 _ rfl
        rw [List.getElem?_eq_getElem (by omega)] at g0 g1
        have p0 : DataW.trod enc Try.prog w base spare held n'' 3 (([c1, c2].drop 0).take (Try.prog.cellsOf 3)) = some _ := g0
        have p1 : DataW.trod enc Try.prog w base spare held n'' 34 (([c1, c2].drop 1).take (Try.prog.cellsOf 34)) = some _ := g1
        rw [hC3] at p0
        rw [hC34] at p1
        obtain ⟨z1, e1, _, _⟩ := DataW.trod_int Try.underlying3 p0
        obtain ⟨z2, e2, _, _⟩ := DataW.trod_int Try.underlying34 p1
        injection e0 with e0 _; injection e1 with e1 _; injection e2 with e2 _; injection e3 with e3 _; injection e4 with e4 _
        subst e0; subst e1; subst e2; subst e3; subst e4
        have a0 := hat 0 (by omega)
        have a1 := hat 1 (by omega)
        have a2 := hat 2 (by omega)
        have a3 := hat 3 (by omega)
        have a4 := hat 4 (by omega)
        rw [add_add] at a0 a1 a2 a3 a4
        exact ⟨⟨z0, z1, z2, z3, z4⟩, wf_i64 w3, a0, a1, a2, a3, a4⟩
    obtain ⟨L, hL, hz⟩ := list_of hh
    refine ⟨L, hL, by have := hm; simp [maxLen] at this; omega, fun z hz' => ?_, fun i z hiz => ?_⟩
    · obtain ⟨i, hi'⟩ := List.mem_iff_getElem?.1 hz'
      exact (hz i z hi').1
    · obtain ⟨_, c0, c1, c2, c3, c4⟩ := hz i z hiz
      rw [add_at _ _ 0] at c1
      rw [add_at _ _ 1] at c2
      rw [add_at _ _ 2] at c3
      rw [add_at _ _ 3] at c4
      exact ⟨y, rfl, by have := cell_lt c0; rwa [add_blk] at this, c0, c1, c2, c3, c4⟩
end
/-- what is stale stays stale -/
theorem stale {S S' : List (Int × Int × Bool)} {L : List (Nat × Int)} (hI : HInv S L) (hm : Mono S S') {h : Nat × Int} (hh : h ∈ L) (hs : ¬ HOk S h.1 h.2) : ¬ HOk S' h.1 h.2 := by
  obtain ⟨x, g, b, h1, h2, _⟩ := hI h hh
  rintro ⟨k, x', he, h3⟩
  have hk : h.1 = k := by omega
  subst hk
  have h4 := hm.2 _ _ _ h1 h3
  dsimp only at h4
  rcases h2 with h2 | ⟨h2, h5⟩
  · omega
  · subst h5
    exact hs ⟨h.1, x, rfl, by rw [h1, h2]⟩
end Go.Proofs.Ytldkogdkadgnkaa
