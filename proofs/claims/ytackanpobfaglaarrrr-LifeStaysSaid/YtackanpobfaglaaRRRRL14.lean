/- A record that came in, by value. -/
import Derived.Test.YtackanpobfaglaaRRRRL13
import Derived.Test.YtackanpobfaglaaRRRRLibF
namespace Go.Proofs.YtackanpobfaglaaRRRR
set_option linter.unusedSimpArgs false
set_option linter.unusedVariables false
open Go.RowKit Go.ChangeShapes Go.WideShapes Go.Deep
theorem wf_u64 {x : Int} (h : (Lit.int .u64 x).wf = true) : 0 ≤ x ∧ x < 18446744073709551616 := by
  simp [Lit.wf] at h
  have e1 : IntKind.u64.min = 0 := by decide
  have e2 : IntKind.u64.max = 18446744073709551615 := by decide
  rw [e1, e2] at h
  omega
section
variable {H : Type} {enc : TypeId × Value → H} {w : World} {base : Nat} {spare : Nat → Bool} {held : Bool}
/-- a field of one cell of a struct that came by value -/
theorem open_field {P : Program} {r : Reach} {b0 : Nat} {t : TypeId} {fs : Array Field} {v : Value} {d : DataW H} {p : List MemPlace} (hs : P.underlying t = some (.struct fs))
    (hv : Value.okWide P w r b0 t v) (h : DataW.Trod enc P w base spare held t v d p) :
    ∃ cs : List Value, v = .agg cs.toArray ∧ cs.length = P.cellsOf t ∧ ∀ (j : Nat) (f : Field), fs[j]? = some f → P.cellsOf f.type = 1 → ∃ (n : Nat) (y : DataW H × List MemPlace), DataW.trod enc P w base spare held n f.type ((cs.drop f.offset).take 1) = some y := by
  obtain ⟨cs, rfl, hsz⟩ := okWide_struct hs hv
  obtain ⟨l⟩ := cs
  obtain ⟨fuel, hf⟩ := h
  obtain ⟨xs, n, _, hx, _, hlen, hg⟩ := DataW.trod_struct hs hf
  refine ⟨l, rfl, hsz, fun j f hj h1 => ?_⟩
  have h2 := hg j f hj
  have hjl : j < fs.size := (Array.getElem?_eq_some_iff.1 hj).1
  have hys : xs[j]? = some (xs[j]'(by omega)) := List.getElem?_eq_getElem (by omega)
  rw [h1, hys] at h2
  exact ⟨n, _, h2⟩
theorem life_of {r : Reach} {b0 : Nat} {v : Value} {d : DataW H} {p : List MemPlace} (hv : Value.okWide Try.prog w r b0 36 v) (h : DataW.Trod enc Try.prog w base spare held 36 v d p) :
    ∃ z : List Value × Bool × Bool × Int, v = .agg z.1.toArray ∧ z.1.length = 22 ∧ z.1[6]? = some (.bool z.2.1) ∧ z.1[7]? = some (.bool z.2.2.1) ∧ z.1[8]? = some (.int .u64 z.2.2.2) ∧ 0 ≤ z.2.2.2 ∧ z.2.2.2 < 18446744073709551616 := by
  obtain ⟨cs, rfl, hl, hf⟩ := open_field Try.underlying36 hv h
  have hl : cs.length = 22 := hl.trans (by kernel_rfl)
  obtain ⟨n5, y5, t5⟩ := hf 5 _ rfl (by kernel_rfl)
  obtain ⟨n6, y6, t6⟩ := hf 6 _ rfl (by kernel_rfl)
  obtain ⟨n7, y7, t7⟩ := hf 7 _ rfl (by kernel_rfl)
  have one : ∀ i, i < 22 → (cs.drop i).take 1 = [cs.getD i undef] := fun i hi => by
    have h : i < cs.length := by omega
    rw [List.getD_eq_getElem?_getD, List.getElem?_eq_getElem h, List.drop_eq_getElem_cons h]; rfl
  have at' : ∀ i, i < 22 → cs[i]? = some (cs.getD i undef) := fun i hi => by simp [List.getD_eq_getElem?_getD, List.getElem?_eq_getElem (show i < cs.length by omega)]
  replace t5 : DataW.trod enc Try.prog w base spare held n5 4 ((cs.drop 6).take 1) = some y5 := t5
  replace t6 : DataW.trod enc Try.prog w base spare held n6 4 ((cs.drop 7).take 1) = some y6 := t6
  replace t7 : DataW.trod enc Try.prog w base spare held n7 28 ((cs.drop 8).take 1) = some y7 := t7
  rw [one 6 (by omega)] at t5
  rw [one 7 (by omega)] at t6
  rw [one 8 (by omega)] at t7
  obtain ⟨b5, e5, _⟩ := DataW.trod_bool Try.underlying4 t5
  obtain ⟨b6, e6, _⟩ := DataW.trod_bool Try.underlying4 t6
  obtain ⟨x7, e7, _, f7⟩ := DataW.trod_int Try.underlying28 t7
  injection e5 with e5 _; injection e6 with e6 _; injection e7 with e7 _
  exact ⟨(cs, b5, b6, x7), rfl, hl, by rw [at' 6 (by omega), e5], by rw [at' 7 (by omega), e6], by rw [at' 8 (by omega), e7], wf_u64 f7⟩
/-- a record's cells, said one by one -/
theorem cells_of {cs : List Value} {r z : Bool} {x : Int} (hl : cs.length = 22) (h6 : cs[6]? = some (.bool r)) (h7 : cs[7]? = some (.bool z)) (h8 : cs[8]? = some (.int .u64 x)) :
    ∃ c0 c1 c2 c3 c4 c5 c9 c10 c11 c12 c13 c14 c15 c16 c17 c18 c19 c20 c21, cs.toArray = #[c0, c1, c2, c3, c4, c5, .bool r, .bool z, .int .u64 x, c9, c10, c11, c12, c13, c14, c15, c16, c17, c18, c19, c20, c21] := by
  match cs, hl with
  | [c0, c1, c2, c3, c4, c5, c6, c7, c8, c9, c10, c11, c12, c13, c14, c15, c16, c17, c18, c19, c20, c21], _ =>
    simp at h6 h7 h8
    subst h6; subst h7; subst h8
    exact ⟨c0, c1, c2, c3, c4, c5, c9, c10, c11, c12, c13, c14, c15, c16, c17, c18, c19, c20, c21, rfl⟩
end
section
theorem lifeof_law {cs : List Value} {r z : Bool} {x now : Int} (w : World) (hl : cs.length = 22 ∧ cs[6]? = some (.bool r) ∧ cs[7]? = some (.bool z) ∧ cs[8]? = some (.int .u64 x) ∧ 0 ≤ x ∧ x < 18446744073709551616) :
    Calls Try.prog 3 #[.agg cs.toArray, .int .u64 now] w fun e w' => e = .returned (.bool true) ∧ Kp NoB w w' := by
  obtain ⟨h1, h2, h3, h4, h5⟩ := hl
  obtain ⟨c0, c1, c2, c3, c4, c5, c9, c10, c11, c12, c13, c14, c15, c16, c17, c18, c19, c20, c21, hA⟩ := cells_of h1 h2 h3 h4
  exact lifeof_any hA h5 w
theorem stays_law {cs : List Value} {r z : Bool} {x a b : Int} (w : World) (hl : cs.length = 22 ∧ cs[6]? = some (.bool r) ∧ cs[7]? = some (.bool z) ∧ cs[8]? = some (.int .u64 x) ∧ 0 ≤ x ∧ x < 18446744073709551616) :
    Calls Try.prog 4 #[.agg cs.toArray, .int .u64 a, .int .u64 b] w fun e w' => e = .returned (.bool true) ∧ Kp NoB w w' := by
  obtain ⟨h1, h2, h3, h4, h5⟩ := hl
  obtain ⟨c0, c1, c2, c3, c4, c5, c9, c10, c11, c12, c13, c14, c15, c16, c17, c18, c19, c20, c21, hA⟩ := cells_of h1 h2 h3 h4
  by_cases hab : a ≤ b
  · exact stays_le hA h5 hab w
  · exact stays_gt hA h5 (by omega) w
end
end Go.Proofs.YtackanpobfaglaaRRRR
