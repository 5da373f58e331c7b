/- Walks: the life of a record, the code's and the document's. -/
import Derived.Test.YtackanpobfaglaaRRRRL9
namespace Go.Proofs.YtackanpobfaglaaRRRR
set_option linter.unusedSimpArgs false
set_option linter.unusedVariables false
open Go.RowKit
attribute [local go_sem ↓] Go.wp_at_zero Go.wp_at_succ
def ofV (r z : Bool) (x now : Int) : Int := if z then 0 else if r then 2 else if x ≠ 0 ∧ x ≤ now then 3 else 1
def goneV (x : Int) : Int := if x = 0 then 0 else if 1099511627776 < x then 1099511627781 else x + 5
theorem wu_in {x : Int} (h : 0 ≤ x ∧ x < 18446744073709551616) : IntKind.u64.wrap x = x := by simp [IntKind.wrap, IntKind.bits, IntKind.signed]; omega
section
variable {w w' : World} {c0 c1 c2 c3 c4 c5 c9 c10 c11 c12 c13 c14 c15 c16 c17 c18 c19 c20 c21 : Value} {r z : Bool} {x now : Int}
set_option maxRecDepth 100000 in
theorem of_any (w : World) :
    Calls Try.prog 6 #[.agg #[c0, c1, c2, c3, c4, c5, .bool r, .bool z, .int .u64 x, c9, c10, c11, c12, c13, c14, c15, c16, c17, c18, c19, c20, c21], .int .u64 now] w fun e w' => e = .returned (.int .i64 (ofV r z x now)) ∧ Kp NoB w w' := by
  cases z
  · cases r
    · by_cases h0 : x = 0
      · subst h0
        go_enter Try.func6, Try.ntmps6
        go_wp2_with fail
        go_ret
        exact ⟨by simp [ofV], (Kp.refl _ _).alloc _⟩
      · by_cases h1 : x ≤ now
        · go_enter Try.func6, Try.ntmps6
          go_wp2_with fail
          go_ret
          exact ⟨by simp [ofV, h0, h1], (Kp.refl _ _).alloc _⟩
        · go_enter Try.func6, Try.ntmps6
          go_wp2_with fail
          go_ret
          exact ⟨by simp [ofV]; omega, (Kp.refl _ _).alloc _⟩
    · go_enter Try.func6, Try.ntmps6
      go_wp2_with fail
      go_ret
      exact ⟨by simp [ofV], (Kp.refl _ _).alloc _⟩
  · go_enter Try.func6, Try.ntmps6
    go_wp2_with fail
    go_ret
    exact ⟨by simp [ofV], (Kp.refl _ _).alloc _⟩
set_option maxRecDepth 100000 in
theorem rof_any (hx : 0 ≤ x) (w : World) :
    Calls Try.prog 7 #[.agg #[c0, c1, c2, c3, c4, c5, .bool r, .bool z, .int .u64 x, c9, c10, c11, c12, c13, c14, c15, c16, c17, c18, c19, c20, c21], .int .u64 now] w fun e w' => e = .returned (.int .i64 (ofV r z x now)) ∧ Kp NoB w w' := by
  cases z
  · cases r
    · by_cases h0 : x = 0
      · subst h0
        go_enter Try.func7, Try.ntmps7
        go_wp2_with fail
        go_ret
        exact ⟨by simp [ofV], (Kp.refl _ _).alloc _⟩
      · have h2 : 0 < x := by omega
        by_cases h1 : x ≤ now
        · go_enter Try.func7, Try.ntmps7
          go_wp2_with fail
          go_ret
          exact ⟨by simp [ofV, h0, h1], (Kp.refl _ _).alloc _⟩
        · go_enter Try.func7, Try.ntmps7
          go_wp2_with fail
          go_ret
          exact ⟨by simp [ofV]; omega, (Kp.refl _ _).alloc _⟩
    · go_enter Try.func7, Try.ntmps7
      go_wp2_with fail
      go_ret
      exact ⟨by simp [ofV], (Kp.refl _ _).alloc _⟩
  · go_enter Try.func7, Try.ntmps7
    go_wp2_with fail
    go_ret
    exact ⟨by simp [ofV], (Kp.refl _ _).alloc _⟩
set_option maxRecDepth 100000 in
theorem gone_any (hx : 0 ≤ x ∧ x < 18446744073709551616) (w : World) :
    Calls Try.prog 5 #[.agg #[c0, c1, c2, c3, c4, c5, .bool r, .bool z, .int .u64 x, c9, c10, c11, c12, c13, c14, c15, c16, c17, c18, c19, c20, c21]] w fun e w' => e = .returned (.tuple #[.int .u64 (goneV x), .bool (x != 0)]) ∧ Kp NoB w w' := by
  by_cases h0 : x = 0
  · subst h0
    go_enter Try.func5, Try.ntmps5
    go_wp2_with fail
    go_ret2
    exact ⟨by simp [goneV], (Kp.refl _ _).alloc _⟩
  · by_cases h1 : 1099511627776 < x
    · have hm : min x 1099511627776 = 1099511627776 := by omega
      go_enter Try.func5, Try.ntmps5
      go_wp2_with fail
      go_ret2
      exact ⟨by simp [goneV, h0, h1], (Kp.refl _ _).alloc _⟩
    · have hm : min x 1099511627776 = x := by omega
      have hw : IntKind.u64.wrap (x + 5) = x + 5 := wu_in (by omega)
      go_enter Try.func5, Try.ntmps5
      go_wp2_with fail
      go_ret2
      exact ⟨by simp [goneV, h0, h1]; omega, (Kp.refl _ _).alloc _⟩
set_option maxRecDepth 100000 in
theorem rgone_any (hx : 0 ≤ x ∧ x < 18446744073709551616) (w : World) :
    Calls Try.prog 8 #[.agg #[c0, c1, c2, c3, c4, c5, .bool r, .bool z, .int .u64 x, c9, c10, c11, c12, c13, c14, c15, c16, c17, c18, c19, c20, c21]] w fun e w' => e = .returned (.int .u64 (goneV x)) ∧ Kp NoB w w' := by
  by_cases h0 : x = 0
  · subst h0
    go_enter Try.func8, Try.ntmps8
    go_wp2_with fail
    go_ret
    exact ⟨by simp [goneV], (Kp.refl _ _).alloc _⟩
  · by_cases h1 : 1099511627776 < x
    · go_enter Try.func8, Try.ntmps8
      go_wp2_with fail
      go_ret
      exact ⟨by simp [goneV, h0, h1], (Kp.refl _ _).alloc _⟩
    · have hw : IntKind.u64.wrap (x + 5) = x + 5 := wu_in (by omega)
      go_enter Try.func8, Try.ntmps8
      go_wp2_with fail
      go_ret
      exact ⟨by simp [goneV, h0, h1]; omega, (Kp.refl _ _).alloc _⟩
end
end Go.Proofs.YtackanpobfaglaaRRRR
