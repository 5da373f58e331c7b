/- Walks through an arena: Alloc whatever is free; the chapter's rows. -/
import Derived.Test.YtldkogdkadgnkaaA5
namespace Go.Proofs.Ytldkogdkadgnkaa
set_option linter.unusedSimpArgs false
set_option linter.unusedVariables false
open Go.RowKit
attribute [local go_sem ↓] Go.wp_at_zero Go.wp_at_succ
section
variable {w w' : World} {p l : Nat} {v : Value} {S : List (Int × Int × Bool)} {B : List Nat} {E : Nat}
/-- the place that is given out next; those given back, and how many were ever in use, behind it -/
def nextI (B : List Nat) (E : Nat) : Nat := (B.getLast?).getD E
def nextE (B : List Nat) (E : Nat) : Nat := if B = [] then E + 1 else E
theorem alloc_any (h : AAt w p l v S B E) (o : AOk S B E) {x g : Int} {b : Bool} (hk : S[nextI B E]? = some (x, g, b)) :
    Calls Try.prog 12 #[.pointer (some ⟨p, 0, none⟩)] w fun e w' => e = .returned (.tuple #[.agg #[.int .i64 (nextI B E), .int .u64 g], .int .i64 0]) ∧
      ∃ v', AAt w' p l v' (S.set (nextI B E) (x, g, true)) B.dropLast (nextE B E) ∧ v'.ownBlock = v.ownBlock ∧ Kp (fun b => b = p ∨ b = l) w w' := by
  rcases List.eq_nil_or_concat B with rfl | ⟨B', i, hB⟩
  · refine (alloc_ever h o hk).mono ?_
    rintro e w1 ⟨rfl, h1, k1⟩
    exact ⟨rfl, v, h1, rfl, k1⟩
  · rw [List.concat_eq_append] at hB
    subst hB
    have hn : nextI (B' ++ [i]) E = i := by simp [nextI]
    have he : nextE (B' ++ [i]) E = E := by simp [nextE]
    rw [hn] at hk
    refine (alloc_pop h o hk).mono ?_
    rintro e w1 ⟨rfl, v', h1, h2, k1⟩
    exact ⟨by rw [hn], v', by rw [hn, he, List.dropLast_concat]; exact h1, h2, k1⟩
theorem kp_new {F : Nat → Prop} {w w1 w2 : World} (h : Kp NoB w w1) (k : Kp F w1 w2) (hF : ∀ b, F b → w.heap.size ≤ b) : Kp NoB w w2 :=
  h.trans' k (fun b hb hf => absurd (hF b hf) (by omega))
theorem alloc_is (h : AAt w p l v S B E) (o : AOk S B E) {i : Nat} {I x g : Int} {b : Bool} {S' : List (Int × Int × Bool)} {B' : List Nat} {E' : Nat} (hi : nextI B E = i) (hI : (i : Int) = I) (hk : S[i]? = some (x, g, b))
    (hS : S.set i (x, g, true) = S') (hB : B.dropLast = B') (hE : nextE B E = E') :
    Calls Try.prog 12 #[.pointer (some ⟨p, 0, none⟩)] w fun e w' => e = .returned (.tuple #[.agg #[.int .i64 I, .int .u64 g], .int .i64 0]) ∧
      ∃ v', AAt w' p l v' S' B' E' ∧ v'.ownBlock = v.ownBlock ∧ Kp (fun b => b = p ∨ b = l) w w' := by
  subst hi; subst hI; subst hS; subst hB; subst hE
  exact alloc_any h o hk
set_option maxRecDepth 100000 in
set_option maxHeartbeats 4000000 in
theorem known_any (w : World) : Calls Try.prog 7 #[] w fun e w' => e = .returned (.bool true) ∧ Kp NoB w w' := by
  have HN := hid (new_any 2 (by omega) (by omega) w)
  go_enter Try.func7, Try.ntmps7
  go_wp2_with fail
  refine HN.out.mono ?_
  rintro e w1 ⟨p, l, rfl, A1, hp, hl, k1⟩
  replace A1 : AAt w1 p l (.slice none 0 0) [(0, 1, false), (0, 1, false)] [] 0 := A1
  have H1 := hid (alloc_is A1 ⟨by simp, by simp, by simp, by simp, by simp⟩ (x := 0) (g := 1) (b := false) rfl (I := 0) rfl rfl rfl rfl rfl)
  replace A1 := hid A1
  go_wp2_with fail
  refine H1.out.mono ?_
  clear H1
  rintro e w2 ⟨rfl, v2, A2, o2, q2⟩
  replace A2 : AAt w2 p l v2 [(0, 1, true), (0, 1, false)] [] 1 := A2
  have k2 := kp_new k1 q2 (by rintro b (rfl | rfl) <;> assumption)
  replace A2 := A2.alloc (.cells #[.int .i64 0, .int .u64 1] 36)
  have X2 := blk_new w2 (.cells #[.int .i64 0, .int .u64 1] 36)
  replace k2 := k2.alloc (.cells #[.int .i64 0, .int .u64 1] 36)
  have H2 := hid (alloc_is A2 ⟨by simp, by simp, by simp, by simp, by simp⟩ (x := 0) (g := 1) (b := false) rfl (I := 1) rfl rfl rfl rfl rfl)
  have u1 := ne_of_types X2 A2.hp (by decide)
  have u2 := ne_of_types X2 A2.hl (by decide)
  replace o2 : v2.ownBlock = none := o2
  replace A2 := hid A2
  replace X2 := hid X2
  replace q2 := hid q2
  go_wp2_with fail
  refine H2.out.mono ?_
  clear H2
  rintro e w3 ⟨rfl, v3, A3, o3, q3⟩
  replace A3 : AAt w3 p l v3 [(0, 1, true), (0, 1, true)] [] 2 := A3
  have X3 := q3.get X2.out (by simp [u1, u2])
  have k3 := kp_new k2 q3 (by rintro b (rfl | rfl) <;> assumption)
  replace A3 := A3.alloc (.cells #[.int .i64 1, .int .u64 1] 36)
  have Y3 := blk_new w3 (.cells #[.int .i64 1, .int .u64 1] 36)
  replace X3 := blk_alloc (o' := .cells #[.int .i64 1, .int .u64 1] 36) X3
  replace k3 := k3.alloc (.cells #[.int .i64 1, .int .u64 1] 36)
  have H3 := hid (alloc_full A3 ⟨by simp, by simp, by simp, by simp, by simp⟩)
  rw [o2] at o3
  replace A3 := hid A3
  have X3h := hid X3
  have Y3h := hid Y3
  clear X2 A2 X3 Y3
  replace q3 := hid q3
  go_wp2_with fail
  refine H3.out.mono ?_
  clear H3
  rintro e w4 ⟨rfl, q4⟩
  have A4 := A3.out.kn q4
  have X4 := q4.get X3h.out (fun h => h)
  have Y4 := q4.get Y3h.out (fun h => h)
  have k4 := k3.trans q4
  replace A4 := A4.alloc (.cells #[.int .i64 0, .int .u64 0] 36)
  replace X4 := blk_alloc (o' := .cells #[.int .i64 0, .int .u64 0] 36) X4
  replace Y4 := blk_alloc (o' := .cells #[.int .i64 0, .int .u64 0] 36) Y4
  replace k4 := k4.alloc (.cells #[.int .i64 0, .int .u64 0] 36)
  have H4 := hid (free_yes A4 ⟨by simp, by simp, by simp, by simp, by simp⟩ (by simp) (k := 0) rfl)
  have LX := loc2 X4
  have w1 := ne_of_types Y4 A4.hp (by decide)
  have w2 := ne_of_types Y4 A4.hl (by decide)
  replace A4 := hid A4
  replace X4 := hid X4
  replace Y4 := hid Y4
  clear X3h Y3h A3
  replace q4 := hid q4
  go_wp2_with fail
  refine H4.out.mono ?_
  clear H4 LX
  rintro e w5 ⟨rfl, v5, A5, o5, q5⟩
  replace A5 : AAt w5 p l v5 [(0, 2, false), (0, 1, true)] [0] 2 := A5
  have X5 := q5.get X4.out (by simp [u1, u2, o3])
  have Y5 := q5.get Y4.out (by simp [w1, w2, o3])
  have k5 := kp_new k4 q5 (by rintro b (rfl | rfl | h) <;> first | assumption | (rw [o3] at h; cases h))
  have H5 := hid (get_no A5 ⟨by simp, by simp, by simp, by simp, by simp⟩ (i := 0) (g := 1) (by
    rintro ⟨k, x, hk, h⟩
    obtain rfl : k = 0 := by omega
    cases h))
  have LX := loc2 X5
  replace A5 := hid A5
  replace X5 := hid X5
  replace Y5 := hid Y5
  clear X4 Y4 A4
  replace q5 := hid q5
  go_wp2_with fail
  refine H5.out.mono ?_
  clear H5 LX
  rintro e w6 ⟨rfl, q6⟩
  have A6 := A5.out.kn q6
  have X6 := q6.get X5.out (fun h => h)
  have Y6 := q6.get Y5.out (fun h => h)
  have k6 := k5.trans q6
  have H6 := hid (alloc_is A6 ⟨by simp, by simp, by simp, by simp, by simp⟩ (x := 0) (g := 2) (b := false) rfl (I := 0) rfl rfl rfl rfl rfl)
  replace A6 := hid A6
  replace X6 := hid X6
  replace Y6 := hid Y6
  clear X5 Y5 A5
  replace q6 := hid q6
  go_wp2_with fail
  refine H6.out.mono ?_
  clear H6
  rintro e w7 ⟨rfl, v7, A7, o7, q7⟩
  have X7 := q7.get X6.out (by simp [u1, u2])
  have Y7 := q7.get Y6.out (by simp [w1, w2])
  have k7 := kp_new k6 q7 (by rintro b (rfl | rfl) <;> assumption)
  have LX := loc2 X7
  have LY := loc2 Y7
  have gx := ups LX.2.2.2.2
  have gy := ups LY.2.2.2.2
  clear X6 Y6 A6 A7 X7 Y7
  go_wp2_with fail
  trace_state
  go_ret
  exact ⟨rfl, k7.alloc _⟩
end
end Go.Proofs.Ytldkogdkadgnkaa
