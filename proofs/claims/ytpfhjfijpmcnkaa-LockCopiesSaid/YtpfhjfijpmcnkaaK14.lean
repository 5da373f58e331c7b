/- Walks: acts that came in; locks behind acts. -/
import Derived.Test.YtpfhjfijpmcnkaaK13
namespace Go.Proofs.Ytpfhjfijpmcnkaa
set_option linter.unusedSimpArgs false
set_option linter.unusedVariables false
open Go.RowKit Go.ChangeShapes Go.WideShapes Go.Deep
attribute [local go_sem ↓] Go.wp_at_zero Go.wp_at_succ
structure A3 where
  k : Int
  t : Int
  i : Int
instance : Inhabited A3 := ⟨⟨0, 0, 0⟩⟩
/-- a row of acts that came in: below B -/
structure ActsAt (w : World) (B : Nat) (x : Option Addr) (len : Nat) (L : List A3) : Prop where
  ln : L.length = len
  mx : len ≤ 9223372036854775807
  wf : ∀ z ∈ L, (Lit.int .i64 z.i).wf = true
  at_ : ∀ i z, L[i]? = some z → ∃ y : Addr, x = some y ∧ y.block < B ∧ w.cell? (y.add (i * 3)) = some (.int .i64 z.k) ∧ w.cell? ⟨(y.add (i * 3)).block, (y.add (i * 3)).off + 1, none⟩ = some (.int .i64 z.t) ∧ w.cell? ⟨(y.add (i * 3)).block, (y.add (i * 3)).off + 2, none⟩ = some (.int .i64 z.i)
theorem ActsAt.kp {w w' : World} {B : Nat} {x : Option Addr} {len : Nat} {L : List A3} {F : Nat → Prop} (h : ActsAt w B x len L) (k : Kp F w w') (hB : B ≤ w.heap.size) (hF : ∀ q, F q → B ≤ q) : ActsAt w' B x len L := by
  refine ⟨h.ln, h.mx, h.wf, fun i z hz => ?_⟩
  obtain ⟨y, hx, hy, h0, h1, h2⟩ := h.at_ i z hz
  have hb : ∀ q : Addr, q.block = (y.add (i * 3)).block → w'.cell? q = w.cell? q := fun q hq => by
    rw [add_blk] at hq
    exact cell_blk (k.blk _ (by omega) (fun f => by have := hF _ f; omega))
  exact ⟨y, hx, hy, (hb _ rfl).trans h0, (hb ⟨_, _, none⟩ rfl).trans h1, (hb ⟨_, _, none⟩ rfl).trans h2⟩
theorem ActsAt.nil (w : World) (B : Nat) : ActsAt w B none 0 [] := ⟨rfl, by omega, by simp, by simp⟩
section
variable {H : Type} {enc : TypeId × Value → H} {w : World} {base : Nat} {spare : Nat → Bool} {held : Bool}
theorem acts_of {fuel : Nat} {a : Option Addr} {len cap : Nat} {x : DataW H × List MemPlace} (h : DataW.trod enc Try.prog w base spare held fuel 22 [.slice a len cap] = some x) :
    ∃ L, ActsAt w w.heap.size a len L := by
  rcases open_recs Try.underlying22 Try.underlying39 (by kernel_rfl) (by kernel_rfl) h with ⟨rfl, rfl, rfl⟩ | ⟨y, rfl, hl, hm, hi⟩
  · exact ⟨[], rfl, by omega, by simp, by simp⟩
  · have hh : ∀ i, i < len → ∃ z : A3, ((Lit.int .i64 z.i).wf = true) ∧ w.cell? (y.add (i * 3)) = some (.int .i64 z.k) ∧ w.cell? (y.add (i * 3 + 1)) = some (.int .i64 z.t) ∧ w.cell? (y.add (i * 3 + 2)) = some (.int .i64 z.i) := by
      intro i hil
      obtain ⟨n, hf⟩ := hi i hil
      obtain ⟨v0, z0, c0, t0⟩ := hf 0 _ rfl
      obtain ⟨v1, z1, c1, t1⟩ := hf 1 _ rfl
      obtain ⟨v2, z2, c2, t2⟩ := hf 2 _ rfl
      obtain ⟨n0, e0, _, f0⟩ := DataW.trod_int Try.underlying3 t0
      obtain ⟨n1, e1, _, f1⟩ := DataW.trod_int Try.underlying3 t1
      obtain ⟨n2, e2, _, f2⟩ := DataW.trod_int Try.underlying23 t2
      injection e0 with e0 _; injection e1 with e1 _; injection e2 with e2 _
      subst e0; subst e1; subst e2
      exact ⟨⟨n0, n1, n2⟩, f2, c0, c1, c2⟩
    obtain ⟨L, hL, hz⟩ := list_of hh
    refine ⟨L, hL, by have := hm; simp [maxLen] at this; omega, fun z hz' => ?_, fun i z hiz => ?_⟩
    · obtain ⟨i, hi'⟩ := List.mem_iff_getElem?.1 hz'
      exact (hz i z hi').1
    · obtain ⟨_, c0, c1, c2⟩ := hz i z hiz
      rw [add_at _ _ 0] at c1
      rw [add_at _ _ 1] at c2
      exact ⟨y, rfl, by have := cell_lt c0; rwa [add_blk] at this, c0, c1, c2⟩
end
/-- both, new since w0 -/
def JNew (w0 w : World) (p q n : Nat) (L : List (Int × Int)) : Prop := ∃ m M v, JAt w p m q n M v L ∧ w0.heap.size ≤ m ∧ w0.heap.size ≤ q ∧ Kp NoB w0 w
section
variable {w0 w w' : World} {p m q n : Nat} {M : List (Int × Value)} {v : Value} {L : List (Int × Int)}
theorem JNew.kn (h : JNew w0 w p q n L) (k : Kp NoB w w') : JNew w0 w' p q n L := by
  obtain ⟨m, M, v, h1, h2, h3, h4⟩ := h
  exact ⟨m, M, v, h1.kn k, h2, h3, h4.trans k⟩
theorem JNew.k (h : JNew w0 w p q n L) : Kp NoB w0 w := by obtain ⟨m, M, v, h1, h2, h3, h4⟩ := h; exact h4
theorem JNew.o (h : JNew w0 w p q n L) : LOk n L := by obtain ⟨m, M, v, h1, h2, h3, h4⟩ := h; exact h1.o
theorem JNew.one (h : JNew w0 w p q n L) : LNew w0 w p n L := by obtain ⟨m, M, v, h1, h2, h3, h4⟩ := h; exact ⟨m, M, h1.c, h1.o, h2, h4⟩
theorem do_new (h : JNew w0 w p q n L) (n2 : L.length ≤ 3999) {k t id : Int} (hw : (Lit.int .i64 id).wf = true) :
    Calls Try.prog 18 #[.pointer (some ⟨p, 0, none⟩), .pointer (some ⟨q, 0, none⟩), .agg #[.int .i64 k, .int .i64 t, .int .i64 id]] w fun e w' => e = .returned (.bool true) ∧ JNew w0 w' p q n (doL n L k t id) := by
  obtain ⟨m, M, v, h1, h2, h3, h4⟩ := h
  refine (do_any h1 n2 hw).mono ?_
  rintro e w1 ⟨rfl, M', v', h', k'⟩
  exact ⟨rfl, m, M', v', h', h2, h3, h4.trans' k' (fun b hb e => by omega)⟩
theorem ran_no (w : World) {n : Int} (hn : ¬ (1 ≤ n ∧ n ≤ 8)) (x : Option Addr) (len cap : Nat) (most : Int) :
   Calls Try.prog 9 #[.int .i64 n, .slice x len cap, .int .i64 most] w fun e w' => e = .returned (.tuple #[.pointer none, .pointer none, .bool true]) ∧ Kp NoB w w' := by
  have H1 := hid (new_no w hn)
  have H2 := hid (rnew_no w hn)
  clear hn
  go_enter Try.func9, Try.ntmps9
  go_wp2_with fail
  refine H1.out.mono ?_
  rintro e w' ⟨rfl, rfl⟩
  go_wp2_with fail
  refine H2.out.mono ?_
  rintro e w' ⟨rfl, rfl⟩
  go_wp2_with fail
  go_ret3
  exact ⟨rfl, Kp.refl _ _⟩
theorem ran_long (w : World) {n : Nat} (n1 : 1 ≤ n) (n2 : n ≤ 8) (x : Option Addr) (len cap : Nat) (most : Int) (hl : most < len) :
   Calls Try.prog 9 #[.int .i64 n, .slice x len cap, .int .i64 most] w fun e w' => e = .returned (.tuple #[.pointer none, .pointer none, .bool true]) ∧ Kp NoB w w' := by
  have H1 := hid (new_any w n1 n2)
  have H2 := hid (fun w => rnew_any w n1 n2)
  go_enter Try.func9, Try.ntmps9
  go_wp2_with fail
  refine H1.out.mono ?_
  rintro e w1 ⟨p, m, rfl, q1, _, _, k1⟩
  clear q1
  go_wp2_with fail
  refine (H2.out _).mono ?_
  rintro e w2 ⟨rfl, q2, k2⟩
  clear q2
  go_wp2_with fail
  go_ret3
  exact ⟨rfl, k1.trans k2⟩
/-- what ran leaves -/
def RanGood (w w' : World) (e : Ending) (n : Nat) (l : Nat) : Prop := ∃ p q L, e = .returned (.tuple #[.pointer (some ⟨p, 0, none⟩), .pointer (some ⟨q, 0, none⟩), .bool true]) ∧ L.length ≤ l ∧ JNew w w' p q n L
set_option maxRecDepth 100000 in
set_option maxHeartbeats 4000000 in
theorem ran_good (w : World) {n : Nat} (n1 : 1 ≤ n) (n2 : n ≤ 8) (x : Option Addr) (len cap : Nat) (A : List A3) (most : Int) (hl : (len : Int) ≤ most) (hm : most ≤ 1000) (hL : ActsAt w w.heap.size x len A) :
   Calls Try.prog 9 #[.int .i64 n, .slice x len cap, .int .i64 most] w fun e w' => RanGood w w' e n len := by
  have H1 := hid (new_any w n1 n2)
  have H2 := hid (fun w => rnew_any w n1 n2)
  go_enter Try.func9, Try.ntmps9
  go_wp2_with fail
  refine H1.out.mono ?_
  rintro e w1 ⟨p, m, rfl, q1, g1, g2, k1⟩
  replace q1 := hid q1
  go_wp2_with fail
  refine (H2.out _).mono ?_
  rintro e w2 ⟨rfl, q2, k2⟩
  have g3 : w.heap.size ≤ w1.heap.size := k1.size
  generalize w1.heap.size = q at *
  have J := hid (show JNew w w2 p q n [] from ⟨m, [], _, ⟨q1.out.kn k2, q2, LOk.nil n1 n2⟩, g2, g3, k1.trans k2⟩)
  clear q1 q2 k1 k2 g1 g2 g3
  go_wp2_with fail
  go_loopw [13] (fun i W => ∃ (j : Nat) (L : List (Int × Int)), j ≤ len ∧ i = .int .i64 j ∧ L.length ≤ j ∧ JNew w W p q n L) (fun i _ => len - (intOf i).toNat)
  case atStart => exact ⟨0, [], Nat.zero_le _, rfl, Nat.le_refl _, J.out⟩
  case round =>
    obtain ⟨j, L, hj, rfl, hlen, hJ⟩ := hrel
    have ha := hL.kp hJ.k (Nat.le_refl _) (fun _ h => h.elim)
    by_cases hlt : j < len
    · have hjl : j < A.length := by rw [hL.ln]; exact hlt
      obtain ⟨z, hz⟩ : ∃ z, A[j]? = some z := ⟨_, List.getElem?_eq_getElem hjl⟩
      obtain ⟨y, rfl, hy, c0, c1, c2⟩ := ha.at_ j z hz
      have hwf := hL.wf z (List.mem_of_getElem? hz)
      have HD := hid (do_new hJ (by omega) (k := z.k) (t := z.t) hwf)
      have b1 : (0 : Int) ≤ (j : Int) := Int.natCast_nonneg _
      have b2 : (j : Int) < (len : Int) := by omega
      have hdl := do_len n L z.k z.t z.i
      replace hJ := hid hJ
      replace hL := hid hL
      replace ha := hid ha
      replace hwf := hid hwf
      replace hz := hid hz
      go_wp2_with fail
      refine HD.out.mono ?_
      rintro e w3 ⟨rfl, J3⟩
      replace J3 := hid J3
      go_wp2_with fail
      go_roundw
      case rel => exact ⟨j + 1, _, by omega, by go_num, by omega, J3.out⟩
      case measure => simp [intOf]; omega
    · replace hL := hid hL
      replace ha := hid ha
      go_wp2_with fail
      go_ret3
      exact ⟨p, q, L, rfl, by omega, hJ⟩
end
end Go.Proofs.Ytpfhjfijpmcnkaa
