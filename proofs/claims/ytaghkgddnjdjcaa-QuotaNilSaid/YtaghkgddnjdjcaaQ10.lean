/- Walks through the accounts of a quota: what each function returns and leaves, at any accounts that are well formed (the conditions stand in each theorem). -/
import Derived.Test.YtaghkgddnjdjcaaQ9
import Derived.Test.YtaghkgddnjdjcaaLibF
namespace Go.Proofs.Ytaghkgddnjdjcaa
set_option linter.unusedSimpArgs false
set_option linter.unusedVariables false
open Go.RowKit Go.ChangeShapes Go.WideShapes Go.Deep
attribute [local go_sem ↓] Go.wp_at_zero Go.wp_at_succ

structure A5 where
  k : Int
  a : Int
  b : Int
  n : Int
  m : Int
/-- a row of acts that came in: below B -/
structure ActsAt (w : World) (B : Nat) (x : Option Addr) (len : Nat) (L : List A5) : Prop where
  ln : L.length = len
  mx : len ≤ 9223372036854775807
  wf : ∀ z ∈ L, B64 z.n ∧ B64 z.m
  at_ : ∀ i z, L[i]? = some z → ∃ y : Addr, x = some y ∧ y.block < B ∧ w.cell? (y.add (i * 5)) = some (.int .i64 z.k) ∧ w.cell? ⟨(y.add (i * 5)).block, (y.add (i * 5)).off + 1, none⟩ = some (.int .i64 z.a) ∧ w.cell? ⟨(y.add (i * 5)).block, (y.add (i * 5)).off + 2, none⟩ = some (.int .i64 z.b) ∧
    w.cell? ⟨(y.add (i * 5)).block, (y.add (i * 5)).off + 3, none⟩ = some (.int .u64 z.n) ∧ w.cell? ⟨(y.add (i * 5)).block, (y.add (i * 5)).off + 4, none⟩ = some (.int .u64 z.m)
theorem ActsAt.kp {w w' : World} {B : Nat} {x : Option Addr} {len : Nat} {L : List A5} {F : Nat → Prop} (h : ActsAt w B x len L) (k : Kp F w w') (hB : B ≤ w.heap.size) (hF : ∀ q, F q → B ≤ q) : ActsAt w' B x len L := by
  refine ⟨h.ln, h.mx, h.wf, fun i z hz => ?_⟩
  obtain ⟨y, hx, hy, h0, h1, h2, h3, h4⟩ := h.at_ i z hz
  have hb : ∀ q : Addr, q.block = (y.add (i * 5)).block → w'.cell? q = w.cell? q := fun q hq => by
    rw [add_blk] at hq
    exact cell_blk (k.blk _ (by omega) (fun f => by have := hF _ f; omega))
  exact ⟨y, hx, hy, (hb _ rfl).trans h0, (hb ⟨_, _, none⟩ rfl).trans h1, (hb ⟨_, _, none⟩ rfl).trans h2, (hb ⟨_, _, none⟩ rfl).trans h3, (hb ⟨_, _, none⟩ rfl).trans h4⟩

theorem wf_u64 {x : Int} (h : (Lit.int .u64 x).wf = true) : B64 x := by
  simp [Lit.wf] at h
  have e1 : IntKind.u64.min = 0 := by decide
  have e2 : IntKind.u64.max = 18446744073709551615 := by decide
  rw [e1, e2] at h
  unfold B64
  omega
instance : Inhabited A5 := ⟨⟨0, 0, 0, 0, 0⟩⟩
section
variable {H : Type} {enc : TypeId × Value → H} {w : World} {base : Nat} {spare : Nat → Bool} {held : Bool}
theorem acts_of {fuel : Nat} {a : Option Addr} {len cap : Nat} {x : DataW H × List MemPlace} (h : DataW.trod enc Try.prog w base spare held fuel 23 [.slice a len cap] = some x) :
    ∃ L, ActsAt w w.heap.size a len L := by
  rcases open_recs Try.underlying23 Try.underlying30 (by kernel_rfl) (by kernel_rfl) h with ⟨rfl, rfl, rfl⟩ | ⟨y, rfl, hl, hm, hi⟩
  · exact ⟨[], rfl, by omega, by simp, by simp⟩
  · have hh : ∀ i, i < len → ∃ z : A5, (B64 z.n ∧ B64 z.m) ∧ w.cell? (y.add (i * 5)) = some (.int .i64 z.k) ∧ w.cell? (y.add (i * 5 + 1)) = some (.int .i64 z.a) ∧ w.cell? (y.add (i * 5 + 2)) = some (.int .i64 z.b) ∧
        w.cell? (y.add (i * 5 + 3)) = some (.int .u64 z.n) ∧ w.cell? (y.add (i * 5 + 4)) = some (.int .u64 z.m) := by
      intro i hil
      obtain ⟨n, hf⟩ := hi i hil
      obtain ⟨v0, z0, c0, t0⟩ := hf 0 _ rfl
      obtain ⟨v1, z1, c1, t1⟩ := hf 1 _ rfl
      obtain ⟨v2, z2, c2, t2⟩ := hf 2 _ rfl
      obtain ⟨v3, z3, c3, t3⟩ := hf 3 _ rfl
      obtain ⟨v4, z4, c4, t4⟩ := hf 4 _ rfl
      obtain ⟨n0, e0, _, f0⟩ := DataW.trod_int Try.underlying3 t0
      obtain ⟨n1, e1, _, f1⟩ := DataW.trod_int Try.underlying3 t1
      obtain ⟨n2, e2, _, f2⟩ := DataW.trod_int Try.underlying3 t2
      obtain ⟨n3, e3, _, f3⟩ := DataW.trod_int Try.underlying22 t3
      obtain ⟨n4, e4, _, f4⟩ := DataW.trod_int Try.underlying22 t4
      injection e0 with e0 _; injection e1 with e1 _; injection e2 with e2 _; injection e3 with e3 _; injection e4 with e4 _
      subst e0; subst e1; subst e2; subst e3; subst e4
      refine ⟨⟨n0, n1, n2, n3, n4⟩, ⟨wf_u64 f3, wf_u64 f4⟩, c0, c1, c2, c3, c4⟩
    obtain ⟨L, hL, hz⟩ := list_of hh
    refine ⟨L, hL, by have := hm; simp [maxLen] at this; omega, fun z hz' => ?_, fun i z hiz => ?_⟩
    · obtain ⟨i, hi'⟩ := List.mem_iff_getElem?.1 hz'
      exact (hz i z hi').1
    · obtain ⟨_, c0, c1, c2, c3, c4⟩ := hz i z hiz
      rw [add_at _ _ 0] at c1
      rw [add_at _ _ 1] at c2
      rw [add_at _ _ 2] at c3
      rw [add_at _ _ 3] at c4
      exact ⟨y, rfl, by have := cell_lt c0; rwa [add_blk] at this, c0, c1, c2, c3, c4⟩
end

theorem ActsAt.nil (w : World) (B : Nat) : ActsAt w B none 0 [] := ⟨rfl, by omega, by simp, by simp⟩

/-- what ran leaves -/
def RanGood (w w' : World) (e : Ending) (n : Nat) (lk lb : Int) : Prop := ∃ p b r a c u, e = .returned (.tuple #[.pointer (some ⟨p, 0, none⟩), .pointer (some ⟨r, 0, none⟩), .bool true]) ∧
  w.heap.size ≤ p ∧ w.heap.size ≤ b ∧ w.heap.size ≤ r ∧ w.heap.size ≤ a ∧ w.heap.size ≤ c ∧ QAt w' p b u lk lb ∧ RAt w' r a c u lk lb ∧ Ok u lk lb ∧ u.length = n ∧ Kp NoB w w'
theorem ran_bad {w : World} (n k b : Int) (x : Option Addr) (len cap : Nat) (most : Int) (h : newB n k b = true) :
   Calls Try.prog 9 #[.int .i64 n, .int .u64 k, .int .u64 b, .slice x len cap, .int .i64 most] w fun e w' => e = .returned (.tuple #[.pointer none, .pointer none, .bool true]) ∧ Kp NoB w w' := by
  have H1 := hid (fun (w : World) => new_bad (w := w) n k b h)
  have H2 := hid (fun (w : World) => rnew_bad (w := w) n k b h)
  clear h
  go_enter Try.func9, Try.ntmps9
  go_wp2_with fail
  refine (H1.out _).mono ?_
  rintro e w' ⟨rfl, rfl⟩
  go_wp2_with fail
  refine (H2.out _).mono ?_
  rintro e w' ⟨rfl, rfl⟩
  go_wp2_with fail
  go_ret3
  exact ⟨rfl, by first | exact Kp.refl _ w | exact (Kp.refl _ w).alloc _⟩
theorem ran_long {w : World} (n k b : Int) (x : Option Addr) (len cap : Nat) (most : Int) (h : newB n k b = false) (hl : most < len) :
   Calls Try.prog 9 #[.int .i64 n, .int .u64 k, .int .u64 b, .slice x len cap, .int .i64 most] w fun e w' => e = .returned (.tuple #[.pointer none, .pointer none, .bool true]) ∧ Kp NoB w w' := by
  obtain ⟨m, rfl, h1, h2, h3, h4⟩ := newB_no h
  have H1 := hid (fun (w : World) => new_good (w := w) m k b h1 h2 h3 h4)
  have H2 := hid (fun (w : World) => rnew_good (w := w) m k b h1 h2 h3 h4)
  clear h
  go_enter Try.func9, Try.ntmps9
  go_wp2_with fail
  refine (H1.out _).mono ?_
  rintro e w1 ⟨rfl, q1, k1⟩
  go_wp2_with fail
  refine (H2.out _).mono ?_
  rintro e w2 ⟨r, a, c, rfl, g1, g2, g3, r2, k2⟩
  go_wp2_with fail
  go_ret3
  exact ⟨rfl, k1.trans k2⟩
set_option maxRecDepth 100000 in
set_option maxHeartbeats 4000000 in
theorem ran_good {w : World} (m : Nat) (k b : Int) (x : Option Addr) (len cap : Nat) (L : List A5) (most : Int) (hk : 0 ≤ k) (hb : 0 ≤ b) (h1 : 1 ≤ m) (h2 : m ≤ 16) (h3 : k ≤ 1073741824) (h4 : b ≤ 1073741824) (hl : (len : Int) ≤ most)
    (hL : ActsAt w w.heap.size x len L) :
   Calls Try.prog 9 #[.int .i64 m, .int .u64 k, .int .u64 b, .slice x len cap, .int .i64 most] w fun e w' => RanGood w w' e m k b := by
  have H1 := hid (fun (w : World) => new_good (w := w) m k b h1 h2 h3 h4)
  have H2 := hid (fun (w : World) => rnew_good (w := w) m k b h1 h2 h3 h4)
  have o0 := zeros_ok h1 h2 hk h3 hb h4
  go_enter Try.func9, Try.ntmps9
  go_wp2_with fail
  refine (H1.out _).mono ?_
  rintro e w1 ⟨rfl, q1, k1⟩
  go_wp2_with fail
  refine (H2.out _).mono ?_
  rintro e w2 ⟨r, a, c, rfl, g1, g2, g3, r2, k2⟩
  have q2 := q1.kp k2 (fun h => h) (fun h => h)
  have K2 := k1.trans k2
  have zl : (List.replicate m ((0 : Int), (0 : Int))).length = m := by simp
  generalize List.replicate m ((0 : Int), (0 : Int)) = u0 at *
  have s1 := k1.size
  have s2 := k2.size
  go_wp2_with fail
  go_loopw [17] (fun i W => ∃ (j : Nat) (u : List (Int × Int)), j ≤ len ∧ i = .int .i64 j ∧ QAt W (w.heap.size + 1) w.heap.size u k b ∧ RAt W r a c u k b ∧ Ok u k b ∧ u.length = m ∧ Kp NoB w W) (fun i _ => len - (intOf i).toNat)
  case atStart => exact ⟨0, u0, Nat.zero_le _, rfl, q2, r2, o0, zl, K2⟩
  case round =>
    obtain ⟨j, u, hj, rfl, hq, hr, ho, hul, hK⟩ := hrel
    have ha := hL.kp hK (Nat.le_refl _) (fun _ h => h.elim)
    by_cases hlt : j < len
    · have hjl : j < L.length := by rw [hL.ln]; exact hlt
      obtain ⟨z, hz⟩ : ∃ z, L[j]? = some z := ⟨_, List.getElem?_eq_getElem hjl⟩
      obtain ⟨y, rfl, hy, c0, c1, c2, c3, c4⟩ := ha.at_ j z hz
      have hmx := hL.mx
      have hwf := hL.wf z (List.mem_of_getElem? hz)
      have HD := hid (do_any z.k z.a z.b z.n z.m hq hr ho hwf.1 hwf.2)
      have b1 : (0 : Int) ≤ (j : Int) := Int.natCast_nonneg _
      have b2 : (j : Int) < (len : Int) := by omega
      go_wp2_with fail
      refine HD.out.mono ?_
      rintro e w3 ⟨rfl, q3, r3, k3⟩
      go_wp2_with fail
      go_roundw
      case rel => 
        exact ⟨j + 1, _, by omega, by go_num, q3, r3, actU_ok ho _ _ _ _ _ hwf.1.1 hwf.2.1, by rw [actU_len]; exact hul, hK.trans' k3 (fun q hq hf => by unfold TwoF at hf; omega)⟩
      case measure => simp [intOf]; omega
    · go_wp2_with fail
      go_ret3
      exact ⟨_, _, _, _, _, u, rfl, by omega, by omega, by omega, by omega, by omega, hq, hr, ho, hul, hK⟩
end Go.Proofs.Ytaghkgddnjdjcaa
