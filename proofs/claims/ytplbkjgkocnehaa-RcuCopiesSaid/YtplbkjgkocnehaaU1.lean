/- Walks through rcu: what it is in memory; tasks, is, Len, Depth, Enter. -/
import Derived.Test.YtplbkjgkocnehaaProg
import Derived.Test.YtplbkjgkocnehaaLibB
import Derived.Test.YtplbkjgkocnehaaLibX
import Derived.Test.YtplbkjgkocnehaaLibY
import Derived.Test.YtplbkjgkocnehaaLibN
import Derived.Deep.QuietTactic
import Derived.BigQuiet
import Derived.StillTailTactics
import Derived.Deep.RegionHeld3
import Derived.Deep.DrawnRows
import Derived.Laws.EntriesVeiled
namespace Go.Proofs.Ytplbkjgkocnehaa
set_option linter.unusedSimpArgs false
set_option linter.unusedVariables false
open Go.RowKit
attribute [local go_sem ↓] Go.wp_at_zero Go.wp_at_succ

theorem wi_in {x : Int} (h : -9223372036854775808 ≤ x ∧ x ≤ 9223372036854775807) : IntKind.i64.wrap x = x := by simp [IntKind.wrap, IntKind.bits, IntKind.signed]; omega
def eN (n : Nat) : List Value := [.int .i64 n]
theorem eN_len (x : Nat) : (eN x).length = 1 := rfl
def eH (h : Int × Int) : List Value := [.int .i64 h.1, .int .u64 h.2]
theorem eH_len (h : Int × Int) : (eH h).length = 2 := rfl
/-- what was retired: records, nodes, extents -/
structure Ret where
  a : List (Int × Int)
  b : List (Int × Int)
  c : List (Int × Int)
  deriving DecidableEq
/-- its cells, and the map of those that are waited for -/
structure HV where
  a : Value
  b : Value
  c : Value
  m : Nat
def eD (h : HV) : List Value := [h.a, h.b, h.c, .map (some h.m)]
theorem eD_len (h : HV) : (eD h).length = 4 := rfl
def wM (ws : List Nat) : List (Int × Value) := ws.map fun t : Nat => ((t : Int), Value.int .i64 t)
structure HOk (w : World) (h : HV) (x : Ret) (ws : List Nat) : Prop where
  a : RowAt w 59 eH 2 h.a x.a
  b : RowAt w 59 eH 2 h.b x.b
  c : RowAt w 59 eH 2 h.c x.c
  m : MapAt .i64 w h.m (wM ws)
/-- an RCU: the struct at p, the depths in u, the row in v -/
structure UAt (w : World) (p : Nat) (u v : Value) (D : List Nat) (H : List HV) (R : List (Ret × List Nat)) : Prop where
  hp : w.heap[p]? = some (.cells #[u, v] 68 (0, 0))
  hu : RowAt w 3 eN 1 u D
  hv : Off w 74 eD 4 v H
  hl : H.length = R.length
  hh : ∀ (k : Nat) (h : HV) (x : Ret) (ws : List Nat), H[k]? = some h → R[k]? = some (x, ws) → HOk w h x ws
  nd : (H.map (·.m)).Nodup
/-- its sizes -/
structure UOk (D : List Nat) (R : List (Ret × List Nat)) (K : Nat) : Prop where
  n1 : 1 ≤ D.length
  n8 : D.length ≤ 8
  d : ∀ d ∈ D, d ≤ K
  r : R.length ≤ K
  k : K ≤ 1000
  x : ∀ x ws, (x, ws) ∈ R → x.a.length ≤ 3000 ∧ x.b.length ≤ 3000 ∧ x.c.length ≤ 3000
  w : ∀ x ws, (x, ws) ∈ R → ws.Pairwise (· < ·) ∧ ∀ t ∈ ws, t < D.length
  i : ∀ x ws, (x, ws) ∈ R → ∀ t ∈ ws, 0 < D.getD t 0
def HV.fp (h : HV) (b : Nat) : Prop := h.a.ownBlock = some b ∨ h.b.ownBlock = some b ∨ h.c.ownBlock = some b ∨ h.m = b
/-- its blocks -/
def ufp (p : Nat) (u v : Value) (H : List HV) (b : Nat) : Prop := b = p ∨ u.ownBlock = some b ∨ v.ownBlock = some b ∨ ∃ h ∈ H, h.fp b
section
variable {w w' : World} {p : Nat} {u v : Value} {D : List Nat} {H : List HV} {R : List (Ret × List Nat)} {K : Nat}
theorem RowAt.put {α : Type} {e : TypeId} {f : α → List Value} (hf : ∀ x, (f x).length = 1) {b c k : Nat} {l : List α} (h : RowAt w e f 1 (.slice (some ⟨b, 0, none⟩) l.length c) l) (hk : k < l.length) {y : α} {z : Value} (hz : f y = [z]) :
    RowAt (w.setCell ⟨b, k, none⟩ z) e f 1 (.slice (some ⟨b, 0, none⟩) l.length c) (l.set k y) := by
  obtain ⟨b', c', A, hv, hb, hP, hc, hm, hs⟩ := h.pos hf (by omega)
  injection hv with h1 _ h3
  injection h1 with h1
  injection h1 with h1
  subst h1; subst h3
  have hP' := hP.set hf (by omega) hk y
  have hb' := blk_setCell hb k z
  have := RowAt.own hf (l := l.set k y) (c := c) hb' (by rw [hz, Nat.mul_one] at hP'; exact hP') (by rw [List.length_set]; exact hc) hm (by rw [Array.size_setIfInBounds]; exact hs)
  rw [List.length_set] at this
  exact this
theorem HOk.kp {F : Nat → Prop} {h : HV} {x : Ret} {ws : List Nat} (o : HOk w h x ws) (k : Kp F w w') (hF : ∀ b, h.fp b → ¬ F b) : HOk w' h x ws :=
  ⟨o.a.kp k (fun b hb => hF b (.inl hb)), o.b.kp k (fun b hb => hF b (.inr (.inl hb))), o.c.kp k (fun b hb => hF b (.inr (.inr (.inl hb)))), o.m.kp k (hF _ (.inr (.inr (.inr rfl))))⟩
theorem HOk.lt {h : HV} {x : Ret} {ws : List Nat} (o : HOk w h x ws) : ∀ b, h.fp b → b < w.heap.size := by
  rintro b (h1 | h1 | h1 | rfl)
  · exact o.a.lt b h1
  · exact o.b.lt b h1
  · exact o.c.lt b h1
  · exact o.m.lt
theorem UAt.at_ (h : UAt w p u v D H R) {k : Nat} {h' : HV} (hk : H[k]? = some h') : ∃ x ws, R[k]? = some (x, ws) ∧ HOk w h' x ws := by
  have hkl := (List.getElem?_eq_some_iff.1 hk).1
  obtain ⟨⟨x, ws⟩, hx⟩ : ∃ y, R[k]? = some y := ⟨_, List.getElem?_eq_getElem (by rw [← h.hl]; exact hkl)⟩
  exact ⟨x, ws, hx, h.hh k h' x ws hk hx⟩
theorem UAt.lt (h : UAt w p u v D H R) : ∀ b, ufp p u v H b → b < w.heap.size := by
  rintro b (rfl | h1 | h1 | ⟨h', hm, h1⟩)
  · exact blk_lt h.hp
  · exact h.hu.lt b h1
  · exact h.hv.lt b h1
  · obtain ⟨k, hk⟩ := List.getElem?_of_mem hm
    obtain ⟨x, ws, _, o⟩ := h.at_ hk
    exact o.lt b h1
theorem UAt.kp {F : Nat → Prop} (h : UAt w p u v D H R) (k : Kp F w w') (hF : ∀ b, ufp p u v H b → ¬ F b) : UAt w' p u v D H R :=
  ⟨k.get h.hp (hF p (.inl rfl)), h.hu.kp k (fun b hb => hF b (.inr (.inl hb))), h.hv.kp k (fun b hb => hF b (.inr (.inr (.inl hb)))), h.hl,
   fun i h' x ws h1 h2 => (h.hh i h' x ws h1 h2).kp k (fun b hb => hF b (.inr (.inr (.inr ⟨h', List.mem_of_getElem? h1, hb⟩)))), h.nd⟩
theorem UAt.kn (h : UAt w p u v D H R) (k : Kp NoB w w') : UAt w' p u v D H R := h.kp k (fun _ _ h => h)
theorem UAt.alloc (h : UAt w p u v D H R) (o : Obj) : UAt (w.alloc o) p u v D H R := h.kn ((Kp.refl _ w).alloc o)
theorem UAt.drew (h : UAt w p u v D H R) : UAt w.drew p u v D H R := h.kn (Kp.refl _ w).drew
theorem tasks_any (h : UAt w p u v D H R) : Calls Try.prog 37 #[.pointer (some ⟨p, 0, none⟩)] w fun e w' => e = .returned (.int .i64 D.length) ∧ w = w' := by
  have Lp := loc2 h.hp
  obtain ⟨ou, cu, rfl, hc, _⟩ := h.hu.form
  clear h
  go_enter Try.func37, Try.ntmps37
  go_wp2
  go_ret
  exact ⟨rfl, rfl⟩
theorem len_any (h : UAt w p u v D H R) : Calls Try.prog 16 #[.pointer (some ⟨p, 0, none⟩)] w fun e w' => e = .returned (.int .i64 R.length) ∧ w = w' := by
  have Lp := loc2 h.hp
  obtain ⟨ov, cv, rfl, hc, _⟩ := h.hv.form
  rw [h.hl] at *
  clear h
  go_enter Try.func16, Try.ntmps16
  go_wp2
  go_ret
  exact ⟨rfl, rfl⟩
theorem is_in (h : UAt w p u v D H R) (o : UOk D R K) {t : Nat} (ht : t < D.length) : Calls Try.prog 36 #[.pointer (some ⟨p, 0, none⟩), .int .i64 t] w fun e w' => e = .returned (.int .i64 0) ∧ w = w' := by
  have HT := hid (tasks_any h)
  have Lp := loc2 h.hp
  obtain ⟨ou, cu, rfl, hc, _⟩ := h.hu.form
  have n1 : ((D.length : Int) == 0) = false := by have := o.n1; simp; intro h; rw [h] at this; simp at this
  have b1 : (0 : Int) ≤ (t : Int) := Int.natCast_nonneg _
  have b2 : (t : Int) < (D.length : Int) := by omega
  clear h o
  go_enter Try.func36, Try.ntmps36
  go_wp2_with fail
  refine HT.out.mono ?_
  rintro e w1 ⟨rfl, rfl⟩
  go_wp2_with fail
  go_ret
  exact ⟨rfl, rfl⟩
theorem is_out (h : UAt w p u v D H R) (o : UOk D R K) {t : Int} (ht : ¬ (0 ≤ t ∧ t < D.length)) : Calls Try.prog 36 #[.pointer (some ⟨p, 0, none⟩), .int .i64 t] w fun e w' => e = .returned (.int .i64 2) ∧ w = w' := by
  have HT := hid (tasks_any h)
  have Lp := loc2 h.hp
  obtain ⟨ou, cu, rfl, hc, _⟩ := h.hu.form
  have n1 : ((D.length : Int) == 0) = false := by have := o.n1; simp; intro h; rw [h] at this; simp at this
  clear h o
  by_cases h0 : t < 0
  · go_enter Try.func36, Try.ntmps36
    go_wp2_with fail
    refine HT.out.mono ?_
    rintro e w1 ⟨rfl, rfl⟩
    go_wp2_with fail
    go_ret
    exact ⟨rfl, rfl⟩
  · have h1 : (D.length : Int) ≤ t := by omega
    have h2 : 0 ≤ t := by omega
    clear ht
    go_enter Try.func36, Try.ntmps36
    go_wp2_with fail
    refine HT.out.mono ?_
    rintro e w1 ⟨rfl, rfl⟩
    go_wp2_with fail
    go_ret
    exact ⟨rfl, rfl⟩
theorem row_n {t : Nat} {d : Nat} {b c : Nat} (h : RowAt w 3 eN 1 (.slice (some ⟨b, 0, none⟩) D.length c) D) (ht : D[t]? = some d) : w.cell? ⟨b, t, none⟩ = some (.int .i64 d) ∧ w.frozen? ⟨b, t, none⟩ = false ∧ b < w.heap.size := by
  have h0 := (List.getElem?_eq_some_iff.1 ht).1
  obtain ⟨b', c', A, hv, hb, hA, hc, _⟩ := h.pos eN_len (by omega)
  injection hv with h1 _ h3
  injection h1 with h1
  injection h1 with h1
  subst h1; subst h3
  have := hA t 0 _ ht (by omega)
  rw [Nat.mul_one, Nat.add_zero] at this
  exact ⟨by rw [cell_of hb]; exact this, frozen_of hb _, blk_lt hb⟩
theorem UAt.du (h : UAt w p u v D H R) {t d : Nat} (ht : D[t]? = some d) : ∃ b c, u = .slice (some ⟨b, 0, none⟩) D.length c ∧ D.length ≤ c ∧ c ≤ maxLen := by
  obtain ⟨b, c, A, hv, _, _, h1, h2, _⟩ := h.hu.pos eN_len (by have := (List.getElem?_eq_some_iff.1 ht).1; omega)
  exact ⟨b, c, hv, h1, h2⟩
theorem depth_in (h : UAt w p u v D H R) (o : UOk D R K) {t d : Nat} (ht : D[t]? = some d) : Calls Try.prog 15 #[.pointer (some ⟨p, 0, none⟩), .int .i64 t] w fun e w' => e = .returned (.int .i64 d) ∧ w = w' := by
  have htl := (List.getElem?_eq_some_iff.1 ht).1
  have HI := hid (is_in h o htl)
  have Lp := loc2 h.hp
  obtain ⟨b, c, rfl, hc, _⟩ := h.du ht
  have Lt := row_n h.hu ht
  have b1 : (0 : Int) ≤ (t : Int) := Int.natCast_nonneg _
  have b2 : (t : Int) < (D.length : Int) := by omega
  clear h o ht
  go_enter Try.func15, Try.ntmps15
  go_wp2_with fail
  refine HI.out.mono ?_
  rintro e w1 ⟨rfl, rfl⟩
  go_wp2_with fail
  go_ret
  exact ⟨rfl, rfl⟩
theorem depth_out (h : UAt w p u v D H R) (o : UOk D R K) {t : Int} (ht : ¬ (0 ≤ t ∧ t < D.length)) : Calls Try.prog 15 #[.pointer (some ⟨p, 0, none⟩), .int .i64 t] w fun e w' => e = .returned (.int .i64 0) ∧ w = w' := by
  have HI := hid (is_out h o ht)
  clear h o ht
  go_enter Try.func15, Try.ntmps15
  go_wp2_with fail
  refine HI.out.mono ?_
  rintro e w1 ⟨rfl, rfl⟩
  go_wp2_with fail
  go_ret
  exact ⟨rfl, rfl⟩
/-- one depth turned -/
theorem UAt.setD (h : UAt w p u v D H R) {t b c : Nat} (hu : u = .slice (some ⟨b, 0, none⟩) D.length c) (ht : t < D.length) (d : Nat) : UAt (w.setCell ⟨b, t, none⟩ (.int .i64 d)) p u v (D.set t d) H R := by
  have hA := h.hu
  subst hu
  obtain ⟨b', c', A, hv, hb, _⟩ := hA.pos eN_len (by omega)
  injection hv with h1 _ h3
  injection h1 with h1
  injection h1 with h1
  subst h1; subst h3
  have KS : Kp (fun x => x = b) w (w.setCell ⟨b, t, none⟩ (.int .i64 d)) := (Kp.refl (fun x => x = b) w).setCell (p := ⟨b, t, none⟩) _ (fun _ => rfl)
  refine ⟨blk_far h.hp _ (ne_of_types h.hp hb (by decide)), hA.put eN_len ht rfl, h.hv.setCell _ _ (h.hv.ne hb (by decide)), h.hl, fun i h' x ws h1 h2 => (h.hh i h' x ws h1 h2).kp KS ?_, h.nd⟩
  have o := h.hh i h' x ws h1 h2
  rintro q hq rfl
  rcases hq with hq | hq | hq | hq
  · exact o.a.ne hb (by decide) hq
  · exact o.b.ne hb (by decide) hq
  · exact o.c.ne hb (by decide) hq
  · obtain ⟨es, ck, hm, _⟩ := o.m
    rw [hq, hb] at hm; cases hm
theorem enter_in (h : UAt w p u v D H R) (o : UOk D R K) {t d : Nat} (ht : D[t]? = some d) : Calls Try.prog 21 #[.pointer (some ⟨p, 0, none⟩), .int .i64 t] w fun e w' => e = .returned (.int .i64 0) ∧ UAt w' p u v (D.set t (d + 1)) H R ∧ Kp (fun b => u.ownBlock = some b) w w' := by
  have htl := (List.getElem?_eq_some_iff.1 ht).1
  have HI := hid (is_in h o htl)
  have Lp := loc2 h.hp
  obtain ⟨b, c, hu, hc, _⟩ := h.du ht
  have HS := hid (h.setD hu htl (d + 1))
  subst hu
  have Lt := row_n h.hu ht
  have b1 : (0 : Int) ≤ (t : Int) := Int.natCast_nonneg _
  have b2 : (t : Int) < (D.length : Int) := by omega
  have b3 : d ≤ 1000 := Nat.le_trans (o.d d (List.mem_of_getElem? ht)) o.k
  clear h o ht
  go_enter Try.func21, Try.ntmps21
  go_wp2_with fail
  refine HI.out.mono ?_
  rintro e w1 ⟨rfl, rfl⟩
  go_wp2_with fail
  go_ret
  refine ⟨rfl, by have := HS.out; rw [Int.natCast_add] at this; exact this, (Kp.refl _ w).setCell _ (fun _ => rfl)⟩
theorem enter_out (h : UAt w p u v D H R) (o : UOk D R K) {t : Int} (ht : ¬ (0 ≤ t ∧ t < D.length)) : Calls Try.prog 21 #[.pointer (some ⟨p, 0, none⟩), .int .i64 t] w fun e w' => e = .returned (.int .i64 2) ∧ w = w' := by
  have HI := hid (is_out h o ht)
  clear h o ht
  go_enter Try.func21, Try.ntmps21
  go_wp2_with fail
  refine HI.out.mono ?_
  rintro e w1 ⟨rfl, rfl⟩
  go_wp2_with fail
  go_ret
  exact ⟨rfl, rfl⟩
end
end Go.Proofs.Ytplbkjgkocnehaa
