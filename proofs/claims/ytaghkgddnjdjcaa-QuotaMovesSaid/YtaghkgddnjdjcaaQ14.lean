/- A move changes no sum: the plain law, and the law's walk at any acts. -/
import Derived.Test.YtaghkgddnjdjcaaQ12
namespace Go.Proofs.Ytaghkgddnjdjcaa
set_option linter.unusedSimpArgs false
set_option linter.unusedVariables false
open Go.RowKit
attribute [local go_sem ↓] Go.wp_at_zero Go.wp_at_succ

theorem sum_set {α : Type} (f : α → Int) : ∀ (l : List α) (k : Nat) (x z : α), l[k]? = some x → ((l.set k z).map f).sum = (l.map f).sum - f x + f z := by
  intro l
  induction l with
  | nil => intro k x z h; simp at h
  | cons y l ih =>
    intro k x z h
    cases k with
    | zero => simp at h; subst h; simp; omega
    | succ k =>
      simp only [List.getElem?_cons_succ] at h
      simp only [List.set_cons_succ, List.map_cons, List.sum_cons]
      rw [ih k x z h]; omega
theorem sum_snoc {α : Type} (f : α → Int) {l : List α} {k : Nat} {x : α} (h : l[k]? = some x) : ((l.take (k + 1)).map f).sum = ((l.take k).map f).sum + f x := by
  obtain ⟨hk, rfl⟩ := List.getElem?_eq_some_iff.1 h
  rw [take_snoc l hk, List.map_append, List.sum_append]; simp
theorem sum_take {α : Type} (f : α → Int) (M : Int) : ∀ (l : List α), (∀ x ∈ l, 0 ≤ f x ∧ f x ≤ M) → ∀ k, 0 ≤ ((l.take k).map f).sum ∧ ((l.take k).map f).sum ≤ (l.map f).sum ∧ (l.map f).sum ≤ l.length * M := by
  intro l
  induction l with
  | nil => intro _ k; simp
  | cons y l ih =>
    intro h k
    have hy := h y (by simp)
    have hl : ∀ x ∈ l, 0 ≤ f x ∧ f x ≤ M := fun x hx => h x (by simp [hx])
    have e : ((l.length + 1 : Nat) : Int) * M = l.length * M + M := by rw [Int.natCast_add, Int.add_mul]; simp
    cases k with
    | zero =>
      have := ih hl 0
      simp only [List.take_zero, List.map_nil, List.sum_nil, List.map_cons, List.sum_cons, List.length_cons] at this ⊢
      rw [e]; omega
    | succ k =>
      have := ih hl k
      simp only [List.take_succ_cons, List.map_cons, List.sum_cons, List.length_cons]
      rw [e]; omega
def sK (u : List (Int × Int)) : Int := (u.map (·.1)).sum
def sY (u : List (Int × Int)) : Int := (u.map (·.2)).sum
theorem Ok.sK {u : List (Int × Int)} {lk lb : Int} (o : Ok u lk lb) (k : Nat) : 0 ≤ sK (u.take k) ∧ sK (u.take k) ≤ sK u ∧ sK u ≤ 17179869184 := by
  have h := sum_take (·.1) 1073741824 u (fun x hx => by have := o.all x hx; have := o.k1; constructor <;> omega) k
  have n2 := o.n2
  unfold Ytaghkgddnjdjcaa.sK
  refine ⟨h.1, h.2.1, ?_⟩
  have := h.2.2
  omega
theorem Ok.sY {u : List (Int × Int)} {lk lb : Int} (o : Ok u lk lb) (k : Nat) : 0 ≤ sY (u.take k) ∧ sY (u.take k) ≤ sY u ∧ sY u ≤ 17179869184 := by
  have h := sum_take (·.2) 1073741824 u (fun x hx => by have := o.all x hx; have := o.b1; constructor <;> omega) k
  have n2 := o.n2
  unfold Ytaghkgddnjdjcaa.sY
  refine ⟨h.1, h.2.1, ?_⟩
  have := h.2.2
  omega
theorem moveE_has {u : List (Int × Int)} {lk lb i j d1 d2 : Int} (h : moveE u lk lb i j d1 d2 = 0) : hasB u.length i = true ∧ hasB u.length j = true := by
  unfold moveE at h
  by_cases hh : (hasB u.length i && hasB u.length j) = true
  · rw [Bool.and_eq_true] at hh; exact hh
  · rw [if_neg hh] at h; omega
theorem move_sum {u : List (Int × Int)} {lk lb : Int} (o : Ok u lk lb) (i j d1 d2 : Int) (h1 : 0 ≤ d1) (h2 : 0 ≤ d2) : sK (moveU u lk lb i j d1 d2) = sK u ∧ sY (moveU u lk lb i j d1 d2) = sY u := by
  unfold moveU
  split
  · rename_i hc
    obtain ⟨hE, hne⟩ := hc
    obtain ⟨hi, hj⟩ := moveE_has hE
    obtain ⟨k, rfl, hk⟩ := has_nat hi
    obtain ⟨q, rfl, hq⟩ := has_nat hj
    obtain ⟨⟨x, y⟩, hx⟩ : ∃ xy, u[k]? = some xy := ⟨_, List.getElem?_eq_getElem hk⟩
    obtain ⟨⟨x', y'⟩, hx'⟩ : ∃ xy, u[q]? = some xy := ⟨_, List.getElem?_eq_getElem hq⟩
    have hkq : k ≠ q := fun e => hne (by rw [e])
    unfold moveE at hE
    rw [hi, hj, Bool.and_self, if_pos rfl] at hE
    by_cases c : d1 ≤ x ∧ d2 ≤ y
    · obtain ⟨e1, e2⟩ := release_yes (lk := lk) (lb := lb) o hx h1 h2 c
      rw [e1, if_pos rfl, if_neg hne] at hE
      have hx2 : (u.set k (x - d1, y - d2))[q]? = some (x', y') := by rw [List.getElem?_set_ne hkq]; exact hx'
      have o2 : Ok (u.set k (x - d1, y - d2)) lk lb := o.set _ _ _ (by have := o.at hx; omega)
      by_cases c2 : d1 ≤ lk - x' ∧ d2 ≤ lb - y'
      · obtain ⟨e3, e4⟩ := charge_yes o2 hx2 c2
        rw [e2, e4]
        unfold sK sY
        rw [sum_set _ _ _ _ _ hx2, sum_set _ _ _ _ _ hx2, sum_set _ _ _ _ _ hx, sum_set _ _ _ _ _ hx]
        simp only
        omega
      · rw [(charge_no o hx' c2).1] at hE; omega
    · rw [(release_no hx c).1] at hE; simp at hE
  · exact ⟨rfl, rfl⟩

set_option maxRecDepth 100000 in
set_option maxHeartbeats 8000000 in
theorem moves_any {w : World} (n k b : Int) (x : Option Addr) (len cap : Nat) (L : List A5) (from_ to m1 m2 : Int) (hk : 0 ≤ k) (hb : 0 ≤ b) (hm1 : B64 m1) (hm2 : B64 m2) (hL : ActsAt w w.heap.size x len L) :
   Calls Try.prog 4 #[.int .i64 n, .int .u64 k, .int .u64 b, .slice x len cap, .int .i64 from_, .int .i64 to, .int .u64 m1, .int .u64 m2] w fun e w' => e = .returned (.bool true) ∧ Kp NoB w w' := by
  have HK := hid known_any
  by_cases hn : newB n k b = true
  · have H1 := hid (fun (w : World) => ran_bad (w := w) n k b x len cap 300 hn)
    go_enter Try.func4, Try.ntmps4
    go_wp2_with fail
    refine (H1.out _).mono ?_
    rintro e w1 ⟨rfl, k1⟩
    go_wp2_with fail
    refine (HK.out _).mono ?_
    rintro e w2 ⟨rfl, k2⟩
    go_wp2_with fail
    go_ret
    exact ⟨rfl, k1.trans k2⟩
  · have hn' : newB n k b = false := by simpa using hn
    clear hn
    by_cases hl : len > 300
    · have H1 := hid (fun (w : World) => ran_long (w := w) n k b x len cap 300 hn' (by omega))
      go_enter Try.func4, Try.ntmps4
      go_wp2_with fail
      refine (H1.out _).mono ?_
      rintro e w1 ⟨rfl, k1⟩
      go_wp2_with fail
      refine (HK.out _).mono ?_
      rintro e w2 ⟨rfl, k2⟩
      go_wp2_with fail
      go_ret
      exact ⟨rfl, k1.trans k2⟩
    · obtain ⟨m, rfl, h1, h2, h3, h4⟩ := newB_no hn'
      have H1 := hid (ran_good (w := w) m k b x len cap L 300 hk hb h1 h2 h3 h4 (by omega) hL)
      clear hn' hL
      go_enter Try.func4, Try.ntmps4
      go_wp2_with fail
      refine H1.out.mono ?_
      rintro e w1 ⟨p, bb, r, a, c, u, rfl, g1, g2, g3, g4, g5, q1, r1, o1, ul, k1⟩
      clear r1 g3 g4 g5
      go_wp2_with fail
      go_loopw [20, 21, 22] (fun s y i W => ∃ q : Nat, q ≤ m ∧ s = .int .u64 (sK (u.take q)) ∧ y = .int .u64 (sY (u.take q)) ∧ i = .int .i64 q ∧ QAt W p bb u k b ∧ Kp NoB w W) (fun _ _ i _ => m - (intOf i).toNat)
      case atStart => exact ⟨0, Nat.zero_le _, rfl, rfl, rfl, q1, k1⟩
      case round =>
        obtain ⟨q, hq, rfl, rfl, rfl, hQ, hKq⟩ := hrel
        by_cases hlt : q < m
        · obtain ⟨⟨x, y⟩, hxy⟩ : ∃ xy, u[q]? = some xy := ⟨_, List.getElem?_eq_getElem (by omega)⟩
          have hxb := o1.at hxy
          have k1' := o1.k1
          have b1' := o1.b1
          have HE := hid (show ofV u q = (x, y) from by simp [ofV, has_of hxy, hxy])
          have b1 : (0 : Int) ≤ (q : Int) := Int.natCast_nonneg _
          have b2 : (q : Int) < (m : Int) := by omega
          have HO := hid (of_any q hQ o1)
          have e1 := hid (show sK (u.take (q + 1)) = sK (u.take q) + x from sum_snoc _ hxy)
          have e2 := hid (show sY (u.take (q + 1)) = sY (u.take q) + y from sum_snoc _ hxy)
          obtain ⟨s0, s1, s2⟩ := o1.sK q
          obtain ⟨y0, y1, y2⟩ := o1.sY q
          clear hxy
          generalize sK (u.take q) = S at *
          generalize sY (u.take q) = Y at *
          go_wp2_with fail
          refine HO.out.mono ?_
          rintro e w4 ⟨rfl, k4⟩
          rw [HE.out]
          go_wp2_with fail
          go_roundw
          case rel => exact ⟨q + 1, by omega, by rw [e1.out], by rw [e2.out], by go_num, hQ.kp k4 (fun h => h) (fun h => h), hKq.trans k4⟩
          case measure => simp [intOf]; omega
        · have hqm : q = m := by omega
          subst hqm
          have eT1 := hid (show u.take q = u from by rw [← ul]; exact List.take_length)
          have HM := hid (move_any from_ to m1 m2 hQ o1 hm1 hm2)
          have o2 := moveU_ok o1 from_ to m1 m2 hm1.1 hm2.1
          have ul2 := (moveU_len (u := u) (lk := k) (lb := b) from_ to m1 m2).trans ul
          obtain ⟨m1', m2'⟩ := move_sum o1 from_ to m1 m2 hm1.1 hm2.1
          have HH : Hid (moveE u k b from_ to m1 m2 = 0 → hasB u.length from_ = true ∧ hasB u.length to = true) := hid moveE_has
          generalize moveU u k b from_ to m1 m2 = u' at *
          generalize moveE u k b from_ to m1 m2 = ee at *
          rw [eT1.out, ← m1', ← m2']
          clear m1' m2' eT1
          go_wp2_with fail
          refine HM.out.mono ?_
          rintro e w4 ⟨rfl, q4, k4⟩
          go_wp2_with fail
          have K4 := hKq.trans' k4 (fun q hq hf => by omega)
          go_loopw [20, 21, 26] (fun s y i W => ∃ t : Nat, t ≤ q ∧ s = .int .u64 (sK u' - sK (u'.take t)) ∧ y = .int .u64 (sY u' - sY (u'.take t)) ∧ i = .int .i64 t ∧ QAt W p bb u' k b ∧ Kp NoB w W) (fun _ _ i _ => q - (intOf i).toNat)
          case atStart => exact ⟨0, Nat.zero_le _, by simp [sK], by simp [sY], rfl, q4, K4⟩
          case round =>
            obtain ⟨t, ht, rfl, rfl, rfl, hQ', hKt⟩ := hrel
            by_cases hlt' : t < q
            · obtain ⟨⟨x, y⟩, hxy⟩ : ∃ xy, u'[t]? = some xy := ⟨_, List.getElem?_eq_getElem (by omega)⟩
              have hxb := o2.at hxy
              have k1' := o2.k1
              have b1' := o2.b1
              have HE := hid (show ofV u' t = (x, y) from by simp [ofV, has_of hxy, hxy])
              have b1 : (0 : Int) ≤ (t : Int) := Int.natCast_nonneg _
              have b2 : (t : Int) < (q : Int) := by omega
              have HO := hid (of_any t hQ' o2)
              have e1 := sum_snoc (·.1) hxy
              have e2 := sum_snoc (·.2) hxy
              change sK (u'.take (t + 1)) = sK (u'.take t) + x at e1
              change sY (u'.take (t + 1)) = sY (u'.take t) + y at e2
              obtain ⟨s0, s1, s2⟩ := o2.sK (t + 1)
              obtain ⟨y0, y1, y2⟩ := o2.sY (t + 1)
              have s3 := (o2.sK t).1
              have y3 := (o2.sY t).1
              rw [e1] at s0 s1
              rw [e2] at y0 y1
              have e1 := hid e1
              have e2 := hid e2
              clear hxy
              obtain ⟨S, hS⟩ : ∃ S, S = sK u' - sK (u'.take t) := ⟨_, rfl⟩
              obtain ⟨Y, hY⟩ : ∃ Y, Y = sY u' - sY (u'.take t) := ⟨_, rfl⟩
              rw [← hS, ← hY]
              have S0 : 0 ≤ S - x := by omega
              have S1 : S ≤ 17179869184 := by omega
              have Y0 : 0 ≤ Y - y := by omega
              have Y1 : Y ≤ 17179869184 := by omega
              have hS := hid hS
              have hY := hid hY
              clear s0 s1 s2 y0 y1 y2 s3 y3
              go_wp2_with fail
              refine HO.out.mono ?_
              rintro e w5 ⟨rfl, k5⟩
              rw [HE.out]
              go_wp2_with fail
              go_roundw
              case rel => exact ⟨t + 1, by omega, by rw [e1.out]; congr 1; have := hS.out; omega, by rw [e2.out]; congr 1; have := hY.out; omega, by go_num, hQ'.kp k5 (fun h => h) (fun h => h), hKt.trans k5⟩
              case measure => simp [intOf]; omega
            · have hqm : t = q := by omega
              subst hqm
              have eT1 := hid (show u'.take t = u' from by rw [← ul2]; exact List.take_length)
              rw [eT1.out, Int.sub_self, Int.sub_self]
              by_cases he : ee = 0
              · obtain ⟨hi, hj⟩ := HH.out he
                obtain ⟨i', rfl, hi'⟩ := has_nat hi
                obtain ⟨j', rfl, hj'⟩ := has_nat hj
                have t1 : (0 : Int) ≤ (i' : Int) := Int.natCast_nonneg _
                have t2 : (i' : Int) < (t : Int) := by omega
                have t3 : (0 : Int) ≤ (j' : Int) := Int.natCast_nonneg _
                have t4 : (j' : Int) < (t : Int) := by omega
                subst he
                clear hi hj
                go_wp2_with fail
                refine (HK.out _).mono ?_
                rintro e w5 ⟨rfl, k5⟩
                go_wp2_with fail
                go_ret
                exact ⟨rfl, hKt.trans k5⟩
              · have he' : (ee != 0) = true := by simpa using he
                go_wp2_with fail
                refine (HK.out _).mono ?_
                rintro e w5 ⟨rfl, k5⟩
                go_wp2_with fail
                go_ret
                exact ⟨rfl, hKt.trans k5⟩
end Go.Proofs.Ytaghkgddnjdjcaa
