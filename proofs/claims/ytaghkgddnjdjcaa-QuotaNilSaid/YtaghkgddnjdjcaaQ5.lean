/- Walks through the accounts of a quota: what each function returns and leaves, at any accounts that are well formed (the conditions stand in each theorem). -/
import Derived.Test.YtaghkgddnjdjcaaQP
namespace Go.Proofs.Ytaghkgddnjdjcaa
set_option linter.unusedSimpArgs false
set_option linter.unusedVariables false
open Go.RowKit
attribute [local go_sem ↓] Go.wp_at_zero Go.wp_at_succ

def eK (x : Int × Int) : List Value := [.int .u64 x.1]
def eY (x : Int × Int) : List Value := [.int .u64 x.2]
theorem eK_len (x : Int × Int) : (eK x).length = 1 := rfl
theorem eY_len (x : Int × Int) : (eY x).length = 1 := rfl
/-- the document's accounts: the struct at r, the rows at a, b -/
structure RAt (w : World) (r a b : Nat) (u : List (Int × Int)) (lk lb : Int) : Prop where
  ex : ∃ (ca cb : Nat) (A B : Array Value), w.heap[r]? = some (.cells #[.slice (some ⟨a, 0, none⟩) u.length ca, .slice (some ⟨b, 0, none⟩) u.length cb, .int .u64 lk, .int .u64 lb] 66 (0, 0)) ∧
    w.heap[a]? = some (.cells A 22 (0, 0)) ∧ w.heap[b]? = some (.cells B 22 (0, 0)) ∧ Pre eK 1 A u ∧ Pre eY 1 B u ∧ a ≠ b
section
variable {w w' : World} {r a b : Nat} {u : List (Int × Int)} {lk lb : Int}
theorem RAt.kp {F : Nat → Prop} (h : RAt w r a b u lk lb) (k : Kp F w w') (hr : ¬ F r) (ha : ¬ F a) (hb : ¬ F b) : RAt w' r a b u lk lb := by
  obtain ⟨ca, cb, A, B, h1, h2, h3, hA, hB, hab⟩ := h.ex
  exact ⟨ca, cb, A, B, k.get h1 hr, k.get h2 ha, k.get h3 hb, hA, hB, hab⟩
theorem RAt.alloc (h : RAt w r a b u lk lb) (o : Obj) : RAt (w.alloc o) r a b u lk lb := by
  obtain ⟨ca, cb, A, B, h1, h2, h3, hA, hB, hab⟩ := h.ex
  exact ⟨ca, cb, A, B, blk_alloc h1, blk_alloc h2, blk_alloc h3, hA, hB, hab⟩
theorem RAt.drew (h : RAt w r a b u lk lb) : RAt w.drew r a b u lk lb := by
  obtain ⟨ca, cb, A, B, h1, h2, h3, hA, hB, hab⟩ := h.ex
  exact ⟨ca, cb, A, B, h1, h2, h3, hA, hB, hab⟩
theorem RAt.hab (h : RAt w r a b u lk lb) : a ≠ b := by obtain ⟨ca, cb, A, B, h1, h2, h3, hA, hB, hab⟩ := h.ex; exact hab
theorem RAt.hra (h : RAt w r a b u lk lb) : r ≠ a := by obtain ⟨ca, cb, A, B, h1, h2, h3, hA, hB, hab⟩ := h.ex; exact ne_of_types h1 h2 (by decide)
theorem RAt.hrb (h : RAt w r a b u lk lb) : r ≠ b := by obtain ⟨ca, cb, A, B, h1, h2, h3, hA, hB, hab⟩ := h.ex; exact ne_of_types h1 h3 (by decide)
theorem RAt.lt (h : RAt w r a b u lk lb) : r < w.heap.size ∧ a < w.heap.size ∧ b < w.heap.size := by obtain ⟨ca, cb, A, B, h1, h2, h3, hA, hB, hab⟩ := h.ex; exact ⟨blk_lt h1, blk_lt h2, blk_lt h3⟩
theorem RAt.cs (h : RAt w r a b u lk lb) : ∃ ca cb, w.cell? ⟨r, 0, none⟩ = some (.slice (some ⟨a, 0, none⟩) u.length ca) ∧ w.cell? ⟨r, 1, none⟩ = some (.slice (some ⟨b, 0, none⟩) u.length cb) ∧
    w.cell? ⟨r, 2, none⟩ = some (.int .u64 lk) ∧ w.cell? ⟨r, 3, none⟩ = some (.int .u64 lb) ∧ r < w.heap.size := by
  obtain ⟨ca, cb, A, B, h1, h2, h3, hA, hB, hab⟩ := h.ex
  exact ⟨ca, cb, by rw [cell_of h1]; rfl, by rw [cell_of h1]; rfl, by rw [cell_of h1]; rfl, by rw [cell_of h1]; rfl, blk_lt h1⟩
theorem RAt.es (h : RAt w r a b u lk lb) {k : Nat} {x y : Int} (hk : u[k]? = some (x, y)) :
    w.cell? ⟨a, k, none⟩ = some (.int .u64 x) ∧ w.cell? ⟨b, k, none⟩ = some (.int .u64 y) ∧ w.frozen? ⟨a, k, none⟩ = false ∧ w.frozen? ⟨b, k, none⟩ = false := by
  obtain ⟨ca, cb, A, B, h1, h2, h3, hA, hB, hab⟩ := h.ex
  have h1 := hA k 0 _ hk (by omega)
  have h2' := hB k 0 _ hk (by omega)
  rw [Nat.mul_one, Nat.add_zero] at h1 h2'
  exact ⟨by rw [cell_of h2]; exact h1, by rw [cell_of h3]; exact h2', frozen_of h2 _, frozen_of h3 _⟩
theorem RAt.set (h : RAt w r a b u lk lb) {k : Nat} (hk : k < u.length) (x y : Int) :
    RAt ((w.setCell ⟨a, k, none⟩ (.int .u64 x)).setCell ⟨b, k, none⟩ (.int .u64 y)) r a b (u.set k (x, y)) lk lb := by
  have hra := h.hra
  have hrb := h.hrb
  obtain ⟨ca, cb, A, B, h1, h2, h3, hA, hB, hab⟩ := h.ex
  have s1 := hA.set eK_len (by omega) hk (x, y)
  have s2 := hB.set eY_len (by omega) hk (x, y)
  rw [Nat.mul_one] at s1 s2
  refine ⟨ca, cb, _, _, ?_, blk_far (blk_setCell h2 k _) _ hab, blk_setCell (blk_far h3 _ (Ne.symm hab)) k _, s1, s2, hab⟩
  rw [List.length_set]; exact blk_far (blk_far h1 _ hra) _ hrb
theorem RAt.setY (h : RAt w r a b u lk lb) {k : Nat} {x y0 : Int} (hk : u[k]? = some (x, y0)) (y : Int) : RAt (w.setCell ⟨b, k, none⟩ (.int .u64 y)) r a b (u.set k (x, y)) lk lb := by
  have hl := (List.getElem?_eq_some_iff.1 hk).1
  have hrb := h.hrb
  obtain ⟨ca, cb, A, B, h1, h2, h3, hA, hB, hab⟩ := h.ex
  have s2 := hB.set eY_len (by omega) hl (x, y)
  rw [Nat.mul_one] at s2
  refine ⟨ca, cb, A, _, ?_, blk_far h2 _ hab, blk_setCell h3 k _, ?_, s2, hab⟩
  · rw [List.length_set]; exact blk_far h1 _ hrb
  · intro k' j z hz hj
    by_cases e : k' = k
    · subst e
      rw [List.getElem?_set_self hl] at hz
      injection hz with hz
      rw [hA k' j _ hk hj, ← hz]; rfl
    · rw [List.getElem?_set_ne (Ne.symm e)] at hz
      exact hA k' j z hz hj
end

theorem rhas_any {r a b : Nat} {u : List (Int × Int)} {lk lb : Int} {w : World} (i : Int) (h : RAt w r a b u lk lb) :
   Calls Try.prog 20 #[.pointer (some ⟨r, 0, none⟩), .int .i64 i] w fun e w' => e = .returned (.bool (hasB u.length i)) ∧ w = w' := by
  obtain ⟨ca, cb, h0, _⟩ := h.cs
  unfold hasB
  go_enter Try.func20, Try.ntmps20
  go_wp2
  · go_ret
    exact ⟨by simp [*], rfl⟩
  · go_ret
    refine ⟨?_, rfl⟩
    rw [show decide (0 ≤ i) = false from by simp; omega]; rfl

def roomB (n k m : Int) : Bool := decide (k ≤ m) && decide (n ≤ m - k)
theorem room_any (n k m : Int) (w : World) (hk : 0 ≤ k) (hm : m < 18446744073709551616) :
   Calls Try.prog 40 #[.int .u64 n, .int .u64 k, .int .u64 m] w fun e w' => e = .returned (.bool (roomB n k m)) ∧ w = w' := by
  unfold roomB
  by_cases h1 : k ≤ m
  · go_enter Try.func40, Try.ntmps40
    go_wp2
    go_ret
    exact ⟨by simp [h1], rfl⟩
  · have h2 : decide (k ≤ m) = false := by simpa using h1
    rw [h2]
    go_enter Try.func40, Try.ntmps40
    go_wp2
    go_ret
    exact ⟨rfl, rfl⟩

theorem wr64 {x : Int} (h0 : 0 ≤ x) (h1 : x < 18446744073709551616) : IntKind.u64.wrap x = x := wr_in ⟨h0, h1⟩

set_option maxRecDepth 100000 in
set_option maxHeartbeats 1000000 in
theorem rcharge_any {r a b : Nat} {u : List (Int × Int)} {lk lb : Int} {w : World} (i m1 m2 : Int) (h : RAt w r a b u lk lb) (o : Ok u lk lb) (hm1 : B64 m1) (hm2 : B64 m2) :
   Calls Try.prog 30 #[.pointer (some ⟨r, 0, none⟩), .int .i64 i, .int .u64 m1, .int .u64 m2] w fun e w' =>
     e = .returned (.int .i64 (putE u lk lb i 0 0 m1 m2)) ∧ RAt w' r a b (putU u lk lb i 0 0 m1 m2) lk lb ∧ Kp (fun q => q = a ∨ q = b) w w' := by
  obtain ⟨hm10, hm11⟩ := hm1
  obtain ⟨hm20, hm21⟩ := hm2
  have HH := hid (rhas_any i h)
  have b0 := o.k1
  have b1 := o.b1
  have n2 := o.n2
  by_cases hh : hasB u.length i = true
  · obtain ⟨k, rfl, hk⟩ := has_nat hh
    obtain ⟨⟨x, y⟩, hxy⟩ : ∃ xy, u[k]? = some xy := ⟨_, List.getElem?_eq_getElem hk⟩
    obtain ⟨hx0, hx1, hy0, hy1⟩ := o.at hxy
    obtain ⟨ca, cb, Lc⟩ := h.cs
    have Le := h.es hxy
    have hne := h.hab
    have hne' := Ne.symm hne
    have hra := h.hra
    have hrb := h.hrb
    have hbk : (0 : Int) ≤ (k : Int) := Int.natCast_nonneg _
    have hbl : (k : Int) < (u.length : Int) := by omega
    have HB := hid hh
    have HX := hid hxy
    clear hh hxy
    by_cases c1 : m1 ≤ lk - x
    · have R1 := hid (show roomB x m1 lk = true from by simp [roomB]; omega)
      by_cases c2 : m2 ≤ lb - y
      · have R2 := hid (show roomB y m2 lb = true from by simp [roomB]; omega)
        have HP := hid (charge_yes o HX.out ⟨c1, c2⟩)
        go_enter Try.func30, Try.ntmps30
        go_wp2_with fail
        refine HH.out.mono ?_
        rintro e w' ⟨rfl, rfl⟩
        rw [HB.out]
        go_wp2_with fail
        refine wp_region_G (fun _ => True) [(0, .at_), (1, .at_), (2, .at_), (3, .at_), (4, .at_), (5, .at_), (6, .at_), (7, .at_), (8, .at_), (9, .at_), (10, .at_), (11, .at_), (12, .eff), (13, .at_), (14, .at_), (15, .at_), (16, .at_), (17, .at_), (18, .at_), (19, .at_), (20, .at_), (21, .at_), (22, .at_), (23, .at_), (24, .at_), (25, .at_), (26, .at_), (27, .eff), (28, .at_), (29, .at_)] ?L1 (by kernel_rfl) (by kernel_rfl) ?hL1 (trivial) ?hG1
        case hL1 => simp only [pickOps, List.map_cons, List.map_nil, List.getD_cons_zero, List.getD_cons_succ]; rfl
        repeat (first | (refine wpG_at (v := ?_) (by rfl) ?_ ?_; rotate_left; (focus (first | (go_simp; with_reducible rfl) | (go_simp; done))); simp only [Act.put, List.setIfInBounds_toArray, List.set_cons_zero, List.set_cons_succ]) | (refine wpG_at_skip (by rfl) ?_; simp only [Act.put, List.setIfInBounds_toArray, List.set_cons_zero, List.set_cons_succ]) | (refine wpG_held_skip (by rfl) ?_; simp only [Act.put, List.setIfInBounds_toArray, List.set_cons_zero, List.set_cons_succ]) | (refine wpG_held (v := ?_) (by rfl) ?_ ?_; rotate_left; (focus (intro w' hSw; (try dsimp only at hSw); go_split_ands; first | (go_simp; with_reducible rfl) | (go_simp; done))); simp only [Act.put, List.setIfInBounds_toArray, List.set_cons_zero, List.set_cons_succ]))
        refine wpG_eff (by rfl) (fun K hK => ?_)
        go_simp
        refine (room_any x m1 lk _ hm10 (by omega)).mono ?_
        rintro e w' ⟨rfl, rfl⟩
        rw [R1.out]
        dsimp only
        refine hK _ _ trivial ?_
        clear hK K
        repeat (first | (refine wpG_at (v := ?_) (by rfl) ?_ ?_; rotate_left; (focus (first | (go_simp; with_reducible rfl) | (go_simp; done))); simp only [Act.put, List.setIfInBounds_toArray, List.set_cons_zero, List.set_cons_succ]) | (refine wpG_at_skip (by rfl) ?_; simp only [Act.put, List.setIfInBounds_toArray, List.set_cons_zero, List.set_cons_succ]) | (refine wpG_held_skip (by rfl) ?_; simp only [Act.put, List.setIfInBounds_toArray, List.set_cons_zero, List.set_cons_succ]) | (refine wpG_held (v := ?_) (by rfl) ?_ ?_; rotate_left; (focus (intro w' hSw; (try dsimp only at hSw); go_split_ands; first | (go_simp; with_reducible rfl) | (go_simp; done))); simp only [Act.put, List.setIfInBounds_toArray, List.set_cons_zero, List.set_cons_succ]))
        refine wpG_eff (by rfl) (fun K hK => ?_)
        go_simp
        refine (room_any y m2 lb _ hm20 (by omega)).mono ?_
        rintro e w' ⟨rfl, rfl⟩
        rw [R2.out]
        dsimp only
        refine hK _ _ trivial ?_
        clear hK K
        repeat (first | (refine wpG_at (v := ?_) (by rfl) ?_ ?_; rotate_left; (focus (first | (go_simp; with_reducible rfl) | (go_simp; done))); simp only [Act.put, List.setIfInBounds_toArray, List.set_cons_zero, List.set_cons_succ]) | (refine wpG_at_skip (by rfl) ?_; simp only [Act.put, List.setIfInBounds_toArray, List.set_cons_zero, List.set_cons_succ]) | (refine wpG_held_skip (by rfl) ?_; simp only [Act.put, List.setIfInBounds_toArray, List.set_cons_zero, List.set_cons_succ]) | (refine wpG_held (v := ?_) (by rfl) ?_ ?_; rotate_left; (focus (intro w' hSw; (try dsimp only at hSw); go_split_ands; first | (go_simp; with_reducible rfl) | (go_simp; done))); simp only [Act.put, List.setIfInBounds_toArray, List.set_cons_zero, List.set_cons_succ]))
        refine wpG_nil (NoPanic.normal ?_)
        go_wp2_with fail
        refine wp_region_G (fun _ => True) [(0, .at_), (1, .at_), (2, .at_), (3, .at_), (4, .at_), (5, .at_), (6, .at_), (7, .at_), (8, .at_), (9, .at_), (10, .at_), (11, .at_), (12, .at_), (13, .at_), (14, .at_), (15, .eff)] ?L2 (by kernel_rfl) (by kernel_rfl) ?hL2 (trivial) ?hG2
        case hL2 => simp only [pickOps, List.map_cons, List.map_nil, List.getD_cons_zero, List.getD_cons_succ]; rfl
        repeat (first | (refine wpG_at (v := ?_) (by rfl) ?_ ?_; rotate_left; (focus (first | (go_simp; with_reducible rfl) | (go_simp; done))); simp only [Act.put, List.setIfInBounds_toArray, List.set_cons_zero, List.set_cons_succ]) | (refine wpG_at_skip (by rfl) ?_; simp only [Act.put, List.setIfInBounds_toArray, List.set_cons_zero, List.set_cons_succ]) | (refine wpG_held_skip (by rfl) ?_; simp only [Act.put, List.setIfInBounds_toArray, List.set_cons_zero, List.set_cons_succ]) | (refine wpG_held (v := ?_) (by rfl) ?_ ?_; rotate_left; (focus (intro w' hSw; (try dsimp only at hSw); go_split_ands; first | (go_simp; with_reducible rfl) | (go_simp; done))); simp only [Act.put, List.setIfInBounds_toArray, List.set_cons_zero, List.set_cons_succ]))
        refine wpG_eff (by rfl) (fun K hK => ?_)
        go_simp
        refine hK _ _ trivial ?_
        clear hK K
        refine wpG_nil (NoPanic.normal ?_)
        go_wp2_with fail
        refine wp_region_G (fun _ => True) [(0, .at_), (1, .at_), (2, .at_), (3, .at_), (4, .at_), (5, .at_), (6, .at_), (7, .at_), (8, .at_), (9, .at_), (10, .at_), (11, .at_), (12, .at_), (13, .at_), (14, .at_), (15, .eff)] ?L3 (by kernel_rfl) (by kernel_rfl) ?hL3 (trivial) ?hG3
        case hL3 => simp only [pickOps, List.map_cons, List.map_nil, List.getD_cons_zero, List.getD_cons_succ]; rfl
        repeat (first | (refine wpG_at (v := ?_) (by rfl) ?_ ?_; rotate_left; (focus (first | (go_simp; with_reducible rfl) | (go_simp; done))); simp only [Act.put, List.setIfInBounds_toArray, List.set_cons_zero, List.set_cons_succ]) | (refine wpG_at_skip (by rfl) ?_; simp only [Act.put, List.setIfInBounds_toArray, List.set_cons_zero, List.set_cons_succ]) | (refine wpG_held_skip (by rfl) ?_; simp only [Act.put, List.setIfInBounds_toArray, List.set_cons_zero, List.set_cons_succ]) | (refine wpG_held (v := ?_) (by rfl) ?_ ?_; rotate_left; (focus (intro w' hSw; (try dsimp only at hSw); go_split_ands; first | (go_simp; with_reducible rfl) | (go_simp; done))); simp only [Act.put, List.setIfInBounds_toArray, List.set_cons_zero, List.set_cons_succ]))
        refine wpG_eff (by rfl) (fun K hK => ?_)
        go_simp
        refine hK _ _ trivial ?_
        clear hK K
        refine wpG_nil (NoPanic.normal ?_)
        go_wp2_with fail
        go_ret
        rw [wr64 (x := x + m1) (by omega) (by omega), wr64 (x := y + m2) (by omega) (by omega)]
        refine ⟨by rw [HP.out.1]; rfl, ?_, ?_⟩
        · rw [HP.out.2]
          repeat (first | exact h.set hk _ _ | refine RAt.drew ?_)
        · repeat (first | exact ((Kp.refl _ w).setCell (p := ⟨a, k, none⟩) _ (fun _ => .inl rfl)).setCell (p := ⟨b, k, none⟩) _ (fun _ => .inr rfl) | refine Kp.drew ?_)
      · have R2 := hid (show roomB y m2 lb = false from by simp [roomB]; omega)
        have HP := hid (charge_no (m1 := m1) (m2 := m2) o HX.out (by omega))
        go_enter Try.func30, Try.ntmps30
        go_wp2_with fail
        refine HH.out.mono ?_
        rintro e w' ⟨rfl, rfl⟩
        rw [HB.out]
        go_wp2_with fail
        refine wp_region_G (fun _ => True) [(0, .at_), (1, .at_), (2, .at_), (3, .at_), (4, .at_), (5, .at_), (6, .at_), (7, .at_), (8, .at_), (9, .at_), (10, .at_), (11, .at_), (12, .eff), (13, .at_), (14, .at_), (15, .at_), (16, .at_), (17, .at_), (18, .at_), (19, .at_), (20, .at_), (21, .at_), (22, .at_), (23, .at_), (24, .at_), (25, .at_), (26, .at_), (27, .eff), (28, .at_), (29, .at_)] ?L4 (by kernel_rfl) (by kernel_rfl) ?hL4 (trivial) ?hG4
        case hL4 => simp only [pickOps, List.map_cons, List.map_nil, List.getD_cons_zero, List.getD_cons_succ]; rfl
        repeat (first | (refine wpG_at (v := ?_) (by rfl) ?_ ?_; rotate_left; (focus (first | (go_simp; with_reducible rfl) | (go_simp; done))); simp only [Act.put, List.setIfInBounds_toArray, List.set_cons_zero, List.set_cons_succ]) | (refine wpG_at_skip (by rfl) ?_; simp only [Act.put, List.setIfInBounds_toArray, List.set_cons_zero, List.set_cons_succ]) | (refine wpG_held_skip (by rfl) ?_; simp only [Act.put, List.setIfInBounds_toArray, List.set_cons_zero, List.set_cons_succ]) | (refine wpG_held (v := ?_) (by rfl) ?_ ?_; rotate_left; (focus (intro w' hSw; (try dsimp only at hSw); go_split_ands; first | (go_simp; with_reducible rfl) | (go_simp; done))); simp only [Act.put, List.setIfInBounds_toArray, List.set_cons_zero, List.set_cons_succ]))
        refine wpG_eff (by rfl) (fun K hK => ?_)
        go_simp
        refine (room_any x m1 lk _ hm10 (by omega)).mono ?_
        rintro e w' ⟨rfl, rfl⟩
        rw [R1.out]
        dsimp only
        refine hK _ _ trivial ?_
        clear hK K
        repeat (first | (refine wpG_at (v := ?_) (by rfl) ?_ ?_; rotate_left; (focus (first | (go_simp; with_reducible rfl) | (go_simp; done))); simp only [Act.put, List.setIfInBounds_toArray, List.set_cons_zero, List.set_cons_succ]) | (refine wpG_at_skip (by rfl) ?_; simp only [Act.put, List.setIfInBounds_toArray, List.set_cons_zero, List.set_cons_succ]) | (refine wpG_held_skip (by rfl) ?_; simp only [Act.put, List.setIfInBounds_toArray, List.set_cons_zero, List.set_cons_succ]) | (refine wpG_held (v := ?_) (by rfl) ?_ ?_; rotate_left; (focus (intro w' hSw; (try dsimp only at hSw); go_split_ands; first | (go_simp; with_reducible rfl) | (go_simp; done))); simp only [Act.put, List.setIfInBounds_toArray, List.set_cons_zero, List.set_cons_succ]))
        refine wpG_eff (by rfl) (fun K hK => ?_)
        go_simp
        refine (room_any y m2 lb _ hm20 (by omega)).mono ?_
        rintro e w' ⟨rfl, rfl⟩
        rw [R2.out]
        dsimp only
        refine hK _ _ trivial ?_
        clear hK K
        repeat (first | (refine wpG_at (v := ?_) (by rfl) ?_ ?_; rotate_left; (focus (first | (go_simp; with_reducible rfl) | (go_simp; done))); simp only [Act.put, List.setIfInBounds_toArray, List.set_cons_zero, List.set_cons_succ]) | (refine wpG_at_skip (by rfl) ?_; simp only [Act.put, List.setIfInBounds_toArray, List.set_cons_zero, List.set_cons_succ]) | (refine wpG_held_skip (by rfl) ?_; simp only [Act.put, List.setIfInBounds_toArray, List.set_cons_zero, List.set_cons_succ]) | (refine wpG_held (v := ?_) (by rfl) ?_ ?_; rotate_left; (focus (intro w' hSw; (try dsimp only at hSw); go_split_ands; first | (go_simp; with_reducible rfl) | (go_simp; done))); simp only [Act.put, List.setIfInBounds_toArray, List.set_cons_zero, List.set_cons_succ]))
        refine wpG_nil (NoPanic.normal ?_)
        go_wp2_with fail
        go_ret
        exact ⟨by rw [HP.out.1]; rfl, by rw [HP.out.2]; exact h.drew, (Kp.refl _ w).drew⟩
    · have R1 := hid (show roomB x m1 lk = false from by simp [roomB]; omega)
      have HP := hid (charge_no (m1 := m1) (m2 := m2) o HX.out (by omega))
      go_enter Try.func30, Try.ntmps30
      go_wp2_with fail
      refine HH.out.mono ?_
      rintro e w' ⟨rfl, rfl⟩
      rw [HB.out]
      go_wp2_with fail
      refine wp_region_G (fun _ => True) [(0, .at_), (1, .at_), (2, .at_), (3, .at_), (4, .at_), (5, .at_), (6, .at_), (7, .at_), (8, .at_), (9, .at_), (10, .at_), (11, .at_), (12, .eff), (13, .at_), (14, .at_), (15, .at_), (16, .at_), (17, .at_), (18, .at_), (19, .at_), (20, .at_), (21, .at_), (22, .at_), (23, .at_), (24, .at_), (25, .at_), (26, .at_), (27, .eff), (28, .at_), (29, .at_)] ?L5 (by kernel_rfl) (by kernel_rfl) ?hL5 (trivial) ?hG5
      case hL5 => simp only [pickOps, List.map_cons, List.map_nil, List.getD_cons_zero, List.getD_cons_succ]; rfl
      repeat (first | (refine wpG_at (v := ?_) (by rfl) ?_ ?_; rotate_left; (focus (first | (go_simp; with_reducible rfl) | (go_simp; done))); simp only [Act.put, List.setIfInBounds_toArray, List.set_cons_zero, List.set_cons_succ]) | (refine wpG_at_skip (by rfl) ?_; simp only [Act.put, List.setIfInBounds_toArray, List.set_cons_zero, List.set_cons_succ]) | (refine wpG_held_skip (by rfl) ?_; simp only [Act.put, List.setIfInBounds_toArray, List.set_cons_zero, List.set_cons_succ]) | (refine wpG_held (v := ?_) (by rfl) ?_ ?_; rotate_left; (focus (intro w' hSw; (try dsimp only at hSw); go_split_ands; first | (go_simp; with_reducible rfl) | (go_simp; done))); simp only [Act.put, List.setIfInBounds_toArray, List.set_cons_zero, List.set_cons_succ]))
      refine wpG_eff (by rfl) (fun K hK => ?_)
      go_simp
      refine (room_any x m1 lk _ hm10 (by omega)).mono ?_
      rintro e w' ⟨rfl, rfl⟩
      rw [R1.out]
      dsimp only
      refine hK _ _ trivial ?_
      clear hK K
      repeat (first | (refine wpG_at (v := ?_) (by rfl) ?_ ?_; rotate_left; (focus (first | (go_simp; with_reducible rfl) | (go_simp; done))); simp only [Act.put, List.setIfInBounds_toArray, List.set_cons_zero, List.set_cons_succ]) | (refine wpG_at_skip (by rfl) ?_; simp only [Act.put, List.setIfInBounds_toArray, List.set_cons_zero, List.set_cons_succ]) | (refine wpG_held_skip (by rfl) ?_; simp only [Act.put, List.setIfInBounds_toArray, List.set_cons_zero, List.set_cons_succ]) | (refine wpG_held (v := ?_) (by rfl) ?_ ?_; rotate_left; (focus (intro w' hSw; (try dsimp only at hSw); go_split_ands; first | (go_simp; with_reducible rfl) | (go_simp; done))); simp only [Act.put, List.setIfInBounds_toArray, List.set_cons_zero, List.set_cons_succ]))
      refine wpG_eff_skip (by rfl) trivial ?_
      simp only [Act.put, List.setIfInBounds_toArray, List.set_cons_zero, List.set_cons_succ]
      repeat (first | (refine wpG_at (v := ?_) (by rfl) ?_ ?_; rotate_left; (focus (first | (go_simp; with_reducible rfl) | (go_simp; done))); simp only [Act.put, List.setIfInBounds_toArray, List.set_cons_zero, List.set_cons_succ]) | (refine wpG_at_skip (by rfl) ?_; simp only [Act.put, List.setIfInBounds_toArray, List.set_cons_zero, List.set_cons_succ]) | (refine wpG_held_skip (by rfl) ?_; simp only [Act.put, List.setIfInBounds_toArray, List.set_cons_zero, List.set_cons_succ]) | (refine wpG_held (v := ?_) (by rfl) ?_ ?_; rotate_left; (focus (intro w' hSw; (try dsimp only at hSw); go_split_ands; first | (go_simp; with_reducible rfl) | (go_simp; done))); simp only [Act.put, List.setIfInBounds_toArray, List.set_cons_zero, List.set_cons_succ]))
      refine wpG_nil (NoPanic.normal ?_)
      go_wp2_with fail
      go_ret
      exact ⟨by rw [HP.out.1]; rfl, by rw [HP.out.2]; exact h.drew, (Kp.refl _ w).drew⟩
  · have hh' : hasB u.length i = false := by simpa using hh
    have HB := hid hh'
    have H1 := hid (putE_no (lk := lk) (lb := lb) hh' 0 0 m1 m2)
    have H2 := hid (putU_no (lk := lk) (lb := lb) hh' 0 0 m1 m2)
    clear hh hh'
    go_enter Try.func30, Try.ntmps30
    go_wp2_with fail
    refine HH.out.mono ?_
    rintro e w' ⟨rfl, rfl⟩
    rw [HB.out]
    go_wp2_with fail
    go_ret
    exact ⟨by rw [H1.out]; rfl, by rw [H2.out]; exact h, Kp.refl _ w⟩

set_option maxRecDepth 100000 in
set_option maxHeartbeats 1000000 in
theorem rrelease_any {r a b : Nat} {u : List (Int × Int)} {lk lb : Int} {w : World} (i m1 m2 : Int) (h : RAt w r a b u lk lb) (o : Ok u lk lb) (hm1 : B64 m1) (hm2 : B64 m2) :
   Calls Try.prog 31 #[.pointer (some ⟨r, 0, none⟩), .int .i64 i, .int .u64 m1, .int .u64 m2] w fun e w' =>
     e = .returned (.int .i64 (putE u lk lb i m1 m2 0 0)) ∧ RAt w' r a b (putU u lk lb i m1 m2 0 0) lk lb ∧ Kp (fun q => q = a ∨ q = b) w w' := by
  obtain ⟨hm10, hm11⟩ := hm1
  obtain ⟨hm20, hm21⟩ := hm2
  have HH := hid (rhas_any i h)
  have b0 := o.k1
  have b1 := o.b1
  have n2 := o.n2
  by_cases hh : hasB u.length i = true
  · obtain ⟨k, rfl, hk⟩ := has_nat hh
    obtain ⟨⟨x, y⟩, hxy⟩ : ∃ xy, u[k]? = some xy := ⟨_, List.getElem?_eq_getElem hk⟩
    obtain ⟨hx0, hx1, hy0, hy1⟩ := o.at hxy
    obtain ⟨ca, cb, Lc⟩ := h.cs
    have Le := h.es hxy
    have hne := h.hab
    have hne' := Ne.symm hne
    have hra := h.hra
    have hrb := h.hrb
    have hbk : (0 : Int) ≤ (k : Int) := Int.natCast_nonneg _
    have hbl : (k : Int) < (u.length : Int) := by omega
    have HB := hid hh
    have HX := hid hxy
    clear hh hxy
    by_cases c1 : m1 ≤ x ∧ m2 ≤ y
    · obtain ⟨c1, c2⟩ := c1
      have HP := hid (release_yes o HX.out hm10 hm20 ⟨c1, c2⟩)
      go_enter Try.func31, Try.ntmps31
      go_wp2_with fail
      refine HH.out.mono ?_
      rintro e w' ⟨rfl, rfl⟩
      rw [HB.out]
      go_wp2_with fail
      refine wp_region_G (fun _ => True) [(0, .at_), (1, .at_), (2, .at_), (3, .at_), (4, .at_), (5, .at_), (6, .at_), (7, .at_), (8, .at_), (9, .at_), (10, .at_), (11, .at_), (12, .at_), (13, .at_), (14, .at_), (15, .eff)] ?L6 (by kernel_rfl) (by kernel_rfl) ?hL6 (trivial) ?hG6
      case hL6 => simp only [pickOps, List.map_cons, List.map_nil, List.getD_cons_zero, List.getD_cons_succ]; rfl
      repeat (first | (refine wpG_at (v := ?_) (by rfl) ?_ ?_; rotate_left; (focus (first | (go_simp; with_reducible rfl) | (go_simp; done))); simp only [Act.put, List.setIfInBounds_toArray, List.set_cons_zero, List.set_cons_succ]) | (refine wpG_at_skip (by rfl) ?_; simp only [Act.put, List.setIfInBounds_toArray, List.set_cons_zero, List.set_cons_succ]) | (refine wpG_held_skip (by rfl) ?_; simp only [Act.put, List.setIfInBounds_toArray, List.set_cons_zero, List.set_cons_succ]) | (refine wpG_held (v := ?_) (by rfl) ?_ ?_; rotate_left; (focus (intro w' hSw; (try dsimp only at hSw); go_split_ands; first | (go_simp; with_reducible rfl) | (go_simp; done))); simp only [Act.put, List.setIfInBounds_toArray, List.set_cons_zero, List.set_cons_succ]))
      refine wpG_eff (by rfl) (fun K hK => ?_)
      go_simp
      refine hK _ _ trivial ?_
      clear hK K
      refine wpG_nil (NoPanic.normal ?_)
      go_wp2_with fail
      refine wp_region_G (fun _ => True) [(0, .at_), (1, .at_), (2, .at_), (3, .at_), (4, .at_), (5, .at_), (6, .at_), (7, .at_), (8, .at_), (9, .at_), (10, .at_), (11, .at_), (12, .at_), (13, .at_), (14, .at_), (15, .eff)] ?L7 (by kernel_rfl) (by kernel_rfl) ?hL7 (trivial) ?hG7
      case hL7 => simp only [pickOps, List.map_cons, List.map_nil, List.getD_cons_zero, List.getD_cons_succ]; rfl
      repeat (first | (refine wpG_at (v := ?_) (by rfl) ?_ ?_; rotate_left; (focus (first | (go_simp; with_reducible rfl) | (go_simp; done))); simp only [Act.put, List.setIfInBounds_toArray, List.set_cons_zero, List.set_cons_succ]) | (refine wpG_at_skip (by rfl) ?_; simp only [Act.put, List.setIfInBounds_toArray, List.set_cons_zero, List.set_cons_succ]) | (refine wpG_held_skip (by rfl) ?_; simp only [Act.put, List.setIfInBounds_toArray, List.set_cons_zero, List.set_cons_succ]) | (refine wpG_held (v := ?_) (by rfl) ?_ ?_; rotate_left; (focus (intro w' hSw; (try dsimp only at hSw); go_split_ands; first | (go_simp; with_reducible rfl) | (go_simp; done))); simp only [Act.put, List.setIfInBounds_toArray, List.set_cons_zero, List.set_cons_succ]))
      refine wpG_eff (by rfl) (fun K hK => ?_)
      go_simp
      refine hK _ _ trivial ?_
      clear hK K
      refine wpG_nil (NoPanic.normal ?_)
      go_wp2_with fail
      go_ret
      rw [wr64 (x := x - m1) (by omega) (by omega), wr64 (x := y - m2) (by omega) (by omega)]
      refine ⟨by rw [HP.out.1]; rfl, ?_, ?_⟩
      · rw [HP.out.2]
        repeat (first | exact h.set hk _ _ | refine RAt.drew ?_)
      · repeat (first | exact ((Kp.refl _ w).setCell (p := ⟨a, k, none⟩) _ (fun _ => .inl rfl)).setCell (p := ⟨b, k, none⟩) _ (fun _ => .inr rfl) | refine Kp.drew ?_)
    · have HP := hid (release_no (lk := lk) (lb := lb) HX.out c1)
      by_cases c2 : x < m1
      · go_enter Try.func31, Try.ntmps31
        go_wp2_with fail
        refine HH.out.mono ?_
        rintro e w' ⟨rfl, rfl⟩
        rw [HB.out]
        go_wp2_with fail
        go_ret
        exact ⟨by rw [HP.out.1]; rfl, by rw [HP.out.2]; exact h, Kp.refl _ w⟩
      · have c3 : y < m2 := by omega
        clear c1
        go_enter Try.func31, Try.ntmps31
        go_wp2_with fail
        refine HH.out.mono ?_
        rintro e w' ⟨rfl, rfl⟩
        rw [HB.out]
        go_wp2_with fail
        go_ret
        exact ⟨by rw [HP.out.1]; rfl, by rw [HP.out.2]; exact h, Kp.refl _ w⟩
  · have hh' : hasB u.length i = false := by simpa using hh
    have HB := hid hh'
    have H1 := hid (putE_no (lk := lk) (lb := lb) hh' m1 m2 0 0)
    have H2 := hid (putU_no (lk := lk) (lb := lb) hh' m1 m2 0 0)
    clear hh hh'
    go_enter Try.func31, Try.ntmps31
    go_wp2_with fail
    refine HH.out.mono ?_
    rintro e w' ⟨rfl, rfl⟩
    rw [HB.out]
    go_wp2_with fail
    go_ret
    exact ⟨by rw [H1.out]; rfl, by rw [H2.out]; exact h, Kp.refl _ w⟩
end Go.Proofs.Ytaghkgddnjdjcaa
