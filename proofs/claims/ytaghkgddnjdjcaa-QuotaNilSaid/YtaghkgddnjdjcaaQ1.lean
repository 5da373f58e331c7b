/- Walks through the accounts of a quota: what each function returns and leaves, at any accounts that are well formed (the conditions stand in each theorem). -/
import Derived.Test.YtaghkgddnjdjcaaProg
import Derived.Test.YtaghkgddnjdjcaaLibA
import Derived.Test.YtaghkgddnjdjcaaLibC
import Derived.Deep.QuietTactic
import Derived.BigQuiet
import Derived.StillTailTactics
import Derived.Deep.RegionHeld3
import Derived.Deep.DrawnRows
namespace Go.Proofs.Ytaghkgddnjdjcaa
open Go.RowKit
attribute [local go_sem ↓] Go.wp_at_zero Go.wp_at_succ

def eA (x : Int × Int) : List Value := [.int .u64 x.1, .int .u64 x.2]
theorem eA_len (x : Int × Int) : (eA x).length = 2 := rfl
/-- accounts: the struct at p, the row at b -/
structure QAt (w : World) (p b : Nat) (u : List (Int × Int)) (lk lb : Int) : Prop where
  ex : ∃ (c : Nat) (A : Array Value), w.heap[p]? = some (.cells #[.slice (some ⟨b, 0, none⟩) u.length c, .int .u64 lk, .int .u64 lb] 51 (0, 0)) ∧ w.heap[b]? = some (.cells A 49 (0, 0)) ∧ Pre eA 2 A u
section
variable {w w' : World} {p b : Nat} {u : List (Int × Int)} {lk lb : Int}
theorem QAt.cs (h : QAt w p b u lk lb) : ∃ c, w.cell? ⟨p, 0, none⟩ = some (.slice (some ⟨b, 0, none⟩) u.length c) ∧ w.cell? ⟨p, 1, none⟩ = some (.int .u64 lk) ∧ w.cell? ⟨p, 2, none⟩ = some (.int .u64 lb) ∧ w.frozen? ⟨p, 0, none⟩ = false ∧ w.frozen? ⟨p, 1, none⟩ = false ∧ w.frozen? ⟨p, 2, none⟩ = false ∧ p < w.heap.size := by
  obtain ⟨c, A, hp, hb, hA⟩ := h.ex
  exact ⟨c, loc3 hp⟩
theorem QAt.lt (h : QAt w p b u lk lb) : p < w.heap.size ∧ b < w.heap.size := by
  obtain ⟨c, A, hp, hb, hA⟩ := h.ex
  exact ⟨blk_lt hp, blk_lt hb⟩
theorem QAt.ne (h : QAt w p b u lk lb) : p ≠ b := by
  obtain ⟨c, A, hp, hb, hA⟩ := h.ex
  exact ne_of_types hp hb (by decide)
theorem QAt.kp {F : Nat → Prop} (h : QAt w p b u lk lb) (k : Kp F w w') (hp : ¬ F p) (hb : ¬ F b) : QAt w' p b u lk lb := by
  obtain ⟨c, A, h1, h2, hA⟩ := h.ex
  exact ⟨c, A, k.get h1 hp, k.get h2 hb, hA⟩
theorem QAt.alloc (h : QAt w p b u lk lb) (o : Obj) : QAt (w.alloc o) p b u lk lb := by
  obtain ⟨c, A, h1, h2, hA⟩ := h.ex
  exact ⟨c, A, blk_alloc h1, blk_alloc h2, hA⟩
theorem QAt.drew (h : QAt w p b u lk lb) : QAt w.drew p b u lk lb := by
  obtain ⟨c, A, h1, h2, hA⟩ := h.ex
  exact ⟨c, A, h1, h2, hA⟩
theorem QAt.e (h : QAt w p b u lk lb) {k : Nat} {x y : Int} (hk : u[k]? = some (x, y)) :
    w.cell? ⟨b, k * 2, none⟩ = some (.int .u64 x) ∧ w.cell? ⟨b, k * 2 + 1, none⟩ = some (.int .u64 y) ∧ w.frozen? ⟨b, k * 2, none⟩ = false ∧ w.frozen? ⟨b, k * 2 + 1, none⟩ = false ∧ b < w.heap.size := by
  obtain ⟨c, A, h1, h2, hA⟩ := h.ex
  exact ⟨by rw [cell_of h2]; exact hA k 0 _ hk (by omega), by rw [cell_of h2]; exact hA k 1 _ hk (by omega), frozen_of h2 _, frozen_of h2 _, blk_lt h2⟩
theorem QAt.set (h : QAt w p b u lk lb) {k : Nat} (hk : k < u.length) (x y : Int) :
    QAt ((w.setCell ⟨b, k * 2, none⟩ (.int .u64 x)).setCell ⟨b, k * 2 + 1, none⟩ (.int .u64 y)) p b (u.set k (x, y)) lk lb := by
  obtain ⟨c, A, h1, h2, hA⟩ := h.ex
  have hne : p ≠ b := ne_of_types h1 h2 (by decide)
  refine ⟨c, _, ?_, blk_setCell (blk_setCell h2 (k * 2) (.int .u64 x)) (k * 2 + 1) (.int .u64 y), hA.set eA_len (by omega) hk (x, y)⟩
  rw [List.length_set]; exact blk_far (blk_far h1 _ hne) _ hne
end
structure Ok (u : List (Int × Int)) (lk lb : Int) : Prop where
  n1 : 1 ≤ u.length
  n2 : u.length ≤ 16
  k0 : 0 ≤ lk
  k1 : lk ≤ 1073741824
  b0 : 0 ≤ lb
  b1 : lb ≤ 1073741824
  all : ∀ x ∈ u, 0 ≤ x.1 ∧ x.1 ≤ lk ∧ 0 ≤ x.2 ∧ x.2 ≤ lb

theorem there_nil (w : World) : Calls Try.prog 34 #[.pointer none] w fun e w' => e = .returned (.bool false) ∧ w = w' := by
  go_enter Try.func34, Try.ntmps34
  go_wp2
  go_ret
  exact ⟨rfl, rfl⟩
theorem there_zero (p : Nat) (w : World) (h0 : w.cell? ⟨p, 0, none⟩ = some (.slice none 0 0)) : Calls Try.prog 34 #[.pointer (some ⟨p, 0, none⟩)] w fun e w' => e = .returned (.bool false) ∧ w = w' := by
  go_enter Try.func34, Try.ntmps34
  go_wp2
  go_ret
  exact ⟨rfl, rfl⟩
theorem there_cell (p b n c : Nat) (w : World) (hn : 1 ≤ n) (h0 : w.cell? ⟨p, 0, none⟩ = some (.slice (some ⟨b, 0, none⟩) n c)) :
   Calls Try.prog 34 #[.pointer (some ⟨p, 0, none⟩)] w fun e w' => e = .returned (.bool true) ∧ w = w' := by
  have hn' : 0 < n := hn
  go_enter Try.func34, Try.ntmps34
  go_wp2
  go_ret
  exact ⟨rfl, rfl⟩
theorem there_any {p b : Nat} {u : List (Int × Int)} {lk lb : Int} {w : World} (h : QAt w p b u lk lb) (o : Ok u lk lb) :
   Calls Try.prog 34 #[.pointer (some ⟨p, 0, none⟩)] w fun e w' => e = .returned (.bool true) ∧ w = w' :=
  by obtain ⟨c, hc⟩ := h.cs; exact there_cell p b _ _ w o.n1 hc.1

def hasB (n : Nat) (i : Int) : Bool := decide (0 ≤ i) && decide (i < n)
theorem has_any {p b n c : Nat} {w : World} (i : Int) (h0 : w.cell? ⟨p, 0, none⟩ = some (.slice (some ⟨b, 0, none⟩) n c)) :
   Calls Try.prog 37 #[.pointer (some ⟨p, 0, none⟩), .int .i64 i] w fun e w' => e = .returned (.bool (hasB n i)) ∧ w = w' := by
  unfold hasB
  go_enter Try.func37, Try.ntmps37
  go_wp2
  · go_ret
    exact ⟨by simp [*], rfl⟩
  · go_ret
    refine ⟨?_, rfl⟩
    rw [show decide (0 ≤ i) = false from by simp; omega]; rfl

theorem take_snoc {α : Type} (l : List α) {k : Nat} (h : k < l.length) : l.take (k + 1) = l.take k ++ [l[k]] := by
  rw [List.take_add_one]; simp [h]
/-- asked, of accounts that are there: whether all are users -/
def askedE (n : Nat) (us : List Int) : Int := if us.all (hasB n) then 0 else 2
theorem asked_any {p b : Nat} {u : List (Int × Int)} {lk lb : Int} {w : World} (g : Nat) (us : List Int) (h : QAt w p b u lk lb) (o : Ok u lk lb)
    (hg : w.heap[g]? = some (.cells (us.map (Value.int .i64)).toArray 3 (0, 0))) (hl : us.length ≤ 2) :
   Calls Try.prog 28 #[.pointer (some ⟨p, 0, none⟩), .slice (some ⟨g, 0, none⟩) us.length us.length] w fun e w' => e = .returned (.int .i64 (askedE u.length us)) ∧ w = w' := by
  have hc : ∀ k, k < us.length → w.cell? ⟨g, k, none⟩ = some (.int .i64 (us[k]?.getD 0)) := fun k hk => by rw [cell_of hg]; simp [hk]
  obtain ⟨cq, h0, _⟩ := h.cs
  go_enter Try.func28, Try.ntmps28
  go_wp2_with (go_at_call 34; refine (there_any h o).mono ?_; rintro e w' ⟨rfl, rfl⟩)
  go_loop [6, 12] (fun _ i => ∃ k : Nat, k ≤ us.length ∧ i = .int .i64 k ∧ ((us.take k).all (hasB u.length)) = true) (fun _ i => us.length - (intOf i).toNat)
  case atStart => exact ⟨0, Nat.zero_le _, rfl, by simp⟩
  case round =>
    obtain ⟨k, hk, rfl, hall⟩ := hrel
    by_cases hlt : k < us.length
    · have hck := hc k hlt
      have Ht := hid (take_snoc us hlt)
      have Hall := hid hall
      clear hall hc
      go_wp2_with (go_at_call 37; refine (has_any _ h0).mono ?_; rintro e w' ⟨rfl, rfl⟩)
      · go_ret
        refine ⟨?_, rfl⟩
        have hx : hasB u.length us[k] = false := by simp_all
        have : us.all (hasB u.length) = false := by rw [List.all_eq_false]; exact ⟨us[k], List.getElem_mem _, by simp [hx]⟩
        simp [askedE, this]
      · have hx : hasB u.length us[k] = true := by simp_all
        go_round
        case rel => exact ⟨k + 1, by omega, by go_num, by rw [Ht.out]; simp only [List.all_append, Hall.out, List.all_cons, hx, List.all_nil]; rfl⟩
        case measure => simp [intOf]; omega
    · have hk' : k = us.length := by omega
      have Hall := hid hall
      clear hall hc
      go_wp2
      go_ret
      refine ⟨?_, rfl⟩
      have := Hall.out
      rw [hk', List.take_length] at this
      simp [askedE, this]
end Go.Proofs.Ytaghkgddnjdjcaa
