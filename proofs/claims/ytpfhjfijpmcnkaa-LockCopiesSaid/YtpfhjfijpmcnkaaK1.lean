/- Walks through locks: who asks, who has it, who waits. -/
import Derived.Test.YtpfhjfijpmcnkaaProg
import Derived.Test.YtpfhjfijpmcnkaaLibB
import Derived.Test.YtpfhjfijpmcnkaaLibD
import Derived.Test.YtpfhjfijpmcnkaaLibN
import Derived.Test.YtpfhjfijpmcnkaaLibQ
import Derived.Deep.QuietTactic
import Derived.BigQuiet
import Derived.StillTailTactics
import Derived.Deep.RegionHeld3
import Derived.Deep.DrawnRows
import Derived.Laws.EntriesVeiled
import Derived.Lib.AppendZeros
namespace Go.Proofs.Ytpfhjfijpmcnkaa
set_option linter.unusedSimpArgs false
set_option linter.unusedVariables false
open Go.RowKit
attribute [local go_sem ↓] Go.wp_at_zero Go.wp_at_succ

def rowL (L : List (Int × Int)) (id : Int) : List Int := (L.filter (fun s => s.1 == id)).map (·.2)
theorem k23 : Try.prog.underlying 23 = some (.int .i64) := by kernel_rfl
theorem k51 : Try.prog.underlying 51 = some (.map 23 31) := by kernel_rfl
theorem u31 : Try.prog.underlying 31 = some (.slice 3) := by kernel_rfl
theorem i3 : (Try.prog.info? 3).map (fun i => (i.zero, i.size, i.bytes)) = some (some (.int .i64 0), 1, 8) := by kernel_rfl
theorem zero31 (w : World) : (zeroValue 31).run Try.prog w = .ok (.slice none 0 0) w := by kernel_rfl
/-- locks: the struct at p, the rows' map at m, n tasks; L: who stands where -/
structure LAt (w : World) (p m n : Nat) (M : List (Int × Value)) (L : List (Int × Int)) : Prop where
  hp : w.heap[p]? = some (.cells #[.int .i64 n, .map (some m)] 53 (0, 0))
  hm : MapAt .i64 w m M
  k : MOk .i64 M
  rows : ∀ id, Rs 3 w ((mget M id).getD (.slice none 0 0)) (rowL L id)
  ne : ∀ id, (mget M id).isSome = true → rowL L id ≠ []
section
variable {w w' : World} {p m n : Nat} {M : List (Int × Value)} {L : List (Int × Int)} {v : Value} {l : List Int}
theorem LAt.kn (h : LAt w p m n M L) (k : Kp NoB w w') : LAt w' p m n M L := ⟨k.get h.hp (fun h => h), h.hm.kp k (fun h => h), h.k, fun id => (h.rows id).kn k, h.ne⟩
theorem LAt.alloc (h : LAt w p m n M L) (o : Obj) : LAt (w.alloc o) p m n M L := h.kn ((Kp.refl _ w).alloc o)
theorem LAt.drew (h : LAt w p m n M L) : LAt w.drew p m n M L := h.kn ((Kp.refl _ w).drew)
theorem LAt.lt (h : LAt w p m n M L) : p < w.heap.size ∧ m < w.heap.size := ⟨blk_lt h.hp, h.hm.lt⟩
theorem LAt.pm (h : LAt w p m n M L) : p ≠ m := by
  rintro rfl
  obtain ⟨es, c, hb, _⟩ := h.hm
  rw [h.hp] at hb; simp at hb
theorem there_yes (h : LAt w p m n M L) (n1 : 1 ≤ n) : Calls Try.prog 28 #[.pointer (some ⟨p, 0, none⟩)] w fun e w' => e = .returned (.bool true) ∧ w = w' := by
  have Lp := loc2 h.hp
  have e : (0 : Int) < n := by omega
  clear h
  go_enter Try.func28, Try.ntmps28
  go_wp2
  go_ret
  exact ⟨by first | rfl | (simp; omega), rfl⟩
theorem may_yes (h : LAt w p m n M L) (n1 : 1 ≤ n) {t id : Int} (ht : 0 ≤ t ∧ t < n ∧ 0 ≤ id) : Calls Try.prog 30 #[.pointer (some ⟨p, 0, none⟩), .int .i64 t, .int .i64 id] w fun e w' => e = .returned (.bool true) ∧ w = w' := by
  have HT := hid (there_yes h n1)
  have Lp := loc2 h.hp
  obtain ⟨t1, t2, t3⟩ := ht
  clear h
  go_enter Try.func30, Try.ntmps30
  go_wp2_with fail
  refine HT.out.mono ?_
  rintro e w1 ⟨rfl, rfl⟩
  go_wp2_with fail
  go_ret
  exact ⟨rfl, rfl⟩
theorem may_no (h : LAt w p m n M L) (n1 : 1 ≤ n) {t id : Int} (ht : ¬ (0 ≤ t ∧ t < n ∧ 0 ≤ id)) : Calls Try.prog 30 #[.pointer (some ⟨p, 0, none⟩), .int .i64 t, .int .i64 id] w fun e w' => e = .returned (.bool false) ∧ w = w' := by
  have HT := hid (there_yes h n1)
  have Lp := loc2 h.hp
  clear h
  rcases (by omega : ¬ 0 ≤ t ∨ (0 ≤ t ∧ ¬ t < n) ∨ (0 ≤ t ∧ t < n ∧ ¬ 0 ≤ id)) with h1 | ⟨h1, h2⟩ | ⟨h1, h2, h3⟩
  all_goals
    clear ht
    go_enter Try.func30, Try.ntmps30
    go_wp2_with fail
    refine HT.out.mono ?_
    rintro e w1 ⟨rfl, rfl⟩
    go_wp2_with fail
    go_ret
    exact ⟨by first | rfl | simp_all, rfl⟩
/-- where one stands in a row -/
def idxL (l : List Int) (t : Int) : Int := match l.findIdx? (fun x => x == t) with | some i => i | none => -1
theorem idx_found {t : Int} {j : Nat} (hj : j < l.length) (h1 : l[j] = t) (h0 : ∀ k (hk : k < j), l[k] ≠ t) : idxL l t = j := by
  have : l.findIdx? (fun x => x == t) = some j := by
    rw [List.findIdx?_eq_some_iff_getElem]
    exact ⟨hj, by simpa using h1, fun k hk => by simpa using h0 k hk⟩
  simp [idxL, this]
theorem idx_none {t : Int} (h0 : ∀ k (hk : k < l.length), l[k] ≠ t) : idxL l t = -1 := by
  have : l.findIdx? (fun x => x == t) = none := by
    rw [List.findIdx?_eq_none_iff]
    intro x hx
    obtain ⟨k, hk, rfl⟩ := List.getElem_of_mem hx
    simpa using h0 k hk
  simp [idxL, this]
set_option maxRecDepth 100000 in
set_option maxHeartbeats 2000000 in
theorem index_any (hv : Rs 3 w v l) (n2 : l.length ≤ 4096) (t : Int) :
    Calls Try.prog 45 #[v, .int .i64 t] w fun e w' => e = .returned (.int .i64 (idxL l t)) ∧ Kp NoB w w' := by
  obtain ⟨ov, cv, hvv, hvc⟩ := hv.form
  subst hvv
  go_enter Try.func45, Try.ntmps45
  go_wp2_with fail
  go_loopw [5, 8] (fun _ i W => ∃ j : Nat, j ≤ l.length ∧ i = .int .i64 j ∧ Kp NoB w W ∧ Hid (∀ k (hk : k < l.length), k < j → l[k] ≠ t)) (fun _ i _ => l.length - (intOf i).toNat)
  case atStart => exact ⟨0, Nat.zero_le _, rfl, Kp.refl _ w, hid (by intro k hk h; omega)⟩
  case round =>
    obtain ⟨j, hj, rfl, hK, hT⟩ := hrel
    by_cases hlt : j < l.length
    · have hk : l[j]? = some l[j] := List.getElem?_eq_getElem hlt
      obtain ⟨b, f, c', hv', hcc, _, hcell⟩ := hv.cells (by rintro rfl; simp at hlt)
      injection hv' with hv1 _ hv3
      subst hv1; subst hv3
      have Le := hcell _ hK j _ hk
      have b3 : (0 : Int) ≤ (j : Int) := Int.natCast_nonneg _
      have b4 : (j : Int) < (l.length : Int) := by omega
      replace hv := hid hv
      replace hcell := hid hcell
      obtain ⟨y, hy⟩ : ∃ y, l[j] = y := ⟨_, rfl⟩
      rw [hy] at Le
      replace hy := hid hy
      clear hk
      by_cases hys : t = y
      · subst hys
        go_wp2_with fail
        go_ret
        refine ⟨?_, hK⟩
        rw [idx_found hlt hy.out (fun k hk => hT.out k (by omega) hk)]
        rfl
      · have hyb : (t == y) = false := by simpa using hys
        have hys' := hid hys
        clear hys
        go_wp2_with fail
        go_roundw
        case rel => exact ⟨j + 1, by omega, by go_num, hK, hid (by
          intro k hk h
          by_cases e : k = j
          · subst e; rw [hy.out]; exact fun h => hys'.out h.symm
          · exact hT.out k hk (by omega))⟩
        case measure => simp [intOf]; omega
    · obtain rfl : j = l.length := by omega
      replace hv := hid hv
      go_wp2_with fail
      go_ret
      refine ⟨?_, hK⟩
      rw [idx_none (fun k hk => hT.out k hk hk)]
      rfl
theorem idx_mem {t : Int} : 0 ≤ idxL l t ↔ t ∈ l := by
  unfold idxL
  cases h : l.findIdx? (fun x => x == t) with
  | none =>
    rw [List.findIdx?_eq_none_iff] at h
    constructor
    · intro h1; simp at h1
    · intro h1; have := h t h1; simp at this
  | some i =>
    rw [List.findIdx?_eq_some_iff_getElem] at h
    obtain ⟨h1, h2, _⟩ := h
    constructor
    · intro _; have : l[i] = t := by simpa using h2
      rw [← this]; exact List.getElem_mem _
    · intro _; simp
theorem contains_any (hv : Rs 3 w v l) (n2 : l.length ≤ 4096) (t : Int) :
    Calls Try.prog 31 #[v, .int .i64 t] w fun e w' => e = .returned (.bool (decide (t ∈ l))) ∧ Kp NoB w w' := by
  have HI := hid (index_any hv n2 t)
  obtain ⟨ov, cv, hvv, hvc⟩ := hv.form
  subst hvv
  by_cases ht : t ∈ l
  · have h0 : 0 ≤ idxL l t := idx_mem.2 ht
    rw [show decide (t ∈ l) = true from by simpa using ht]
    generalize idxL l t = i at *
    clear hv ht
    go_enter Try.func31, Try.ntmps31
    go_wp2_with fail
    refine HI.out.mono ?_
    rintro e w1 ⟨rfl, k1⟩
    go_wp2_with fail
    go_ret
    exact ⟨rfl, k1⟩
  · have h0 : ¬ 0 ≤ idxL l t := fun h => ht (idx_mem.1 h)
    rw [show decide (t ∈ l) = false from by simpa using ht]
    generalize idxL l t = i at *
    have h0' : decide (0 ≤ i) = false := by simpa using h0
    clear h0
    clear hv ht
    go_enter Try.func31, Try.ntmps31
    go_wp2_with fail
    refine HI.out.mono ?_
    rintro e w1 ⟨rfl, k1⟩
    go_wp2_with fail
    go_ret
    exact ⟨rfl, k1⟩
end
end Go.Proofs.Ytpfhjfijpmcnkaa
