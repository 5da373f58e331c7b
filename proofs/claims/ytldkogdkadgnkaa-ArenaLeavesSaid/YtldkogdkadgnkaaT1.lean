/- Walks: an arena's iterator. -/
import Derived.Test.YtldkogdkadgnkaaA8
import Derived.Test.YtldkogdkadgnkaaLibP
import Derived.Test.YtldkogdkadgnkaaLibW
import Derived.Test.YtldkogdkadgnkaaLibI
import Derived.Test.YtldkogdkadgnkaaLibG
import Derived.Lib.SliceRun
import Derived.OwnWalkIn
import Derived.TacticsInMore
import Derived.RegionIn
import Derived.LoopNIn
import Derived.LoopIn
import Derived.Sort.BigQuietIn
import Derived.RangeFuncNested
import Derived.RangeFuncBound
import Derived.RangeFuncCalls
import Derived.RangeFuncLeaves
import Derived.RangeFuncWrites
namespace Go.Proofs.Ytldkogdkadgnkaa
set_option linter.unusedSimpArgs false
set_option linter.unusedVariables false
open Go.RowKit Go.Shelf
attribute [local go_sem ↓] Go.wp_at_zero Go.wp_at_succ
attribute [local go_sem] Oper.semAt_some
/-- the slots that are, with their place -/
def liveF (s : (Int × Int × Bool) × Nat) : Option (Nat × Int × Int) := if s.1.2.2 then some (s.2, s.1.2.1, s.1.1) else none
def liveK (S : List (Int × Int × Bool)) (k : Nat) : List (Nat × Int × Int) := (S.take k).zipIdx.filterMap liveF
def liveL (S : List (Int × Int × Bool)) : List (Nat × Int × Int) := S.zipIdx.filterMap liveF
def encL (x : Nat × Int × Int) : Array Value := #[.agg #[.int .i64 x.1, .int .u64 x.2.1], .int .i64 x.2.2]
theorem liveK_zero (S : List (Int × Int × Bool)) : liveK S 0 = [] := by simp [liveK]
theorem liveK_all (S : List (Int × Int × Bool)) : liveK S S.length = liveL S := by simp [liveK, liveL]
theorem liveK_succ {S : List (Int × Int × Bool)} {k : Nat} {x g : Int} {b : Bool} (h : S[k]? = some (x, g, b)) : liveK S (k + 1) = liveK S k ++ (if b then [(k, g, x)] else []) := by
  have hk := (List.getElem?_eq_some_iff.1 h).1
  unfold liveK
  rw [List.take_add_one, h, Option.toList_some, List.zipIdx_append, List.filterMap_append]
  congr 1
  simp only [List.zipIdx_cons, List.zipIdx_nil, List.filterMap_cons, List.filterMap_nil, liveF, List.length_take]
  rw [show 0 + min k S.length = k by omega]
  cases b <;> simp
theorem liveK_pre (S : List (Int × Int × Bool)) (k : Nat) : liveK S k <+: liveL S := by
  unfold liveK liveL
  conv => rhs; rw [← List.take_append_drop k S, List.zipIdx_append, List.filterMap_append]
  exact List.prefix_append _ _
section
variable {w w' : World} {p l c : Nat} {v : Value} {S : List (Int × Int × Bool)} {B : List Nat} {E : Nat}
set_option maxRecDepth 100000 in
set_option maxHeartbeats 4000000 in
theorem clone_any (h : AAt w p l v S B E) (o : AOk S B E) :
    Calls Try.prog 32 #[.slice (some ⟨l, 0, none⟩) S.length S.length] w fun e w' => ∃ b' c' N, e = .returned (.slice (some ⟨b', 0, none⟩) S.length c') ∧ w.heap.size ≤ b' ∧ w'.heap[b']? = some (.cells N 72 (0, 0)) ∧ Pre eS 3 N S ∧ S.length ≤ c' ∧ Kp NoB w w' := by
  have HB := hid h.hl
  have en := fun w => Lib.run_eql_slice_nil (P := Try.prog) w 74 72 (some ⟨l, 0, none⟩) S.length S.length 0 0 u74
  have n1 := o.n1
  have n2 := o.n2
  have hA := hid (show Pre eS 3 (rows eS S) S from fun k j x hk hj => rows_get eS_len hk hj)
  clear h o
  go_enter Try.func32, Try.ntmps32
  go_wp2_with (at_builtin; refine wpList_plain rfl fun K hK => ?_; refine wp_copy_empty eS_len (by omega) _ _ 74 72 _ 24 rfl u74 k72 _ rfl l S.length S rfl (rows eS S) (by first | exact HB.out | exact blk_alloc HB.out) hA.out n1 (by omega) (by omega) ?_; intro c' N hN hc'; refine hK _ _ ?_; clear hK K)
  go_ret
  refine ⟨_, c', N, rfl, ?_, ?_, hN, hc', ?_⟩
  rotate_left
  · exact blk_new' _ _ (by simp)
  · first | exact ((Kp.refl _ w).drew).alloc _ | exact (((Kp.refl _ w).alloc _).drew).alloc _
  · simp
theorem all_any (v : Value) (a : Option Addr) (hv : v = .pointer a) (w : World) : Calls Try.prog 18 #[v] w fun e w' => e = .returned (.func (.func 31) #[] #[.pointer (some ⟨w.heap.size, 0, none⟩)]) ∧ w' = w.alloc (.cells #[v] 28) := by
  subst hv
  go_enter Try.func18, Try.ntmps18
  go_wp2_with fail
  go_ret
  exact ⟨rfl, rfl⟩
set_option maxRecDepth 100000 in
set_option maxHeartbeats 8000000 in
theorem all_seq (h : AAt w p l v S B E) (o : AOk S B E) (hc : w.heap[c]? = some (.cells #[.pointer (some ⟨p, 0, none⟩)] 28 (0, 0))) :
    SeqStopsK Fence.wide 4 Try.prog 31 #[.pointer (some ⟨c, 0, none⟩)] encL (KT w.heap.size 72) (fun xs => xs = liveL S) (fun pre => pre <+: liveL S) (liveL S).length w := by
  intro l' J Jx W hW hJ hJx hY h0
  have kW := kp_below hW
  have TW := h.kn kW
  have Lc := loc1 (kW.get hc (fun h => h))
  have Lp := TW.cs
  have HC := hid (clone_any TW o)
  have hsz := kW.size
  have n2 := o.n2
  have HJ := hid hJ
  have HY := hid hY
  replace h0 := hid h0
  clear hJ hY hJx TW hc h kW hW
  refine callsIn_of_wp Try.func31 rfl trivial ?_ rfl
  simp only [Try.ntmps31, List.size_toArray, List.length_cons, List.length_nil, Nat.reduceAdd, Nat.reduceSub, Array.replicate_succ, Array.replicate_zero, List.push_toArray, List.append_toArray, List.nil_append, List.cons_append]
  gi_wp2_with fail
  refine ⟨trivial, (callsIn_wide.2 HC.out).mono ?_⟩
  rintro e w2 ⟨b, cv, N, rfl, hbs, hN, hP, hcv, k2⟩
  have J2 := hid (HJ.out [] W w2 none h0.out (grownBy_kp k2) (fun r e => by cases e))
  have hbw : w.heap.size ≤ b := by omega
  replace hN := hid hN
  replace hP := hid hP
  clear k2 hbs
  gi_wp2_with fail
  gi_loopw [13] (fun i wr => ∃ k : Nat, k ≤ S.length ∧ i = .int .i64 k ∧ J (liveK S k) wr ∧ wr.heap[b]? = some (.cells N 72 (0, 0))) (fun i _ => S.length - (intOf i).toNat)
  case atStart => exact ⟨0, Nat.zero_le _, rfl, by rw [liveK_zero]; exact J2.out, hN.out⟩
  case round =>
    obtain ⟨k, hk, rfl, hJk, hNk⟩ := hrel
    have b1 : (0 : Int) ≤ (k : Int) := Int.natCast_nonneg _
    by_cases hlt : k < S.length
    · have b2 : (k : Int) < (S.length : Int) := by omega
      have b3 : (S.length : Int) ≤ (cv : Int) := by omega
      have hkz : S[k]? = some S[k] := List.getElem?_eq_getElem hlt
      obtain ⟨⟨x, g, bb⟩, hxy⟩ : ∃ s, S[k] = s := ⟨_, rfl⟩
      rw [hxy] at hkz
      have Le : wr.cell? ⟨b, k * 3, none⟩ = some (.int .i64 x) ∧ wr.cell? ⟨b, k * 3 + 1, none⟩ = some (.int .u64 g) ∧ wr.cell? ⟨b, k * 3 + 2, none⟩ = some (.bool bb) :=
        ⟨by rw [cell_of hNk]; exact hP.out k 0 _ hkz (by omega), by rw [cell_of hNk]; exact hP.out k 1 _ hkz (by omega), by rw [cell_of hNk]; exact hP.out k 2 _ hkz (by omega)⟩
      have hsu := liveK_succ hkz
      have hN5 := hid (show (wr.alloc (.cells #[.int .i64 x, .int .u64 g, .bool bb] 72)).heap[b]? = some (.cells N 72 (0, 0)) from blk_alloc hNk)
      have J5 := hid (HJ.out _ wr (wr.alloc (.cells #[.int .i64 x, .int .u64 g, .bool bb] 72)) none hJk (grownBy_kp ((Kp.refl NoB wr).alloc _)) (fun r e => by cases e))
      replace hxy := hid hxy
      replace hkz := hid hkz
      replace hJk := hid hJk
      replace hNk := hid hNk
      cases bb with
      | false =>
        simp only [Bool.false_eq_true, if_false, List.append_nil] at hsu
        replace hsu := hid hsu
        gi_wp2_with fail
        refine ⟨fun f h => (by cases h), ?_⟩
        gi_wp2_with fail
        go_roundw
        case rel => exact ⟨k + 1, by omega, by go_num, by rw [hsu.out]; exact J5.out, hN5.out⟩
        case measure => simp [intOf]; omega
      | true =>
        simp only [if_true] at hsu
        have hlen : (liveK S k).length < (liveL S).length := by
          have := (liveK_pre S (k + 1)).length_le
          rw [hsu, List.length_append] at this; simp at this; omega
        obtain ⟨fn, tmps, assign, body, hyl, hRd⟩ := HY.out (liveK S k) (k, g, x) _ J5.out hlen
        unfold encL at hyl
        dsimp only at hyl
        have HRd := hid hRd
        replace hsu := hid hsu
        replace hlen := hid hlen
        clear hRd
        gi_wp2_with fail
        refine HRd.out.mono ?_
        rintro e W5 (⟨rfl, hJ5, hk5⟩ | ⟨rfl, hJx5⟩)
        · have hN6 := hid (hk5.cells hbw hN5.out)
          replace hJ5 := hid hJ5
          replace hk5 := hid hk5
          gi_wp2_with fail
          go_roundw
          case rel => exact ⟨k + 1, by omega, by go_num, by rw [hsu.out]; exact hJ5.out, hN6.out⟩
          case measure => simp [intOf]; omega
        · gi_wp2_with fail
          refine bodyPost_ret (results_none rfl _ _ _) rfl ?_
          exact ⟨⟨_, rfl⟩, .inr ⟨_, by have := liveK_pre S (k + 1); rw [hsu.out] at this; exact this, hJx5⟩⟩
    · obtain rfl : k = S.length := by omega
      replace hNk := hid hNk
      gi_wp2_with fail
      go_end0
      exact ⟨⟨_, rfl⟩, .inl ⟨liveL S, rfl, by rw [liveK_all] at hJk; exact hJk⟩⟩
end
end Go.Proofs.Ytldkogdkadgnkaa
