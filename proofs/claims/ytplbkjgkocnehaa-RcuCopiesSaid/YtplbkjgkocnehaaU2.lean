/- Walks: maps.Keys, its iterator. -/
import Derived.Test.YtplbkjgkocnehaaU1
import Derived.Test.YtplbkjgkocnehaaLibP
import Derived.Test.YtplbkjgkocnehaaLibI
import Derived.Test.YtplbkjgkocnehaaLibR
import Derived.OwnWalkIn
import Derived.TacticsInMore
import Derived.RegionIn
import Derived.LoopNIn
import Derived.LoopIn
import Derived.Sort.BigQuietIn
namespace Go.Proofs.Ytplbkjgkocnehaa
set_option linter.unusedSimpArgs false
set_option linter.unusedVariables false
open Go.RowKit Go.Shelf
attribute [local go_sem ↓] Go.wp_at_zero Go.wp_at_succ
theorem k3 : Try.prog.underlying 3 = some (.int .i64) := by kernel_rfl
theorem k71 : Try.prog.underlying 71 = some (.map 3 3) := by kernel_rfl
theorem keys_any (m : Option Nat) (w : World) : Calls Try.prog 40 #[.map m] w fun e w' => e = .returned (.func (.func 56) #[] #[.pointer (some ⟨w.heap.size, 0, none⟩)]) ∧ w' = w.alloc (.cells #[.map m] 71) := by
  go_enter Try.func40, Try.ntmps40
  go_wp2_with fail
  go_ret
  exact ⟨rfl, rfl⟩
def itLeft (W : World) (r m : Nat) : Nat := match W.heap[m]?, W.heap[r]? with | some (.map es _), some (.mapIter _ _ seen _) => (leftOf es seen).size | _, _ => 0
section
variable {w w' : World} {p m r c n : Nat} {M : List (Int × Value)}
theorem IterAt.left {q : IntKind} {S : List Int} (h : IterAt q w r m M S c) : itLeft w r m = c := by
  obtain ⟨es, ck, seen, c0, h1, _, _, h2, _, h3, _⟩ := h
  simp [itLeft, h1, h2, h3]
theorem IterAt.walks {q : IntKind} {S : List Int} {cnt : Nat} (h : IterAt q w r m M S cnt) (k : KeepsWalks w w') : IterAt q w' r m M S cnt := by
  obtain ⟨es, ck, seen, c0, h1, h2, h3, h4, h5⟩ := h
  exact ⟨es, ck, seen, c0, k.same _ _ h1 rfl, h2, h3, k.same _ _ h4 rfl, h5⟩
set_option maxRecDepth 100000 in
set_option maxHeartbeats 4000000 in
theorem keys_seq (hm : MapAt .i64 w m M) (hk : MOk .i64 M) (hc : w.heap[c]? = some (.cells #[.map (some m)] 71 (0, 0))) :
    SeqStopsK Fence.wide 4 Try.prog 56 #[.pointer (some ⟨c, 0, none⟩)] (fun s : Int => #[.int .i64 s]) KeepsWalks (fun xs => xs.Nodup ∧ ∀ x, x ∈ xs ↔ x ∈ M.map (·.1)) (fun _ => True) M.length w := by
  intro l J Jx W hW hJ hJx hY h0
  have kW := kp_below hW
  have Lc := loc1 (kW.get hc (fun h => h))
  have hmW := hm.kp kW (fun h => h)
  obtain ⟨w1, hrg, ⟨cnt, I1⟩, k1⟩ := hmW.range (P := Try.prog) k71
  have J1 := hid (hJ [] W w1 none h0 (grownBy_kp k1) (fun r e => by cases e))
  have hWs := hmW.lt
  replace I1 := hid I1
  replace hmW := hid hmW
  replace hm := hid hm
  replace kW := hid kW
  replace k1 := hid k1
  replace hc := hid hc
  replace hW := hid hW
  replace h0 := hid h0
  have HJ := hid hJ
  have HY := hid hY
  replace hJx := hid hJx
  clear hJ hY
  refine callsIn_of_wp Try.func56 rfl trivial ?_ rfl
  simp only [Try.ntmps56, List.size_toArray, List.length_cons, List.length_nil, Nat.reduceAdd, Nat.reduceSub, Array.replicate_succ, Array.replicate_zero, List.push_toArray, List.append_toArray, List.nil_append, List.cons_append]
  gi_wp2_with fail
  gi_loopw [3] (fun _ wr => ∃ (S : List Int) (cnt : Nat), IterAt .i64 wr W.heap.size m M S cnt ∧ J S.reverse wr ∧ Hid (S.Nodup ∧ ∀ x ∈ S, x ∈ M.map (·.1))) (fun _ wr => itLeft wr W.heap.size m)
  case atStart => exact ⟨[], cnt, I1.out, J1.out, hid ⟨List.nodup_nil, by simp⟩⟩
  case round =>
    obtain ⟨S, cnt', hI, hJs, hS⟩ := hrel
    rcases hI.next (P := Try.prog) hk 0 with ⟨hA, hnx⟩ | ⟨k, v, w5, c', hkM, hkS, hnx, hI', hlt, hk5, hen⟩
    · replace hI := hid hI
      replace hA := hid hA
      gi_wp2_with fail
      go_end0
      refine ⟨⟨_, rfl⟩, .inl ⟨S.reverse, ⟨nodup_rev hS.out.1, fun x => ?_⟩, hJs⟩⟩
      rw [List.mem_reverse]
      constructor
      · exact hS.out.2 x
      · intro hx
        obtain ⟨p, hp, rfl⟩ := List.mem_map.1 hx
        exact hA.out p hp
    · have hlm := hI.left
      have hlm' := hI'.left
      have hiter : ∃ o : Obj, wr.heap[W.heap.size]? = some o ∧ o.isWalk = true := by
        obtain ⟨es, ck, seen, c0, _, _, _, h4, _⟩ := hI
        exact ⟨_, h4, rfl⟩
      have hJ5 : J S.reverse w5 := HJ.out S.reverse wr w5 (some W.heap.size) hJs ⟨hk5.os, hk5.tape, hk5.output, hk5.size, fun b hb hne => hk5.blk b hb (fun e => hne (by rw [e]))⟩ (fun r e => by cases e; exact ⟨Nat.le_refl _, hiter⟩)
      have hSn : (k :: S).Nodup := List.nodup_cons.2 ⟨hkS, hS.out.1⟩
      have hSm : ∀ x ∈ k :: S, x ∈ M.map (·.1) := fun x hx => by
        rcases List.mem_cons.1 hx with e | h
        · subst e; exact List.mem_map_of_mem (f := fun x : Int × Value => x.1) hkM
        · exact hS.out.2 x h
      have hlen : S.reverse.length < M.length := by
        have := nodup_len hSn hSm
        simp at this ⊢; omega
      obtain ⟨fn, tmps, assign, body, hy, hR⟩ := HY.out S.reverse k w5 hJ5 hlen

      replace hI := hid hI
      replace hI' := hid hI'
      replace hkM := hid hkM
      replace hkS := hid hkS
      replace hJs := hid hJs
      replace hJ5 := hid hJ5
      replace hSn := hid hSn
      replace hSm := hid hSm
      replace hlm := hid hlm
      replace hlm' := hid hlm'
      replace hiter := hid hiter
      replace hlen := hid hlen
      have hR' := hid hR
      clear hR hk5
      gi_wp2_with fail
      refine hR'.out.mono ?_
      rintro e W3 (⟨rfl, hJ3, hk3⟩ | ⟨rfl, hJx3⟩)
      · have I3 := hI'.out.walks hk3
        have hl3 := hid I3.left
        replace I3 := hid I3
        replace hJ3 := hid hJ3
        replace hk3 := hid hk3
        gi_wp2_with fail
        go_roundw
        case rel => exact ⟨k :: S, c', I3.out, by rw [List.reverse_cons]; exact hJ3.out, hid ⟨hSn.out, hSm.out⟩⟩
        case measure => rw [hl3.out, hlm.out]; exact hlt
      · gi_wp2_with fail
        refine bodyPost_ret (results_none rfl _ _ _) rfl ?_
        exact ⟨⟨_, rfl⟩, .inr ⟨_, trivial, hJx3⟩⟩
end
end Go.Proofs.Ytplbkjgkocnehaa
