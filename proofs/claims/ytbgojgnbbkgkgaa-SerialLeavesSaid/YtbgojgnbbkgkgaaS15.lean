/- Walks: a table's iterator. -/
import Derived.Test.YtbgojgnbbkgkgaaS14
namespace Go.Proofs.Ytbgojgnbbkgkgaa
set_option linter.unusedSimpArgs false
set_option linter.unusedVariables false
open Go.RowKit Go.Shelf
attribute [local go_sem ↓] Go.wp_at_zero Go.wp_at_succ
attribute [local go_sem] Oper.semAt_some
def dec : Value → Int × Int
  | .agg a => (match a[0]?, a[1]? with | some (Value.int _ i), some (Value.int _ g) => (i, g) | _, _ => (0, 0))
  | _ => (0, 0)
theorem dec_h (i g : Int) : dec (hV i g) = (i, g) := rfl
def rowOf (M : List (Int × Value)) (k : Int) : Int × Int × Int := (k, dec ((mget M k).getD (hV 0 0)))
def rowsL (M : List (Int × Value)) : List (Int × Int × Int) := (keysL M).map (rowOf M)
def encR (x : Int × Int × Int) : Array Value := #[.int .i64 x.1, hV x.2.1 x.2.2]
theorem keysL_len (M : List (Int × Value)) : (keysL M).length = M.length := by unfold keysL; rw [List.length_mergeSort, List.length_map]
theorem rowsL_len (M : List (Int × Value)) : (rowsL M).length = M.length := by unfold rowsL; rw [List.length_map, keysL_len]
theorem row_el {M : List (Int × Value)} {room : Nat} (o : TOk M room) (k : Int) : (mget M k).getD (hV 0 0) = hV (rowOf M k).2.1 (rowOf M k).2.2 := by
  unfold rowOf
  cases h : mget M k with
  | none => rfl
  | some v => obtain ⟨i, g, hv⟩ := o.el _ (mget_mem h); simp only at hv; subst hv; rfl
section
variable {w w' : World} {p m c room : Nat} {M : List (Int × Value)}
theorem run_mclone {es : Array MapEntry} {c : Nat} (hb : w.heap[m]? = some (.map es c)) : (Extern.MapsClone.clone #[.iface 64 (.map (some m))]).run Try.prog w = .ok (.iface 64 (.map (some w.heap.size))) (w.alloc (.map es c)) := by
  show (getObj m >>= fun o => match o with
    | .map entries clock => (newObj (.map entries clock) >>= fun n => pure (Value.iface 64 (.map (some n))))
    | _ => stuck "maps.clone: a map expected").run Try.prog w = _
  simp [MapKept.run_getObj_map hb, Result.andThen, go_sem]
theorem mapsclone_any {q : IntKind} (h : MapAt q w m M) : Calls Try.prog 32 #[.map (some m)] w fun e w' => e = .returned (.map (some w.heap.size)) ∧ MapAt q w' w.heap.size M ∧ Kp NoB w w' := by
  have heq : ∀ a w, (binOp .eql 64 (.map (some a)) (.map none)).run Try.prog w = .ok (.bool false) w := fun _ _ => by kernel_rfl
  obtain ⟨es, c, hb, hE⟩ := h
  have hta : ∀ v w, (Instr.typeAssert (.iface 64 v) 20 64 false).run Try.prog w = .ok v w := fun _ _ => by kernel_rfl
  have hcl : (callFunc 36 #[.iface 64 (.map (some m))]).run Try.prog w = .ok (.value (.iface 64 (.map (some w.heap.size)))) (w.alloc (.map es c)) := by
    rw [run_callFunc_extern Try.func36 (by kernel_rfl) (by kernel_rfl) (by kernel_rfl) (e := Extern.MapsClone.clone) (by kernel_rfl), run_mclone hb]
    rfl
  replace hb := hid hb
  go_enter Try.func32, Try.ntmps32
  go_wp2_with fail
  go_ret
  exact ⟨rfl, ⟨es, c, blk_new w _, hE⟩, (Kp.refl _ w).alloc _⟩
set_option maxRecDepth 100000 in
set_option maxHeartbeats 8000000 in
theorem all_seq (T : TAt w p m M room) (o : TOk M room) (hc : w.heap[c]? = some (.cells #[.pointer (some ⟨p, 0, none⟩)] 26 (0, 0))) :
    SeqStopsK Fence.wide 4 Try.prog 31 #[.pointer (some ⟨c, 0, none⟩)] encR (KN w.heap.size) (fun xs => xs = rowsL M) (fun pre => pre <+: rowsL M) M.length w := by
  intro l J Jx W hW hJ hJx hY h0
  have kW := kp_below hW
  have TW := T.kp kW (fun h => h) (fun h => h)
  have Lc := loc1 (kW.get hc (fun h => h))
  have Lp := loc2 TW.hp
  have HN := hid (none_any TW o.n1)
  have HC := hid (mapsclone_any TW.hm)
  have hsz := kW.size
  have hml : M.length ≤ 64 := Nat.le_trans o.le o.n2
  have HJ := hid hJ
  have HY := hid hY
  replace h0 := hid h0
  replace hW := hid hW
  replace TW := hid TW
  replace kW := hid kW
  replace T := hid T
  replace hc := hid hc
  have ho := hid o
  clear hJ hY hJx o
  refine callsIn_of_wp Try.func31 rfl trivial ?_ rfl
  simp only [Try.ntmps31, List.size_toArray, List.length_cons, List.length_nil, Nat.reduceAdd, Nat.reduceSub, Array.replicate_succ, Array.replicate_zero, List.push_toArray, List.append_toArray, List.nil_append, List.cons_append]
  gi_wp2_with fail
  refine ⟨trivial, (callsIn_wide.2 HN.out).mono ?_⟩
  rintro e w1 ⟨rfl, rfl⟩
  gi_wp2_with fail
  refine ⟨trivial, (callsIn_wide.2 HC.out).mono ?_⟩
  rintro e w2 ⟨rfl, C2, k2⟩
  have HK := hid (keys_any (some W.heap.size) w2)
  gi_wp2_with fail
  refine ⟨trivial, (callsIn_wide.2 HK.out).mono ?_⟩
  rintro e w3 ⟨rfl, hw3⟩
  have hc3 : w3.heap[w2.heap.size]? = some (.cells #[.map (some W.heap.size)] 64 (0, 0)) := by rw [hw3]; exact blk_new _ _
  have k3 : Kp NoB w2 w3 := by rw [hw3]; exact (Kp.refl _ w2).alloc _
  clear hw3
  have HS := hid (sorted_any (C2.kp k3 (fun h => h)) ho.out.k hc3 (by omega))
  have C3 := hid (C2.kp k3 (fun h => h))
  have K3 := hid (k2.trans k3)
  have hs2 := K3.out.size
  clear C2 k2 k3 hc3
  gi_wp2_with fail
  refine ⟨trivial, (callsIn_wide.2 HS.out).mono ?_⟩
  rintro e w4 ⟨v, rfl, hR, hO, k4⟩
  have C4 := hid (C3.out.kp k4 (fun h => h))
  have K4 := K3.out.trans k4
  have J4 := hid (HJ.out [] W w4 none h0.out (grownBy_kp K4) (fun r e => by cases e))
  obtain ⟨ov, cv, hv, hcv, _⟩ := hR.form
  subst hv
  have hOn : ∀ b, (Value.slice ov (keysL M).length cv).ownBlock = some b → w.heap.size ≤ b := fun b hb => by have := hO b hb; omega
  have hkl := keysL_len M
  replace hR := hid hR
  replace hOn := hid hOn
  clear hO k4 K4
  gi_wp2_with fail
  gi_loopw [5, 17] (fun _ i wr => ∃ k : Nat, k ≤ (keysL M).length ∧ i = .int .i64 k ∧ J ((rowsL M).take k) wr ∧ RowAt wr 22 eI 1 (.slice ov (keysL M).length cv) (keysL M) ∧ MapAt .i64 wr W.heap.size M) (fun _ i _ => (keysL M).length - (intOf i).toNat)
  case atStart => exact ⟨0, Nat.zero_le _, rfl, J4.out, hR.out, C4.out⟩
  case round =>
    obtain ⟨k, hk, rfl, hJk, hRk, hMk⟩ := hrel
    have b1 : (0 : Int) ≤ (k : Int) := Int.natCast_nonneg _
    by_cases hlt : k < (keysL M).length
    · have b2 : (k : Int) < ((keysL M).length : Int) := by omega
      have hkz : (keysL M)[k]? = some (keysL M)[k] := List.getElem?_eq_getElem hlt
      obtain ⟨g, c2, A, hv, hg, hA, hc2, _, _⟩ := hRk.pos eI_len (by omega)
      injection hv with hv1 _ hv3
      subst hv1; subst hv3
      have Le : wr.cell? ⟨g, k, none⟩ = some (.int .i64 (keysL M)[k]) := by
        rw [cell_of hg]; have := hA k 0 _ hkz (by omega); simpa [eI] using this
      obtain ⟨y, hy⟩ : ∃ y, (keysL M)[k] = y := ⟨_, rfl⟩
      rw [hy] at Le hkz
      have hmem : y ∈ M.map (·.1) := mem_sorted.1 (List.mem_of_getElem? hkz)
      have hwf : (Lit.int .i64 y).wf = true := by obtain ⟨q, hq, e⟩ := List.mem_map.1 hmem; rw [← e]; exact ho.out.k.w q hq
      have hl := hMk.look (P := Try.prog) ho.out.k k22 k64 (zero25 wr) y hwf false
      simp only [Bool.false_eq_true, if_false] at hl
      rw [row_el ho.out] at hl
      have htk : (rowsL M).take (k + 1) = (rowsL M).take k ++ [rowOf M y] := by
        rw [List.take_add_one]; congr 1
        simp [rowsL, hkz]
      have hlen : ((rowsL M).take k).length < M.length := by rw [List.length_take, rowsL_len]; omega
      obtain ⟨fn, tmps, assign, body, hyl, hRd⟩ := HY.out ((rowsL M).take k) (rowOf M y) wr hJk hlen
      have hrk : (rowOf M y).1 = y := rfl
      unfold encR at hyl
      rw [hrk] at hyl
      generalize rowOf M y = rr at *
      obtain ⟨r1, r2, r3⟩ := rr
      unfold hV at hyl hl
      dsimp only at hyl hl
      have HRd := hid hRd
      have hg' := hid hg
      replace hy := hid hy
      replace hkz := hid hkz
      replace hmem := hid hmem
      replace hwf := hid hwf
      replace htk := hid htk
      replace hrk := hid hrk
      replace hlen := hid hlen
      replace hJk := hid hJk
      replace hRk := hid hRk
      replace hMk := hid hMk
      replace hA := hid hA
      clear hRd hg J4
      gi_wp2_with fail
      refine HRd.out.mono ?_
      rintro e W5 (⟨rfl, hJ5, hk5⟩ | ⟨rfl, hJx5⟩)
      · have hR5 : RowAt W5 22 eI 1 (.slice (some ⟨g, 0, none⟩) (keysL M).length cv) (keysL M) := hRk.out.keep (fun b hb => by
          injection hb with hb; subst hb
          rw [hk5.cells (hOn _ rfl) hg'.out, hg'.out])
        have hM5 : MapAt .i64 W5 W.heap.size M := by
          obtain ⟨es, ck, h1, h2⟩ := hMk.out
          exact ⟨es, ck, hk5.map (by omega) h1, h2⟩
        replace hR5 := hid hR5
        replace hM5 := hid hM5
        replace hJ5 := hid hJ5
        replace hk5 := hid hk5
        gi_wp2_with fail
        go_roundw
        case rel => exact ⟨k + 1, by omega, by go_num, by rw [htk.out]; exact hJ5.out, hR5.out, hM5.out⟩
        case measure => simp [intOf]; omega
      · gi_wp2_with fail
        refine bodyPost_ret (results_none rfl _ _ _) rfl ?_
        exact ⟨⟨_, rfl⟩, .inr ⟨_, by rw [← htk.out]; exact List.take_prefix _ _, hJx5⟩⟩
    · obtain rfl : k = (keysL M).length := by omega
      replace hRk := hid hRk
      replace hMk := hid hMk
      gi_wp2_with fail
      go_end0
      exact ⟨⟨_, rfl⟩, .inl ⟨rowsL M, rfl, by rw [List.take_of_length_le (by rw [rowsL_len, keysL_len]; omega)] at hJk; exact hJk⟩⟩
end
end Go.Proofs.Ytbgojgnbbkgkgaa
