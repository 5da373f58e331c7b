/- Walks through an arena: are all that are free zero? -/
import Derived.Test.YtaanbonbdhjbpaaGA4
import Derived.DeepKeys
namespace Go.Proofs.Ytaanbonbdhjbpaa
set_option linter.unusedSimpArgs false
set_option linter.unusedVariables false
open Go.RowKit
attribute [local go_sem ↓] Go.wp_at_zero Go.wp_at_succ
section
variable {w w' : World} {p l : Nat} {v : Value} {S : List Sl3} {B : List Nat} {E : Nat}
theorem keysX : Try.prog.keyTypeAt 20 35 = true := by kernel_rfl
theorem guardX : Try.prog.eqGuardType Try.prog.depth 35 = false := by kernel_rfl
theorem formX (x : X) : (Value.agg x.1.toArray).formed Try.prog 35 = true := by
  have h1 := structX
  have h2 : Try.prog.cellsOf 35 = 19 := by kernel_rfl
  simp [Value.formed, h1, h2, x.len]
/-- can be compared -/
def XEq (x : X) : Prop := (Try.prog.keyLits 20 35 x.1).isSome = true
/-- a thing is the same as itself -/
theorem eqX {x : X} (h : XEq x) (W : World) : (Op.equalIn 10000 35 (.agg x.1.toArray) (.agg x.1.toArray)).run Try.prog W = .ok true W := by
  obtain ⟨la, hla⟩ := Option.isSome_iff_exists.1 h
  obtain ⟨r, hr, hi⟩ := eq_lits keysX (formX x) (formX x) hla hla W
  rw [hi.2 rfl] at hr; exact hr
theorem eqZ : XEq zX := by unfold XEq; kernel_rfl
/-- are two the same thing? No. -/
theorem nqX {ops : Array Oper} {rest : List Oper} {op : Oper} {a : Act} {Q : Exit → Act → World → Prop} {W : World} (hw : Region.wanted op (yielded ops a.tmps) = true) (t2 : TypeId) (y z : Operand) (ho : op.op = .binOp .neq 35 y z t2) (x : X) (hx : XEq x)
    (hy : a.eval y = .agg x.1.toArray) (hz : a.eval z = .agg x.1.toArray) (h : wpList Try.prog ops Q rest (a.put op.dst (.bool false)) W) : wpList Try.prog ops Q (op :: rest) a W :=
  BigFrame.wpList_want hw fun _ hK => wp_neq_agg 35 t2 y z ho _ _ hy hz guardX (eqX hx W) (hK _ _ h)
set_option maxRecDepth 100000 in
set_option maxHeartbeats 2000000 in
theorem zerof_yes {c : Nat} {x : X} {g : Int} : Calls Try.prog 35 #[.agg (eS (x, g, true)).toArray, .pointer (some ⟨c, 0, none⟩)] w fun e w' => e = .returned (.bool false) ∧ Kp NoB w w' := by
  have hb := blk_new w (.cells (eS (x, g, true)).toArray 74)
  have e1 : (w.alloc (.cells (eS (x, g, true)).toArray 74)).cell? ⟨w.heap.size, 20, none⟩ = some (.bool true) := by rw [cell_of hb]; simpa using eS_b (x, g, true)
  clear hb
  go_enter Try.func35, Try.ntmps35
  go_wp2_with fail
  go_ret
  exact ⟨rfl, (Kp.refl _ w).alloc _⟩
set_option maxRecDepth 100000 in
set_option maxHeartbeats 2000000 in
theorem zerof_no {c : Nat} {g : Int} (hc : w.heap[c]? = some (.cells zX.1.toArray 35 (0, 0))) : Calls Try.prog 35 #[.agg (eS (zX, g, false)).toArray, .pointer (some ⟨c, 0, none⟩)] w fun e w' => e = .returned (.bool false) ∧ Kp NoB w w' := by
  have hb := blk_new w (.cells (eS (zX, g, false)).toArray 74)
  have e1 : (w.alloc (.cells (eS (zX, g, false)).toArray 74)).cell? ⟨w.heap.size, 20, none⟩ = some (.bool false) := by rw [cell_of hb]; simpa using eS_b (zX, g, false)
  have r1 : (w.alloc (.cells (eS (zX, g, false)).toArray 74)).rangeAt w.heap.size 0 zX.1 := range_of hb (fun j v hj => by simpa using eS_x (zX, g, false) j v hj)
  have r2 : (w.alloc (.cells (eS (zX, g, false)).toArray 74)).rangeAt c 0 zX.1 := whole_of (blk_alloc hc)
  clear hb hc
  go_enter Try.func35, Try.ntmps35
  go_wp2_with (first | refine ldX (by rfl) _ rfl _ _ rfl zX r1 ?_ | refine ldX (by rfl) _ rfl _ _ rfl zX r2 ?_ | refine nqX (by rfl) _ _ _ rfl zX eqZ rfl rfl ?_)
  go_ret
  exact ⟨rfl, (Kp.refl _ w).alloc _⟩
theorem cfZ : ∀ args w, (callFunc 35 args).run Try.prog w = .ok (.enter 35 args) w := fun _ _ => rfl
set_option maxRecDepth 100000 in
set_option maxHeartbeats 2000000 in
theorem indexf_any {c : Nat} (hl : w.heap[l]? = some (.cells (rows eS S) 74 (0, 0))) (n2 : S.length ≤ 4096) (hc : w.heap[c]? = some (.cells zX.1.toArray 35 (0, 0))) (hz : ∀ (i : Nat) (x : X) (g : Int), S[i]? = some (x, g, false) → x = zX) :
    Calls Try.prog 41 #[.slice (some ⟨l, 0, none⟩) S.length S.length, .func (.func 35) #[] #[.pointer (some ⟨c, 0, none⟩)]] w fun e w' => e = .returned (.int .i64 (-1)) ∧ Kp NoB w w' := by
  have cf := cfZ
  go_enter Try.func41, Try.ntmps41
  go_wp2_with fail
  go_loopw [5, 8] (fun _ i W => ∃ j : Nat, j ≤ S.length ∧ i = .int .i64 j ∧ Kp NoB w W) (fun _ i _ => S.length - (intOf i).toNat)
  case atStart => exact ⟨0, Nat.zero_le _, rfl, Kp.refl _ w⟩
  case round =>
    obtain ⟨j, hj, rfl, hK⟩ := hrel
    by_cases hlt : j < S.length
    · obtain ⟨⟨x, g, b⟩, hk⟩ : ∃ s, S[j]? = some s := ⟨_, List.getElem?_eq_getElem hlt⟩
      have hl' := hK.get hl (fun h => h)
      have e0 : wr.rangeAt l (j * 21) (eS (x, g, b)) := range_of hl' (fun q u hq => by
        have hq' := (List.getElem?_eq_some_iff.1 hq).1
        rw [eS_len] at hq'
        rw [rows_get eS_len hk hq', hq])
      have HZ : Calls Try.prog 35 #[.agg (eS (x, g, b)).toArray, .pointer (some ⟨c, 0, none⟩)] wr fun e w' => e = .returned (.bool false) ∧ Kp NoB wr w' := by
        cases b
        · obtain rfl := hz j x g hk
          exact zerof_no (hK.get hc (fun h => h))
        · exact zerof_yes
      replace HZ := hid HZ
      have b3 : (0 : Int) ≤ (j : Int) := Int.natCast_nonneg _
      have b4 : (j : Int) < (S.length : Int) := by omega
      replace hl := hid hl
      replace hc := hid hc
      clear hk hl' hz
      go_wp2_with (refine ldS (by rfl) _ rfl _ _ rfl (x, g, b) e0 ?_)
      refine HZ.out.mono ?_
      rintro e w1 ⟨rfl, k1⟩
      go_wp2_with fail
      go_roundw
      case rel => exact ⟨j + 1, by omega, by go_num, hK.trans k1⟩
      case measure => simp [intOf]; omega
    · obtain rfl : j = S.length := by omega
      clear hz
      go_wp2_with fail
      go_ret
      exact ⟨rfl, hK⟩
set_option maxRecDepth 100000 in
set_option maxHeartbeats 2000000 in
theorem zero_any (h : AAt w p l v S B E) (o : AOk S B E) (hz : ∀ (i : Nat) (x : X) (g : Int), S[i]? = some (x, g, false) → x = zX) :
    Calls Try.prog 20 #[.pointer (some ⟨p, 0, none⟩)] w fun e w' => e = .returned (.bool true) ∧ Kp NoB w w' := by
  have hmf : ∀ (fn : Fn) (first cap : Array Value) (w : World), (Instr.makeFunc fn first cap).run Try.prog w = .ok (.func fn first cap) w := fun _ _ _ _ => rfl
  have HI : Calls Try.prog 34 #[.slice (some ⟨l, 0, none⟩) S.length S.length, .func (.func 35) #[] #[.pointer (some ⟨w.heap.size, 0, none⟩)]] (w.alloc (.cells #[.int .i64 0, .int .u8 0, .int .u8 0, .int .u8 0, .int .u8 0, .int .u8 0, .int .u8 0, .int .u8 0, .int .u8 0, .int .u8 0, .int .u8 0, .int .u8 0, .int .u8 0, .int .u8 0, .int .u8 0, .int .u8 0, .int .u8 0, .int .i64 0, .int .u64 0] 35)) fun e w' => e = .returned (.bool false) ∧ Kp NoB w w' := by
    have HX := hid (indexf_any (h.alloc (.cells zX.1.toArray 35)).hl o.n2 (blk_new w (.cells zX.1.toArray 35)) hz)
    clear h hz
    go_enter Try.func34, Try.ntmps34
    go_wp2_with fail
    refine HX.out.mono ?_
    rintro e w1 ⟨rfl, k1⟩
    go_wp2_with fail
    go_ret
    exact ⟨rfl, ((Kp.refl _ w).alloc _).trans k1⟩
  replace HI := hid HI
  have Lp := h.cs
  have up := ups Lp.2.2.2.2.2.2
  clear h hz
  go_enter Try.func20, Try.ntmps20
  go_wp2_with fail
  refine HI.out.mono ?_
  rintro e w1 ⟨rfl, k1⟩
  go_wp2_with fail
  go_ret
  exact ⟨rfl, k1⟩
end
end Go.Proofs.Ytaanbonbdhjbpaa
