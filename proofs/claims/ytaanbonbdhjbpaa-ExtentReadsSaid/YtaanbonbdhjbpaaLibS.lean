/- Rows that are copied, added to in their midst, cut: pieces of any size. No program in sight. -/
import Derived.Test.YtaanbonbdhjbpaaLibR
import Derived.Lib.Overlaps
import Derived.Lib.AppendZeros
import Derived.Lib.AppendZerosOnto
import Derived.Laws.CopyRow
import GoSem.Builtin.Clear
namespace Go.Proofs.Ytaanbonbdhjbpaa
open Go.RowKit

section
variable {P : Program}
/-- copy, pieces of any size: all is read before anything is written -/
theorem run_copyN (w : World) (dT sT ty elem : TypeId) (g o dLen dCap n : Nat) (a : Addr) (sLen sCap : Nat) (cur : Array Value) (t : TypeId) (cs : List Value)
    (hu : P.underlying dT = some (.slice elem)) (hs : (P.info? elem).map (·.size) = some n)
    (hg : w.heap[g]? = some (.cells cur t (0, 0))) (hn : cs.length = Nat.min sLen dLen * n)
    (hsrc : ∀ j v, cs[j]? = some v → w.cell? (a.add j) = some v) (hfit : o + cs.length ≤ cur.size) (h1 : ∀ v ∈ cs, v.oneCell' = true) :
    (Builtin.copy_ #[dT, sT] ty #[.slice (some ⟨g, o, none⟩) dLen dCap, .slice (some a) sLen sCap]).run P w =
      .ok (goInt (Nat.min sLen dLen)) (w.setRow g (cur.toList.take o ++ cs ++ cur.toList.drop (o + cs.length)).toArray) := by
  have hl := run_loadCells_list (P := P) w a cs hsrc
  have hst := run_storeCells_at P g o t cs 0 cur w hg (by simpa using hfit) h1
  cases hq : P.info? elem with
  | none => simp [hq] at hs
  | some i =>
    have hi : i.size = n := by simpa [hq] using hs
    subst hi
    simp [Builtin.copy_, run_underlying hu, Builtin.lenOf, Builtin.firstCells, sizeOf, typeInfo, hq, ← hn, hl, hst]
theorem wp_copyN {w : World} {o : Oper} {a : Act} {K : Act → World → Prop} {Q : Exit → Act → World → Prop} (d s : Operand) (dT sT elem : TypeId) (n : Nat)
    (ho : o.op = .call { callee := .builtin .copy, args := #[d, s], argTypes := #[dT, sT] })
    (hu : P.underlying dT = some (.slice elem)) (hs : (P.info? elem).map (·.size) = some n)
    (g off dLen dCap : Nat) (hd : a.eval d = .slice (some ⟨g, off, none⟩) dLen dCap) (ad : Addr) (sLen sCap : Nat) (hsv : a.eval s = .slice (some ad) sLen sCap)
    (cur : Array Value) (t : TypeId) (hg : w.heap[g]? = some (.cells cur t (0, 0))) (cs : List Value) (hn : cs.length = Nat.min sLen dLen * n)
    (hsrc : ∀ j v, cs[j]? = some v → w.cell? (ad.add j) = some v) (hfit : off + cs.length ≤ cur.size) (h1 : ∀ v ∈ cs, v.oneCell' = true)
    (h : ∀ r, K (a.put o.dst r) (w.setRow g (cur.toList.take off ++ cs ++ cur.toList.drop (off + cs.length)).toArray)) : o.wp P a w K Q := by
  have hr := run_copyN (P := P) w dT sT o.type elem g off dLen dCap n ad sLen sCap cur t cs hu hs hg hn hsrc hfit h1
  unfold Oper.wp execOp
  simp only [ho, resolve, invoke, builtin, Sem.run_bind, Sem.run_pure, Result.andThen_ok, List.map_toArray, List.map_cons, List.map_nil, hd, hsv, hr]
  exact h _
theorem run_clearN (w : World) (t ty e : TypeId) (i : TypeInfo) (z : Value) (ht : P.underlying t = some (.slice e)) (hi : P.info? e = some i) (hz : i.zero = some z) (g o n cap : Nat) (hn : 0 < n) (cur : Array Value) (t' : TypeId)
    (hg : w.heap[g]? = some (.cells cur t' (0, 0))) (hfit : o + (Builtin.zeroCells z.cells n).toList.length ≤ cur.size) (h1 : ∀ v ∈ (Builtin.zeroCells z.cells n).toList, v.oneCell' = true) :
    (Builtin.clear_ #[t] ty #[.slice (some ⟨g, o, none⟩) n cap]).run P w = .ok (.tuple #[]) (w.setRow g (cur.toList.take o ++ (Builtin.zeroCells z.cells n).toList ++ cur.toList.drop (o + (Builtin.zeroCells z.cells n).toList.length)).toArray) := by
  have hst := run_storeCells_at P g o t' (Builtin.zeroCells z.cells n).toList 0 cur w hg (by simpa using hfit) h1
  simp only [Nat.add_zero] at hst
  obtain ⟨n, rfl⟩ : ∃ m, n = m + 1 := ⟨n - 1, by omega⟩
  simp [Builtin.clear_, run_underlying ht, zeroValue, typeInfo, hi, hz, hst]
end
theorem kp_setRow {F : Nat → Prop} {w w1 : World} (h : Kp F w w1) {g : Nat} (cs : Array Value) (hg : g < w.heap.size → F g) : Kp F w (w1.setRow g cs) :=
  ⟨h.os, h.tape, h.output, by simpa [World.setRow] using h.size, fun b hb hf => (setRow_other w1 g b cs (fun e => hf (by subst e; exact hg hb))).trans (h.blk b hb hf)⟩
/-- the lists of cells that come of it -/
theorem shift_in {α : Type} (A : List α) (X Y Z : List α) (v : List α) (i n s : Nat) (hX : X.length = i) (hY : Y.length = n) (hv : v.length = s) (hA : A = X ++ Y ++ Z) (hZ : s ≤ Z.length) :
    let c1 := A.take (i + s) ++ Y ++ A.drop (i + s + n)
    c1.take i ++ v ++ c1.drop (i + s) = X ++ v ++ Y ++ Z.drop s := by
  intro c1
  have hl : A.length = i + n + Z.length := by rw [hA]; simp [hX, hY]; omega
  have h1 : c1.take i = X := by
    show (A.take (i + s) ++ Y ++ A.drop (i + s + n)).take i = X
    rw [List.append_assoc, List.take_append_of_le_length (by rw [List.length_take]; omega), List.take_take, Nat.min_eq_left (by omega), hA, List.append_assoc, ← hX, List.take_left]
  have h2 : c1.drop (i + s) = Y ++ Z.drop s := by
    show (A.take (i + s) ++ Y ++ A.drop (i + s + n)).drop (i + s) = _
    have hlt : (A.take (i + s)).length = i + s := by rw [List.length_take]; omega
    rw [List.append_assoc, List.drop_left' hlt]
    congr 1
    have h3 : (X ++ Y).length = i + n := by simp [hX, hY]
    rw [hA, show i + s + n = (i + n) + s from by omega, ← List.drop_drop, List.drop_left' h3]
  rw [h1, h2]
  simp
end Go.Proofs.Ytaanbonbdhjbpaa
