/- Whole structs, in and out of the midst of a block that is known whole; whether two are the same. No program in sight. -/
import Derived.Test.YtaanbonbdhjbpaaLibG
import Derived.Deep.MidRow
import Derived.Laws.StructEq
import Derived.DeepKeys
import Derived.BigFrame
import Derived.Great.BuildSlice
namespace Go.Proofs.Ytaanbonbdhjbpaa
open Go.RowKit
theorem far_setCells {b b' : Nat} (h : b' ≠ b) : ∀ (vs : List Value) (o : Nat) (w : World), (w.setCells b o vs).heap[b']? = w.heap[b']?
  | [], _, _ => rfl
  | v :: r, o, w => by rw [World.setCells, far_setCells h r]; exact Below.heap_setCell w _ v b' h
theorem size_setCells {b : Nat} : ∀ (vs : List Value) (o : Nat) (w : World), (w.setCells b o vs).heap.size = w.heap.size
  | [], _, _ => rfl
  | v :: r, o, w => by rw [World.setCells, size_setCells r]; simp [World.setCell]
theorem blk_setCells {b : Nat} {t : TypeId} {f : Nat × Nat} : ∀ (vs : List Value) (o : Nat) (w : World) (A : Array Value), w.heap[b]? = some (.cells A t f) → (w.setCells b o vs).heap[b]? = some (.cells (setRow A o vs) t f)
  | [], _, _, _, h => h
  | v :: r, o, w, A, h => by rw [World.setCells, setRow]; exact blk_setCells r (o + 1) _ _ (blk_setCell h o v)
theorem setCells_drawn {b : Nat} : ∀ (vs : List Value) (o : Nat) (w : World), (w.setCells b o vs).os = w.os ∧ (w.setCells b o vs).tape = w.tape ∧ (w.setCells b o vs).output = w.output
  | [], _, _ => ⟨rfl, rfl, rfl⟩
  | v :: r, o, w => by rw [World.setCells]; exact setCells_drawn r (o + 1) (w.setCell _ v)
theorem Kp.setCells {F : Nat → Prop} {w w1 : World} (h : Kp F w w1) {b o : Nat} (vs : List Value) (hp : b < w.heap.size → F b) : Kp F w (w1.setCells b o vs) := by
  obtain ⟨h1, h2, h3⟩ := setCells_drawn (b := b) vs o w1
  exact ⟨h1.trans h.os, h2.trans h.tape, h3.trans h.output, by rw [size_setCells]; exact h.size,
    fun b' hb' hf => (far_setCells (fun e => hf (by subst e; exact hp hb')) vs o w1).trans (h.blk b' hb' hf)⟩
theorem range_of {w : World} {b o : Nat} {A : Array Value} {t : TypeId} {f : Nat × Nat} {cs : List Value} (h : w.heap[b]? = some (.cells A t f)) (hc : ∀ j v, cs[j]? = some v → A[o + j]? = some v) : w.rangeAt b o cs := fun j v hj => by
  simp only [World.cell?, h]; exact hc j v hj
theorem there_of {w : World} {b o n : Nat} {A : Array Value} {t : TypeId} (h : w.heap[b]? = some (.cells A t (0, 0))) (hn : o + n ≤ A.size) : w.there b o n := fun j hj => by
  refine ⟨?_, frozen_of h _⟩
  rw [cell_of h, Array.getElem?_eq_getElem (by omega)]; rfl
theorem whole_of {w : World} {b : Nat} {cs : List Value} {t : TypeId} {f : Nat × Nat} (h : w.heap[b]? = some (.cells cs.toArray t f)) : w.rangeAt b 0 cs := range_of h (fun j v hj => by rw [Nat.zero_add]; simpa using hj)
/-- a field of a row's piece -/
theorem rows_part {α : Type} {f : α → List Value} {n : Nat} (hf : ∀ x, (f x).length = n) {l : List α} {k : Nat} {x : α} (h : l[k]? = some x) {o : Nat} {cs : List Value} (hc : ∀ j v, cs[j]? = some v → (f x)[o + j]? = some v) :
    ∀ j v, cs[j]? = some v → (rows f l)[k * n + o + j]? = some v := by
  intro j v hj
  have h1 := hc j v hj
  have hlt := (List.getElem?_eq_some_iff.1 h1).1
  rw [hf] at hlt
  rw [Nat.add_assoc, rows_get hf h hlt, h1]
section
variable {P : Program}
/-- a whole struct is read -/
theorem load_mid (w : World) (b o : Nat) (ty : TypeId) (cs : List Value) {fs : Array Field} (hc : w.rangeAt b o cs) (hu : P.underlying ty = some (.struct fs)) (hi : (P.info? ty).map (·.size) = some cs.length) :
    (Instr.loadAt ty (.pointer (some ⟨b, o, none⟩))).run P w = .ok (.agg cs.toArray) w := run_loadAt_mid w b o ty cs _ hc hu rfl hi
theorem store_mid (w : World) (b o : Nat) (ty : TypeId) (cs : List Value) (hc : w.there b o cs.length) (hi : (P.info? ty).map (·.size) = some cs.length) (h1 : ∀ v ∈ cs, v.oneCell' = true) :
    (Instr.storeAt ty (.pointer (some ⟨b, o, none⟩)) (.agg cs.toArray)).run P w = .ok () (w.setCells b o cs) := run_storeAt_mid w b o ty cs.toArray (by simpa using hc) (by simpa using hi) (all_oneCell_toArray h1)
theorem fold_put : ∀ (xs : List Value) (k : Nat) (Z : Array Value), (xs.zipIdx k).foldl (fun cs (x : Value × Nat) => cs.setIfInBounds x.2 x.1) Z = setRow Z k xs
  | [], _, _ => rfl
  | x :: r, k, Z => by rw [List.zipIdx_cons, List.foldl_cons, setRow]; exact fold_put r (k + 1) _
theorem setRow_full (Z : Array Value) (xs : List Value) (h : xs.length = Z.size) : setRow Z 0 xs = xs.toArray := by
  apply Array.ext_getElem?
  intro i
  rw [setRow_get _ _ _ _ (by omega)]
  split
  · simp
  · rename_i hi
    rw [Array.getElem?_eq_none (by omega), Array.getElem?_eq_none (by simp; omega)]
/-- []T{x}, x a whole struct -/
theorem wp_build1 {o : Oper} {a : Act} {w : World} {K : Act → World → Prop} {Q : Exit → Act → World → Prop} (t e : TypeId) (x : Operand) (ho : o.op = .buildSlice t 1 #[(0, x)]) (xs : List Value) (hx : a.eval x = .agg xs.toArray)
    (hu : P.underlying t = some (.slice e)) (hie : (P.info? e).map (fun i => (i.zero.isSome, i.size)) = some (true, xs.length)) (h0 : 0 < xs.length) (h24 : xs.length ≤ 10000)
    (h : K (a.put o.dst (.slice (some ⟨w.heap.size, 0, none⟩) 1 1)) (w.alloc (.cells xs.toArray e))) : o.wp P a w K Q := by
  obtain ⟨ie, hi, hs⟩ := Option.map_eq_some_iff.1 hie
  simp only [Prod.mk.injEq] at hs
  obtain ⟨z, hz⟩ := Option.isSome_iff_exists.1 hs.1
  refine wp_buildSlice t e 1 _ ho xs.toArray ie z hu hi hz (by rw [hs.2]; omega) (by rw [hs.2]; omega) ?_ h
  have hc : (Value.agg xs.toArray).cells = xs.toArray := rfl
  simp only [List.map_toArray, List.map_cons, List.map_nil, hx, Instr.fill, Nat.zero_mul, Nat.zero_add, Nat.one_mul, hc, List.size_toArray, hs.2]
  rw [if_neg (by simp)]
  have hf := fold_put xs 0 ((Array.range xs.length).map (z.cells[· % z.cells.size]!))
  rw [setRow_full _ _ (by simp)] at hf
  simpa [← Array.foldl_toList] using hf
/-- results that lie in memory -/
theorem results_cell_tmp {fn : Func} {p q : Tmp} {ty : TypeId} (h : fn.results = #[.cell p ty, .tmp q]) (tmps : Array Value) (w : World) (b o : Nat) (cs : List Value) {fs : Array Field}
    (hp : tmps.getD p undef = .pointer (some ⟨b, o, none⟩)) (hc : w.rangeAt b o cs) (hu : P.underlying ty = some (.struct fs)) (hi : (P.info? ty).map (·.size) = some cs.length) :
    (results fn tmps).run P w = .ok (.tuple #[.agg cs.toArray, tmps.getD q undef]) w := by
  have hp' : tmps[p]?.getD undef = .pointer (some ⟨b, o, none⟩) := by simpa using hp
  simp [results, h, hp', asAddr, run_loadVar_mid w b o ty cs _ hc hu rfl hi]
theorem results_cell_one {fn : Func} {p : Tmp} {ty : TypeId} (h : fn.results = #[.cell p ty]) (tmps : Array Value) (w : World) (b o : Nat) (cs : List Value) {fs : Array Field}
    (hp : tmps.getD p undef = .pointer (some ⟨b, o, none⟩)) (hc : w.rangeAt b o cs) (hu : P.underlying ty = some (.struct fs)) (hi : (P.info? ty).map (·.size) = some cs.length) :
    (results fn tmps).run P w = .ok (.agg cs.toArray) w := by
  have hp' : tmps[p]?.getD undef = .pointer (some ⟨b, o, none⟩) := by simpa using hp
  simp [results, h, hp', asAddr, run_loadVar_mid w b o ty cs _ hc hu rfl hi]
/-! Are two the same? -/
theorem eq_lits {t : TypeId} (hk : P.keyTypeAt 20 t = true) {xs ys : List Value} {la lb : List Lit} (fx : (Value.agg xs.toArray).formed P t = true) (fy : (Value.agg ys.toArray).formed P t = true) (hx : P.keyLits 20 t xs = some la) (hy : P.keyLits 20 t ys = some lb) (W : World) :
    ∃ r : Bool, (Op.equalIn 10000 t (.agg xs.toArray) (.agg ys.toArray)).run P W = .ok r W ∧ (r = true ↔ la = lb) :=
  run_equalIn_deep (P := P) 9980 20 t hk W 20 20 (.agg xs.toArray) (.agg ys.toArray) la lb fx fy (by simpa [Value.cells] using hx) (by simpa [Value.cells] using hy)
variable {o : Oper} {a : Act} {w : World} {K : Act → World → Prop} {Q : Exit → Act → World → Prop}
theorem wp_neq_agg (t t2 : TypeId) (y z : Operand) (ho : o.op = .binOp .neq t y z t2) (xs ys : Array Value) (hy : a.eval y = .agg xs) (hz : a.eval z = .agg ys) (hg : P.eqGuardType P.depth t = false) {r : Bool}
    (he : (Op.equalIn 10000 t (.agg xs) (.agg ys)).run P w = .ok r w) (h : K (a.put o.dst (.bool (!r))) w) : o.wp P a w K Q := by
  unfold Oper.wp execOp
  simp only [ho, hy, hz, Sem.run_bind, run_eqGuard_agg w _ _ _ _ _ _ hg, run_neq_struct, he, Result.andThen_ok]
  exact h
theorem wp_eql_agg (t t2 : TypeId) (y z : Operand) (ho : o.op = .binOp .eql t y z t2) (xs ys : Array Value) (hy : a.eval y = .agg xs) (hz : a.eval z = .agg ys) (hg : P.eqGuardType P.depth t = false) {r : Bool}
    (he : (Op.equalIn 10000 t (.agg xs) (.agg ys)).run P w = .ok r w) (h : K (a.put o.dst (.bool r)) w) : o.wp P a w K Q := by
  unfold Oper.wp execOp
  simp only [ho, hy, hz, Sem.run_bind, run_eqGuard_agg w _ _ _ _ _ _ hg, run_eql_struct, he, Result.andThen_ok]
  exact h
end
end Go.Proofs.Ytaanbonbdhjbpaa
