/- A range over a function: in a plain walk; over an iterator that gives nothing. No program in sight. -/
import Derived.Test.YtplbkjgkocnehaaLibA
import Derived.RangeFuncNested
import Derived.RangeFuncBound
import Derived.RangeFuncCalls
import Derived.RangeFuncLeaves
import Derived.RangeFuncWrites
import Derived.Shelf.Abstract
namespace Go.Proofs.Ytplbkjgkocnehaa
open Go.RowKit Go.Shelf

theorem kp_below {w w' : World} (h : Below w.heap.size w w') : Kp NoB w w' := ⟨h.os, h.tape, h.output, h.size, fun b hb _ => h.block b hb⟩
theorem below_kp {w w' : World} (h : Kp NoB w w') : Below w.heap.size w w' := ⟨h.os, h.tape, h.output, h.size, fun b hb => h.blk b hb (fun x => x)⟩
theorem kp_own {w : World} {β : Type} : OwnFrom (β := β) w.heap.size (fun _ W => Kp NoB w W) := fun _ W W' row hs hg hr =>
  ⟨hg.os.trans hs.os, hg.tape.trans hs.tape, hg.output.trans hs.output, Nat.le_trans hs.size hg.size, fun b hb hf => (hg.block b (Nat.lt_of_lt_of_le hb hs.size) (fun e => by
    have := (hr b e.symm).1
    omega)).trans (hs.blk b hb hf)⟩
section
variable {P : Program}
theorem wp_rangeFunc_none {g : Operand} {ps : Array Tmp} {assign body : Code} {Q : Exit → Act → World → Prop} {a : Act} {w : World} {gf : Nat} {lb : Array Value} (hg : a.eval g = .func (.func gf) #[] lb) (eg : ∀ args w, (callFunc gf args).run P w = .ok (.enter gf args) w)
    (hit : ∀ W y, Kp NoB w W → Calls P gf (#[y] ++ lb) W fun e W' => e = .returned (.tuple #[]) ∧ W = W')
    (h : ∀ D W, Kp NoB w W → w.heap.size ≤ D → W.heap[D]? = some (.deferred (some [])) → Q .normal { a with defers := { target := .collected D, args := #[] } :: a.defers } W) :
    (Code.rangeFunc g ps assign body).wp P Q a w := by
  refine wpIn_wide (n := 5).1 ?_
  refine wpIn_rangeFunc_ownG (F := Fence.wide) (n := 5) (α := Empty) rfl (by omega) (gf := gf) (lb := lb) hg trivial eg (encs := fun x => x.elim) (Kp := fun _ _ => True) (S := fun _ => True) (Sp := fun _ => False) (N := 0) (w0 := w) ?_ (fun _ _ => trivial) (fun _ _ _ _ _ _ _ _ => trivial) (Below.refl _ _) (fun x => x.elim)
    (fun _ W => Kp NoB w W) (fun _ _ _ => False) kp_own (fun _ _ _ _ _ hs _ _ => hs) (Kp.refl _ _) (fun x => x.elim) (fun _ x => x.elim) (fun _ _ x => x.elim) ?_ (fun _ _ _ _ _ _ h => h.elim)
  · intro l J Jx W hW hJ hJx hY h0
    refine callsIn_wide.2 ((hit W _ (kp_below hW)).mono ?_)
    rintro e W' ⟨rfl, rfl⟩
    exact ⟨⟨_, rfl⟩, .inl ⟨[], trivial, h0⟩⟩
  · intro D xs W hD _ hI hK
    exact h D W hI hD hK
/-- a function whose body holds a range over a function -/
theorem calls_of_wp_marks {f : FuncId} {fn : Func} {c : Code} {args : Array Value} {w : World} {R : Ending → World → Prop} (hf : P.funcs[f]? = some fn) (hb : fn.body = some c)
    (h : c.wp P (bodyPostM Fence.wide 5 P fn R) { tmps := args ++ Array.replicate (fn.ntmps - args.size) undef, defers := [] } w) : Calls P f args w R :=
  callsIn_wide.1 (callsIn_of_wp_marks (n := 5) hf hb trivial (wpIn_wide.2 h))
theorem leaves_one {fn : Func} {tmps : Array Value} {R : Ending → World → Prop} {D : Nat} {w : World} (hK : w.heap[D]? = some (.deferred (some []))) {v : Value}
    (hv : (results fn tmps).run P (w.putObj D (.deferred none)) = .ok v (w.putObj D (.deferred none))) (hR : R (.returned v) (w.putObj D (.deferred none))) :
    LeavesInM Fence.wide 5 P fn tmps R [{ target := .collected D, args := #[] }] .returning w := by
  refine ⟨by simp, .inl ⟨_, _, rfl, run_takeDeferred hK, ?_⟩⟩
  exact ⟨_, hv, hR⟩
theorem leaves_two {fn : Func} {tmps : Array Value} {R : Ending → World → Prop} {D D' : Nat} {w : World} (hK : w.heap[D]? = some (.deferred (some []))) (hK' : w.heap[D']? = some (.deferred (some []))) (hne : D ≠ D') {v : Value}
    (hv : (results fn tmps).run P ((w.putObj D (.deferred none)).putObj D' (.deferred none)) = .ok v ((w.putObj D (.deferred none)).putObj D' (.deferred none))) (hR : R (.returned v) ((w.putObj D (.deferred none)).putObj D' (.deferred none))) :
    LeavesInM Fence.wide 5 P fn tmps R [{ target := .collected D, args := #[] }, { target := .collected D', args := #[] }] .returning w := by
  refine ⟨by simp, .inl ⟨_, _, rfl, run_takeDeferred hK, ?_⟩⟩
  refine ⟨by simp, .inl ⟨_, _, rfl, run_takeDeferred ((World.putObj_heap_other (Ne.symm hne)).trans hK'), ?_⟩⟩
  exact ⟨_, hv, hR⟩
theorem leaves_none {fn : Func} {tmps : Array Value} {R : Ending → World → Prop} {w : World} {v : Value} (hv : (results fn tmps).run P w = .ok v w) (hR : R (.returned v) w) :
    LeavesInM Fence.wide 5 P fn tmps R [] .returning w := ⟨_, hv, hR⟩
end
theorem Kp.putObj {F : Nat → Prop} {w w1 : World} (h : Kp F w w1) {D : Nat} (o : Obj) (hD : D < w.heap.size → F D) : Kp F w (w1.putObj D o) := by
  have hg := grownBy_putObj' w1 D o
  exact ⟨hg.os.trans h.os, hg.tape.trans h.tape, hg.output.trans h.output, Nat.le_trans h.size hg.size, fun b hb hf => (hg.block b (Nat.lt_of_lt_of_le hb h.size) (fun e => hf (by injection e with e; subst e; exact hD hb))).trans (h.blk b hb hf)⟩
end Go.Proofs.Ytplbkjgkocnehaa
