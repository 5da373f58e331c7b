/- Ranges over functions whose iterator needs just the rows of one type to abide: the body may turn new blocks of other types. No program in sight. -/
import Derived.Test.YtldkogdkadgnkaaLibP
namespace Go.Proofs.Ytldkogdkadgnkaa
open Go.RowKit Go.Shelf

/-- rows of type t that lie from B on are as they were -/
structure KT (B : Nat) (t : TypeId) (A C : World) : Prop where
  size : A.heap.size ≤ C.heap.size
  same : ∀ (b : Nat) (c : Array Value) (f : Nat × Nat), B ≤ b → A.heap[b]? = some (.cells c t f) → C.heap[b]? = some (.cells c t f)
theorem KT.refl (B : Nat) (t : TypeId) (A : World) : KT B t A A := ⟨Nat.le_refl _, fun _ _ _ _ h => h⟩
theorem KT.trans {B : Nat} {t : TypeId} {X Y Z : World} (h : KT B t X Y) (k : KT B t Y Z) : KT B t X Z := ⟨Nat.le_trans h.size k.size, fun b c f hb ho => k.same b c f hb (h.same b c f hb ho)⟩
theorem KT.putObj {B : Nat} {t : TypeId} (W : World) (l : Nat) (o o' : Obj) (hl : W.heap[l]? = some o) (hc : o.isCells = false) : KT B t W (W.putObj l o') := by
  refine ⟨by simp, fun b c f hb hx => ?_⟩
  have hne : b ≠ l := by
    rintro rfl
    rw [hl] at hx; injection hx with hx; subst hx
    cases hc
  have := World.putObj_heap_other (w := W) (o := o') hne
  exact this.trans hx
theorem KT.of_kp {B : Nat} {t : TypeId} {F : Nat → Prop} {A C : World} (k : Kp F A C) (hF : ∀ b, F b → B ≤ b → ∀ c f, A.heap[b]? ≠ some (.cells c t f)) : KT B t A C :=
  ⟨k.size, fun b c f hb ho => (k.blk b (blk_lt ho) (fun h => hF b h hb c f ho)).trans ho⟩
theorem KT.cells {B b : Nat} {t : TypeId} {A C : World} (k : KT B t A C) (hb : B ≤ b) {c : Array Value} {f : Nat × Nat} (h : A.heap[b]? = some (.cells c t f)) : C.heap[b]? = some (.cells c t f) := k.same b c f hb h
/-- what turns is cells: the machinery's own blocks abide -/
theorem keepsFrom_cells {B : Nat} {F : Nat → Prop} {A C : World} (k : Kp F A C) (hF : ∀ b, F b → ∀ o, A.heap[b]? = some o → o.isCells = true) : KeepsFrom B A C := (keeps_kp k hF).from B
/-- a fact abides what happens to blocks from B on that are no cells -/
theorem own_of_cells {β : Type} {B : Nat} {I : β → World → Prop} (h : ∀ s W W', I s W → Kp (fun b => B ≤ b ∧ ∃ o : Obj, W.heap[b]? = some o ∧ o.isCells = false) W W' → I s W') : OwnFrom B I := fun s W W' row hs hg hr =>
  h s W W' hs ⟨hg.os, hg.tape, hg.output, hg.size, fun b hb hf => hg.block b hb (fun e => hf (hr b e.symm))⟩
section
variable {P : Program}
theorem wp_range_listT {α : Type} {t : TypeId} {g : Operand} {ps : Array Tmp} {assign body : Code} {Q : Exit → Act → World → Prop} {a : Act} {w : World} {gf : Nat} {lb : Array Value} (hg : a.eval g = .func (.func gf) #[] lb) (eg : ∀ args w, (callFunc gf args).run P w = .ok (.enter gf args) w)
    {encs : α → Array Value} {L : List α} (hseq : SeqStopsK Fence.wide 4 P gf lb encs (KT w.heap.size t) (fun xs => xs = L) (fun pre => pre <+: L) L.length w) (hps : ∀ x, (encs x).size = ps.size)
    (I : List α → World → Prop) (Ix : Code → List α → World → Prop) (hI : OwnFrom w.heap.size I) (hIx : ∀ c, OwnFrom w.heap.size (Ix c)) (h0 : I [] w) (Ax : α → Act → World → Prop) (hAx : ∀ x a', OwnFrom w.heap.size (fun (_ : Unit) W => Ax x a' W))
    (hassign : ∀ (l : Nat) (pre : List α) (x : α) (W : World) (K : Act → World → Prop), I pre W → (∀ a' W', Kp NoB W W' → I pre W' → Ax x a' W' → K a' W') →
      assign.wpIn (Fence.wide.inRound l) 3 P (Exit.then K (fun _ _ _ => False)) { tmps := (ps.zip (encs x)).foldl (fun t (p, v) => t.setIfInBounds p v) a.tmps, defers := [] } W)
    (hbody : ∀ (l : Nat) (pre : List α) (x : α) (a' : Act) (W : World), w.heap.size ≤ l → I pre W → Ax x a' W → pre.length < L.length → body.wpIn (Fence.wide.inRound l) 3 P (ownPostG w.heap.size (KT w.heap.size t) I Ix (pre ++ [x]) W) a' W)
    (hdone : ∀ (D : Nat) (W : World), w.heap.size ≤ D → I L W → W.heap[D]? = some (.deferred (some [])) → Q .normal { a with defers := { target := .collected D, args := #[] } :: a.defers } W)
    (hstop : ∀ (D : Nat) (c : Code) (pre : List α) (W : World), w.heap.size ≤ D → pre <+: L → Ix c pre W → W.heap[D]? = some (.deferred (some [])) → c.wp P Q { a with defers := { target := .collected D, args := #[] } :: a.defers } W) :
    (Code.rangeFunc g ps assign body).wp P Q a w := by
  refine wpIn_wide (n := 5).1 ?_
  refine wpIn_rangeFunc_ownH (F := Fence.wide) (n := 5) rfl (by omega) (gf := gf) (lb := lb) hg trivial eg hseq (fun h k => h.trans k) (fun W l o o' _ hl hc hw => KT.putObj W l o o' hl hc) (Below.refl _ _) hps I Ix hI hIx h0 Ax hAx ?_ ?_ ?_ ?_
  · intro l pre x W K hi hK
    exact hassign l pre x W K hi (fun a' W' k => hK a' W' (keepsFrom_kp (k.mono (fun _ h => h.elim))) (KT.of_kp k (fun _ h => h.elim)))
  · intro l pre x a' W hl _ hi ha hn
    exact hbody l pre x a' W hl hi ha hn
  · rintro D xs W hD rfl hi hk
    exact hdone D W hD hi hk
  · intro D c pre W hD hp hi hk
    exact wpIn_wide.2 (hstop D c pre W hD hp hi hk)
end
end Go.Proofs.Ytldkogdkadgnkaa
