/- Ranges over functions: what a body must keep; the law, in a plain walk. No program in sight. -/
import Derived.Test.YtplbkjgkocnehaaLibO
namespace Go.Proofs.Ytplbkjgkocnehaa
open Go.RowKit Go.Shelf

/-- rows and maps that lie from B on are as they were -/
structure KN (B : Nat) (A C : World) : Prop where
  size : A.heap.size ≤ C.heap.size
  same : ∀ (b : Nat) (o : Obj), B ≤ b → A.heap[b]? = some o → (o.isCells = true ∨ o.isWalk = true) → C.heap[b]? = some o
theorem KN.refl (B : Nat) (A : World) : KN B A A := ⟨Nat.le_refl _, fun _ _ _ h _ => h⟩
theorem KN.trans {B : Nat} {X Y Z : World} (h : KN B X Y) (k : KN B Y Z) : KN B X Z := ⟨Nat.le_trans h.size k.size, fun b o hb ho hc => k.same b o hb (h.same b o hb ho hc) hc⟩
theorem KN.putObj {B : Nat} (W : World) (l : Nat) (o o' : Obj) (hl : W.heap[l]? = some o) (hc : o.isCells = false) (hw : o.isWalk = false) : KN B W (W.putObj l o') := by
  refine ⟨by simp, fun b x hb hx hxc => ?_⟩
  have hne : b ≠ l := by
    rintro rfl
    rw [hl] at hx; injection hx with hx; subst hx
    rcases hxc with h | h
    · rw [hc] at h; cases h
    · rw [hw] at h; cases h
  have := World.putObj_heap_other (w := W) (o := o') hne
  exact this.trans hx
theorem KN.of_kp {B : Nat} {A C : World} (k : Kp (fun b => b < B) A C) : KN B A C :=
  ⟨k.size, fun b _ hb ho _ => (k.blk b (blk_lt ho) (fun h => by omega)).trans ho⟩
theorem KN.mono {B B' : Nat} {A C : World} (h : KN B A C) (hB : B ≤ B') : KN B' A C := ⟨h.size, fun b o hb => h.same b o (Nat.le_trans hB hb)⟩
theorem KN.cells {B b : Nat} {A C : World} (k : KN B A C) (hb : B ≤ b) {c : Array Value} {t : TypeId} {f : Nat × Nat} (h : A.heap[b]? = some (.cells c t f)) : C.heap[b]? = some (.cells c t f) := k.same b _ hb h (.inl rfl)
theorem KN.map {B b : Nat} {A C : World} (k : KN B A C) (hb : B ≤ b) {es : Array MapEntry} {c : Nat} (h : A.heap[b]? = some (.map es c)) : C.heap[b]? = some (.map es c) := k.same b _ hb h (.inr rfl)
theorem keeps_kp {F : Nat → Prop} {A C : World} (k : Kp F A C) (hF : ∀ b, F b → ∀ o, A.heap[b]? = some o → o.isCells = true) : KeepsOthers A C :=
  ⟨k.size, fun b o ho hc => (k.blk b (blk_lt ho) (fun h => by have := hF b h o ho; rw [this] at hc; cases hc)).trans ho⟩
theorem Kp.setCell' {F : Nat → Prop} {A C : World} (k : Kp F A C) {p : Addr} (u : Value) : Kp (fun b => F b ∨ b = p.block) A (C.setCell p u) := (k.mono (fun _ h => Or.inl h)).setCell u (fun _ => .inr rfl)
theorem keepsFrom_kp {B : Nat} {A C : World} (k : Kp (fun b => b < B) A C) : KeepsFrom B A C :=
  ⟨k.size, fun b _ hb ho _ => (k.blk b (blk_lt ho) (fun h => by omega)).trans ho⟩
/-- a fact of blocks that lay below B abides what happens from B on -/
theorem own_of_kp {β : Type} {B : Nat} {I : β → World → Prop} (h : ∀ s W W', I s W → Kp (fun b => B ≤ b) W W' → I s W') : OwnFrom B I := fun s W W' row hs hg hr =>
  h s W W' hs ⟨hg.os, hg.tape, hg.output, hg.size, fun b hb hf => hg.block b hb (fun e => hf (hr b e.symm).1)⟩
theorem abides_of_kp {β : Type} {B : Nat} {J : β → World → Prop} (h : ∀ s W W', J s W → Kp (fun b => B ≤ b) W W' → J s W') : AbidesFrom B J := fun s W W' row hs hg hr =>
  h s W W' hs ⟨hg.os, hg.tape, hg.output, hg.size, fun b hb hf => hg.block b hb (fun e => hf (hr b e.symm).1)⟩
theorem grownBy_kp {W W' : World} (k : Kp NoB W W') : W.grownBy W' none := ⟨k.os, k.tape, k.output, k.size, fun b hb _ => k.blk b hb (fun h => h)⟩
theorem nodup_rev {l : List Int} (h : l.Nodup) : l.reverse.Nodup := (List.reverse_perm l).nodup_iff.2 h
theorem nodup_len : ∀ {l l' : List Int}, l.Nodup → (∀ x ∈ l, x ∈ l') → l.length ≤ l'.length := by
  intro l
  induction l with
  | nil => intro l' _ _; simp
  | cons a r ih =>
    intro l' h hs
    rw [List.nodup_cons] at h
    have ha : a ∈ l' := hs a List.mem_cons_self
    have := ih (l' := l'.erase a) h.2 (fun x hx => (List.mem_erase_of_ne (by rintro rfl; exact h.1 hx)).2 (hs x (List.mem_cons_of_mem _ hx)))
    rw [List.length_erase_of_mem ha] at this
    have := List.length_pos_of_mem ha
    rw [List.length_cons]; omega
section
variable {P : Program}
/-- the range over an iterator that gives just L, in order; the body may turn what lay ahead of the loop, and lay new blocks -/
theorem wp_range_list {α : Type} {g : Operand} {ps : Array Tmp} {assign body : Code} {Q : Exit → Act → World → Prop} {a : Act} {w : World} {gf : Nat} {lb : Array Value} (hg : a.eval g = .func (.func gf) #[] lb) (eg : ∀ args w, (callFunc gf args).run P w = .ok (.enter gf args) w)
    {encs : α → Array Value} {L : List α} (hseq : SeqStopsK Fence.wide 4 P gf lb encs (KN w.heap.size) (fun xs => xs = L) (fun pre => pre <+: L) L.length w) (hps : ∀ x, (encs x).size = ps.size)
    (I : List α → World → Prop) (Ix : Code → List α → World → Prop) (hI : OwnFrom w.heap.size I) (hIx : ∀ c, OwnFrom w.heap.size (Ix c)) (h0 : I [] w) (Ax : α → Act → World → Prop) (hAx : ∀ x a', OwnFrom w.heap.size (fun (_ : Unit) W => Ax x a' W))
    (hassign : ∀ (l : Nat) (pre : List α) (x : α) (W : World) (K : Act → World → Prop), I pre W → (∀ a' W', Kp (fun b => b < w.heap.size) W W' → I pre W' → Ax x a' W' → K a' W') →
      assign.wpIn (Fence.wide.inRound l) 3 P (Exit.then K (fun _ _ _ => False)) { tmps := (ps.zip (encs x)).foldl (fun t (p, v) => t.setIfInBounds p v) a.tmps, defers := [] } W)
    (hbody : ∀ (l : Nat) (pre : List α) (x : α) (a' : Act) (W : World), w.heap.size ≤ l → I pre W → Ax x a' W → pre.length < L.length → body.wpIn (Fence.wide.inRound l) 3 P (ownPostG w.heap.size (KN w.heap.size) I Ix (pre ++ [x]) W) a' W)
    (hdone : ∀ (D : Nat) (W : World), w.heap.size ≤ D → I L W → W.heap[D]? = some (.deferred (some [])) → Q .normal { a with defers := { target := .collected D, args := #[] } :: a.defers } W)
    (hstop : ∀ (D : Nat) (c : Code) (pre : List α) (W : World), w.heap.size ≤ D → pre <+: L → Ix c pre W → W.heap[D]? = some (.deferred (some [])) → c.wp P Q { a with defers := { target := .collected D, args := #[] } :: a.defers } W) :
    (Code.rangeFunc g ps assign body).wp P Q a w := by
  refine wpIn_wide (n := 5).1 ?_
  refine wpIn_rangeFunc_ownH (F := Fence.wide) (n := 5) rfl (by omega) (gf := gf) (lb := lb) hg trivial eg hseq (fun h k => h.trans k) (fun W l o o' _ hl hc hw => KN.putObj W l o o' hl hc hw) (Below.refl _ _) hps I Ix hI hIx h0 Ax hAx ?_ ?_ ?_ ?_
  · intro l pre x W K hi hK
    exact hassign l pre x W K hi (fun a' W' k => hK a' W' (keepsFrom_kp k) (KN.of_kp k))
  · intro l pre x a' W hl _ hi ha hn
    exact hbody l pre x a' W hl hi ha hn
  · rintro D xs W hD rfl hi hk
    exact hdone D W hD hi hk
  · intro D c pre W hD hp hi hk
    exact wpIn_wide.2 (hstop D c pre W hD hp hi hk)
end
end Go.Proofs.Ytplbkjgkocnehaa
