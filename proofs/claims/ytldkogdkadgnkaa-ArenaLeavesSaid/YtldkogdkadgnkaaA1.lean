/- Walks through an arena of whole numbers: its small functions, and the closures that it hands on. -/
import Derived.Test.YtldkogdkadgnkaaProg
import Derived.Test.YtldkogdkadgnkaaLibB
import Derived.Test.YtldkogdkadgnkaaLibR
import Derived.Deep.QuietTactic
import Derived.BigQuiet
import Derived.StillTailTactics
import Derived.Deep.RegionHeld3
import Derived.Deep.DrawnRows
import Derived.Laws.EntriesVeiled
namespace Go.Proofs.Ytldkogdkadgnkaa
set_option linter.unusedSimpArgs false
set_option linter.unusedVariables false
open Go.RowKit
attribute [local go_sem ↓] Go.wp_at_zero Go.wp_at_succ

theorem wi_in {x : Int} (h : -9223372036854775808 ≤ x ∧ x ≤ 9223372036854775807) : IntKind.i64.wrap x = x := by simp [IntKind.wrap, IntKind.bits, IntKind.signed]; omega
def eI (n : Nat) : List Value := [.int .i64 n]
theorem eI_len (x : Nat) : (eI x).length = 1 := rfl
def eS (s : Int × Int × Bool) : List Value := [.int .i64 s.1, .int .u64 s.2.1, .bool s.2.2]
theorem eS_len (s : Int × Int × Bool) : (eS s).length = 3 := rfl
/-- an arena: the struct at p, the slots' row at l, those given back in v -/
structure AAt (w : World) (p l : Nat) (v : Value) (S : List (Int × Int × Bool)) (B : List Nat) (E : Nat) : Prop where
  hp : w.heap[p]? = some (.cells #[.slice (some ⟨l, 0, none⟩) S.length S.length, v, .int .i64 E] 76 (0, 0))
  hl : w.heap[l]? = some (.cells (rows eS S) 72 (0, 0))
  hv : RowAt w 3 eI 1 v B
/-- its sizes -/
structure AOk (S : List (Int × Int × Bool)) (B : List Nat) (E : Nat) : Prop where
  n1 : 1 ≤ S.length
  n2 : S.length ≤ 4096
  e : E ≤ S.length
  b : ∀ i ∈ B, i < S.length
  bl : B.length ≤ 4096
section
variable {w w' : World} {p l : Nat} {v : Value} {S : List (Int × Int × Bool)} {B : List Nat} {E : Nat}
theorem AAt.ne (h : AAt w p l v S B E) : p ≠ l ∧ v.ownBlock ≠ some p ∧ v.ownBlock ≠ some l := ⟨ne_of_types h.hp h.hl (by decide), h.hv.ne h.hp (by decide), h.hv.ne h.hl (by decide)⟩
theorem AAt.lt (h : AAt w p l v S B E) : p < w.heap.size ∧ l < w.heap.size := ⟨blk_lt h.hp, blk_lt h.hl⟩
theorem AAt.kp {F : Nat → Prop} (h : AAt w p l v S B E) (k : Kp F w w') (hp : ¬ F p) (hl : ¬ F l) (hv : ∀ b, v.ownBlock = some b → ¬ F b) : AAt w' p l v S B E := ⟨k.get h.hp hp, k.get h.hl hl, h.hv.kp k hv⟩
theorem AAt.kn (h : AAt w p l v S B E) (k : Kp NoB w w') : AAt w' p l v S B E := h.kp k (fun h => h) (fun h => h) (fun _ _ h => h)
theorem AAt.alloc (h : AAt w p l v S B E) (o : Obj) : AAt (w.alloc o) p l v S B E := ⟨blk_alloc h.hp, blk_alloc h.hl, h.hv.alloc o⟩
theorem AAt.drew (h : AAt w p l v S B E) : AAt w.drew p l v S B E := ⟨h.hp, h.hl, h.hv⟩
theorem AAt.far (h : AAt w p l v S B E) (a : Addr) (u : Value) (h1 : p ≠ a.block) (h2 : l ≠ a.block) (h3 : v.ownBlock ≠ some a.block) : AAt (w.setCell a u) p l v S B E := ⟨blk_far h.hp u h1, blk_far h.hl u h2, h.hv.setCell a u h3⟩
theorem AAt.cs (h : AAt w p l v S B E) : w.cell? ⟨p, 0, none⟩ = some (.slice (some ⟨l, 0, none⟩) S.length S.length) ∧ w.cell? ⟨p, 1, none⟩ = some v ∧ w.cell? ⟨p, 2, none⟩ = some (.int .i64 E) ∧
    w.frozen? ⟨p, 0, none⟩ = false ∧ w.frozen? ⟨p, 1, none⟩ = false ∧ w.frozen? ⟨p, 2, none⟩ = false ∧ p < w.heap.size := loc3 h.hp
theorem AAt.es (h : AAt w p l v S B E) {k : Nat} {x g : Int} {b : Bool} (hk : S[k]? = some (x, g, b)) :
    w.cell? ⟨l, k * 3, none⟩ = some (.int .i64 x) ∧ w.cell? ⟨l, k * 3 + 1, none⟩ = some (.int .u64 g) ∧ w.cell? ⟨l, k * 3 + 2, none⟩ = some (.bool b) ∧
    w.frozen? ⟨l, k * 3, none⟩ = false ∧ w.frozen? ⟨l, k * 3 + 1, none⟩ = false ∧ w.frozen? ⟨l, k * 3 + 2, none⟩ = false ∧ l < w.heap.size :=
  ⟨by rw [cell_of h.hl]; exact rows_get eS_len (j := 0) hk (by omega), by rw [cell_of h.hl]; exact rows_get eS_len (j := 1) hk (by omega), by rw [cell_of h.hl]; exact rows_get eS_len (j := 2) hk (by omega),
   frozen_of h.hl _, frozen_of h.hl _, frozen_of h.hl _, blk_lt h.hl⟩
theorem AAt.set (h : AAt w p l v S B E) {k : Nat} {s : Int × Int × Bool} (hk : k < S.length) (hl : w'.heap[l]? = some (.cells (setRow (rows eS S) (k * 3) (eS s)) 72 (0, 0))) (hp : w'.heap[p]? = w.heap[p]?)
    (hv : ∀ b, v.ownBlock = some b → w'.heap[b]? = w.heap[b]?) : AAt w' p l v (S.set k s) B E :=
  ⟨by rw [hp, List.length_set]; exact h.hp, by rw [hl, rows_setRow eS_len (by omega) hk], h.hv.keep hv⟩
theorem size_any (h : AAt w p l v S B E) : Calls Try.prog 26 #[.pointer (some ⟨p, 0, none⟩)] w fun e w' => e = .returned (.int .i64 S.length) ∧ w = w' := by
  have Lp := h.cs
  clear h
  go_enter Try.func26, Try.ntmps26
  go_wp2
  go_ret
  exact ⟨rfl, rfl⟩
set_option maxRecDepth 100000 in
set_option maxHeartbeats 1000000 in
theorem room_any (h : AAt w p l v S B E) (o : AOk S B E) : Calls Try.prog 17 #[.pointer (some ⟨p, 0, none⟩)] w fun e w' => e = .returned (.int .i64 ((S.length : Int) - E + B.length)) ∧ Kp NoB w w' := by
  obtain ⟨ob, c, hv, hc, _⟩ := h.hv.form
  subst hv
  have Lp := h.cs
  have n2 := o.n2
  have e := o.e
  have bl := o.bl
  clear h
  go_enter Try.func17, Try.ntmps17
  go_wp2_with fail
  refine wp_region_G (fun _ => True) [(0, .at_), (1, .at_), (2, .at_), (3, .at_), (4, .at_), (5, .at_), (6, .at_), (7, .at_), (8, .at_), (9, .at_), (10, .at_), (11, .at_), (12, .at_), (13, .at_), (14, .at_), (15, .at_), (16, .at_)] ?L1 (by kernel_rfl) (by kernel_rfl) ?hL1 (trivial) ?hG1
  case hL1 => simp only [pickOps, List.map_cons, List.map_nil, List.getD_cons_zero, List.getD_cons_succ]; rfl
  repeat (first | (refine wpG_at (v := ?_) (by rfl) ?_ ?_; rotate_left; (focus (first | (go_simp; with_reducible rfl) | (go_simp; done))); simp only [Act.put, List.setIfInBounds_toArray, List.set_cons_zero, List.set_cons_succ]) | (refine wpG_at_skip (by rfl) ?_; simp only [Act.put, List.setIfInBounds_toArray, List.set_cons_zero, List.set_cons_succ]) | (refine wpG_held_skip (by rfl) ?_; simp only [Act.put, List.setIfInBounds_toArray, List.set_cons_zero, List.set_cons_succ]) | (refine wpG_held (v := ?_) (by rfl) ?_ ?_; rotate_left; (focus (intro w' hSw; (try dsimp only at hSw); go_split_ands; first | (go_simp; with_reducible rfl) | (go_simp; done))); simp only [Act.put, List.setIfInBounds_toArray, List.set_cons_zero, List.set_cons_succ]))
  refine wpG_nil (NoPanic.normal ?_)
  go_wp2_with fail
  go_ret
  refine ⟨?_, (Kp.refl _ w).drew⟩
  have e1 : IntKind.i64.wrap ((S.length : Int) - E) = S.length - E := wi_in (by omega)
  have e2 : IntKind.i64.wrap ((S.length : Int) - E + B.length) = S.length - E + B.length := wi_in (by omega)
  show Ending.returned (.int .i64 (IntKind.i64.wrap (IntKind.i64.wrap _ + _))) = _
  rw [e1, e2]
set_option maxRecDepth 100000 in
set_option maxHeartbeats 1000000 in
theorem slot_in (h : AAt w p l v S B E) (o : AOk S B E) {k : Nat} {x g : Int} {b : Bool} (hk : S[k]? = some (x, g, b)) : Calls Try.prog 15 #[.pointer (some ⟨p, 0, none⟩), .int .i64 k] w fun e w' =>
    e = .returned (.tuple #[.agg #[.int .i64 k, .int .u64 g], .int .i64 x, .bool b]) ∧ Kp NoB w w' := by
  have HS := hid (fun (w1 : World) (h1 : AAt w1 p l v S B E) => size_any h1)
  have H0 := hid (h.alloc (.cells #[.int .i64 0, .int .u64 0] 36))
  have Lp := h.cs
  have Le := h.es hk
  have n2 := o.n2
  have hkl := (List.getElem?_eq_some_iff.1 hk).1
  have up := ups Lp.2.2.2.2.2.2
  have ul := ups Le.2.2.2.2.2.2
  clear h hk
  go_enter Try.func15, Try.ntmps15
  go_wp2_with fail
  refine (HS.out _ H0.out).mono ?_
  rintro e w1 ⟨rfl, rfl⟩
  go_wp2_with fail
  refine wp_region_G (fun W => W.cell? ⟨p, 0, none⟩ = some (.slice (some ⟨l, 0, none⟩) S.length S.length) ∧ W.cell? ⟨l, k * 3, none⟩ = some (.int .i64 x) ∧ W.cell? ⟨l, k * 3 + 2, none⟩ = some (.bool b)) [(0, .at_), (1, .at_), (2, .at_), (3, .at_), (4, .at_), (5, .at_), (6, .at_), (7, .at_), (8, .at_), (9, .at_), (10, .held), (11, .held), (12, .held), (13, .held), (14, .held), (15, .held), (16, .held), (17, .held), (18, .held), (19, .held), (20, .held), (21, .held), (22, .held), (23, .held), (24, .held), (25, .held), (26, .eff), (27, .at_), (28, .at_)] ?L2 (by kernel_rfl) (by kernel_rfl) ?hL2 (by refine ⟨?_, ?_, ?_⟩ <;> go_simp) ?hG2
  case hL2 => simp only [pickOps, List.map_cons, List.map_nil, List.getD_cons_zero, List.getD_cons_succ]; rfl
  repeat (first | (refine wpG_at (v := ?_) (by rfl) ?_ ?_; rotate_left; (focus (first | (go_simp; with_reducible rfl) | (go_simp; done))); simp only [Act.put, List.setIfInBounds_toArray, List.set_cons_zero, List.set_cons_succ]) | (refine wpG_at_skip (by rfl) ?_; simp only [Act.put, List.setIfInBounds_toArray, List.set_cons_zero, List.set_cons_succ]) | (refine wpG_held_skip (by rfl) ?_; simp only [Act.put, List.setIfInBounds_toArray, List.set_cons_zero, List.set_cons_succ]) | (refine wpG_held (v := ?_) (by rfl) ?_ ?_; rotate_left; (focus (intro w' hSw; (try dsimp only at hSw); go_split_ands; first | (go_simp; with_reducible rfl) | (go_simp; done))); simp only [Act.put, List.setIfInBounds_toArray, List.set_cons_zero, List.set_cons_succ]))
  refine wpG_eff (by rfl) (fun K hK => ?_)
  go_simp
  refine hK _ _ (by refine ⟨?_, ?_, ?_⟩ <;> go_simp) ?_
  clear hK K
  repeat (first | (refine wpG_at (v := ?_) (by rfl) ?_ ?_; rotate_left; (focus (first | (go_simp; with_reducible rfl) | (go_simp; done))); simp only [Act.put, List.setIfInBounds_toArray, List.set_cons_zero, List.set_cons_succ]) | (refine wpG_at_skip (by rfl) ?_; simp only [Act.put, List.setIfInBounds_toArray, List.set_cons_zero, List.set_cons_succ]) | (refine wpG_held_skip (by rfl) ?_; simp only [Act.put, List.setIfInBounds_toArray, List.set_cons_zero, List.set_cons_succ]) | (refine wpG_held (v := ?_) (by rfl) ?_ ?_; rotate_left; (focus (intro w' hSw; (try dsimp only at hSw); go_split_ands; first | (go_simp; with_reducible rfl) | (go_simp; done))); simp only [Act.put, List.setIfInBounds_toArray, List.set_cons_zero, List.set_cons_succ]))
  refine wpG_nil (NoPanic.normal ?_)
  go_wp2_with fail
  refine bodyPost_ret (v := .tuple #[.agg #[.int .i64 k, .int .u64 g], .int .i64 x, .bool b]) (by simp [results, Try.results15, go_sem]) rfl ⟨rfl, ?_⟩
  exact ((Kp.refl _ w).alloc _).drew
theorem slot_out (h : AAt w p l v S B E) (i : Int) (hi : ¬ (0 ≤ i ∧ i < S.length)) : Calls Try.prog 15 #[.pointer (some ⟨p, 0, none⟩), .int .i64 i] w fun e w' =>
    e = .returned (.tuple #[.agg #[.int .i64 0, .int .u64 0], .int .i64 0, .bool false]) ∧ Kp NoB w w' := by
  have HS := hid (fun (w1 : World) (h1 : AAt w1 p l v S B E) => size_any h1)
  have H0 := hid (h.alloc (.cells #[.int .i64 0, .int .u64 0] 36))
  have Lp := h.cs
  clear h
  by_cases h0 : i < 0
  · go_enter Try.func15, Try.ntmps15
    go_wp2_with fail
    refine bodyPost_ret (v := .tuple #[.agg #[.int .i64 0, .int .u64 0], .int .i64 0, .bool false]) (by simp [results, Try.results15, go_sem]) rfl ⟨rfl, ?_⟩
    exact ((Kp.refl _ w).alloc _)
  · have h1 : (S.length : Int) ≤ i := by omega
    have h2 : 0 ≤ i := by omega
    clear hi
    go_enter Try.func15, Try.ntmps15
    go_wp2_with fail
    refine (HS.out _ H0.out).mono ?_
    rintro e w1 ⟨rfl, rfl⟩
    go_wp2_with fail
    refine bodyPost_ret (v := .tuple #[.agg #[.int .i64 0, .int .u64 0], .int .i64 0, .bool false]) (by simp [results, Try.results15, go_sem]) rfl ⟨rfl, ?_⟩
    exact ((Kp.refl _ w).alloc _)
/-- the closures -/
theorem getf_any {k c : Nat} {x : Int} {y : Value} (Le : w.cell? ⟨l, k * 3, none⟩ = some (.int .i64 x)) (hc : w.heap[c]? = some (.cells #[y] 3 (0, 0))) :
    Calls Try.prog 25 #[.pointer (some ⟨l, k * 3, none⟩), .pointer (some ⟨c, 0, none⟩)] w fun e w' => e = .returned (.tuple #[]) ∧ w' = w.setCell ⟨c, 0, none⟩ (.int .i64 x) := by
  have Lc := loc1 hc
  clear hc
  go_enter Try.func25, Try.ntmps25
  go_wp2
  go_end0
  exact ⟨rfl, rfl⟩
theorem setf_any {k c : Nat} {x y : Int} (Le : w.cell? ⟨l, k * 3, none⟩ = some (.int .i64 y)) (Lf : w.frozen? ⟨l, k * 3, none⟩ = false) (hc : w.heap[c]? = some (.cells #[.int .i64 x] 3 (0, 0))) :
    Calls Try.prog 27 #[.pointer (some ⟨l, k * 3, none⟩), .pointer (some ⟨c, 0, none⟩)] w fun e w' => e = .returned (.tuple #[]) ∧ w' = w.setCell ⟨l, k * 3, none⟩ (.int .i64 x) := by
  have Lc := loc1 hc
  clear hc
  go_enter Try.func27, Try.ntmps27
  go_wp2
  go_end0
  exact ⟨rfl, rfl⟩
end
end Go.Proofs.Ytldkogdkadgnkaa
