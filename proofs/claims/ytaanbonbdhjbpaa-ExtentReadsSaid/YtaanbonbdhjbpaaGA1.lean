/- Walks through an arena of structs: its small functions, and the closures that it hands on. -/
import Derived.Test.YtaanbonbdhjbpaaProg
import Derived.Test.YtaanbonbdhjbpaaLibB
import Derived.Test.YtaanbonbdhjbpaaLibR
import Derived.Test.YtaanbonbdhjbpaaLibJ
import Derived.Deep.QuietTactic
import Derived.BigQuiet
import Derived.BigFrame
import Derived.StillTailTactics
import Derived.Deep.RegionHeld3
import Derived.Deep.DrawnRows
import Derived.Laws.EntriesVeiled
namespace Go.Proofs.Ytaanbonbdhjbpaa
set_option linter.unusedSimpArgs false
set_option linter.unusedVariables false
open Go.RowKit
attribute [local go_sem ↓] Go.wp_at_zero Go.wp_at_succ

theorem wi_in {x : Int} (h : -9223372036854775808 ≤ x ∧ x ≤ 9223372036854775807) : IntKind.i64.wrap x = x := by simp [IntKind.wrap, IntKind.bits, IntKind.signed]; omega
def eI (n : Nat) : List Value := [.int .i64 n]
theorem eI_len (x : Nat) : (eI x).length = 1 := rfl
/-- what an arena has: so many cells -/
def XOk (l : List Value) : Prop := l.length = 19 ∧ ∀ v ∈ l, v.oneCell' = true
abbrev X := {l : List Value // XOk l}
theorem X.len (x : X) : x.1.length = 19 := x.2.1
theorem X.one (x : X) : ∀ v ∈ x.1, v.oneCell' = true := x.2.2
def zX : X := ⟨[.int .i64 0, .int .u8 0, .int .u8 0, .int .u8 0, .int .u8 0, .int .u8 0, .int .u8 0, .int .u8 0, .int .u8 0, .int .u8 0, .int .u8 0, .int .u8 0, .int .u8 0, .int .u8 0, .int .u8 0, .int .u8 0, .int .u8 0, .int .i64 0, .int .u64 0], by unfold XOk; decide⟩
abbrev Sl3 := X × Int × Bool
def eS (s : Sl3) : List Value := s.1.1 ++ [.int .u64 s.2.1, .bool s.2.2]
theorem eS_len (s : Sl3) : (eS s).length = 21 := by simp [eS, s.1.len]
theorem eS_one (s : Sl3) : ∀ v ∈ eS s, v.oneCell' = true := by
  intro v hv
  simp only [eS, List.mem_append, List.mem_cons, List.not_mem_nil, or_false] at hv
  rcases hv with hv | rfl | rfl
  · exact s.1.one v hv
  · rfl
  · rfl
theorem eS_x (s : Sl3) : ∀ j v, s.1.1[j]? = some v → (eS s)[0 + j]? = some v := fun j v hj => by
  have := (List.getElem?_eq_some_iff.1 hj).1
  rw [Nat.zero_add, eS, List.getElem?_append_left this]; exact hj
theorem eS_g (s : Sl3) : (eS s)[19]? = some (.int .u64 s.2.1) := by
  rw [eS, List.getElem?_append_right (by rw [s.1.len]; exact Nat.le_refl _), s.1.len]; rfl
theorem eS_b (s : Sl3) : (eS s)[20]? = some (.bool s.2.2) := by
  rw [eS, List.getElem?_append_right (by rw [s.1.len]; omega), s.1.len]; rfl
/-- an arena: the struct at p, the slots' row at l, those given back in v -/
structure AAt (w : World) (p l : Nat) (v : Value) (S : List Sl3) (B : List Nat) (E : Nat) : Prop where
  hp : w.heap[p]? = some (.cells #[.slice (some ⟨l, 0, none⟩) S.length S.length, v, .int .i64 E] 72 (0, 0))
  hl : w.heap[l]? = some (.cells (rows eS S) 74 (0, 0))
  hv : RowAt w 3 eI 1 v B
/-- its sizes -/
structure AOk (S : List Sl3) (B : List Nat) (E : Nat) : Prop where
  n1 : 1 ≤ S.length
  n2 : S.length ≤ 4096
  e : E ≤ S.length
  b : ∀ i ∈ B, i < S.length
  bl : B.length ≤ 4096
section
variable {w w' : World} {p l : Nat} {v : Value} {S : List Sl3} {B : List Nat} {E : Nat}
theorem AAt.ne (h : AAt w p l v S B E) : p ≠ l ∧ v.ownBlock ≠ some p ∧ v.ownBlock ≠ some l := ⟨ne_of_types h.hp h.hl (by decide), h.hv.ne h.hp (by decide), h.hv.ne h.hl (by decide)⟩
theorem AAt.lt (h : AAt w p l v S B E) : p < w.heap.size ∧ l < w.heap.size := ⟨blk_lt h.hp, blk_lt h.hl⟩
theorem AAt.kp {F : Nat → Prop} (h : AAt w p l v S B E) (k : Kp F w w') (hp : ¬ F p) (hl : ¬ F l) (hv : ∀ b, v.ownBlock = some b → ¬ F b) : AAt w' p l v S B E := ⟨k.get h.hp hp, k.get h.hl hl, h.hv.kp k hv⟩
theorem AAt.kn (h : AAt w p l v S B E) (k : Kp NoB w w') : AAt w' p l v S B E := h.kp k (fun h => h) (fun h => h) (fun _ _ h => h)
theorem AAt.alloc (h : AAt w p l v S B E) (o : Obj) : AAt (w.alloc o) p l v S B E := ⟨blk_alloc h.hp, blk_alloc h.hl, h.hv.alloc o⟩
theorem AAt.drew (h : AAt w p l v S B E) : AAt w.drew p l v S B E := ⟨h.hp, h.hl, h.hv⟩
theorem AAt.far (h : AAt w p l v S B E) (a : Addr) (u : Value) (h1 : p ≠ a.block) (h2 : l ≠ a.block) (h3 : v.ownBlock ≠ some a.block) : AAt (w.setCell a u) p l v S B E := ⟨blk_far h.hp u h1, blk_far h.hl u h2, h.hv.setCell a u h3⟩
theorem AAt.cs (h : AAt w p l v S B E) : w.cell? ⟨p, 0, none⟩ = some (.slice (some ⟨l, 0, none⟩) S.length S.length) ∧ w.cell? ⟨p, 1, none⟩ = some v ∧ w.cell? ⟨p, 2, none⟩ = some (.int .i64 E) ∧
    w.frozen? ⟨p, 0, none⟩ = false ∧ w.frozen? ⟨p, 1, none⟩ = false ∧ w.frozen? ⟨p, 2, none⟩ = false ∧ p < w.heap.size := loc3 h.hp
theorem AAt.es (h : AAt w p l v S B E) {k : Nat} {x : X} {g : Int} {b : Bool} (hk : S[k]? = some (x, g, b)) :
    w.cell? ⟨l, k * 21 + 19, none⟩ = some (.int .u64 g) ∧ w.cell? ⟨l, k * 21 + 20, none⟩ = some (.bool b) ∧
    w.frozen? ⟨l, k * 21 + 19, none⟩ = false ∧ w.frozen? ⟨l, k * 21 + 20, none⟩ = false ∧ l < w.heap.size :=
  ⟨by rw [cell_of h.hl, rows_get eS_len (j := 19) hk (by omega)]; exact eS_g _, by rw [cell_of h.hl, rows_get eS_len (j := 20) hk (by omega)]; exact eS_b _,
   frozen_of h.hl _, frozen_of h.hl _, blk_lt h.hl⟩
theorem AAt.ex (h : AAt w p l v S B E) {k : Nat} {x : X} {g : Int} {b : Bool} (hk : S[k]? = some (x, g, b)) : w.rangeAt l (k * 21) x.1 :=
  range_of h.hl (fun j u hj => by have := rows_part eS_len hk (o := 0) (eS_x (x, g, b)) j u hj; simpa using this)
theorem AAt.wx (h : AAt w p l v S B E) {k : Nat} (hk : k < S.length) : w.there l (k * 21) 19 :=
  there_of h.hl (by rw [rows_size eS_len]; omega)
theorem AAt.ws (h : AAt w p l v S B E) {k : Nat} (hk : k < S.length) : w.there l (k * 21) 21 :=
  there_of h.hl (by rw [rows_size eS_len]; omega)
theorem AAt.set (h : AAt w p l v S B E) {k : Nat} {s : Sl3} (hk : k < S.length) (hl : w'.heap[l]? = some (.cells (setRow (rows eS S) (k * 21) (eS s)) 74 (0, 0))) (hp : w'.heap[p]? = w.heap[p]?)
    (hv : ∀ b, v.ownBlock = some b → w'.heap[b]? = w.heap[b]?) : AAt w' p l v (S.set k s) B E :=
  ⟨by rw [hp, List.length_set]; exact h.hp, by rw [hl, rows_setRow eS_len (by omega) hk], h.hv.keep hv⟩
theorem size_any (h : AAt w p l v S B E) : Calls Try.prog 29 #[.pointer (some ⟨p, 0, none⟩)] w fun e w' => e = .returned (.int .i64 S.length) ∧ w = w' := by
  have Lp := h.cs
  clear h
  go_enter Try.func29, Try.ntmps29
  go_wp2
  go_ret
  exact ⟨rfl, rfl⟩
set_option maxRecDepth 100000 in
set_option maxHeartbeats 1000000 in
theorem room_any (h : AAt w p l v S B E) (o : AOk S B E) : Calls Try.prog 15 #[.pointer (some ⟨p, 0, none⟩)] w fun e w' => e = .returned (.int .i64 ((S.length : Int) - E + B.length)) ∧ Kp NoB w w' := by
  obtain ⟨ob, c, hv, hc, _⟩ := h.hv.form
  subst hv
  have Lp := h.cs
  have n2 := o.n2
  have e := o.e
  have bl := o.bl
  clear h
  go_enter Try.func15, Try.ntmps15
  go_wp2_with fail
  refine wp_region_G (fun _ => True) [(0, .at_), (1, .at_), (2, .at_), (3, .at_), (4, .at_), (5, .at_), (6, .at_), (7, .at_), (8, .at_), (9, .at_), (10, .at_), (11, .at_), (12, .at_), (13, .at_), (14, .at_), (15, .at_), (16, .at_)] ?L1 (by kernel_rfl) (by kernel_rfl) ?hL1 (trivial) ?hG1
  case hL1 => simp only [pickOps, List.map_cons, List.map_nil, List.getD_cons_zero, List.getD_cons_succ]; rfl
  repeat (first | (refine wpG_at (v := ?_) (by rfl) ?_ ?_; rotate_left; (focus (first | (go_simp; with_reducible rfl) | (go_simp; done))); simp only [Act.put, List.setIfInBounds_toArray, List.set_cons_zero, List.set_cons_succ]) | (refine wpG_at_skip (by rfl) ?_; simp only [Act.put, List.setIfInBounds_toArray, List.set_cons_zero, List.set_cons_succ]) | (refine wpG_held_skip (by rfl) ?_; simp only [Act.put, List.setIfInBounds_toArray, List.set_cons_zero, List.set_cons_succ]) | (refine wpG_held (v := ?_) (by rfl) ?_ ?_; rotate_left; (focus (intro w' hSw; (try dsimp only at hSw); go_split_ands; first | (go_simp; with_reducible rfl) | (go_simp; done))); simp only [Act.put, List.setIfInBounds_toArray, List.set_cons_zero, List.set_cons_succ]))
  refine wpG_nil (NoPanic.normal ?_)
  go_wp2_with fail
  go_ret
  refine ⟨?_, (Kp.refl _ w).drew⟩
  have e1 : IntKind.i64.wrap ((S.length : Int) - E) = S.length - E := wi_in (by omega)
  have e2 : IntKind.i64.wrap ((S.length : Int) - E + B.length) = S.length - E + B.length := wi_in (by omega)
  show Ending.returned (.int .i64 (IntKind.i64.wrap (IntKind.i64.wrap _ + _))) = _
  rw [e1, e2]
theorem infoX : (Try.prog.info? 35).map (·.size) = some 19 := by kernel_rfl
theorem structX : Try.prog.underlying 35 = some (.struct (Try.prog.fieldsOf 35)) := by kernel_rfl
theorem infoS : (Try.prog.info? 74).map (·.size) = some 21 := by kernel_rfl
theorem structS : Try.prog.underlying 74 = some (.struct (Try.prog.fieldsOf 74)) := by kernel_rfl
section
variable {ops : Array Oper} {rest : List Oper} {op : Oper} {a : Act} {Q : Exit → Act → World → Prop}
/-- a whole one is read, written -/
theorem ldX {W : World} (hw : Region.wanted op (yielded ops a.tmps) = true) (y : Operand) (ho : op.op = .load 35 y) (b o : Nat) (hx : a.eval y = .pointer (some ⟨b, o, none⟩)) (x : X) (hc : W.rangeAt b o x.1)
    (h : wpList Try.prog ops Q rest (a.put op.dst (.agg x.1.toArray)) W) : wpList Try.prog ops Q (op :: rest) a W :=
  BigFrame.wpList_want hw fun _ hK => wp_load_mid 35 y ho b o hx x.1 _ hc structX rfl (by rw [x.len]; exact infoX) (hK _ _ h)
theorem stX {W : World} (hw : Region.wanted op (yielded ops a.tmps) = true) (y z : Operand) (ho : op.op = .store 35 y z) (b o : Nat) (x : X) (hx : a.eval y = .pointer (some ⟨b, o, none⟩)) (hz : a.eval z = .agg x.1.toArray) (hc : W.there b o 19)
    (h : wpList Try.prog ops Q rest (a.put op.dst undef) (W.setCells b o x.1)) : wpList Try.prog ops Q (op :: rest) a W :=
  BigFrame.wpList_want hw fun _ hK => wp_store_mid 35 y z ho b o x.1.toArray hx hz (by simpa [x.len] using hc) (by simpa [x.len] using infoX) (all_oneCell_toArray x.one) (hK _ _ h)
theorem ldS {W : World} (hw : Region.wanted op (yielded ops a.tmps) = true) (y : Operand) (ho : op.op = .load 74 y) (b o : Nat) (hx : a.eval y = .pointer (some ⟨b, o, none⟩)) (s : Sl3) (hc : W.rangeAt b o (eS s))
    (h : wpList Try.prog ops Q rest (a.put op.dst (.agg (eS s).toArray)) W) : wpList Try.prog ops Q (op :: rest) a W :=
  BigFrame.wpList_want hw fun _ hK => wp_load_mid 74 y ho b o hx (eS s) _ hc structS rfl (by rw [eS_len]; exact infoS) (hK _ _ h)
theorem stS {W : World} (hw : Region.wanted op (yielded ops a.tmps) = true) (y z : Operand) (ho : op.op = .store 74 y z) (b o : Nat) (s : Sl3) (hx : a.eval y = .pointer (some ⟨b, o, none⟩)) (hz : a.eval z = .agg (eS s).toArray) (hc : W.there b o 21)
    (h : wpList Try.prog ops Q rest (a.put op.dst undef) (W.setCells b o (eS s))) : wpList Try.prog ops Q (op :: rest) a W :=
  BigFrame.wpList_want hw fun _ hK => wp_store_mid 74 y z ho b o (eS s).toArray hx hz (by simpa [eS_len] using hc) (by simpa [eS_len] using infoS) (all_oneCell_toArray (eS_one s)) (hK _ _ h)
end
/-- the closures -/
theorem getf_any {k c : Nat} {x y : X} {g : Int} {b : Bool} (h : AAt w p l v S B E) (hk : S[k]? = some (x, g, b)) (hc : w.heap[c]? = some (.cells y.1.toArray 35 (0, 0))) :
    Calls Try.prog 37 #[.pointer (some ⟨l, k * 21, none⟩), .pointer (some ⟨c, 0, none⟩)] w fun e w' => e = .returned (.tuple #[]) ∧ w' = w.setCells c 0 x.1 := by
  have Lx := h.ex hk
  have Ls : w.there c 0 19 := there_of hc (by simp [y.len])
  clear h hk hc
  go_enter Try.func37, Try.ntmps37
  go_wp2_with (first | refine ldX rfl _ rfl _ _ rfl x Lx ?_ | refine stX rfl _ _ rfl _ _ x rfl rfl Ls ?_)
  go_end0
  exact ⟨rfl, rfl⟩
theorem setf_any {k c : Nat} {x : X} (hk : k < S.length) (h : AAt w p l v S B E) (hc : w.heap[c]? = some (.cells x.1.toArray 35 (0, 0))) :
    Calls Try.prog 38 #[.pointer (some ⟨l, k * 21, none⟩), .pointer (some ⟨c, 0, none⟩)] w fun e w' => e = .returned (.tuple #[]) ∧ w' = w.setCells l (k * 21) x.1 := by
  have Lx := whole_of hc
  have Ls := h.wx hk
  clear h hk hc
  go_enter Try.func38, Try.ntmps38
  go_wp2_with (first | refine ldX rfl _ rfl _ _ rfl x Lx ?_ | refine stX rfl _ _ rfl _ _ x rfl rfl Ls ?_)
  go_end0
  exact ⟨rfl, rfl⟩
end
end Go.Proofs.Ytaanbonbdhjbpaa
