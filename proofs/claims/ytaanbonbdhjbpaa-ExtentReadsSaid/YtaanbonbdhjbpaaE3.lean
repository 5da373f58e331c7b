/- Walk: a payload's extents. -/
import Derived.Test.YtaanbonbdhjbpaaE2
import Derived.Test.YtaanbonbdhjbpaaLibS
import Derived.Test.YtaanbonbdhjbpaaLibF
import Derived.ScopeJumps
import Derived.WalkMore
namespace Go.Proofs.Ytaanbonbdhjbpaa
set_option linter.unusedSimpArgs false
set_option linter.unusedVariables false
open Go.RowKit
attribute [local go_sem ↓] Go.wp_at_zero Go.wp_at_succ
def slLen : Value → Nat
  | .slice _ n _ => n
  | _ => 0
theorem sl24 : Try.prog.underlying 24 = some (.slice 35) := by kernel_rfl
theorem sl22 : Try.prog.underlying 22 = some (.slice 5) := by kernel_rfl
theorem s5 : (Try.prog.info? 5).map (·.size) = some 1 := by kernel_rfl
theorem i35 : (Try.prog.info? 35).map (fun i => (i.zero, i.size, i.bytes)) = some (some (.agg zX.1.toArray), 19, 40) := by kernel_rfl
theorem ax_fun (T : Array Value) {R : (Nat → Value) → Array Value} (h : T = R (fun i => T.toList.getD i undef)) : ∃ u, ({ tmps := T, defers := [] } : Act) = { tmps := R u, defers := [] } := ⟨_, congrArg (fun t => ({ tmps := t, defers := [] } : Act)) h⟩
theorem pieces_long {w : World} (y : Option Addr) (n c : Nat) (h : 256 < n) : Calls Try.prog 9 #[.slice y n c] w fun e w' => e = .returned (.tuple #[.slice none 0 0, .int .i64 17]) ∧ w = w' := by
  have h' : (256 : Int) < (n : Int) := by omega
  go_enter Try.func9, Try.ntmps9
  go_wp2_with fail
  go_step3
  go_wp2_with fail
  rw [Exit.noGoto_ret]
  go_ret2
  exact ⟨rfl, rfl⟩
theorem mkZ_lit (n : Int) : Value.agg #[.int .i64 n, .int .u8 0, .int .u8 0, .int .u8 0, .int .u8 0, .int .u8 0, .int .u8 0, .int .u8 0, .int .u8 0, .int .u8 0, .int .u8 0, .int .u8 0, .int .u8 0, .int .u8 0, .int .u8 0, .int .u8 0, .int .u8 0, .int .i64 0, .int .u64 0] = .agg (mkE n (fun _ => 0) 0 0).1.toArray := rfl
theorem i35' : (Try.prog.info? 35).map (fun i => (i.zero.isSome, i.size)) = some (true, 19) := by kernel_rfl
theorem pre1 (P : X) : Pre eXv 19 P.1.toArray [P] := by
  intro k j x hk hj
  match k, hk with
  | 0, hk => simp at hk; subst hk; simp [eXv]
theorem one1 (P : X) : ∀ u ∈ [P].flatMap eXv, u.oneCell' = true := by
  intro u hu
  simp [eXv] at hu
  exact P.one u hu
/-- what is so at the label -/
def PR (w : World) (L : List Int) (a' : Act) (w' : World) : Prop := Kp NoB w w' ∧ ∃ (k : Nat) (x ov : Value), 16 * k < L.length + 16 ∧ Sg w eB x (L.drop (16 * k)) ∧ RowAt w' 35 eXv 19 ov ((List.range k).map (pc L)) ∧ (∀ b, ov.ownBlock = some b → w.heap.size ≤ b) ∧
      ∃ u : Nat → Value, a' = { tmps := #[x, undef, ov, .int .i64 0, u 4, u 5, u 6, u 7, u 8, u 9, u 10, u 11, u 12, u 13, u 14, u 15, u 16, u 17, u 18, u 19, u 20, u 21, u 22, u 23, u 24, u 25, u 26, u 27, u 28, u 29, u 30, u 31], defers := [] }
def PPost (w : World) (L : List Int) (e : Ending) (w' : World) : Prop := ∃ ov, e = .returned (.tuple #[ov, .int .i64 0]) ∧ RowAt w' 35 eXv 19 ov (pcs L) ∧ (∀ b, ov.ownBlock = some b → w.heap.size ≤ b) ∧ Kp NoB w w'
theorem flatB (L : List Int) : L.flatMap eB = L.map (Value.int .u8) := by
  induction L with
  | nil => rfl
  | cons a r ih => rw [List.flatMap_cons, ih]; rfl
theorem drop_take_map (L : List Int) (a n : Nat) : ((L.drop a).take n).map (Value.int .u8) = ((L.map (Value.int .u8)).drop a).take n := by simp
/-- the piece's block, behind the copy -/
theorem piece_cells (L : List Int) (k n : Nat) (hn : n = min 16 (L.length - 16 * k)) :
    ((mkE n (fun _ => 0) 0 0).1.toArray.toList.take 1 ++ ((L.drop (16 * k)).take n).map (Value.int .u8) ++ (mkE n (fun _ => 0) 0 0).1.toArray.toList.drop (1 + (((L.drop (16 * k)).take n).map (Value.int .u8)).length)).toArray = (pc L k).1.toArray := by
  congr 1
  have hl : (((L.drop (16 * k)).take n).map (Value.int .u8)).length = n := by simp; omega
  rw [hl]
  apply List.ext_getElem?
  intro j
  show ((mkL n (fun _ => 0) 0 0).take 1 ++ _ ++ (mkL n (fun _ => 0) 0 0).drop (1 + n))[j]? = (mkL _ _ 0 0)[j]?
  have h1 : ((mkL n (fun _ => 0) 0 0).take 1).length = 1 := rfl
  have hz : ∀ q : Nat, q < 16 → (mkL n (fun _ => 0) 0 0)[1 + q]? = some (.int .u8 0) := fun q hq => mkE_b _ _ _ _ hq
  rcases Nat.lt_or_ge j 1 with c | c
  · obtain rfl : j = 0 := by omega
    subst hn; rfl
  · obtain ⟨q, rfl⟩ : ∃ q, j = 1 + q := ⟨j - 1, by omega⟩
    rw [List.append_assoc, List.getElem?_append_right (by omega), h1, show 1 + q - 1 = q from by omega]
    by_cases hq : q < 16
    · have hr : (mkL ((min 16 (L.length - 16 * k) : Nat) : Int) (fun j => (L[16 * k + j]?).getD 0) 0 0)[1 + q]? = some (.int .u8 ((L[16 * k + q]?).getD 0)) := mkE_b _ _ _ _ hq
      rw [hr]
      by_cases hqn : q < n
      · rw [List.getElem?_append_left (by omega), List.getElem?_map, List.getElem?_take_of_lt hqn, List.getElem?_drop, List.getElem?_eq_getElem (by omega)]; rfl
      · rw [List.getElem?_append_right (by omega), hl, List.getElem?_drop, show 1 + n + (q - n) = 1 + q from by omega, hz q hq, List.getElem?_eq_none (by omega)]; rfl
    · rw [List.getElem?_append_right (by omega), hl, List.getElem?_drop, show 1 + n + (q - n) = 1 + q from by omega]
      rcases (by omega : q = 16 ∨ q = 17 ∨ 18 ≤ q) with rfl | rfl | h18
      · rfl
      · rfl
      · rw [List.getElem?_eq_none (by show 19 ≤ _; omega), List.getElem?_eq_none (by show 19 ≤ _; omega)]
theorem sg_rest {w : World} {yy y' : Addr} {L : List Int} {k n m c q c' : Nat} (h : Sg w eB (.slice (some yy) m c) (L.drop (16 * k))) (hn : n ≤ m) (hy' : n < m → y' = yy.add n) (hm : m = L.length - 16 * k) (hq : q = L.length - 16 * k - n) (hqc : q ≤ c') (hnm : n = min 16 m) : Sg w eB (.slice (some y') q c') (L.drop (16 * (k + 1))) := by
  have hl : (L.drop (16 * (k + 1))).length = q := by rw [List.length_drop]; omega
  rcases h with ⟨h, _⟩ | ⟨y, cc, he, h1, h2, h3⟩
  · cases h
  · injection he with he _ _
    injection he with he
    subst he
    refine .inr ⟨y', c', by rw [hl], by rw [hl]; exact hqc, fun hne => ?_, fun j u hj => ?_⟩
    · have hqp : 0 < q := by rw [← hl]; exact List.length_pos_iff.2 hne
      rw [hy' (by omega), add_blk]
      exact h2 (by intro e; have := congrArg List.length e; simp at this; omega)
    · have hjq : j < q := by
        have := (List.getElem?_eq_some_iff.1 hj).1
        rw [flatB] at this
        simp at this; omega
      rw [hy' (by omega), Go.Deep.add_add]
      refine h3 (n + j) u ?_
      rw [flatB, List.getElem?_map] at hj ⊢
      rw [List.getElem?_drop] at hj ⊢
      rw [show 16 * k + (n + j) = 16 * (k + 1) + j from by omega]; exact hj
theorem pcs_upto (L : List Int) {k : Nat} (h1 : 16 * k < L.length + 16) (h2 : L.length - 16 * k = 0) : (List.range k).map (pc L) = pcs L := by
  unfold pcs need
  rw [show (L.length + 15) / 16 = k from by omega]
set_option maxRecDepth 100000 in
set_option maxHeartbeats 4000000 in
theorem pieces_any {w : World} {v : Value} {L : List Int} (h : Sg w eB v L) (hl : L.length ≤ 256) : Calls Try.prog 9 #[v] w (PPost w L) := by
  obtain ⟨y, c, hv, hc⟩ := h.form
  subst hv
  replace h := hid h
  have h1 : ¬ (256 : Int) < (L.length : Int) := by omega
  go_enter Try.func9, Try.ntmps9
  go_wp2_with fail
  refine wp_scope_jumps 0 (PR w L) (fun a' _ => slLen (a'.tmps.getD 0 undef)) rfl ?_ ?_
  · go_wp2_with fail
    have hK : Kp NoB w w := Kp.refl _ _
    obtain ⟨k, hk0⟩ : ∃ k : Nat, k = 0 := ⟨_, rfl⟩
    have hxw : Sg w eB (.slice y L.length c) (L.drop (16 * k)) := by rw [hk0]; exact h.out
    have ho : RowAt w 35 eXv 19 (.slice none 0 0) ((List.range k).map (pc L)) := by rw [hk0]; exact RowAt.nil _ _ _ _
    have hn : ∀ b, (Value.slice none 0 0).ownBlock = some b → w.heap.size ≤ b := by simp [Value.ownBlock]
    have hk : 16 * k < L.length + 16 := by omega
    clear hk0
    obtain ⟨x, hx0⟩ : ∃ x, x = Value.slice y L.length c := ⟨_, rfl⟩
    rw [← hx0] at hxw ⊢
    clear hx0 hc h h1
    go_step3
    obtain ⟨ov, hov⟩ : ∃ ov, ov = Value.slice none 0 0 := ⟨_, rfl⟩
    rw [← hov] at ho hn ⊢
    clear hov
    have hm : (L.drop (16 * k)).length = L.length - 16 * k := by simp
    by_cases h0 : L.length - 16 * k = 0
    · obtain ⟨yy, cc, hx', _⟩ := hxw.form
      subst hx'
      rw [hm, h0]
      have ho' : RowAt w 35 eXv 19 ov (pcs L) := by rw [← pcs_upto L hk h0]; exact ho
      replace h0 := hid h0
      replace hm := hid hm
      go_wp2_with fail
      simp only [Exit.jump]
      go_ret2
      exact ⟨_, rfl, ho', hn, hK⟩
    · have hx := hxw.kn hK
      rcases hx with ⟨_, hnil⟩ | ⟨yy, cc, rfl, hcc, hy, hcell⟩
      · rw [hnil] at hm; simp at hm; omega
      have hxw := hid hxw
      rw [hm]
      rw [hm] at hcc
      obtain ⟨m, hmm⟩ : ∃ m, m = L.length - 16 * k := ⟨_, rfl⟩
      obtain ⟨n, hnn⟩ : ∃ n, n = min 16 (L.length - 16 * k) := ⟨_, rfl⟩
      rw [← hmm] at hcc ⊢
      have m0 : ((m : Int) == 0) = false := by simp; omega
      have m1 : n ≤ m := by omega
      have n1 : 1 ≤ n := by omega
      have n16 : n ≤ 16 := by omega
      replace h0 := hid h0
      replace hm := hid hm
      by_cases c16 : m ≤ 16
      · obtain rfl : n = m := by omega
        have c16' : (n : Int) ≤ 16 := by omega
        have bc : ((n : Nat) : Int) ≤ (cc : Int) := by omega
        have bc' : n ≤ cc := by omega
        replace hmm := hid hmm
        replace hnn := hid hnn
        obtain ⟨W1, hW1⟩ : ∃ W1, W1 = (w.alloc (.cells #[.int .i64 0, .int .u8 0, .int .u8 0, .int .u8 0, .int .u8 0, .int .u8 0, .int .u8 0, .int .u8 0, .int .u8 0, .int .u8 0, .int .u8 0, .int .u8 0, .int .u8 0, .int .u8 0, .int .u8 0, .int .u8 0, .int .u8 0, .int .i64 0, .int .u64 0] 35)).setCells w.heap.size 0 (mkE ((n : Nat) : Int) (fun _ => 0) 0 0).1 := ⟨_, rfl⟩
        have HB : W1.heap[w.heap.size]? = some (.cells (mkE (n : Nat) (fun _ => 0) 0 0).1.toArray 35 (0, 0)) := by rw [hW1]; exact putX (y := zX) (blk_new w _) _
        have KW : Kp NoB w W1 := by rw [hW1]; exact ((Kp.refl _ w).alloc _).setCells _ (fun h => absurd h (by simp))
        replace HB := hid HB
        replace hW1 := hid hW1
        go_wp2_with (refine stX (by rfl) _ _ rfl _ _ (mkE ((n : Nat) : Int) (fun _ => 0) 0 0) rfl (mkZ_lit _) (there_of (blk_new _ _) (by decide)) ?_)
        rw [← hW1.out]
        clear hW1
        obtain ⟨b, hb⟩ : ∃ b, b = w.heap.size := ⟨_, rfl⟩
        rw [← hb] at HB ⊢
        replace hb := hid hb
        refine wp_region_G (fun _ => True) [(0, .at_), (1, .at_), (2, .at_), (3, .at_), (4, .at_), (5, .at_), (6, .eff)] ?L1 (by kernel_rfl) (by kernel_rfl) ?hL1 (trivial) ?hG1
        case hL1 => simp only [pickOps, List.map_cons, List.map_nil, List.getD_cons_zero, List.getD_cons_succ]; rfl
        repeat (first | (refine wpG_at (v := ?_) (by rfl) ?_ ?_; rotate_left; (focus (first | (go_simp; with_reducible rfl) | (go_simp; done))); simp only [Act.put, List.setIfInBounds_toArray, List.set_cons_zero, List.set_cons_succ]) | (refine wpG_at_skip (by rfl) ?_; simp only [Act.put, List.setIfInBounds_toArray, List.set_cons_zero, List.set_cons_succ]) | (refine wpG_held_skip (by rfl) ?_; simp only [Act.put, List.setIfInBounds_toArray, List.set_cons_zero, List.set_cons_succ]) | (refine wpG_held (v := ?_) (by rfl) ?_ ?_; rotate_left; (focus (intro w' hSw; (try dsimp only at hSw); go_split_ands; first | (go_simp; with_reducible rfl) | (go_simp; done))); simp only [Act.put, List.setIfInBounds_toArray, List.set_cons_zero, List.set_cons_succ]))
        refine wpG_eff (by rfl) (fun K hK => ?_)
        refine wp_copyN (.tmp 19) (.tmp 23) 22 22 5 1 rfl sl22 s5 b 1 16 16 rfl yy n n rfl (mkE (n : Nat) (fun _ => 0) 0 0).1.toArray 35 HB.out (((L.drop (16 * k)).take n).map (Value.int .u8)) ?_ ?_ ?_ ?_ ?_
        · simp only [List.length_map, List.length_take, List.length_drop, Nat.mul_one]
          have := hnn.out; have := hmm.out
          show min n (L.length - 16 * k) = min n 16
          omega
        · intro j v hj
          show W1.cell? (yy.add j) = some v
          have hW := KW.blk yy.block (hy (by intro e; have := hm.out; rw [e] at this; simp at this; have := hmm.out; omega)) (fun h => h)
          have hbk : (yy.add j).block = yy.block := add_blk yy j
          rw [show W1.cell? (yy.add j) = w.cell? (yy.add j) from cell_blk (by rw [hbk]; exact hW)]
          refine hcell j v ?_
          rw [flatB]
          rw [drop_take_map] at hj
          have hjn : j < n := by
            have := (List.getElem?_eq_some_iff.1 hj).1
            simp at this; omega
          rw [List.getElem?_take_of_lt hjn] at hj
          rw [List.map_drop]; exact hj
        · simp only [List.length_map, List.length_take, List.length_drop]
          show 1 + min n (L.length - 16 * k) ≤ 19
          omega
        · intro v hv
          obtain ⟨x, _, rfl⟩ := List.mem_map.1 hv
          rfl
        intro r
        refine hK _ _ trivial ?_
        clear hK K
        refine wpG_nil (NoPanic.normal ?_)
        have HC := setRow_heap W1.drew b _ ((mkE (n : Nat) (fun _ => 0) 0 0).1.toArray.toList.take 1 ++ ((L.drop (16 * k)).take n).map (Value.int .u8) ++ (mkE (n : Nat) (fun _ => 0) 0 0).1.toArray.toList.drop (1 + (((L.drop (16 * k)).take n).map (Value.int .u8)).length)).toArray 35 (0, 0) HB.out
        rw [piece_cells L k n hnn.out] at HC ⊢
        have K2 : Kp NoB w (W1.drew.setRow b (pc L k).1.toArray) := kp_setRow KW.drew _ (fun h => absurd h (by have := hb.out; omega))
        obtain ⟨W2, hW2⟩ : ∃ W2, W2 = W1.drew.setRow b (pc L k).1.toArray := ⟨_, rfl⟩
        rw [← hW2] at HC K2 ⊢
        clear hW2 HB KW hcell
        have ho2 := ho.kp K2 (fun _ _ h => h)
        have Lx := whole_of HC
        obtain ⟨P, hP⟩ : ∃ P, P = pc L k := ⟨_, rfl⟩
        rw [← hP] at Lx
        replace HC := hid HC
        replace hP := hid hP
        replace ho2 := hid ho2
        go_wp2_with (first | refine ldX (by rfl) _ rfl _ _ rfl P Lx ?_ | (refine BigFrame.wpList_want (by rfl) fun K hK' => ?_; refine wp_build1 24 35 (.tmp 26) rfl P.1 rfl sl24 (by rw [P.len]; exact i35') (by rw [P.len]; omega) (by rw [P.len]; omega) ?_; refine hK' _ _ ?_; clear hK' K) | (refine BigFrame.wpList_want (by rfl) fun K hK' => ?_; refine wp_grow eXv_len (by omega) _ _ 24 35 _ 40 rfl sl24 i35 rfl ov ((List.range k).map (pc L)) rfl (ho2.out.alloc _) W2.heap.size 1 [P] rfl P.1.toArray 35 (blk_new _ _) (pre1 P) (one1 P) (by simp; omega) (by omega) ?_; intro vb wb b1 b2 b3; refine hK' _ _ ?_; clear hK' K))
        all_goals
          have K3 : Kp NoB w wb := ((hK.trans K2).alloc _).trans' (kp_grown b2 (fun b hb => hb)) (fun b hb hf => absurd (hn b hf) (by omega))
          have hP' := hP.out
          subst hP'
          have hlen := hm.out
          have hmm' := hmm.out
          have hRB : ∀ b', vb.ownBlock = some b' → w.heap.size ≤ b' := fun b' hb' => by
            rcases b3 with o | ⟨b2', o, hb2⟩
            · rw [o] at hb'; exact hn b' hb'
            · rw [hb'] at o; injection o with o; subst o
              have := hK.size; have := K2.size; simp at hb2; omega
          have hRR : RowAt wb 35 eXv 19 vb ((List.range (k + 1)).map (pc L)) := by rw [List.range_succ, List.map_append]; exact b1
          have hnn' := hnn.out
          go_step3
          refine ⟨rfl, ⟨K3, k + 1, _, vb, by omega, ?hsg, hRR, hRB, ax_fun _ (by rfl)⟩⟩
          case hsg => exact sg_rest (n := n) hxw.out (by omega) (fun h => by first | rfl | (exfalso; omega)) (by omega) (by omega) (by omega) (by omega)
      · obtain rfl : n = 16 := by omega
        have c16' : (16 : Int) < (m : Int) := by omega
        have bc : (16 : Int) ≤ (cc : Int) := by omega
        have bc' : 16 ≤ cc := by omega
        replace hmm := hid hmm
        replace hnn := hid hnn
        obtain ⟨W1, hW1⟩ : ∃ W1, W1 = (w.alloc (.cells #[.int .i64 0, .int .u8 0, .int .u8 0, .int .u8 0, .int .u8 0, .int .u8 0, .int .u8 0, .int .u8 0, .int .u8 0, .int .u8 0, .int .u8 0, .int .u8 0, .int .u8 0, .int .u8 0, .int .u8 0, .int .u8 0, .int .u8 0, .int .i64 0, .int .u64 0] 35)).setCells w.heap.size 0 (mkE (16 : Int) (fun _ => 0) 0 0).1 := ⟨_, rfl⟩
        have HB : W1.heap[w.heap.size]? = some (.cells (mkE (16 : Nat) (fun _ => 0) 0 0).1.toArray 35 (0, 0)) := by rw [hW1]; exact putX (y := zX) (blk_new w _) _
        have KW : Kp NoB w W1 := by rw [hW1]; exact ((Kp.refl _ w).alloc _).setCells _ (fun h => absurd h (by simp))
        replace HB := hid HB
        replace hW1 := hid hW1
        go_wp2_with (refine stX (by rfl) _ _ rfl _ _ (mkE (16 : Int) (fun _ => 0) 0 0) rfl (mkZ_lit _) (there_of (blk_new _ _) (by decide)) ?_)
        rw [← hW1.out]
        clear hW1
        obtain ⟨b, hb⟩ : ∃ b, b = w.heap.size := ⟨_, rfl⟩
        rw [← hb] at HB ⊢
        replace hb := hid hb
        refine wp_region_G (fun _ => True) [(0, .at_), (1, .at_), (2, .at_), (3, .at_), (4, .at_), (5, .at_), (6, .eff)] ?L2 (by kernel_rfl) (by kernel_rfl) ?hL2 (trivial) ?hG2
        case hL2 => simp only [pickOps, List.map_cons, List.map_nil, List.getD_cons_zero, List.getD_cons_succ]; rfl
        repeat (first | (refine wpG_at (v := ?_) (by rfl) ?_ ?_; rotate_left; (focus (first | (go_simp; with_reducible rfl) | (go_simp; done))); simp only [Act.put, List.setIfInBounds_toArray, List.set_cons_zero, List.set_cons_succ]) | (refine wpG_at_skip (by rfl) ?_; simp only [Act.put, List.setIfInBounds_toArray, List.set_cons_zero, List.set_cons_succ]) | (refine wpG_held_skip (by rfl) ?_; simp only [Act.put, List.setIfInBounds_toArray, List.set_cons_zero, List.set_cons_succ]) | (refine wpG_held (v := ?_) (by rfl) ?_ ?_; rotate_left; (focus (intro w' hSw; (try dsimp only at hSw); go_split_ands; first | (go_simp; with_reducible rfl) | (go_simp; done))); simp only [Act.put, List.setIfInBounds_toArray, List.set_cons_zero, List.set_cons_succ]))
        refine wpG_eff (by rfl) (fun K hK => ?_)
        refine wp_copyN (.tmp 19) (.tmp 23) 22 22 5 1 rfl sl22 s5 b 1 16 16 rfl yy 16 16 rfl (mkE (16 : Nat) (fun _ => 0) 0 0).1.toArray 35 HB.out (((L.drop (16 * k)).take 16).map (Value.int .u8)) ?_ ?_ ?_ ?_ ?_
        · simp only [List.length_map, List.length_take, List.length_drop, Nat.mul_one]
          have := hnn.out; have := hmm.out
          show min 16 (L.length - 16 * k) = min 16 16
          omega
        · intro j v hj
          show W1.cell? (yy.add j) = some v
          have hW := KW.blk yy.block (hy (by intro e; have := hm.out; rw [e] at this; simp at this; have := hmm.out; omega)) (fun h => h)
          have hbk : (yy.add j).block = yy.block := add_blk yy j
          rw [show W1.cell? (yy.add j) = w.cell? (yy.add j) from cell_blk (by rw [hbk]; exact hW)]
          refine hcell j v ?_
          rw [flatB]
          rw [drop_take_map] at hj
          have hjn : j < 16 := by
            have := (List.getElem?_eq_some_iff.1 hj).1
            simp at this; omega
          rw [List.getElem?_take_of_lt hjn] at hj
          rw [List.map_drop]; exact hj
        · simp only [List.length_map, List.length_take, List.length_drop]
          show 1 + min 16 (L.length - 16 * k) ≤ 19
          omega
        · intro v hv
          obtain ⟨x, _, rfl⟩ := List.mem_map.1 hv
          rfl
        intro r
        refine hK _ _ trivial ?_
        clear hK K
        refine wpG_nil (NoPanic.normal ?_)
        have HC := setRow_heap W1.drew b _ ((mkE (16 : Nat) (fun _ => 0) 0 0).1.toArray.toList.take 1 ++ ((L.drop (16 * k)).take 16).map (Value.int .u8) ++ (mkE (16 : Nat) (fun _ => 0) 0 0).1.toArray.toList.drop (1 + (((L.drop (16 * k)).take 16).map (Value.int .u8)).length)).toArray 35 (0, 0) HB.out
        rw [piece_cells L k 16 hnn.out] at HC ⊢
        have K2 : Kp NoB w (W1.drew.setRow b (pc L k).1.toArray) := kp_setRow KW.drew _ (fun h => absurd h (by have := hb.out; omega))
        obtain ⟨W2, hW2⟩ : ∃ W2, W2 = W1.drew.setRow b (pc L k).1.toArray := ⟨_, rfl⟩
        rw [← hW2] at HC K2 ⊢
        clear hW2 HB KW hcell
        have ho2 := ho.kp K2 (fun _ _ h => h)
        have Lx := whole_of HC
        obtain ⟨P, hP⟩ : ∃ P, P = pc L k := ⟨_, rfl⟩
        rw [← hP] at Lx
        replace HC := hid HC
        replace hP := hid hP
        replace ho2 := hid ho2
        go_wp2_with (first | refine ldX (by rfl) _ rfl _ _ rfl P Lx ?_ | (refine BigFrame.wpList_want (by rfl) fun K hK' => ?_; refine wp_build1 24 35 (.tmp 26) rfl P.1 rfl sl24 (by rw [P.len]; exact i35') (by rw [P.len]; omega) (by rw [P.len]; omega) ?_; refine hK' _ _ ?_; clear hK' K) | (refine BigFrame.wpList_want (by rfl) fun K hK' => ?_; refine wp_grow eXv_len (by omega) _ _ 24 35 _ 40 rfl sl24 i35 rfl ov ((List.range k).map (pc L)) rfl (ho2.out.alloc _) W2.heap.size 1 [P] rfl P.1.toArray 35 (blk_new _ _) (pre1 P) (one1 P) (by simp; omega) (by omega) ?_; intro vb wb b1 b2 b3; refine hK' _ _ ?_; clear hK' K))
        all_goals
          have K3 : Kp NoB w wb := ((hK.trans K2).alloc _).trans' (kp_grown b2 (fun b hb => hb)) (fun b hb hf => absurd (hn b hf) (by omega))
          have hP' := hP.out
          subst hP'
          have hlen := hm.out
          have hmm' := hmm.out
          have hRB : ∀ b', vb.ownBlock = some b' → w.heap.size ≤ b' := fun b' hb' => by
            rcases b3 with o | ⟨b2', o, hb2⟩
            · rw [o] at hb'; exact hn b' hb'
            · rw [hb'] at o; injection o with o; subst o
              have := hK.size; have := K2.size; simp at hb2; omega
          have hRR : RowAt wb 35 eXv 19 vb ((List.range (k + 1)).map (pc L)) := by rw [List.range_succ, List.map_append]; exact b1
          have hnn' := hnn.out
          go_step3
          refine ⟨rfl, ⟨K3, k + 1, _, vb, by omega, ?hsg, hRR, hRB, ax_fun _ (by rfl)⟩⟩
          case hsg => exact sg_rest (n := 16) hxw.out (by omega) (fun h => by first | rfl | (exfalso; omega)) (by omega) (by omega) (by omega) (by omega)
  · rintro a' w' ⟨hK, k, x, ov, hk, hxw, ho, hn, u, rfl⟩
    have hm : (L.drop (16 * k)).length = L.length - 16 * k := by simp
    by_cases h0 : L.length - 16 * k = 0
    · obtain ⟨yy, cc, hx', _⟩ := hxw.form
      subst hx'
      rw [hm, h0]
      have ho' : RowAt w' 35 eXv 19 ov (pcs L) := by rw [← pcs_upto L hk h0]; exact ho
      replace h0 := hid h0
      replace hm := hid hm
      go_wp2_with fail
      simp only [Exit.jump]
      go_ret2
      exact ⟨_, rfl, ho', hn, hK⟩
    · have hx := hxw.kn hK
      rcases hx with ⟨_, hnil⟩ | ⟨yy, cc, rfl, hcc, hy, hcell⟩
      · rw [hnil] at hm; simp at hm; omega
      have hxw := hid hxw
      rw [hm]
      rw [hm] at hcc
      obtain ⟨m, hmm⟩ : ∃ m, m = L.length - 16 * k := ⟨_, rfl⟩
      obtain ⟨n, hnn⟩ : ∃ n, n = min 16 (L.length - 16 * k) := ⟨_, rfl⟩
      rw [← hmm] at hcc ⊢
      have m0 : ((m : Int) == 0) = false := by simp; omega
      have m1 : n ≤ m := by omega
      have n1 : 1 ≤ n := by omega
      have n16 : n ≤ 16 := by omega
      replace h0 := hid h0
      replace hm := hid hm
      by_cases c16 : m ≤ 16
      · obtain rfl : n = m := by omega
        have c16' : (n : Int) ≤ 16 := by omega
        have bc : ((n : Nat) : Int) ≤ (cc : Int) := by omega
        have bc' : n ≤ cc := by omega
        replace hmm := hid hmm
        replace hnn := hid hnn
        obtain ⟨W1, hW1⟩ : ∃ W1, W1 = (w'.alloc (.cells #[.int .i64 0, .int .u8 0, .int .u8 0, .int .u8 0, .int .u8 0, .int .u8 0, .int .u8 0, .int .u8 0, .int .u8 0, .int .u8 0, .int .u8 0, .int .u8 0, .int .u8 0, .int .u8 0, .int .u8 0, .int .u8 0, .int .u8 0, .int .i64 0, .int .u64 0] 35)).setCells w'.heap.size 0 (mkE ((n : Nat) : Int) (fun _ => 0) 0 0).1 := ⟨_, rfl⟩
        have HB : W1.heap[w'.heap.size]? = some (.cells (mkE (n : Nat) (fun _ => 0) 0 0).1.toArray 35 (0, 0)) := by rw [hW1]; exact putX (y := zX) (blk_new w' _) _
        have KW : Kp NoB w' W1 := by rw [hW1]; exact ((Kp.refl _ w').alloc _).setCells _ (fun h => absurd h (by simp))
        replace HB := hid HB
        replace hW1 := hid hW1
        go_wp2_with (refine stX (by rfl) _ _ rfl _ _ (mkE ((n : Nat) : Int) (fun _ => 0) 0 0) rfl (mkZ_lit _) (there_of (blk_new _ _) (by decide)) ?_)
        rw [← hW1.out]
        clear hW1
        obtain ⟨b, hb⟩ : ∃ b, b = w'.heap.size := ⟨_, rfl⟩
        rw [← hb] at HB ⊢
        replace hb := hid hb
        refine wp_region_G (fun _ => True) [(0, .at_), (1, .at_), (2, .at_), (3, .at_), (4, .at_), (5, .at_), (6, .eff)] ?L3 (by kernel_rfl) (by kernel_rfl) ?hL3 (trivial) ?hG3
        case hL3 => simp only [pickOps, List.map_cons, List.map_nil, List.getD_cons_zero, List.getD_cons_succ]; rfl
        repeat (first | (refine wpG_at (v := ?_) (by rfl) ?_ ?_; rotate_left; (focus (first | (go_simp; with_reducible rfl) | (go_simp; done))); simp only [Act.put, List.setIfInBounds_toArray, List.set_cons_zero, List.set_cons_succ]) | (refine wpG_at_skip (by rfl) ?_; simp only [Act.put, List.setIfInBounds_toArray, List.set_cons_zero, List.set_cons_succ]) | (refine wpG_held_skip (by rfl) ?_; simp only [Act.put, List.setIfInBounds_toArray, List.set_cons_zero, List.set_cons_succ]) | (refine wpG_held (v := ?_) (by rfl) ?_ ?_; rotate_left; (focus (intro w' hSw; (try dsimp only at hSw); go_split_ands; first | (go_simp; with_reducible rfl) | (go_simp; done))); simp only [Act.put, List.setIfInBounds_toArray, List.set_cons_zero, List.set_cons_succ]))
        refine wpG_eff (by rfl) (fun K hK => ?_)
        refine wp_copyN (.tmp 19) (.tmp 23) 22 22 5 1 rfl sl22 s5 b 1 16 16 rfl yy n n rfl (mkE (n : Nat) (fun _ => 0) 0 0).1.toArray 35 HB.out (((L.drop (16 * k)).take n).map (Value.int .u8)) ?_ ?_ ?_ ?_ ?_
        · simp only [List.length_map, List.length_take, List.length_drop, Nat.mul_one]
          have := hnn.out; have := hmm.out
          show min n (L.length - 16 * k) = min n 16
          omega
        · intro j v hj
          show W1.cell? (yy.add j) = some v
          have hW := KW.blk yy.block (hy (by intro e; have := hm.out; rw [e] at this; simp at this; have := hmm.out; omega)) (fun h => h)
          have hbk : (yy.add j).block = yy.block := add_blk yy j
          rw [show W1.cell? (yy.add j) = w'.cell? (yy.add j) from cell_blk (by rw [hbk]; exact hW)]
          refine hcell j v ?_
          rw [flatB]
          rw [drop_take_map] at hj
          have hjn : j < n := by
            have := (List.getElem?_eq_some_iff.1 hj).1
            simp at this; omega
          rw [List.getElem?_take_of_lt hjn] at hj
          rw [List.map_drop]; exact hj
        · simp only [List.length_map, List.length_take, List.length_drop]
          show 1 + min n (L.length - 16 * k) ≤ 19
          omega
        · intro v hv
          obtain ⟨x, _, rfl⟩ := List.mem_map.1 hv
          rfl
        intro r
        refine hK _ _ trivial ?_
        clear hK K
        refine wpG_nil (NoPanic.normal ?_)
        have HC := setRow_heap W1.drew b _ ((mkE (n : Nat) (fun _ => 0) 0 0).1.toArray.toList.take 1 ++ ((L.drop (16 * k)).take n).map (Value.int .u8) ++ (mkE (n : Nat) (fun _ => 0) 0 0).1.toArray.toList.drop (1 + (((L.drop (16 * k)).take n).map (Value.int .u8)).length)).toArray 35 (0, 0) HB.out
        rw [piece_cells L k n hnn.out] at HC ⊢
        have K2 : Kp NoB w' (W1.drew.setRow b (pc L k).1.toArray) := kp_setRow KW.drew _ (fun h => absurd h (by have := hb.out; omega))
        obtain ⟨W2, hW2⟩ : ∃ W2, W2 = W1.drew.setRow b (pc L k).1.toArray := ⟨_, rfl⟩
        rw [← hW2] at HC K2 ⊢
        clear hW2 HB KW hcell
        have ho2 := ho.kp K2 (fun _ _ h => h)
        have Lx := whole_of HC
        obtain ⟨P, hP⟩ : ∃ P, P = pc L k := ⟨_, rfl⟩
        rw [← hP] at Lx
        replace HC := hid HC
        replace hP := hid hP
        replace ho2 := hid ho2
        go_wp2_with (first | refine ldX (by rfl) _ rfl _ _ rfl P Lx ?_ | (refine BigFrame.wpList_want (by rfl) fun K hK' => ?_; refine wp_build1 24 35 (.tmp 26) rfl P.1 rfl sl24 (by rw [P.len]; exact i35') (by rw [P.len]; omega) (by rw [P.len]; omega) ?_; refine hK' _ _ ?_; clear hK' K) | (refine BigFrame.wpList_want (by rfl) fun K hK' => ?_; refine wp_grow eXv_len (by omega) _ _ 24 35 _ 40 rfl sl24 i35 rfl ov ((List.range k).map (pc L)) rfl (ho2.out.alloc _) W2.heap.size 1 [P] rfl P.1.toArray 35 (blk_new _ _) (pre1 P) (one1 P) (by simp; omega) (by omega) ?_; intro vb wb b1 b2 b3; refine hK' _ _ ?_; clear hK' K))
        all_goals
          have K3 : Kp NoB w wb := ((hK.trans K2).alloc _).trans' (kp_grown b2 (fun b hb => hb)) (fun b hb hf => absurd (hn b hf) (by omega))
          have hP' := hP.out
          subst hP'
          have hlen := hm.out
          have hmm' := hmm.out
          have hRB : ∀ b', vb.ownBlock = some b' → w.heap.size ≤ b' := fun b' hb' => by
            rcases b3 with o | ⟨b2', o, hb2⟩
            · rw [o] at hb'; exact hn b' hb'
            · rw [hb'] at o; injection o with o; subst o
              have := hK.size; have := K2.size; simp at hb2; omega
          have hRR : RowAt wb 35 eXv 19 vb ((List.range (k + 1)).map (pc L)) := by rw [List.range_succ, List.map_append]; exact b1
          have hnn' := hnn.out
          go_step3
          refine ⟨rfl, ⟨K3, k + 1, _, vb, by omega, ?hsg, hRR, hRB, ax_fun _ (by rfl)⟩, by show _ < _; simp [slLen]; omega⟩
          case hsg => exact sg_rest (n := n) hxw.out (by omega) (fun h => by first | rfl | (exfalso; omega)) (by omega) (by omega) (by omega) (by omega)
      · obtain rfl : n = 16 := by omega
        have c16' : (16 : Int) < (m : Int) := by omega
        have bc : (16 : Int) ≤ (cc : Int) := by omega
        have bc' : 16 ≤ cc := by omega
        replace hmm := hid hmm
        replace hnn := hid hnn
        obtain ⟨W1, hW1⟩ : ∃ W1, W1 = (w'.alloc (.cells #[.int .i64 0, .int .u8 0, .int .u8 0, .int .u8 0, .int .u8 0, .int .u8 0, .int .u8 0, .int .u8 0, .int .u8 0, .int .u8 0, .int .u8 0, .int .u8 0, .int .u8 0, .int .u8 0, .int .u8 0, .int .u8 0, .int .u8 0, .int .i64 0, .int .u64 0] 35)).setCells w'.heap.size 0 (mkE (16 : Int) (fun _ => 0) 0 0).1 := ⟨_, rfl⟩
        have HB : W1.heap[w'.heap.size]? = some (.cells (mkE (16 : Nat) (fun _ => 0) 0 0).1.toArray 35 (0, 0)) := by rw [hW1]; exact putX (y := zX) (blk_new w' _) _
        have KW : Kp NoB w' W1 := by rw [hW1]; exact ((Kp.refl _ w').alloc _).setCells _ (fun h => absurd h (by simp))
        replace HB := hid HB
        replace hW1 := hid hW1
        go_wp2_with (refine stX (by rfl) _ _ rfl _ _ (mkE (16 : Int) (fun _ => 0) 0 0) rfl (mkZ_lit _) (there_of (blk_new _ _) (by decide)) ?_)
        rw [← hW1.out]
        clear hW1
        obtain ⟨b, hb⟩ : ∃ b, b = w'.heap.size := ⟨_, rfl⟩
        rw [← hb] at HB ⊢
        replace hb := hid hb
        refine wp_region_G (fun _ => True) [(0, .at_), (1, .at_), (2, .at_), (3, .at_), (4, .at_), (5, .at_), (6, .eff)] ?L4 (by kernel_rfl) (by kernel_rfl) ?hL4 (trivial) ?hG4
        case hL4 => simp only [pickOps, List.map_cons, List.map_nil, List.getD_cons_zero, List.getD_cons_succ]; rfl
        repeat (first | (refine wpG_at (v := ?_) (by rfl) ?_ ?_; rotate_left; (focus (first | (go_simp; with_reducible rfl) | (go_simp; done))); simp only [Act.put, List.setIfInBounds_toArray, List.set_cons_zero, List.set_cons_succ]) | (refine wpG_at_skip (by rfl) ?_; simp only [Act.put, List.setIfInBounds_toArray, List.set_cons_zero, List.set_cons_succ]) | (refine wpG_held_skip (by rfl) ?_; simp only [Act.put, List.setIfInBounds_toArray, List.set_cons_zero, List.set_cons_succ]) | (refine wpG_held (v := ?_) (by rfl) ?_ ?_; rotate_left; (focus (intro w' hSw; (try dsimp only at hSw); go_split_ands; first | (go_simp; with_reducible rfl) | (go_simp; done))); simp only [Act.put, List.setIfInBounds_toArray, List.set_cons_zero, List.set_cons_succ]))
        refine wpG_eff (by rfl) (fun K hK => ?_)
        refine wp_copyN (.tmp 19) (.tmp 23) 22 22 5 1 rfl sl22 s5 b 1 16 16 rfl yy 16 16 rfl (mkE (16 : Nat) (fun _ => 0) 0 0).1.toArray 35 HB.out (((L.drop (16 * k)).take 16).map (Value.int .u8)) ?_ ?_ ?_ ?_ ?_
        · simp only [List.length_map, List.length_take, List.length_drop, Nat.mul_one]
          have := hnn.out; have := hmm.out
          show min 16 (L.length - 16 * k) = min 16 16
          omega
        · intro j v hj
          show W1.cell? (yy.add j) = some v
          have hW := KW.blk yy.block (hy (by intro e; have := hm.out; rw [e] at this; simp at this; have := hmm.out; omega)) (fun h => h)
          have hbk : (yy.add j).block = yy.block := add_blk yy j
          rw [show W1.cell? (yy.add j) = w'.cell? (yy.add j) from cell_blk (by rw [hbk]; exact hW)]
          refine hcell j v ?_
          rw [flatB]
          rw [drop_take_map] at hj
          have hjn : j < 16 := by
            have := (List.getElem?_eq_some_iff.1 hj).1
            simp at this; omega
          rw [List.getElem?_take_of_lt hjn] at hj
          rw [List.map_drop]; exact hj
        · simp only [List.length_map, List.length_take, List.length_drop]
          show 1 + min 16 (L.length - 16 * k) ≤ 19
          omega
        · intro v hv
          obtain ⟨x, _, rfl⟩ := List.mem_map.1 hv
          rfl
        intro r
        refine hK _ _ trivial ?_
        clear hK K
        refine wpG_nil (NoPanic.normal ?_)
        have HC := setRow_heap W1.drew b _ ((mkE (16 : Nat) (fun _ => 0) 0 0).1.toArray.toList.take 1 ++ ((L.drop (16 * k)).take 16).map (Value.int .u8) ++ (mkE (16 : Nat) (fun _ => 0) 0 0).1.toArray.toList.drop (1 + (((L.drop (16 * k)).take 16).map (Value.int .u8)).length)).toArray 35 (0, 0) HB.out
        rw [piece_cells L k 16 hnn.out] at HC ⊢
        have K2 : Kp NoB w' (W1.drew.setRow b (pc L k).1.toArray) := kp_setRow KW.drew _ (fun h => absurd h (by have := hb.out; omega))
        obtain ⟨W2, hW2⟩ : ∃ W2, W2 = W1.drew.setRow b (pc L k).1.toArray := ⟨_, rfl⟩
        rw [← hW2] at HC K2 ⊢
        clear hW2 HB KW hcell
        have ho2 := ho.kp K2 (fun _ _ h => h)
        have Lx := whole_of HC
        obtain ⟨P, hP⟩ : ∃ P, P = pc L k := ⟨_, rfl⟩
        rw [← hP] at Lx
        replace HC := hid HC
        replace hP := hid hP
        replace ho2 := hid ho2
        go_wp2_with (first | refine ldX (by rfl) _ rfl _ _ rfl P Lx ?_ | (refine BigFrame.wpList_want (by rfl) fun K hK' => ?_; refine wp_build1 24 35 (.tmp 26) rfl P.1 rfl sl24 (by rw [P.len]; exact i35') (by rw [P.len]; omega) (by rw [P.len]; omega) ?_; refine hK' _ _ ?_; clear hK' K) | (refine BigFrame.wpList_want (by rfl) fun K hK' => ?_; refine wp_grow eXv_len (by omega) _ _ 24 35 _ 40 rfl sl24 i35 rfl ov ((List.range k).map (pc L)) rfl (ho2.out.alloc _) W2.heap.size 1 [P] rfl P.1.toArray 35 (blk_new _ _) (pre1 P) (one1 P) (by simp; omega) (by omega) ?_; intro vb wb b1 b2 b3; refine hK' _ _ ?_; clear hK' K))
        all_goals
          have K3 : Kp NoB w wb := ((hK.trans K2).alloc _).trans' (kp_grown b2 (fun b hb => hb)) (fun b hb hf => absurd (hn b hf) (by omega))
          have hP' := hP.out
          subst hP'
          have hlen := hm.out
          have hmm' := hmm.out
          have hRB : ∀ b', vb.ownBlock = some b' → w.heap.size ≤ b' := fun b' hb' => by
            rcases b3 with o | ⟨b2', o, hb2⟩
            · rw [o] at hb'; exact hn b' hb'
            · rw [hb'] at o; injection o with o; subst o
              have := hK.size; have := K2.size; simp at hb2; omega
          have hRR : RowAt wb 35 eXv 19 vb ((List.range (k + 1)).map (pc L)) := by rw [List.range_succ, List.map_append]; exact b1
          have hnn' := hnn.out
          go_step3
          refine ⟨rfl, ⟨K3, k + 1, _, vb, by omega, ?hsg, hRR, hRB, ax_fun _ (by rfl)⟩, by show _ < _; simp [slLen]; omega⟩
          case hsg => exact sg_rest (n := 16) hxw.out (by omega) (fun h => by first | rfl | (exfalso; omega)) (by omega) (by omega) (by omega) (by omega)
end Go.Proofs.Ytaanbonbdhjbpaa
