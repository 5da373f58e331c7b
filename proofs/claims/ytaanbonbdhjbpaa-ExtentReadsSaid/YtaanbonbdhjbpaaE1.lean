/- What an extent is; a payload's. No program in sight. -/
import Derived.Test.YtaanbonbdhjbpaaGA7
import Derived.Test.YtaanbonbdhjbpaaLibY
namespace Go.Proofs.Ytaanbonbdhjbpaa
set_option linter.unusedSimpArgs false
set_option linter.unusedVariables false
/-- an extent's cells: how many, its bytes, where the next one is -/
def mkL (n : Int) (b : Nat → Int) (i g : Int) : List Value := .int .i64 n :: ((List.range 16).map (fun j => .int .u8 (b j)) ++ [.int .i64 i, .int .u64 g])
theorem mkL_ok (n : Int) (b : Nat → Int) (i g : Int) : XOk (mkL n b i g) := by
  refine ⟨rfl, fun v hv => ?_⟩
  simp only [mkL, List.mem_cons, List.mem_append, List.mem_map, List.not_mem_nil, or_false] at hv
  rcases hv with rfl | ⟨j, _, rfl⟩ | rfl | rfl <;> rfl
def mkE (n : Int) (b : Nat → Int) (i g : Int) : X := ⟨mkL n b i g, mkL_ok n b i g⟩
theorem mkE_eq {n n' : Int} {b b' : Nat → Int} {i i' g g' : Int} (h1 : n = n') (h2 : ∀ j, j < 16 → b j = b' j) (h3 : i = i') (h4 : g = g') : mkE n b i g = mkE n' b' i' g' := by
  subst h1; subst h3; subst h4
  unfold mkE
  apply Subtype.ext
  show mkL _ _ _ _ = mkL _ _ _ _
  unfold mkL
  congr 2
  apply List.map_congr_left
  intro j hj
  rw [h2 j (List.mem_range.1 hj)]
theorem mkL_lit (n : Int) (b : Nat → Int) (i g : Int) : (mkE n b i g).1.toArray = #[.int .i64 n, .int .u8 (b 0), .int .u8 (b 1), .int .u8 (b 2), .int .u8 (b 3), .int .u8 (b 4), .int .u8 (b 5), .int .u8 (b 6), .int .u8 (b 7), .int .u8 (b 8), .int .u8 (b 9), .int .u8 (b 10), .int .u8 (b 11), .int .u8 (b 12), .int .u8 (b 13), .int .u8 (b 14), .int .u8 (b 15), .int .i64 i, .int .u64 g] := rfl
theorem zX_mk : zX = mkE 0 (fun _ => 0) 0 0 := rfl
theorem mkE_n (n : Int) (b : Nat → Int) (i g : Int) : (mkE n b i g).1[0]? = some (.int .i64 n) := rfl
theorem mkE_b (n : Int) (b : Nat → Int) (i g : Int) {j : Nat} (hj : j < 16) : (mkE n b i g).1[1 + j]? = some (.int .u8 (b j)) := by
  show (mkL n b i g)[1 + j]? = _
  unfold mkL
  rw [Nat.add_comm, List.getElem?_cons_succ, List.getElem?_append_left (by simpa using hj)]
  simp [hj]
/-- the k-th piece of a payload -/
def pc (L : List Int) (k : Nat) : X := mkE ((min 16 (L.length - 16 * k) : Nat) : Int) (fun j => (L[16 * k + j]?).getD 0) 0 0
def need (n : Nat) : Nat := (n + 15) / 16
def pcs (L : List Int) : List X := (List.range (need L.length)).map (pc L)
def eXv (x : X) : List Value := x.1
theorem eXv_len (x : X) : (eXv x).length = 19 := x.len
def eB (x : Int) : List Value := [.int .u8 x]
theorem eB_len (x : Int) : (eB x).length = 1 := rfl
theorem pcs_len (L : List Int) : (pcs L).length = need L.length := by simp [pcs]
theorem pcs_get (L : List Int) {k : Nat} (h : k < need L.length) : (pcs L)[k]? = some (pc L k) := by simp [pcs, h]
/-- pieces of the first j bytes alone -/
theorem pc_take_lt (L : List Int) {i k : Nat} (hi : i < L.length) (hk : 16 * k + 16 ≤ i) : pc (L.take i) k = pc (L.take (i + 1)) k := by
  unfold pc
  refine mkE_eq ?_ (fun j hj => ?_) rfl rfl
  · simp only [List.length_take]; congr 1; omega
  · rw [List.getElem?_take_of_lt (by omega), List.getElem?_take_of_lt (by omega)]
theorem need_succ {i : Nat} (h : i % 16 = 0) : need (i + 1) = need i + 1 ∧ need i = i / 16 := by unfold need; omega
theorem need_same {i : Nat} (h : i % 16 ≠ 0) : need (i + 1) = need i ∧ need i = i / 16 + 1 := by unfold need; omega
theorem list_map_ext {α : Type} {f g : Nat → α} (n : Nat) (h : ∀ k, k < n → f k = g k) : (List.range n).map f = (List.range n).map g := List.map_congr_left (fun k hk => h k (List.mem_range.1 hk))
/-- one byte more: in a piece of its own, or in the last one -/
theorem pcs_new (L : List Int) {i : Nat} (hi : i < L.length) (h : i % 16 = 0) : pcs (L.take (i + 1)) = pcs (L.take i) ++ [mkE 1 (fun j => if j = 0 then (L[i]?).getD 0 else 0) 0 0] := by
  obtain ⟨h1, h2⟩ := need_succ h
  unfold pcs
  simp only [List.length_take]
  rw [Nat.min_eq_left (by omega), Nat.min_eq_left (by omega), h1, List.range_succ, List.map_append]
  congr 1
  · exact (list_map_ext _ (fun k hk => (pc_take_lt L hi (by rw [h2] at hk; omega)))).symm
  · simp only [List.map_cons, List.map_nil, List.cons.injEq, and_true]
    unfold pc
    refine mkE_eq ?_ (fun j hj => ?_) rfl rfl
    · simp only [List.length_take]
      have : min 16 (min (i + 1) L.length - 16 * need i) = 1 := by omega
      rw [this]; rfl
    · have e : 16 * need i = i := by omega
      rw [e]
      by_cases hj0 : j = 0
      · subst hj0; simp
      · rw [List.getElem?_eq_none (by simp; omega), if_neg hj0]; rfl
theorem pcs_more (L : List Int) {i : Nat} (hi : i < L.length) (h : i % 16 ≠ 0) : pcs (L.take (i + 1)) = (pcs (L.take i)).set (i / 16) (mkE ((i % 16 : Nat) + 1) (fun j => if j = i % 16 then (L[i]?).getD 0 else ((L.take i)[16 * (i / 16) + j]?).getD 0) 0 0) := by
  obtain ⟨h1, h2⟩ := need_same h
  apply List.ext_getElem?
  intro k
  have hl1 : (pcs (L.take (i + 1))).length = i / 16 + 1 := by rw [pcs_len, List.length_take, Nat.min_eq_left (by omega), h1, h2]
  have hl0 : (pcs (L.take i)).length = i / 16 + 1 := by rw [pcs_len, List.length_take, Nat.min_eq_left (by omega), h2]
  by_cases hk : k < i / 16 + 1
  · rw [pcs_get _ (by rw [List.length_take, Nat.min_eq_left (by omega), h1, h2]; exact hk)]
    by_cases e : i / 16 = k
    · subst e
      rw [List.getElem?_set_self (by omega)]
      congr 1
      unfold pc
      refine mkE_eq ?_ (fun j hj => ?_) rfl rfl
      · simp only [List.length_take]
        have : min 16 (min (i + 1) L.length - 16 * (i / 16)) = i % 16 + 1 := by omega
        rw [this]; rfl
      · by_cases hj0 : j = i % 16
        · subst hj0
          rw [if_pos rfl, show 16 * (i / 16) + i % 16 = i from by omega]; simp
        · rw [if_neg hj0]
          congr 1
          by_cases hlt : 16 * (i / 16) + j < i
          · rw [List.getElem?_take_of_lt (by omega), List.getElem?_take_of_lt hlt]
          · rw [List.getElem?_eq_none (by simp; omega), List.getElem?_eq_none (by simp; omega)]
    · rw [List.getElem?_set_ne e, pcs_get _ (by rw [List.length_take, Nat.min_eq_left (by omega), h2]; exact hk)]
      congr 1
      exact (pc_take_lt L hi (by omega)).symm
  · rw [List.getElem?_eq_none (by omega), List.getElem?_eq_none (by simp; omega)]
/-- the last one, whole -/
theorem pcs_last (L : List Int) {i : Nat} (hi : i < L.length) (h : i % 16 ≠ 0) : (pcs (L.take i))[i / 16]? = some (mkE ((i % 16 : Nat) : Int) (fun j => ((L.take i)[16 * (i / 16) + j]?).getD 0) 0 0) ∧ (pcs (L.take i)).length = i / 16 + 1 := by
  obtain ⟨h1, h2⟩ := need_same h
  have hl0 : (pcs (L.take i)).length = i / 16 + 1 := by rw [pcs_len, List.length_take, Nat.min_eq_left (by omega), h2]
  refine ⟨?_, hl0⟩
  rw [pcs_get _ (by rw [List.length_take, Nat.min_eq_left (by omega), h2]; omega)]
  congr 1
  unfold pc
  refine mkE_eq ?_ (fun _ _ => rfl) rfl rfl
  simp only [List.length_take]
  congr 1; omega
theorem pcs_zero (L : List Int) {i : Nat} (hi : i < L.length) (h : i % 16 = 0) : (pcs (L.take i)).length = i / 16 := by
  rw [pcs_len, List.length_take, Nat.min_eq_left (by omega), (need_succ h).2]
end Go.Proofs.Ytaanbonbdhjbpaa
