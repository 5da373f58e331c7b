/- Walks through the accounts of a quota: what each function returns and leaves, at any accounts that are well formed (the conditions stand in each theorem). -/
import Derived.Test.YtaghkgddnjdjcaaQ1
import Derived.Test.YtaghkgddnjdjcaaLibB
namespace Go.Proofs.Ytaghkgddnjdjcaa
open Go.RowKit
attribute [local go_sem ↓] Go.wp_at_zero Go.wp_at_succ

def B64 (x : Int) : Prop := 0 ≤ x ∧ x < 18446744073709551616
def wr (x : Int) : Int := IntKind.u64.wrap x
theorem wr_in {x : Int} (h : B64 x) : wr x = x := by unfold wr; unfold B64 at h; simp [IntKind.wrap, IntKind.bits, IntKind.signed]; omega
def upV (a b c : Int) : Int := if b ≤ c - a then a + b else 0
def upB (a b c : Int) : Bool := decide (b ≤ c - a)
theorem up_any (a b c : Int) (w : World) (ha : 0 ≤ a) (hb : 0 ≤ b) (hc : a ≤ c) (hc2 : c < 18446744073709551616) (hb2 : b < 18446744073709551616) :
   Calls Try.prog 41 #[.int .u64 a, .int .u64 b, .int .u64 c] w fun e w' => e = .returned (.tuple #[.int .u64 (upV a b c), .bool (upB a b c)]) ∧ w = w' := by
  by_cases h : b ≤ c - a
  · have h1 : upV a b c = a + b := by simp [upV, h]
    have h2 : upB a b c = true := by simp [upB, h]
    rw [h1, h2]
    go_enter Try.func41, Try.ntmps41
    go_wp2
    go_ret2
    exact ⟨rfl, rfl⟩
  · have h1 : upV a b c = 0 := by simp [upV, h]
    have h2 : upB a b c = false := by simp [upB, h]
    rw [h1, h2]
    go_enter Try.func41, Try.ntmps41
    go_wp2
    go_ret2
    exact ⟨rfl, rfl⟩

theorem more_any (a b c d l m : Int) (w : World) (ha : 0 ≤ a) (hb : 0 ≤ b) (hl : a ≤ l) (hm : b ≤ m) (hl2 : l < 18446744073709551616) (hm2 : m < 18446744073709551616)
    (hc : B64 c) (hd : B64 d) :
   Calls Try.prog 39 #[.agg #[.int .u64 a, .int .u64 b], .agg #[.int .u64 c, .int .u64 d], .agg #[.int .u64 l, .int .u64 m]] w fun e w' =>
     e = .returned (.tuple #[.agg #[.int .u64 (upV a c l), .int .u64 (upV b d m)], .bool (upB a c l && upB b d m)]) ∧ Kp NoB w w' := by
  obtain ⟨hc1, hc2⟩ := hc
  obtain ⟨hd1, hd2⟩ := hd
  go_enter Try.func39, Try.ntmps39
  go_wp2_with fail
  refine (up_any a c l _ ha hc1 hl hl2 hc2).mono ?_
  rintro e w' ⟨rfl, rfl⟩
  go_wp2_with fail
  refine (up_any b d m _ hb hd1 hm hm2 hd2).mono ?_
  rintro e w' ⟨rfl, rfl⟩
  go_wp2_with fail
  · have h1 : upB a c l = true := by assumption
    refine bodyPost_ret (v := .tuple #[.agg #[.int .u64 (upV a c l), .int .u64 (upV b d m)], .bool (upB b d m)]) (by simp [results, Try.results39, go_sem]) rfl ⟨by simp [h1], ?_⟩
    exact ((((Kp.refl _ w).alloc _).alloc _).alloc _).alloc _
  · have h1 : upB a c l = false := by simpa using ‹¬ upB a c l = true›
    refine bodyPost_ret (v := .tuple #[.agg #[.int .u64 (upV a c l), .int .u64 (upV b d m)], .bool false]) (by simp [results, Try.results39, go_sem]) rfl ⟨by simp [h1], ?_⟩
    exact ((((Kp.refl _ w).alloc _).alloc _).alloc _).alloc _

def lessB (a b c d : Int) : Bool := decide (c ≤ a) && decide (d ≤ b)
set_option maxHeartbeats 1000000 in
theorem less_any (a b c d : Int) (w : World) :
   Calls Try.prog 38 #[.agg #[.int .u64 a, .int .u64 b], .agg #[.int .u64 c, .int .u64 d]] w fun e w' =>
     e = .returned (.tuple #[.agg #[.int .u64 (wr (a - c)), .int .u64 (wr (b - d))], .bool (lessB a b c d)]) ∧ Kp NoB w w' := by
  by_cases h1 : c ≤ a
  · have hd1 : decide (c ≤ a) = true := by simpa using h1
    have hx : lessB a b c d = decide (d ≤ b) := by simp [lessB, h1]
    rw [hx]
    clear hx
    unfold wr
    go_enter Try.func38, Try.ntmps38
    go_wp2
    refine wp_region_G (fun W => W.cell? ⟨w.heap.size, 1, none⟩ = some (.int .u64 b) ∧ W.cell? ⟨w.heap.size + 1, 1, none⟩ = some (.int .u64 d)) [(0, .at_), (1, .at_), (2, .at_), (3, .at_), (4, .at_), (5, .at_), (6, .at_), (7, .at_), (8, .at_), (9, .at_), (10, .at_), (11, .at_), (12, .at_), (13, .at_), (14, .at_), (15, .at_), (16, .at_), (17, .held), (18, .held), (19, .held), (20, .held), (21, .held), (22, .held), (23, .eff), (24, .at_)] ?L1 (by kernel_rfl) (by kernel_rfl) ?hL1 (by constructor <;> go_simp) ?hG1
    case hL1 => simp only [pickOps, List.map_cons, List.map_nil, List.getD_cons_zero, List.getD_cons_succ]; rfl
    repeat (first | (refine wpG_at (v := ?_) (by rfl) ?_ ?_; rotate_left; (focus (first | (go_simp; with_reducible rfl) | (go_simp; done))); simp only [Act.put, List.setIfInBounds_toArray, List.set_cons_zero, List.set_cons_succ]) | (refine wpG_at_skip (by rfl) ?_; simp only [Act.put, List.setIfInBounds_toArray, List.set_cons_zero, List.set_cons_succ]) | (refine wpG_held_skip (by rfl) ?_; simp only [Act.put, List.setIfInBounds_toArray, List.set_cons_zero, List.set_cons_succ]) | (refine wpG_held (v := ?_) (by rfl) ?_ ?_; rotate_left; (focus (intro w' hSw; (try dsimp only at hSw); go_split_ands; first | (go_simp; with_reducible rfl) | (go_simp; done))); simp only [Act.put, List.setIfInBounds_toArray, List.set_cons_zero, List.set_cons_succ]))
    refine wpG_eff (by rfl) (fun K hK => ?_)
    go_simp
    refine hK _ _ (by constructor <;> go_simp) ?_
    clear hK
    repeat (first | (refine wpG_at (v := ?_) (by rfl) ?_ ?_; rotate_left; (focus (first | (go_simp; with_reducible rfl) | (go_simp; done))); simp only [Act.put, List.setIfInBounds_toArray, List.set_cons_zero, List.set_cons_succ]) | (refine wpG_at_skip (by rfl) ?_; simp only [Act.put, List.setIfInBounds_toArray, List.set_cons_zero, List.set_cons_succ]) | (refine wpG_held_skip (by rfl) ?_; simp only [Act.put, List.setIfInBounds_toArray, List.set_cons_zero, List.set_cons_succ]) | (refine wpG_held (v := ?_) (by rfl) ?_ ?_; rotate_left; (focus (intro w' hSw; (try dsimp only at hSw); go_split_ands; first | (go_simp; with_reducible rfl) | (go_simp; done))); simp only [Act.put, List.setIfInBounds_toArray, List.set_cons_zero, List.set_cons_succ]))
    refine wpG_nil (NoPanic.normal ?_)
    go_wp2
    refine bodyPost_ret (v := .tuple #[.agg #[.int .u64 (IntKind.u64.wrap (a - c)), .int .u64 (IntKind.u64.wrap (b - d))], .bool (decide (d ≤ b))]) (by simp [results, Try.results38, go_sem]) rfl ⟨rfl, ?_⟩
    exact ((((Kp.refl _ w).alloc _).alloc _).alloc _).drew
  · have hd1 : decide (c ≤ a) = false := by simpa using h1
    have hx : lessB a b c d = false := by simp [lessB, h1]
    rw [hx]
    clear hx
    unfold wr
    go_enter Try.func38, Try.ntmps38
    go_wp2
    refine wp_region_G (fun _ => True) [(0, .at_), (1, .at_), (2, .at_), (3, .at_), (4, .at_), (5, .at_), (6, .at_), (7, .at_), (8, .at_), (9, .at_), (10, .at_), (11, .at_), (12, .at_), (13, .at_), (14, .at_), (15, .at_), (16, .at_), (17, .held), (18, .held), (19, .held), (20, .held), (21, .held), (22, .held), (23, .eff), (24, .at_)] ?L2 (by kernel_rfl) (by kernel_rfl) ?hL2 (trivial) ?hG2
    case hL2 => simp only [pickOps, List.map_cons, List.map_nil, List.getD_cons_zero, List.getD_cons_succ]; rfl
    repeat (first | (refine wpG_at (v := ?_) (by rfl) ?_ ?_; rotate_left; (focus (first | (go_simp; with_reducible rfl) | (go_simp; done))); simp only [Act.put, List.setIfInBounds_toArray, List.set_cons_zero, List.set_cons_succ]) | (refine wpG_at_skip (by rfl) ?_; simp only [Act.put, List.setIfInBounds_toArray, List.set_cons_zero, List.set_cons_succ]) | (refine wpG_held_skip (by rfl) ?_; simp only [Act.put, List.setIfInBounds_toArray, List.set_cons_zero, List.set_cons_succ]) | (refine wpG_held (v := ?_) (by rfl) ?_ ?_; rotate_left; (focus (intro w' hSw; (try dsimp only at hSw); go_split_ands; first | (go_simp; with_reducible rfl) | (go_simp; done))); simp only [Act.put, List.setIfInBounds_toArray, List.set_cons_zero, List.set_cons_succ]))
    refine wpG_eff (by rfl) (fun K hK => ?_)
    go_simp
    refine hK _ _ trivial ?_
    clear hK
    repeat (first | (refine wpG_at (v := ?_) (by rfl) ?_ ?_; rotate_left; (focus (first | (go_simp; with_reducible rfl) | (go_simp; done))); simp only [Act.put, List.setIfInBounds_toArray, List.set_cons_zero, List.set_cons_succ]) | (refine wpG_at_skip (by rfl) ?_; simp only [Act.put, List.setIfInBounds_toArray, List.set_cons_zero, List.set_cons_succ]) | (refine wpG_held_skip (by rfl) ?_; simp only [Act.put, List.setIfInBounds_toArray, List.set_cons_zero, List.set_cons_succ]) | (refine wpG_held (v := ?_) (by rfl) ?_ ?_; rotate_left; (focus (intro w' hSw; (try dsimp only at hSw); go_split_ands; first | (go_simp; with_reducible rfl) | (go_simp; done))); simp only [Act.put, List.setIfInBounds_toArray, List.set_cons_zero, List.set_cons_succ]))
    refine wpG_nil (NoPanic.normal ?_)
    go_wp2
    refine bodyPost_ret (v := .tuple #[.agg #[.int .u64 (IntKind.u64.wrap (a - c)), .int .u64 (IntKind.u64.wrap (b - d))], .bool false]) (by simp [results, Try.results38, go_sem]) rfl ⟨rfl, ?_⟩
    exact ((((Kp.refl _ w).alloc _).alloc _).alloc _).drew
end Go.Proofs.Ytaghkgddnjdjcaa
