/- Walks through an arena: what is done with the slot of a handle, whatever it is. -/
import Derived.Test.YtaanbonbdhjbpaaGA1
namespace Go.Proofs.Ytaanbonbdhjbpaa
set_option linter.unusedSimpArgs false
set_option linter.unusedVariables false
open Go.RowKit
attribute [local go_sem ↓] Go.wp_at_zero Go.wp_at_succ
section
variable {w w' : World} {p l : Nat} {v : Value} {S : List Sl3} {B : List Nat} {E : Nat}
/-- is a handle one of a slot in use? -/
def HOk (S : List Sl3) (i g : Int) : Prop := ∃ (k : Nat) (x : X), i = k ∧ S[k]? = some (x, g, true)

set_option maxRecDepth 100000 in
set_option maxHeartbeats 2000000 in
theorem with_do {FN : Nat} {caps : Array Value} {Post : World → Prop} (h : AAt w p l v S B E) (o : AOk S B E) {k : Nat} {x : X} {g : Int} (hk : S[k]? = some (x, g, true))
    (hcf : ∀ args w, (callFunc FN args).run Try.prog w = .ok (.enter FN args) w) (hc : ∀ W, Kp NoB w W → Calls Try.prog FN (#[.pointer (some ⟨l, k * 21, none⟩)] ++ caps) W fun e w' => e = .returned (.tuple #[]) ∧ Post w') :
    Calls Try.prog 36 #[.pointer (some ⟨p, 0, none⟩), .agg #[.int .i64 k, .int .u64 g], .func (.func FN) #[] caps] w fun e w' => e = .returned (.int .i64 0) ∧ Post w' := by
  have HS := hid (fun (w1 : World) (h1 : AAt w1 p l v S B E) => size_any h1)
  have H0 := hid (h.alloc (.cells #[.int .i64 k, .int .u64 g] 33))
  have Lp := h.cs
  have Le := h.es hk
  have n2 := o.n2
  have n1 : ((S.length : Int) == 0) = false := by have := o.n1; simp; intro h; rw [h] at this; simp at this
  have hkl := (List.getElem?_eq_some_iff.1 hk).1
  have up := ups Lp.2.2.2.2.2.2
  have ul := ups Le.2.2.2.2
  replace hc := hid hc
  have b1 : (0 : Int) ≤ (k : Int) := Int.natCast_nonneg _
  have b2 : (k : Int) < (S.length : Int) := by omega
  have b3 : ¬ S.length ≤ k := by omega
  have b4 : ¬ (k : Int) < 0 := by omega
  clear h hk
  go_enter Try.func36, Try.ntmps36
  go_wp2_with fail
  refine (HS.out _ H0.out).mono ?_
  rintro e w1 ⟨rfl, rfl⟩
  go_wp2_with fail
  refine wp_region_G (fun _ => True) [(0, .at_), (1, .at_), (2, .at_), (3, .at_), (4, .at_), (5, .at_), (6, .at_), (7, .at_), (8, .at_), (9, .at_), (10, .at_), (11, .at_), (12, .at_), (13, .at_), (14, .at_), (15, .at_), (16, .at_), (17, .at_), (18, .at_), (19, .at_), (20, .at_), (21, .at_), (22, .at_), (23, .at_), (24, .at_), (25, .at_), (26, .at_), (27, .at_), (28, .at_), (29, .at_), (30, .at_), (31, .at_), (32, .at_), (33, .at_), (34, .at_), (35, .at_), (36, .at_), (37, .at_), (38, .at_), (39, .at_)] ?L1 (by kernel_rfl) (by kernel_rfl) ?hL1 (trivial) ?hG1
  case hL1 => simp only [pickOps, List.map_cons, List.map_nil, List.getD_cons_zero, List.getD_cons_succ]; rfl
  repeat (first | (refine wpG_at (v := ?_) (by rfl) ?_ ?_; rotate_left; (focus (first | (go_simp; with_reducible rfl) | (go_simp; done))); simp only [Act.put, List.setIfInBounds_toArray, List.set_cons_zero, List.set_cons_succ]) | (refine wpG_at_skip (by rfl) ?_; simp only [Act.put, List.setIfInBounds_toArray, List.set_cons_zero, List.set_cons_succ]) | (refine wpG_held_skip (by rfl) ?_; simp only [Act.put, List.setIfInBounds_toArray, List.set_cons_zero, List.set_cons_succ]) | (refine wpG_held (v := ?_) (by rfl) ?_ ?_; rotate_left; (focus (intro w' hSw; (try dsimp only at hSw); go_split_ands; first | (go_simp; with_reducible rfl) | (go_simp; done))); simp only [Act.put, List.setIfInBounds_toArray, List.set_cons_zero, List.set_cons_succ]))
  refine wpG_nil (NoPanic.normal ?_)
  go_wp2_with fail
  refine wp_region_G (fun _ => True) [(0, .at_), (1, .at_), (2, .at_), (3, .at_), (4, .at_), (5, .at_), (6, .at_), (7, .at_), (8, .eff)] ?L2 (by kernel_rfl) (by kernel_rfl) ?hL2 (trivial) ?hG2
  case hL2 => simp only [pickOps, List.map_cons, List.map_nil, List.getD_cons_zero, List.getD_cons_succ]; rfl
  repeat (first | (refine wpG_at (v := ?_) (by rfl) ?_ ?_; rotate_left; (focus (first | (go_simp; with_reducible rfl) | (go_simp; done))); simp only [Act.put, List.setIfInBounds_toArray, List.set_cons_zero, List.set_cons_succ]) | (refine wpG_at_skip (by rfl) ?_; simp only [Act.put, List.setIfInBounds_toArray, List.set_cons_zero, List.set_cons_succ]) | (refine wpG_held_skip (by rfl) ?_; simp only [Act.put, List.setIfInBounds_toArray, List.set_cons_zero, List.set_cons_succ]) | (refine wpG_held (v := ?_) (by rfl) ?_ ?_; rotate_left; (focus (intro w' hSw; (try dsimp only at hSw); go_split_ands; first | (go_simp; with_reducible rfl) | (go_simp; done))); simp only [Act.put, List.setIfInBounds_toArray, List.set_cons_zero, List.set_cons_succ]))
  refine wpG_eff (by rfl) (fun K hK => ?_)
  go_simp
  refine (hc.out _ (((Kp.refl _ w).alloc _).drew.drew)).mono ?_
  rintro e w1 ⟨rfl, hpost⟩
  refine hK _ _ trivial ?_
  clear hK K
  repeat (first | (refine wpG_at (v := ?_) (by rfl) ?_ ?_; rotate_left; (focus (first | (go_simp; with_reducible rfl) | (go_simp; done))); simp only [Act.put, List.setIfInBounds_toArray, List.set_cons_zero, List.set_cons_succ]) | (refine wpG_at_skip (by rfl) ?_; simp only [Act.put, List.setIfInBounds_toArray, List.set_cons_zero, List.set_cons_succ]) | (refine wpG_held_skip (by rfl) ?_; simp only [Act.put, List.setIfInBounds_toArray, List.set_cons_zero, List.set_cons_succ]) | (refine wpG_held (v := ?_) (by rfl) ?_ ?_; rotate_left; (focus (intro w' hSw; (try dsimp only at hSw); go_split_ands; first | (go_simp; with_reducible rfl) | (go_simp; done))); simp only [Act.put, List.setIfInBounds_toArray, List.set_cons_zero, List.set_cons_succ]))
  refine wpG_nil (NoPanic.normal ?_)
  go_wp2_with fail
  go_ret
  exact ⟨rfl, hpost⟩
set_option maxRecDepth 100000 in
set_option maxHeartbeats 4000000 in
theorem with_no {dv : Value} (h : AAt w p l v S B E) (o : AOk S B E) {i g : Int} (hn : ¬ HOk S i g) :
    Calls Try.prog 36 #[.pointer (some ⟨p, 0, none⟩), .agg #[.int .i64 i, .int .u64 g], dv] w fun e w' => e = .returned (.int .i64 5) ∧ Kp NoB w w' := by
  have HS := hid (fun (w1 : World) (h1 : AAt w1 p l v S B E) => size_any h1)
  have H0 := hid (h.alloc (.cells #[.int .i64 i, .int .u64 g] 33))
  have Lp := h.cs
  have n2 := o.n2
  have n1 : ((S.length : Int) == 0) = false := by have := o.n1; simp; intro h; rw [h] at this; simp at this
  have up := ups Lp.2.2.2.2.2.2
  by_cases h0 : i < 0
  · clear h hn
    go_enter Try.func36, Try.ntmps36
    go_wp2_with fail
    refine (HS.out _ H0.out).mono ?_
    rintro e w1 ⟨rfl, rfl⟩
    go_wp2_with fail
    refine wp_region_G (fun _ => True) [(0, .at_), (1, .at_), (2, .at_), (3, .at_), (4, .at_), (5, .at_), (6, .at_), (7, .at_), (8, .at_), (9, .at_), (10, .at_), (11, .at_), (12, .at_), (13, .at_), (14, .at_), (15, .at_), (16, .at_), (17, .at_), (18, .at_), (19, .at_), (20, .at_), (21, .at_), (22, .at_), (23, .at_), (24, .at_), (25, .at_), (26, .at_), (27, .at_), (28, .at_), (29, .at_), (30, .at_), (31, .at_), (32, .at_), (33, .at_), (34, .at_), (35, .at_), (36, .at_), (37, .at_), (38, .at_), (39, .at_)] ?L3 (by kernel_rfl) (by kernel_rfl) ?hL3 (trivial) ?hG3
    case hL3 => simp only [pickOps, List.map_cons, List.map_nil, List.getD_cons_zero, List.getD_cons_succ]; rfl
    repeat (first | (refine wpG_at (v := ?_) (by rfl) ?_ ?_; rotate_left; (focus (first | (go_simp; with_reducible rfl) | (go_simp; done))); simp only [Act.put, List.setIfInBounds_toArray, List.set_cons_zero, List.set_cons_succ]) | (refine wpG_at_skip (by rfl) ?_; simp only [Act.put, List.setIfInBounds_toArray, List.set_cons_zero, List.set_cons_succ]) | (refine wpG_held_skip (by rfl) ?_; simp only [Act.put, List.setIfInBounds_toArray, List.set_cons_zero, List.set_cons_succ]) | (refine wpG_held (v := ?_) (by rfl) ?_ ?_; rotate_left; (focus (intro w' hSw; (try dsimp only at hSw); go_split_ands; first | (go_simp; with_reducible rfl) | (go_simp; done))); simp only [Act.put, List.setIfInBounds_toArray, List.set_cons_zero, List.set_cons_succ]))
    refine wpG_nil (NoPanic.normal ?_)
    go_wp2_with fail
    go_ret
    exact ⟨rfl, ((Kp.refl _ w).alloc _).drew⟩
  · obtain ⟨k, rfl⟩ : ∃ k : Nat, i = k := ⟨i.toNat, by omega⟩
    by_cases h1 : S.length ≤ k
    · have h2 : (S.length : Int) ≤ k := by omega
      clear h hn
      go_enter Try.func36, Try.ntmps36
      go_wp2_with fail
      refine (HS.out _ H0.out).mono ?_
      rintro e w1 ⟨rfl, rfl⟩
      go_wp2_with fail
      refine wp_region_G (fun _ => True) [(0, .at_), (1, .at_), (2, .at_), (3, .at_), (4, .at_), (5, .at_), (6, .at_), (7, .at_), (8, .at_), (9, .at_), (10, .at_), (11, .at_), (12, .at_), (13, .at_), (14, .at_), (15, .at_), (16, .at_), (17, .at_), (18, .at_), (19, .at_), (20, .at_), (21, .at_), (22, .at_), (23, .at_), (24, .at_), (25, .at_), (26, .at_), (27, .at_), (28, .at_), (29, .at_), (30, .at_), (31, .at_), (32, .at_), (33, .at_), (34, .at_), (35, .at_), (36, .at_), (37, .at_), (38, .at_), (39, .at_)] ?L4 (by kernel_rfl) (by kernel_rfl) ?hL4 (trivial) ?hG4
      case hL4 => simp only [pickOps, List.map_cons, List.map_nil, List.getD_cons_zero, List.getD_cons_succ]; rfl
      repeat (first | (refine wpG_at (v := ?_) (by rfl) ?_ ?_; rotate_left; (focus (first | (go_simp; with_reducible rfl) | (go_simp; done))); simp only [Act.put, List.setIfInBounds_toArray, List.set_cons_zero, List.set_cons_succ]) | (refine wpG_at_skip (by rfl) ?_; simp only [Act.put, List.setIfInBounds_toArray, List.set_cons_zero, List.set_cons_succ]) | (refine wpG_held_skip (by rfl) ?_; simp only [Act.put, List.setIfInBounds_toArray, List.set_cons_zero, List.set_cons_succ]) | (refine wpG_held (v := ?_) (by rfl) ?_ ?_; rotate_left; (focus (intro w' hSw; (try dsimp only at hSw); go_split_ands; first | (go_simp; with_reducible rfl) | (go_simp; done))); simp only [Act.put, List.setIfInBounds_toArray, List.set_cons_zero, List.set_cons_succ]))
      refine wpG_nil (NoPanic.normal ?_)
      go_wp2_with fail
      go_ret
      exact ⟨rfl, ((Kp.refl _ w).alloc _).drew⟩
    · obtain ⟨⟨x, g', b⟩, hk⟩ : ∃ s, S[k]? = some s := ⟨_, List.getElem?_eq_getElem (by omega)⟩
      have Le := h.es hk
      have ul := ups Le.2.2.2.2
      have b2 : (k : Int) < (S.length : Int) := by omega
      cases b
      · clear h hn hk
        go_enter Try.func36, Try.ntmps36
        go_wp2_with fail
        refine (HS.out _ H0.out).mono ?_
        rintro e w1 ⟨rfl, rfl⟩
        go_wp2_with fail
        refine wp_region_G (fun _ => True) [(0, .at_), (1, .at_), (2, .at_), (3, .at_), (4, .at_), (5, .at_), (6, .at_), (7, .at_), (8, .at_), (9, .at_), (10, .at_), (11, .at_), (12, .at_), (13, .at_), (14, .at_), (15, .at_), (16, .at_), (17, .at_), (18, .at_), (19, .at_), (20, .at_), (21, .at_), (22, .at_), (23, .at_), (24, .at_), (25, .at_), (26, .at_), (27, .at_), (28, .at_), (29, .at_), (30, .at_), (31, .at_), (32, .at_), (33, .at_), (34, .at_), (35, .at_), (36, .at_), (37, .at_), (38, .at_), (39, .at_)] ?L5 (by kernel_rfl) (by kernel_rfl) ?hL5 (trivial) ?hG5
        case hL5 => simp only [pickOps, List.map_cons, List.map_nil, List.getD_cons_zero, List.getD_cons_succ]; rfl
        repeat (first | (refine wpG_at (v := ?_) (by rfl) ?_ ?_; rotate_left; (focus (first | (go_simp; with_reducible rfl) | (go_simp; done))); simp only [Act.put, List.setIfInBounds_toArray, List.set_cons_zero, List.set_cons_succ]) | (refine wpG_at_skip (by rfl) ?_; simp only [Act.put, List.setIfInBounds_toArray, List.set_cons_zero, List.set_cons_succ]) | (refine wpG_held_skip (by rfl) ?_; simp only [Act.put, List.setIfInBounds_toArray, List.set_cons_zero, List.set_cons_succ]) | (refine wpG_held (v := ?_) (by rfl) ?_ ?_; rotate_left; (focus (intro w' hSw; (try dsimp only at hSw); go_split_ands; first | (go_simp; with_reducible rfl) | (go_simp; done))); simp only [Act.put, List.setIfInBounds_toArray, List.set_cons_zero, List.set_cons_succ]))
        refine wpG_nil (NoPanic.normal ?_)
        go_wp2_with fail
        go_ret
        exact ⟨rfl, ((Kp.refl _ w).alloc _).drew⟩
      · have hg : (g' != g) = true := by
          simp
          rintro rfl
          exact hn ⟨k, x, rfl, hk⟩
        clear h hn hk
        go_enter Try.func36, Try.ntmps36
        go_wp2_with fail
        refine (HS.out _ H0.out).mono ?_
        rintro e w1 ⟨rfl, rfl⟩
        go_wp2_with fail
        refine wp_region_G (fun _ => True) [(0, .at_), (1, .at_), (2, .at_), (3, .at_), (4, .at_), (5, .at_), (6, .at_), (7, .at_), (8, .at_), (9, .at_), (10, .at_), (11, .at_), (12, .at_), (13, .at_), (14, .at_), (15, .at_), (16, .at_), (17, .at_), (18, .at_), (19, .at_), (20, .at_), (21, .at_), (22, .at_), (23, .at_), (24, .at_), (25, .at_), (26, .at_), (27, .at_), (28, .at_), (29, .at_), (30, .at_), (31, .at_), (32, .at_), (33, .at_), (34, .at_), (35, .at_), (36, .at_), (37, .at_), (38, .at_), (39, .at_)] ?L6 (by kernel_rfl) (by kernel_rfl) ?hL6 (trivial) ?hG6
        case hL6 => simp only [pickOps, List.map_cons, List.map_nil, List.getD_cons_zero, List.getD_cons_succ]; rfl
        repeat (first | (refine wpG_at (v := ?_) (by rfl) ?_ ?_; rotate_left; (focus (first | (go_simp; with_reducible rfl) | (go_simp; done))); simp only [Act.put, List.setIfInBounds_toArray, List.set_cons_zero, List.set_cons_succ]) | (refine wpG_at_skip (by rfl) ?_; simp only [Act.put, List.setIfInBounds_toArray, List.set_cons_zero, List.set_cons_succ]) | (refine wpG_held_skip (by rfl) ?_; simp only [Act.put, List.setIfInBounds_toArray, List.set_cons_zero, List.set_cons_succ]) | (refine wpG_held (v := ?_) (by rfl) ?_ ?_; rotate_left; (focus (intro w' hSw; (try dsimp only at hSw); go_split_ands; first | (go_simp; with_reducible rfl) | (go_simp; done))); simp only [Act.put, List.setIfInBounds_toArray, List.set_cons_zero, List.set_cons_succ]))
        refine wpG_nil (NoPanic.normal ?_)
        go_wp2_with fail
        go_ret
        exact ⟨rfl, ((Kp.refl _ w).alloc _).drew⟩
end
end Go.Proofs.Ytaanbonbdhjbpaa
