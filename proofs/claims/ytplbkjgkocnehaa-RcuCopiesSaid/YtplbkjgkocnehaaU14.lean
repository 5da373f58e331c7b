/- Walks through the document's RCU: who is waited for; is the first one ripe. -/
import Derived.Test.YtplbkjgkocnehaaU13
namespace Go.Proofs.Ytplbkjgkocnehaa
set_option linter.unusedSimpArgs false
set_option linter.unusedVariables false
open Go.RowKit
attribute [local go_sem ↓] Go.wp_at_zero Go.wp_at_succ
def wt (Z : List Nat) (out : List Int) (t : Nat) : Bool := decide (0 ≤ out.getD t 0) && (((Z.getD t 0 : Nat) : Int) == out.getD t 0)
def wK (Z : List Nat) (out : List Int) (k : Nat) : List Nat := (List.range k).filter (wt Z out)
def waitsOf (Z : List Nat) (out : List Int) : List Nat := wK Z out out.length
def ints (l : List Nat) : List Int := l.map (fun t : Nat => (t : Int))
theorem loc4 {w : World} {g : Nat} {v0 v1 v2 v3 : Value} {t : TypeId} (h : w.heap[g]? = some (.cells #[v0, v1, v2, v3] t (0, 0))) :
    w.cell? ⟨g, 0, none⟩ = some v0 ∧ w.cell? ⟨g, 1, none⟩ = some v1 ∧ w.cell? ⟨g, 2, none⟩ = some v2 ∧ w.cell? ⟨g, 3, none⟩ = some v3 ∧ w.frozen? ⟨g, 0, none⟩ = false ∧ w.frozen? ⟨g, 1, none⟩ = false ∧ w.frozen? ⟨g, 2, none⟩ = false ∧ w.frozen? ⟨g, 3, none⟩ = false ∧ g < w.heap.size :=
  ⟨by rw [cell_of h]; rfl, by rw [cell_of h]; rfl, by rw [cell_of h]; rfl, by rw [cell_of h]; rfl, frozen_of h 0, frozen_of h 1, frozen_of h 2, frozen_of h 3, blk_lt h⟩
theorem wK_succ (Z : List Nat) (out : List Int) (k : Nat) : wK Z out (k + 1) = wK Z out k ++ (if wt Z out k then [k] else []) := by
  unfold wK
  rw [List.range_succ, List.filter_append]
  congr 1
  cases h : wt Z out k <;> simp [h]
theorem wK_len (Z : List Nat) (out : List Int) (k : Nat) : (wK Z out k).length ≤ k := by
  unfold wK
  have := List.length_filter_le (wt Z out) (List.range k)
  simpa using this
theorem getD_at {α : Type} {l : List α} {k : Nat} {x y : α} (h : l[k]? = some x) : l.getD k y = x := by rw [List.getD_eq_getElem?_getD, h]; rfl
section
variable {w w' : World} {q : Nat} {dv ov rv : Value} {D Z : List Nat} {H : List QV} {S : List (Ret × List Int)} {K : Nat}
set_option maxRecDepth 100000 in
set_option maxHeartbeats 8000000 in
theorem qwaits_any (h : QAt w q dv ov rv D Z H S) {a b c o : Value} {out : List Int} (ho : RowAt w 3 eI 1 o out) (hl : out.length ≤ Z.length) (h8 : Z.length ≤ 8) :
    Calls Try.prog 52 #[.pointer (some ⟨q, 0, none⟩), .agg #[a, b, c, o]] w fun e w' => ∃ v, e = .returned v ∧ RowAt w' 3 eI 1 v (ints (waitsOf Z out)) ∧ New w v ∧ Kp NoB w w' := by
  have B1 := hid (blk_new w (.cells #[a, b, c, o] 81))
  have h1 := hid (h.alloc (.cells #[a, b, c, o] 81))
  have o1 := hid (ho.alloc (.cells #[a, b, c, o] 81))
  have K1 := hid ((Kp.refl NoB w).alloc (.cells #[a, b, c, o] 81))
  obtain ⟨oo, co, hoo, hco, hcm, _⟩ := ho.form
  subst hoo
  clear h ho
  go_enter Try.func52, Try.ntmps52
  go_wp2_with fail
  generalize (w.alloc (.cells #[a, b, c, .slice oo out.length co] 81)) = W1 at *
  go_loopw [5, 6] (fun v i W => ∃ j : Nat, j ≤ out.length ∧ i = .int .i64 j ∧ RowAt W 3 eI 1 v (ints (wK Z out j)) ∧ New W1 v ∧ Kp NoB W1 W) (fun _ i _ => out.length - (intOf i).toNat)
  case atStart => exact ⟨0, Nat.zero_le _, rfl, RowAt.nil _ _ _ _, New.nil _, Kp.refl _ _⟩
  case round =>
    obtain ⟨j, hj, rfl, hR, hN, hK⟩ := hrel
    have d1 : (0 : Int) ≤ (j : Int) := Int.natCast_nonneg _
    have L1 := loc4 (hK.get B1.out (fun h => h))
    obtain ⟨ov', cv', hv, hcv, _⟩ := hR.form
    have hwl := wK_len Z out j
    have hil : (ints (wK Z out j)).length = (wK Z out j).length := by unfold ints; rw [List.length_map]
    rw [hil] at hv hcv
    subst hv
    by_cases hlt : j < out.length
    · have d2 : (j : Int) < (out.length : Int) := by omega
      have d3 : (j : Int) < (Z.length : Int) := by omega
      obtain ⟨y, hy⟩ : ∃ y, out[j]? = some y := ⟨_, List.getElem?_eq_getElem hlt⟩
      obtain ⟨z, hz⟩ : ∃ z, Z[j]? = some z := ⟨_, List.getElem?_eq_getElem (by omega)⟩
      have hU := h1.out.kn hK
      have Lq := loc3 hU.hq
      obtain ⟨bz, cz, hzv, hcz, hmz, Lz, _, lbz, _⟩ := row_slot hU.ho hz
      obtain ⟨bo, co', A, hov, hbo, hA, _, _⟩ := (o1.out.kp hK (fun _ _ h => h)).pos eI_len (by omega)
      injection hov with e1 _ e3
      subst e1; subst e3
      have Lo : wr.cell? ⟨bo, j, none⟩ = some (.int .i64 y) := by
        rw [cell_of hbo]
        have := hA j 0 _ hy (by omega)
        rw [Nat.mul_one, Nat.add_zero] at this
        exact this
      have lbo := blk_lt hbo
      have hsu := wK_succ Z out j
      have hwt : wt Z out j = (decide (0 ≤ y) && ((z : Int) == y)) := by unfold wt; rw [getD_at hy, getD_at hz]
      rw [hwt] at hsu
      subst hzv
      replace hR := hid hR
      replace hN := hid hN
      replace hK := hid hK
      clear hU hbo hA hy hz hwt hil
      by_cases c1 : 0 ≤ y
      · by_cases c2 : (z : Int) = y
        · have c3 : ((z : Int) == y) = true := by simpa using c2
          rw [decide_eq_true c1, c3, Bool.and_true, if_pos rfl] at hsu
          have hsu' := hid (congrArg ints hsu)
          clear hsu c2
          replace hwl := hid hwl
          go_wp2_with fail
          refine wp_region_G (fun _ => True) [(0, .at_), (1, .at_), (2, .at_), (3, .at_), (4, .at_), (5, .at_), (6, .at_), (7, .at_), (8, .at_), (9, .at_), (10, .at_), (11, .at_), (12, .at_), (13, .at_), (14, .at_), (15, .at_), (16, .at_), (17, .at_), (18, .at_), (19, .at_), (20, .at_)] ?L1 (by kernel_rfl) (by kernel_rfl) ?hL1 (trivial) ?hG1
          case hL1 => simp only [pickOps, List.map_cons, List.map_nil, List.getD_cons_zero, List.getD_cons_succ]; rfl
          repeat (first | (refine wpG_at (v := ?_) (by rfl) ?_ ?_; rotate_left; (focus (first | (go_simp; with_reducible rfl) | (go_simp; done))); simp only [Act.put, List.setIfInBounds_toArray, List.set_cons_zero, List.set_cons_succ]) | (refine wpG_at_skip (by rfl) ?_; simp only [Act.put, List.setIfInBounds_toArray, List.set_cons_zero, List.set_cons_succ]) | (refine wpG_held_skip (by rfl) ?_; simp only [Act.put, List.setIfInBounds_toArray, List.set_cons_zero, List.set_cons_succ]) | (refine wpG_held (v := ?_) (by rfl) ?_ ?_; rotate_left; (focus (intro w' hSw; (try dsimp only at hSw); go_split_ands; first | (go_simp; with_reducible rfl) | (go_simp; done))); simp only [Act.put, List.setIfInBounds_toArray, List.set_cons_zero, List.set_cons_succ]))
          refine wpG_nil (NoPanic.normal ?_)
          have hR2 := hR.out.drew
          go_wp2_with (at_builtin; refine wpList_plain rfl fun K hK => ?_; refine wp_grow eI_len (by omega) _ _ 43 3 _ 8 rfl u43 i3 rfl (.slice ov' (wK Z out j).length cv') (ints (wK Z out j)) rfl (hR2.alloc _) wr.heap.size 1 [(j : Int)] rfl #[.int .i64 j] 3 (blk_new' _ _ rfl) (by intro a x k ha hx; match a, x, ha with | 0, 0, ha => simp at ha; subst ha; rfl) (by simp [eI, Value.oneCell']) (by have := hwl.out; unfold ints; rw [List.length_map]; simp; omega) (by omega) ?_; intro v' w' q1 q2 q3; obtain ⟨o5, c5, hv5, _⟩ := q1.form; subst hv5; refine hK _ _ ?_; clear hK K)
          have hln : (ints (wK Z out j) ++ [(j : Int)]).length = (ints (wK Z out j)).length + 1 := by simp
          have hii : ints (wK Z out j ++ [j]) = ints (wK Z out j) ++ [(j : Int)] := by simp [ints]
          refine ⟨⟨j + 1, by omega, by go_num, by rw [hsu'.out, hii, ← hln]; exact q1, ?_, (hK.out.drew.alloc _).trans' (kp_grown q2 (F := fun b => (Value.slice ov' (wK Z out j).length cv').ownBlock = some b) (fun b hb => hb)) (fun b hb e => ?_)⟩, by simp [intOf]; omega⟩
          · intro b' hb'
            rw [← hln] at hb'
            rcases q3 with e | ⟨b2, e, h2⟩
            · exact hN.out b' (e ▸ hb')
            · rw [hb'] at e; injection e with e; subst e
              have := hK.out.size
              have h6 : wr.heap.size + 1 ≤ b' := by simpa using h2
              omega
          · have := hN.out b e; omega
        · have c3 : ((z : Int) == y) = false := by simpa using c2
          rw [c3, Bool.and_false, if_neg (by simp), List.append_nil] at hsu
          replace hsu := hid hsu
          clear c2
          go_wp2_with fail
          refine wp_region_G (fun _ => True) [(0, .at_), (1, .at_), (2, .at_), (3, .at_), (4, .at_), (5, .at_), (6, .at_), (7, .at_), (8, .at_), (9, .at_), (10, .at_), (11, .at_), (12, .at_), (13, .at_), (14, .at_), (15, .at_), (16, .at_), (17, .at_), (18, .at_), (19, .at_), (20, .at_)] ?L2 (by kernel_rfl) (by kernel_rfl) ?hL2 (trivial) ?hG2
          case hL2 => simp only [pickOps, List.map_cons, List.map_nil, List.getD_cons_zero, List.getD_cons_succ]; rfl
          repeat (first | (refine wpG_at (v := ?_) (by rfl) ?_ ?_; rotate_left; (focus (first | (go_simp; with_reducible rfl) | (go_simp; done))); simp only [Act.put, List.setIfInBounds_toArray, List.set_cons_zero, List.set_cons_succ]) | (refine wpG_at_skip (by rfl) ?_; simp only [Act.put, List.setIfInBounds_toArray, List.set_cons_zero, List.set_cons_succ]) | (refine wpG_held_skip (by rfl) ?_; simp only [Act.put, List.setIfInBounds_toArray, List.set_cons_zero, List.set_cons_succ]) | (refine wpG_held (v := ?_) (by rfl) ?_ ?_; rotate_left; (focus (intro w' hSw; (try dsimp only at hSw); go_split_ands; first | (go_simp; with_reducible rfl) | (go_simp; done))); simp only [Act.put, List.setIfInBounds_toArray, List.set_cons_zero, List.set_cons_succ]))
          refine wpG_nil (NoPanic.normal ?_)
          go_wp2_with fail
          go_roundw
          case rel => exact ⟨j + 1, by omega, by go_num, by rw [hsu.out]; exact hR.out.drew, hN.out, hK.out.drew⟩
          case measure => simp [intOf]; omega
      · have c4 : decide (0 ≤ y) = false := decide_eq_false c1
        rw [c4, Bool.false_and, if_neg (by simp), List.append_nil] at hsu
        replace hsu := hid hsu
        go_wp2_with fail
        refine wp_region_G (fun _ => True) [(0, .at_), (1, .at_), (2, .at_), (3, .at_), (4, .at_), (5, .at_), (6, .at_), (7, .at_), (8, .at_), (9, .at_), (10, .at_), (11, .at_), (12, .at_), (13, .at_), (14, .at_), (15, .at_), (16, .at_), (17, .at_), (18, .at_), (19, .at_), (20, .at_)] ?L3 (by kernel_rfl) (by kernel_rfl) ?hL3 (trivial) ?hG3
        case hL3 => simp only [pickOps, List.map_cons, List.map_nil, List.getD_cons_zero, List.getD_cons_succ]; rfl
        repeat (first | (refine wpG_at (v := ?_) (by rfl) ?_ ?_; rotate_left; (focus (first | (go_simp; with_reducible rfl) | (go_simp; done))); simp only [Act.put, List.setIfInBounds_toArray, List.set_cons_zero, List.set_cons_succ]) | (refine wpG_at_skip (by rfl) ?_; simp only [Act.put, List.setIfInBounds_toArray, List.set_cons_zero, List.set_cons_succ]) | (refine wpG_held_skip (by rfl) ?_; simp only [Act.put, List.setIfInBounds_toArray, List.set_cons_zero, List.set_cons_succ]) | (refine wpG_held (v := ?_) (by rfl) ?_ ?_; rotate_left; (focus (intro w' hSw; (try dsimp only at hSw); go_split_ands; first | (go_simp; with_reducible rfl) | (go_simp; done))); simp only [Act.put, List.setIfInBounds_toArray, List.set_cons_zero, List.set_cons_succ]))
        refine wpG_nil (NoPanic.normal ?_)
        go_wp2_with fail
        go_roundw
        case rel => exact ⟨j + 1, by omega, by go_num, by rw [hsu.out]; exact hR.out.drew, hN.out, hK.out.drew⟩
        case measure => simp [intOf]; omega
    · obtain rfl : j = out.length := by omega
      replace hR := hid hR
      replace hN := hid hN
      replace hK := hid hK
      go_wp2_with fail
      go_ret
      exact ⟨_, rfl, hR.out, hN.out.mono K1.out.size, K1.out.trans hK.out⟩
def qwaitsL (Z : List Nat) (S : List (Ret × List Int)) : List Int := match S with | [] => [] | r :: _ => ints (waitsOf Z r.2)
def qripe (Z : List Nat) (S : List (Ret × List Int)) : Bool := match S with | [] => false | r :: _ => ((ints (waitsOf Z r.2)).length : Int) == 0
theorem qhead (h : QAt w q dv ov rv D Z H S) {r : Ret × List Int} {S' : List (Ret × List Int)} (hS : S = r :: S') : ∃ h' H' b c, H = h' :: H' ∧ rv = .slice (some ⟨b, 0, none⟩) S.length c ∧ S.length ≤ c ∧ c ≤ maxLen ∧ b < w.heap.size ∧ QOk w h' r.1 r.2 ∧
    w.cell? ⟨b, 0, none⟩ = some h'.a ∧ w.cell? ⟨b, 1, none⟩ = some h'.b ∧ w.cell? ⟨b, 2, none⟩ = some h'.c ∧ w.cell? ⟨b, 3, none⟩ = some h'.o := by
  have hl := h.hl
  rcases H with _ | ⟨h', H'⟩
  · rw [hS] at hl; cases hl
  · obtain ⟨b, c, A, hv, hb, hA, hc, hm, _⟩ := h.hr.pos eQ_len (by simp)
    have ho := h.hh 0 h' r.1 r.2 rfl (by rw [hS]; rfl)
    have g : ∀ j u, (eQ h')[j]? = some u → j < 4 → w.cell? ⟨b, j, none⟩ = some u := fun j u hj hj4 => by
      rw [cell_of hb]
      have := hA 0 j h' rfl hj4
      rw [Nat.zero_mul, Nat.zero_add] at this
      rw [this]; exact hj
    exact ⟨h', H', b, c, rfl, by rw [hv, hl], by rw [← hl]; exact hc, hm, blk_lt hb, ho, g 0 _ rfl (by omega), g 1 _ rfl (by omega), g 2 _ rfl (by omega), g 3 _ rfl (by omega)⟩
/-- the sizes of the document's -/
structure QOkS (D Z : List Nat) (S : List (Ret × List Int)) (K : Nat) : Prop where
  n1 : 1 ≤ D.length
  n8 : D.length ≤ 8
  zl : Z.length = D.length
  d : ∀ d ∈ D, d ≤ K
  z : ∀ z ∈ Z, z ≤ K
  r : S.length ≤ K
  k : K ≤ 1000
  o : ∀ x out, (x, out) ∈ S → out.length = D.length
  x : ∀ x out, (x, out) ∈ S → x.few
set_option maxRecDepth 100000 in
set_option maxHeartbeats 4000000 in
theorem qWaits_any (h : QAt w q dv ov rv D Z H S) (o : QOkS D Z S K) : Calls Try.prog 43 #[.pointer (some ⟨q, 0, none⟩)] w fun e w' => ∃ v, e = .returned v ∧ RowAt w' 3 eI 1 v (qwaitsL Z S) ∧ New w v ∧ Kp NoB w w' := by
  have Lq := loc3 h.hq
  rcases S with _ | ⟨r, S'⟩
  · obtain ⟨ob, c, hv, hc, _⟩ := h.hr.form
    have hl := h.hl
    rw [hl] at hv
    subst hv
    clear h o
    go_enter Try.func43, Try.ntmps43
    go_wp2_with fail
    go_ret
    exact ⟨_, rfl, RowAt.nil _ _ _ _, New.nil _, Kp.refl _ _⟩
  · obtain ⟨h', H', b, c, rfl, rfl, hc, hm, hb, ho, e0, e1, e2, e3⟩ := qhead h rfl
    have hol := o.o r.1 r.2 List.mem_cons_self
    have HW := hid (qwaits_any h (a := h'.a) (b := h'.b) (c := h'.c) ho.o (by rw [o.zl]; omega) (by rw [o.zl]; exact o.n8))
    have c1 : (0 : Int) < (((r :: S').length : Nat) : Int) := by simp only [List.length_cons]; omega
    have c2 : ((((r :: S').length : Nat) : Int) == 0) = false := by simp only [List.length_cons, beq_eq_false_iff_ne]; omega
    unfold qwaitsL
    dsimp only
    clear h o ho
    generalize hrl : (r :: S').length = n at *
    go_enter Try.func43, Try.ntmps43
    go_wp2_with fail
    refine HW.out.mono ?_
    rintro e w1 ⟨x, rfl, hx, hn, k1⟩
    obtain ⟨ox, cx, hxv, _⟩ := hx.form
    subst hxv
    replace hx := hid hx
    replace hn := hid hn
    go_wp2_with fail
    go_ret
    exact ⟨_, rfl, hx.out, hn.out, k1⟩
set_option maxRecDepth 100000 in
theorem qripe_any (h : QAt w q dv ov rv D Z H S) (o : QOkS D Z S K) : Calls Try.prog 42 #[.pointer (some ⟨q, 0, none⟩)] w fun e w' => e = .returned (.bool (qripe Z S)) ∧ Kp NoB w w' := by
  have HW := hid (qWaits_any h o)
  have Lq := loc3 h.hq
  obtain ⟨ob, c, hv, hc, _⟩ := h.hr.form
  have hl := h.hl
  rw [hl] at hv hc
  subst hv
  rcases S with _ | ⟨r, S'⟩
  · clear h o
    go_enter Try.func42, Try.ntmps42
    go_wp2_with fail
    go_ret
    exact ⟨rfl, Kp.refl _ _⟩
  · have c1 : (0 : Int) < (((r :: S').length : Nat) : Int) := by simp only [List.length_cons]; omega
    unfold qripe
    unfold qwaitsL at HW
    dsimp only at HW ⊢
    clear h o
    generalize hrl : (r :: S').length = n at *
    generalize hrw : ints (waitsOf Z r.2) = W at *
    go_enter Try.func42, Try.ntmps42
    go_wp2_with fail
    refine HW.out.mono ?_
    rintro e w1 ⟨x, rfl, hx, hn, k1⟩
    obtain ⟨ox, cx, hxv, _⟩ := hx.form
    subst hxv
    replace hx := hid hx
    replace hn := hid hn
    go_wp2_with fail
    go_ret
    exact ⟨rfl, k1⟩
end
end Go.Proofs.Ytplbkjgkocnehaa
