/- Walks through the document's arena: New, Alloc. -/
import Derived.Test.YtldkogdkadgnkaaR1
namespace Go.Proofs.Ytldkogdkadgnkaa
set_option linter.unusedSimpArgs false
set_option linter.unusedVariables false
open Go.RowKit
attribute [local go_sem ↓] Go.wp_at_zero Go.wp_at_succ
section
variable {w w' : World} {r lb c : Nat} {vb : Value} {S : List (Int × Int × Bool)} {B : List Nat} {E : Nat}
theorem u57 : Try.prog.underlying 57 = some (.slice 56) := by kernel_rfl
theorem i56 : (Try.prog.info? 56).map (fun i => (i.zero, i.size, i.bytes)) = some (some (.agg #[.int .i64 0, .int .u64 0, .bool false]), 3, 24) := by kernel_rfl
set_option maxRecDepth 100000 in
set_option maxHeartbeats 2000000 in
theorem rnew_any (n : Nat) (n1 : 1 ≤ n) (n2 : n ≤ 4096) (w : World) : Calls Try.prog 20 #[.int .i64 n] w fun e w' => ∃ r lb c, e = .returned (.pointer (some ⟨r, 0, none⟩)) ∧
    WAt w' r lb c (.slice none 0 0) (List.replicate n (0, 1, false)) [] ∧ w.heap.size ≤ r ∧ w.heap.size ≤ lb ∧ Kp NoB w w' := by
  go_enter Try.func20, Try.ntmps20
  go_wp2_with fail
  go_loopw [4] (fun i W => ∃ (j : Nat) (vl : Value), j ≤ n ∧ i = .int .i64 j ∧ W.heap[w.heap.size]? = some (.cells #[vl, .slice none 0 0] 59 (0, 0)) ∧ RowAt W 56 eS 3 vl (List.replicate j (0, 1, false)) ∧ New w vl ∧ Kp NoB w W) (fun i _ => n - (intOf i).toNat)
  case atStart => exact ⟨0, _, Nat.zero_le _, rfl, blk_new w _, RowAt.nil _ _ _ _, New.nil _, (Kp.refl _ w).alloc _⟩
  case round =>
    obtain ⟨j, vl, hj, rfl, hp, hR, hN, hK⟩ := hrel
    by_cases hlt : j < n
    · have b1 : (0 : Int) ≤ (j : Int) := Int.natCast_nonneg _
      have b2 : (j : Int) < (n : Int) := by omega
      have Lp := loc2 hp
      have up := ups Lp.2.2.2.2
      have hne := hR.ne hp (by decide)
      replace hp := hid hp
      go_wp2_with (at_builtin; refine wpList_plain rfl fun K hK => ?_; refine wp_grow eS_len (by omega) _ _ 57 56 _ 24 rfl u57 i56 rfl vl (List.replicate j (0, 1, false)) rfl (hR.alloc _) wr.heap.size 1 [(0, 1, false)] rfl #[.int .i64 0, .int .u64 1, .bool false] 56 (blk_new' _ _ (by simp)) (by intro a b x ha hb; match a, ha with | 0, ha => simp at ha; subst ha; match b, hb with | 0, _ => rfl | 1, _ => rfl | 2, _ => rfl) (by simp [eS, Value.oneCell']) (by simp; omega) (by omega) ?_; intro v4 w4 q1 q2 q3; rw [← List.replicate_succ'] at q1; obtain ⟨ov, cv, hv', _⟩ := q1.form; subst hv'; rw [List.length_replicate] at q1 q3; have hp4 := grown_get q2 (blk_alloc (o' := .cells #[.int .i64 0, .int .u64 1, .bool false] 56) hp.out) hne; have Lp4 := loc2 hp4; clear Lp; refine hK _ _ ?_; clear hK K)
      have hp5 := blk_setCell hp4 0 (.slice ov (j + 1) cv)
      have hne5 := q1.ne hp4 (by decide)
      have K4 := kp_new (hK.alloc (.cells #[.int .i64 0, .int .u64 1, .bool false] 56)) (kp_grown (F := fun b => vl.ownBlock = some b) q2 (fun b hb => hb)) (fun b hb => hN b hb)
      go_roundw
      case rel => exact ⟨j + 1, _, by omega, by go_num, hp5, q1.setCell _ _ hne5, hN.grow (hK.alloc _).size q3, K4.setCell _ (fun h => absurd h (by simp))⟩
      case measure => simp [intOf]; omega
    · obtain rfl : j = n := by omega
      obtain ⟨lb, c, A, rfl, hb, hA, hc, _⟩ := hR.pos eS_len (by simp; omega)
      replace hp := hid hp
      replace hb := hid hb
      replace hR := hid hR
      go_wp2_with fail
      go_ret
      exact ⟨w.heap.size, lb, c, rfl, ⟨hp.out, ⟨A, hb.out, hA⟩, RowAt.nil _ _ _ _⟩, Nat.le_refl _, hN lb rfl, hK⟩
set_option maxRecDepth 100000 in
set_option maxHeartbeats 2000000 in
theorem ralloc_full (h : WAt w r lb c vb S B) (n2 : S.length ≤ 4096) (hf : ∀ (i : Nat) (s : Int × Int × Bool), S[i]? = some s → s.2.2 = true) :
    Calls Try.prog 22 #[.pointer (some ⟨r, 0, none⟩)] w fun e w' => e = .returned (.tuple #[.agg #[.int .i64 0, .int .u64 0], .int .i64 3]) ∧ Kp NoB w w' := by
  have HR := hid (rroom_any (h.alloc (.cells #[.int .i64 0, .int .u64 0] 36)) n2)
  replace hf := hid hf
  clear h
  go_enter Try.func22, Try.ntmps22
  go_wp2_with fail
  refine HR.out.mono ?_
  rintro e w1 ⟨n, rfl, hn, rfl⟩
  obtain rfl : n = 0 := hn.2 hf.out
  go_wp2_with fail
  refine bodyPost_ret (v := .tuple #[.agg #[.int .i64 0, .int .u64 0], .int .i64 3]) (by simp [results, Try.results22, go_sem]) rfl ⟨rfl, ?_⟩
  exact ((Kp.refl _ w).alloc _)
set_option maxRecDepth 100000 in
set_option maxHeartbeats 2000000 in
theorem ralloc_ever (h : WAt w r lb c vb S []) (n2 : S.length ≤ 4096) {x : Int} (hk : S[E]? = some (x, 1, false)) (hu : ∀ (i : Nat) (s : Int × Int × Bool), i < E → S[i]? = some s → s.2.2 = true) :
    Calls Try.prog 22 #[.pointer (some ⟨r, 0, none⟩)] w fun e w' => e = .returned (.tuple #[.agg #[.int .i64 E, .int .u64 1], .int .i64 0]) ∧ WAt w' r lb c vb (S.set E (x, 1, true)) [] ∧ Kp (fun b => b = r ∨ b = lb) w w' := by
  have HR := hid (rroom_any (h.alloc (.cells #[.int .i64 0, .int .u64 0] 36)) n2)
  have H0 := h.alloc (.cells #[.int .i64 0, .int .u64 0] 36)
  obtain ⟨ob, cv, hv, hc, _⟩ := h.hv.form
  subst hv
  have Lp := h.cs
  have Le := h.es hk
  have HE := (List.getElem?_eq_some_iff.1 hk).1
  have b2 : (E : Int) < (S.length : Int) := by omega
  have b1 : (0 : Int) ≤ (E : Int) := Int.natCast_nonneg _
  have up := ups Lp.2.2.2.2
  have ul := ups Le.2.2.2.2.2.2
  have ne := h.ne.1
  have ne' := Ne.symm ne
  have HEV := hid (fun (k : Nat) (x g : Int) (b : Bool) (hk : S[k]? = some (x, g, b)) => ever_any H0 n2 hk)
  replace H0 := hid H0
  replace h := hid h
  replace hk := hid hk
  replace hu := hid hu
  go_enter Try.func22, Try.ntmps22
  go_wp2_with fail
  refine HR.out.mono ?_
  rintro e w1 ⟨n, rfl, hn, rfl⟩
  have hn0 : ((n : Int) == 0) = false := by
    simp
    intro h0
    have := hn.1 h0 E _ hk.out
    cases this
  replace hn := hid hn
  go_wp2_with fail
  go_loopw [4] (fun i W => ∃ j : Nat, j ≤ E ∧ i = .int .i64 j ∧ W = w.alloc (.cells #[.int .i64 0, .int .u64 0] 36)) (fun i _ => E + 1 - (intOf i).toNat)
  case atStart => exact ⟨0, Nat.zero_le _, rfl, by first | rfl | trivial⟩
  case round =>
    obtain ⟨j, hj, rfl, rfl⟩ := hrel
    by_cases hlt : j < E
    · obtain ⟨⟨y, g, b⟩, hjk⟩ : ∃ s, S[j]? = some s := ⟨_, List.getElem?_eq_getElem (by omega)⟩
      have hb := hu.out j _ hlt hjk
      dsimp only at hb
      subst hb
      have HX := hid (HEV.out j _ _ _ hjk)
      replace hjk := hid hjk
      have c1 : (0 : Int) ≤ (j : Int) := Int.natCast_nonneg _
      go_wp2_with fail
      refine HX.out.mono ?_
      rintro e w' ⟨rfl, rfl⟩
      go_wp2_with fail
      go_roundw
      case rel => exact ⟨j + 1, by omega, by go_num, by first | rfl | trivial⟩
      case measure => simp [intOf]; omega
    · obtain rfl : j = E := by omega
      have HX := hid (HEV.out j _ _ _ hk.out)
      go_wp2_with fail
      refine HX.out.mono ?_
      rintro e w' ⟨rfl, rfl⟩
      go_wp2_with fail
      refine bodyPost_ret (v := .tuple #[.agg #[.int .i64 j, .int .u64 1], .int .i64 0]) (by simp [results, Try.results22, go_sem]) rfl ⟨rfl, ?_, ?_⟩
      · exact (h.out.isc hk.out).alloc _
      · exact ((Kp.refl _ w).setCell _ (fun _ => .inr rfl)).alloc _
set_option maxRecDepth 100000 in
set_option maxHeartbeats 2000000 in
theorem ralloc_pop {i : Nat} (h : WAt w r lb c vb S (B ++ [i])) (n2 : S.length ≤ 4096) (bl : B.length < 4096) {x g : Int} (hk : S[i]? = some (x, g, false)) :
    Calls Try.prog 22 #[.pointer (some ⟨r, 0, none⟩)] w fun e w' => e = .returned (.tuple #[.agg #[.int .i64 i, .int .u64 g], .int .i64 0]) ∧ ∃ v', WAt w' r lb c v' (S.set i (x, g, true)) B ∧ v'.ownBlock = vb.ownBlock ∧ Kp (fun b => b = r ∨ b = lb) w w' := by
  have HR := hid (rroom_any (h.alloc (.cells #[.int .i64 0, .int .u64 0] 36)) n2)
  obtain ⟨b', cv, A, hv, hb, hA, hc, hm, hs⟩ := h.hv.pos eI_len (by simp)
  have hlen : (B ++ [i]).length = B.length + 1 := by simp
  rw [hlen] at hv
  have ci : w.cell? ⟨b', B.length, none⟩ = some (.int .i64 i) := by rw [cell_of hb]; exact Pre.one (f := fun n => Value.int .i64 (n : Nat)) hA (by simp)
  subst hv
  have HP := hid (RowAt.pop (l := B ++ [i]) eI_len (by rw [hlen]; exact h.hv))
  have Lp := h.cs
  have Le := h.es hk
  have HE := (List.getElem?_eq_some_iff.1 hk).1
  have b1 : (0 : Int) ≤ (i : Int) := Int.natCast_nonneg _
  have b2 : (i : Int) < (S.length : Int) := by omega
  have up := ups Lp.2.2.2.2
  have ul := ups Le.2.2.2.2.2.2
  have ub := ups (blk_lt hb)
  have ne := h.ne.1
  have ne' := Ne.symm ne
  have wB : IntKind.i64.wrap (B.length : Int) = B.length := wi_in (by omega)
  rw [hlen] at hc
  have bc : (B.length : Int) ≤ (cv : Int) := by omega
  have bc' : B.length ≤ cv := by omega
  have bq : (B.length : Int) < (B.length : Int) + 1 := by omega
  have m1 := ne_of_types hb h.hp (by decide)
  have m1' := Ne.symm m1
  have m2 : b' ≠ lb := fun e => h.ne.2.2 (by rw [← e]; rfl)
  have m2' := Ne.symm m2
  replace h := hid h
  replace hk := hid hk
  clear hb hA hs
  go_enter Try.func22, Try.ntmps22
  go_wp2_with fail
  refine HR.out.mono ?_
  rintro e w1 ⟨n, rfl, hn, rfl⟩
  have hn0 : ((n : Int) == 0) = false := by
    simp
    intro h0
    have := hn.1 h0 i _ hk.out
    cases this
  replace hn := hid hn
  go_wp2_with fail
  refine wp_region_G (fun _ => True) [(0, .at_), (1, .at_), (2, .at_), (3, .at_), (4, .at_), (5, .at_), (6, .at_), (7, .at_), (8, .at_), (9, .at_), (10, .at_), (11, .at_), (12, .at_)] ?L1 (by kernel_rfl) (by kernel_rfl) ?hL1 (trivial) ?hG1
  case hL1 => simp only [pickOps, List.map_cons, List.map_nil, List.getD_cons_zero, List.getD_cons_succ]; rfl
  repeat (first | (refine wpG_at (v := ?_) (by rfl) ?_ ?_; rotate_left; (focus (first | (go_simp; with_reducible rfl) | (go_simp; done))); simp only [Act.put, List.setIfInBounds_toArray, List.set_cons_zero, List.set_cons_succ]) | (refine wpG_at_skip (by rfl) ?_; simp only [Act.put, List.setIfInBounds_toArray, List.set_cons_zero, List.set_cons_succ]) | (refine wpG_held_skip (by rfl) ?_; simp only [Act.put, List.setIfInBounds_toArray, List.set_cons_zero, List.set_cons_succ]) | (refine wpG_held (v := ?_) (by rfl) ?_ ?_; rotate_left; (focus (intro w' hSw; (try dsimp only at hSw); go_split_ands; first | (go_simp; with_reducible rfl) | (go_simp; done))); simp only [Act.put, List.setIfInBounds_toArray, List.set_cons_zero, List.set_cons_succ]))
  refine wpG_nil (NoPanic.normal ?_)
  go_wp2_with fail
  refine wp_region_G (fun _ => True) [(0, .at_), (1, .at_), (2, .at_), (3, .at_), (4, .at_), (5, .at_), (6, .at_), (7, .at_), (8, .at_), (9, .at_), (10, .at_), (11, .at_), (12, .at_), (13, .at_), (14, .eff)] ?L2 (by kernel_rfl) (by kernel_rfl) ?hL2 (trivial) ?hG2
  case hL2 => simp only [pickOps, List.map_cons, List.map_nil, List.getD_cons_zero, List.getD_cons_succ]; rfl
  repeat (first | (refine wpG_at (v := ?_) (by rfl) ?_ ?_; rotate_left; (focus (first | (go_simp; with_reducible rfl) | (go_simp; done))); simp only [Act.put, List.setIfInBounds_toArray, List.set_cons_zero, List.set_cons_succ]) | (refine wpG_at_skip (by rfl) ?_; simp only [Act.put, List.setIfInBounds_toArray, List.set_cons_zero, List.set_cons_succ]) | (refine wpG_held_skip (by rfl) ?_; simp only [Act.put, List.setIfInBounds_toArray, List.set_cons_zero, List.set_cons_succ]) | (refine wpG_held (v := ?_) (by rfl) ?_ ?_; rotate_left; (focus (intro w' hSw; (try dsimp only at hSw); go_split_ands; first | (go_simp; with_reducible rfl) | (go_simp; done))); simp only [Act.put, List.setIfInBounds_toArray, List.set_cons_zero, List.set_cons_succ]))
  refine wpG_eff (by rfl) (fun K hK => ?_)
  go_simp
  refine hK _ _ trivial ?_
  clear hK K
  repeat (first | (refine wpG_at (v := ?_) (by rfl) ?_ ?_; rotate_left; (focus (first | (go_simp; with_reducible rfl) | (go_simp; done))); simp only [Act.put, List.setIfInBounds_toArray, List.set_cons_zero, List.set_cons_succ]) | (refine wpG_at_skip (by rfl) ?_; simp only [Act.put, List.setIfInBounds_toArray, List.set_cons_zero, List.set_cons_succ]) | (refine wpG_held_skip (by rfl) ?_; simp only [Act.put, List.setIfInBounds_toArray, List.set_cons_zero, List.set_cons_succ]) | (refine wpG_held (v := ?_) (by rfl) ?_ ?_; rotate_left; (focus (intro w' hSw; (try dsimp only at hSw); go_split_ands; first | (go_simp; with_reducible rfl) | (go_simp; done))); simp only [Act.put, List.setIfInBounds_toArray, List.set_cons_zero, List.set_cons_succ]))
  refine wpG_nil (NoPanic.normal ?_)
  go_wp2_with fail
  have HP' : RowAt w 3 eI 1 (.slice (some ⟨b', 0, none⟩) B.length cv) B := by
    have := HP.out
    rw [hlen] at this
    simpa using this
  refine bodyPost_ret (v := .tuple #[.agg #[.int .i64 i, .int .u64 g], .int .i64 0]) (by simp [results, Try.results22, go_sem]) rfl ⟨rfl, .slice (some ⟨b', 0, none⟩) B.length cv, ?_, rfl, ?_⟩
  · exact (((h.out.back HP' (by intro h; injection h with h; exact m1 h)).isc hk.out).alloc _).drew.drew
  · exact ((((Kp.refl _ w).setCell _ (fun _ => .inl rfl)).setCell _ (fun _ => .inr rfl)).alloc _).drew.drew
end
end Go.Proofs.Ytldkogdkadgnkaa
