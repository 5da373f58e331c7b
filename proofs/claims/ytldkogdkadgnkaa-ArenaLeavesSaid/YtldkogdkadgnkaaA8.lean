/- The law ArenaZeroes, walked. -/
import Derived.Test.YtldkogdkadgnkaaA7
import Derived.Test.YtldkogdkadgnkaaLibF
import Derived.OpenShut
import Derived.Deep.DeepCutAuto
namespace Go.Proofs.Ytldkogdkadgnkaa
set_option linter.unusedSimpArgs false
set_option linter.unusedVariables false
open Go.RowKit
attribute [local go_sem ↓] Go.wp_at_zero Go.wp_at_succ

/-- a row of whole numbers that came in: below B -/
structure IntsAt (w : World) (B : Nat) (x : Option Addr) (len : Nat) (D : List Int) : Prop where
  ln : D.length = len
  mx : len ≤ 9223372036854775807
  wf : ∀ z ∈ D, -9223372036854775808 ≤ z ∧ z < 9223372036854775808
  at_ : ∀ (i : Nat) (z : Int), D[i]? = some z → ∃ y : Addr, x = some y ∧ y.block < B ∧ w.cell? (y.add i) = some (.int .i64 z)
theorem IntsAt.kp {w w' : World} {B : Nat} {x : Option Addr} {len : Nat} {D : List Int} {F : Nat → Prop} (h : IntsAt w B x len D) (k : Kp F w w') (hB : B ≤ w.heap.size) (hF : ∀ q, F q → B ≤ q) : IntsAt w' B x len D := by
  refine ⟨h.ln, h.mx, h.wf, fun i z hz => ?_⟩
  obtain ⟨y, hx, hy, h0⟩ := h.at_ i z hz
  refine ⟨y, hx, hy, ?_⟩
  have hb : w'.heap[(y.add i).block]? = w.heap[(y.add i).block]? := by rw [add_blk]; exact k.blk _ (by omega) (fun f => by have := hF _ f; omega)
  exact (cell_blk hb).trans h0
def eH (h : Nat × Int) : List Value := [.int .i64 h.1, .int .u64 h.2]
theorem eH_len (h : Nat × Int) : (eH h).length = 2 := rfl
def firsts (j : Nat) : List (Nat × Int) := (List.range j).map fun k => (k, 1)
theorem firsts_len (j : Nat) : (firsts j).length = j := by simp [firsts]
theorem firsts_get {j k : Nat} (h : k < j) : (firsts j)[k]? = some (k, 1) := by simp [firsts, h]
theorem firsts_succ (j : Nat) : firsts (j + 1) = firsts j ++ [(j, 1)] := by simp [firsts, List.range_succ]
def New (w : World) (v : Value) : Prop := ∀ b, v.ownBlock = some b → w.heap.size ≤ b
theorem New.nil (w : World) : New w (.slice none 0 0) := by intro b h; cases h
theorem New.of {w : World} {v v' : Value} (h : New w v) (e : v'.ownBlock = v.ownBlock) : New w v' := by intro b hb; exact h b (e ▸ hb)
theorem New.grow {w w1 : World} {v v' : Value} (h : New w v) (hs : w.heap.size ≤ w1.heap.size) (e : v'.ownBlock = v.ownBlock ∨ ∃ b, v'.ownBlock = some b ∧ w1.heap.size ≤ b) : New w v' := by
  intro b hb
  rcases e with e | ⟨b', e, hb'⟩
  · exact h b (e ▸ hb)
  · rw [e] at hb; injection hb with hb; omega
theorem may_any (n : Int) (w : World) : Calls Try.prog 6 #[.int .i64 n] w fun e w' => e = .returned (.bool (decide (1 ≤ n) && decide (n ≤ 4096))) ∧ w = w' := by
  by_cases h1 : 1 ≤ n
  · go_enter Try.func6, Try.ntmps6
    go_wp2
    go_ret
    exact ⟨by simp [h1], rfl⟩
  · have h2 : decide (1 ≤ n) = false := by simpa using h1
    rw [h2]
    go_enter Try.func6, Try.ntmps6
    go_wp2
    go_ret
    exact ⟨rfl, rfl⟩
theorem u30 : Try.prog.underlying 30 = some (.slice 36) := by kernel_rfl
theorem i36 : (Try.prog.info? 36).map (fun i => (i.zero, i.size, i.bytes)) = some (some (.agg #[.int .i64 0, .int .u64 0]), 2, 16) := by kernel_rfl

theorem free_at {w : World} {p l : Nat} {v : Value} {S : List (Int × Int × Bool)} {B : List Nat} {E k : Nat} {x g : Int} {b : Bool} (h : AAt w p l v S B E) (hI : AInv S B E) (hk : S[k]? = some (x, g, b))
    (hg : ∀ (k : Nat) (s : Int × Int × Bool), S[k]? = some s → s.2.2 = true → s.2.1 = 1) :
    Calls Try.prog 14 #[.pointer (some ⟨p, 0, none⟩), .agg #[.int .i64 k, .int .u64 1]] w fun e w' => ∃ (r : Int) (v' : Value) (S' : List (Int × Int × Bool)) (B' : List Nat) (g' : Int), e = .returned (.int .i64 r) ∧ AAt w' p l v' S' B' E ∧ AInv S' B' E ∧ S'.length = S.length ∧
      (∀ (k : Nat) (s : Int × Int × Bool), S'[k]? = some s → s.2.2 = true → s.2.1 = 1) ∧ S'[k]? = some (0, g', false) ∧ (v'.ownBlock = v.ownBlock ∨ ∃ b, v'.ownBlock = some b ∧ w.heap.size ≤ b) ∧ Kp (fun b => b = p ∨ b = l ∨ v.ownBlock = some b) w w' := by
  cases b
  · refine (free_no h hI.ok (i := k) (g := 1) ?_).mono ?_
    · rintro ⟨k', x', he, hs⟩
      obtain rfl : k = k' := by omega
      rw [hk] at hs
      injection hs with hs; injection hs with _ hs; injection hs with _ hs; cases hs
    · rintro e w1 ⟨rfl, k1⟩
      have hx := hI.z _ _ hk rfl
      dsimp only at hx
      subst hx
      exact ⟨_, v, S, B, g, rfl, h.kn k1, hI, rfl, hg, hk, .inl rfl, k1.mono (fun _ h => h.elim)⟩
  · have hg1 := hg _ _ hk rfl
    dsimp only at hg1
    subst hg1
    obtain ⟨hI', hb⟩ := hI.free (g' := IntKind.u64.wrap (1 + 1)) hk
    refine (free_yes h hI.ok hb hk).mono ?_
    rintro e w1 ⟨rfl, v', h', o', k'⟩
    have hlt := (List.getElem?_eq_some_iff.1 hk).1
    refine ⟨_, v', _, _, _, rfl, h', hI', by simp, ?_, List.getElem?_set_self hlt, o', k'⟩
    intro j s hs hb
    by_cases e : j = k
    · subst e
      rw [List.getElem?_set_self hlt] at hs
      injection hs with hs; subst hs; cases hb
    · rw [List.getElem?_set_ne (Ne.symm e)] at hs
      exact hg j s hs hb
theorem rem_idx (z : Int) {j : Nat} (h0 : 0 < j) (h1 : j ≤ 100) : ∃ k : Nat, k < j ∧ wrap64 (Int.tmod (IntKind.u64.wrap z) j) = k := by
  have hu : 0 ≤ IntKind.u64.wrap z := by simp [IntKind.wrap, IntKind.bits, IntKind.signed]; omega
  rw [Int.tmod_eq_emod_of_nonneg hu]
  have h2 := Int.emod_nonneg (IntKind.u64.wrap z) (show (j : Int) ≠ 0 by omega)
  have h3 := Int.emod_lt_of_pos (IntKind.u64.wrap z) (show (0 : Int) < j by omega)
  refine ⟨(IntKind.u64.wrap z % j).toNat, by omega, ?_⟩
  have : wrap64 (IntKind.u64.wrap z % j) = IntKind.u64.wrap z % j := by unfold wrap64; omega
  rw [this]; omega
set_option maxRecDepth 100000 in
set_option maxHeartbeats 8000000 in
theorem zeroes_law (w : World) (n : Int) (xl : Option Addr) (ll lc : Nat) (D : List Int) (xb : Option Addr) (bl bc : Nat) (D' : List Int) (hD : IntsAt w w.heap.size xl ll D) (hD' : IntsAt w w.heap.size xb bl D') :
    Calls Try.prog 4 #[.int .i64 n, .slice xl ll lc, .slice xb bl bc] w fun e w' => e = .returned (.bool true) ∧ Kp NoB w w' := by
  have HK := hid known_any
  have HM := hid (may_any n w)
  by_cases hn : 1 ≤ n ∧ n ≤ 100
  · obtain ⟨m, rfl⟩ : ∃ m : Nat, n = m := ⟨n.toNat, by omega⟩
    obtain ⟨m1, m2⟩ := hn
    have HN := hid (new_any m (by omega) (by omega) w)
    by_cases hl : ll ≤ 100
    · by_cases hb : bl ≤ 100
      · have hm := hid (show (decide (1 ≤ (m : Int)) && decide ((m : Int) ≤ 4096)) = true from by simp; omega)
        have hl' : ¬ (100 : Int) < (ll : Int) := by omega
        have hb' : ¬ (100 : Int) < (bl : Int) := by omega
        have hm' : ¬ (100 : Int) < (m : Int) := by omega
        replace hD := hid hD
        replace hD' := hid hD'
        go_enter Try.func4, Try.ntmps4
        go_wp2_with fail
        refine HM.out.mono ?_
        rintro e w1 ⟨rfl, rfl⟩
        rw [hm.out]
        go_wp2_with fail
        refine HN.out.mono ?_
        rintro e w1 ⟨p, l, rfl, A1, hp, hl, k1⟩
        replace A1 := hid A1
        go_wp2_with fail
        go_loopw [9, 10, 11, 12] (fun hv i _ _ W => ∃ (j : Nat) (S : List (Int × Int × Bool)), j ≤ m ∧ j ≤ ll ∧ i = .int .i64 j ∧ AAt W p l (.slice none 0 0) S [] j ∧ AInv S [] j ∧ Hid (S.length = m) ∧ Hid (∀ (k : Nat) (s : Int × Int × Bool), S[k]? = some s → s.2.1 = 1) ∧ RowAt W 36 eH 2 hv (firsts j) ∧ New w hv ∧ Kp NoB w W) (fun _ i _ _ _ => m - (intOf i).toNat)
        case atStart =>
          refine ⟨0, _, Nat.zero_le _, Nat.zero_le _, rfl, A1.out, AInv.new m (by omega) (by omega), hid (by simp), hid ?_, RowAt.nil _ _ _ _, New.nil _, k1⟩
          intro k s hk
          rw [List.getElem?_replicate] at hk
          split at hk
          · injection hk with hk; subst hk; rfl
          · cases hk
        case round =>
          obtain ⟨j, S, hjm, hjl, rfl, hA, hI, hSm, hg, hR, hN, hK⟩ := hrel
          replace hA := hid hA
          go_upto_region 8 with fail
          go_cut [60] (fun s60 wx => s60 = .bool (decide (j < ll) && decide (j < m)) ∧ wx = wr)
          case first =>
            by_cases c1 : j < ll
            · by_cases c2 : j < m
              · have b1 : (j : Int) < (ll : Int) := by omega
                have b2 : (j : Int) < (m : Int) := by omega
                go_wp2_with fail
                go_meet
                case rel => exact ⟨by simp [c1, c2], rfl⟩
              · have b1 : (j : Int) < (ll : Int) := by omega
                have b2 : ¬ (j : Int) < (m : Int) := by omega
                go_wp2_with fail
                go_meet
                case rel => exact ⟨by simp [c1, c2], rfl⟩
            · have b1 : ¬ (j : Int) < (ll : Int) := by omega
              go_wp2_with fail
              go_meet
              case rel => exact ⟨by simp [c1], rfl⟩
          case rest =>
            obtain ⟨rfl, rfl⟩ := hcut
            by_cases c : j < ll ∧ j < m
            · have hc := hid (show (decide (j < ll) && decide (j < m)) = true from by simp [c])
              rw [hc.out]
              obtain ⟨g, hk⟩ := hI.next (by unfold room; rw [hSm.out]; omega)
              obtain rfl : g = 1 := hg.out _ _ hk
              have HA := hid (alloc_ever hA.out hI.ok hk)
              have hal := hI.alloc (by unfold room; rw [hSm.out]; omega) (x := 0) (g := 1)
              have hjS := (List.getElem?_eq_some_iff.1 hk).1
              replace hjS : j < S.length := hjS
              replace hal : AInv (S.set j (0, 1, true)) [] (j + 1) := hal.1
              replace hk : S[j]? = some (0, 1, false) := hk
              have hz : ∃ z, D[j]? = some z := ⟨_, List.getElem?_eq_getElem (by rw [hD.out.ln]; exact c.1)⟩
              obtain ⟨z, hz⟩ := hz
              obtain ⟨y, rfl, hy, hyc⟩ := hD.out.at_ j z hz
              have b1 : (0 : Int) ≤ (j : Int) := Int.natCast_nonneg _
              have b2 : (j : Int) < (ll : Int) := by omega
              replace hz := hid hz
              replace hk := hid hk
              replace hal := hid hal
              replace hI := hid hI
              go_wp2_with fail
              refine HA.out.mono ?_
              rintro e w2 ⟨rfl, A2, k2⟩
              replace A2 := A2.alloc (.cells #[.int .i64 j, .int .u64 1] 36)
              have X2 := blk_new w2 (.cells #[.int .i64 j, .int .u64 1] 36)
              have K2 := (kp_new hK k2 (by rintro b (rfl | rfl) <;> assumption)).alloc (.cells #[.int .i64 j, .int .u64 1] 36)
              have hk2 : (S.set j (0, 1, true))[j]? = some (0, 1, true) := List.getElem?_set_self hjS
              have HS := hid (fun (W : World) (hW : AAt W p l (.slice none 0 0) (S.set j (0, 1, true)) [] (j + 1)) => set_yes hW hal.out.ok z hk2)
              have LX := loc2 X2
              have Ly := (hD.out.kp K2 (Nat.le_refl _) (fun _ h => h.elim)).at_ j z hz.out
              obtain ⟨y', hy', _, Ly⟩ := Ly
              injection hy' with hy'
              subst hy'
              have hI3 := hid (hal.out.set (y := z) hk2)
              replace A2 := hid A2
              replace X2 := hid X2
              replace hk2 := hid hk2
              go_wp2_with fail
              refine wp_region_G (fun _ => True) [(0, .at_), (1, .at_), (2, .at_), (3, .at_), (4, .at_), (5, .at_), (6, .at_), (7, .at_), (8, .at_), (9, .eff), (10, .at_), (11, .at_)] ?L1 (by kernel_rfl) (by kernel_rfl) ?hL1 (trivial) ?hG1
              case hL1 => simp only [pickOps, List.map_cons, List.map_nil, List.getD_cons_zero, List.getD_cons_succ]; rfl
              repeat (first | (refine wpG_at (v := ?_) (by rfl) ?_ ?_; rotate_left; (focus (first | (go_simp; with_reducible rfl) | (go_simp; done))); simp only [Act.put, List.setIfInBounds_toArray, List.set_cons_zero, List.set_cons_succ]) | (refine wpG_at_skip (by rfl) ?_; simp only [Act.put, List.setIfInBounds_toArray, List.set_cons_zero, List.set_cons_succ]) | (refine wpG_held_skip (by rfl) ?_; simp only [Act.put, List.setIfInBounds_toArray, List.set_cons_zero, List.set_cons_succ]) | (refine wpG_held (v := ?_) (by rfl) ?_ ?_; rotate_left; (focus (intro w' hSw; (try dsimp only at hSw); go_split_ands; first | (go_simp; with_reducible rfl) | (go_simp; done))); simp only [Act.put, List.setIfInBounds_toArray, List.set_cons_zero, List.set_cons_succ]))
              refine wpG_eff (by rfl) (fun K hK => ?_)
              go_simp
              refine (HS.out _ A2.out.drew).mono ?_
              rintro e w3 ⟨rfl, A3, k3⟩
              refine hK _ _ trivial ?_
              clear hK K
              repeat (first | (refine wpG_at (v := ?_) (by rfl) ?_ ?_; rotate_left; (focus (first | (go_simp; with_reducible rfl) | (go_simp; done))); simp only [Act.put, List.setIfInBounds_toArray, List.set_cons_zero, List.set_cons_succ]) | (refine wpG_at_skip (by rfl) ?_; simp only [Act.put, List.setIfInBounds_toArray, List.set_cons_zero, List.set_cons_succ]) | (refine wpG_held_skip (by rfl) ?_; simp only [Act.put, List.setIfInBounds_toArray, List.set_cons_zero, List.set_cons_succ]) | (refine wpG_held (v := ?_) (by rfl) ?_ ?_; rotate_left; (focus (intro w' hSw; (try dsimp only at hSw); go_split_ands; first | (go_simp; with_reducible rfl) | (go_simp; done))); simp only [Act.put, List.setIfInBounds_toArray, List.set_cons_zero, List.set_cons_succ]))
              refine wpG_nil (NoPanic.normal ?_)
              have K3 := kp_new K2.drew k3 (by rintro b rfl; assumption)
              have ux := ne_of_types X2.out A2.out.hl (by decide)
              have X3 := k3.get (blk_drew X2.out) ux
              have LX3 := loc2 X3
              have R3 : RowAt w3 36 eH 2 u9 (firsts j) := ((hR.kp k2 (by
                rintro b hb (rfl | rfl)
                · exact hR.ne hA.out.hp (by decide) hb
                · exact hR.ne hA.out.hl (by decide) hb)).alloc (.cells #[.int .i64 j, .int .u64 1] 36)).drew.kp k3 (by
                rintro b hb rfl
                exact ((hR.kp k2 (by
                  rintro b hb (rfl | rfl)
                  · exact hR.ne hA.out.hp (by decide) hb
                  · exact hR.ne hA.out.hl (by decide) hb)).alloc (.cells #[.int .i64 j, .int .u64 1] 36)).ne A2.out.hl (by decide) hb)
              replace A3 := hid A3
              replace X3 := hid X3
              have hjj : j < 4096 := by have := hI3.out.n2; have := hI3.out.e; omega
              clear LX Ly
              go_wp2_with (at_builtin; refine wpList_plain rfl fun K hK => ?_; refine wp_grow eH_len (by omega) _ _ 30 36 _ 16 rfl u30 i36 rfl u9 (firsts j) rfl (R3.alloc _) w3.heap.size 1 [(j, 1)] rfl #[.int .i64 j, .int .u64 1] 36 (blk_new' _ _ (by simp)) (by intro a b x ha hb; match a, ha with | 0, ha => simp at ha; subst ha; match b, hb with | 0, _ => rfl | 1, _ => rfl) (by simp [eH, Value.oneCell']) (by rw [firsts_len]; simp; omega) (by omega) ?_; intro v4 w4 q1 q2 q3; refine hK _ _ ?_; clear hK K)
              have R3a := R3.alloc (.cells #[.int .i64 j, .int .u64 1] 36)
              have A3a := A3.out.alloc (.cells #[.int .i64 j, .int .u64 1] 36)
              have K4 : Kp NoB w w4 := kp_new (K3.alloc _) (kp_grown (F := fun b => u9.ownBlock = some b) q2 (fun b hb => hb)) (fun b hb => hN b hb)
              have A4 : AAt w4 p l (.slice none 0 0) ((S.set j (0, 1, true)).set j (z, 1, true)) [] (j + 1) :=
                A3a.kp (kp_grown (F := fun b => u9.ownBlock = some b) q2 (fun b hb => hb)) (R3a.ne A3a.hp (by decide)) (R3a.ne A3a.hl (by decide)) (fun b hb => by cases hb)
              go_roundw
              case rel => exact ⟨j + 1, _, by omega, by omega, by go_num, A4, hI3.out, hid (by simp; exact hSm.out), hid (by
                  intro k s hs
                  by_cases e : k = j
                  · subst e
                    rw [List.getElem?_set_self (by simpa using hjS)] at hs
                    injection hs with hs; subst hs; rfl
                  · rw [List.getElem?_set_ne (Ne.symm e), List.getElem?_set_ne (Ne.symm e)] at hs
                    exact hg.out k s hs), by rw [firsts_succ]; exact q1, hN.grow (Nat.le_trans K3.size (by simp)) q3, K4⟩
              case measure => simp [intOf]; omega
            · have hc := hid (show (decide (j < ll) && decide (j < m)) = false from by
                rw [Bool.and_eq_false_iff]; simp; omega)
              rw [hc.out]
              obtain ⟨oh, ch, hu9, _⟩ := hR.form
              rw [firsts_len] at hu9
              subst hu9
              have hjm' : j ≤ 100 := by omega
              replace hc := hid hc
              go_wp2_with fail
              go_loopw [13, 14, 15, 16, 17] (fun i2 _ _ _ _ W => ∃ (t : Nat) (v : Value) (S : List (Int × Int × Bool)) (B : List Nat), t ≤ bl ∧ i2 = .int .i64 t ∧ AAt W p l v S B j ∧ AInv S B j ∧ Hid (S.length = m) ∧ Hid (∀ (k : Nat) (s : Int × Int × Bool), S[k]? = some s → s.2.2 = true → s.2.1 = 1) ∧ New w v ∧ RowAt W 36 eH 2 (.slice oh j ch) (firsts j) ∧ Kp NoB w W) (fun i2 _ _ _ _ _ => bl - (intOf i2).toNat)
              case atStart => exact ⟨0, _, _, _, Nat.zero_le _, rfl, hA.out, hI, hSm, hid (fun k s hs _ => hg.out k s hs), New.nil _, hR, hK⟩
              case round =>
                clear hA hI hSm hg hR hK hN
                obtain ⟨t, v, S, B, htb, rfl, hA, hI, hSm, hg, hN, hR, hK⟩ := hrel
                replace hA := hid hA
                go_upto_region 15 with fail
                go_cut [92] (fun s92 wx => s92 = .bool (decide (t < bl) && decide (0 < j)) ∧ wx = wr)
                case first =>
                  by_cases c1 : t < bl
                  · by_cases c2 : 0 < j
                    · have b1 : (t : Int) < (bl : Int) := by omega
                      have b2 : (0 : Int) < (j : Int) := by omega
                      go_wp2_with fail
                      go_meet
                      case rel => exact ⟨by simp [c1, c2], rfl⟩
                    · have b1 : (t : Int) < (bl : Int) := by omega
                      have b2 : ¬ (0 : Int) < (j : Int) := by omega
                      go_wp2_with fail
                      go_meet
                      case rel => exact ⟨by simp [c1]; omega, rfl⟩
                  · have b1 : ¬ (t : Int) < (bl : Int) := by omega
                    go_wp2_with fail
                    go_meet
                    case rel => exact ⟨by simp [c1], rfl⟩
                case rest =>
                  obtain ⟨rfl, rfl⟩ := hcut
                  by_cases c : t < bl ∧ 0 < j
                  · have hc := hid (show (decide (t < bl) && decide (0 < j)) = true from by simp [c])
                    rw [hc.out]
                    obtain ⟨b', c', A, hv, hb, hAr, hcc, hmm, hss⟩ := hR.pos eH_len (by rw [firsts_len]; omega)
                    rw [firsts_len] at hv
                    injection hv with hv1 _ hv3
                    subst hv1; subst hv3
                    obtain ⟨z, hz⟩ : ∃ z, D'[t]? = some z := ⟨_, List.getElem?_eq_getElem (by rw [hD'.out.ln]; exact c.1)⟩
                    obtain ⟨y, rfl, hy, Ly⟩ := (hD'.out.kp hK (Nat.le_refl _) (fun _ h => h.elim)).at_ t z hz
                    have b1 : (0 : Int) ≤ (t : Int) := Int.natCast_nonneg _
                    have b2 : (t : Int) < (bl : Int) := by omega
                    have b3 : (0 : Int) < (j : Int) := by omega
                    obtain ⟨k, hkj, hkw⟩ := rem_idx z c.2 hjm'
                    have b4 : (0 : Int) ≤ (k : Int) := Int.natCast_nonneg _
                    have b5 : (k : Int) < (j : Int) := by omega
                    have e0 : wc.cell? ⟨b', k * 2, none⟩ = some (.int .i64 k) := by rw [cell_of hb]; exact hAr k 0 _ (firsts_get hkj) (by omega)
                    have e1 : wc.cell? ⟨b', k * 2 + 1, none⟩ = some (.int .u64 1) := by rw [cell_of hb]; exact hAr k 1 _ (firsts_get hkj) (by omega)
                    obtain ⟨⟨x, g, b⟩, hk⟩ : ∃ s, S[k]? = some s := ⟨_, List.getElem?_eq_getElem (by have := hI.e; omega)⟩
                    have ub := ups (blk_lt hb)
                    replace hk := hid hk
                    replace hR := hid hR
                    replace hb := hid hb
                    replace hz := hid hz
                    replace hI := hid hI
                    have HF := hid (free_at (hA.out.alloc (.cells #[.int .i64 k, .int .u64 1] 36)) hI.out hk.out hg.out)
                    have N0 := blk_new wc (.cells #[.int .i64 k, .int .u64 1] 36)
                    have v1 := ne_of_types N0 (hA.out.alloc (.cells #[.int .i64 k, .int .u64 1] 36)).hp (by decide)
                    have v2 := ne_of_types N0 (hA.out.alloc (.cells #[.int .i64 k, .int .u64 1] 36)).hl (by decide)
                    have v3 := (hA.out.alloc (.cells #[.int .i64 k, .int .u64 1] 36)).hv.ne N0 (by decide)
                    have r1 := (hR.out.alloc (.cells #[.int .i64 k, .int .u64 1] 36)).ne (hA.out.alloc (.cells #[.int .i64 k, .int .u64 1] 36)).hp (by decide)
                    have r2 := (hR.out.alloc (.cells #[.int .i64 k, .int .u64 1] 36)).ne (hA.out.alloc (.cells #[.int .i64 k, .int .u64 1] 36)).hl (by decide)
                    have r3 := (hA.out.alloc (.cells #[.int .i64 k, .int .u64 1] 36)).hv.ne (blk_alloc (o' := .cells #[.int .i64 k, .int .u64 1] 36) hb.out) (by decide)
                    replace N0 := hid N0
                    go_wp2_with fail
                    refine HF.out.mono ?_
                    clear HF
                    rintro e w2 ⟨r, v', S', B', g', rfl, A2, I2, n2, g2, s2, o2, k2⟩
                    have X2 := k2.get N0.out (by rintro (h | h | h) <;> first | exact v1 h | exact v2 h | exact v3 h)
                    have R2 := (hR.out.alloc (.cells #[.int .i64 k, .int .u64 1] 36)).kp k2 (by
                      rintro b hb (h | h | h)
                      · exact r1 (by rw [hb, h])
                      · exact r2 (by rw [hb, h])
                      · injection hb with hb; subst hb; exact r3 h)
                    have K2 := kp_new (hK.alloc (.cells #[.int .i64 k, .int .u64 1] 36)) k2 (by rintro b (rfl | rfl | h) <;> first | assumption | exact hN b h)
                    have N2 : New w v' := hN.grow (w1 := wc.alloc (.cells #[.int .i64 k, .int .u64 1] 36)) (hK.alloc _).size o2
                    have LX := loc2 X2
                    have HS := hid (slot_in A2 I2.ok s2)
                    have HZ := hid (fun (W : World) (hW : AAt W p l v' S' B' j) => zero_any hW I2.ok I2.zz)
                    clear v1 v2 v3 r1 r2 r3 o2 k2 e0 e1 N0
                    replace A2 := hid A2
                    replace I2 := hid I2
                    replace n2 := hid n2
                    replace g2 := hid g2
                    replace s2 := hid s2
                    replace X2 := hid X2
                    replace R2 := hid R2
                    go_wp2_with fail
                    refine HS.out.mono ?_
                    clear HS LX
                    rintro e w3 ⟨rfl, k3⟩
                    have A3 := (A2.out.kn k3).alloc (.cells #[.int .i64 k, .int .u64 g'] 36)
                    have R3 := (R2.out.kp k3 (fun _ _ h => h)).alloc (.cells #[.int .i64 k, .int .u64 g'] 36)
                    have K3 := (K2.trans k3).alloc (.cells #[.int .i64 k, .int .u64 g'] 36)
                    have HZ' := hid (HZ.out _ A3)
                    clear HZ A2 R2 X2
                    replace A3 := hid A3
                    replace R3 := hid R3
                    go_wp2_with fail
                    refine HZ'.out.mono ?_
                    clear HZ'
                    rintro e w4 ⟨rfl, k4⟩
                    have A4 := A3.out.kn k4
                    have R4 := R3.out.kp k4 (fun _ _ h => h)
                    have K4 := K3.trans k4
                    clear A3 R3
                    go_wp2_with fail
                    go_roundw
                    case rel => exact ⟨t + 1, v', S', B', by omega, by go_num, A4, I2.out, hid (n2.out.trans hSm.out), g2, N2, R4, K4⟩
                    case measure => simp [intOf]; omega
                  · have hc := hid (show (decide (t < bl) && decide (0 < j)) = false from by
                      rw [Bool.and_eq_false_iff]; simp; omega)
                    rw [hc.out]
                    go_wp2_with fail
                    go_loopw [18, 19, 20, 21, 22] (fun i3 _ _ _ _ W => ∃ (t : Nat) (v : Value) (S : List (Int × Int × Bool)) (B : List Nat) (E : Nat), i3 = .int .i64 t ∧ AAt W p l v S B E ∧ AInv S B E ∧ Hid (room S B E + t ≤ m) ∧ New w v ∧ Kp NoB w W) (fun i3 _ _ _ _ _ => m + 1 - (intOf i3).toNat)
                    case atStart => exact ⟨0, _, _, _, _, rfl, hA.out, hI, hid (by have := hI.bl; have := hI.e; have := hSm.out; unfold room; omega), hN, hK⟩
                    case round =>
                      clear hA hI hSm hg hR hK hN
                      obtain ⟨t3, v3, S3, B3, E3, rfl, hA, hI, hr, hN, hK⟩ := hrel
                      have htm : t3 ≤ m := by have := hr.out; omega
                      have b1 : (t3 : Int) ≤ (m : Int) := by omega
                      have b0 : (0 : Int) ≤ (t3 : Int) := Int.natCast_nonneg _
                      have HR := hid (room_any hA hI.ok)
                      have hre := hid hI.room_eq
                      replace hA := hid hA
                      by_cases c : 0 < room S3 B3 E3
                      · have b2 : (0 : Int) < ((room S3 B3 E3 : Nat) : Int) := by omega
                        obtain ⟨g, hk⟩ := hI.next c
                        obtain ⟨hI2, hr2⟩ := hI.alloc c (x := 0) (g := g)
                        have hlt := (List.getElem?_eq_some_iff.1 hk).1
                        have HA := hid (fun (W : World) (hW : AAt W p l v3 S3 B3 E3) => alloc_any hW hI.ok hk)
                        replace hk := hid hk
                        replace hI2 := hid hI2
                        replace hr2 := hid hr2
                        replace hI := hid hI
                        go_wp2_with fail
                        refine HR.out.mono ?_
                        clear HR
                        rintro e w2 ⟨rfl, k2⟩
                        rw [hre.out]
                        have HA2 := hid (HA.out _ (hA.out.kn k2))
                        clear HA
                        go_wp2_with fail
                        refine HA2.out.mono ?_
                        clear HA2
                        rintro e w3 ⟨rfl, v4, A3, o3, k3⟩
                        have N3 := hN.of o3
                        have K3 := (kp_new (hK.trans k2) k3 (by rintro b (rfl | rfl) <;> assumption)).alloc (.cells #[.int .i64 (nextI B3 E3), .int .u64 g] 36)
                        replace A3 := A3.alloc (.cells #[.int .i64 (nextI B3 E3), .int .u64 g] 36)
                        have LX := loc2 (blk_new w3 (.cells #[.int .i64 (nextI B3 E3), .int .u64 g] 36))
                        have HG := hid (get_yes A3 hI2.out.ok (List.getElem?_set_self hlt))
                        replace A3 := hid A3
                        generalize nextI B3 E3 = ni at *
                        go_wp2_with fail
                        refine HG.out.mono ?_
                        clear HG LX
                        rintro e w4 ⟨rfl, k4⟩
                        have A4 := A3.out.kn k4
                        have K4 := K3.trans k4
                        clear A3
                        go_wp2_with fail
                        go_roundw
                        case rel => exact ⟨t3 + 1, _, _, _, _, by go_num, A4, hI2.out, hid (by have := hr.out; have := hr2.out; omega), N3, K4⟩
                        case measure => simp [intOf]; omega
                      · have b2 : ¬ (0 : Int) < ((room S3 B3 E3 : Nat) : Int) := by omega
                        have b3 := hid (show ((room S3 B3 E3 : Nat) : Int) = 0 from by omega)
                        have HRR := hid (fun (W : World) (hW : AAt W p l v3 S3 B3 E3) => room_any hW hI.ok)
                        replace hI := hid hI
                        go_wp2_with fail
                        refine HR.out.mono ?_
                        clear HR
                        rintro e w2 ⟨rfl, k2⟩
                        rw [hre.out]
                        have HR2 := hid (HRR.out _ (hA.out.kn k2))
                        clear HRR
                        go_wp2_with fail
                        refine HR2.out.mono ?_
                        clear HR2
                        rintro e w3 ⟨rfl, k3⟩
                        rw [hre.out, b3.out]
                        go_wp2_with fail
                        refine (HK.out _).mono ?_
                        rintro e w4 ⟨rfl, k4⟩
                        go_wp2_with fail
                        go_ret
                        exact ⟨rfl, ((hK.trans k2).trans k3).trans k4⟩
      · have hm := hid (show (decide (1 ≤ (m : Int)) && decide ((m : Int) ≤ 4096)) = true from by simp; omega)
        have hl' : ¬ (100 : Int) < (ll : Int) := by omega
        have hb' : (100 : Int) < (bl : Int) := by omega
        have hm' : ¬ (100 : Int) < (m : Int) := by omega
        clear hD hD' HN
        go_enter Try.func4, Try.ntmps4
        go_wp2_with fail
        refine HM.out.mono ?_
        rintro e w1 ⟨rfl, rfl⟩
        rw [hm.out]
        go_wp2_with fail
        refine (HK.out _).mono ?_
        rintro e w1 ⟨rfl, k1⟩
        go_wp2_with fail
        go_ret
        exact ⟨rfl, k1⟩
    · have hm := hid (show (decide (1 ≤ (m : Int)) && decide ((m : Int) ≤ 4096)) = true from by simp; omega)
      have hl' : (100 : Int) < (ll : Int) := by omega
      have hm' : ¬ (100 : Int) < (m : Int) := by omega
      clear hD hD' HN
      go_enter Try.func4, Try.ntmps4
      go_wp2_with fail
      refine HM.out.mono ?_
      rintro e w1 ⟨rfl, rfl⟩
      rw [hm.out]
      go_wp2_with fail
      refine (HK.out _).mono ?_
      rintro e w1 ⟨rfl, k1⟩
      go_wp2_with fail
      go_ret
      exact ⟨rfl, k1⟩
  · clear hD hD'
    by_cases hm : 1 ≤ n ∧ n ≤ 4096
    · have hmm := hid (show (decide (1 ≤ n) && decide (n ≤ 4096)) = true from by simp; omega)
      have hm' : (100 : Int) < n := by omega
      clear hn
      go_enter Try.func4, Try.ntmps4
      go_wp2_with fail
      refine HM.out.mono ?_
      rintro e w1 ⟨rfl, rfl⟩
      rw [hmm.out]
      go_wp2_with fail
      refine (HK.out _).mono ?_
      rintro e w1 ⟨rfl, k1⟩
      go_wp2_with fail
      go_ret
      exact ⟨rfl, k1⟩
    · have hmm := hid (show (decide (1 ≤ n) && decide (n ≤ 4096)) = false from by
        rw [Bool.and_eq_false_iff]; simp; omega)
      clear hn hm
      go_enter Try.func4, Try.ntmps4
      go_wp2_with fail
      refine HM.out.mono ?_
      rintro e w1 ⟨rfl, rfl⟩
      rw [hmm.out]
      go_wp2_with fail
      refine (HK.out _).mono ?_
      rintro e w1 ⟨rfl, k1⟩
      go_wp2_with fail
      go_ret
      exact ⟨rfl, k1⟩
end Go.Proofs.Ytldkogdkadgnkaa
