/- The law of reading, walked. -/
import Derived.Test.YtaanbonbdhjbpaaE21
import Derived.Deep.Cut
namespace Go.Proofs.Ytaanbonbdhjbpaa
set_option linter.unusedSimpArgs false
set_option linter.unusedVariables false
open Go.RowKit
attribute [local go_sem ↓] Go.wp_at_zero Go.wp_at_succ
theorem kn_to {w w1 w2 : World} (h : Kp NoB w w1) (k : Kp (fun b => w.heap.size ≤ b) w1 w2) : Kp NoB w w2 := kn_new h k (Nat.le_refl _)
theorem add_none (y : Addr) : y.add 0 = y := by obtain ⟨b, o, s⟩ := y; unfold Addr.add; split <;> simp_all
section
variable {w : World} {L : List Int}
theorem conv_sg {v : Value} (h : Sg w eB v L) : (convert 22 9 v).run Try.prog w = .ok (.string (strOfNums L)) w := by
  rcases h with ⟨rfl, rfl⟩ | ⟨y, c, rfl, _, _, hc⟩
  · rw [run_convert_bytes_nil w 22 5 sl22c u5c 0 0 9 u9c]; rfl
  · have hl : (loadCells y L.length).run Try.prog w = .ok (L.map (Value.int .u8)).toArray w := by
      have := run_loadCells_list (P := Try.prog) w y (L.map (Value.int .u8)) (fun j v hj => hc j v (by rw [flatB]; exact hj))
      simpa using this
    rw [run_convert_bytes_string w 22 9 5 (some y) L.length c sl22c u5c u9c, run_bytesToString w y L.length c L hl, foldl_push_bytes]
    simp [strOfNums, ByteArray.empty, ByteArray.emptyWithCapacity]
    rfl
theorem el22 : Try.prog.underlying 22 = some (.slice (Try.prog.elem 22)) := by kernel_rfl
theorem run_pre {o : Option Addr} {c : Nat} (h : Sg w eB (.slice o L.length c) L) {k : Nat} (hk : k ≤ L.length) : ∃ o', (∀ W, (Instr.slice 22 (.slice o L.length c) none (some (.int .i64 (k : Int))) none).run Try.prog W = .ok (.slice o' k c) W) ∧ Sg w eB (.slice o' k c) (L.take k) := by
  have hc := h.form
  obtain ⟨_, _, e, hc⟩ := hc
  injection e with _ _ e
  subst e
  have hsz : ∀ W, (Go.sizeOf (Try.prog.elem 22)).run Try.prog W = .ok 1 W := fun W => rfl
  refine ⟨if c = 0 then o else o.map (·.add (0 * 1)), fun W => ?_, ?_⟩
  · rw [run_slice_h W 22 o L.length c el22 .i64 (k : Int) (by omega) (by omega), hsz]
    simp only [Result.andThen, sliced, Int.toNat_natCast, Nat.sub_zero]
  · have ho : (if c = 0 then o else o.map (·.add (0 * 1))) = o := by
      split
      · rfl
      · cases o
        · rfl
        · simp [add_none]
    rw [ho]
    rcases h with ⟨h1, rfl⟩ | ⟨y, c', h1, h2, h3, h4⟩
    · obtain rfl : k = 0 := by simpa using hk
      injection h1 with h1 _ h3
      subst h1; subst h3
      exact .inl ⟨rfl, rfl⟩
    · injection h1 with h1 _ h5
      subst h1; subst h5
      refine .inr ⟨y, c, by rw [List.length_take, Nat.min_eq_left hk], by rw [List.length_take]; omega, fun hne => h3 (fun e => hne (by rw [e]; simp)), fun j u hj => h4 j u ?_⟩
      rw [flatB, List.getElem?_map] at hj ⊢
      obtain ⟨z, hz, rfl⟩ := Option.map_eq_some_iff.1 hj
      have hjk : j < k := by
        have := (List.getElem?_eq_some_iff.1 hz).1
        simp at this; omega
      rw [List.getElem?_take_of_lt hjk] at hz
      rw [hz]; rfl
end
section
variable {o : Oper} {a : Act}
theorem ex_conv {W : World} (y : Operand) (ho : o.op = .convert 22 9 y) (v : Value) (s : ByteArray) (hy : a.eval y = v) (hc : (convert 22 9 v).run Try.prog W = .ok (.string s) W) : (execOp a.eval o).run Try.prog W = .ok (.value (.string s)) W := by
  unfold execOp
  simp only [ho, hy, hc, Sem.run_bind, Result.andThen_ok]
  rfl
theorem ex_slice {W : World} (y h : Operand) (ho : o.op = .slice 22 y none (some h) none) (x i v : Value) (hy : a.eval y = x) (hh : a.eval h = i) (hc : ∀ W, (Instr.slice 22 x none (some i) none).run Try.prog W = .ok v W) : (execOp a.eval o).run Try.prog W = .ok (.value v) W := by
  unfold execOp
  simp only [ho, hy, hh, Option.map, Sem.run_bind, run_sliceAt_slice W 22 _ _ _ _ el22, hc, Result.andThen_ok]
  rfl
end
theorem byte_put {W : World} {M : List Int} {g c k : Nat} (h : RowAt W 5 eB 1 (.slice (some ⟨g, 0, none⟩) M.length c) M) (hk : k < M.length) (x : Int) : RowAt (W.setCell ⟨g, k, none⟩ (.int .u8 x)) 5 eB 1 (.slice (some ⟨g, 0, none⟩) M.length c) (M.set k x) := by
  have := RowAt.put (x := x) eB_len (by omega) h hk
  rw [Nat.mul_one] at this; exact this
theorem byte_cell {W : World} {M : List Int} {g c k : Nat} {x : Int} (h : RowAt W 5 eB 1 (.slice (some ⟨g, 0, none⟩) M.length c) M) (hk : M[k]? = some x) : W.cell? ⟨g, k, none⟩ = some (.int .u8 x) ∧ W.frozen? ⟨g, k, none⟩ = false ∧ ∃ A z, W.heap[g]? = some (.cells A 5 z) := by
  have hkl := (List.getElem?_eq_some_iff.1 hk).1
  have h1 := h.range eB_len hk 0 _ rfl
  have h2 := (h.there eB_len hkl 0 (by omega)).2
  rw [Nat.mul_one, Nat.add_zero] at h1 h2
  refine ⟨h1, h2, ?_⟩
  obtain ⟨b, cc, A, he, hb, _⟩ := h.pos eB_len (by omega)
  injection he with he _ _; injection he with he; injection he with he
  subst he
  exact ⟨A, _, hb⟩
theorem st_list {Ms : List (Int × Int)} {m : Nat} (h : Ms.length = m) : (List.range m).map (stH Ms) = Ms := by
  apply List.ext_getElem?
  intro i
  by_cases hi : i < m
  · rw [List.getElem?_map, List.getElem?_range hi, List.getElem?_eq_getElem (by omega)]
    simp [stH, List.getElem?_eq_getElem (show i < Ms.length by omega)]
  · rw [List.getElem?_eq_none (by simpa using hi), List.getElem?_eq_none (by omega)]
theorem st_end {Ms : List (Int × Int)} {m : Nat} (h : Ms.length = m) : stH Ms m = (0, 0) := by
  unfold stH; rw [List.getElem?_eq_none (by omega)]; rfl
/-- a reader's step over a payload that was written -/
theorem rd_step {W : World} {p l q : Nat} {v bv : Value} {S : List Sl3} {B : List Nat} {E m mx j : Nat} {Ms : List (Int × Int)} {L : List Int} (A : AAt W p l v S B E) (o : AOk S B E) (tr : Tr S (stH Ms) (lnB L) (atB L) m) (hMs : Ms.length = m) (hm : m = (pcs L).length) (hmx : mx = max m 1) (hj : j < mx)
    (R : RAt W q p (stH Ms j).1 (stH Ms j).2 bv (L.take (16 * j))) : Calls Try.prog 26 #[.pointer (some ⟨q, 0, none⟩)] W fun e w' => e = .returned (.tuple #[.bool ((j : Int) == (mx : Int) - 1), .int .i64 0]) ∧
      ∃ bv', RAt w' q p (stH Ms (min (j + 1) m)).1 (stH Ms (min (j + 1) m)).2 bv' (L.take (16 * (j + 1))) ∧ (bv'.ownBlock = bv.ownBlock ∨ ∃ x, bv'.ownBlock = some x ∧ W.heap.size ≤ x) ∧ Kp (fun x => x = q ∨ bv.ownBlock = some x) W w' := by
  by_cases h0 : m = 0
  · obtain rfl : j = 0 := by omega
    have hL : L = [] := by
      rw [pcs_len] at hm; unfold need at hm
      exact List.eq_nil_of_length_eq_zero (by omega)
    have hst : stH Ms 0 = (0, 0) := by rw [← h0]; exact st_end hMs
    subst hL
    rw [hst] at R
    refine (rstep_end R).mono ?_
    rintro e w' ⟨rfl, rfl⟩
    have hmx1 : mx = 1 := by omega
    refine ⟨by rw [hmx1]; rfl, bv, ?_, .inl rfl, Kp.refl _ _⟩
    rw [h0, Nat.min_zero, hst]
    simpa using R
  · have hjm : j < m := by omega
    rw [← mm_take] at R
    refine (tr_step A o tr hjm R).mono ?_
    rintro e w' ⟨rfl, bv', R', n', k'⟩
    rw [mm_take] at R'
    refine ⟨?_, bv', by rw [Nat.min_eq_left (by omega)]; exact R', n', k'⟩
    have hmx1 : mx = m := by omega
    by_cases he : j + 1 = m
    · rw [he, st_end hMs, hmx1]
      have : ((j : Int) == (m : Int) - 1) = true := by simp; omega
      rw [this]; rfl
    · obtain ⟨_, _, hp, _⟩ := tr.at_ (j + 1) (by omega)
      have h1 : ((stH Ms (j + 1)).2 == 0) = false := by simp; omega
      have h2 : ((j : Int) == (mx : Int) - 1) = false := by simp; omega
      rw [h1, h2]
set_option maxRecDepth 100000 in
set_option maxHeartbeats 8000000 in
theorem reads_law (w : World) {u1 u2 : Value} {L1 L2 : List Int} (hu1 : Bin w u1 L1) (hu2 : Bin w u2 L2) : Calls Try.prog 6 #[u1, u2] w fun e w' => e = .returned (.bool true) ∧ Kp NoB w w' := by
  have HK := hid known_any
  obtain ⟨y1, c1, hv1, hc1⟩ := hu1.1.form
  subst hv1
  obtain ⟨y2, c2, hv2, hc2⟩ := hu2.1.form
  subst hv2
  by_cases h1l : 256 < L1.length
  · have h1' : (256 : Int) < (L1.length : Int) := by omega
    clear hu1 hu2
    go_enter Try.func6, Try.ntmps6
    go_wp2_with fail
    refine (HK.out _).mono ?_
    rintro e w1 ⟨rfl, k1⟩
    go_wp2_with fail
    go_ret
    exact ⟨rfl, k1⟩
  have h1' : ¬ (256 : Int) < (L1.length : Int) := by omega
  by_cases h2l : 256 < L2.length
  · have h2' : (256 : Int) < (L2.length : Int) := by omega
    clear hu1 hu2
    go_enter Try.func6, Try.ntmps6
    go_wp2_with fail
    refine (HK.out _).mono ?_
    rintro e w1 ⟨rfl, k1⟩
    go_wp2_with fail
    go_ret
    exact ⟨rfl, k1⟩
  have h2' : ¬ (256 : Int) < (L2.length : Int) := by omega
  have HN := hid (ag_new 40 (by omega) (by omega) w)
  have n1 : (pcs L1).length ≤ 16 := by rw [pcs_len]; unfold need; omega
  have n2 : (pcs L2).length ≤ 16 := by rw [pcs_len]; unfold need; omega
  replace hu1 := hid hu1
  replace hu2 := hid hu2
  go_enter Try.func6, Try.ntmps6
  go_wp2_with fail
  refine HN.out.mono ?_
  rintro e w1 ⟨p, l, rfl, A1, hp, k1⟩
  have HW := hid (written_go A1 k1.size (hu1.out.1.kn k1) (by omega) (by omega))
  clear A1 HN
  go_wp2_with fail
  refine HW.out.mono ?_
  rintro e w2 ⟨v1, q1, Hs1, rfl, R1, _, G1, _, kk2⟩
  have k2 := kn_to k1 kk2
  obtain ⟨om1, cm1, hm1, _⟩ := R1.form
  have hl1 : Hs1.reverse.length = (pcs L1).length := by obtain ⟨_, _, _, _, _, _, _, _, _, _, _, hH, _⟩ := G1; rw [List.length_reverse, hH]
  rw [hl1] at hm1
  subst hm1
  have HW2 := hid (written_go G1.ag k2.size (hu2.out.1.kn k2) (by omega) (by omega))
  clear G1 R1 HW kk2 hl1
  go_wp2_with fail
  refine HW2.out.mono ?_
  rintro e w3 ⟨v2, q2, Hs2, rfl, R2, nb2, G2, _, kk3⟩
  have k3 := kn_to k2 kk3
  have hwf := hid (fun k hh hk => wg_wf (k := k) (hh := hh) G2 hk)
  obtain ⟨v, S, B, E, A, o, tr, hMs⟩ := wg_tr G2 (by omega)
  obtain ⟨Ms, hMe⟩ : ∃ Ms, Ms = Hs2.reverse := ⟨_, rfl⟩
  rw [← hMe] at R2 hwf tr hMs
  obtain ⟨m, hm⟩ : ∃ m, m = (pcs L2).length := ⟨_, rfl⟩
  rw [← hm] at tr hMs n2
  obtain ⟨om2, cm2, hm2, hmc⟩ := R2.form
  rw [hMs] at hm2
  subst hm2
  replace R2 := hid R2
  replace A := hid A
  replace tr := hid tr
  replace hMs := hid hMs
  replace hm := hid hm
  clear G2 HW2 kk3 hMe k1 k2
  go_upto_region 11 with fail
  obtain ⟨b11, e11⟩ : ∃ b, b = w3.heap.size := ⟨_, rfl⟩
  obtain ⟨W4, hW4⟩ : ∃ W, W = w3.alloc (.cells #[.int .i64 0, .int .u64 0] 33) := ⟨_, rfl⟩
  have H11 : W4.heap[b11]? = some (.cells #[.int .i64 0, .int .u64 0] 33 (0, 0)) := by rw [hW4]; exact blk_new' _ _ e11
  have k4 := (Kp.refl NoB w3).alloc (.cells #[.int .i64 0, .int .u64 0] 33)
  rw [← hW4] at k4
  rw [← hW4, ← e11]
  have hb11 : w3.heap.size ≤ b11 := by omega
  clear hW4 e11
  have HNd : Hid (∀ W, Calls Try.prog 11 #[.int .i64 L1.length] W fun e w' => e = .returned (.int .i64 ((pcs L1).length : Nat)) ∧ W = w') := hid (fun W => by
    have := rneed_any (L1.length : Int) (by omega) W
    rw [needI_nat (by omega), ← pcs_len] at this
    exact this)
  obtain ⟨na, hna⟩ : ∃ na, na = (pcs L1).length := ⟨_, rfl⟩
  rw [← hna] at HNd n1 ⊢
  replace hna := hid hna
  obtain ⟨i0, hi0⟩ : ∃ i0, i0 = (stH Ms 0).1 := ⟨_, rfl⟩
  obtain ⟨g0, hg0⟩ : ∃ g0, g0 = (stH Ms 0).2 := ⟨_, rfl⟩
  rcases Nat.eq_zero_or_pos m with hm0 | hm0
  · skip
    have hm0' : ¬ (0 : Int) < (m : Int) := by omega
    have hs0 : stH Ms 0 = (0, 0) := by rw [← hm0]; exact st_end hMs.out
    have hi1 : i0 = 0 := by rw [hi0, hs0]
    have hg1 : g0 = 0 := by rw [hg0, hs0]
    replace hm0 := hid hm0
    replace hi0 := hid hi0
    replace hg0 := hid hg0
    replace hi1 := hid hi1
    replace hg1 := hid hg1
    clear hs0
    go_upto_region 13 with fail
    obtain ⟨W5, e5⟩ : ∃ W, W = W4 := ⟨_, rfl⟩
    rw [← e5] at H11 k4 ⊢
    replace H11 : W5.heap[b11]? = some (.cells #[.int .i64 i0, .int .u64 g0] 33 (0, 0)) := by rw [hi1.out, hg1.out]; exact H11
    clear e5 hi1 hg1 hm0'
    have A5 := A.out.kn k4
    have HR := hid (read_go (i := i0) (g := g0) A5 o.n1)
    have l1 : W5.cell? ⟨b11, 0, none⟩ = some (.int .i64 i0) := by rw [cell_of H11]; rfl
    have l2 : W5.cell? ⟨b11, 1, none⟩ = some (.int .u64 g0) := by rw [cell_of H11]; rfl
    replace H11 := hid H11
    go_wp2_with fail
    refine HR.out.mono ?_
    rintro e W6 ⟨q, rfl, RQ, hq, k6⟩
    have A6 := A5.kn k6
    have H11' := k6.get H11.out (fun h => h)
    have k46 := k4.trans k6
    have HC : Hid (Calls Try.prog 24 #[.pointer (some ⟨p, 0, none⟩), .agg #[.int .i64 i0, .int .u64 g0]] W6 (ChPost W6 (stH Ms) m false)) := by
      have := chain_any A6 o tr.out false (by show (stH Ms m).2 = 0; rw [st_end hMs.out])
      rw [← hi0.out, ← hg0.out] at this
      exact hid this
    have l1' : W6.cell? ⟨b11, 0, none⟩ = some (.int .i64 i0) := by rw [cell_of H11']; rfl
    have l2' : W6.cell? ⟨b11, 1, none⟩ = some (.int .u64 g0) := by rw [cell_of H11']; rfl
    rw [hi0.out, hg0.out] at RQ
    replace RQ := hid RQ
    have hq3 : w3.heap.size ≤ q := Nat.le_trans k4.size hq
    clear HR l1 l2 H11 A5 A6 k4 k6 H11'
    go_wp2_with fail
    refine HC.out.mono ?_
    rintro e W7 ⟨cv, rfl, RC, nc, k7⟩
    rw [st_list hMs.out] at RC
    obtain ⟨oc, cc, hcv, hcc⟩ := RC.form
    rw [hMs.out] at hcv
    subst hcv
    have RQ7 := hid (RQ.out.kn k7)
    have k47 := k46.trans k7
    have R27 := hid (R2.out.kp k47 (fun _ _ h => h))
    replace RC := hid RC
    clear HC l1' l2' RQ k7 k46 R2 hcc
    go_wp2_with fail
    refine (HNd.out _).mono ?_
    rintro e Wx ⟨rfl, rfl⟩
    go_wp2_with fail
    go_loopw [16] (fun i W => ∃ j : Nat, j ≤ m ∧ i = .int .i64 j ∧ Kp NoB W7 W) (fun i _ => m - (intOf i).toNat)
    case atStart => exact ⟨0, Nat.zero_le _, rfl, Kp.refl _ _⟩
    case round =>
      obtain ⟨j, hj, rfl, kj⟩ := hrel
      by_cases hlt : j < m
      · have b1 : (0 : Int) ≤ (j : Int) := Int.natCast_nonneg _
        have b2 : (j : Int) < (m : Int) := by omega
        obtain ⟨⟨ha, hb⟩, hh⟩ : ∃ h, Ms[j]? = some h := ⟨_, List.getElem?_eq_getElem (by rw [hMs.out]; exact hlt)⟩
        obtain ⟨ga, da, ea, _, _, _⟩ := R27.out.blk (by rw [hMs.out]; omega)
        obtain ⟨gb, db, eb, _, _, _⟩ := RC.out.blk (by rw [hMs.out]; omega)
        rw [hMs.out] at ea eb
        injection ea with ea _ ea'
        injection eb with eb _ eb'
        subst ea; subst ea'; subst eb; subst eb'
        have RA : RowAt wr 33 eH 2 (.slice (some ⟨ga, 0, none⟩) Ms.length cm2) Ms := by rw [hMs.out]; exact R27.out.kp kj (fun _ _ h => h)
        have RB : RowAt wr 33 eH 2 (.slice (some ⟨gb, 0, none⟩) Ms.length cc) Ms := by rw [hMs.out]; exact RC.out.kp kj (fun _ _ h => h)
        have ra := RA.range eH_len hh
        have rb := RB.range eH_len hh
        have a1 : wr.cell? ⟨ga, j * 2, none⟩ = some (.int .i64 ha) := ra 0 _ rfl
        have a2 : wr.cell? ⟨ga, j * 2 + 1, none⟩ = some (.int .u64 hb) := ra 1 _ rfl
        have c1 : wr.cell? ⟨gb, j * 2, none⟩ = some (.int .i64 ha) := rb 0 _ rfl
        have c2 : wr.cell? ⟨gb, j * 2 + 1, none⟩ = some (.int .u64 hb) := rb 1 _ rfl
        replace hh := hid hh
        clear RA RB ra rb
        go_wp2_with fail
        refine wp_region_G (fun _ => True) [(0, .at_), (1, .at_), (2, .at_), (3, .at_), (4, .at_), (5, .at_), (6, .at_), (7, .at_), (8, .at_)] ?L1 (by kernel_rfl) (by kernel_rfl) ?hL1 (trivial) ?hG1
        case hL1 => simp only [pickOps, List.map_cons, List.map_nil, List.getD_cons_zero, List.getD_cons_succ]; rfl
        repeat (first | (refine wpG_at (v := ?_) (by rfl) ?_ ?_; rotate_left; (focus (first | (go_simp; with_reducible rfl) | (go_simp; done))); simp only [Act.put, List.setIfInBounds_toArray, List.set_cons_zero, List.set_cons_succ]) | (refine wpG_at_skip (by rfl) ?_; simp only [Act.put, List.setIfInBounds_toArray, List.set_cons_zero, List.set_cons_succ]) | (refine wpG_held_skip (by rfl) ?_; simp only [Act.put, List.setIfInBounds_toArray, List.set_cons_zero, List.set_cons_succ]) | (refine wpG_held (v := ?_) (by rfl) ?_ ?_; rotate_left; (focus (intro w' hSw; (try dsimp only at hSw); go_split_ands; first | (go_simp; with_reducible rfl) | (go_simp; done))); simp only [Act.put, List.setIfInBounds_toArray, List.set_cons_zero, List.set_cons_succ]))
        refine wpG_nil (NoPanic.normal ?_)
        go_wp2_with fail
        refine ⟨⟨j + 1, by omega, by go_num, kj.drew⟩, ?_⟩
        simp [intOf]; omega
      · go_wp2_with fail
        obtain ⟨mx, hmx⟩ : ∃ mx : Nat, mx = max m 1 := ⟨_, rfl⟩
        have hm1 : (m : Int) < 1 := by have := hm0.out; omega
        have hmxI : (mx : Int) = (1 : Int) := by have := hm0.out; omega
        replace hmxI := hid hmxI
        have kr := k47.trans kj
        have RQr := hid (RQ7.out.kn kj)
        clear RC R27 RQ7 kj k47 nc
        replace hmx := hid hmx
        go_loopw [17] (fun i W => ∃ (j : Nat) (bv : Value), j ≤ mx ∧ i = .int .i64 j ∧ RAt W q p (stH Ms (min j m)).1 (stH Ms (min j m)).2 bv (L2.take (16 * j)) ∧ (∀ x, bv.ownBlock = some x → w3.heap.size ≤ x) ∧ Kp NoB w3 W) (fun i _ => mx - (intOf i).toNat)
        case atStart =>
          exact ⟨0, _, Nat.zero_le _, rfl, by rw [Nat.zero_min]; exact RQr.out, by simp [Value.ownBlock], kr⟩
        case round =>
          obtain ⟨j2, bv, hj2, rfl, R, nb, kk⟩ := hrel
          by_cases hlt2 : j2 < mx
          · have b1 : (0 : Int) ≤ (j2 : Int) := Int.natCast_nonneg _
            have b2 : (j2 : Int) < (1 : Int) := by have := hmxI.out; omega
            have hs16 : 16 * j2 ≤ L2.length := by
              have h1 := hmx.out
              have h2 := hm.out
              rw [pcs_len] at h2
              unfold need at h2
              omega
            obtain ⟨o', hsl, hpre⟩ := run_pre (hu2.out.1.kn (k3.trans kk)) hs16
            rw [show ((16 * j2 : Nat) : Int) = 16 * (j2 : Int) from by push_cast; rfl] at hsl
            have hmn : ¬ (L2.length : Int) < 16 * (j2 : Int) := by omega
            replace hsl : ∀ W, (Instr.slice 22 (.slice y2 L2.length c2) none (some (.int .i64 (if (L2.length : Int) < 16 * (j2 : Int) then (L2.length : Int) else 16 * (j2 : Int)))) none).run Try.prog W = .ok (.slice o' (16 * j2) c2) W := by rw [if_neg hmn]; exact hsl
            replace hmn := hid hmn
            have hwr : IntKind.i64.wrap (16 * (j2 : Int)) = 16 * (j2 : Int) := wi_in (by omega)
            have Rd := R.kn ((Kp.refl NoB wr).drew)
            have HB := hid (bytes_go Rd (by simp; omega))
            clear Rd
            have hjm : min j2 m = j2 := by have := hmx.out; omega
            rw [hjm] at R
            replace R := hid R
            replace hpre := hid hpre
            replace hs16 := hid hs16
            replace hjm := hid hjm
            go_wp2_with fail
            refine wp_region_G (fun W => (convert 22 9 (.slice o' (16 * j2) c2)).run Try.prog W = .ok (.string (strOfNums (L2.take (16 * j2)))) W) [(0, .at_), (3, .held), (4, .held), (5, .held), (6, .held), (7, .held), (8, .held), (9, .held), (10, .held), (1, .eff), (2, .at_), (11, .at_)] ?L2 (by kernel_rfl) (by kernel_rfl) ?hL2 (conv_sg hpre.out) ?hG2
            case hL2 => simp only [pickOps, List.map_cons, List.map_nil, List.getD_cons_zero, List.getD_cons_succ]; rfl
            repeat (first | (refine wpG_held (by rfl) (fun w' hS => ex_slice _ _ rfl _ _ _ rfl rfl hsl) ?_; simp only [Act.put, List.setIfInBounds_toArray, List.set_cons_zero, List.set_cons_succ]) | (refine wpG_held (by rfl) (fun w' hS => ex_conv _ rfl _ _ rfl hS) ?_; simp only [Act.put, List.setIfInBounds_toArray, List.set_cons_zero, List.set_cons_succ]) | (refine wpG_at (v := ?_) (by rfl) ?_ ?_; rotate_left; (focus (first | (go_simp; with_reducible rfl) | (go_simp; done))); simp only [Act.put, List.setIfInBounds_toArray, List.set_cons_zero, List.set_cons_succ]) | (refine wpG_at_skip (by rfl) ?_; simp only [Act.put, List.setIfInBounds_toArray, List.set_cons_zero, List.set_cons_succ]) | (refine wpG_held_skip (by rfl) ?_; simp only [Act.put, List.setIfInBounds_toArray, List.set_cons_zero, List.set_cons_succ]) | (refine wpG_held (v := ?_) (by rfl) ?_ ?_; rotate_left; (focus (intro w' hSw; (try dsimp only at hSw); go_split_ands; first | (go_simp; with_reducible rfl) | (go_simp; done))); simp only [Act.put, List.setIfInBounds_toArray, List.set_cons_zero, List.set_cons_succ]))
            refine wpG_eff (by rfl) (fun K hK => ?_)
            go_simp
            refine HB.out.mono ?_
            rintro e W8 ⟨bs, rfl, RB, _, k8⟩
            have R8 := R.out.kn ((Kp.refl NoB wr).drew.trans k8)
            have kk8 := kk.drew.trans k8
            have hcv := conv_row RB
            refine hK _ _ (conv_sg (hpre.out.kn ((Kp.refl NoB wr).drew.trans k8))) ?_
            clear hK K
            repeat (first | (refine wpG_at (by rfl) (ex_conv _ rfl _ _ rfl hcv) ?_; simp only [Act.put, List.setIfInBounds_toArray, List.set_cons_zero, List.set_cons_succ]) | (refine wpG_at (v := ?_) (by rfl) ?_ ?_; rotate_left; (focus (first | (go_simp; with_reducible rfl) | (go_simp; done))); simp only [Act.put, List.setIfInBounds_toArray, List.set_cons_zero, List.set_cons_succ]) | (refine wpG_at_skip (by rfl) ?_; simp only [Act.put, List.setIfInBounds_toArray, List.set_cons_zero, List.set_cons_succ]) | (refine wpG_held_skip (by rfl) ?_; simp only [Act.put, List.setIfInBounds_toArray, List.set_cons_zero, List.set_cons_succ]) | (refine wpG_held (v := ?_) (by rfl) ?_ ?_; rotate_left; (focus (intro w' hSw; (try dsimp only at hSw); go_split_ands; first | (go_simp; with_reducible rfl) | (go_simp; done))); simp only [Act.put, List.setIfInBounds_toArray, List.set_cons_zero, List.set_cons_succ]))
            refine wpG_nil (NoPanic.normal ?_)
            replace hmn := hmn.out
            rw [if_neg (Int.not_lt.2 hmn)]
            go_wp2_with fail
            have HS := hid (rd_step (A.out.kn kk8) o tr.out hMs.out hm.out hmx.out hlt2 R8)
            rw [hmxI.out] at HS
            clear R8 RB hcv HB hpre hsl
            refine HS.out.mono ?_
            rintro e W9 ⟨rfl, bv', R9, n9, k9⟩
            have kz := kk8.trans' k9 (fun x hx e => by
              rcases e with e | e
              · omega
              · have := nb x e; omega)
            have nz : ∀ x, bv'.ownBlock = some x → w3.heap.size ≤ x := fun x hx => by
              rcases n9 with e | ⟨x', e, h'⟩
              · exact nb x (by rw [← e]; exact hx)
              · rw [hx] at e; injection e with e; subst e
                exact Nat.le_trans kk8.size h'
            replace R9 := hid R9
            clear HS k9 n9
            go_wp2_with fail
            refine ⟨⟨j2 + 1, bv', by omega, by go_num, R9.out, nz, kz⟩, ?_⟩
            simp [intOf]; omega
          · have b2 : ¬ (j2 : Int) < (1 : Int) := by have := hmxI.out; omega
            have R0 : RAt wr q p 0 0 bv L2 := by
              have h1 := hmx.out
              have h2 := hm.out
              rw [pcs_len] at h2
              unfold need at h2
              have hz : stH Ms (min j2 m) = (0, 0) := by rw [show min j2 m = m by omega]; exact st_end hMs.out
              have ht : L2.take (16 * j2) = L2 := List.take_of_length_le (by omega)
              rw [hz, ht] at R; exact R
            have HB := hid (bytes_go R0 (by omega))
            replace R0 := hid R0
            clear R
            go_wp2_with fail
            refine HB.out.mono ?_
            rintro e W8 ⟨ys, rfl, RB, nB, k8⟩
            have hcy := conv_row RB
            have hcb := conv_sg (hu2.out.1.kn (k3.trans (kk.trans k8)))
            obtain ⟨ob, cb, hvb, _⟩ := RB.form
            subst hvb
            replace RB := hid RB
            replace nB := hid nB
            clear HB
            go_wp2_with fail
            clear hcy hcb
            go_loopw [21] (fun i V => ∃ (j : Nat) (M : List Int), j ≤ L2.length ∧ i = .int .i64 j ∧ M.length = L2.length ∧ RowAt V 5 eB 1 (.slice ob L2.length cb) M ∧ Kp NoB wr V) (fun i _ => L2.length - (intOf i).toNat)
            case atStart => exact ⟨0, L2, Nat.zero_le _, rfl, rfl, RB.out, k8⟩
            case round =>
              obtain ⟨j3, M, hj3, rfl, hM, RM, kv⟩ := hrel
              by_cases hlt3 : j3 < L2.length
              · have c1 : (0 : Int) ≤ (j3 : Int) := Int.natCast_nonneg _
                have c2 : (j3 : Int) < (L2.length : Int) := by omega
                obtain ⟨g, cg, hv, hgo, hgl, hgc⟩ := RM.blk (by omega)
                rw [hM] at hv
                injection hv with hv1 _ hv3
                subst hv1; subst hv3
                obtain ⟨x, hx⟩ : ∃ x, M[j3]? = some x := ⟨_, List.getElem?_eq_getElem (by omega)⟩
                have RM' := RM
                rw [← hM] at RM'
                obtain ⟨d1, d2, _, _, _⟩ := byte_cell RM' hx
                have RN := byte_put RM' (k := j3) (by omega) (IntKind.u8.wrap (x + 1))
                rw [hM] at RN
                have KN := kv.setCell (p := ⟨g, j3, none⟩) (.int .u8 (IntKind.u8.wrap (x + 1))) (fun h => by have := nB.out g hgo; have h : g < _ := h; omega)
                replace RN := hid RN
                replace hM := hid hM
                clear RM RM' hx hgo
                go_wp2_with fail
                refine ⟨⟨j3 + 1, _, by omega, by go_num, by rw [List.length_set]; exact hM.out, RN.out, KN⟩, ?_⟩
                simp [intOf]; omega
              · have HE := hid (rstep_end (R0.out.kn kv))
                clear RM
                go_wp2_with fail
                refine HE.out.mono ?_
                rintro e W9 ⟨rfl, rfl⟩
                have HB := hid (bytes_go ((R0.out.kn kv).kn (Kp.refl NoB _).drew) (by omega))
                have kd := kk.trans (kv.drew)
                have HB2 := hu2.out.1.kn (k3.trans kd)
                go_wp2_with fail
                refine wp_region_G (fun W => (convert 22 9 (.slice y2 L2.length c2)).run Try.prog W = .ok (.string (strOfNums L2)) W) [(0, .at_), (1, .at_), (2, .at_), (3, .at_), (4, .at_), (5, .at_), (6, .at_), (9, .held), (10, .held), (7, .eff), (8, .at_), (11, .at_), (12, .at_), (13, .at_), (14, .eff), (15, .at_), (16, .at_)] ?L3 (by kernel_rfl) (by kernel_rfl) ?hL3 (conv_sg HB2) ?hG3
                case hL3 => simp only [pickOps, List.map_cons, List.map_nil, List.getD_cons_zero, List.getD_cons_succ]; rfl
                repeat (first | (refine wpG_held (by rfl) (fun w' hS => ex_conv _ rfl _ _ rfl hS) ?_; simp only [Act.put, List.setIfInBounds_toArray, List.set_cons_zero, List.set_cons_succ]) | (refine wpG_at (v := ?_) (by rfl) ?_ ?_; rotate_left; (focus (first | (go_simp; with_reducible rfl) | (go_simp; done))); simp only [Act.put, List.setIfInBounds_toArray, List.set_cons_zero, List.set_cons_succ]) | (refine wpG_at_skip (by rfl) ?_; simp only [Act.put, List.setIfInBounds_toArray, List.set_cons_zero, List.set_cons_succ]) | (refine wpG_held_skip (by rfl) ?_; simp only [Act.put, List.setIfInBounds_toArray, List.set_cons_zero, List.set_cons_succ]) | (refine wpG_held (v := ?_) (by rfl) ?_ ?_; rotate_left; (focus (intro w' hSw; (try dsimp only at hSw); go_split_ands; first | (go_simp; with_reducible rfl) | (go_simp; done))); simp only [Act.put, List.setIfInBounds_toArray, List.set_cons_zero, List.set_cons_succ]))
                refine wpG_eff (by rfl) (fun K hK => ?_)
                go_simp
                refine HB.out.mono ?_
                rintro e W10 ⟨ys2, rfl, RB2, _, k10⟩
                have hcy2 := conv_row RB2
                have HB3 := HB2.kn k10
                refine hK _ _ (conv_sg HB3) ?_
                clear hK K
                repeat (first | (refine wpG_at (by rfl) (ex_conv _ rfl _ _ rfl hcy2) ?_; simp only [Act.put, List.setIfInBounds_toArray, List.set_cons_zero, List.set_cons_succ]) | (refine wpG_at (v := ?_) (by rfl) ?_ ?_; rotate_left; (focus (first | (go_simp; with_reducible rfl) | (go_simp; done))); simp only [Act.put, List.setIfInBounds_toArray, List.set_cons_zero, List.set_cons_succ]) | (refine wpG_at_skip (by rfl) ?_; simp only [Act.put, List.setIfInBounds_toArray, List.set_cons_zero, List.set_cons_succ]) | (refine wpG_held_skip (by rfl) ?_; simp only [Act.put, List.setIfInBounds_toArray, List.set_cons_zero, List.set_cons_succ]) | (refine wpG_held (v := ?_) (by rfl) ?_ ?_; rotate_left; (focus (intro w' hSw; (try dsimp only at hSw); go_split_ands; first | (go_simp; with_reducible rfl) | (go_simp; done))); simp only [Act.put, List.setIfInBounds_toArray, List.set_cons_zero, List.set_cons_succ]))
                refine wpG_eff (by rfl) (fun K hK => ?_)
                go_simp
                refine (HK.out _).mono ?_
                rintro e W11 ⟨rfl, k11⟩
                refine hK _ _ (conv_sg (HB3.kn k11)) ?_
                clear hK K
                repeat (first | (refine wpG_at (v := ?_) (by rfl) ?_ ?_; rotate_left; (focus (first | (go_simp; with_reducible rfl) | (go_simp; done))); simp only [Act.put, List.setIfInBounds_toArray, List.set_cons_zero, List.set_cons_succ]) | (refine wpG_at_skip (by rfl) ?_; simp only [Act.put, List.setIfInBounds_toArray, List.set_cons_zero, List.set_cons_succ]) | (refine wpG_held_skip (by rfl) ?_; simp only [Act.put, List.setIfInBounds_toArray, List.set_cons_zero, List.set_cons_succ]) | (refine wpG_held (v := ?_) (by rfl) ?_ ?_; rotate_left; (focus (intro w' hSw; (try dsimp only at hSw); go_split_ands; first | (go_simp; with_reducible rfl) | (go_simp; done))); simp only [Act.put, List.setIfInBounds_toArray, List.set_cons_zero, List.set_cons_succ]))
                refine wpG_nil (NoPanic.normal ?_)
                go_wp2_with fail
                go_ret
                exact ⟨rfl, k3.trans ((kd.trans k10).trans k11)⟩
  · skip
    obtain ⟨g1, d1, e1, _, _, _⟩ := R2.out.blk (by rw [hMs.out]; exact hm0)
    rw [hMs.out] at e1
    injection e1 with e1 _ e1'
    subst e1; subst e1'
    have hm0' : (0 : Int) < (m : Int) := by omega
    obtain ⟨⟨ia, ga⟩, hh⟩ : ∃ h, Ms[0]? = some h := ⟨_, List.getElem?_eq_getElem (by rw [hMs.out]; exact hm0)⟩
    have hs0 : stH Ms 0 = (ia, ga) := by unfold stH; rw [hh]; rfl
    have hi1 : ia = i0 := by rw [hi0, hs0]
    have hg1 : ga = g0 := by rw [hg0, hs0]
    subst hi1
    subst hg1
    replace hm0 := hid hm0
    replace hi0 := hid hi0
    replace hg0 := hid hg0
    replace hs0 := hid hs0
    have RLk : RowAt W4 33 eH 2 (.slice (some ⟨g1, 0, none⟩) Ms.length cm2) Ms := by rw [hMs.out]; exact R2.out.kp k4 (fun _ _ h => h)
    have r1 := RLk.range eH_len hh
    have l1 : W4.cell? ⟨g1, 0, none⟩ = some (.int .i64 ia) := r1 0 _ rfl
    have l2 : W4.cell? ⟨g1, 1, none⟩ = some (.int .u64 ga) := r1 1 _ rfl
    have f1 := frozen_of H11 0
    have f2 := frozen_of H11 1
    have x1 : W4.cell? ⟨b11, 0, none⟩ = some (.int .i64 0) := by rw [cell_of H11]; rfl
    have x2 : W4.cell? ⟨b11, 1, none⟩ = some (.int .u64 0) := by rw [cell_of H11]; rfl
    go_upto_region 13 with fail
    obtain ⟨W5, e5⟩ : ∃ W, W = (W4.setCell ⟨b11, 0, none⟩ (.int .i64 ia)).setCell ⟨b11, 1, none⟩ (.int .u64 ga) := ⟨_, rfl⟩
    have H11' : W5.heap[b11]? = some (.cells #[.int .i64 ia, .int .u64 ga] 33 (0, 0)) := by
      rw [e5, blk_setCell (blk_setCell H11 0 _) 1 _]; rfl
    have k5 : Kp NoB w3 W5 := by
      rw [e5]
      exact k4.trans' ((Kp.refl (· = b11) W4).setCells (b := b11) (o := 0) [.int .i64 ia, .int .u64 ga] (fun _ => rfl)) (fun b hb e => by omega)
    rw [← e5]
    clear hm0' hh RLk r1 l1 l2 f1 f2 x1 x2 H11 k4 e5 hs0
    have k4 := k5
    have H11 := H11'
    clear k5 H11'
    obtain ⟨i0, ei⟩ : ∃ i0, i0 = ia := ⟨_, rfl⟩
    obtain ⟨g0, eg⟩ : ∃ g0, g0 = ga := ⟨_, rfl⟩
    rw [← ei] at hi0 H11 ⊢
    rw [← eg] at hg0 H11 ⊢
    obtain ⟨om2, eo⟩ : ∃ om2 : Option Addr, om2 = some ⟨g1, 0, none⟩ := ⟨_, rfl⟩
    rw [← eo] at R2 ⊢
    clear ei eg eo
    have A5 := A.out.kn k4
    have HR := hid (read_go (i := i0) (g := g0) A5 o.n1)
    have l1 : W5.cell? ⟨b11, 0, none⟩ = some (.int .i64 i0) := by rw [cell_of H11]; rfl
    have l2 : W5.cell? ⟨b11, 1, none⟩ = some (.int .u64 g0) := by rw [cell_of H11]; rfl
    replace H11 := hid H11
    go_wp2_with fail
    refine HR.out.mono ?_
    rintro e W6 ⟨q, rfl, RQ, hq, k6⟩
    have A6 := A5.kn k6
    have H11' := k6.get H11.out (fun h => h)
    have k46 := k4.trans k6
    have HC : Hid (Calls Try.prog 24 #[.pointer (some ⟨p, 0, none⟩), .agg #[.int .i64 i0, .int .u64 g0]] W6 (ChPost W6 (stH Ms) m false)) := by
      have := chain_any A6 o tr.out false (by show (stH Ms m).2 = 0; rw [st_end hMs.out])
      rw [← hi0.out, ← hg0.out] at this
      exact hid this
    have l1' : W6.cell? ⟨b11, 0, none⟩ = some (.int .i64 i0) := by rw [cell_of H11']; rfl
    have l2' : W6.cell? ⟨b11, 1, none⟩ = some (.int .u64 g0) := by rw [cell_of H11']; rfl
    rw [hi0.out, hg0.out] at RQ
    replace RQ := hid RQ
    have hq3 : w3.heap.size ≤ q := Nat.le_trans k4.size hq
    clear HR l1 l2 H11 A5 A6 k4 k6 H11'
    go_wp2_with fail
    refine HC.out.mono ?_
    rintro e W7 ⟨cv, rfl, RC, nc, k7⟩
    rw [st_list hMs.out] at RC
    obtain ⟨oc, cc, hcv, hcc⟩ := RC.form
    rw [hMs.out] at hcv
    subst hcv
    have RQ7 := hid (RQ.out.kn k7)
    have k47 := k46.trans k7
    have R27 := hid (R2.out.kp k47 (fun _ _ h => h))
    replace RC := hid RC
    clear HC l1' l2' RQ k7 k46 R2 hcc
    go_wp2_with fail
    refine (HNd.out _).mono ?_
    rintro e Wx ⟨rfl, rfl⟩
    go_wp2_with fail
    go_loopw [16] (fun i W => ∃ j : Nat, j ≤ m ∧ i = .int .i64 j ∧ Kp NoB W7 W) (fun i _ => m - (intOf i).toNat)
    case atStart => exact ⟨0, Nat.zero_le _, rfl, Kp.refl _ _⟩
    case round =>
      obtain ⟨j, hj, rfl, kj⟩ := hrel
      by_cases hlt : j < m
      · have b1 : (0 : Int) ≤ (j : Int) := Int.natCast_nonneg _
        have b2 : (j : Int) < (m : Int) := by omega
        obtain ⟨⟨ha, hb⟩, hh⟩ : ∃ h, Ms[j]? = some h := ⟨_, List.getElem?_eq_getElem (by rw [hMs.out]; exact hlt)⟩
        obtain ⟨ga, da, ea, _, _, _⟩ := R27.out.blk (by rw [hMs.out]; omega)
        obtain ⟨gb, db, eb, _, _, _⟩ := RC.out.blk (by rw [hMs.out]; omega)
        rw [hMs.out] at ea eb
        injection ea with ea _ ea'
        injection eb with eb _ eb'
        subst ea; subst ea'; subst eb; subst eb'
        have RA : RowAt wr 33 eH 2 (.slice (some ⟨ga, 0, none⟩) Ms.length cm2) Ms := by rw [hMs.out]; exact R27.out.kp kj (fun _ _ h => h)
        have RB : RowAt wr 33 eH 2 (.slice (some ⟨gb, 0, none⟩) Ms.length cc) Ms := by rw [hMs.out]; exact RC.out.kp kj (fun _ _ h => h)
        have ra := RA.range eH_len hh
        have rb := RB.range eH_len hh
        have a1 : wr.cell? ⟨ga, j * 2, none⟩ = some (.int .i64 ha) := ra 0 _ rfl
        have a2 : wr.cell? ⟨ga, j * 2 + 1, none⟩ = some (.int .u64 hb) := ra 1 _ rfl
        have c1 : wr.cell? ⟨gb, j * 2, none⟩ = some (.int .i64 ha) := rb 0 _ rfl
        have c2 : wr.cell? ⟨gb, j * 2 + 1, none⟩ = some (.int .u64 hb) := rb 1 _ rfl
        replace hh := hid hh
        clear RA RB ra rb
        go_wp2_with fail
        refine wp_region_G (fun _ => True) [(0, .at_), (1, .at_), (2, .at_), (3, .at_), (4, .at_), (5, .at_), (6, .at_), (7, .at_), (8, .at_)] ?L4 (by kernel_rfl) (by kernel_rfl) ?hL4 (trivial) ?hG4
        case hL4 => simp only [pickOps, List.map_cons, List.map_nil, List.getD_cons_zero, List.getD_cons_succ]; rfl
        repeat (first | (refine wpG_at (v := ?_) (by rfl) ?_ ?_; rotate_left; (focus (first | (go_simp; with_reducible rfl) | (go_simp; done))); simp only [Act.put, List.setIfInBounds_toArray, List.set_cons_zero, List.set_cons_succ]) | (refine wpG_at_skip (by rfl) ?_; simp only [Act.put, List.setIfInBounds_toArray, List.set_cons_zero, List.set_cons_succ]) | (refine wpG_held_skip (by rfl) ?_; simp only [Act.put, List.setIfInBounds_toArray, List.set_cons_zero, List.set_cons_succ]) | (refine wpG_held (v := ?_) (by rfl) ?_ ?_; rotate_left; (focus (intro w' hSw; (try dsimp only at hSw); go_split_ands; first | (go_simp; with_reducible rfl) | (go_simp; done))); simp only [Act.put, List.setIfInBounds_toArray, List.set_cons_zero, List.set_cons_succ]))
        refine wpG_nil (NoPanic.normal ?_)
        go_wp2_with fail
        refine ⟨⟨j + 1, by omega, by go_num, kj.drew⟩, ?_⟩
        simp [intOf]; omega
      · go_wp2_with fail
        obtain ⟨mx, hmx⟩ : ∃ mx : Nat, mx = max m 1 := ⟨_, rfl⟩
        have hm1 : ¬ (m : Int) < 1 := by have := hm0.out; omega
        have hmxI : (mx : Int) = (m : Int) := by have := hm0.out; omega
        replace hmxI := hid hmxI
        have kr := k47.trans kj
        have RQr := hid (RQ7.out.kn kj)
        clear RC R27 RQ7 kj k47 nc
        replace hmx := hid hmx
        go_loopw [17] (fun i W => ∃ (j : Nat) (bv : Value), j ≤ mx ∧ i = .int .i64 j ∧ RAt W q p (stH Ms (min j m)).1 (stH Ms (min j m)).2 bv (L2.take (16 * j)) ∧ (∀ x, bv.ownBlock = some x → w3.heap.size ≤ x) ∧ Kp NoB w3 W) (fun i _ => mx - (intOf i).toNat)
        case atStart =>
          exact ⟨0, _, Nat.zero_le _, rfl, by rw [Nat.zero_min]; exact RQr.out, by simp [Value.ownBlock], kr⟩
        case round =>
          obtain ⟨j2, bv, hj2, rfl, R, nb, kk⟩ := hrel
          by_cases hlt2 : j2 < mx
          · have b1 : (0 : Int) ≤ (j2 : Int) := Int.natCast_nonneg _
            have b2 : (j2 : Int) < (m : Int) := by have := hmxI.out; omega
            have hs16 : 16 * j2 ≤ L2.length := by
              have h1 := hmx.out
              have h2 := hm.out
              rw [pcs_len] at h2
              unfold need at h2
              omega
            obtain ⟨o', hsl, hpre⟩ := run_pre (hu2.out.1.kn (k3.trans kk)) hs16
            rw [show ((16 * j2 : Nat) : Int) = 16 * (j2 : Int) from by push_cast; rfl] at hsl
            have hmn : ¬ (L2.length : Int) < 16 * (j2 : Int) := by omega
            replace hsl : ∀ W, (Instr.slice 22 (.slice y2 L2.length c2) none (some (.int .i64 (if (L2.length : Int) < 16 * (j2 : Int) then (L2.length : Int) else 16 * (j2 : Int)))) none).run Try.prog W = .ok (.slice o' (16 * j2) c2) W := by rw [if_neg hmn]; exact hsl
            replace hmn := hid hmn
            have hwr : IntKind.i64.wrap (16 * (j2 : Int)) = 16 * (j2 : Int) := wi_in (by omega)
            have Rd := R.kn ((Kp.refl NoB wr).drew)
            have HB := hid (bytes_go Rd (by simp; omega))
            clear Rd
            have hjm : min j2 m = j2 := by have := hmx.out; omega
            rw [hjm] at R
            replace R := hid R
            replace hpre := hid hpre
            replace hs16 := hid hs16
            replace hjm := hid hjm
            go_wp2_with fail
            refine wp_region_G (fun W => (convert 22 9 (.slice o' (16 * j2) c2)).run Try.prog W = .ok (.string (strOfNums (L2.take (16 * j2)))) W) [(0, .at_), (3, .held), (4, .held), (5, .held), (6, .held), (7, .held), (8, .held), (9, .held), (10, .held), (1, .eff), (2, .at_), (11, .at_)] ?L5 (by kernel_rfl) (by kernel_rfl) ?hL5 (conv_sg hpre.out) ?hG5
            case hL5 => simp only [pickOps, List.map_cons, List.map_nil, List.getD_cons_zero, List.getD_cons_succ]; rfl
            repeat (first | (refine wpG_held (by rfl) (fun w' hS => ex_slice _ _ rfl _ _ _ rfl rfl hsl) ?_; simp only [Act.put, List.setIfInBounds_toArray, List.set_cons_zero, List.set_cons_succ]) | (refine wpG_held (by rfl) (fun w' hS => ex_conv _ rfl _ _ rfl hS) ?_; simp only [Act.put, List.setIfInBounds_toArray, List.set_cons_zero, List.set_cons_succ]) | (refine wpG_at (v := ?_) (by rfl) ?_ ?_; rotate_left; (focus (first | (go_simp; with_reducible rfl) | (go_simp; done))); simp only [Act.put, List.setIfInBounds_toArray, List.set_cons_zero, List.set_cons_succ]) | (refine wpG_at_skip (by rfl) ?_; simp only [Act.put, List.setIfInBounds_toArray, List.set_cons_zero, List.set_cons_succ]) | (refine wpG_held_skip (by rfl) ?_; simp only [Act.put, List.setIfInBounds_toArray, List.set_cons_zero, List.set_cons_succ]) | (refine wpG_held (v := ?_) (by rfl) ?_ ?_; rotate_left; (focus (intro w' hSw; (try dsimp only at hSw); go_split_ands; first | (go_simp; with_reducible rfl) | (go_simp; done))); simp only [Act.put, List.setIfInBounds_toArray, List.set_cons_zero, List.set_cons_succ]))
            refine wpG_eff (by rfl) (fun K hK => ?_)
            go_simp
            refine HB.out.mono ?_
            rintro e W8 ⟨bs, rfl, RB, _, k8⟩
            have R8 := R.out.kn ((Kp.refl NoB wr).drew.trans k8)
            have kk8 := kk.drew.trans k8
            have hcv := conv_row RB
            refine hK _ _ (conv_sg (hpre.out.kn ((Kp.refl NoB wr).drew.trans k8))) ?_
            clear hK K
            repeat (first | (refine wpG_at (by rfl) (ex_conv _ rfl _ _ rfl hcv) ?_; simp only [Act.put, List.setIfInBounds_toArray, List.set_cons_zero, List.set_cons_succ]) | (refine wpG_at (v := ?_) (by rfl) ?_ ?_; rotate_left; (focus (first | (go_simp; with_reducible rfl) | (go_simp; done))); simp only [Act.put, List.setIfInBounds_toArray, List.set_cons_zero, List.set_cons_succ]) | (refine wpG_at_skip (by rfl) ?_; simp only [Act.put, List.setIfInBounds_toArray, List.set_cons_zero, List.set_cons_succ]) | (refine wpG_held_skip (by rfl) ?_; simp only [Act.put, List.setIfInBounds_toArray, List.set_cons_zero, List.set_cons_succ]) | (refine wpG_held (v := ?_) (by rfl) ?_ ?_; rotate_left; (focus (intro w' hSw; (try dsimp only at hSw); go_split_ands; first | (go_simp; with_reducible rfl) | (go_simp; done))); simp only [Act.put, List.setIfInBounds_toArray, List.set_cons_zero, List.set_cons_succ]))
            refine wpG_nil (NoPanic.normal ?_)
            replace hmn := hmn.out
            rw [if_neg (Int.not_lt.2 hmn)]
            go_wp2_with fail
            have HS := hid (rd_step (A.out.kn kk8) o tr.out hMs.out hm.out hmx.out hlt2 R8)
            rw [hmxI.out] at HS
            clear R8 RB hcv HB hpre hsl
            refine HS.out.mono ?_
            rintro e W9 ⟨rfl, bv', R9, n9, k9⟩
            have kz := kk8.trans' k9 (fun x hx e => by
              rcases e with e | e
              · omega
              · have := nb x e; omega)
            have nz : ∀ x, bv'.ownBlock = some x → w3.heap.size ≤ x := fun x hx => by
              rcases n9 with e | ⟨x', e, h'⟩
              · exact nb x (by rw [← e]; exact hx)
              · rw [hx] at e; injection e with e; subst e
                exact Nat.le_trans kk8.size h'
            replace R9 := hid R9
            clear HS k9 n9
            go_wp2_with fail
            refine ⟨⟨j2 + 1, bv', by omega, by go_num, R9.out, nz, kz⟩, ?_⟩
            simp [intOf]; omega
          · have b2 : ¬ (j2 : Int) < (m : Int) := by have := hmxI.out; omega
            have R0 : RAt wr q p 0 0 bv L2 := by
              have h1 := hmx.out
              have h2 := hm.out
              rw [pcs_len] at h2
              unfold need at h2
              have hz : stH Ms (min j2 m) = (0, 0) := by rw [show min j2 m = m by omega]; exact st_end hMs.out
              have ht : L2.take (16 * j2) = L2 := List.take_of_length_le (by omega)
              rw [hz, ht] at R; exact R
            have HB := hid (bytes_go R0 (by omega))
            replace R0 := hid R0
            clear R
            go_wp2_with fail
            refine HB.out.mono ?_
            rintro e W8 ⟨ys, rfl, RB, nB, k8⟩
            have hcy := conv_row RB
            have hcb := conv_sg (hu2.out.1.kn (k3.trans (kk.trans k8)))
            obtain ⟨ob, cb, hvb, _⟩ := RB.form
            subst hvb
            replace RB := hid RB
            replace nB := hid nB
            clear HB
            go_wp2_with fail
            clear hcy hcb
            go_loopw [21] (fun i V => ∃ (j : Nat) (M : List Int), j ≤ L2.length ∧ i = .int .i64 j ∧ M.length = L2.length ∧ RowAt V 5 eB 1 (.slice ob L2.length cb) M ∧ Kp NoB wr V) (fun i _ => L2.length - (intOf i).toNat)
            case atStart => exact ⟨0, L2, Nat.zero_le _, rfl, rfl, RB.out, k8⟩
            case round =>
              obtain ⟨j3, M, hj3, rfl, hM, RM, kv⟩ := hrel
              by_cases hlt3 : j3 < L2.length
              · have c1 : (0 : Int) ≤ (j3 : Int) := Int.natCast_nonneg _
                have c2 : (j3 : Int) < (L2.length : Int) := by omega
                obtain ⟨g, cg, hv, hgo, hgl, hgc⟩ := RM.blk (by omega)
                rw [hM] at hv
                injection hv with hv1 _ hv3
                subst hv1; subst hv3
                obtain ⟨x, hx⟩ : ∃ x, M[j3]? = some x := ⟨_, List.getElem?_eq_getElem (by omega)⟩
                have RM' := RM
                rw [← hM] at RM'
                obtain ⟨d1, d2, _, _, _⟩ := byte_cell RM' hx
                have RN := byte_put RM' (k := j3) (by omega) (IntKind.u8.wrap (x + 1))
                rw [hM] at RN
                have KN := kv.setCell (p := ⟨g, j3, none⟩) (.int .u8 (IntKind.u8.wrap (x + 1))) (fun h => by have := nB.out g hgo; have h : g < _ := h; omega)
                replace RN := hid RN
                replace hM := hid hM
                clear RM RM' hx hgo
                go_wp2_with fail
                refine ⟨⟨j3 + 1, _, by omega, by go_num, by rw [List.length_set]; exact hM.out, RN.out, KN⟩, ?_⟩
                simp [intOf]; omega
              · have HE := hid (rstep_end (R0.out.kn kv))
                clear RM
                go_wp2_with fail
                refine HE.out.mono ?_
                rintro e W9 ⟨rfl, rfl⟩
                have HB := hid (bytes_go ((R0.out.kn kv).kn (Kp.refl NoB _).drew) (by omega))
                have kd := kk.trans (kv.drew)
                have HB2 := hu2.out.1.kn (k3.trans kd)
                go_wp2_with fail
                refine wp_region_G (fun W => (convert 22 9 (.slice y2 L2.length c2)).run Try.prog W = .ok (.string (strOfNums L2)) W) [(0, .at_), (1, .at_), (2, .at_), (3, .at_), (4, .at_), (5, .at_), (6, .at_), (9, .held), (10, .held), (7, .eff), (8, .at_), (11, .at_), (12, .at_), (13, .at_), (14, .eff), (15, .at_), (16, .at_)] ?L6 (by kernel_rfl) (by kernel_rfl) ?hL6 (conv_sg HB2) ?hG6
                case hL6 => simp only [pickOps, List.map_cons, List.map_nil, List.getD_cons_zero, List.getD_cons_succ]; rfl
                repeat (first | (refine wpG_held (by rfl) (fun w' hS => ex_conv _ rfl _ _ rfl hS) ?_; simp only [Act.put, List.setIfInBounds_toArray, List.set_cons_zero, List.set_cons_succ]) | (refine wpG_at (v := ?_) (by rfl) ?_ ?_; rotate_left; (focus (first | (go_simp; with_reducible rfl) | (go_simp; done))); simp only [Act.put, List.setIfInBounds_toArray, List.set_cons_zero, List.set_cons_succ]) | (refine wpG_at_skip (by rfl) ?_; simp only [Act.put, List.setIfInBounds_toArray, List.set_cons_zero, List.set_cons_succ]) | (refine wpG_held_skip (by rfl) ?_; simp only [Act.put, List.setIfInBounds_toArray, List.set_cons_zero, List.set_cons_succ]) | (refine wpG_held (v := ?_) (by rfl) ?_ ?_; rotate_left; (focus (intro w' hSw; (try dsimp only at hSw); go_split_ands; first | (go_simp; with_reducible rfl) | (go_simp; done))); simp only [Act.put, List.setIfInBounds_toArray, List.set_cons_zero, List.set_cons_succ]))
                refine wpG_eff (by rfl) (fun K hK => ?_)
                go_simp
                refine HB.out.mono ?_
                rintro e W10 ⟨ys2, rfl, RB2, _, k10⟩
                have hcy2 := conv_row RB2
                have HB3 := HB2.kn k10
                refine hK _ _ (conv_sg HB3) ?_
                clear hK K
                repeat (first | (refine wpG_at (by rfl) (ex_conv _ rfl _ _ rfl hcy2) ?_; simp only [Act.put, List.setIfInBounds_toArray, List.set_cons_zero, List.set_cons_succ]) | (refine wpG_at (v := ?_) (by rfl) ?_ ?_; rotate_left; (focus (first | (go_simp; with_reducible rfl) | (go_simp; done))); simp only [Act.put, List.setIfInBounds_toArray, List.set_cons_zero, List.set_cons_succ]) | (refine wpG_at_skip (by rfl) ?_; simp only [Act.put, List.setIfInBounds_toArray, List.set_cons_zero, List.set_cons_succ]) | (refine wpG_held_skip (by rfl) ?_; simp only [Act.put, List.setIfInBounds_toArray, List.set_cons_zero, List.set_cons_succ]) | (refine wpG_held (v := ?_) (by rfl) ?_ ?_; rotate_left; (focus (intro w' hSw; (try dsimp only at hSw); go_split_ands; first | (go_simp; with_reducible rfl) | (go_simp; done))); simp only [Act.put, List.setIfInBounds_toArray, List.set_cons_zero, List.set_cons_succ]))
                refine wpG_eff (by rfl) (fun K hK => ?_)
                go_simp
                refine (HK.out _).mono ?_
                rintro e W11 ⟨rfl, k11⟩
                refine hK _ _ (conv_sg (HB3.kn k11)) ?_
                clear hK K
                repeat (first | (refine wpG_at (v := ?_) (by rfl) ?_ ?_; rotate_left; (focus (first | (go_simp; with_reducible rfl) | (go_simp; done))); simp only [Act.put, List.setIfInBounds_toArray, List.set_cons_zero, List.set_cons_succ]) | (refine wpG_at_skip (by rfl) ?_; simp only [Act.put, List.setIfInBounds_toArray, List.set_cons_zero, List.set_cons_succ]) | (refine wpG_held_skip (by rfl) ?_; simp only [Act.put, List.setIfInBounds_toArray, List.set_cons_zero, List.set_cons_succ]) | (refine wpG_held (v := ?_) (by rfl) ?_ ?_; rotate_left; (focus (intro w' hSw; (try dsimp only at hSw); go_split_ands; first | (go_simp; with_reducible rfl) | (go_simp; done))); simp only [Act.put, List.setIfInBounds_toArray, List.set_cons_zero, List.set_cons_succ]))
                refine wpG_nil (NoPanic.normal ?_)
                go_wp2_with fail
                go_ret
                exact ⟨rfl, k3.trans ((kd.trans k10).trans k11)⟩
end Go.Proofs.Ytaanbonbdhjbpaa
