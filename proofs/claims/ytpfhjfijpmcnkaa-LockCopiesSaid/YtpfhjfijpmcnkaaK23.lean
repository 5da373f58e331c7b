/- Walks through the document's locks: what a task has. -/
import Derived.Test.YtpfhjfijpmcnkaaK22
namespace Go.Proofs.Ytpfhjfijpmcnkaa
set_option linter.unusedSimpArgs false
set_option linter.unusedVariables false
open Go.RowKit
attribute [local go_sem ↓] Go.wp_at_zero Go.wp_at_succ
section
variable {w w' : World} {p m q n : Nat} {M : List (Int × Value)} {L : List (Int × Int)} {v : Value} {l : List Int}
/-- append(v, x...), x a slice of whatever block -/
theorem run_grow_rs {P : Program} {e : TypeId} {t ty : TypeId} (ht : P.underlying t = some (.slice e)) (hinfo : (P.info? e).map (fun i => (i.zero, i.size, i.bytes)) = some (some (.int .i64 0), 1, 8))
    {v x : Value} {l lx : List Int} (hv : RowAt w e eI 1 v l) (hx : Rs e w x lx) (h1 : l.length + lx.length ≤ 1000000) :
    ∃ v' w', (Builtin.append_ #[t, t] ty #[v, x]).run P w = .ok v' w' ∧ RowAt w' e eI 1 v' (l ++ lx) ∧ w.grownBy w' v.ownBlock ∧ (v'.ownBlock = v.ownBlock ∨ ∃ b, v'.ownBlock = some b ∧ w.heap.size ≤ b) := by
  obtain ⟨i, hi, hzz⟩ := Option.map_eq_some_iff.1 hinfo
  simp only [Prod.mk.injEq] at hzz
  obtain ⟨hz, hsz, hby⟩ := hzz
  rcases Nat.eq_zero_or_pos lx.length with h0 | h0
  · obtain rfl := List.eq_nil_of_length_eq_zero h0
    obtain ⟨ox, cx, rfl, _⟩ := hx.form
    obtain ⟨o, c, rfl, hc, _⟩ := hv.form
    have := run_append_zero (P := P) w t ty e i ht hi o l.length c hc ox cx
    exact ⟨_, w, this, by simpa using hv, ⟨rfl, rfl, rfl, Nat.le_refl _, fun _ _ _ => rfl⟩, .inl rfl⟩
  · rcases hx with ⟨_, h⟩ | ⟨b, f, c, A, rfl, hb, hA, hc⟩
    · rw [h] at h0; simp at h0
    have hnews : ∀ j v, (lx.flatMap eI)[j]? = some v → w.cell? ((⟨b, f, none⟩ : Addr).add j) = some v := fun j v hj => by
      rw [show lx.flatMap eI = lx.map (Value.int .i64) from flat_map1 lx, List.getElem?_map] at hj
      obtain ⟨x, hx, rfl⟩ := Option.map_eq_some_iff.1 hj
      rw [Addr.add_lit, cell_of hb]; exact hA j x hx
    exact run_grow (P := P) eI_len (by omega) t ty e i _ 8 ht hi hz hsz hby rfl v l hv ⟨b, f, none⟩ lx c hnews (one3 _) (by omega) (by omega)
/-- append(append(append(nil, T...), x), D...): x laid behind the first one, or ahead of it -/
theorem insA {w : World} {V1 V2 : Value} {T D : List Int} {x : Int} (hT : Rs 23 w V1 T) (hD : Rs 23 w V2 D) (hl : T.length + D.length ≤ 100000) :
    ∃ va wa vb wb vc wc, (Builtin.append_ #[43, 43] 43 #[.slice none 0 0, V1]).run Try.prog w = .ok va wa ∧ (Builtin.append_ #[43, 43] 43 #[va, .slice (some ⟨wa.heap.size, 0, none⟩) 1 1]).run Try.prog (wa.alloc (.cells #[.int .i64 x] 23)) = .ok vb wb ∧
      (Builtin.append_ #[43, 43] 43 #[vb, V2]).run Try.prog wb = .ok vc wc ∧ RowAt wc 23 eI 1 vc (T ++ [x] ++ D) ∧ Kp NoB w wc := by
  obtain ⟨va, wa, r1, a1, ka, oa⟩ := run_nil_rs (P := Try.prog) (t := 43) (ty := 43) sl43 i23 hT (by omega)
  obtain ⟨vb, wb, r2, a2, g2, o2⟩ := run_grow_rs (P := Try.prog) (t := 43) (ty := 43) sl43 i23 (a1.alloc (.cells #[.int .i64 x] 23)) (Rs.one wa x) (by simp; omega)
  have kb : Kp NoB w wb := (ka.alloc (.cells #[.int .i64 x] 23)).trans' (kp_grown (F := fun b => va.ownBlock = some b) g2 (fun b hb => hb)) (fun b hb hg => absurd (oa b hg) (by omega))
  obtain ⟨vc, wc, r3, a3, g3, o3⟩ := run_grow_rs (P := Try.prog) (t := 43) (ty := 43) sl43 i23 a2 (hD.kn kb) (by simp; omega)
  have hob : ∀ b, vb.ownBlock = some b → w.heap.size ≤ b := fun b hb => by
    rcases o2 with o | ⟨b2, o, h2⟩
    · exact oa b (o ▸ hb)
    · rw [hb] at o; injection o with o; subst o
      exact Nat.le_trans (ka.alloc (.cells #[.int .i64 x] 23)).size h2
  exact ⟨va, wa, vb, wb, vc, wc, r1, r2, r3, a3, kb.trans' (kp_grown (F := fun b => vb.ownBlock = some b) g3 (fun b hb => hb)) (fun b hb hg => absurd (hob b hg) (by omega))⟩
theorem insB {w : World} {V1 V2 : Value} {T D : List Int} {x : Int} (hT : Rs 23 w V1 T) (hD : Rs 23 w V2 D) (hl : T.length + D.length ≤ 100000) :
    ∃ va wa vb wb vc wc, (Builtin.append_ #[43, 43] 43 #[.slice none 0 0, V1]).run Try.prog (w.alloc (.cells #[.int .i64 x] 23)) = .ok va wa ∧ (Builtin.append_ #[43, 43] 43 #[va, .slice (some ⟨w.heap.size, 0, none⟩) 1 1]).run Try.prog wa = .ok vb wb ∧
      (Builtin.append_ #[43, 43] 43 #[vb, V2]).run Try.prog wb = .ok vc wc ∧ RowAt wc 23 eI 1 vc (T ++ [x] ++ D) ∧ Kp NoB w wc := by
  have k0 := (Kp.refl NoB w).alloc (.cells #[.int .i64 x] 23)
  obtain ⟨va, wa, r1, a1, ka, oa⟩ := run_nil_rs (P := Try.prog) (t := 43) (ty := 43) sl43 i23 (hT.kn k0) (by omega)
  obtain ⟨vb, wb, r2, a2, g2, o2⟩ := run_grow_rs (P := Try.prog) (t := 43) (ty := 43) sl43 i23 a1 ((Rs.one w x).kn ka) (by simp; omega)
  have oa' : ∀ b, va.ownBlock = some b → w.heap.size ≤ b := fun b hb => Nat.le_trans k0.size (oa b hb)
  have kb : Kp NoB w wb := (k0.trans ka).trans' (kp_grown (F := fun b => va.ownBlock = some b) g2 (fun b hb => hb)) (fun b hb hg => absurd (oa' b hg) (by omega))
  obtain ⟨vc, wc, r3, a3, g3, o3⟩ := run_grow_rs (P := Try.prog) (t := 43) (ty := 43) sl43 i23 a2 (hD.kn kb) (by simp; omega)
  have hob : ∀ b, vb.ownBlock = some b → w.heap.size ≤ b := fun b hb => by
    rcases o2 with o | ⟨b2, o, h2⟩
    · exact oa' b (o ▸ hb)
    · rw [hb] at o; injection o with o; subst o
      exact Nat.le_trans (k0.trans ka).size h2
  exact ⟨va, wa, vb, wb, vc, wc, r1, r2, r3, a3, kb.trans' (kp_grown (F := fun b => vb.ownBlock = some b) g3 (fun b hb => hb)) (fun b hb hg => absurd (hob b hg) (by omega))⟩
/-- one put in its place -/
theorem ins_rising {l : List Int} {x : Int} {k : Nat} (hl : l.Pairwise (· < ·)) (h1 : ∀ i (hi : i < l.length), i < k → l[i] < x) (h2 : ∀ (hk : k < l.length), x < l[k]) : (l.take k ++ [x] ++ l.drop k).Pairwise (· < ·) := by
  rw [List.append_assoc, List.pairwise_append]
  refine ⟨hl.sublist (List.take_sublist _ _), ?_, ?_⟩
  · rw [List.singleton_append, List.pairwise_cons]
    refine ⟨?_, hl.sublist (List.drop_sublist _ _)⟩
    intro y hy
    obtain ⟨i, hi, rfl⟩ := List.getElem_of_mem hy
    rw [List.length_drop] at hi
    rw [List.getElem_drop]
    have hk : k < l.length := by omega
    rcases Nat.eq_zero_or_pos i with rfl | hi0
    · exact h2 hk
    · have := List.pairwise_iff_getElem.1 hl k (k + i) hk (by omega) (by omega)
      have := h2 hk
      omega
  · intro a ha b hb
    obtain ⟨i, hi, rfl⟩ := List.getElem_of_mem ha
    rw [List.length_take] at hi
    rw [List.getElem_take]
    have hx := h1 i (by omega) (by omega)
    rw [List.singleton_append, List.mem_cons] at hb
    rcases hb with rfl | hb
    · exact hx
    · obtain ⟨j, hj, rfl⟩ := List.getElem_of_mem hb
      rw [List.length_drop] at hj
      rw [List.getElem_drop]
      exact List.pairwise_iff_getElem.1 hl i (k + j) (by omega) (by omega) (by omega)
theorem ins_mem {l : List Int} {x y : Int} (k : Nat) : y ∈ l.take k ++ [x] ++ l.drop k ↔ (y = x ∨ y ∈ l) := by
  have : y ∈ l ↔ y ∈ l.take k ∨ y ∈ l.drop k := by rw [← List.mem_append, List.take_append_drop]
  rw [this]; simp only [List.mem_append, List.mem_singleton]
  constructor
  · rintro ((h | h) | h)
    · exact .inr (.inl h)
    · exact .inl h
    · exact .inr (.inr h)
  · rintro (h | h | h)
    · exact .inl (.inr h)
    · exact .inl (.inl h)
    · exact .inr h
/-- of the first j -/
def heldJ (L : List (Int × Int)) (t : Int) (j : Nat) : List Int := ((L.take j).filter (fun s => s.2 == t && hasB L t s.1)).map (·.1)
theorem heldJ_succ {L : List (Int × Int)} {t : Int} {j : Nat} {x y : Int} (h : L[j]? = some (x, y)) : heldJ L t (j + 1) = heldJ L t j ++ (if y = t ∧ hasB L t x = true then [x] else []) := by
  unfold heldJ
  rw [List.take_add_one, h]
  simp only [Option.toList_some, List.filter_append, List.map_append, List.filter_cons, List.filter_nil, Bool.and_eq_true, beq_iff_eq]
  split <;> rfl
theorem heldJ_all (L : List (Int × Int)) (t : Int) : heldJ L t L.length = heldU L t := by unfold heldJ heldU; rw [List.take_length]
theorem heldJ_out {n : Nat} {L : List (Int × Int)} (o : LOk n L) {t : Int} {j : Nat} {x y : Int} (h : L[j]? = some (x, y)) (hy : y = t ∧ hasB L t x = true) : x ∉ heldJ L t j := by
  have h1 := held_nodup o t
  rw [← heldJ_all] at h1
  have hsub : (heldJ L t (j + 1)).Nodup := by
    refine h1.sublist ?_
    unfold heldJ
    refine List.Sublist.map _ (List.Sublist.filter _ ?_)
    rw [List.take_length]
    exact List.take_sublist _ _
  rw [heldJ_succ h, if_pos hy, List.nodup_append] at hsub
  intro hin
  exact hsub.2.2 x hin x (by simp) rfl
set_option maxRecDepth 100000 in
set_option maxHeartbeats 8000000 in
theorem rheld_any (h : RAt w q n v L) (o : LOk n L) (n2 : L.length ≤ 4000) (t : Int) :
    Calls Try.prog 39 #[.pointer (some ⟨q, 0, none⟩), .int .i64 t] w fun e w' => ∃ v', e = .returned v' ∧ Rs 23 w' v' (heldL L t) ∧ Kp NoB w w' := by
  obtain ⟨ov, cv, hvv, _⟩ := h.hv.form
  subst hvv
  have H0 := hid h
  have HH := hid (fun W (k : Kp NoB w W) x => rhas_any (h.kn k) n2 t x)
  clear h
  go_enter Try.func39, Try.ntmps39
  go_wp2_with fail
  go_loopw [5, 6] (fun a i W => ∃ (j : Nat) (out : List Int), j ≤ L.length ∧ i = .int .i64 j ∧ RowAt W 23 eI 1 a out ∧ out.length ≤ j ∧ Hid (out.Pairwise (· < ·) ∧ ∀ x, x ∈ out ↔ x ∈ heldJ L t j) ∧ Kp NoB w W) (fun _ i _ => L.length - (intOf i).toNat)
  case atStart => exact ⟨0, [], Nat.zero_le _, rfl, RowAt.nil _ _ _ _, by simp, hid ⟨List.Pairwise.nil, by simp [heldJ]⟩, Kp.refl _ _⟩
  case round =>
    obtain ⟨j, out, hj, rfl, hR, hol, hout, hK⟩ := hrel
    have hA := H0.out.kn hK
    have Lp := loc2 hA.hq
    have b3 : (0 : Int) ≤ (j : Int) := Int.natCast_nonneg _
    by_cases hlt : j < L.length
    · have b4 : (j : Int) < (L.length : Int) := by omega
      have hk : L[j]? = some L[j] := List.getElem?_eq_getElem hlt
      obtain ⟨⟨x, y⟩, hxy⟩ : ∃ s, L[j] = s := ⟨_, rfl⟩
      rw [hxy] at hk
      obtain ⟨b, c', hv', hcc, hcell⟩ := H0.out.cells hk
      injection hv' with hv1 _ hv3
      subst hv1; subst hv3
      have Le := hcell _ hK
      have hcc' : (L.length : Int) ≤ (cv : Int) := by omega
      have hsucc := heldJ_succ (t := t) hk
      have hnot := hid (fun h => heldJ_out o (t := t) hk h)
      replace hsucc := hid hsucc
      replace hk := hid hk
      replace hxy := hid hxy
      replace hcell := hid hcell
      replace hA := hid hA
      by_cases hy : y = t
      · subst hy
        have HH1 := HH.out _ hK x
        cases hb : hasB L y x
        · rw [hb] at HH1
          replace HH1 := hid HH1
          replace hb := hid hb
          obtain ⟨oa, ca, hav, hac, _⟩ := hR.form
          subst hav
          replace hR := hid hR
          go_wp2_with fail
          refine HH1.out.mono ?_
          rintro e w2 ⟨rfl, k2⟩
          have hR2 := hid (hR.out.kp k2 (fun _ _ h => h.elim))
          have hK2 := hid (hK.trans k2)
          go_wp2_with fail
          go_roundw
          case rel => exact ⟨j + 1, out, by omega, by go_num, hR2.out, by omega, hid ⟨hout.out.1, fun z => by rw [hsucc.out, if_neg (fun h => by rw [hb.out] at h; simp at h), List.append_nil]; exact hout.out.2 z⟩, hK2.out⟩
          case measure => simp [intOf]; omega
        · rw [hb] at HH1
          replace HH1 := hid HH1
          replace hb := hid hb
          have hnin := hid (show x ∉ out from fun h => hnot.out ⟨rfl, hb.out⟩ ((hout.out.2 x).1 h))
          have hmem : ∀ k z, z ∈ out.take k ++ [x] ++ out.drop k ↔ z ∈ heldJ L y (j + 1) := fun k z => by
            rw [ins_mem, hsucc.out, if_pos ⟨rfl, hb.out⟩, List.mem_append, List.mem_singleton, hout.out.2]
            exact Or.comm
          replace hmem := hid hmem
          have hRf := hR.form
          obtain ⟨oa, ca, hav, hac, _⟩ := hRf
          subst hav
          have HR0 := hid hR
          have hK0 := hid hK
          clear hR hK
          go_wp2_with fail
          refine HH1.out.mono ?_
          rintro e w2 ⟨rfl, k2⟩
          have hR := HR0.out.kp k2 (fun _ _ h => h.elim)
          have hK := hK0.out.trans k2
          have hK' := hid hK
          clear hK k2
          go_wp2_with fail
          rcases hR.2 with ⟨hnil, hl0⟩ | ⟨g, cap, cur, hown, _, hg, hle, hcm, hcs, htk⟩
          · -- nil
            injection hnil with h1 _ h2
            subst h1; subst h2
            obtain rfl := List.eq_nil_of_length_eq_zero hl0
            simp only [List.length_nil] at *
            go_loop [8] (fun i => i = .int .i64 0) (fun i => 0)
            case atStart => rfl
            case round =>
              subst hrel
              go_wp2_with fail
              refine wp_region_two 3 5 (fun _ => True) [(0, .at_), (1, .at_), (2, .at_), (4, .held), (7, .held), (8, .held), (9, .held), (3, .eff), (5, .eff), (6, .eff), (10, .fin), (11, .at_)] [(0, .held), (1, .held), (2, .held), (4, .at_), (7, .held), (8, .held), (9, .held), (5, .eff), (3, .eff), (6, .eff), (10, .fin), (11, .at_)] ?La1 ?Lb1 (by kernel_rfl) (by kernel_rfl) ?hLa1 ?hLb1 (trivial) ?hGa1 ?hGb1
              case hLa1 => simp only [pickOps, List.map_cons, List.map_nil, List.getD_cons_zero, List.getD_cons_succ]; rfl
              case hLb1 => simp only [pickOps, List.map_cons, List.map_nil, List.getD_cons_zero, List.getD_cons_succ]; rfl
              ·
                obtain ⟨va, wa, vb, wb, vc, wc, r1, r2, r3, a3, kc⟩ := insA (x := x) (w := w2.drew) (V1 := .slice none 0 0) (V2 := .slice none 0 0) (T := []) (D := []) (Rs.nil _ _) (Rs.nil _ _) (by simp)
                replace r1 := hid r1
                replace r2 := hid r2
                replace r3 := hid r3
                replace a3 := hid a3
                replace kc := hid kc
                repeat (first | (refine wpG_at (v := ?_) (by rfl) ?_ ?_; rotate_left; (focus (first | (go_simp; with_reducible rfl) | (go_simp; done))); simp only [Act.put, List.setIfInBounds_toArray, List.set_cons_zero, List.set_cons_succ]) | (refine wpG_at_skip (by rfl) ?_; simp only [Act.put, List.setIfInBounds_toArray, List.set_cons_zero, List.set_cons_succ]) | (refine wpG_held_skip (by rfl) ?_; simp only [Act.put, List.setIfInBounds_toArray, List.set_cons_zero, List.set_cons_succ]) | (refine wpG_held (v := ?_) (by rfl) ?_ ?_; rotate_left; (focus (intro w' hSw; (try dsimp only at hSw); go_split_ands; first | (go_simp; with_reducible rfl) | (go_simp; done))); simp only [Act.put, List.setIfInBounds_toArray, List.set_cons_zero, List.set_cons_succ]))
                refine wpG_eff (by rfl) (fun K hK => ?_)
                refine Lib.wp_append_run _ _ _ 43 43 rfl (.slice none 0 0) (.slice none 0 0) rfl rfl _ _ r1.out ?_
                refine hK _ _ trivial ?_
                clear hK K
                repeat (first | (refine wpG_at (v := ?_) (by rfl) ?_ ?_; rotate_left; (focus (first | (go_simp; with_reducible rfl) | (go_simp; done))); simp only [Act.put, List.setIfInBounds_toArray, List.set_cons_zero, List.set_cons_succ]) | (refine wpG_at_skip (by rfl) ?_; simp only [Act.put, List.setIfInBounds_toArray, List.set_cons_zero, List.set_cons_succ]) | (refine wpG_held_skip (by rfl) ?_; simp only [Act.put, List.setIfInBounds_toArray, List.set_cons_zero, List.set_cons_succ]) | (refine wpG_held (v := ?_) (by rfl) ?_ ?_; rotate_left; (focus (intro w' hSw; (try dsimp only at hSw); go_split_ands; first | (go_simp; with_reducible rfl) | (go_simp; done))); simp only [Act.put, List.setIfInBounds_toArray, List.set_cons_zero, List.set_cons_succ]))
                refine wpG_eff (by rfl) (fun K hK => ?_)
                go_simp
                refine hK _ _ trivial ?_
                clear hK K
                repeat (first | (refine wpG_at (v := ?_) (by rfl) ?_ ?_; rotate_left; (focus (first | (go_simp; with_reducible rfl) | (go_simp; done))); simp only [Act.put, List.setIfInBounds_toArray, List.set_cons_zero, List.set_cons_succ]) | (refine wpG_at_skip (by rfl) ?_; simp only [Act.put, List.setIfInBounds_toArray, List.set_cons_zero, List.set_cons_succ]) | (refine wpG_held_skip (by rfl) ?_; simp only [Act.put, List.setIfInBounds_toArray, List.set_cons_zero, List.set_cons_succ]) | (refine wpG_held (v := ?_) (by rfl) ?_ ?_; rotate_left; (focus (intro w' hSw; (try dsimp only at hSw); go_split_ands; first | (go_simp; with_reducible rfl) | (go_simp; done))); simp only [Act.put, List.setIfInBounds_toArray, List.set_cons_zero, List.set_cons_succ]))
                refine wpG_eff (by rfl) (fun K hK => ?_)
                refine Lib.wp_append_run _ _ _ 43 43 rfl va (.slice (some ⟨wa.heap.size, 0, none⟩) 1 1) rfl rfl _ _ r2.out ?_
                refine hK _ _ trivial ?_
                clear hK K
                repeat (first | (refine wpG_at (v := ?_) (by rfl) ?_ ?_; rotate_left; (focus (first | (go_simp; with_reducible rfl) | (go_simp; done))); simp only [Act.put, List.setIfInBounds_toArray, List.set_cons_zero, List.set_cons_succ]) | (refine wpG_at_skip (by rfl) ?_; simp only [Act.put, List.setIfInBounds_toArray, List.set_cons_zero, List.set_cons_succ]) | (refine wpG_held_skip (by rfl) ?_; simp only [Act.put, List.setIfInBounds_toArray, List.set_cons_zero, List.set_cons_succ]) | (refine wpG_held (v := ?_) (by rfl) ?_ ?_; rotate_left; (focus (intro w' hSw; (try dsimp only at hSw); go_split_ands; first | (go_simp; with_reducible rfl) | (go_simp; done))); simp only [Act.put, List.setIfInBounds_toArray, List.set_cons_zero, List.set_cons_succ]))
                refine wpG_fin (by rfl) (fun K hK => ?_)
                refine Lib.wp_append_run _ _ _ 43 43 rfl vb (.slice none 0 0) rfl rfl _ _ r3.out ?_
                refine hK _ _ ?_
                clear hK K
                repeat (first | (refine wpG_at (v := ?_) (by rfl) ?_ ?_; rotate_left; (focus (first | (go_simp; with_reducible rfl) | (go_simp; done))); simp only [Act.put, List.setIfInBounds_toArray, List.set_cons_zero, List.set_cons_succ]) | (refine wpG_at_skip (by rfl) ?_; simp only [Act.put, List.setIfInBounds_toArray, List.set_cons_zero, List.set_cons_succ]) | (refine wpG_held_skip (by rfl) ?_; simp only [Act.put, List.setIfInBounds_toArray, List.set_cons_zero, List.set_cons_succ]) | (refine wpG_held (v := ?_) (by rfl) ?_ ?_; rotate_left; (focus (intro w' hSw; (try dsimp only at hSw); go_split_ands; first | (go_simp; with_reducible rfl) | (go_simp; done))); simp only [Act.put, List.setIfInBounds_toArray, List.set_cons_zero, List.set_cons_succ]))
                refine wpG_nil (NoPanic.normal ?_)
                go_wp2_with fail
                go_roundw
                case rel => exact ⟨j + 1, _, by omega, by go_num, a3.out, by simp, hid ⟨by simp, fun z => by have := hmem.out 0 z; simpa using this⟩, hK'.out.drew.trans kc.out⟩
                case measure => simp [intOf]; omega
              ·
                obtain ⟨va, wa, vb, wb, vc, wc, r1, r2, r3, a3, kc⟩ := insB (x := x) (w := w2.drew) (V1 := .slice none 0 0) (V2 := .slice none 0 0) (T := []) (D := []) (Rs.nil _ _) (Rs.nil _ _) (by simp)
                replace r1 := hid r1
                replace r2 := hid r2
                replace r3 := hid r3
                replace a3 := hid a3
                replace kc := hid kc
                repeat (first | (refine wpG_at (v := ?_) (by rfl) ?_ ?_; rotate_left; (focus (first | (go_simp; with_reducible rfl) | (go_simp; done))); simp only [Act.put, List.setIfInBounds_toArray, List.set_cons_zero, List.set_cons_succ]) | (refine wpG_at_skip (by rfl) ?_; simp only [Act.put, List.setIfInBounds_toArray, List.set_cons_zero, List.set_cons_succ]) | (refine wpG_held_skip (by rfl) ?_; simp only [Act.put, List.setIfInBounds_toArray, List.set_cons_zero, List.set_cons_succ]) | (refine wpG_held (v := ?_) (by rfl) ?_ ?_; rotate_left; (focus (intro w' hSw; (try dsimp only at hSw); go_split_ands; first | (go_simp; with_reducible rfl) | (go_simp; done))); simp only [Act.put, List.setIfInBounds_toArray, List.set_cons_zero, List.set_cons_succ]))
                refine wpG_eff (by rfl) (fun K hK => ?_)
                go_simp
                refine hK _ _ trivial ?_
                clear hK K
                repeat (first | (refine wpG_at (v := ?_) (by rfl) ?_ ?_; rotate_left; (focus (first | (go_simp; with_reducible rfl) | (go_simp; done))); simp only [Act.put, List.setIfInBounds_toArray, List.set_cons_zero, List.set_cons_succ]) | (refine wpG_at_skip (by rfl) ?_; simp only [Act.put, List.setIfInBounds_toArray, List.set_cons_zero, List.set_cons_succ]) | (refine wpG_held_skip (by rfl) ?_; simp only [Act.put, List.setIfInBounds_toArray, List.set_cons_zero, List.set_cons_succ]) | (refine wpG_held (v := ?_) (by rfl) ?_ ?_; rotate_left; (focus (intro w' hSw; (try dsimp only at hSw); go_split_ands; first | (go_simp; with_reducible rfl) | (go_simp; done))); simp only [Act.put, List.setIfInBounds_toArray, List.set_cons_zero, List.set_cons_succ]))
                refine wpG_eff (by rfl) (fun K hK => ?_)
                refine Lib.wp_append_run _ _ _ 43 43 rfl (.slice none 0 0) (.slice none 0 0) rfl rfl _ _ r1.out ?_
                refine hK _ _ trivial ?_
                clear hK K
                repeat (first | (refine wpG_at (v := ?_) (by rfl) ?_ ?_; rotate_left; (focus (first | (go_simp; with_reducible rfl) | (go_simp; done))); simp only [Act.put, List.setIfInBounds_toArray, List.set_cons_zero, List.set_cons_succ]) | (refine wpG_at_skip (by rfl) ?_; simp only [Act.put, List.setIfInBounds_toArray, List.set_cons_zero, List.set_cons_succ]) | (refine wpG_held_skip (by rfl) ?_; simp only [Act.put, List.setIfInBounds_toArray, List.set_cons_zero, List.set_cons_succ]) | (refine wpG_held (v := ?_) (by rfl) ?_ ?_; rotate_left; (focus (intro w' hSw; (try dsimp only at hSw); go_split_ands; first | (go_simp; with_reducible rfl) | (go_simp; done))); simp only [Act.put, List.setIfInBounds_toArray, List.set_cons_zero, List.set_cons_succ]))
                refine wpG_eff (by rfl) (fun K hK => ?_)
                refine Lib.wp_append_run _ _ _ 43 43 rfl va (.slice (some ⟨w2.heap.size, 0, none⟩) 1 1) rfl rfl _ _ r2.out ?_
                refine hK _ _ trivial ?_
                clear hK K
                repeat (first | (refine wpG_at (v := ?_) (by rfl) ?_ ?_; rotate_left; (focus (first | (go_simp; with_reducible rfl) | (go_simp; done))); simp only [Act.put, List.setIfInBounds_toArray, List.set_cons_zero, List.set_cons_succ]) | (refine wpG_at_skip (by rfl) ?_; simp only [Act.put, List.setIfInBounds_toArray, List.set_cons_zero, List.set_cons_succ]) | (refine wpG_held_skip (by rfl) ?_; simp only [Act.put, List.setIfInBounds_toArray, List.set_cons_zero, List.set_cons_succ]) | (refine wpG_held (v := ?_) (by rfl) ?_ ?_; rotate_left; (focus (intro w' hSw; (try dsimp only at hSw); go_split_ands; first | (go_simp; with_reducible rfl) | (go_simp; done))); simp only [Act.put, List.setIfInBounds_toArray, List.set_cons_zero, List.set_cons_succ]))
                refine wpG_fin (by rfl) (fun K hK => ?_)
                refine Lib.wp_append_run _ _ _ 43 43 rfl vb (.slice none 0 0) rfl rfl _ _ r3.out ?_
                refine hK _ _ ?_
                clear hK K
                repeat (first | (refine wpG_at (v := ?_) (by rfl) ?_ ?_; rotate_left; (focus (first | (go_simp; with_reducible rfl) | (go_simp; done))); simp only [Act.put, List.setIfInBounds_toArray, List.set_cons_zero, List.set_cons_succ]) | (refine wpG_at_skip (by rfl) ?_; simp only [Act.put, List.setIfInBounds_toArray, List.set_cons_zero, List.set_cons_succ]) | (refine wpG_held_skip (by rfl) ?_; simp only [Act.put, List.setIfInBounds_toArray, List.set_cons_zero, List.set_cons_succ]) | (refine wpG_held (v := ?_) (by rfl) ?_ ?_; rotate_left; (focus (intro w' hSw; (try dsimp only at hSw); go_split_ands; first | (go_simp; with_reducible rfl) | (go_simp; done))); simp only [Act.put, List.setIfInBounds_toArray, List.set_cons_zero, List.set_cons_succ]))
                refine wpG_nil (NoPanic.normal ?_)
                go_wp2_with fail
                go_roundw
                case rel => exact ⟨j + 1, _, by omega, by go_num, a3.out, by simp, hid ⟨by simp, fun z => by have := hmem.out 0 z; simpa using this⟩, hK'.out.drew.trans kc.out⟩
                case measure => simp [intOf]; omega
          · injection hown with h1 _ h2
            subst h1; subst h2
            have hA1 : ∀ (k : Nat) (z : Int), out[k]? = some z → cur[k]? = some (.int .i64 z) := fun k z hk => by
              rw [show out.flatMap eI = out.map (Value.int .i64) from flat_map1 out, Nat.mul_one] at htk
              have h1 : (cur.toList.take out.length)[k]? = (out.map (Value.int .i64))[k]? := by rw [htk]
              have hk' := (List.getElem?_eq_some_iff.1 hk).1
              rw [List.getElem?_take_of_lt hk', List.getElem?_map, hk] at h1
              simpa using h1
            have hTk : ∀ k, k ≤ out.length → Rs 23 w2 (.slice (some ⟨g, 0, none⟩) k ca) (out.take k) := fun k hk => .inr ⟨g, 0, ca, cur, by rw [List.length_take, Nat.min_eq_left hk], hg, fun i z hz => by
              have := (List.getElem?_eq_some_iff.1 hz).1
              rw [List.length_take] at this
              rw [List.getElem?_take, if_pos (by omega)] at hz
              rw [Nat.zero_add]; exact hA1 i z hz, by rw [List.length_take]; omega⟩
            have hDr : ∀ k f c', (k < out.length → f = k) → out.length - k ≤ c' → Rs 23 w2 (.slice (some ⟨g, f, none⟩) (out.length - k) c') (out.drop k) := fun k f c' hf hc' => .inr ⟨g, f, c', cur, by rw [List.length_drop], hg, fun i z hz => by
              have := (List.getElem?_eq_some_iff.1 hz).1
              rw [List.length_drop] at this
              rw [List.getElem?_drop] at hz
              rw [hf (by omega)]; exact hA1 _ z hz, by rw [List.length_drop]; omega⟩
            have hcel : ∀ (k : Nat) (z : Int), out[k]? = some z → w2.cell? ⟨g, k, none⟩ = some (.int .i64 z) := fun k z hk => by rw [cell_of hg]; exact hA1 k z hk
            replace hTk := hid hTk
            replace hDr := hid hDr
            replace hcel := hid hcel
            replace hR := hid hR
            replace hg := hid hg
            replace htk := hid htk
            replace hA1 := hid hA1
            go_loop [8] (fun i => ∃ k : Nat, k ≤ out.length ∧ i = .int .i64 k ∧ Hid (∀ i (hi : i < out.length), i < k → out[i] < x)) (fun i => out.length - (intOf i).toNat)
            case atStart => exact ⟨0, Nat.zero_le _, rfl, hid (by intro i hi h; omega)⟩
            case round =>
              obtain ⟨k, hkl, rfl, hlo⟩ := hrel
              have c1 : (0 : Int) ≤ (k : Int) := Int.natCast_nonneg _
              by_cases hkk : k < out.length
              · have c2 : (k : Int) < (out.length : Int) := by omega
                have hkz : out[k]? = some out[k] := List.getElem?_eq_getElem hkk
                have Lz := hcel.out k _ hkz
                obtain ⟨z, hz⟩ : ∃ z, out[k] = z := ⟨_, rfl⟩
                rw [hz] at Lz
                replace hz := hid hz
                clear hkz
                by_cases hzx : z < x
                · go_wp2_with fail
                  go_round
                  case rel => exact ⟨k + 1, by omega, by go_num, hid (by
                    intro i hi h
                    by_cases e : i = k
                    · subst e; rw [hz.out]; exact hzx
                    · exact hlo.out i hi (by omega))⟩
                  case measure => simp [intOf]; omega
                · have hce : ¬ ca = k := by omega
                  have c3 : (k : Int) ≤ (ca : Int) := by omega
                  go_wp2_with fail
                  refine wp_region_two 3 5 (fun _ => True) [(0, .at_), (1, .at_), (2, .at_), (4, .held), (7, .held), (8, .held), (9, .held), (3, .eff), (5, .eff), (6, .eff), (10, .fin), (11, .at_)] [(0, .held), (1, .held), (2, .held), (4, .at_), (7, .held), (8, .held), (9, .held), (5, .eff), (3, .eff), (6, .eff), (10, .fin), (11, .at_)] ?La2 ?Lb2 (by kernel_rfl) (by kernel_rfl) ?hLa2 ?hLb2 (trivial) ?hGa2 ?hGb2
                  case hLa2 => simp only [pickOps, List.map_cons, List.map_nil, List.getD_cons_zero, List.getD_cons_succ]; rfl
                  case hLb2 => simp only [pickOps, List.map_cons, List.map_nil, List.getD_cons_zero, List.getD_cons_succ]; rfl
                  ·
                    obtain ⟨va, wa, vb, wb, vc, wc, r1, r2, r3, a3, kc⟩ := insA (x := x) (w := w2.drew) (V1 := .slice (some ⟨g, 0, none⟩) k ca) (V2 := .slice (some ⟨g, k, none⟩) (out.length - k) (ca - k)) (T := out.take k) (D := out.drop k) (hTk.out k hkl) (hDr.out k k (ca - k) (fun _ => rfl) (by omega)) (by rw [List.length_take, List.length_drop]; omega)
                    replace r1 := hid r1
                    replace r2 := hid r2
                    replace r3 := hid r3
                    replace a3 := hid a3
                    replace kc := hid kc
                    repeat (first | (refine wpG_at (v := ?_) (by rfl) ?_ ?_; rotate_left; (focus (first | (go_simp; with_reducible rfl) | (go_simp; done))); simp only [Act.put, List.setIfInBounds_toArray, List.set_cons_zero, List.set_cons_succ]) | (refine wpG_at_skip (by rfl) ?_; simp only [Act.put, List.setIfInBounds_toArray, List.set_cons_zero, List.set_cons_succ]) | (refine wpG_held_skip (by rfl) ?_; simp only [Act.put, List.setIfInBounds_toArray, List.set_cons_zero, List.set_cons_succ]) | (refine wpG_held (v := ?_) (by rfl) ?_ ?_; rotate_left; (focus (intro w' hSw; (try dsimp only at hSw); go_split_ands; first | (go_simp; with_reducible rfl) | (go_simp; done))); simp only [Act.put, List.setIfInBounds_toArray, List.set_cons_zero, List.set_cons_succ]))
                    refine wpG_eff (by rfl) (fun K hK => ?_)
                    refine Lib.wp_append_run _ _ _ 43 43 rfl (.slice none 0 0) (.slice (some ⟨g, 0, none⟩) k ca) rfl rfl _ _ r1.out ?_
                    refine hK _ _ trivial ?_
                    clear hK K
                    repeat (first | (refine wpG_at (v := ?_) (by rfl) ?_ ?_; rotate_left; (focus (first | (go_simp; with_reducible rfl) | (go_simp; done))); simp only [Act.put, List.setIfInBounds_toArray, List.set_cons_zero, List.set_cons_succ]) | (refine wpG_at_skip (by rfl) ?_; simp only [Act.put, List.setIfInBounds_toArray, List.set_cons_zero, List.set_cons_succ]) | (refine wpG_held_skip (by rfl) ?_; simp only [Act.put, List.setIfInBounds_toArray, List.set_cons_zero, List.set_cons_succ]) | (refine wpG_held (v := ?_) (by rfl) ?_ ?_; rotate_left; (focus (intro w' hSw; (try dsimp only at hSw); go_split_ands; first | (go_simp; with_reducible rfl) | (go_simp; done))); simp only [Act.put, List.setIfInBounds_toArray, List.set_cons_zero, List.set_cons_succ]))
                    refine wpG_eff (by rfl) (fun K hK => ?_)
                    go_simp
                    refine hK _ _ trivial ?_
                    clear hK K
                    repeat (first | (refine wpG_at (v := ?_) (by rfl) ?_ ?_; rotate_left; (focus (first | (go_simp; with_reducible rfl) | (go_simp; done))); simp only [Act.put, List.setIfInBounds_toArray, List.set_cons_zero, List.set_cons_succ]) | (refine wpG_at_skip (by rfl) ?_; simp only [Act.put, List.setIfInBounds_toArray, List.set_cons_zero, List.set_cons_succ]) | (refine wpG_held_skip (by rfl) ?_; simp only [Act.put, List.setIfInBounds_toArray, List.set_cons_zero, List.set_cons_succ]) | (refine wpG_held (v := ?_) (by rfl) ?_ ?_; rotate_left; (focus (intro w' hSw; (try dsimp only at hSw); go_split_ands; first | (go_simp; with_reducible rfl) | (go_simp; done))); simp only [Act.put, List.setIfInBounds_toArray, List.set_cons_zero, List.set_cons_succ]))
                    refine wpG_eff (by rfl) (fun K hK => ?_)
                    refine Lib.wp_append_run _ _ _ 43 43 rfl va (.slice (some ⟨wa.heap.size, 0, none⟩) 1 1) rfl rfl _ _ r2.out ?_
                    refine hK _ _ trivial ?_
                    clear hK K
                    repeat (first | (refine wpG_at (v := ?_) (by rfl) ?_ ?_; rotate_left; (focus (first | (go_simp; with_reducible rfl) | (go_simp; done))); simp only [Act.put, List.setIfInBounds_toArray, List.set_cons_zero, List.set_cons_succ]) | (refine wpG_at_skip (by rfl) ?_; simp only [Act.put, List.setIfInBounds_toArray, List.set_cons_zero, List.set_cons_succ]) | (refine wpG_held_skip (by rfl) ?_; simp only [Act.put, List.setIfInBounds_toArray, List.set_cons_zero, List.set_cons_succ]) | (refine wpG_held (v := ?_) (by rfl) ?_ ?_; rotate_left; (focus (intro w' hSw; (try dsimp only at hSw); go_split_ands; first | (go_simp; with_reducible rfl) | (go_simp; done))); simp only [Act.put, List.setIfInBounds_toArray, List.set_cons_zero, List.set_cons_succ]))
                    refine wpG_fin (by rfl) (fun K hK => ?_)
                    refine Lib.wp_append_run _ _ _ 43 43 rfl vb (.slice (some ⟨g, k, none⟩) (out.length - k) (ca - k)) rfl rfl _ _ r3.out ?_
                    refine hK _ _ ?_
                    clear hK K
                    repeat (first | (refine wpG_at (v := ?_) (by rfl) ?_ ?_; rotate_left; (focus (first | (go_simp; with_reducible rfl) | (go_simp; done))); simp only [Act.put, List.setIfInBounds_toArray, List.set_cons_zero, List.set_cons_succ]) | (refine wpG_at_skip (by rfl) ?_; simp only [Act.put, List.setIfInBounds_toArray, List.set_cons_zero, List.set_cons_succ]) | (refine wpG_held_skip (by rfl) ?_; simp only [Act.put, List.setIfInBounds_toArray, List.set_cons_zero, List.set_cons_succ]) | (refine wpG_held (v := ?_) (by rfl) ?_ ?_; rotate_left; (focus (intro w' hSw; (try dsimp only at hSw); go_split_ands; first | (go_simp; with_reducible rfl) | (go_simp; done))); simp only [Act.put, List.setIfInBounds_toArray, List.set_cons_zero, List.set_cons_succ]))
                    refine wpG_nil (NoPanic.normal ?_)
                    go_wp2_with fail
                    go_roundw
                    case rel => exact ⟨j + 1, _, by omega, by go_num, a3.out, by simp only [List.length_append, List.length_take, List.length_drop, List.length_singleton]; omega, hid ⟨ins_rising hout.out.1 (fun i hi h => hlo.out i hi h) (fun hk => by have h1 := hz.out; have : x ≠ out[k] := fun e => hnin.out (e ▸ List.getElem_mem _); omega), fun z => by exact hmem.out k z⟩, hK'.out.drew.trans kc.out⟩
                    case measure => simp [intOf]; omega
                  ·
                    obtain ⟨va, wa, vb, wb, vc, wc, r1, r2, r3, a3, kc⟩ := insB (x := x) (w := w2.drew) (V1 := .slice (some ⟨g, 0, none⟩) k ca) (V2 := .slice (some ⟨g, k, none⟩) (out.length - k) (ca - k)) (T := out.take k) (D := out.drop k) (hTk.out k hkl) (hDr.out k k (ca - k) (fun _ => rfl) (by omega)) (by rw [List.length_take, List.length_drop]; omega)
                    replace r1 := hid r1
                    replace r2 := hid r2
                    replace r3 := hid r3
                    replace a3 := hid a3
                    replace kc := hid kc
                    repeat (first | (refine wpG_at (v := ?_) (by rfl) ?_ ?_; rotate_left; (focus (first | (go_simp; with_reducible rfl) | (go_simp; done))); simp only [Act.put, List.setIfInBounds_toArray, List.set_cons_zero, List.set_cons_succ]) | (refine wpG_at_skip (by rfl) ?_; simp only [Act.put, List.setIfInBounds_toArray, List.set_cons_zero, List.set_cons_succ]) | (refine wpG_held_skip (by rfl) ?_; simp only [Act.put, List.setIfInBounds_toArray, List.set_cons_zero, List.set_cons_succ]) | (refine wpG_held (v := ?_) (by rfl) ?_ ?_; rotate_left; (focus (intro w' hSw; (try dsimp only at hSw); go_split_ands; first | (go_simp; with_reducible rfl) | (go_simp; done))); simp only [Act.put, List.setIfInBounds_toArray, List.set_cons_zero, List.set_cons_succ]))
                    refine wpG_eff (by rfl) (fun K hK => ?_)
                    go_simp
                    refine hK _ _ trivial ?_
                    clear hK K
                    repeat (first | (refine wpG_at (v := ?_) (by rfl) ?_ ?_; rotate_left; (focus (first | (go_simp; with_reducible rfl) | (go_simp; done))); simp only [Act.put, List.setIfInBounds_toArray, List.set_cons_zero, List.set_cons_succ]) | (refine wpG_at_skip (by rfl) ?_; simp only [Act.put, List.setIfInBounds_toArray, List.set_cons_zero, List.set_cons_succ]) | (refine wpG_held_skip (by rfl) ?_; simp only [Act.put, List.setIfInBounds_toArray, List.set_cons_zero, List.set_cons_succ]) | (refine wpG_held (v := ?_) (by rfl) ?_ ?_; rotate_left; (focus (intro w' hSw; (try dsimp only at hSw); go_split_ands; first | (go_simp; with_reducible rfl) | (go_simp; done))); simp only [Act.put, List.setIfInBounds_toArray, List.set_cons_zero, List.set_cons_succ]))
                    refine wpG_eff (by rfl) (fun K hK => ?_)
                    refine Lib.wp_append_run _ _ _ 43 43 rfl (.slice none 0 0) (.slice (some ⟨g, 0, none⟩) k ca) rfl rfl _ _ r1.out ?_
                    refine hK _ _ trivial ?_
                    clear hK K
                    repeat (first | (refine wpG_at (v := ?_) (by rfl) ?_ ?_; rotate_left; (focus (first | (go_simp; with_reducible rfl) | (go_simp; done))); simp only [Act.put, List.setIfInBounds_toArray, List.set_cons_zero, List.set_cons_succ]) | (refine wpG_at_skip (by rfl) ?_; simp only [Act.put, List.setIfInBounds_toArray, List.set_cons_zero, List.set_cons_succ]) | (refine wpG_held_skip (by rfl) ?_; simp only [Act.put, List.setIfInBounds_toArray, List.set_cons_zero, List.set_cons_succ]) | (refine wpG_held (v := ?_) (by rfl) ?_ ?_; rotate_left; (focus (intro w' hSw; (try dsimp only at hSw); go_split_ands; first | (go_simp; with_reducible rfl) | (go_simp; done))); simp only [Act.put, List.setIfInBounds_toArray, List.set_cons_zero, List.set_cons_succ]))
                    refine wpG_eff (by rfl) (fun K hK => ?_)
                    refine Lib.wp_append_run _ _ _ 43 43 rfl va (.slice (some ⟨w2.heap.size, 0, none⟩) 1 1) rfl rfl _ _ r2.out ?_
                    refine hK _ _ trivial ?_
                    clear hK K
                    repeat (first | (refine wpG_at (v := ?_) (by rfl) ?_ ?_; rotate_left; (focus (first | (go_simp; with_reducible rfl) | (go_simp; done))); simp only [Act.put, List.setIfInBounds_toArray, List.set_cons_zero, List.set_cons_succ]) | (refine wpG_at_skip (by rfl) ?_; simp only [Act.put, List.setIfInBounds_toArray, List.set_cons_zero, List.set_cons_succ]) | (refine wpG_held_skip (by rfl) ?_; simp only [Act.put, List.setIfInBounds_toArray, List.set_cons_zero, List.set_cons_succ]) | (refine wpG_held (v := ?_) (by rfl) ?_ ?_; rotate_left; (focus (intro w' hSw; (try dsimp only at hSw); go_split_ands; first | (go_simp; with_reducible rfl) | (go_simp; done))); simp only [Act.put, List.setIfInBounds_toArray, List.set_cons_zero, List.set_cons_succ]))
                    refine wpG_fin (by rfl) (fun K hK => ?_)
                    refine Lib.wp_append_run _ _ _ 43 43 rfl vb (.slice (some ⟨g, k, none⟩) (out.length - k) (ca - k)) rfl rfl _ _ r3.out ?_
                    refine hK _ _ ?_
                    clear hK K
                    repeat (first | (refine wpG_at (v := ?_) (by rfl) ?_ ?_; rotate_left; (focus (first | (go_simp; with_reducible rfl) | (go_simp; done))); simp only [Act.put, List.setIfInBounds_toArray, List.set_cons_zero, List.set_cons_succ]) | (refine wpG_at_skip (by rfl) ?_; simp only [Act.put, List.setIfInBounds_toArray, List.set_cons_zero, List.set_cons_succ]) | (refine wpG_held_skip (by rfl) ?_; simp only [Act.put, List.setIfInBounds_toArray, List.set_cons_zero, List.set_cons_succ]) | (refine wpG_held (v := ?_) (by rfl) ?_ ?_; rotate_left; (focus (intro w' hSw; (try dsimp only at hSw); go_split_ands; first | (go_simp; with_reducible rfl) | (go_simp; done))); simp only [Act.put, List.setIfInBounds_toArray, List.set_cons_zero, List.set_cons_succ]))
                    refine wpG_nil (NoPanic.normal ?_)
                    go_wp2_with fail
                    go_roundw
                    case rel => exact ⟨j + 1, _, by omega, by go_num, a3.out, by simp only [List.length_append, List.length_take, List.length_drop, List.length_singleton]; omega, hid ⟨ins_rising hout.out.1 (fun i hi h => hlo.out i hi h) (fun hk => by have h1 := hz.out; have : x ≠ out[k] := fun e => hnin.out (e ▸ List.getElem_mem _); omega), fun z => by exact hmem.out k z⟩, hK'.out.drew.trans kc.out⟩
                    case measure => simp [intOf]; omega
              · obtain rfl : k = out.length := by omega
                by_cases hce : ca = out.length
                · subst hce
                  go_wp2_with fail
                  refine wp_region_two 3 5 (fun _ => True) [(0, .at_), (1, .at_), (2, .at_), (4, .held), (7, .held), (8, .held), (9, .held), (3, .eff), (5, .eff), (6, .eff), (10, .fin), (11, .at_)] [(0, .held), (1, .held), (2, .held), (4, .at_), (7, .held), (8, .held), (9, .held), (5, .eff), (3, .eff), (6, .eff), (10, .fin), (11, .at_)] ?La3 ?Lb3 (by kernel_rfl) (by kernel_rfl) ?hLa3 ?hLb3 (trivial) ?hGa3 ?hGb3
                  case hLa3 => simp only [pickOps, List.map_cons, List.map_nil, List.getD_cons_zero, List.getD_cons_succ]; rfl
                  case hLb3 => simp only [pickOps, List.map_cons, List.map_nil, List.getD_cons_zero, List.getD_cons_succ]; rfl
                  ·
                    obtain ⟨va, wa, vb, wb, vc, wc, r1, r2, r3, a3, kc⟩ := insA (x := x) (w := w2.drew) (V1 := .slice (some ⟨g, 0, none⟩) out.length out.length) (V2 := .slice (some ⟨g, 0, none⟩) 0 0) (T := out.take out.length) (D := out.drop out.length) (hTk.out out.length (Nat.le_refl _)) (by have := hDr.out out.length 0 0 (fun h => absurd h (Nat.lt_irrefl _)) (by omega); rw [Nat.sub_self] at this; exact this) (by rw [List.length_take, List.length_drop]; omega)
                    replace r1 := hid r1
                    replace r2 := hid r2
                    replace r3 := hid r3
                    replace a3 := hid a3
                    replace kc := hid kc
                    repeat (first | (refine wpG_at (v := ?_) (by rfl) ?_ ?_; rotate_left; (focus (first | (go_simp; with_reducible rfl) | (go_simp; done))); simp only [Act.put, List.setIfInBounds_toArray, List.set_cons_zero, List.set_cons_succ]) | (refine wpG_at_skip (by rfl) ?_; simp only [Act.put, List.setIfInBounds_toArray, List.set_cons_zero, List.set_cons_succ]) | (refine wpG_held_skip (by rfl) ?_; simp only [Act.put, List.setIfInBounds_toArray, List.set_cons_zero, List.set_cons_succ]) | (refine wpG_held (v := ?_) (by rfl) ?_ ?_; rotate_left; (focus (intro w' hSw; (try dsimp only at hSw); go_split_ands; first | (go_simp; with_reducible rfl) | (go_simp; done))); simp only [Act.put, List.setIfInBounds_toArray, List.set_cons_zero, List.set_cons_succ]))
                    refine wpG_eff (by rfl) (fun K hK => ?_)
                    refine Lib.wp_append_run _ _ _ 43 43 rfl (.slice none 0 0) (.slice (some ⟨g, 0, none⟩) out.length out.length) rfl rfl _ _ r1.out ?_
                    refine hK _ _ trivial ?_
                    clear hK K
                    repeat (first | (refine wpG_at (v := ?_) (by rfl) ?_ ?_; rotate_left; (focus (first | (go_simp; with_reducible rfl) | (go_simp; done))); simp only [Act.put, List.setIfInBounds_toArray, List.set_cons_zero, List.set_cons_succ]) | (refine wpG_at_skip (by rfl) ?_; simp only [Act.put, List.setIfInBounds_toArray, List.set_cons_zero, List.set_cons_succ]) | (refine wpG_held_skip (by rfl) ?_; simp only [Act.put, List.setIfInBounds_toArray, List.set_cons_zero, List.set_cons_succ]) | (refine wpG_held (v := ?_) (by rfl) ?_ ?_; rotate_left; (focus (intro w' hSw; (try dsimp only at hSw); go_split_ands; first | (go_simp; with_reducible rfl) | (go_simp; done))); simp only [Act.put, List.setIfInBounds_toArray, List.set_cons_zero, List.set_cons_succ]))
                    refine wpG_eff (by rfl) (fun K hK => ?_)
                    go_simp
                    refine hK _ _ trivial ?_
                    clear hK K
                    repeat (first | (refine wpG_at (v := ?_) (by rfl) ?_ ?_; rotate_left; (focus (first | (go_simp; with_reducible rfl) | (go_simp; done))); simp only [Act.put, List.setIfInBounds_toArray, List.set_cons_zero, List.set_cons_succ]) | (refine wpG_at_skip (by rfl) ?_; simp only [Act.put, List.setIfInBounds_toArray, List.set_cons_zero, List.set_cons_succ]) | (refine wpG_held_skip (by rfl) ?_; simp only [Act.put, List.setIfInBounds_toArray, List.set_cons_zero, List.set_cons_succ]) | (refine wpG_held (v := ?_) (by rfl) ?_ ?_; rotate_left; (focus (intro w' hSw; (try dsimp only at hSw); go_split_ands; first | (go_simp; with_reducible rfl) | (go_simp; done))); simp only [Act.put, List.setIfInBounds_toArray, List.set_cons_zero, List.set_cons_succ]))
                    refine wpG_eff (by rfl) (fun K hK => ?_)
                    refine Lib.wp_append_run _ _ _ 43 43 rfl va (.slice (some ⟨wa.heap.size, 0, none⟩) 1 1) rfl rfl _ _ r2.out ?_
                    refine hK _ _ trivial ?_
                    clear hK K
                    repeat (first | (refine wpG_at (v := ?_) (by rfl) ?_ ?_; rotate_left; (focus (first | (go_simp; with_reducible rfl) | (go_simp; done))); simp only [Act.put, List.setIfInBounds_toArray, List.set_cons_zero, List.set_cons_succ]) | (refine wpG_at_skip (by rfl) ?_; simp only [Act.put, List.setIfInBounds_toArray, List.set_cons_zero, List.set_cons_succ]) | (refine wpG_held_skip (by rfl) ?_; simp only [Act.put, List.setIfInBounds_toArray, List.set_cons_zero, List.set_cons_succ]) | (refine wpG_held (v := ?_) (by rfl) ?_ ?_; rotate_left; (focus (intro w' hSw; (try dsimp only at hSw); go_split_ands; first | (go_simp; with_reducible rfl) | (go_simp; done))); simp only [Act.put, List.setIfInBounds_toArray, List.set_cons_zero, List.set_cons_succ]))
                    refine wpG_fin (by rfl) (fun K hK => ?_)
                    refine Lib.wp_append_run _ _ _ 43 43 rfl vb (.slice (some ⟨g, 0, none⟩) 0 0) rfl rfl _ _ r3.out ?_
                    refine hK _ _ ?_
                    clear hK K
                    repeat (first | (refine wpG_at (v := ?_) (by rfl) ?_ ?_; rotate_left; (focus (first | (go_simp; with_reducible rfl) | (go_simp; done))); simp only [Act.put, List.setIfInBounds_toArray, List.set_cons_zero, List.set_cons_succ]) | (refine wpG_at_skip (by rfl) ?_; simp only [Act.put, List.setIfInBounds_toArray, List.set_cons_zero, List.set_cons_succ]) | (refine wpG_held_skip (by rfl) ?_; simp only [Act.put, List.setIfInBounds_toArray, List.set_cons_zero, List.set_cons_succ]) | (refine wpG_held (v := ?_) (by rfl) ?_ ?_; rotate_left; (focus (intro w' hSw; (try dsimp only at hSw); go_split_ands; first | (go_simp; with_reducible rfl) | (go_simp; done))); simp only [Act.put, List.setIfInBounds_toArray, List.set_cons_zero, List.set_cons_succ]))
                    refine wpG_nil (NoPanic.normal ?_)
                    go_wp2_with fail
                    go_roundw
                    case rel => exact ⟨j + 1, _, by omega, by go_num, a3.out, by simp only [List.length_append, List.length_take, List.length_drop, List.length_singleton]; omega, hid ⟨ins_rising hout.out.1 (fun i hi h => hlo.out i hi h) (fun hk => by omega), fun z => by exact hmem.out out.length z⟩, hK'.out.drew.trans kc.out⟩
                    case measure => simp [intOf]; omega
                  ·
                    obtain ⟨va, wa, vb, wb, vc, wc, r1, r2, r3, a3, kc⟩ := insB (x := x) (w := w2.drew) (V1 := .slice (some ⟨g, 0, none⟩) out.length out.length) (V2 := .slice (some ⟨g, 0, none⟩) 0 0) (T := out.take out.length) (D := out.drop out.length) (hTk.out out.length (Nat.le_refl _)) (by have := hDr.out out.length 0 0 (fun h => absurd h (Nat.lt_irrefl _)) (by omega); rw [Nat.sub_self] at this; exact this) (by rw [List.length_take, List.length_drop]; omega)
                    replace r1 := hid r1
                    replace r2 := hid r2
                    replace r3 := hid r3
                    replace a3 := hid a3
                    replace kc := hid kc
                    repeat (first | (refine wpG_at (v := ?_) (by rfl) ?_ ?_; rotate_left; (focus (first | (go_simp; with_reducible rfl) | (go_simp; done))); simp only [Act.put, List.setIfInBounds_toArray, List.set_cons_zero, List.set_cons_succ]) | (refine wpG_at_skip (by rfl) ?_; simp only [Act.put, List.setIfInBounds_toArray, List.set_cons_zero, List.set_cons_succ]) | (refine wpG_held_skip (by rfl) ?_; simp only [Act.put, List.setIfInBounds_toArray, List.set_cons_zero, List.set_cons_succ]) | (refine wpG_held (v := ?_) (by rfl) ?_ ?_; rotate_left; (focus (intro w' hSw; (try dsimp only at hSw); go_split_ands; first | (go_simp; with_reducible rfl) | (go_simp; done))); simp only [Act.put, List.setIfInBounds_toArray, List.set_cons_zero, List.set_cons_succ]))
                    refine wpG_eff (by rfl) (fun K hK => ?_)
                    go_simp
                    refine hK _ _ trivial ?_
                    clear hK K
                    repeat (first | (refine wpG_at (v := ?_) (by rfl) ?_ ?_; rotate_left; (focus (first | (go_simp; with_reducible rfl) | (go_simp; done))); simp only [Act.put, List.setIfInBounds_toArray, List.set_cons_zero, List.set_cons_succ]) | (refine wpG_at_skip (by rfl) ?_; simp only [Act.put, List.setIfInBounds_toArray, List.set_cons_zero, List.set_cons_succ]) | (refine wpG_held_skip (by rfl) ?_; simp only [Act.put, List.setIfInBounds_toArray, List.set_cons_zero, List.set_cons_succ]) | (refine wpG_held (v := ?_) (by rfl) ?_ ?_; rotate_left; (focus (intro w' hSw; (try dsimp only at hSw); go_split_ands; first | (go_simp; with_reducible rfl) | (go_simp; done))); simp only [Act.put, List.setIfInBounds_toArray, List.set_cons_zero, List.set_cons_succ]))
                    refine wpG_eff (by rfl) (fun K hK => ?_)
                    refine Lib.wp_append_run _ _ _ 43 43 rfl (.slice none 0 0) (.slice (some ⟨g, 0, none⟩) out.length out.length) rfl rfl _ _ r1.out ?_
                    refine hK _ _ trivial ?_
                    clear hK K
                    repeat (first | (refine wpG_at (v := ?_) (by rfl) ?_ ?_; rotate_left; (focus (first | (go_simp; with_reducible rfl) | (go_simp; done))); simp only [Act.put, List.setIfInBounds_toArray, List.set_cons_zero, List.set_cons_succ]) | (refine wpG_at_skip (by rfl) ?_; simp only [Act.put, List.setIfInBounds_toArray, List.set_cons_zero, List.set_cons_succ]) | (refine wpG_held_skip (by rfl) ?_; simp only [Act.put, List.setIfInBounds_toArray, List.set_cons_zero, List.set_cons_succ]) | (refine wpG_held (v := ?_) (by rfl) ?_ ?_; rotate_left; (focus (intro w' hSw; (try dsimp only at hSw); go_split_ands; first | (go_simp; with_reducible rfl) | (go_simp; done))); simp only [Act.put, List.setIfInBounds_toArray, List.set_cons_zero, List.set_cons_succ]))
                    refine wpG_eff (by rfl) (fun K hK => ?_)
                    refine Lib.wp_append_run _ _ _ 43 43 rfl va (.slice (some ⟨w2.heap.size, 0, none⟩) 1 1) rfl rfl _ _ r2.out ?_
                    refine hK _ _ trivial ?_
                    clear hK K
                    repeat (first | (refine wpG_at (v := ?_) (by rfl) ?_ ?_; rotate_left; (focus (first | (go_simp; with_reducible rfl) | (go_simp; done))); simp only [Act.put, List.setIfInBounds_toArray, List.set_cons_zero, List.set_cons_succ]) | (refine wpG_at_skip (by rfl) ?_; simp only [Act.put, List.setIfInBounds_toArray, List.set_cons_zero, List.set_cons_succ]) | (refine wpG_held_skip (by rfl) ?_; simp only [Act.put, List.setIfInBounds_toArray, List.set_cons_zero, List.set_cons_succ]) | (refine wpG_held (v := ?_) (by rfl) ?_ ?_; rotate_left; (focus (intro w' hSw; (try dsimp only at hSw); go_split_ands; first | (go_simp; with_reducible rfl) | (go_simp; done))); simp only [Act.put, List.setIfInBounds_toArray, List.set_cons_zero, List.set_cons_succ]))
                    refine wpG_fin (by rfl) (fun K hK => ?_)
                    refine Lib.wp_append_run _ _ _ 43 43 rfl vb (.slice (some ⟨g, 0, none⟩) 0 0) rfl rfl _ _ r3.out ?_
                    refine hK _ _ ?_
                    clear hK K
                    repeat (first | (refine wpG_at (v := ?_) (by rfl) ?_ ?_; rotate_left; (focus (first | (go_simp; with_reducible rfl) | (go_simp; done))); simp only [Act.put, List.setIfInBounds_toArray, List.set_cons_zero, List.set_cons_succ]) | (refine wpG_at_skip (by rfl) ?_; simp only [Act.put, List.setIfInBounds_toArray, List.set_cons_zero, List.set_cons_succ]) | (refine wpG_held_skip (by rfl) ?_; simp only [Act.put, List.setIfInBounds_toArray, List.set_cons_zero, List.set_cons_succ]) | (refine wpG_held (v := ?_) (by rfl) ?_ ?_; rotate_left; (focus (intro w' hSw; (try dsimp only at hSw); go_split_ands; first | (go_simp; with_reducible rfl) | (go_simp; done))); simp only [Act.put, List.setIfInBounds_toArray, List.set_cons_zero, List.set_cons_succ]))
                    refine wpG_nil (NoPanic.normal ?_)
                    go_wp2_with fail
                    go_roundw
                    case rel => exact ⟨j + 1, _, by omega, by go_num, a3.out, by simp only [List.length_append, List.length_take, List.length_drop, List.length_singleton]; omega, hid ⟨ins_rising hout.out.1 (fun i hi h => hlo.out i hi h) (fun hk => by omega), fun z => by exact hmem.out out.length z⟩, hK'.out.drew.trans kc.out⟩
                    case measure => simp [intOf]; omega
                · go_wp2_with fail
                  refine wp_region_two 3 5 (fun _ => True) [(0, .at_), (1, .at_), (2, .at_), (4, .held), (7, .held), (8, .held), (9, .held), (3, .eff), (5, .eff), (6, .eff), (10, .fin), (11, .at_)] [(0, .held), (1, .held), (2, .held), (4, .at_), (7, .held), (8, .held), (9, .held), (5, .eff), (3, .eff), (6, .eff), (10, .fin), (11, .at_)] ?La4 ?Lb4 (by kernel_rfl) (by kernel_rfl) ?hLa4 ?hLb4 (trivial) ?hGa4 ?hGb4
                  case hLa4 => simp only [pickOps, List.map_cons, List.map_nil, List.getD_cons_zero, List.getD_cons_succ]; rfl
                  case hLb4 => simp only [pickOps, List.map_cons, List.map_nil, List.getD_cons_zero, List.getD_cons_succ]; rfl
                  ·
                    obtain ⟨va, wa, vb, wb, vc, wc, r1, r2, r3, a3, kc⟩ := insA (x := x) (w := w2.drew) (V1 := .slice (some ⟨g, 0, none⟩) out.length ca) (V2 := .slice (some ⟨g, out.length, none⟩) 0 (ca - out.length)) (T := out.take out.length) (D := out.drop out.length) (hTk.out out.length (Nat.le_refl _)) (by have := hDr.out out.length out.length (ca - out.length) (fun _ => rfl) (by omega); rw [Nat.sub_self] at this; exact this) (by rw [List.length_take, List.length_drop]; omega)
                    replace r1 := hid r1
                    replace r2 := hid r2
                    replace r3 := hid r3
                    replace a3 := hid a3
                    replace kc := hid kc
                    repeat (first | (refine wpG_at (v := ?_) (by rfl) ?_ ?_; rotate_left; (focus (first | (go_simp; with_reducible rfl) | (go_simp; done))); simp only [Act.put, List.setIfInBounds_toArray, List.set_cons_zero, List.set_cons_succ]) | (refine wpG_at_skip (by rfl) ?_; simp only [Act.put, List.setIfInBounds_toArray, List.set_cons_zero, List.set_cons_succ]) | (refine wpG_held_skip (by rfl) ?_; simp only [Act.put, List.setIfInBounds_toArray, List.set_cons_zero, List.set_cons_succ]) | (refine wpG_held (v := ?_) (by rfl) ?_ ?_; rotate_left; (focus (intro w' hSw; (try dsimp only at hSw); go_split_ands; first | (go_simp; with_reducible rfl) | (go_simp; done))); simp only [Act.put, List.setIfInBounds_toArray, List.set_cons_zero, List.set_cons_succ]))
                    refine wpG_eff (by rfl) (fun K hK => ?_)
                    refine Lib.wp_append_run _ _ _ 43 43 rfl (.slice none 0 0) (.slice (some ⟨g, 0, none⟩) out.length ca) rfl rfl _ _ r1.out ?_
                    refine hK _ _ trivial ?_
                    clear hK K
                    repeat (first | (refine wpG_at (v := ?_) (by rfl) ?_ ?_; rotate_left; (focus (first | (go_simp; with_reducible rfl) | (go_simp; done))); simp only [Act.put, List.setIfInBounds_toArray, List.set_cons_zero, List.set_cons_succ]) | (refine wpG_at_skip (by rfl) ?_; simp only [Act.put, List.setIfInBounds_toArray, List.set_cons_zero, List.set_cons_succ]) | (refine wpG_held_skip (by rfl) ?_; simp only [Act.put, List.setIfInBounds_toArray, List.set_cons_zero, List.set_cons_succ]) | (refine wpG_held (v := ?_) (by rfl) ?_ ?_; rotate_left; (focus (intro w' hSw; (try dsimp only at hSw); go_split_ands; first | (go_simp; with_reducible rfl) | (go_simp; done))); simp only [Act.put, List.setIfInBounds_toArray, List.set_cons_zero, List.set_cons_succ]))
                    refine wpG_eff (by rfl) (fun K hK => ?_)
                    go_simp
                    refine hK _ _ trivial ?_
                    clear hK K
                    repeat (first | (refine wpG_at (v := ?_) (by rfl) ?_ ?_; rotate_left; (focus (first | (go_simp; with_reducible rfl) | (go_simp; done))); simp only [Act.put, List.setIfInBounds_toArray, List.set_cons_zero, List.set_cons_succ]) | (refine wpG_at_skip (by rfl) ?_; simp only [Act.put, List.setIfInBounds_toArray, List.set_cons_zero, List.set_cons_succ]) | (refine wpG_held_skip (by rfl) ?_; simp only [Act.put, List.setIfInBounds_toArray, List.set_cons_zero, List.set_cons_succ]) | (refine wpG_held (v := ?_) (by rfl) ?_ ?_; rotate_left; (focus (intro w' hSw; (try dsimp only at hSw); go_split_ands; first | (go_simp; with_reducible rfl) | (go_simp; done))); simp only [Act.put, List.setIfInBounds_toArray, List.set_cons_zero, List.set_cons_succ]))
                    refine wpG_eff (by rfl) (fun K hK => ?_)
                    refine Lib.wp_append_run _ _ _ 43 43 rfl va (.slice (some ⟨wa.heap.size, 0, none⟩) 1 1) rfl rfl _ _ r2.out ?_
                    refine hK _ _ trivial ?_
                    clear hK K
                    repeat (first | (refine wpG_at (v := ?_) (by rfl) ?_ ?_; rotate_left; (focus (first | (go_simp; with_reducible rfl) | (go_simp; done))); simp only [Act.put, List.setIfInBounds_toArray, List.set_cons_zero, List.set_cons_succ]) | (refine wpG_at_skip (by rfl) ?_; simp only [Act.put, List.setIfInBounds_toArray, List.set_cons_zero, List.set_cons_succ]) | (refine wpG_held_skip (by rfl) ?_; simp only [Act.put, List.setIfInBounds_toArray, List.set_cons_zero, List.set_cons_succ]) | (refine wpG_held (v := ?_) (by rfl) ?_ ?_; rotate_left; (focus (intro w' hSw; (try dsimp only at hSw); go_split_ands; first | (go_simp; with_reducible rfl) | (go_simp; done))); simp only [Act.put, List.setIfInBounds_toArray, List.set_cons_zero, List.set_cons_succ]))
                    refine wpG_fin (by rfl) (fun K hK => ?_)
                    refine Lib.wp_append_run _ _ _ 43 43 rfl vb (.slice (some ⟨g, out.length, none⟩) 0 (ca - out.length)) rfl rfl _ _ r3.out ?_
                    refine hK _ _ ?_
                    clear hK K
                    repeat (first | (refine wpG_at (v := ?_) (by rfl) ?_ ?_; rotate_left; (focus (first | (go_simp; with_reducible rfl) | (go_simp; done))); simp only [Act.put, List.setIfInBounds_toArray, List.set_cons_zero, List.set_cons_succ]) | (refine wpG_at_skip (by rfl) ?_; simp only [Act.put, List.setIfInBounds_toArray, List.set_cons_zero, List.set_cons_succ]) | (refine wpG_held_skip (by rfl) ?_; simp only [Act.put, List.setIfInBounds_toArray, List.set_cons_zero, List.set_cons_succ]) | (refine wpG_held (v := ?_) (by rfl) ?_ ?_; rotate_left; (focus (intro w' hSw; (try dsimp only at hSw); go_split_ands; first | (go_simp; with_reducible rfl) | (go_simp; done))); simp only [Act.put, List.setIfInBounds_toArray, List.set_cons_zero, List.set_cons_succ]))
                    refine wpG_nil (NoPanic.normal ?_)
                    go_wp2_with fail
                    go_roundw
                    case rel => exact ⟨j + 1, _, by omega, by go_num, a3.out, by simp only [List.length_append, List.length_take, List.length_drop, List.length_singleton]; omega, hid ⟨ins_rising hout.out.1 (fun i hi h => hlo.out i hi h) (fun hk => by omega), fun z => by exact hmem.out out.length z⟩, hK'.out.drew.trans kc.out⟩
                    case measure => simp [intOf]; omega
                  ·
                    obtain ⟨va, wa, vb, wb, vc, wc, r1, r2, r3, a3, kc⟩ := insB (x := x) (w := w2.drew) (V1 := .slice (some ⟨g, 0, none⟩) out.length ca) (V2 := .slice (some ⟨g, out.length, none⟩) 0 (ca - out.length)) (T := out.take out.length) (D := out.drop out.length) (hTk.out out.length (Nat.le_refl _)) (by have := hDr.out out.length out.length (ca - out.length) (fun _ => rfl) (by omega); rw [Nat.sub_self] at this; exact this) (by rw [List.length_take, List.length_drop]; omega)
                    replace r1 := hid r1
                    replace r2 := hid r2
                    replace r3 := hid r3
                    replace a3 := hid a3
                    replace kc := hid kc
                    repeat (first | (refine wpG_at (v := ?_) (by rfl) ?_ ?_; rotate_left; (focus (first | (go_simp; with_reducible rfl) | (go_simp; done))); simp only [Act.put, List.setIfInBounds_toArray, List.set_cons_zero, List.set_cons_succ]) | (refine wpG_at_skip (by rfl) ?_; simp only [Act.put, List.setIfInBounds_toArray, List.set_cons_zero, List.set_cons_succ]) | (refine wpG_held_skip (by rfl) ?_; simp only [Act.put, List.setIfInBounds_toArray, List.set_cons_zero, List.set_cons_succ]) | (refine wpG_held (v := ?_) (by rfl) ?_ ?_; rotate_left; (focus (intro w' hSw; (try dsimp only at hSw); go_split_ands; first | (go_simp; with_reducible rfl) | (go_simp; done))); simp only [Act.put, List.setIfInBounds_toArray, List.set_cons_zero, List.set_cons_succ]))
                    refine wpG_eff (by rfl) (fun K hK => ?_)
                    go_simp
                    refine hK _ _ trivial ?_
                    clear hK K
                    repeat (first | (refine wpG_at (v := ?_) (by rfl) ?_ ?_; rotate_left; (focus (first | (go_simp; with_reducible rfl) | (go_simp; done))); simp only [Act.put, List.setIfInBounds_toArray, List.set_cons_zero, List.set_cons_succ]) | (refine wpG_at_skip (by rfl) ?_; simp only [Act.put, List.setIfInBounds_toArray, List.set_cons_zero, List.set_cons_succ]) | (refine wpG_held_skip (by rfl) ?_; simp only [Act.put, List.setIfInBounds_toArray, List.set_cons_zero, List.set_cons_succ]) | (refine wpG_held (v := ?_) (by rfl) ?_ ?_; rotate_left; (focus (intro w' hSw; (try dsimp only at hSw); go_split_ands; first | (go_simp; with_reducible rfl) | (go_simp; done))); simp only [Act.put, List.setIfInBounds_toArray, List.set_cons_zero, List.set_cons_succ]))
                    refine wpG_eff (by rfl) (fun K hK => ?_)
                    refine Lib.wp_append_run _ _ _ 43 43 rfl (.slice none 0 0) (.slice (some ⟨g, 0, none⟩) out.length ca) rfl rfl _ _ r1.out ?_
                    refine hK _ _ trivial ?_
                    clear hK K
                    repeat (first | (refine wpG_at (v := ?_) (by rfl) ?_ ?_; rotate_left; (focus (first | (go_simp; with_reducible rfl) | (go_simp; done))); simp only [Act.put, List.setIfInBounds_toArray, List.set_cons_zero, List.set_cons_succ]) | (refine wpG_at_skip (by rfl) ?_; simp only [Act.put, List.setIfInBounds_toArray, List.set_cons_zero, List.set_cons_succ]) | (refine wpG_held_skip (by rfl) ?_; simp only [Act.put, List.setIfInBounds_toArray, List.set_cons_zero, List.set_cons_succ]) | (refine wpG_held (v := ?_) (by rfl) ?_ ?_; rotate_left; (focus (intro w' hSw; (try dsimp only at hSw); go_split_ands; first | (go_simp; with_reducible rfl) | (go_simp; done))); simp only [Act.put, List.setIfInBounds_toArray, List.set_cons_zero, List.set_cons_succ]))
                    refine wpG_eff (by rfl) (fun K hK => ?_)
                    refine Lib.wp_append_run _ _ _ 43 43 rfl va (.slice (some ⟨w2.heap.size, 0, none⟩) 1 1) rfl rfl _ _ r2.out ?_
                    refine hK _ _ trivial ?_
                    clear hK K
                    repeat (first | (refine wpG_at (v := ?_) (by rfl) ?_ ?_; rotate_left; (focus (first | (go_simp; with_reducible rfl) | (go_simp; done))); simp only [Act.put, List.setIfInBounds_toArray, List.set_cons_zero, List.set_cons_succ]) | (refine wpG_at_skip (by rfl) ?_; simp only [Act.put, List.setIfInBounds_toArray, List.set_cons_zero, List.set_cons_succ]) | (refine wpG_held_skip (by rfl) ?_; simp only [Act.put, List.setIfInBounds_toArray, List.set_cons_zero, List.set_cons_succ]) | (refine wpG_held (v := ?_) (by rfl) ?_ ?_; rotate_left; (focus (intro w' hSw; (try dsimp only at hSw); go_split_ands; first | (go_simp; with_reducible rfl) | (go_simp; done))); simp only [Act.put, List.setIfInBounds_toArray, List.set_cons_zero, List.set_cons_succ]))
                    refine wpG_fin (by rfl) (fun K hK => ?_)
                    refine Lib.wp_append_run _ _ _ 43 43 rfl vb (.slice (some ⟨g, out.length, none⟩) 0 (ca - out.length)) rfl rfl _ _ r3.out ?_
                    refine hK _ _ ?_
                    clear hK K
                    repeat (first | (refine wpG_at (v := ?_) (by rfl) ?_ ?_; rotate_left; (focus (first | (go_simp; with_reducible rfl) | (go_simp; done))); simp only [Act.put, List.setIfInBounds_toArray, List.set_cons_zero, List.set_cons_succ]) | (refine wpG_at_skip (by rfl) ?_; simp only [Act.put, List.setIfInBounds_toArray, List.set_cons_zero, List.set_cons_succ]) | (refine wpG_held_skip (by rfl) ?_; simp only [Act.put, List.setIfInBounds_toArray, List.set_cons_zero, List.set_cons_succ]) | (refine wpG_held (v := ?_) (by rfl) ?_ ?_; rotate_left; (focus (intro w' hSw; (try dsimp only at hSw); go_split_ands; first | (go_simp; with_reducible rfl) | (go_simp; done))); simp only [Act.put, List.setIfInBounds_toArray, List.set_cons_zero, List.set_cons_succ]))
                    refine wpG_nil (NoPanic.normal ?_)
                    go_wp2_with fail
                    go_roundw
                    case rel => exact ⟨j + 1, _, by omega, by go_num, a3.out, by simp only [List.length_append, List.length_take, List.length_drop, List.length_singleton]; omega, hid ⟨ins_rising hout.out.1 (fun i hi h => hlo.out i hi h) (fun hk => by omega), fun z => by exact hmem.out out.length z⟩, hK'.out.drew.trans kc.out⟩
                    case measure => simp [intOf]; omega
      · have hyb : (y != t) = true := by simpa using hy
        have hy' := hid hy
        clear hy
        go_wp2_with fail
        go_roundw
        case rel => exact ⟨j + 1, out, by omega, by go_num, hR, by omega, hid ⟨hout.out.1, fun z => by rw [hsucc.out, if_neg (fun h => hy'.out h.1), List.append_nil]; exact hout.out.2 z⟩, hK⟩
        case measure => simp [intOf]; omega
    · obtain rfl : j = L.length := by omega
      replace hA := hid hA
      have hE := hid (show out = heldL L t from rising_eq hout.out.1 (sorted_rising (held_nodup o t)) (fun x => by rw [hout.out.2, heldJ_all, heldL, mem_sorted]))
      replace hR := hid hR
      go_wp2_with fail
      go_ret
      exact ⟨_, rfl, by rw [← hE.out]; exact hR.out.rs, hK⟩
end
end Go.Proofs.Ytpfhjfijpmcnkaa
