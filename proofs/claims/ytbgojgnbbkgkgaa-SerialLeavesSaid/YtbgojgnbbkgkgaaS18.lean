/- Walks through the document's table: Put. -/
import Derived.Test.YtbgojgnbbkgkgaaS17
namespace Go.Proofs.Ytbgojgnbbkgkgaa
set_option linter.unusedSimpArgs false
set_option linter.unusedVariables false
open Go.RowKit Go.Shelf
attribute [local go_sem ↓] Go.wp_at_zero Go.wp_at_succ
def Rise (L : List (Int × Int × Int)) : Prop := L.Pairwise (fun a b => a.1 < b.1)
theorem ins_rise {L : List (Int × Int × Int)} {x : Int × Int × Int} {k : Nat} (hl : Rise L) (h1 : ∀ i (hi : i < L.length), i < k → L[i].1 < x.1) (h2 : ∀ (hk : k < L.length), x.1 < L[k].1) : Rise (L.take k ++ [x] ++ L.drop k) := by
  unfold Rise at *
  rw [List.append_assoc, List.pairwise_append]
  refine ⟨hl.sublist (List.take_sublist _ _), ?_, ?_⟩
  · rw [List.singleton_append, List.pairwise_cons]
    refine ⟨?_, hl.sublist (List.drop_sublist _ _)⟩
    intro y hy
    obtain ⟨i, hi, rfl⟩ := List.getElem_of_mem hy
    rw [List.length_drop] at hi
    rw [List.getElem_drop]
    have hk : k < L.length := by omega
    rcases Nat.eq_zero_or_pos i with rfl | hi0
    · exact h2 hk
    · have := List.pairwise_iff_getElem.1 hl k (k + i) hk (by omega) (by omega)
      have := h2 hk
      omega
  · intro a ha b hb
    obtain ⟨i, hi, rfl⟩ := List.getElem_of_mem ha
    rw [List.length_take] at hi
    rw [List.getElem_take]
    have hx := h1 i (by omega) (by omega)
    rw [List.singleton_append, List.mem_cons] at hb
    rcases hb with rfl | hb
    · exact hx
    · obtain ⟨j, hj, rfl⟩ := List.getElem_of_mem hb
      rw [List.length_drop] at hj
      rw [List.getElem_drop]
      exact List.pairwise_iff_getElem.1 hl i (k + j) (by omega) (by omega) (by omega)
theorem ins_mem' {α : Type} {l : List α} {x y : α} (k : Nat) : y ∈ l.take k ++ [x] ++ l.drop k ↔ (y = x ∨ y ∈ l) := by
  have : y ∈ l ↔ y ∈ l.take k ∨ y ∈ l.drop k := by rw [← List.mem_append, List.take_append_drop]
  rw [this]; simp only [List.mem_append, List.mem_singleton]
  constructor
  · rintro ((h | h) | h)
    · exact .inr (.inl h)
    · exact .inl h
    · exact .inr (.inr h)
  · rintro (h | h | h)
    · exact .inl (.inr h)
    · exact .inl (.inl h)
    · exact .inr h
def InsM (L' L : List (Int × Int × Int)) (x : Int × Int × Int) : Prop := ∀ y, y ∈ L' ↔ (y = x ∨ y ∈ L)
/-- append(append(append(nil, T...), x), D...): x laid behind the first one, or ahead of it -/
theorem insA {w : World} {V1 V2 : Value} {T D : List (Int × Int × Int)} {x : Int × Int × Int} (hT : Sl w 56 eR V1 T) (hD : Sl w 56 eR V2 D) (hl : T.length + D.length ≤ 100000) :
    ∃ va wa vb wb vc wc, (Builtin.append_ #[44, 44] 44 #[.slice none 0 0, V1]).run Try.prog w = .ok va wa ∧ (Builtin.append_ #[44, 44] 44 #[va, .slice (some ⟨wa.heap.size, 0, none⟩) 1 1]).run Try.prog (wa.alloc (.cells #[.int .i64 x.1, .int .i64 x.2.1, .int .u64 x.2.2] 56)) = .ok vb wb ∧
      (Builtin.append_ #[44, 44] 44 #[vb, V2]).run Try.prog wb = .ok vc wc ∧ RowAt wc 56 eR 3 vc (T ++ [x] ++ D) ∧ Kp NoB w wa ∧ Kp NoB w (wa.alloc (.cells #[.int .i64 x.1, .int .i64 x.2.1, .int .u64 x.2.2] 56)) ∧ Kp NoB w wb ∧ Kp NoB w wc := by
  obtain ⟨va, wa, r1, a1, ka, oa⟩ := run_nil_sl (P := Try.prog) (t := 44) (ty := 44) eR_len (by omega) sl44 i56 rfl hT (oneR _) (by omega) (by omega)
  obtain ⟨vb, wb, r2, a2, g2, o2⟩ := run_grow_sl (P := Try.prog) (t := 44) (ty := 44) eR_len (by omega) sl44 i56 rfl (a1.alloc (.cells #[.int .i64 x.1, .int .i64 x.2.1, .int .u64 x.2.2] 56)) (Sl.one (f := eR) wa 56 x) (oneR _) (by simp; omega) (by omega)
  have kb : Kp NoB w wb := (ka.alloc (.cells #[.int .i64 x.1, .int .i64 x.2.1, .int .u64 x.2.2] 56)).trans' (kp_grown (F := fun b => va.ownBlock = some b) g2 (fun b hb => hb)) (fun b hb hg => absurd (oa b hg) (by omega))
  obtain ⟨vc, wc, r3, a3, g3, o3⟩ := run_grow_sl (P := Try.prog) (t := 44) (ty := 44) eR_len (by omega) sl44 i56 rfl a2 (hD.kn kb) (oneR _) (by simp; omega) (by omega)
  have hob : ∀ b, vb.ownBlock = some b → w.heap.size ≤ b := fun b hb => by
    rcases o2 with o | ⟨b2, o, h2⟩
    · exact oa b (o ▸ hb)
    · rw [hb] at o; injection o with o; subst o
      exact Nat.le_trans (ka.alloc (.cells #[.int .i64 x.1, .int .i64 x.2.1, .int .u64 x.2.2] 56)).size h2
  exact ⟨va, wa, vb, wb, vc, wc, r1, r2, r3, a3, ka, ka.alloc _, kb, kb.trans' (kp_grown (F := fun b => vb.ownBlock = some b) g3 (fun b hb => hb)) (fun b hb hg => absurd (hob b hg) (by omega))⟩
theorem insB {w : World} {V1 V2 : Value} {T D : List (Int × Int × Int)} {x : Int × Int × Int} (hT : Sl w 56 eR V1 T) (hD : Sl w 56 eR V2 D) (hl : T.length + D.length ≤ 100000) :
    ∃ va wa vb wb vc wc, (Builtin.append_ #[44, 44] 44 #[.slice none 0 0, V1]).run Try.prog (w.alloc (.cells #[.int .i64 x.1, .int .i64 x.2.1, .int .u64 x.2.2] 56)) = .ok va wa ∧ (Builtin.append_ #[44, 44] 44 #[va, .slice (some ⟨w.heap.size, 0, none⟩) 1 1]).run Try.prog wa = .ok vb wb ∧
      (Builtin.append_ #[44, 44] 44 #[vb, V2]).run Try.prog wb = .ok vc wc ∧ RowAt wc 56 eR 3 vc (T ++ [x] ++ D) ∧ Kp NoB w (w.alloc (.cells #[.int .i64 x.1, .int .i64 x.2.1, .int .u64 x.2.2] 56)) ∧ Kp NoB w wa ∧ Kp NoB w wb ∧ Kp NoB w wc := by
  have k0 := (Kp.refl NoB w).alloc (.cells #[.int .i64 x.1, .int .i64 x.2.1, .int .u64 x.2.2] 56)
  obtain ⟨va, wa, r1, a1, ka, oa⟩ := run_nil_sl (P := Try.prog) (t := 44) (ty := 44) eR_len (by omega) sl44 i56 rfl (hT.kn k0) (oneR _) (by omega) (by omega)
  obtain ⟨vb, wb, r2, a2, g2, o2⟩ := run_grow_sl (P := Try.prog) (t := 44) (ty := 44) eR_len (by omega) sl44 i56 rfl a1 ((Sl.one (f := eR) w 56 x).kn ka) (oneR _) (by simp; omega) (by omega)
  have oa' : ∀ b, va.ownBlock = some b → w.heap.size ≤ b := fun b hb => Nat.le_trans k0.size (oa b hb)
  have kb : Kp NoB w wb := (k0.trans ka).trans' (kp_grown (F := fun b => va.ownBlock = some b) g2 (fun b hb => hb)) (fun b hb hg => absurd (oa' b hg) (by omega))
  obtain ⟨vc, wc, r3, a3, g3, o3⟩ := run_grow_sl (P := Try.prog) (t := 44) (ty := 44) eR_len (by omega) sl44 i56 rfl a2 (hD.kn kb) (oneR _) (by simp; omega) (by omega)
  have hob : ∀ b, vb.ownBlock = some b → w.heap.size ≤ b := fun b hb => by
    rcases o2 with o | ⟨b2, o, h2⟩
    · exact oa' b (o ▸ hb)
    · rw [hb] at o; injection o with o; subst o
      exact Nat.le_trans (k0.trans ka).size h2
  exact ⟨va, wa, vb, wb, vc, wc, r1, r2, r3, a3, k0, k0.trans ka, kb, kb.trans' (kp_grown (F := fun b => vb.ownBlock = some b) g3 (fun b hb => hb)) (fun b hb hg => absurd (hob b hg) (by omega))⟩
def putLE (L : List (Int × Int × Int)) (room : Nat) (s g : Int) : Int := if ¬ (1 ≤ s ∧ s ≤ 1073741824) ∨ g = 0 then 2 else if 0 ≤ findR L s then 15 else if L.length ≥ room then 3 else 0
theorem find_neg {L : List (Int × Int × Int)} {s : Int} (h : findR L s < 0) : ∀ x ∈ L, x.1 ≠ s := by
  unfold findR at h
  cases hq : L.findIdx? (fun x => x.1 == s) with
  | none => rw [List.findIdx?_eq_none_iff] at hq; intro x hx; simpa using hq x hx
  | some i => rw [hq] at h; simp at h; omega
section
variable {w w' : World} {q room : Nat} {v : Value} {L : List (Int × Int × Int)}
set_option maxRecDepth 100000 in
set_option maxHeartbeats 4000000 in
theorem rput_bad (h : RAt w q room v L) (s i g : Int) (hb : ¬ (1 ≤ s ∧ s ≤ 1073741824) ∨ g = 0) :
    Calls Try.prog 27 #[.pointer (some ⟨q, 0, none⟩), .int .i64 s, hV i g] w fun e w' => e = .returned (.int .i64 2) ∧ Kp NoB w w' := by
  clear h
  have hb' := hid hb
  unfold hV
  rcases (show s < 1 ∨ (1 ≤ s ∧ 1073741824 < s) ∨ (1 ≤ s ∧ s ≤ 1073741824 ∧ g = 0) from by omega) with h1 | ⟨h1, h2⟩ | ⟨h1, h2, h3⟩
  all_goals
    clear hb
    try subst h3
    go_enter Try.func27, Try.ntmps27
    go_wp2_with fail
    go_ret
    exact ⟨rfl, (Kp.refl _ w).alloc _⟩
set_option maxRecDepth 100000 in
set_option maxHeartbeats 4000000 in
theorem rput_exists (h : RAt w q room v L) (n2 : L.length ≤ 4000) (s i g : Int) (hb : (1 ≤ s ∧ s ≤ 1073741824) ∧ g ≠ 0) (hf : 0 ≤ findR L s) :
    Calls Try.prog 27 #[.pointer (some ⟨q, 0, none⟩), .int .i64 s, hV i g] w fun e w' => e = .returned (.int .i64 15) ∧ Kp NoB w w' := by
  have HF := hid (find_any (h.kn ((Kp.refl _ w).alloc (.cells #[.int .i64 i, .int .u64 g] 25))) n2 s)
  obtain ⟨⟨b1, b2⟩, b3⟩ := hb
  have b4 : (g == 0) = false := by simpa using b3
  generalize findR L s = r at *
  clear h b3
  unfold hV
  go_enter Try.func27, Try.ntmps27
  go_wp2_with fail
  refine HF.out.mono ?_
  rintro e w1 ⟨rfl, rfl⟩
  go_wp2_with fail
  go_ret
  exact ⟨rfl, (Kp.refl _ w).alloc _⟩
set_option maxRecDepth 100000 in
set_option maxHeartbeats 4000000 in
theorem rput_full (h : RAt w q room v L) (n2 : L.length ≤ 4000) (s i g : Int) (hb : (1 ≤ s ∧ s ≤ 1073741824) ∧ g ≠ 0) (hf : findR L s < 0) (hl : room ≤ L.length) :
    Calls Try.prog 27 #[.pointer (some ⟨q, 0, none⟩), .int .i64 s, hV i g] w fun e w' => e = .returned (.int .i64 3) ∧ Kp NoB w w' := by
  have h1 := h.kn ((Kp.refl _ w).alloc (.cells #[.int .i64 i, .int .u64 g] 25))
  have HF := hid (find_any h1 n2 s)
  have Lp := loc2 h1.hq
  obtain ⟨ov, cv, hvv, _⟩ := h.hv.form
  subst hvv
  obtain ⟨⟨b1, b2⟩, b3⟩ := hb
  have b4 : (g == 0) = false := by simpa using b3
  have b5 : (room : Int) ≤ (L.length : Int) := by omega
  generalize findR L s = r at *
  clear h h1 b3
  unfold hV
  go_enter Try.func27, Try.ntmps27
  go_wp2_with fail
  refine HF.out.mono ?_
  rintro e w1 ⟨rfl, rfl⟩
  go_wp2_with fail
  refine wp_region_G (fun _ => True) [(0, .at_), (1, .at_), (2, .at_), (3, .at_), (4, .at_), (5, .at_), (6, .at_), (7, .at_), (8, .at_), (9, .at_)] ?L5 (by kernel_rfl) (by kernel_rfl) ?hL5 (trivial) ?hG5
  case hL5 => simp only [pickOps, List.map_cons, List.map_nil, List.getD_cons_zero, List.getD_cons_succ]; rfl
  repeat (first | (refine wpG_at (v := ?_) (by rfl) ?_ ?_; rotate_left; (focus (first | (go_simp; with_reducible rfl) | (go_simp; done))); simp only [Act.put, List.setIfInBounds_toArray, List.set_cons_zero, List.set_cons_succ]) | (refine wpG_at_skip (by rfl) ?_; simp only [Act.put, List.setIfInBounds_toArray, List.set_cons_zero, List.set_cons_succ]) | (refine wpG_held_skip (by rfl) ?_; simp only [Act.put, List.setIfInBounds_toArray, List.set_cons_zero, List.set_cons_succ]) | (refine wpG_held (v := ?_) (by rfl) ?_ ?_; rotate_left; (focus (intro w' hSw; (try dsimp only at hSw); go_split_ands; first | (go_simp; with_reducible rfl) | (go_simp; done))); simp only [Act.put, List.setIfInBounds_toArray, List.set_cons_zero, List.set_cons_succ]))
  refine wpG_nil (NoPanic.normal ?_)
  go_wp2_with fail
  go_ret
  exact ⟨rfl, ((Kp.refl _ w).alloc _).drew⟩
set_option maxRecDepth 100000 in
set_option maxHeartbeats 16000000 in
theorem rput_good (h : RAt w q room v L) (hr : Rise L) (n2 : L.length ≤ 4000) (s i g : Int) (hb : (1 ≤ s ∧ s ≤ 1073741824) ∧ g ≠ 0) (hf : findR L s < 0) (hl : L.length < room) :
    Calls Try.prog 27 #[.pointer (some ⟨q, 0, none⟩), .int .i64 s, hV i g] w fun e w' => e = .returned (.int .i64 0) ∧ ∃ v' L', RAt w' q room v' L' ∧ Rise L' ∧ InsM L' L (s, i, g) ∧ Kp (· = q) w w' := by
  have k0 := (Kp.refl NoB w).alloc (.cells #[.int .i64 i, .int .u64 g] 25)
  have h1 := h.kn k0
  have HF := hid (find_any h1 n2 s)
  have Lp := loc2 h1.hq
  have H1 := hid h1
  have hbx := hid (blk_new w (.cells #[.int .i64 i, .int .u64 g] 25))
  have hql := blk_lt h.hq
  obtain ⟨⟨b1, b2⟩, b3⟩ := hb
  have b4 : (g == 0) = false := by simpa using b3
  have b5 : ¬ (room : Int) ≤ (L.length : Int) := by omega
  have hnot := hid (find_neg hf)
  have hr' := hid hr
  generalize findR L s = r at *
  replace k0 := hid k0
  rcases h.hv.cut eR_len (by omega) with ⟨hv0, hL0⟩ | ⟨gb, ca, hv1, hca, hgl, _, _⟩
  · subst hv0; subst hL0
    clear h h1 b3 hr
    unfold hV
    go_enter Try.func27, Try.ntmps27
    go_wp2_with fail
    refine HF.out.mono ?_
    rintro e w1 ⟨rfl, rfl⟩
    simp only [List.length_nil] at *
    go_wp2_with fail
    refine wp_region_G (fun _ => True) [(0, .at_), (1, .at_), (2, .at_), (3, .at_), (4, .at_), (5, .at_), (6, .at_), (7, .at_), (8, .at_), (9, .at_)] ?L6 (by kernel_rfl) (by kernel_rfl) ?hL6 (trivial) ?hG6
    case hL6 => simp only [pickOps, List.map_cons, List.map_nil, List.getD_cons_zero, List.getD_cons_succ]; rfl
    repeat (first | (refine wpG_at (v := ?_) (by rfl) ?_ ?_; rotate_left; (focus (first | (go_simp; with_reducible rfl) | (go_simp; done))); simp only [Act.put, List.setIfInBounds_toArray, List.set_cons_zero, List.set_cons_succ]) | (refine wpG_at_skip (by rfl) ?_; simp only [Act.put, List.setIfInBounds_toArray, List.set_cons_zero, List.set_cons_succ]) | (refine wpG_held_skip (by rfl) ?_; simp only [Act.put, List.setIfInBounds_toArray, List.set_cons_zero, List.set_cons_succ]) | (refine wpG_held (v := ?_) (by rfl) ?_ ?_; rotate_left; (focus (intro w' hSw; (try dsimp only at hSw); go_split_ands; first | (go_simp; with_reducible rfl) | (go_simp; done))); simp only [Act.put, List.setIfInBounds_toArray, List.set_cons_zero, List.set_cons_succ]))
    refine wpG_nil (NoPanic.normal ?_)
    have K2 := hid (k0.out.drew)
    have H2 := hid (H1.out.kn ((Kp.refl _ _).drew))
    have HB2 := hid (blk_drew hbx.out)
    have hs2 : w.heap.size < ((w.alloc (.cells #[.int .i64 i, .int .u64 g] 25)).drew).heap.size := by simp
    clear Lp hbx H1 k0 HF
    generalize (w.alloc (.cells #[.int .i64 i, .int .u64 g] 25)).drew = w2 at *
    have Lp := loc2 H2.out.hq
    have Lb := loc2 HB2.out
    have HQ2 := hid H2.out.hq
    have SK := hid (fun W (k : Kp NoB w2 W) => (show W.cell? ⟨q, 0, none⟩ = some (.slice none 0 0) ∧ W.cell? ⟨w.heap.size, 0, none⟩ = some (.int .i64 i) ∧ W.cell? ⟨w.heap.size, 1, none⟩ = some (.int .u64 g) from ⟨(loc2 (k.get H2.out.hq (fun h => h))).1, (loc2 (k.get HB2.out (fun h => h))).1, (loc2 (k.get HB2.out (fun h => h))).2.1⟩))
    go_wp2_with fail
    go_loop [7] (fun i => i = .int .i64 0) (fun i => 0)
    case atStart => rfl
    case round =>
      subst hrel
      go_wp2_with fail
      refine wp_region_two 7 11 (fun W => W.cell? ⟨q, 0, none⟩ = some (.slice none 0 0) ∧ W.cell? ⟨w.heap.size, 0, none⟩ = some (.int .i64 i) ∧ W.cell? ⟨w.heap.size, 1, none⟩ = some (.int .u64 g)) [(0, .held), (1, .at_), (2, .at_), (3, .at_), (4, .at_), (5, .at_), (6, .at_), (8, .held), (9, .held), (10, .held), (13, .held), (14, .held), (15, .held), (16, .held), (17, .held), (18, .held), (7, .eff), (11, .eff), (12, .eff), (19, .eff), (20, .at_), (21, .at_), (22, .fin)] [(0, .held), (1, .held), (2, .held), (3, .held), (4, .held), (5, .held), (6, .held), (8, .at_), (9, .at_), (10, .at_), (13, .held), (14, .held), (15, .held), (16, .held), (17, .held), (18, .held), (11, .eff), (7, .eff), (12, .eff), (19, .eff), (20, .at_), (21, .at_), (22, .fin)] ?La1 ?Lb1 (by kernel_rfl) (by kernel_rfl) ?hLa1 ?hLb1 (SK.out _ ((Kp.refl _ w2).drew)) ?hGa1 ?hGb1
      case hLa1 => simp only [pickOps, List.map_cons, List.map_nil, List.getD_cons_zero, List.getD_cons_succ]; rfl
      case hLb1 => simp only [pickOps, List.map_cons, List.map_nil, List.getD_cons_zero, List.getD_cons_succ]; rfl
      ·
        obtain ⟨va, wa, vb, wb, vc, wc, r1, r2, r3, a3, k1, k2, k3, k4⟩ := insA (x := (s, i, g)) (w := w2.drew) (V1 := .slice none 0 0) (V2 := .slice none 0 0) (T := []) (D := []) (Sl.nil _ _ _) (Sl.nil _ _ _) (by simp)
        have SF := hid (fun W (k : Kp NoB w2.drew W) => SK.out W (((Kp.refl _ w2).drew).trans k))
        have hq4 := (k4.get (blk_drew HQ2.out) (fun h => h))
        have L4 := loc2 hq4
        replace r1 := hid r1
        replace r2 := hid r2
        replace r3 := hid r3
        replace a3 := hid a3
        replace k1 := hid k1
        replace k2 := hid k2
        replace k3 := hid k3
        replace k4 := hid k4
        replace hq4 := hid hq4
        obtain ⟨oc, cc, hvc, _, _⟩ := a3.out.form
        generalize hLL : ([] ++ [(s, i, g)] ++ []) = LL at *
        subst hvc
        repeat (first | (refine wpG_at (v := ?_) (by rfl) ?_ ?_; rotate_left; (focus (first | (go_simp; with_reducible rfl) | (go_simp; done))); simp only [Act.put, List.setIfInBounds_toArray, List.set_cons_zero, List.set_cons_succ]) | (refine wpG_at_skip (by rfl) ?_; simp only [Act.put, List.setIfInBounds_toArray, List.set_cons_zero, List.set_cons_succ]) | (refine wpG_held_skip (by rfl) ?_; simp only [Act.put, List.setIfInBounds_toArray, List.set_cons_zero, List.set_cons_succ]) | (refine wpG_held (v := ?_) (by rfl) ?_ ?_; rotate_left; (focus (intro w' hSw; (try dsimp only at hSw); go_split_ands; first | (go_simp; with_reducible rfl) | (go_simp; done))); simp only [Act.put, List.setIfInBounds_toArray, List.set_cons_zero, List.set_cons_succ]))
        refine wpG_eff (by rfl) (fun K hK => ?_)
        refine Lib.wp_append_run _ _ _ 44 44 rfl (.slice none 0 0) (.slice none 0 0) rfl rfl _ _ r1.out ?_
        refine hK _ _ (SF.out _ (k1.out)) ?_
        clear hK K
        repeat (first | (refine wpG_at (v := ?_) (by rfl) ?_ ?_; rotate_left; (focus (first | (go_simp; with_reducible rfl) | (go_simp; done))); simp only [Act.put, List.setIfInBounds_toArray, List.set_cons_zero, List.set_cons_succ]) | (refine wpG_at_skip (by rfl) ?_; simp only [Act.put, List.setIfInBounds_toArray, List.set_cons_zero, List.set_cons_succ]) | (refine wpG_held_skip (by rfl) ?_; simp only [Act.put, List.setIfInBounds_toArray, List.set_cons_zero, List.set_cons_succ]) | (refine wpG_held (v := ?_) (by rfl) ?_ ?_; rotate_left; (focus (intro w' hSw; (try dsimp only at hSw); go_split_ands; first | (go_simp; with_reducible rfl) | (go_simp; done))); simp only [Act.put, List.setIfInBounds_toArray, List.set_cons_zero, List.set_cons_succ]))
        refine wpG_eff (by rfl) (fun K hK => ?_)
        go_simp
        refine hK _ _ (SF.out _ (k2.out)) ?_
        clear hK K
        repeat (first | (refine wpG_at (v := ?_) (by rfl) ?_ ?_; rotate_left; (focus (first | (go_simp; with_reducible rfl) | (go_simp; done))); simp only [Act.put, List.setIfInBounds_toArray, List.set_cons_zero, List.set_cons_succ]) | (refine wpG_at_skip (by rfl) ?_; simp only [Act.put, List.setIfInBounds_toArray, List.set_cons_zero, List.set_cons_succ]) | (refine wpG_held_skip (by rfl) ?_; simp only [Act.put, List.setIfInBounds_toArray, List.set_cons_zero, List.set_cons_succ]) | (refine wpG_held (v := ?_) (by rfl) ?_ ?_; rotate_left; (focus (intro w' hSw; (try dsimp only at hSw); go_split_ands; first | (go_simp; with_reducible rfl) | (go_simp; done))); simp only [Act.put, List.setIfInBounds_toArray, List.set_cons_zero, List.set_cons_succ]))
        refine wpG_eff (by rfl) (fun K hK => ?_)
        refine Lib.wp_append_run _ _ _ 44 44 rfl va (.slice (some ⟨wa.heap.size, 0, none⟩) 1 1) rfl rfl _ _ r2.out ?_
        refine hK _ _ (SF.out _ k3.out) ?_
        clear hK K
        repeat (first | (refine wpG_at (v := ?_) (by rfl) ?_ ?_; rotate_left; (focus (first | (go_simp; with_reducible rfl) | (go_simp; done))); simp only [Act.put, List.setIfInBounds_toArray, List.set_cons_zero, List.set_cons_succ]) | (refine wpG_at_skip (by rfl) ?_; simp only [Act.put, List.setIfInBounds_toArray, List.set_cons_zero, List.set_cons_succ]) | (refine wpG_held_skip (by rfl) ?_; simp only [Act.put, List.setIfInBounds_toArray, List.set_cons_zero, List.set_cons_succ]) | (refine wpG_held (v := ?_) (by rfl) ?_ ?_; rotate_left; (focus (intro w' hSw; (try dsimp only at hSw); go_split_ands; first | (go_simp; with_reducible rfl) | (go_simp; done))); simp only [Act.put, List.setIfInBounds_toArray, List.set_cons_zero, List.set_cons_succ]))
        refine wpG_eff (by rfl) (fun K hK => ?_)
        refine Lib.wp_append_run _ _ _ 44 44 rfl vb (.slice none 0 0) rfl rfl _ _ r3.out ?_
        refine hK _ _ (SF.out _ k4.out) ?_
        clear hK K
        repeat (first | (refine wpG_at (v := ?_) (by rfl) ?_ ?_; rotate_left; (focus (first | (go_simp; with_reducible rfl) | (go_simp; done))); simp only [Act.put, List.setIfInBounds_toArray, List.set_cons_zero, List.set_cons_succ]) | (refine wpG_at_skip (by rfl) ?_; simp only [Act.put, List.setIfInBounds_toArray, List.set_cons_zero, List.set_cons_succ]) | (refine wpG_held_skip (by rfl) ?_; simp only [Act.put, List.setIfInBounds_toArray, List.set_cons_zero, List.set_cons_succ]) | (refine wpG_held (v := ?_) (by rfl) ?_ ?_; rotate_left; (focus (intro w' hSw; (try dsimp only at hSw); go_split_ands; first | (go_simp; with_reducible rfl) | (go_simp; done))); simp only [Act.put, List.setIfInBounds_toArray, List.set_cons_zero, List.set_cons_succ]))
        refine wpG_fin (by rfl) (fun K hK => ?_)
        go_simp
        refine hK _ _ ?_
        clear hK K
        repeat (first | (refine wpG_at (v := ?_) (by rfl) ?_ ?_; rotate_left; (focus (first | (go_simp; with_reducible rfl) | (go_simp; done))); simp only [Act.put, List.setIfInBounds_toArray, List.set_cons_zero, List.set_cons_succ]) | (refine wpG_at_skip (by rfl) ?_; simp only [Act.put, List.setIfInBounds_toArray, List.set_cons_zero, List.set_cons_succ]) | (refine wpG_held_skip (by rfl) ?_; simp only [Act.put, List.setIfInBounds_toArray, List.set_cons_zero, List.set_cons_succ]) | (refine wpG_held (v := ?_) (by rfl) ?_ ?_; rotate_left; (focus (intro w' hSw; (try dsimp only at hSw); go_split_ands; first | (go_simp; with_reducible rfl) | (go_simp; done))); simp only [Act.put, List.setIfInBounds_toArray, List.set_cons_zero, List.set_cons_succ]))
        refine wpG_nil (NoPanic.normal ?_)
        go_wp2_with fail
        go_ret
        exact ⟨rfl, _, LL, ⟨blk_setCell hq4.out 0 _, a3.out.setCell _ _ (a3.out.ne hq4.out (by decide))⟩, by rw [← hLL]; exact (by simp [Rise]), by rw [← hLL]; exact fun y => (by simp), (K2.out.drew.trans k4.out |>.mono (fun _ h => h.elim)).setCell (p := ⟨q, 0, none⟩) _ (fun _ => rfl)⟩
      ·
        obtain ⟨va, wa, vb, wb, vc, wc, r1, r2, r3, a3, k1, k2, k3, k4⟩ := insB (x := (s, i, g)) (w := w2.drew) (V1 := .slice none 0 0) (V2 := .slice none 0 0) (T := []) (D := []) (Sl.nil _ _ _) (Sl.nil _ _ _) (by simp)
        have SF := hid (fun W (k : Kp NoB w2.drew W) => SK.out W (((Kp.refl _ w2).drew).trans k))
        have hq4 := (k4.get (blk_drew HQ2.out) (fun h => h))
        have L4 := loc2 hq4
        replace r1 := hid r1
        replace r2 := hid r2
        replace r3 := hid r3
        replace a3 := hid a3
        replace k1 := hid k1
        replace k2 := hid k2
        replace k3 := hid k3
        replace k4 := hid k4
        replace hq4 := hid hq4
        obtain ⟨oc, cc, hvc, _, _⟩ := a3.out.form
        generalize hLL : ([] ++ [(s, i, g)] ++ []) = LL at *
        subst hvc
        repeat (first | (refine wpG_at (v := ?_) (by rfl) ?_ ?_; rotate_left; (focus (first | (go_simp; with_reducible rfl) | (go_simp; done))); simp only [Act.put, List.setIfInBounds_toArray, List.set_cons_zero, List.set_cons_succ]) | (refine wpG_at_skip (by rfl) ?_; simp only [Act.put, List.setIfInBounds_toArray, List.set_cons_zero, List.set_cons_succ]) | (refine wpG_held_skip (by rfl) ?_; simp only [Act.put, List.setIfInBounds_toArray, List.set_cons_zero, List.set_cons_succ]) | (refine wpG_held (v := ?_) (by rfl) ?_ ?_; rotate_left; (focus (intro w' hSw; (try dsimp only at hSw); go_split_ands; first | (go_simp; with_reducible rfl) | (go_simp; done))); simp only [Act.put, List.setIfInBounds_toArray, List.set_cons_zero, List.set_cons_succ]))
        refine wpG_eff (by rfl) (fun K hK => ?_)
        go_simp
        refine hK _ _ (SF.out _ (k1.out)) ?_
        clear hK K
        repeat (first | (refine wpG_at (v := ?_) (by rfl) ?_ ?_; rotate_left; (focus (first | (go_simp; with_reducible rfl) | (go_simp; done))); simp only [Act.put, List.setIfInBounds_toArray, List.set_cons_zero, List.set_cons_succ]) | (refine wpG_at_skip (by rfl) ?_; simp only [Act.put, List.setIfInBounds_toArray, List.set_cons_zero, List.set_cons_succ]) | (refine wpG_held_skip (by rfl) ?_; simp only [Act.put, List.setIfInBounds_toArray, List.set_cons_zero, List.set_cons_succ]) | (refine wpG_held (v := ?_) (by rfl) ?_ ?_; rotate_left; (focus (intro w' hSw; (try dsimp only at hSw); go_split_ands; first | (go_simp; with_reducible rfl) | (go_simp; done))); simp only [Act.put, List.setIfInBounds_toArray, List.set_cons_zero, List.set_cons_succ]))
        refine wpG_eff (by rfl) (fun K hK => ?_)
        refine Lib.wp_append_run _ _ _ 44 44 rfl (.slice none 0 0) (.slice none 0 0) rfl rfl _ _ r1.out ?_
        refine hK _ _ (SF.out _ (k2.out)) ?_
        clear hK K
        repeat (first | (refine wpG_at (v := ?_) (by rfl) ?_ ?_; rotate_left; (focus (first | (go_simp; with_reducible rfl) | (go_simp; done))); simp only [Act.put, List.setIfInBounds_toArray, List.set_cons_zero, List.set_cons_succ]) | (refine wpG_at_skip (by rfl) ?_; simp only [Act.put, List.setIfInBounds_toArray, List.set_cons_zero, List.set_cons_succ]) | (refine wpG_held_skip (by rfl) ?_; simp only [Act.put, List.setIfInBounds_toArray, List.set_cons_zero, List.set_cons_succ]) | (refine wpG_held (v := ?_) (by rfl) ?_ ?_; rotate_left; (focus (intro w' hSw; (try dsimp only at hSw); go_split_ands; first | (go_simp; with_reducible rfl) | (go_simp; done))); simp only [Act.put, List.setIfInBounds_toArray, List.set_cons_zero, List.set_cons_succ]))
        refine wpG_eff (by rfl) (fun K hK => ?_)
        refine Lib.wp_append_run _ _ _ 44 44 rfl va (.slice (some ⟨w2.heap.size, 0, none⟩) 1 1) rfl rfl _ _ r2.out ?_
        refine hK _ _ (SF.out _ k3.out) ?_
        clear hK K
        repeat (first | (refine wpG_at (v := ?_) (by rfl) ?_ ?_; rotate_left; (focus (first | (go_simp; with_reducible rfl) | (go_simp; done))); simp only [Act.put, List.setIfInBounds_toArray, List.set_cons_zero, List.set_cons_succ]) | (refine wpG_at_skip (by rfl) ?_; simp only [Act.put, List.setIfInBounds_toArray, List.set_cons_zero, List.set_cons_succ]) | (refine wpG_held_skip (by rfl) ?_; simp only [Act.put, List.setIfInBounds_toArray, List.set_cons_zero, List.set_cons_succ]) | (refine wpG_held (v := ?_) (by rfl) ?_ ?_; rotate_left; (focus (intro w' hSw; (try dsimp only at hSw); go_split_ands; first | (go_simp; with_reducible rfl) | (go_simp; done))); simp only [Act.put, List.setIfInBounds_toArray, List.set_cons_zero, List.set_cons_succ]))
        refine wpG_eff (by rfl) (fun K hK => ?_)
        refine Lib.wp_append_run _ _ _ 44 44 rfl vb (.slice none 0 0) rfl rfl _ _ r3.out ?_
        refine hK _ _ (SF.out _ k4.out) ?_
        clear hK K
        repeat (first | (refine wpG_at (v := ?_) (by rfl) ?_ ?_; rotate_left; (focus (first | (go_simp; with_reducible rfl) | (go_simp; done))); simp only [Act.put, List.setIfInBounds_toArray, List.set_cons_zero, List.set_cons_succ]) | (refine wpG_at_skip (by rfl) ?_; simp only [Act.put, List.setIfInBounds_toArray, List.set_cons_zero, List.set_cons_succ]) | (refine wpG_held_skip (by rfl) ?_; simp only [Act.put, List.setIfInBounds_toArray, List.set_cons_zero, List.set_cons_succ]) | (refine wpG_held (v := ?_) (by rfl) ?_ ?_; rotate_left; (focus (intro w' hSw; (try dsimp only at hSw); go_split_ands; first | (go_simp; with_reducible rfl) | (go_simp; done))); simp only [Act.put, List.setIfInBounds_toArray, List.set_cons_zero, List.set_cons_succ]))
        refine wpG_fin (by rfl) (fun K hK => ?_)
        go_simp
        refine hK _ _ ?_
        clear hK K
        repeat (first | (refine wpG_at (v := ?_) (by rfl) ?_ ?_; rotate_left; (focus (first | (go_simp; with_reducible rfl) | (go_simp; done))); simp only [Act.put, List.setIfInBounds_toArray, List.set_cons_zero, List.set_cons_succ]) | (refine wpG_at_skip (by rfl) ?_; simp only [Act.put, List.setIfInBounds_toArray, List.set_cons_zero, List.set_cons_succ]) | (refine wpG_held_skip (by rfl) ?_; simp only [Act.put, List.setIfInBounds_toArray, List.set_cons_zero, List.set_cons_succ]) | (refine wpG_held (v := ?_) (by rfl) ?_ ?_; rotate_left; (focus (intro w' hSw; (try dsimp only at hSw); go_split_ands; first | (go_simp; with_reducible rfl) | (go_simp; done))); simp only [Act.put, List.setIfInBounds_toArray, List.set_cons_zero, List.set_cons_succ]))
        refine wpG_nil (NoPanic.normal ?_)
        go_wp2_with fail
        go_ret
        exact ⟨rfl, _, LL, ⟨blk_setCell hq4.out 0 _, a3.out.setCell _ _ (a3.out.ne hq4.out (by decide))⟩, by rw [← hLL]; exact (by simp [Rise]), by rw [← hLL]; exact fun y => (by simp), (K2.out.drew.trans k4.out |>.mono (fun _ h => h.elim)).setCell (p := ⟨q, 0, none⟩) _ (fun _ => rfl)⟩
  · subst hv1
    clear h h1 b3 hr
    unfold hV
    go_enter Try.func27, Try.ntmps27
    go_wp2_with fail
    refine HF.out.mono ?_
    rintro e w1 ⟨rfl, rfl⟩
    go_wp2_with fail
    refine wp_region_G (fun _ => True) [(0, .at_), (1, .at_), (2, .at_), (3, .at_), (4, .at_), (5, .at_), (6, .at_), (7, .at_), (8, .at_), (9, .at_)] ?L7 (by kernel_rfl) (by kernel_rfl) ?hL7 (trivial) ?hG7
    case hL7 => simp only [pickOps, List.map_cons, List.map_nil, List.getD_cons_zero, List.getD_cons_succ]; rfl
    repeat (first | (refine wpG_at (v := ?_) (by rfl) ?_ ?_; rotate_left; (focus (first | (go_simp; with_reducible rfl) | (go_simp; done))); simp only [Act.put, List.setIfInBounds_toArray, List.set_cons_zero, List.set_cons_succ]) | (refine wpG_at_skip (by rfl) ?_; simp only [Act.put, List.setIfInBounds_toArray, List.set_cons_zero, List.set_cons_succ]) | (refine wpG_held_skip (by rfl) ?_; simp only [Act.put, List.setIfInBounds_toArray, List.set_cons_zero, List.set_cons_succ]) | (refine wpG_held (v := ?_) (by rfl) ?_ ?_; rotate_left; (focus (intro w' hSw; (try dsimp only at hSw); go_split_ands; first | (go_simp; with_reducible rfl) | (go_simp; done))); simp only [Act.put, List.setIfInBounds_toArray, List.set_cons_zero, List.set_cons_succ]))
    refine wpG_nil (NoPanic.normal ?_)
    have K2 := hid (k0.out.drew)
    have H2 := hid (H1.out.kn ((Kp.refl _ _).drew))
    have HB2 := hid (blk_drew hbx.out)
    have hs2 : w.heap.size < ((w.alloc (.cells #[.int .i64 i, .int .u64 g] 25)).drew).heap.size := by simp
    clear Lp hbx H1 k0 HF
    generalize (w.alloc (.cells #[.int .i64 i, .int .u64 g] 25)).drew = w2 at *
    have Lp := loc2 H2.out.hq
    have Lb := loc2 HB2.out
    have HQ2 := hid H2.out.hq
    have SK := hid (fun W (k : Kp NoB w2 W) => (show W.cell? ⟨q, 0, none⟩ = some (.slice (some ⟨gb, 0, none⟩) L.length ca) ∧ W.cell? ⟨w.heap.size, 0, none⟩ = some (.int .i64 i) ∧ W.cell? ⟨w.heap.size, 1, none⟩ = some (.int .u64 g) from ⟨(loc2 (k.get H2.out.hq (fun h => h))).1, (loc2 (k.get HB2.out (fun h => h))).1, (loc2 (k.get HB2.out (fun h => h))).2.1⟩))
    rcases H2.out.hv.cut eR_len (by omega) with ⟨hv0, _⟩ | ⟨g2, c2, hv1, _, _, hTk, hDr⟩
    · cases hv0
    injection hv1 with hv1 _ hv3
    injection hv1 with hv1
    injection hv1 with hv1 _
    subst hv1; subst hv3
    replace hTk := hid hTk
    replace hDr := hid hDr
    go_wp2_with fail
    go_loop [7] (fun i => ∃ k : Nat, k ≤ L.length ∧ i = .int .i64 k ∧ Hid (∀ i (hi : i < L.length), i < k → L[i].1 < s)) (fun i => L.length - (intOf i).toNat)
    case atStart => exact ⟨0, Nat.zero_le _, rfl, hid (by intro i hi h; omega)⟩
    case round =>
      obtain ⟨k, hkl, rfl, hlo⟩ := hrel
      have c1 : (0 : Int) ≤ (k : Int) := Int.natCast_nonneg _
      have c4 : (L.length : Int) ≤ (ca : Int) := by omega
      by_cases hkk : k < L.length
      · have d1 : (k : Int) < (L.length : Int) := by omega
        have hk : L[k]? = some L[k] := List.getElem?_eq_getElem hkk
        obtain ⟨⟨x, y, z⟩, hxy⟩ : ∃ s, L[k] = s := ⟨_, rfl⟩
        rw [hxy] at hk
        obtain ⟨b, c', hv', hcc, hcell⟩ := H2.out.cells hk
        injection hv' with hv1 _ hv3
        injection hv1 with hv1
        injection hv1 with hv1 _
        subst hv1; subst hv3
        have Le := hcell _ (Kp.refl _ _)
        replace hcell := hid hcell
        replace hxy := hid hxy
        replace hk := hid hk
        by_cases hzx : x < s
        · go_wp2_with fail
          go_round
          case rel => exact ⟨k + 1, by omega, by go_num, hid (by
            intro i hi h
            by_cases e : i = k
            · subst e; rw [hxy.out]; exact hzx
            · exact hlo.out i hi (by omega))⟩
          case measure => simp [intOf]; omega
        · have hzs : s ≤ x := by omega
          have hce : ¬ ca = k := by omega
          have c3 : (k : Int) ≤ (ca : Int) := by omega
          have hins := hid (show s < x from by
            have h1 := hnot.out (x, y, z) (List.mem_of_getElem? hk.out)
            have h2 : x ≠ s := h1
            omega)
          clear hzx
          go_wp2_with fail
          refine wp_region_two 7 11 (fun W => W.cell? ⟨q, 0, none⟩ = some (.slice (some ⟨gb, 0, none⟩) L.length ca) ∧ W.cell? ⟨w.heap.size, 0, none⟩ = some (.int .i64 i) ∧ W.cell? ⟨w.heap.size, 1, none⟩ = some (.int .u64 g)) [(0, .held), (1, .at_), (2, .at_), (3, .at_), (4, .at_), (5, .at_), (6, .at_), (8, .held), (9, .held), (10, .held), (13, .held), (14, .held), (15, .held), (16, .held), (17, .held), (18, .held), (7, .eff), (11, .eff), (12, .eff), (19, .eff), (20, .at_), (21, .at_), (22, .fin)] [(0, .held), (1, .held), (2, .held), (3, .held), (4, .held), (5, .held), (6, .held), (8, .at_), (9, .at_), (10, .at_), (13, .held), (14, .held), (15, .held), (16, .held), (17, .held), (18, .held), (11, .eff), (7, .eff), (12, .eff), (19, .eff), (20, .at_), (21, .at_), (22, .fin)] ?La2 ?Lb2 (by kernel_rfl) (by kernel_rfl) ?hLa2 ?hLb2 (SK.out _ ((Kp.refl _ w2).drew)) ?hGa2 ?hGb2
          case hLa2 => simp only [pickOps, List.map_cons, List.map_nil, List.getD_cons_zero, List.getD_cons_succ]; rfl
          case hLb2 => simp only [pickOps, List.map_cons, List.map_nil, List.getD_cons_zero, List.getD_cons_succ]; rfl
          ·
            obtain ⟨va, wa, vb, wb, vc, wc, r1, r2, r3, a3, k1, k2, k3, k4⟩ := insA (x := (s, i, g)) (w := w2.drew) (V1 := .slice (some ⟨gb, 0, none⟩) k ca) (V2 := .slice (some ⟨gb, k * 3, none⟩) (L.length - k) (ca - k)) (T := L.take k) (D := L.drop k) ((hTk.out k hkl ca (by omega)).kn ((Kp.refl _ w2).drew)) ((hDr.out k (k * 3) (ca - k) (fun _ => rfl) (by omega)).kn ((Kp.refl _ w2).drew)) (by rw [List.length_take, List.length_drop]; omega)
            have SF := hid (fun W (k : Kp NoB w2.drew W) => SK.out W (((Kp.refl _ w2).drew).trans k))
            have hq4 := (k4.get (blk_drew HQ2.out) (fun h => h))
            have L4 := loc2 hq4
            replace r1 := hid r1
            replace r2 := hid r2
            replace r3 := hid r3
            replace a3 := hid a3
            replace k1 := hid k1
            replace k2 := hid k2
            replace k3 := hid k3
            replace k4 := hid k4
            replace hq4 := hid hq4
            obtain ⟨oc, cc, hvc, _, _⟩ := a3.out.form
            generalize hLL : (L.take k ++ [(s, i, g)] ++ L.drop k) = LL at *
            subst hvc
            repeat (first | (refine wpG_at (v := ?_) (by rfl) ?_ ?_; rotate_left; (focus (first | (go_simp; with_reducible rfl) | (go_simp; done))); simp only [Act.put, List.setIfInBounds_toArray, List.set_cons_zero, List.set_cons_succ]) | (refine wpG_at_skip (by rfl) ?_; simp only [Act.put, List.setIfInBounds_toArray, List.set_cons_zero, List.set_cons_succ]) | (refine wpG_held_skip (by rfl) ?_; simp only [Act.put, List.setIfInBounds_toArray, List.set_cons_zero, List.set_cons_succ]) | (refine wpG_held (v := ?_) (by rfl) ?_ ?_; rotate_left; (focus (intro w' hSw; (try dsimp only at hSw); go_split_ands; first | (go_simp; with_reducible rfl) | (go_simp; done))); simp only [Act.put, List.setIfInBounds_toArray, List.set_cons_zero, List.set_cons_succ]))
            refine wpG_eff (by rfl) (fun K hK => ?_)
            refine Lib.wp_append_run _ _ _ 44 44 rfl (.slice none 0 0) (.slice (some ⟨gb, 0, none⟩) k ca) rfl rfl _ _ r1.out ?_
            refine hK _ _ (SF.out _ (k1.out)) ?_
            clear hK K
            repeat (first | (refine wpG_at (v := ?_) (by rfl) ?_ ?_; rotate_left; (focus (first | (go_simp; with_reducible rfl) | (go_simp; done))); simp only [Act.put, List.setIfInBounds_toArray, List.set_cons_zero, List.set_cons_succ]) | (refine wpG_at_skip (by rfl) ?_; simp only [Act.put, List.setIfInBounds_toArray, List.set_cons_zero, List.set_cons_succ]) | (refine wpG_held_skip (by rfl) ?_; simp only [Act.put, List.setIfInBounds_toArray, List.set_cons_zero, List.set_cons_succ]) | (refine wpG_held (v := ?_) (by rfl) ?_ ?_; rotate_left; (focus (intro w' hSw; (try dsimp only at hSw); go_split_ands; first | (go_simp; with_reducible rfl) | (go_simp; done))); simp only [Act.put, List.setIfInBounds_toArray, List.set_cons_zero, List.set_cons_succ]))
            refine wpG_eff (by rfl) (fun K hK => ?_)
            go_simp
            refine hK _ _ (SF.out _ (k2.out)) ?_
            clear hK K
            repeat (first | (refine wpG_at (v := ?_) (by rfl) ?_ ?_; rotate_left; (focus (first | (go_simp; with_reducible rfl) | (go_simp; done))); simp only [Act.put, List.setIfInBounds_toArray, List.set_cons_zero, List.set_cons_succ]) | (refine wpG_at_skip (by rfl) ?_; simp only [Act.put, List.setIfInBounds_toArray, List.set_cons_zero, List.set_cons_succ]) | (refine wpG_held_skip (by rfl) ?_; simp only [Act.put, List.setIfInBounds_toArray, List.set_cons_zero, List.set_cons_succ]) | (refine wpG_held (v := ?_) (by rfl) ?_ ?_; rotate_left; (focus (intro w' hSw; (try dsimp only at hSw); go_split_ands; first | (go_simp; with_reducible rfl) | (go_simp; done))); simp only [Act.put, List.setIfInBounds_toArray, List.set_cons_zero, List.set_cons_succ]))
            refine wpG_eff (by rfl) (fun K hK => ?_)
            refine Lib.wp_append_run _ _ _ 44 44 rfl va (.slice (some ⟨wa.heap.size, 0, none⟩) 1 1) rfl rfl _ _ r2.out ?_
            refine hK _ _ (SF.out _ k3.out) ?_
            clear hK K
            repeat (first | (refine wpG_at (v := ?_) (by rfl) ?_ ?_; rotate_left; (focus (first | (go_simp; with_reducible rfl) | (go_simp; done))); simp only [Act.put, List.setIfInBounds_toArray, List.set_cons_zero, List.set_cons_succ]) | (refine wpG_at_skip (by rfl) ?_; simp only [Act.put, List.setIfInBounds_toArray, List.set_cons_zero, List.set_cons_succ]) | (refine wpG_held_skip (by rfl) ?_; simp only [Act.put, List.setIfInBounds_toArray, List.set_cons_zero, List.set_cons_succ]) | (refine wpG_held (v := ?_) (by rfl) ?_ ?_; rotate_left; (focus (intro w' hSw; (try dsimp only at hSw); go_split_ands; first | (go_simp; with_reducible rfl) | (go_simp; done))); simp only [Act.put, List.setIfInBounds_toArray, List.set_cons_zero, List.set_cons_succ]))
            refine wpG_eff (by rfl) (fun K hK => ?_)
            refine Lib.wp_append_run _ _ _ 44 44 rfl vb (.slice (some ⟨gb, k * 3, none⟩) (L.length - k) (ca - k)) rfl rfl _ _ r3.out ?_
            refine hK _ _ (SF.out _ k4.out) ?_
            clear hK K
            repeat (first | (refine wpG_at (v := ?_) (by rfl) ?_ ?_; rotate_left; (focus (first | (go_simp; with_reducible rfl) | (go_simp; done))); simp only [Act.put, List.setIfInBounds_toArray, List.set_cons_zero, List.set_cons_succ]) | (refine wpG_at_skip (by rfl) ?_; simp only [Act.put, List.setIfInBounds_toArray, List.set_cons_zero, List.set_cons_succ]) | (refine wpG_held_skip (by rfl) ?_; simp only [Act.put, List.setIfInBounds_toArray, List.set_cons_zero, List.set_cons_succ]) | (refine wpG_held (v := ?_) (by rfl) ?_ ?_; rotate_left; (focus (intro w' hSw; (try dsimp only at hSw); go_split_ands; first | (go_simp; with_reducible rfl) | (go_simp; done))); simp only [Act.put, List.setIfInBounds_toArray, List.set_cons_zero, List.set_cons_succ]))
            refine wpG_fin (by rfl) (fun K hK => ?_)
            go_simp
            refine hK _ _ ?_
            clear hK K
            repeat (first | (refine wpG_at (v := ?_) (by rfl) ?_ ?_; rotate_left; (focus (first | (go_simp; with_reducible rfl) | (go_simp; done))); simp only [Act.put, List.setIfInBounds_toArray, List.set_cons_zero, List.set_cons_succ]) | (refine wpG_at_skip (by rfl) ?_; simp only [Act.put, List.setIfInBounds_toArray, List.set_cons_zero, List.set_cons_succ]) | (refine wpG_held_skip (by rfl) ?_; simp only [Act.put, List.setIfInBounds_toArray, List.set_cons_zero, List.set_cons_succ]) | (refine wpG_held (v := ?_) (by rfl) ?_ ?_; rotate_left; (focus (intro w' hSw; (try dsimp only at hSw); go_split_ands; first | (go_simp; with_reducible rfl) | (go_simp; done))); simp only [Act.put, List.setIfInBounds_toArray, List.set_cons_zero, List.set_cons_succ]))
            refine wpG_nil (NoPanic.normal ?_)
            go_wp2_with fail
            go_ret
            exact ⟨rfl, _, LL, ⟨blk_setCell hq4.out 0 _, a3.out.setCell _ _ (a3.out.ne hq4.out (by decide))⟩, by rw [← hLL]; exact ins_rise hr'.out hlo.out (fun hk => by rw [hxy.out]; exact hins.out), by rw [← hLL]; exact fun y => ins_mem' k, (K2.out.drew.trans k4.out |>.mono (fun _ h => h.elim)).setCell (p := ⟨q, 0, none⟩) _ (fun _ => rfl)⟩
          ·
            obtain ⟨va, wa, vb, wb, vc, wc, r1, r2, r3, a3, k1, k2, k3, k4⟩ := insB (x := (s, i, g)) (w := w2.drew) (V1 := .slice (some ⟨gb, 0, none⟩) k ca) (V2 := .slice (some ⟨gb, k * 3, none⟩) (L.length - k) (ca - k)) (T := L.take k) (D := L.drop k) ((hTk.out k hkl ca (by omega)).kn ((Kp.refl _ w2).drew)) ((hDr.out k (k * 3) (ca - k) (fun _ => rfl) (by omega)).kn ((Kp.refl _ w2).drew)) (by rw [List.length_take, List.length_drop]; omega)
            have SF := hid (fun W (k : Kp NoB w2.drew W) => SK.out W (((Kp.refl _ w2).drew).trans k))
            have hq4 := (k4.get (blk_drew HQ2.out) (fun h => h))
            have L4 := loc2 hq4
            replace r1 := hid r1
            replace r2 := hid r2
            replace r3 := hid r3
            replace a3 := hid a3
            replace k1 := hid k1
            replace k2 := hid k2
            replace k3 := hid k3
            replace k4 := hid k4
            replace hq4 := hid hq4
            obtain ⟨oc, cc, hvc, _, _⟩ := a3.out.form
            generalize hLL : (L.take k ++ [(s, i, g)] ++ L.drop k) = LL at *
            subst hvc
            repeat (first | (refine wpG_at (v := ?_) (by rfl) ?_ ?_; rotate_left; (focus (first | (go_simp; with_reducible rfl) | (go_simp; done))); simp only [Act.put, List.setIfInBounds_toArray, List.set_cons_zero, List.set_cons_succ]) | (refine wpG_at_skip (by rfl) ?_; simp only [Act.put, List.setIfInBounds_toArray, List.set_cons_zero, List.set_cons_succ]) | (refine wpG_held_skip (by rfl) ?_; simp only [Act.put, List.setIfInBounds_toArray, List.set_cons_zero, List.set_cons_succ]) | (refine wpG_held (v := ?_) (by rfl) ?_ ?_; rotate_left; (focus (intro w' hSw; (try dsimp only at hSw); go_split_ands; first | (go_simp; with_reducible rfl) | (go_simp; done))); simp only [Act.put, List.setIfInBounds_toArray, List.set_cons_zero, List.set_cons_succ]))
            refine wpG_eff (by rfl) (fun K hK => ?_)
            go_simp
            refine hK _ _ (SF.out _ (k1.out)) ?_
            clear hK K
            repeat (first | (refine wpG_at (v := ?_) (by rfl) ?_ ?_; rotate_left; (focus (first | (go_simp; with_reducible rfl) | (go_simp; done))); simp only [Act.put, List.setIfInBounds_toArray, List.set_cons_zero, List.set_cons_succ]) | (refine wpG_at_skip (by rfl) ?_; simp only [Act.put, List.setIfInBounds_toArray, List.set_cons_zero, List.set_cons_succ]) | (refine wpG_held_skip (by rfl) ?_; simp only [Act.put, List.setIfInBounds_toArray, List.set_cons_zero, List.set_cons_succ]) | (refine wpG_held (v := ?_) (by rfl) ?_ ?_; rotate_left; (focus (intro w' hSw; (try dsimp only at hSw); go_split_ands; first | (go_simp; with_reducible rfl) | (go_simp; done))); simp only [Act.put, List.setIfInBounds_toArray, List.set_cons_zero, List.set_cons_succ]))
            refine wpG_eff (by rfl) (fun K hK => ?_)
            refine Lib.wp_append_run _ _ _ 44 44 rfl (.slice none 0 0) (.slice (some ⟨gb, 0, none⟩) k ca) rfl rfl _ _ r1.out ?_
            refine hK _ _ (SF.out _ (k2.out)) ?_
            clear hK K
            repeat (first | (refine wpG_at (v := ?_) (by rfl) ?_ ?_; rotate_left; (focus (first | (go_simp; with_reducible rfl) | (go_simp; done))); simp only [Act.put, List.setIfInBounds_toArray, List.set_cons_zero, List.set_cons_succ]) | (refine wpG_at_skip (by rfl) ?_; simp only [Act.put, List.setIfInBounds_toArray, List.set_cons_zero, List.set_cons_succ]) | (refine wpG_held_skip (by rfl) ?_; simp only [Act.put, List.setIfInBounds_toArray, List.set_cons_zero, List.set_cons_succ]) | (refine wpG_held (v := ?_) (by rfl) ?_ ?_; rotate_left; (focus (intro w' hSw; (try dsimp only at hSw); go_split_ands; first | (go_simp; with_reducible rfl) | (go_simp; done))); simp only [Act.put, List.setIfInBounds_toArray, List.set_cons_zero, List.set_cons_succ]))
            refine wpG_eff (by rfl) (fun K hK => ?_)
            refine Lib.wp_append_run _ _ _ 44 44 rfl va (.slice (some ⟨w2.heap.size, 0, none⟩) 1 1) rfl rfl _ _ r2.out ?_
            refine hK _ _ (SF.out _ k3.out) ?_
            clear hK K
            repeat (first | (refine wpG_at (v := ?_) (by rfl) ?_ ?_; rotate_left; (focus (first | (go_simp; with_reducible rfl) | (go_simp; done))); simp only [Act.put, List.setIfInBounds_toArray, List.set_cons_zero, List.set_cons_succ]) | (refine wpG_at_skip (by rfl) ?_; simp only [Act.put, List.setIfInBounds_toArray, List.set_cons_zero, List.set_cons_succ]) | (refine wpG_held_skip (by rfl) ?_; simp only [Act.put, List.setIfInBounds_toArray, List.set_cons_zero, List.set_cons_succ]) | (refine wpG_held (v := ?_) (by rfl) ?_ ?_; rotate_left; (focus (intro w' hSw; (try dsimp only at hSw); go_split_ands; first | (go_simp; with_reducible rfl) | (go_simp; done))); simp only [Act.put, List.setIfInBounds_toArray, List.set_cons_zero, List.set_cons_succ]))
            refine wpG_eff (by rfl) (fun K hK => ?_)
            refine Lib.wp_append_run _ _ _ 44 44 rfl vb (.slice (some ⟨gb, k * 3, none⟩) (L.length - k) (ca - k)) rfl rfl _ _ r3.out ?_
            refine hK _ _ (SF.out _ k4.out) ?_
            clear hK K
            repeat (first | (refine wpG_at (v := ?_) (by rfl) ?_ ?_; rotate_left; (focus (first | (go_simp; with_reducible rfl) | (go_simp; done))); simp only [Act.put, List.setIfInBounds_toArray, List.set_cons_zero, List.set_cons_succ]) | (refine wpG_at_skip (by rfl) ?_; simp only [Act.put, List.setIfInBounds_toArray, List.set_cons_zero, List.set_cons_succ]) | (refine wpG_held_skip (by rfl) ?_; simp only [Act.put, List.setIfInBounds_toArray, List.set_cons_zero, List.set_cons_succ]) | (refine wpG_held (v := ?_) (by rfl) ?_ ?_; rotate_left; (focus (intro w' hSw; (try dsimp only at hSw); go_split_ands; first | (go_simp; with_reducible rfl) | (go_simp; done))); simp only [Act.put, List.setIfInBounds_toArray, List.set_cons_zero, List.set_cons_succ]))
            refine wpG_fin (by rfl) (fun K hK => ?_)
            go_simp
            refine hK _ _ ?_
            clear hK K
            repeat (first | (refine wpG_at (v := ?_) (by rfl) ?_ ?_; rotate_left; (focus (first | (go_simp; with_reducible rfl) | (go_simp; done))); simp only [Act.put, List.setIfInBounds_toArray, List.set_cons_zero, List.set_cons_succ]) | (refine wpG_at_skip (by rfl) ?_; simp only [Act.put, List.setIfInBounds_toArray, List.set_cons_zero, List.set_cons_succ]) | (refine wpG_held_skip (by rfl) ?_; simp only [Act.put, List.setIfInBounds_toArray, List.set_cons_zero, List.set_cons_succ]) | (refine wpG_held (v := ?_) (by rfl) ?_ ?_; rotate_left; (focus (intro w' hSw; (try dsimp only at hSw); go_split_ands; first | (go_simp; with_reducible rfl) | (go_simp; done))); simp only [Act.put, List.setIfInBounds_toArray, List.set_cons_zero, List.set_cons_succ]))
            refine wpG_nil (NoPanic.normal ?_)
            go_wp2_with fail
            go_ret
            exact ⟨rfl, _, LL, ⟨blk_setCell hq4.out 0 _, a3.out.setCell _ _ (a3.out.ne hq4.out (by decide))⟩, by rw [← hLL]; exact ins_rise hr'.out hlo.out (fun hk => by rw [hxy.out]; exact hins.out), by rw [← hLL]; exact fun y => ins_mem' k, (K2.out.drew.trans k4.out |>.mono (fun _ h => h.elim)).setCell (p := ⟨q, 0, none⟩) _ (fun _ => rfl)⟩
      · obtain rfl : k = L.length := by omega
        by_cases hce : ca = L.length
        · subst hce
          go_wp2_with fail
          refine wp_region_two 7 11 (fun W => W.cell? ⟨q, 0, none⟩ = some (.slice (some ⟨gb, 0, none⟩) L.length L.length) ∧ W.cell? ⟨w.heap.size, 0, none⟩ = some (.int .i64 i) ∧ W.cell? ⟨w.heap.size, 1, none⟩ = some (.int .u64 g)) [(0, .held), (1, .at_), (2, .at_), (3, .at_), (4, .at_), (5, .at_), (6, .at_), (8, .held), (9, .held), (10, .held), (13, .held), (14, .held), (15, .held), (16, .held), (17, .held), (18, .held), (7, .eff), (11, .eff), (12, .eff), (19, .eff), (20, .at_), (21, .at_), (22, .fin)] [(0, .held), (1, .held), (2, .held), (3, .held), (4, .held), (5, .held), (6, .held), (8, .at_), (9, .at_), (10, .at_), (13, .held), (14, .held), (15, .held), (16, .held), (17, .held), (18, .held), (11, .eff), (7, .eff), (12, .eff), (19, .eff), (20, .at_), (21, .at_), (22, .fin)] ?La3 ?Lb3 (by kernel_rfl) (by kernel_rfl) ?hLa3 ?hLb3 (SK.out _ ((Kp.refl _ w2).drew)) ?hGa3 ?hGb3
          case hLa3 => simp only [pickOps, List.map_cons, List.map_nil, List.getD_cons_zero, List.getD_cons_succ]; rfl
          case hLb3 => simp only [pickOps, List.map_cons, List.map_nil, List.getD_cons_zero, List.getD_cons_succ]; rfl
          ·
            obtain ⟨va, wa, vb, wb, vc, wc, r1, r2, r3, a3, k1, k2, k3, k4⟩ := insA (x := (s, i, g)) (w := w2.drew) (V1 := .slice (some ⟨gb, 0, none⟩) L.length L.length) (V2 := .slice (some ⟨gb, 0, none⟩) 0 0) (T := L.take L.length) (D := L.drop L.length) ((hTk.out L.length (Nat.le_refl _) L.length (Nat.le_refl _)).kn ((Kp.refl _ w2).drew)) (by have := hDr.out L.length 0 0 (fun h => absurd h (Nat.lt_irrefl _)) (by omega); rw [Nat.sub_self] at this; exact this.kn ((Kp.refl _ w2).drew)) (by rw [List.length_take, List.length_drop]; omega)
            have SF := hid (fun W (k : Kp NoB w2.drew W) => SK.out W (((Kp.refl _ w2).drew).trans k))
            have hq4 := (k4.get (blk_drew HQ2.out) (fun h => h))
            have L4 := loc2 hq4
            replace r1 := hid r1
            replace r2 := hid r2
            replace r3 := hid r3
            replace a3 := hid a3
            replace k1 := hid k1
            replace k2 := hid k2
            replace k3 := hid k3
            replace k4 := hid k4
            replace hq4 := hid hq4
            obtain ⟨oc, cc, hvc, _, _⟩ := a3.out.form
            generalize hLL : (L.take L.length ++ [(s, i, g)] ++ L.drop L.length) = LL at *
            subst hvc
            repeat (first | (refine wpG_at (v := ?_) (by rfl) ?_ ?_; rotate_left; (focus (first | (go_simp; with_reducible rfl) | (go_simp; done))); simp only [Act.put, List.setIfInBounds_toArray, List.set_cons_zero, List.set_cons_succ]) | (refine wpG_at_skip (by rfl) ?_; simp only [Act.put, List.setIfInBounds_toArray, List.set_cons_zero, List.set_cons_succ]) | (refine wpG_held_skip (by rfl) ?_; simp only [Act.put, List.setIfInBounds_toArray, List.set_cons_zero, List.set_cons_succ]) | (refine wpG_held (v := ?_) (by rfl) ?_ ?_; rotate_left; (focus (intro w' hSw; (try dsimp only at hSw); go_split_ands; first | (go_simp; with_reducible rfl) | (go_simp; done))); simp only [Act.put, List.setIfInBounds_toArray, List.set_cons_zero, List.set_cons_succ]))
            refine wpG_eff (by rfl) (fun K hK => ?_)
            refine Lib.wp_append_run _ _ _ 44 44 rfl (.slice none 0 0) (.slice (some ⟨gb, 0, none⟩) L.length L.length) rfl rfl _ _ r1.out ?_
            refine hK _ _ (SF.out _ (k1.out)) ?_
            clear hK K
            repeat (first | (refine wpG_at (v := ?_) (by rfl) ?_ ?_; rotate_left; (focus (first | (go_simp; with_reducible rfl) | (go_simp; done))); simp only [Act.put, List.setIfInBounds_toArray, List.set_cons_zero, List.set_cons_succ]) | (refine wpG_at_skip (by rfl) ?_; simp only [Act.put, List.setIfInBounds_toArray, List.set_cons_zero, List.set_cons_succ]) | (refine wpG_held_skip (by rfl) ?_; simp only [Act.put, List.setIfInBounds_toArray, List.set_cons_zero, List.set_cons_succ]) | (refine wpG_held (v := ?_) (by rfl) ?_ ?_; rotate_left; (focus (intro w' hSw; (try dsimp only at hSw); go_split_ands; first | (go_simp; with_reducible rfl) | (go_simp; done))); simp only [Act.put, List.setIfInBounds_toArray, List.set_cons_zero, List.set_cons_succ]))
            refine wpG_eff (by rfl) (fun K hK => ?_)
            go_simp
            refine hK _ _ (SF.out _ (k2.out)) ?_
            clear hK K
            repeat (first | (refine wpG_at (v := ?_) (by rfl) ?_ ?_; rotate_left; (focus (first | (go_simp; with_reducible rfl) | (go_simp; done))); simp only [Act.put, List.setIfInBounds_toArray, List.set_cons_zero, List.set_cons_succ]) | (refine wpG_at_skip (by rfl) ?_; simp only [Act.put, List.setIfInBounds_toArray, List.set_cons_zero, List.set_cons_succ]) | (refine wpG_held_skip (by rfl) ?_; simp only [Act.put, List.setIfInBounds_toArray, List.set_cons_zero, List.set_cons_succ]) | (refine wpG_held (v := ?_) (by rfl) ?_ ?_; rotate_left; (focus (intro w' hSw; (try dsimp only at hSw); go_split_ands; first | (go_simp; with_reducible rfl) | (go_simp; done))); simp only [Act.put, List.setIfInBounds_toArray, List.set_cons_zero, List.set_cons_succ]))
            refine wpG_eff (by rfl) (fun K hK => ?_)
            refine Lib.wp_append_run _ _ _ 44 44 rfl va (.slice (some ⟨wa.heap.size, 0, none⟩) 1 1) rfl rfl _ _ r2.out ?_
            refine hK _ _ (SF.out _ k3.out) ?_
            clear hK K
            repeat (first | (refine wpG_at (v := ?_) (by rfl) ?_ ?_; rotate_left; (focus (first | (go_simp; with_reducible rfl) | (go_simp; done))); simp only [Act.put, List.setIfInBounds_toArray, List.set_cons_zero, List.set_cons_succ]) | (refine wpG_at_skip (by rfl) ?_; simp only [Act.put, List.setIfInBounds_toArray, List.set_cons_zero, List.set_cons_succ]) | (refine wpG_held_skip (by rfl) ?_; simp only [Act.put, List.setIfInBounds_toArray, List.set_cons_zero, List.set_cons_succ]) | (refine wpG_held (v := ?_) (by rfl) ?_ ?_; rotate_left; (focus (intro w' hSw; (try dsimp only at hSw); go_split_ands; first | (go_simp; with_reducible rfl) | (go_simp; done))); simp only [Act.put, List.setIfInBounds_toArray, List.set_cons_zero, List.set_cons_succ]))
            refine wpG_eff (by rfl) (fun K hK => ?_)
            refine Lib.wp_append_run _ _ _ 44 44 rfl vb (.slice (some ⟨gb, 0, none⟩) 0 0) rfl rfl _ _ r3.out ?_
            refine hK _ _ (SF.out _ k4.out) ?_
            clear hK K
            repeat (first | (refine wpG_at (v := ?_) (by rfl) ?_ ?_; rotate_left; (focus (first | (go_simp; with_reducible rfl) | (go_simp; done))); simp only [Act.put, List.setIfInBounds_toArray, List.set_cons_zero, List.set_cons_succ]) | (refine wpG_at_skip (by rfl) ?_; simp only [Act.put, List.setIfInBounds_toArray, List.set_cons_zero, List.set_cons_succ]) | (refine wpG_held_skip (by rfl) ?_; simp only [Act.put, List.setIfInBounds_toArray, List.set_cons_zero, List.set_cons_succ]) | (refine wpG_held (v := ?_) (by rfl) ?_ ?_; rotate_left; (focus (intro w' hSw; (try dsimp only at hSw); go_split_ands; first | (go_simp; with_reducible rfl) | (go_simp; done))); simp only [Act.put, List.setIfInBounds_toArray, List.set_cons_zero, List.set_cons_succ]))
            refine wpG_fin (by rfl) (fun K hK => ?_)
            go_simp
            refine hK _ _ ?_
            clear hK K
            repeat (first | (refine wpG_at (v := ?_) (by rfl) ?_ ?_; rotate_left; (focus (first | (go_simp; with_reducible rfl) | (go_simp; done))); simp only [Act.put, List.setIfInBounds_toArray, List.set_cons_zero, List.set_cons_succ]) | (refine wpG_at_skip (by rfl) ?_; simp only [Act.put, List.setIfInBounds_toArray, List.set_cons_zero, List.set_cons_succ]) | (refine wpG_held_skip (by rfl) ?_; simp only [Act.put, List.setIfInBounds_toArray, List.set_cons_zero, List.set_cons_succ]) | (refine wpG_held (v := ?_) (by rfl) ?_ ?_; rotate_left; (focus (intro w' hSw; (try dsimp only at hSw); go_split_ands; first | (go_simp; with_reducible rfl) | (go_simp; done))); simp only [Act.put, List.setIfInBounds_toArray, List.set_cons_zero, List.set_cons_succ]))
            refine wpG_nil (NoPanic.normal ?_)
            go_wp2_with fail
            go_ret
            exact ⟨rfl, _, LL, ⟨blk_setCell hq4.out 0 _, a3.out.setCell _ _ (a3.out.ne hq4.out (by decide))⟩, by rw [← hLL]; exact ins_rise hr'.out hlo.out (fun hk => by omega), by rw [← hLL]; exact fun y => ins_mem' L.length, (K2.out.drew.trans k4.out |>.mono (fun _ h => h.elim)).setCell (p := ⟨q, 0, none⟩) _ (fun _ => rfl)⟩
          ·
            obtain ⟨va, wa, vb, wb, vc, wc, r1, r2, r3, a3, k1, k2, k3, k4⟩ := insB (x := (s, i, g)) (w := w2.drew) (V1 := .slice (some ⟨gb, 0, none⟩) L.length L.length) (V2 := .slice (some ⟨gb, 0, none⟩) 0 0) (T := L.take L.length) (D := L.drop L.length) ((hTk.out L.length (Nat.le_refl _) L.length (Nat.le_refl _)).kn ((Kp.refl _ w2).drew)) (by have := hDr.out L.length 0 0 (fun h => absurd h (Nat.lt_irrefl _)) (by omega); rw [Nat.sub_self] at this; exact this.kn ((Kp.refl _ w2).drew)) (by rw [List.length_take, List.length_drop]; omega)
            have SF := hid (fun W (k : Kp NoB w2.drew W) => SK.out W (((Kp.refl _ w2).drew).trans k))
            have hq4 := (k4.get (blk_drew HQ2.out) (fun h => h))
            have L4 := loc2 hq4
            replace r1 := hid r1
            replace r2 := hid r2
            replace r3 := hid r3
            replace a3 := hid a3
            replace k1 := hid k1
            replace k2 := hid k2
            replace k3 := hid k3
            replace k4 := hid k4
            replace hq4 := hid hq4
            obtain ⟨oc, cc, hvc, _, _⟩ := a3.out.form
            generalize hLL : (L.take L.length ++ [(s, i, g)] ++ L.drop L.length) = LL at *
            subst hvc
            repeat (first | (refine wpG_at (v := ?_) (by rfl) ?_ ?_; rotate_left; (focus (first | (go_simp; with_reducible rfl) | (go_simp; done))); simp only [Act.put, List.setIfInBounds_toArray, List.set_cons_zero, List.set_cons_succ]) | (refine wpG_at_skip (by rfl) ?_; simp only [Act.put, List.setIfInBounds_toArray, List.set_cons_zero, List.set_cons_succ]) | (refine wpG_held_skip (by rfl) ?_; simp only [Act.put, List.setIfInBounds_toArray, List.set_cons_zero, List.set_cons_succ]) | (refine wpG_held (v := ?_) (by rfl) ?_ ?_; rotate_left; (focus (intro w' hSw; (try dsimp only at hSw); go_split_ands; first | (go_simp; with_reducible rfl) | (go_simp; done))); simp only [Act.put, List.setIfInBounds_toArray, List.set_cons_zero, List.set_cons_succ]))
            refine wpG_eff (by rfl) (fun K hK => ?_)
            go_simp
            refine hK _ _ (SF.out _ (k1.out)) ?_
            clear hK K
            repeat (first | (refine wpG_at (v := ?_) (by rfl) ?_ ?_; rotate_left; (focus (first | (go_simp; with_reducible rfl) | (go_simp; done))); simp only [Act.put, List.setIfInBounds_toArray, List.set_cons_zero, List.set_cons_succ]) | (refine wpG_at_skip (by rfl) ?_; simp only [Act.put, List.setIfInBounds_toArray, List.set_cons_zero, List.set_cons_succ]) | (refine wpG_held_skip (by rfl) ?_; simp only [Act.put, List.setIfInBounds_toArray, List.set_cons_zero, List.set_cons_succ]) | (refine wpG_held (v := ?_) (by rfl) ?_ ?_; rotate_left; (focus (intro w' hSw; (try dsimp only at hSw); go_split_ands; first | (go_simp; with_reducible rfl) | (go_simp; done))); simp only [Act.put, List.setIfInBounds_toArray, List.set_cons_zero, List.set_cons_succ]))
            refine wpG_eff (by rfl) (fun K hK => ?_)
            refine Lib.wp_append_run _ _ _ 44 44 rfl (.slice none 0 0) (.slice (some ⟨gb, 0, none⟩) L.length L.length) rfl rfl _ _ r1.out ?_
            refine hK _ _ (SF.out _ (k2.out)) ?_
            clear hK K
            repeat (first | (refine wpG_at (v := ?_) (by rfl) ?_ ?_; rotate_left; (focus (first | (go_simp; with_reducible rfl) | (go_simp; done))); simp only [Act.put, List.setIfInBounds_toArray, List.set_cons_zero, List.set_cons_succ]) | (refine wpG_at_skip (by rfl) ?_; simp only [Act.put, List.setIfInBounds_toArray, List.set_cons_zero, List.set_cons_succ]) | (refine wpG_held_skip (by rfl) ?_; simp only [Act.put, List.setIfInBounds_toArray, List.set_cons_zero, List.set_cons_succ]) | (refine wpG_held (v := ?_) (by rfl) ?_ ?_; rotate_left; (focus (intro w' hSw; (try dsimp only at hSw); go_split_ands; first | (go_simp; with_reducible rfl) | (go_simp; done))); simp only [Act.put, List.setIfInBounds_toArray, List.set_cons_zero, List.set_cons_succ]))
            refine wpG_eff (by rfl) (fun K hK => ?_)
            refine Lib.wp_append_run _ _ _ 44 44 rfl va (.slice (some ⟨w2.heap.size, 0, none⟩) 1 1) rfl rfl _ _ r2.out ?_
            refine hK _ _ (SF.out _ k3.out) ?_
            clear hK K
            repeat (first | (refine wpG_at (v := ?_) (by rfl) ?_ ?_; rotate_left; (focus (first | (go_simp; with_reducible rfl) | (go_simp; done))); simp only [Act.put, List.setIfInBounds_toArray, List.set_cons_zero, List.set_cons_succ]) | (refine wpG_at_skip (by rfl) ?_; simp only [Act.put, List.setIfInBounds_toArray, List.set_cons_zero, List.set_cons_succ]) | (refine wpG_held_skip (by rfl) ?_; simp only [Act.put, List.setIfInBounds_toArray, List.set_cons_zero, List.set_cons_succ]) | (refine wpG_held (v := ?_) (by rfl) ?_ ?_; rotate_left; (focus (intro w' hSw; (try dsimp only at hSw); go_split_ands; first | (go_simp; with_reducible rfl) | (go_simp; done))); simp only [Act.put, List.setIfInBounds_toArray, List.set_cons_zero, List.set_cons_succ]))
            refine wpG_eff (by rfl) (fun K hK => ?_)
            refine Lib.wp_append_run _ _ _ 44 44 rfl vb (.slice (some ⟨gb, 0, none⟩) 0 0) rfl rfl _ _ r3.out ?_
            refine hK _ _ (SF.out _ k4.out) ?_
            clear hK K
            repeat (first | (refine wpG_at (v := ?_) (by rfl) ?_ ?_; rotate_left; (focus (first | (go_simp; with_reducible rfl) | (go_simp; done))); simp only [Act.put, List.setIfInBounds_toArray, List.set_cons_zero, List.set_cons_succ]) | (refine wpG_at_skip (by rfl) ?_; simp only [Act.put, List.setIfInBounds_toArray, List.set_cons_zero, List.set_cons_succ]) | (refine wpG_held_skip (by rfl) ?_; simp only [Act.put, List.setIfInBounds_toArray, List.set_cons_zero, List.set_cons_succ]) | (refine wpG_held (v := ?_) (by rfl) ?_ ?_; rotate_left; (focus (intro w' hSw; (try dsimp only at hSw); go_split_ands; first | (go_simp; with_reducible rfl) | (go_simp; done))); simp only [Act.put, List.setIfInBounds_toArray, List.set_cons_zero, List.set_cons_succ]))
            refine wpG_fin (by rfl) (fun K hK => ?_)
            go_simp
            refine hK _ _ ?_
            clear hK K
            repeat (first | (refine wpG_at (v := ?_) (by rfl) ?_ ?_; rotate_left; (focus (first | (go_simp; with_reducible rfl) | (go_simp; done))); simp only [Act.put, List.setIfInBounds_toArray, List.set_cons_zero, List.set_cons_succ]) | (refine wpG_at_skip (by rfl) ?_; simp only [Act.put, List.setIfInBounds_toArray, List.set_cons_zero, List.set_cons_succ]) | (refine wpG_held_skip (by rfl) ?_; simp only [Act.put, List.setIfInBounds_toArray, List.set_cons_zero, List.set_cons_succ]) | (refine wpG_held (v := ?_) (by rfl) ?_ ?_; rotate_left; (focus (intro w' hSw; (try dsimp only at hSw); go_split_ands; first | (go_simp; with_reducible rfl) | (go_simp; done))); simp only [Act.put, List.setIfInBounds_toArray, List.set_cons_zero, List.set_cons_succ]))
            refine wpG_nil (NoPanic.normal ?_)
            go_wp2_with fail
            go_ret
            exact ⟨rfl, _, LL, ⟨blk_setCell hq4.out 0 _, a3.out.setCell _ _ (a3.out.ne hq4.out (by decide))⟩, by rw [← hLL]; exact ins_rise hr'.out hlo.out (fun hk => by omega), by rw [← hLL]; exact fun y => ins_mem' L.length, (K2.out.drew.trans k4.out |>.mono (fun _ h => h.elim)).setCell (p := ⟨q, 0, none⟩) _ (fun _ => rfl)⟩
        · go_wp2_with fail
          refine wp_region_two 7 11 (fun W => W.cell? ⟨q, 0, none⟩ = some (.slice (some ⟨gb, 0, none⟩) L.length ca) ∧ W.cell? ⟨w.heap.size, 0, none⟩ = some (.int .i64 i) ∧ W.cell? ⟨w.heap.size, 1, none⟩ = some (.int .u64 g)) [(0, .held), (1, .at_), (2, .at_), (3, .at_), (4, .at_), (5, .at_), (6, .at_), (8, .held), (9, .held), (10, .held), (13, .held), (14, .held), (15, .held), (16, .held), (17, .held), (18, .held), (7, .eff), (11, .eff), (12, .eff), (19, .eff), (20, .at_), (21, .at_), (22, .fin)] [(0, .held), (1, .held), (2, .held), (3, .held), (4, .held), (5, .held), (6, .held), (8, .at_), (9, .at_), (10, .at_), (13, .held), (14, .held), (15, .held), (16, .held), (17, .held), (18, .held), (11, .eff), (7, .eff), (12, .eff), (19, .eff), (20, .at_), (21, .at_), (22, .fin)] ?La4 ?Lb4 (by kernel_rfl) (by kernel_rfl) ?hLa4 ?hLb4 (SK.out _ ((Kp.refl _ w2).drew)) ?hGa4 ?hGb4
          case hLa4 => simp only [pickOps, List.map_cons, List.map_nil, List.getD_cons_zero, List.getD_cons_succ]; rfl
          case hLb4 => simp only [pickOps, List.map_cons, List.map_nil, List.getD_cons_zero, List.getD_cons_succ]; rfl
          ·
            obtain ⟨va, wa, vb, wb, vc, wc, r1, r2, r3, a3, k1, k2, k3, k4⟩ := insA (x := (s, i, g)) (w := w2.drew) (V1 := .slice (some ⟨gb, 0, none⟩) L.length ca) (V2 := .slice (some ⟨gb, L.length * 3, none⟩) 0 (ca - L.length)) (T := L.take L.length) (D := L.drop L.length) ((hTk.out L.length (Nat.le_refl _) ca (by omega)).kn ((Kp.refl _ w2).drew)) (by have := hDr.out L.length (L.length * 3) (ca - L.length) (fun h => absurd h (Nat.lt_irrefl _)) (by omega); rw [Nat.sub_self] at this; exact this.kn ((Kp.refl _ w2).drew)) (by rw [List.length_take, List.length_drop]; omega)
            have SF := hid (fun W (k : Kp NoB w2.drew W) => SK.out W (((Kp.refl _ w2).drew).trans k))
            have hq4 := (k4.get (blk_drew HQ2.out) (fun h => h))
            have L4 := loc2 hq4
            replace r1 := hid r1
            replace r2 := hid r2
            replace r3 := hid r3
            replace a3 := hid a3
            replace k1 := hid k1
            replace k2 := hid k2
            replace k3 := hid k3
            replace k4 := hid k4
            replace hq4 := hid hq4
            obtain ⟨oc, cc, hvc, _, _⟩ := a3.out.form
            generalize hLL : (L.take L.length ++ [(s, i, g)] ++ L.drop L.length) = LL at *
            subst hvc
            repeat (first | (refine wpG_at (v := ?_) (by rfl) ?_ ?_; rotate_left; (focus (first | (go_simp; with_reducible rfl) | (go_simp; done))); simp only [Act.put, List.setIfInBounds_toArray, List.set_cons_zero, List.set_cons_succ]) | (refine wpG_at_skip (by rfl) ?_; simp only [Act.put, List.setIfInBounds_toArray, List.set_cons_zero, List.set_cons_succ]) | (refine wpG_held_skip (by rfl) ?_; simp only [Act.put, List.setIfInBounds_toArray, List.set_cons_zero, List.set_cons_succ]) | (refine wpG_held (v := ?_) (by rfl) ?_ ?_; rotate_left; (focus (intro w' hSw; (try dsimp only at hSw); go_split_ands; first | (go_simp; with_reducible rfl) | (go_simp; done))); simp only [Act.put, List.setIfInBounds_toArray, List.set_cons_zero, List.set_cons_succ]))
            refine wpG_eff (by rfl) (fun K hK => ?_)
            refine Lib.wp_append_run _ _ _ 44 44 rfl (.slice none 0 0) (.slice (some ⟨gb, 0, none⟩) L.length ca) rfl rfl _ _ r1.out ?_
            refine hK _ _ (SF.out _ (k1.out)) ?_
            clear hK K
            repeat (first | (refine wpG_at (v := ?_) (by rfl) ?_ ?_; rotate_left; (focus (first | (go_simp; with_reducible rfl) | (go_simp; done))); simp only [Act.put, List.setIfInBounds_toArray, List.set_cons_zero, List.set_cons_succ]) | (refine wpG_at_skip (by rfl) ?_; simp only [Act.put, List.setIfInBounds_toArray, List.set_cons_zero, List.set_cons_succ]) | (refine wpG_held_skip (by rfl) ?_; simp only [Act.put, List.setIfInBounds_toArray, List.set_cons_zero, List.set_cons_succ]) | (refine wpG_held (v := ?_) (by rfl) ?_ ?_; rotate_left; (focus (intro w' hSw; (try dsimp only at hSw); go_split_ands; first | (go_simp; with_reducible rfl) | (go_simp; done))); simp only [Act.put, List.setIfInBounds_toArray, List.set_cons_zero, List.set_cons_succ]))
            refine wpG_eff (by rfl) (fun K hK => ?_)
            go_simp
            refine hK _ _ (SF.out _ (k2.out)) ?_
            clear hK K
            repeat (first | (refine wpG_at (v := ?_) (by rfl) ?_ ?_; rotate_left; (focus (first | (go_simp; with_reducible rfl) | (go_simp; done))); simp only [Act.put, List.setIfInBounds_toArray, List.set_cons_zero, List.set_cons_succ]) | (refine wpG_at_skip (by rfl) ?_; simp only [Act.put, List.setIfInBounds_toArray, List.set_cons_zero, List.set_cons_succ]) | (refine wpG_held_skip (by rfl) ?_; simp only [Act.put, List.setIfInBounds_toArray, List.set_cons_zero, List.set_cons_succ]) | (refine wpG_held (v := ?_) (by rfl) ?_ ?_; rotate_left; (focus (intro w' hSw; (try dsimp only at hSw); go_split_ands; first | (go_simp; with_reducible rfl) | (go_simp; done))); simp only [Act.put, List.setIfInBounds_toArray, List.set_cons_zero, List.set_cons_succ]))
            refine wpG_eff (by rfl) (fun K hK => ?_)
            refine Lib.wp_append_run _ _ _ 44 44 rfl va (.slice (some ⟨wa.heap.size, 0, none⟩) 1 1) rfl rfl _ _ r2.out ?_
            refine hK _ _ (SF.out _ k3.out) ?_
            clear hK K
            repeat (first | (refine wpG_at (v := ?_) (by rfl) ?_ ?_; rotate_left; (focus (first | (go_simp; with_reducible rfl) | (go_simp; done))); simp only [Act.put, List.setIfInBounds_toArray, List.set_cons_zero, List.set_cons_succ]) | (refine wpG_at_skip (by rfl) ?_; simp only [Act.put, List.setIfInBounds_toArray, List.set_cons_zero, List.set_cons_succ]) | (refine wpG_held_skip (by rfl) ?_; simp only [Act.put, List.setIfInBounds_toArray, List.set_cons_zero, List.set_cons_succ]) | (refine wpG_held (v := ?_) (by rfl) ?_ ?_; rotate_left; (focus (intro w' hSw; (try dsimp only at hSw); go_split_ands; first | (go_simp; with_reducible rfl) | (go_simp; done))); simp only [Act.put, List.setIfInBounds_toArray, List.set_cons_zero, List.set_cons_succ]))
            refine wpG_eff (by rfl) (fun K hK => ?_)
            refine Lib.wp_append_run _ _ _ 44 44 rfl vb (.slice (some ⟨gb, L.length * 3, none⟩) 0 (ca - L.length)) rfl rfl _ _ r3.out ?_
            refine hK _ _ (SF.out _ k4.out) ?_
            clear hK K
            repeat (first | (refine wpG_at (v := ?_) (by rfl) ?_ ?_; rotate_left; (focus (first | (go_simp; with_reducible rfl) | (go_simp; done))); simp only [Act.put, List.setIfInBounds_toArray, List.set_cons_zero, List.set_cons_succ]) | (refine wpG_at_skip (by rfl) ?_; simp only [Act.put, List.setIfInBounds_toArray, List.set_cons_zero, List.set_cons_succ]) | (refine wpG_held_skip (by rfl) ?_; simp only [Act.put, List.setIfInBounds_toArray, List.set_cons_zero, List.set_cons_succ]) | (refine wpG_held (v := ?_) (by rfl) ?_ ?_; rotate_left; (focus (intro w' hSw; (try dsimp only at hSw); go_split_ands; first | (go_simp; with_reducible rfl) | (go_simp; done))); simp only [Act.put, List.setIfInBounds_toArray, List.set_cons_zero, List.set_cons_succ]))
            refine wpG_fin (by rfl) (fun K hK => ?_)
            go_simp
            refine hK _ _ ?_
            clear hK K
            repeat (first | (refine wpG_at (v := ?_) (by rfl) ?_ ?_; rotate_left; (focus (first | (go_simp; with_reducible rfl) | (go_simp; done))); simp only [Act.put, List.setIfInBounds_toArray, List.set_cons_zero, List.set_cons_succ]) | (refine wpG_at_skip (by rfl) ?_; simp only [Act.put, List.setIfInBounds_toArray, List.set_cons_zero, List.set_cons_succ]) | (refine wpG_held_skip (by rfl) ?_; simp only [Act.put, List.setIfInBounds_toArray, List.set_cons_zero, List.set_cons_succ]) | (refine wpG_held (v := ?_) (by rfl) ?_ ?_; rotate_left; (focus (intro w' hSw; (try dsimp only at hSw); go_split_ands; first | (go_simp; with_reducible rfl) | (go_simp; done))); simp only [Act.put, List.setIfInBounds_toArray, List.set_cons_zero, List.set_cons_succ]))
            refine wpG_nil (NoPanic.normal ?_)
            go_wp2_with fail
            go_ret
            exact ⟨rfl, _, LL, ⟨blk_setCell hq4.out 0 _, a3.out.setCell _ _ (a3.out.ne hq4.out (by decide))⟩, by rw [← hLL]; exact ins_rise hr'.out hlo.out (fun hk => by omega), by rw [← hLL]; exact fun y => ins_mem' L.length, (K2.out.drew.trans k4.out |>.mono (fun _ h => h.elim)).setCell (p := ⟨q, 0, none⟩) _ (fun _ => rfl)⟩
          ·
            obtain ⟨va, wa, vb, wb, vc, wc, r1, r2, r3, a3, k1, k2, k3, k4⟩ := insB (x := (s, i, g)) (w := w2.drew) (V1 := .slice (some ⟨gb, 0, none⟩) L.length ca) (V2 := .slice (some ⟨gb, L.length * 3, none⟩) 0 (ca - L.length)) (T := L.take L.length) (D := L.drop L.length) ((hTk.out L.length (Nat.le_refl _) ca (by omega)).kn ((Kp.refl _ w2).drew)) (by have := hDr.out L.length (L.length * 3) (ca - L.length) (fun h => absurd h (Nat.lt_irrefl _)) (by omega); rw [Nat.sub_self] at this; exact this.kn ((Kp.refl _ w2).drew)) (by rw [List.length_take, List.length_drop]; omega)
            have SF := hid (fun W (k : Kp NoB w2.drew W) => SK.out W (((Kp.refl _ w2).drew).trans k))
            have hq4 := (k4.get (blk_drew HQ2.out) (fun h => h))
            have L4 := loc2 hq4
            replace r1 := hid r1
            replace r2 := hid r2
            replace r3 := hid r3
            replace a3 := hid a3
            replace k1 := hid k1
            replace k2 := hid k2
            replace k3 := hid k3
            replace k4 := hid k4
            replace hq4 := hid hq4
            obtain ⟨oc, cc, hvc, _, _⟩ := a3.out.form
            generalize hLL : (L.take L.length ++ [(s, i, g)] ++ L.drop L.length) = LL at *
            subst hvc
            repeat (first | (refine wpG_at (v := ?_) (by rfl) ?_ ?_; rotate_left; (focus (first | (go_simp; with_reducible rfl) | (go_simp; done))); simp only [Act.put, List.setIfInBounds_toArray, List.set_cons_zero, List.set_cons_succ]) | (refine wpG_at_skip (by rfl) ?_; simp only [Act.put, List.setIfInBounds_toArray, List.set_cons_zero, List.set_cons_succ]) | (refine wpG_held_skip (by rfl) ?_; simp only [Act.put, List.setIfInBounds_toArray, List.set_cons_zero, List.set_cons_succ]) | (refine wpG_held (v := ?_) (by rfl) ?_ ?_; rotate_left; (focus (intro w' hSw; (try dsimp only at hSw); go_split_ands; first | (go_simp; with_reducible rfl) | (go_simp; done))); simp only [Act.put, List.setIfInBounds_toArray, List.set_cons_zero, List.set_cons_succ]))
            refine wpG_eff (by rfl) (fun K hK => ?_)
            go_simp
            refine hK _ _ (SF.out _ (k1.out)) ?_
            clear hK K
            repeat (first | (refine wpG_at (v := ?_) (by rfl) ?_ ?_; rotate_left; (focus (first | (go_simp; with_reducible rfl) | (go_simp; done))); simp only [Act.put, List.setIfInBounds_toArray, List.set_cons_zero, List.set_cons_succ]) | (refine wpG_at_skip (by rfl) ?_; simp only [Act.put, List.setIfInBounds_toArray, List.set_cons_zero, List.set_cons_succ]) | (refine wpG_held_skip (by rfl) ?_; simp only [Act.put, List.setIfInBounds_toArray, List.set_cons_zero, List.set_cons_succ]) | (refine wpG_held (v := ?_) (by rfl) ?_ ?_; rotate_left; (focus (intro w' hSw; (try dsimp only at hSw); go_split_ands; first | (go_simp; with_reducible rfl) | (go_simp; done))); simp only [Act.put, List.setIfInBounds_toArray, List.set_cons_zero, List.set_cons_succ]))
            refine wpG_eff (by rfl) (fun K hK => ?_)
            refine Lib.wp_append_run _ _ _ 44 44 rfl (.slice none 0 0) (.slice (some ⟨gb, 0, none⟩) L.length ca) rfl rfl _ _ r1.out ?_
            refine hK _ _ (SF.out _ (k2.out)) ?_
            clear hK K
            repeat (first | (refine wpG_at (v := ?_) (by rfl) ?_ ?_; rotate_left; (focus (first | (go_simp; with_reducible rfl) | (go_simp; done))); simp only [Act.put, List.setIfInBounds_toArray, List.set_cons_zero, List.set_cons_succ]) | (refine wpG_at_skip (by rfl) ?_; simp only [Act.put, List.setIfInBounds_toArray, List.set_cons_zero, List.set_cons_succ]) | (refine wpG_held_skip (by rfl) ?_; simp only [Act.put, List.setIfInBounds_toArray, List.set_cons_zero, List.set_cons_succ]) | (refine wpG_held (v := ?_) (by rfl) ?_ ?_; rotate_left; (focus (intro w' hSw; (try dsimp only at hSw); go_split_ands; first | (go_simp; with_reducible rfl) | (go_simp; done))); simp only [Act.put, List.setIfInBounds_toArray, List.set_cons_zero, List.set_cons_succ]))
            refine wpG_eff (by rfl) (fun K hK => ?_)
            refine Lib.wp_append_run _ _ _ 44 44 rfl va (.slice (some ⟨w2.heap.size, 0, none⟩) 1 1) rfl rfl _ _ r2.out ?_
            refine hK _ _ (SF.out _ k3.out) ?_
            clear hK K
            repeat (first | (refine wpG_at (v := ?_) (by rfl) ?_ ?_; rotate_left; (focus (first | (go_simp; with_reducible rfl) | (go_simp; done))); simp only [Act.put, List.setIfInBounds_toArray, List.set_cons_zero, List.set_cons_succ]) | (refine wpG_at_skip (by rfl) ?_; simp only [Act.put, List.setIfInBounds_toArray, List.set_cons_zero, List.set_cons_succ]) | (refine wpG_held_skip (by rfl) ?_; simp only [Act.put, List.setIfInBounds_toArray, List.set_cons_zero, List.set_cons_succ]) | (refine wpG_held (v := ?_) (by rfl) ?_ ?_; rotate_left; (focus (intro w' hSw; (try dsimp only at hSw); go_split_ands; first | (go_simp; with_reducible rfl) | (go_simp; done))); simp only [Act.put, List.setIfInBounds_toArray, List.set_cons_zero, List.set_cons_succ]))
            refine wpG_eff (by rfl) (fun K hK => ?_)
            refine Lib.wp_append_run _ _ _ 44 44 rfl vb (.slice (some ⟨gb, L.length * 3, none⟩) 0 (ca - L.length)) rfl rfl _ _ r3.out ?_
            refine hK _ _ (SF.out _ k4.out) ?_
            clear hK K
            repeat (first | (refine wpG_at (v := ?_) (by rfl) ?_ ?_; rotate_left; (focus (first | (go_simp; with_reducible rfl) | (go_simp; done))); simp only [Act.put, List.setIfInBounds_toArray, List.set_cons_zero, List.set_cons_succ]) | (refine wpG_at_skip (by rfl) ?_; simp only [Act.put, List.setIfInBounds_toArray, List.set_cons_zero, List.set_cons_succ]) | (refine wpG_held_skip (by rfl) ?_; simp only [Act.put, List.setIfInBounds_toArray, List.set_cons_zero, List.set_cons_succ]) | (refine wpG_held (v := ?_) (by rfl) ?_ ?_; rotate_left; (focus (intro w' hSw; (try dsimp only at hSw); go_split_ands; first | (go_simp; with_reducible rfl) | (go_simp; done))); simp only [Act.put, List.setIfInBounds_toArray, List.set_cons_zero, List.set_cons_succ]))
            refine wpG_fin (by rfl) (fun K hK => ?_)
            go_simp
            refine hK _ _ ?_
            clear hK K
            repeat (first | (refine wpG_at (v := ?_) (by rfl) ?_ ?_; rotate_left; (focus (first | (go_simp; with_reducible rfl) | (go_simp; done))); simp only [Act.put, List.setIfInBounds_toArray, List.set_cons_zero, List.set_cons_succ]) | (refine wpG_at_skip (by rfl) ?_; simp only [Act.put, List.setIfInBounds_toArray, List.set_cons_zero, List.set_cons_succ]) | (refine wpG_held_skip (by rfl) ?_; simp only [Act.put, List.setIfInBounds_toArray, List.set_cons_zero, List.set_cons_succ]) | (refine wpG_held (v := ?_) (by rfl) ?_ ?_; rotate_left; (focus (intro w' hSw; (try dsimp only at hSw); go_split_ands; first | (go_simp; with_reducible rfl) | (go_simp; done))); simp only [Act.put, List.setIfInBounds_toArray, List.set_cons_zero, List.set_cons_succ]))
            refine wpG_nil (NoPanic.normal ?_)
            go_wp2_with fail
            go_ret
            exact ⟨rfl, _, LL, ⟨blk_setCell hq4.out 0 _, a3.out.setCell _ _ (a3.out.ne hq4.out (by decide))⟩, by rw [← hLL]; exact ins_rise hr'.out hlo.out (fun hk => by omega), by rw [← hLL]; exact fun y => ins_mem' L.length, (K2.out.drew.trans k4.out |>.mono (fun _ h => h.elim)).setCell (p := ⟨q, 0, none⟩) _ (fun _ => rfl)⟩
end
end Go.Proofs.Ytbgojgnbbkgkgaa
