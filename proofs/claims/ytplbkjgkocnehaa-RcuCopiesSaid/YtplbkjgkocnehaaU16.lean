/- Walks through the document's RCU: Next; Enter, Leave in one sentence each. -/
import Derived.Test.YtplbkjgkocnehaaU15
namespace Go.Proofs.Ytplbkjgkocnehaa
set_option linter.unusedSimpArgs false
set_option linter.unusedVariables false
open Go.RowKit
attribute [local go_sem ↓] Go.wp_at_zero Go.wp_at_succ
section
variable {w w' : World} {q : Nat} {dv ov rv : Value} {D Z : List Nat} {H : List QV} {S : List (Ret × List Int)} {K : Nat}
set_option maxRecDepth 100000 in
theorem qnext_no (h : QAt w q dv ov rv D Z H S) (o : QOkS D Z S K) (hr : qripe Z S = false) : Calls Try.prog 35 #[.pointer (some ⟨q, 0, none⟩)] w fun e w' => e = .returned (.slice none 0 0) ∧ Kp NoB w w' := by
  have HR := hid (qripe_any h o)
  rw [hr] at HR
  clear h o
  go_enter Try.func35, Try.ntmps35
  go_wp2_with fail
  refine HR.out.mono ?_
  rintro e w1 ⟨rfl, k1⟩
  go_wp2_with fail
  go_ret
  exact ⟨rfl, k1⟩
theorem QAt.pop {h' : QV} {H' : List QV} {r : Ret × List Int} {S' : List (Ret × List Int)} {rv' : Value} (h : QAt w q dv ov rv D Z (h' :: H') (r :: S')) (hq' : w'.heap[q]? = some (.cells #[dv, ov, rv'] 54 (0, 0)))
    (hr' : RowAt w' 81 eQ 4 rv' H') (k : Kp (fun b => b = q) w w') : QAt w' q dv ov rv' D Z H' S' := by
  have hn : ∀ {g : QV} {y : Ret} {o : List Int}, QOk w g y o → ∀ b, g.fp b → ¬ b = q := by
    rintro g y o hg b (h1 | h1 | h1 | h1) rfl
    · exact hg.x.a.ne h.hq (by decide) h1
    · exact hg.x.b.ne h.hq (by decide) h1
    · exact hg.x.c.ne h.hq (by decide) h1
    · exact hg.o.ne h.hq (by decide) h1
  refine ⟨hq', h.hd.kp k (fun b hb e => by subst e; exact h.hd.ne h.hq (by decide) hb), h.ho.kp k (fun b hb e => by subst e; exact h.ho.ne h.hq (by decide) hb), hr', by have := h.hl; simpa using this, ?_, ?_, ?_⟩
  · intro i h2 y o2 hi hy
    have o := h.hh (i + 1) h2 y o2 (by simpa using hi) (by simpa using hy)
    exact o.kp k (hn o)
  · rintro b hb (e | ⟨h2, hm, e⟩)
    · exact h.nd b hb (.inl e)
    · exact h.nd b hb (.inr ⟨h2, List.mem_cons_of_mem _ hm, e⟩)
  · rintro b hb ⟨h2, hm, e⟩
    exact h.no b hb ⟨h2, List.mem_cons_of_mem _ hm, e⟩
set_option maxRecDepth 100000 in
set_option maxHeartbeats 4000000 in
theorem qnext_yes {x : Ret} {out : List Int} {S' : List (Ret × List Int)} (h : QAt w q dv ov rv D Z H ((x, out) :: S')) (o : QOkS D Z ((x, out) :: S') K) (hr : qripe Z ((x, out) :: S') = true) :
    Calls Try.prog 35 #[.pointer (some ⟨q, 0, none⟩)] w fun e w' => ∃ g a b c rv' H', e = .returned (.slice (some ⟨g, 0, none⟩) 1 1) ∧ w'.heap[g]? = some (.cells #[a, b, c] 35 (0, 0)) ∧ w.heap.size ≤ g ∧ RowR w' a b c x ∧
      QAt w' q dv ov rv' D Z H' S' ∧ (∀ b, qfp q dv ov rv' H' b → qfp q dv ov rv H b ∨ w.heap.size ≤ b) ∧ Kp (fun b => b = q) w w' := by
  have HR := hid (qripe_any h o)
  rw [hr] at HR
  obtain ⟨⟨ha, hb', hc', ho'⟩, H', b, c, rfl, rfl, hc, hm, hb, ho, e0, e1, e2, e3⟩ := qhead h rfl
  obtain ⟨oa, ca, hae, _⟩ := ho.x.a.form
  obtain ⟨ob, cb, hbe, _⟩ := ho.x.b.form
  obtain ⟨oc, cc, hce, _⟩ := ho.x.c.form
  dsimp only at hae hbe hce
  subst hae; subst hbe; subst hce
  have hl := h.hl
  have hHl : H'.length = S'.length := by simpa using hl
  have hS1 := o.r
  simp only [List.length_cons] at h hc hS1
  have H0 := hid h
  have hS2 := o.k
  have c1 : (0 : Int) < (((S'.length + 1 : Nat)) : Int) := by omega
  clear h o hr hl e0 e1 e2 e3
  by_cases hc1 : c = 1
  · subst hc1
    obtain rfl : S' = [] := List.eq_nil_of_length_eq_zero (by omega)
    have hT : ∀ W, Kp NoB w W → Sl W 81 eQ (.slice (some ⟨b, 0, none⟩) 0 0) H' := fun W k => by
      have hoff : Off W 81 eQ 4 (.slice (some ⟨b, 0, none⟩) (({ a := .slice oa x.a.length ca, b := .slice ob x.b.length cb, c := .slice oc x.c.length cc, o := ho' } : QV) :: H').length 1) (({ a := .slice oa x.a.length ca, b := .slice ob x.b.length cb, c := .slice oc x.c.length cc, o := ho' } : QV) :: H') := by
        have h1 := (H0.out.kn k).hr.off eQ_len
        rw [List.length_cons, hHl]
        exact h1
      have := (Off.tail eQ_len (o' := 0) hoff (by intro h; omega)).sl
      rw [hHl] at this
      exact this
    replace hT := hid hT
    go_enter Try.func35, Try.ntmps35
    go_wp2_with fail
    refine HR.out.mono ?_
    rintro e w1 ⟨rfl, k1⟩
    have H1 := hid (H0.out.kn k1)
    obtain ⟨hx, hxs, b', c', hxe, hre, hc2, hm2, hb2, ho2', e0, e1, e2, e3⟩ := qhead H1.out rfl
    injection hxe with hxe1 hxe2
    subst hxe1; subst hxe2
    injection hre with hre1 hre2 hre3
    clear hre2
    injection hre1 with hre1
    injection hre1 with hre1
    subst hre1; subst hre3
    dsimp only at e0 e1 e2 e3
    have Lq := loc3 H1.out.hq
    have KA := hid (show Kp NoB w (w1.alloc (.cells #[.slice oa x.a.length ca, .slice ob x.b.length cb, .slice oc x.c.length cc] 35)) from k1.alloc _)
    obtain ⟨v1, y1, r1, q1, kk1, n1⟩ := run_nil_sl (P := Try.prog) (ty := 52) eQ_len (by omega) sl52 i81 rfl (hT.out _ KA.out) (by
        intro u hu
        obtain ⟨h2, hm, hu⟩ := List.mem_flatMap.1 hu
        exact H0.out.oneH u (List.mem_flatMap.2 ⟨h2, List.mem_cons_of_mem _ hm, hu⟩)) (by omega) (by omega)
    have hr1 := hid r1
    obtain ⟨o5, c5, e5, _⟩ := q1.form
    rw [hHl] at e5
    subst e5
    have hg5 := hid (kk1.get (blk_new w1 (.cells #[.slice oa x.a.length ca, .slice ob x.b.length cb, .slice oc x.c.length cc] 35)) (fun h => h))
    have hq5 := hid (kk1.get (blk_alloc (o' := .cells #[.slice oa x.a.length ca, .slice ob x.b.length cb, .slice oc x.c.length cc] 35) H1.out.hq) (fun h => h))
    have L5 := loc3 hg5.out
    have Lq5 := loc3 hq5.out
    have hne : w1.heap.size ≠ q := by have := blk_lt H1.out.hq; omega
    have hne' : q ≠ w1.heap.size := Ne.symm hne
    replace q1 := hid q1
    have n1' := hid n1
    replace kk1 := hid kk1
    replace k1 := hid k1
    replace hHl := hid hHl
    clear r1 n1 ho2'
    go_wp2_with (at_builtin; refine Lib.wpList_append_run _ rfl _ _ _ _ rfl _ _ rfl rfl _ _ hr1.out ?_)
    go_ret
    have KY := KA.out.trans kk1.out
    have KY0 : Kp (fun b => b = q) w y1 := KY.mono (fun _ h => h.elim)
    have KQ : Kp (fun b => b = q) w ((y1.setCell ⟨q, 2, none⟩ (.slice o5 0 c5)).alloc (.cells #[.slice oa x.a.length ca, .slice ob x.b.length cb, .slice oc x.c.length cc] 35)) := (KY0.setCell (p := ⟨q, 2, none⟩) _ (fun _ => rfl)).alloc _
    have hqq : ((y1.setCell ⟨q, 2, none⟩ (.slice o5 0 c5)).alloc (.cells #[.slice oa x.a.length ca, .slice ob x.b.length cb, .slice oc x.c.length cc] 35)).heap[q]? = some (.cells #[dv, ov, .slice o5 0 c5] 54 (0, 0)) := blk_alloc (blk_setCell hq5.out 2 _)
    have hqb : (Value.slice o5 0 c5).ownBlock ≠ some q := fun e => by
      have h1 := n1'.out q e
      have h2 := blk_lt H1.out.hq
      have h3 : w1.heap.size + 1 ≤ q := by simpa using h1
      omega
    have hok := (H0.out.hh 0 _ x out rfl rfl).kp KQ (by
        rintro b (h1 | h1 | h1 | h1) rfl
        · exact (H0.out.hh 0 _ x out rfl rfl).x.a.ne H0.out.hq (by decide) h1
        · exact (H0.out.hh 0 _ x out rfl rfl).x.b.ne H0.out.hq (by decide) h1
        · exact (H0.out.hh 0 _ x out rfl rfl).x.c.ne H0.out.hq (by decide) h1
        · exact (H0.out.hh 0 _ x out rfl rfl).o.ne H0.out.hq (by decide) h1)
    refine ⟨y1.heap.size, _, _, _, .slice o5 0 c5, H', by simp, blk_new' _ _ (by simp), by have := KY.size; omega, hok.x, H0.out.pop hqq ((q1.out.setCell _ _ hqb).alloc _) KQ, ?_, KQ⟩
    rintro b' (hb | hb | hb | hb | ⟨h2, hm, hb⟩)
    · exact .inl (.inl hb)
    · exact .inl (.inr (.inl hb))
    · exact .inl (.inr (.inr (.inl hb)))
    · have h1 := n1'.out b' hb
      have h3 : w1.heap.size + 1 ≤ b' := by simpa using h1
      have := k1.out.size
      exact .inr (by omega)
    · exact .inl (.inr (.inr (.inr (.inr ⟨h2, List.mem_cons_of_mem _ hm, hb⟩))))
  · obtain ⟨o2, ho2⟩ : ∃ o2, o2 = 4 := ⟨_, rfl⟩
    have hT : ∀ W, Kp NoB w W → Sl W 81 eQ (.slice (some ⟨b, 4, none⟩) S'.length (c - 1)) H' := fun W k => by
      have hoff : Off W 81 eQ 4 (.slice (some ⟨b, 0, none⟩) (({ a := .slice oa x.a.length ca, b := .slice ob x.b.length cb, c := .slice oc x.c.length cc, o := ho' } : QV) :: H').length c) (({ a := .slice oa x.a.length ca, b := .slice ob x.b.length cb, c := .slice oc x.c.length cc, o := ho' } : QV) :: H') := by
        have h1 := (H0.out.kn k).hr.off eQ_len
        rw [List.length_cons, hHl]
        exact h1
      have := (Off.tail eQ_len (o' := 4) hoff (by intro h; omega)).sl
      rw [hHl] at this
      exact this
    replace hT := hid hT
    go_enter Try.func35, Try.ntmps35
    go_wp2_with fail
    refine HR.out.mono ?_
    rintro e w1 ⟨rfl, k1⟩
    have H1 := hid (H0.out.kn k1)
    obtain ⟨hx, hxs, b', c', hxe, hre, hc2, hm2, hb2, ho2', e0, e1, e2, e3⟩ := qhead H1.out rfl
    injection hxe with hxe1 hxe2
    subst hxe1; subst hxe2
    injection hre with hre1 hre2 hre3
    clear hre2
    injection hre1 with hre1
    injection hre1 with hre1
    subst hre1; subst hre3
    dsimp only at e0 e1 e2 e3
    have Lq := loc3 H1.out.hq
    have KA := hid (show Kp NoB w (w1.alloc (.cells #[.slice oa x.a.length ca, .slice ob x.b.length cb, .slice oc x.c.length cc] 35)) from k1.alloc _)
    obtain ⟨v1, y1, r1, q1, kk1, n1⟩ := run_nil_sl (P := Try.prog) (ty := 52) eQ_len (by omega) sl52 i81 rfl (hT.out _ KA.out) (by
        intro u hu
        obtain ⟨h2, hm, hu⟩ := List.mem_flatMap.1 hu
        exact H0.out.oneH u (List.mem_flatMap.2 ⟨h2, List.mem_cons_of_mem _ hm, hu⟩)) (by omega) (by omega)
    have hr1 := hid r1
    obtain ⟨o5, c5, e5, _⟩ := q1.form
    rw [hHl] at e5
    subst e5
    have hg5 := hid (kk1.get (blk_new w1 (.cells #[.slice oa x.a.length ca, .slice ob x.b.length cb, .slice oc x.c.length cc] 35)) (fun h => h))
    have hq5 := hid (kk1.get (blk_alloc (o' := .cells #[.slice oa x.a.length ca, .slice ob x.b.length cb, .slice oc x.c.length cc] 35) H1.out.hq) (fun h => h))
    have L5 := loc3 hg5.out
    have Lq5 := loc3 hq5.out
    have hne : w1.heap.size ≠ q := by have := blk_lt H1.out.hq; omega
    have hne' : q ≠ w1.heap.size := Ne.symm hne
    replace q1 := hid q1
    have n1' := hid n1
    replace kk1 := hid kk1
    replace k1 := hid k1
    replace hHl := hid hHl
    clear r1 n1 ho2'
    go_wp2_with (at_builtin; refine Lib.wpList_append_run _ rfl _ _ _ _ rfl _ _ rfl rfl _ _ hr1.out ?_)
    go_ret
    have KY := KA.out.trans kk1.out
    have KY0 : Kp (fun b => b = q) w y1 := KY.mono (fun _ h => h.elim)
    have KQ : Kp (fun b => b = q) w ((y1.setCell ⟨q, 2, none⟩ (.slice o5 S'.length c5)).alloc (.cells #[.slice oa x.a.length ca, .slice ob x.b.length cb, .slice oc x.c.length cc] 35)) := (KY0.setCell (p := ⟨q, 2, none⟩) _ (fun _ => rfl)).alloc _
    have hqq : ((y1.setCell ⟨q, 2, none⟩ (.slice o5 S'.length c5)).alloc (.cells #[.slice oa x.a.length ca, .slice ob x.b.length cb, .slice oc x.c.length cc] 35)).heap[q]? = some (.cells #[dv, ov, .slice o5 S'.length c5] 54 (0, 0)) := blk_alloc (blk_setCell hq5.out 2 _)
    have hqb : (Value.slice o5 S'.length c5).ownBlock ≠ some q := fun e => by
      have h1 := n1'.out q e
      have h2 := blk_lt H1.out.hq
      have h3 : w1.heap.size + 1 ≤ q := by simpa using h1
      omega
    have hok := (H0.out.hh 0 _ x out rfl rfl).kp KQ (by
        rintro b (h1 | h1 | h1 | h1) rfl
        · exact (H0.out.hh 0 _ x out rfl rfl).x.a.ne H0.out.hq (by decide) h1
        · exact (H0.out.hh 0 _ x out rfl rfl).x.b.ne H0.out.hq (by decide) h1
        · exact (H0.out.hh 0 _ x out rfl rfl).x.c.ne H0.out.hq (by decide) h1
        · exact (H0.out.hh 0 _ x out rfl rfl).o.ne H0.out.hq (by decide) h1)
    refine ⟨y1.heap.size, _, _, _, .slice o5 S'.length c5, H', by simp, blk_new' _ _ (by simp), by have := KY.size; omega, hok.x, H0.out.pop hqq ((q1.out.setCell _ _ hqb).alloc _) KQ, ?_, KQ⟩
    rintro b' (hb | hb | hb | hb | ⟨h2, hm, hb⟩)
    · exact .inl (.inl hb)
    · exact .inl (.inr (.inl hb))
    · exact .inl (.inr (.inr (.inl hb)))
    · have h1 := n1'.out b' hb
      have h3 : w1.heap.size + 1 ≤ b' := by simpa using h1
      have := k1.out.size
      exact .inr (by omega)
    · exact .inl (.inr (.inr (.inr (.inr ⟨h2, List.mem_cons_of_mem _ hm, hb⟩))))
theorem qenter_any (h : QAt w q dv ov rv D Z H S) (o : QOkS D Z S K) (t : Int) : Calls Try.prog 32 #[.pointer (some ⟨q, 0, none⟩), .int .i64 t] w fun e w' => e = .returned (.int .i64 (entE D t)) ∧ QAt w' q dv ov rv (entD D t) Z H S ∧ Kp (qw q dv ov) w w' := by
  unfold entE entD
  by_cases hi : inT D t
  · obtain ⟨k, d, rfl, hd, e, e2⟩ := in_get hi
    rw [if_pos hi, if_pos hi, e, e2]
    exact qenter_in h hd (Nat.le_trans (o.d d (List.mem_of_getElem? hd)) o.k)
  · rw [if_neg hi, if_neg hi]
    refine (qenter_out h hi).mono ?_
    rintro e w1 ⟨rfl, rfl⟩
    exact ⟨rfl, h, Kp.refl _ _⟩
def levZ (D Z : List Nat) (t : Int) : List Nat := if inT D t ∧ D.getD t.toNat 0 = 1 then Z.set t.toNat (Z.getD t.toNat 0 + 1) else Z
theorem qleave_any (h : QAt w q dv ov rv D Z H S) (o : QOkS D Z S K) (t : Int) : Calls Try.prog 33 #[.pointer (some ⟨q, 0, none⟩), .int .i64 t] w fun e w' => e = .returned (.int .i64 (levE D t)) ∧ QAt w' q dv ov rv (levD D t) (levZ D Z t) H S ∧ Kp (qw q dv ov) w w' := by
  unfold levE levD levZ
  by_cases hi : inT D t
  · obtain ⟨k, d, rfl, hd, e, e2⟩ := in_get hi
    have hkl := (List.getElem?_eq_some_iff.1 hd).1
    obtain ⟨z, hz⟩ : ∃ z, Z[k]? = some z := ⟨_, List.getElem?_eq_getElem (by rw [o.zl]; exact hkl)⟩
    rw [if_pos hi, if_pos hi, e, e2, getD_at hz]
    match d, hd, e with
    | 0, hd, e =>
      rw [if_pos rfl, if_neg (by rintro ⟨_, h⟩; cases h)]
      refine (qleave_none h hd).mono ?_
      rintro e w1 ⟨rfl, rfl⟩
      refine ⟨rfl, ?_, Kp.refl _ _⟩
      rw [show (0 : Nat) - 1 = 0 from rfl, show D.set k 0 = D from ?_]
      · exact h
      · apply List.ext_getElem?
        intro i
        by_cases hik : k = i
        · subst hik
          rw [List.getElem?_set_self hkl, hd]
        · rw [List.getElem?_set_ne hik]
    | 1, hd, e =>
      rw [if_neg (by omega), if_pos ⟨hi, rfl⟩]
      exact qleave_last h hd hz (Nat.le_trans (o.z z (List.mem_of_getElem? hz)) o.k)
    | d + 2, hd, e =>
      rw [if_neg (by omega), if_neg (by rintro ⟨_, h⟩; omega)]
      exact qleave_one h hd (Nat.le_trans (o.d _ (List.mem_of_getElem? hd)) o.k)
  · rw [if_neg hi, if_neg hi, if_neg (fun h => hi h.1)]
    refine (qleave_out h hi).mono ?_
    rintro e w1 ⟨rfl, rfl⟩
    exact ⟨rfl, h, Kp.refl _ _⟩
/-- the sizes -/
theorem QOkS.ent (o : QOkS D Z S K) (hk : K + 1 ≤ 1000) (t : Int) : QOkS (entD D t) Z S (K + 1) := by
  have hl : (entD D t).length = D.length := by unfold entD; split <;> simp
  refine ⟨by rw [hl]; exact o.n1, by rw [hl]; exact o.n8, by rw [hl]; exact o.zl, fun d hd => ?_, fun z hz => Nat.le_succ_of_le (o.z z hz), Nat.le_succ_of_le o.r, hk, fun x out h => by rw [hl]; exact o.o x out h, o.x⟩
  unfold entD at hd
  split at hd
  · rcases List.mem_or_eq_of_mem_set hd with h | h
    · exact Nat.le_succ_of_le (o.d d h)
    · rw [h, List.getD_eq_getElem?_getD]
      rcases h2 : D[t.toNat]? with _ | d'
      · simp
      · have := o.d d' (List.mem_of_getElem? h2); simp; omega
  · exact Nat.le_succ_of_le (o.d d hd)
theorem QOkS.lev (o : QOkS D Z S K) (hk : K + 1 ≤ 1000) (t : Int) : QOkS (levD D t) (levZ D Z t) S (K + 1) := by
  have hl : (levD D t).length = D.length := by unfold levD; split <;> simp
  have hz : (levZ D Z t).length = Z.length := by unfold levZ; split <;> simp
  refine ⟨by rw [hl]; exact o.n1, by rw [hl]; exact o.n8, by rw [hl, hz]; exact o.zl, fun d hd => ?_, fun z hz => ?_, Nat.le_succ_of_le o.r, hk, fun x out h => by rw [hl]; exact o.o x out h, o.x⟩
  · unfold levD at hd
    split at hd
    · rcases List.mem_or_eq_of_mem_set hd with h | h
      · exact Nat.le_succ_of_le (o.d d h)
      · rw [h, List.getD_eq_getElem?_getD]
        rcases h2 : D[t.toNat]? with _ | d'
        · simp
        · have := o.d d' (List.mem_of_getElem? h2); simp; omega
    · exact Nat.le_succ_of_le (o.d d hd)
  · unfold levZ at hz
    split at hz
    · rcases List.mem_or_eq_of_mem_set hz with h | h
      · exact Nat.le_succ_of_le (o.z z h)
      · rw [h, List.getD_eq_getElem?_getD]
        rcases h2 : Z[t.toNat]? with _ | d'
        · simp
        · have := o.z d' (List.mem_of_getElem? h2); simp; omega
    · exact Nat.le_succ_of_le (o.z z hz)
theorem QOkS.ret (o : QOkS D Z S K) (hk : K + 1 ≤ 1000) {x : Ret} (hx : x.few) : QOkS D Z (qretS D Z S x) (K + 1) := by
  unfold qretS
  split
  · exact ⟨o.n1, o.n8, o.zl, fun d h => Nat.le_succ_of_le (o.d d h), fun d h => Nat.le_succ_of_le (o.z d h), Nat.le_succ_of_le o.r, hk, o.o, o.x⟩
  · refine ⟨o.n1, o.n8, o.zl, fun d h => Nat.le_succ_of_le (o.d d h), fun d h => Nat.le_succ_of_le (o.z d h), by rw [List.length_append, List.length_singleton]; have := o.r; omega, hk, fun y out hm => ?_, fun y out hm => ?_⟩
    · rcases List.mem_append.1 hm with h | h
      · exact o.o y out h
      · simp at h; obtain ⟨rfl, rfl⟩ := h; exact qoutK_len D Z _
    · rcases List.mem_append.1 hm with h | h
      · exact o.x y out h
      · simp at h; obtain ⟨rfl, rfl⟩ := h; exact hx
theorem QOkS.tail {r : Ret × List Int} (o : QOkS D Z (r :: S) K) : QOkS D Z S K :=
  ⟨o.n1, o.n8, o.zl, o.d, o.z, by have := o.r; simp at this; omega, o.k, fun x out h => o.o x out (List.mem_cons_of_mem _ h), fun x out h => o.x x out (List.mem_cons_of_mem _ h)⟩
theorem QOkS.new {n : Nat} (n1 : 1 ≤ n) (n8 : n ≤ 8) : QOkS (List.replicate n 0) (List.replicate n 0) [] 0 :=
  ⟨by simpa using n1, by simpa using n8, by simp, fun d hd => by rw [List.eq_of_mem_replicate hd]; exact Nat.le_refl _, fun d hd => by rw [List.eq_of_mem_replicate hd]; exact Nat.le_refl _, Nat.le_refl _, by omega, fun _ _ h => (by cases h), fun _ _ h => (by cases h)⟩
theorem QOkS.mono {K' : Nat} (o : QOkS D Z S K) (h : K ≤ K') (hk : K' ≤ 1000) : QOkS D Z S K' := ⟨o.n1, o.n8, o.zl, fun d hd => Nat.le_trans (o.d d hd) h, fun d hd => Nat.le_trans (o.z d hd) h, Nat.le_trans o.r h, hk, o.o, o.x⟩
end
end Go.Proofs.Ytplbkjgkocnehaa
