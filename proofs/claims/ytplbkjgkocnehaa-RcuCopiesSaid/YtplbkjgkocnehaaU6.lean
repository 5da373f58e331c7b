/- Walks through rcu: Leave. -/
import Derived.Test.YtplbkjgkocnehaaU5
namespace Go.Proofs.Ytplbkjgkocnehaa
set_option linter.unusedSimpArgs false
set_option linter.unusedVariables false
open Go.RowKit
attribute [local go_sem ↓] Go.wp_at_zero Go.wp_at_succ
/-- who goes out is waited for no more -/
def gone (t : Nat) (R : List (Ret × List Nat)) : List (Ret × List Nat) := R.map fun r => (r.1, r.2.filter (· != t))
def goneK (t k : Nat) (R : List (Ret × List Nat)) : List (Ret × List Nat) := gone t (R.take k) ++ R.drop k
theorem goneK_zero (t : Nat) (R : List (Ret × List Nat)) : goneK t 0 R = R := by simp [goneK, gone]
theorem goneK_all (t : Nat) (R : List (Ret × List Nat)) : goneK t R.length R = gone t R := by simp [goneK]
theorem goneK_len (t k : Nat) (R : List (Ret × List Nat)) : (goneK t k R).length = R.length := by simp [goneK, gone]; omega
theorem goneK_get {t k i : Nat} {R : List (Ret × List Nat)} : (goneK t k R)[i]? = if i < k then (R[i]?).map (fun r => (r.1, r.2.filter (· != t))) else R[i]? := by
  unfold goneK gone
  by_cases hi : i < k
  · rw [if_pos hi]
    by_cases h2 : i < R.length
    · rw [List.getElem?_append_left (by simp; omega), List.getElem?_map, List.getElem?_take, if_pos hi]
    · rw [List.getElem?_append_right (by simp; omega), List.getElem?_drop, List.getElem?_eq_none (by simp; omega), List.getElem?_eq_none (by omega)]; rfl
  · rw [if_neg hi]
    by_cases h2 : k ≤ R.length
    · have hl : ((R.take k).map fun r => (r.1, r.2.filter (· != t))).length = k := by simp; omega
      rw [List.getElem?_append_right (by omega), List.getElem?_drop, hl, show k + (i - k) = i from by omega]
    · rw [List.getElem?_append_right (by simp; omega), List.getElem?_drop, List.getElem?_eq_none (by omega), List.getElem?_eq_none (by omega)]
theorem wM_del (t : Nat) (ws : List Nat) : mdel (wM ws) t = wM (ws.filter (· != t)) := by
  unfold mdel wM
  rw [List.filter_map]
  congr 1
  apply List.filter_congr
  intro x _
  show (((x : Int)) != (t : Int)) = (x != t)
  by_cases h : x = t
  · subst h; simp
  · have : (x : Int) ≠ (t : Int) := by omega
    rw [show ((x : Int) != (t : Int)) = true from bne_iff_ne.2 this, show (x != t) = true from bne_iff_ne.2 h]
theorem wM_ok {ws : List Nat} (h : ws.Pairwise (· < ·)) {n : Nat} (hn : ∀ t ∈ ws, t < n) (h8 : n ≤ 1000) : MOk .i64 (wM ws) := by
  refine ⟨?_, ?_⟩
  · unfold wM
    rw [List.map_map]
    refine List.Pairwise.map _ (fun a b (hab : a < b) => ?_) h
    show (a : Int) ≠ (b : Int)
    omega
  · intro p hp
    obtain ⟨t, ht, rfl⟩ := List.mem_map.1 hp
    have := hn t ht
    simp [Lit.wf, IntKind.min, IntKind.max, IntKind.bits, IntKind.signed]
    omega
/-- the cells of one that was retired -/
theorem held_cells {w : World} {v : Value} {H : List HV} (h : Off w 74 eD 4 v H) {k : Nat} {h' : HV} (hk : H[k]? = some h') : ∃ b o c, v = .slice (some ⟨b, o, none⟩) H.length c ∧ H.length ≤ c ∧ c ≤ maxLen ∧ b < w.heap.size ∧
    w.cell? ⟨b, o + k * 4, none⟩ = some h'.a ∧ w.cell? ⟨b, o + k * 4 + 1, none⟩ = some h'.b ∧ w.cell? ⟨b, o + k * 4 + 2, none⟩ = some h'.c ∧ w.cell? ⟨b, o + k * 4 + 3, none⟩ = some (.map (some h'.m)) := by
  obtain ⟨b, o, c, A, hv, hb, hcc, hcm, hA⟩ := h.pos eD_len (by have := (List.getElem?_eq_some_iff.1 hk).1; omega)
  refine ⟨b, o, c, hv, hcc, hcm, blk_lt hb, ?_, ?_, ?_, ?_⟩
  · rw [cell_of hb]; exact hA k 0 h' _ hk rfl
  · rw [cell_of hb, Nat.add_assoc]; exact hA k 1 h' _ hk rfl
  · rw [cell_of hb, Nat.add_assoc]; exact hA k 2 h' _ hk rfl
  · rw [cell_of hb, Nat.add_assoc]; exact hA k 3 h' _ hk rfl
theorem nfp_map {w : World} {h : HV} {x : Ret} {ws : List Nat} (o : HOk w h x ws) {m : Nat} {M : List (Int × Value)} (hm : MapAt .i64 w m M) (hne : h.m ≠ m) : ∀ b, h.fp b → ¬ b = m := by
  obtain ⟨es, ck, hm, _⟩ := hm
  have hr : ∀ {v : Value} {l : List (Int × Int)}, RowAt w 59 eH 2 v l → v.ownBlock ≠ some m := by
    intro v l hR hb
    rcases hR.2 with ⟨h2, _⟩ | ⟨g, cap, cur, h2, _, hg, _⟩
    · rw [h2] at hb; cases hb
    · rw [h2] at hb; injection hb with hb; subst hb; rw [hm] at hg; cases hg
  rintro b (h1 | h1 | h1 | rfl) rfl
  · exact hr o.a h1
  · exact hr o.b h1
  · exact hr o.c h1
  · exact hne rfl
theorem UAt.setW {w w' : World} {p : Nat} {u v : Value} {D : List Nat} {H : List HV} {R : List (Ret × List Nat)} (h : UAt w p u v D H R) {k : Nat} {h' : HV} {x : Ret} {ws ws' : List Nat} (hk : H[k]? = some h') (hR : R[k]? = some (x, ws))
    (hm : MapAt .i64 w' h'.m (wM ws')) (kp : Kp (· = h'.m) w w') : UAt w' p u v D H (R.set k (x, ws')) := by
  have o := h.hh k h' x ws hk hR
  have hkl := (List.getElem?_eq_some_iff.1 hk).1
  obtain ⟨es, ck, hmm, _⟩ := id o.m
  have hu : ∀ b, u.ownBlock = some b → ¬ b = h'.m := by
    rintro b hb rfl
    rcases h.hu.2 with ⟨h2, _⟩ | ⟨g, cap, cur, h2, _, hg, _⟩
    · rw [h2] at hb; cases hb
    · rw [h2] at hb; injection hb with hb; subst hb; rw [hmm] at hg; cases hg
  refine ⟨kp.get h.hp (fun e => by have := h.hp; rw [e, hmm] at this; cases this), h.hu.kp kp hu, h.hv.kp kp (by
    rintro b hb rfl
    obtain ⟨A, hA⟩ := h.hv.cells hb
    rw [hmm] at hA; cases hA), by rw [List.length_set]; exact h.hl, ?_, h.nd⟩
  intro i h2 y ws2 hi hy
  by_cases e : i = k
  · subst e
    rw [hk] at hi
    injection hi with hi
    subst hi
    rw [List.getElem?_set_self (by rw [← h.hl]; exact hkl)] at hy
    injection hy with hy
    injection hy with hy1 hy2
    subst hy1; subst hy2
    have hne : ∀ {v : Value} {l : List (Int × Int)}, RowAt w 59 eH 2 v l → ∀ b, v.ownBlock = some b → ¬ b = h'.m := by
      rintro v l hR b hb rfl
      rcases hR.2 with ⟨h2, _⟩ | ⟨g, cap, cur, h2, _, hg, _⟩
      · rw [h2] at hb; cases hb
      · rw [h2] at hb; injection hb with hb; subst hb; rw [hmm] at hg; cases hg
    exact ⟨o.a.kp kp (hne o.a), o.b.kp kp (hne o.b), o.c.kp kp (hne o.c), hm⟩
  · rw [List.getElem?_set_ne (Ne.symm e)] at hy
    have o2 := h.hh i h2 y ws2 hi hy
    refine o2.kp kp (nfp_map o2 o.m (fun em => e ?_))
    have hil := (List.getElem?_eq_some_iff.1 hi).1
    have h1 : (H.map (·.m))[i]? = some h2.m := by rw [List.getElem?_map, hi]; rfl
    have h3 : (H.map (·.m))[k]? = some h'.m := by rw [List.getElem?_map, hk]; rfl
    exact (List.getElem?_inj (by simpa using hil) h.nd).1 (by rw [h1, h3, em])
section
variable {w w' : World} {p : Nat} {u v : Value} {D : List Nat} {H : List HV} {R : List (Ret × List Nat)} {K : Nat}
theorem leave_out (h : UAt w p u v D H R) (o : UOk D R K) {t : Int} (ht : ¬ (0 ≤ t ∧ t < D.length)) : Calls Try.prog 22 #[.pointer (some ⟨p, 0, none⟩), .int .i64 t] w fun e w' => e = .returned (.int .i64 2) ∧ w = w' := by
  have HI := hid (is_out h o ht)
  clear h o ht
  go_enter Try.func22, Try.ntmps22
  go_wp2_with fail
  refine HI.out.mono ?_
  rintro e w1 ⟨rfl, rfl⟩
  go_wp2_with fail
  go_ret
  exact ⟨rfl, rfl⟩
theorem leave_none (h : UAt w p u v D H R) (o : UOk D R K) {t : Nat} (ht : D[t]? = some 0) : Calls Try.prog 22 #[.pointer (some ⟨p, 0, none⟩), .int .i64 t] w fun e w' => e = .returned (.int .i64 18) ∧ w = w' := by
  have htl := (List.getElem?_eq_some_iff.1 ht).1
  have HI := hid (is_in h o htl)
  have Lp := loc2 h.hp
  obtain ⟨b, c, rfl, hc, _⟩ := h.du ht
  have Lt := row_n h.hu ht
  have b1 : (0 : Int) ≤ (t : Int) := Int.natCast_nonneg _
  have b2 : (t : Int) < (D.length : Int) := by omega
  clear h o ht
  go_enter Try.func22, Try.ntmps22
  go_wp2_with fail
  refine HI.out.mono ?_
  rintro e w1 ⟨rfl, rfl⟩
  go_wp2_with fail
  go_ret
  exact ⟨rfl, rfl⟩
set_option maxRecDepth 100000 in
theorem leave_one (h : UAt w p u v D H R) (o : UOk D R K) {t d : Nat} (ht : D[t]? = some (d + 2)) : Calls Try.prog 22 #[.pointer (some ⟨p, 0, none⟩), .int .i64 t] w fun e w' => e = .returned (.int .i64 0) ∧ UAt w' p u v (D.set t (d + 1)) H R ∧ Kp (fun b => u.ownBlock = some b) w w' := by
  have htl := (List.getElem?_eq_some_iff.1 ht).1
  have HI := hid (is_in h o htl)
  have Lp := loc2 h.hp
  obtain ⟨b, c, hu, hc, _⟩ := h.du ht
  have HS := hid (h.setD hu htl (d + 1))
  have hpb : p ≠ b := by
    obtain ⟨b', c', A, hv, hb, _⟩ := h.hu.pos eN_len (by omega)
    rw [hu] at hv
    injection hv with h1 _ _
    injection h1 with h1
    injection h1 with h1
    subst h1
    exact ne_of_types h.hp hb (by decide)
  subst hu
  have Lt := row_n h.hu ht
  have b1 : (0 : Int) ≤ (t : Int) := Int.natCast_nonneg _
  have b2 : (t : Int) < (D.length : Int) := by omega
  have b3 : d + 2 ≤ 1000 := Nat.le_trans (o.d _ (List.mem_of_getElem? ht)) o.k
  have e1 : (((d + 2 : Nat) : Int) == 0) = false := by simp; omega
  have e2 : ((d + 2 : Nat) : Int) - 1 = ((d + 1 : Nat) : Int) := by omega
  have e3 : (((d + 1 : Nat) : Int) == 0) = false := by simp; omega
  generalize hd1 : d + 1 = d1 at *
  generalize hd2 : d + 2 = d2 at *
  have KS := hid ((Kp.refl (fun x => x = b) w).setCell (p := ⟨b, t, none⟩) (.int .i64 d1) (fun _ => rfl))
  clear h o ht
  go_enter Try.func22, Try.ntmps22
  go_wp2_with fail
  refine HI.out.mono ?_
  rintro e w1 ⟨rfl, rfl⟩
  go_wp2_with fail
  go_ret
  exact ⟨rfl, HS.out, KS.out.mono (fun b hb => by rw [hb]; rfl)⟩
set_option maxRecDepth 100000 in
set_option maxHeartbeats 4000000 in
theorem leave_last (h : UAt w p u v D H R) (o : UOk D R K) {t : Nat} (ht : D[t]? = some 1) : Calls Try.prog 22 #[.pointer (some ⟨p, 0, none⟩), .int .i64 t] w fun e w' => e = .returned (.int .i64 0) ∧ UAt w' p u v (D.set t 0) H (gone t R) ∧ Kp (fun b => u.ownBlock = some b ∨ ∃ h ∈ H, h.m = b) w w' := by
  have htl := (List.getElem?_eq_some_iff.1 ht).1
  have HI := hid (is_in h o htl)
  have Lp := loc2 h.hp
  obtain ⟨b, c, hu, hc, _⟩ := h.du ht
  have HS := hid (h.setD hu htl 0)
  have hpb : p ≠ b := by
    obtain ⟨b', c', A, hv, hb, _⟩ := h.hu.pos eN_len (by omega)
    rw [hu] at hv
    injection hv with h1 _ _
    injection h1 with h1
    injection h1 with h1
    subst h1
    exact ne_of_types h.hp hb (by decide)
  subst hu
  have Lt := row_n h.hu ht
  have b1 : (0 : Int) ≤ (t : Int) := Int.natCast_nonneg _
  have b2 : (t : Int) < (D.length : Int) := by omega
  have KS := hid ((Kp.refl (fun x => x = b) w).setCell (p := ⟨b, t, none⟩) (.int .i64 0) (fun _ => rfl))
  have hwt : (Lit.int .i64 (t : Int)).wf = true := by
    have := o.n8
    simp [Lit.wf, IntKind.min, IntKind.max, IntKind.bits, IntKind.signed]
    omega
  have hRl : R.length ≤ 1000 := Nat.le_trans o.r o.k
  obtain ⟨ov, cv, hvv, hcv, _⟩ := h.hv.form
  rw [h.hl] at hvv hcv
  have O := hid o
  have hHR := hid h.hl
  clear h o ht
  subst hvv
  go_enter Try.func22, Try.ntmps22
  go_wp2_with fail
  refine HI.out.mono ?_
  rintro e w1 ⟨rfl, rfl⟩
  go_wp2_with fail
  generalize (w.setCell ⟨b, t, none⟩ (.int .i64 0)) = W1 at *
  clear Lp Lt
  go_loopw [44] (fun i W => ∃ k : Nat, k ≤ R.length ∧ i = .int .i64 k ∧ UAt W p (.slice (some ⟨b, 0, none⟩) D.length c) (.slice ov R.length cv) (D.set t 0) H (goneK t k R) ∧ Kp (fun b => ∃ h ∈ H, h.m = b) W1 W) (fun i _ => R.length - (intOf i).toNat)
  case atStart => exact ⟨0, Nat.zero_le _, rfl, by rw [goneK_zero]; exact HS.out, Kp.refl _ _⟩
  case round =>
    obtain ⟨k, hk, rfl, hU, hK⟩ := hrel
    have c1 : (0 : Int) ≤ (k : Int) := Int.natCast_nonneg _
    by_cases hlt : k < R.length
    · have c2 : (k : Int) < (R.length : Int) := by omega
      obtain ⟨h', hh'⟩ : ∃ h', H[k]? = some h' := ⟨_, List.getElem?_eq_getElem (by rw [hHR.out]; exact hlt)⟩
      obtain ⟨x, ws, hx, ho⟩ := hU.at_ hh'
      have hxR : R[k]? = some (x, ws) := by rw [goneK_get, if_neg (by omega)] at hx; exact hx
      obtain ⟨ha, hb, hc', hm⟩ := h'
      obtain ⟨oa, ca, hae, _⟩ := ho.a.form
      obtain ⟨ob, cb, hbe, _⟩ := ho.b.form
      obtain ⟨oc, cc, hce, _⟩ := ho.c.form
      dsimp only at hae hbe hce
      subst hae; subst hbe; subst hce
      have hws := O.out.w x ws (List.mem_of_getElem? hxR)
      obtain ⟨w2, hr, hm2, k2⟩ := (ho.m.alloc (.cells #[.slice oa x.a.length ca, .slice ob x.b.length cb, .slice oc x.c.length cc, .map (some hm)] 74)).del (wM_ok hws.1 hws.2 (by have := O.out.n8; omega)) k3 k71 t hwt (P := Try.prog) 0
      have hset : (goneK t k R).set k (x, ws.filter (· != t)) = goneK t (k + 1) R := by
        apply List.ext_getElem?
        intro i
        by_cases e : i = k
        · subst e
          rw [List.getElem?_set_self (by rw [goneK_len]; exact hlt), goneK_get, if_pos (by omega), hxR]; rfl
        · rw [List.getElem?_set_ne (Ne.symm e), goneK_get, goneK_get]
          by_cases e2 : i < k
          · rw [if_pos e2, if_pos (by omega)]
          · rw [if_neg e2, if_neg (by omega)]
      have hU2 := hid ((hU.alloc (.cells #[.slice oa x.a.length ca, .slice ob x.b.length cb, .slice oc x.c.length cc, .map (some hm)] 74)).setW hh' hx (by rw [← wM_del]; exact hm2) k2)
      have hK2 := hid ((hK.alloc (.cells #[.slice oa x.a.length ca, .slice ob x.b.length cb, .slice oc x.c.length cc, .map (some hm)] 74)).trans' k2 (fun q _ e => ⟨_, List.mem_of_getElem? hh', e.symm⟩))
      obtain ⟨bb, oo, cv', hv, hcc, hcm, lb, Le0, Le1, Le2, Le3⟩ := held_cells hU.hv hh'
      dsimp only at Le0 Le1 Le2 Le3
      rw [hHR.out] at hv hcc
      injection hv with hv1 _ hv3
      subst hv1; subst hv3
      replace hU := hid hU
      replace hK := hid hK
      replace hr := hid hr
      clear hm2 k2 ho hx hxR
      go_wp2_with fail
      rw [hr.out]
      go_wp2_with fail
      go_roundw
      case rel => exact ⟨k + 1, by omega, by go_num, by rw [← hset]; exact hU2.out, hK2.out⟩
      case measure => simp [intOf]; omega
    · obtain rfl : k = R.length := by omega
      rw [goneK_all] at hU
      replace hU := hid hU
      replace hK := hid hK
      go_wp2_with fail
      go_ret
      exact ⟨rfl, hU.out, (KS.out.mono (fun q hq => .inl (by rw [hq]; rfl))).trans (hK.out.mono (fun q hq => .inr hq))⟩
end
end Go.Proofs.Ytplbkjgkocnehaa
