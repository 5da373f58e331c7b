/- Walks through rcu: Ripe, Next, Waits. -/
import Derived.Test.YtplbkjgkocnehaaU7
namespace Go.Proofs.Ytplbkjgkocnehaa
set_option linter.unusedSimpArgs false
set_option linter.unusedVariables false
open Go.RowKit
attribute [local go_sem ↓] Go.wp_at_zero Go.wp_at_succ
def ripe (R : List (Ret × List Nat)) : Bool := match R with | [] => false | r :: _ => ((r.2.length : Int) == 0)
theorem wM_len (ws : List Nat) : (wM ws).length = ws.length := by simp [wM]
section
variable {w w' : World} {p : Nat} {u v : Value} {D : List Nat} {H : List HV} {R : List (Ret × List Nat)} {K : Nat}
theorem ws_len {n : Nat} {ws : List Nat} (h : ws.Pairwise (· < ·)) (hn : ∀ t ∈ ws, t < n) : ws.length ≤ n := by
  have h1 := nodup_len (l := ws.map (fun t : Nat => (t : Int))) (l' := (List.range n).map (fun t : Nat => (t : Int))) (List.Pairwise.map _ (fun a b (hab : a < b) => by show (a : Int) ≠ b; omega) h) (fun x hx => by
    obtain ⟨t, ht, rfl⟩ := List.mem_map.1 hx
    exact List.mem_map_of_mem (List.mem_range.2 (hn t ht)))
  simpa using h1
theorem head_cells (h : UAt w p u v D H R) {r : Ret × List Nat} {R' : List (Ret × List Nat)} (hR : R = r :: R') : ∃ h' H' b o c, H = h' :: H' ∧ v = .slice (some ⟨b, o, none⟩) R.length c ∧ R.length ≤ c ∧ c ≤ maxLen ∧ b < w.heap.size ∧ HOk w h' r.1 r.2 ∧
    w.cell? ⟨b, o, none⟩ = some h'.a ∧ w.cell? ⟨b, o + 1, none⟩ = some h'.b ∧ w.cell? ⟨b, o + 2, none⟩ = some h'.c ∧ w.cell? ⟨b, o + 3, none⟩ = some (.map (some h'.m)) := by
  have hl := h.hl
  rcases H with _ | ⟨h', H'⟩
  · rw [hR] at hl; cases hl
  · obtain ⟨b, o, c, hv, hc, hm, hb, e0, e1, e2, e3⟩ := held_cells h.hv (k := 0) (h' := h') rfl
    simp only [Nat.zero_mul, Nat.add_zero] at e0 e1 e2 e3
    have ho := h.hh 0 h' r.1 r.2 rfl (by rw [hR]; rfl)
    exact ⟨h', H', b, o, c, rfl, by rw [hv, hl], by rw [← hl]; exact hc, hm, hb, ho, e0, e1, e2, e3⟩
set_option maxRecDepth 100000 in
theorem ripe_any (h : UAt w p u v D H R) (o : UOk D R K) : Calls Try.prog 19 #[.pointer (some ⟨p, 0, none⟩)] w fun e w' => e = .returned (.bool (ripe R)) ∧ w = w' := by
  have HL := hid (len_any h)
  have Lp := loc2 h.hp
  rcases R with _ | ⟨r, R'⟩
  · clear h o
    go_enter Try.func19, Try.ntmps19
    go_wp2_with fail
    refine HL.out.mono ?_
    rintro e w1 ⟨rfl, rfl⟩
    go_wp2_with fail
    go_ret
    exact ⟨rfl, rfl⟩
  · obtain ⟨h', H', b, o', c, rfl, rfl, hc, hm, hb, ho, e0, e1, e2, e3⟩ := head_cells h rfl
    have hws := o.w r.1 r.2 List.mem_cons_self
    have hwl := ws_len hws.1 hws.2
    have n8 := o.n8
    have hl := ho.m.len (P := Try.prog) k71 3 (by rw [wM_len]; omega)
    rw [wM_len] at hl
    have c1 : (0 : Int) < (((r :: R').length : Nat) : Int) := by simp only [List.length_cons]; omega
    unfold ripe
    dsimp only
    clear h o ho hws
    generalize hrl : (r :: R').length = n at *
    generalize hrw : r.2.length = n2 at *
    go_enter Try.func19, Try.ntmps19
    go_wp2_with fail
    refine HL.out.mono ?_
    rintro e w1 ⟨rfl, rfl⟩
    go_wp2_with fail
    go_ret
    exact ⟨rfl, rfl⟩
set_option maxRecDepth 100000 in
theorem next_no (h : UAt w p u v D H R) (o : UOk D R K) (hr : ripe R = false) : Calls Try.prog 23 #[.pointer (some ⟨p, 0, none⟩)] w fun e w' => e = .returned (.tuple #[.agg #[.slice none 0 0, .slice none 0 0, .slice none 0 0], .bool false]) ∧ Kp NoB w w' := by
  have HR := hid (ripe_any (h.alloc (.cells #[.slice none 0 0, .slice none 0 0, .slice none 0 0] 35)) o)
  rw [hr] at HR
  have L := loc3 (blk_new w (.cells #[.slice none 0 0, .slice none 0 0, .slice none 0 0] 35))
  clear h o
  go_enter Try.func23, Try.ntmps23
  go_wp2_with fail
  refine HR.out.mono ?_
  rintro e w1 ⟨rfl, rfl⟩
  go_wp2_with fail
  refine bodyPost_ret (v := .tuple #[.agg #[.slice none 0 0, .slice none 0 0, .slice none 0 0], .bool false]) (by simp [results, Try.results23, go_sem, L]) rfl ⟨rfl, ?_⟩
  exact (Kp.refl _ w).alloc _
theorem UAt.pop {b o o2 c n : Nat} {h' : HV} {H' : List HV} {r : Ret × List Nat} {R' : List (Ret × List Nat)} (h : UAt w p u (.slice (some ⟨b, o, none⟩) n c) D (h' :: H') (r :: R')) (hn : n = R'.length + 1) (ho : 1 < c → o2 = o + 4) :
    UAt (w.setCell ⟨p, 1, none⟩ (.slice (some ⟨b, o2, none⟩) R'.length (c - 1))) p u (.slice (some ⟨b, o2, none⟩) R'.length (c - 1)) D H' R' := by
  have hl : H'.length = R'.length := by have := h.hl; simpa using this
  have hv := h.hv
  rw [hn, ← hl] at hv
  have hv2 := Off.tail eD_len (l := H') (y := h') hv ho
  rw [hl] at hv2
  have KS : Kp (fun x => x = p) w (w.setCell ⟨p, 1, none⟩ (.slice (some ⟨b, o2, none⟩) R'.length (c - 1))) := (Kp.refl (fun x => x = p) w).setCell (p := ⟨p, 1, none⟩) _ (fun _ => rfl)
  refine ⟨blk_setCell h.hp 1 _, h.hu.kp KS (fun q hq e => by subst e; exact h.hu.ne h.hp (by decide) hq), hv2.kp KS (fun q hq e => by subst e; exact h.hv.ne h.hp (by decide) hq), hl, ?_, ?_⟩
  · intro i h2 x ws hi hx
    have ho2 := h.hh (i + 1) h2 x ws (by simpa using hi) (by simpa using hx)
    exact ho2.kp KS (fun q hq e => ho2.nfp h.hp h.hv q hq (.inl e))
  · have := h.nd
    rw [List.map_cons, List.nodup_cons] at this
    exact this.2
set_option maxRecDepth 100000 in
set_option maxHeartbeats 4000000 in
theorem next_yes {x : Ret} {R' : List (Ret × List Nat)} (h : UAt w p u v D H ((x, []) :: R')) (o : UOk D ((x, []) :: R') K) : Calls Try.prog 23 #[.pointer (some ⟨p, 0, none⟩)] w fun e w' => ∃ h' H' v', H = h' :: H' ∧
    e = .returned (.tuple #[.agg #[h'.a, h'.b, h'.c], .bool true]) ∧ UAt w' p u v' D H' R' ∧ RowR w' h'.a h'.b h'.c x ∧ v'.ownBlock = v.ownBlock ∧ Kp (· = p) w w' := by
  have HR := hid (ripe_any (h.alloc (.cells #[.slice none 0 0, .slice none 0 0, .slice none 0 0] 35)) o)
  have Lp := loc2 h.hp
  obtain ⟨⟨ha, hb', hc', hm'⟩, H', b, o', c, rfl, rfl, hc, hm, hb, ho, e0, e1, e2, e3⟩ := head_cells h rfl
  obtain ⟨oa, ca, hae, _⟩ := ho.a.form
  obtain ⟨ob, cb, hbe, _⟩ := ho.b.form
  obtain ⟨oc, cc, hce, _⟩ := ho.c.form
  dsimp only at hae hbe hce e0 e1 e2 e3
  subst hae; subst hbe; subst hce
  have B1 := hid (blk_new w (.cells #[.slice none 0 0, .slice none 0 0, .slice none 0 0] 35))
  have hlen : ((x, ([] : List Nat)) :: R').length = R'.length + 1 := rfl
  rw [hlen] at *
  have c1 : (0 : Int) < (((R'.length + 1 : Nat)) : Int) := by omega
  have hrip : ripe ((x, ([] : List Nat)) :: R') = true := rfl
  rw [hrip] at HR
  obtain ⟨o2, ho2⟩ : ∃ o2, o2 = if c = 1 then o' else o' + 4 := ⟨_, rfl⟩
  suffices hS : Calls Try.prog 23 #[.pointer (some ⟨p, 0, none⟩)] w fun e w' => e = .returned (.tuple #[.agg #[.slice oa x.a.length ca, .slice ob x.b.length cb, .slice oc x.c.length cc], .bool true]) ∧
      w' = (w.setCell ⟨p, 1, none⟩ (.slice (some ⟨b, o2, none⟩) R'.length (c - 1))).alloc (.cells #[.slice oa x.a.length ca, .slice ob x.b.length cb, .slice oc x.c.length cc] 35) by
    refine hS.mono ?_
    rintro e w' ⟨rfl, rfl⟩
    have hU := h.pop rfl (o2 := o2) (fun h1 => by rw [ho2, if_neg (by omega)])
    have KS : Kp (fun x => x = p) w ((w.setCell ⟨p, 1, none⟩ (.slice (some ⟨b, o2, none⟩) R'.length (c - 1))).alloc (.cells #[.slice oa x.a.length ca, .slice ob x.b.length cb, .slice oc x.c.length cc] 35)) := ((Kp.refl (fun x => x = p) w).setCell (p := ⟨p, 1, none⟩) _ (fun _ => rfl)).alloc _
    have ho' := ho.kp KS (fun q hq e => ho.nfp h.hp h.hv q hq (.inl e))
    exact ⟨_, _, _, rfl, rfl, hU.alloc _, ⟨ho'.a, ho'.b, ho'.c⟩, rfl, KS⟩
  have hb' : b < w.heap.size := hb
  have hpl : p < w.heap.size := Lp.2.2.2.2
  clear h o ho hrip hlen
  by_cases hc1 : c = 1
  · rw [if_pos hc1] at ho2
    subst ho2; subst hc1
    obtain rfl : R' = [] := List.eq_nil_of_length_eq_zero (by simp only [List.length_cons] at hc; omega)
    go_enter Try.func23, Try.ntmps23
    go_wp2_with fail
    refine HR.out.mono ?_
    rintro e w1 ⟨rfl, hw1⟩
    subst hw1
    go_wp2_with fail
    have L := loc3 (blk_new' (w.setCell ⟨p, 1, none⟩ (.slice (some ⟨b, o2, none⟩) 0 0)) (.cells #[.slice oa x.a.length ca, .slice ob x.b.length cb, .slice oc x.c.length cc] 35) (n := w.heap.size) (by simp))
    exact bodyPost_ret (v := .tuple #[.agg #[.slice oa x.a.length ca, .slice ob x.b.length cb, .slice oc x.c.length cc], .bool true]) (by simp [results, Try.results23, go_sem, L]) rfl ⟨rfl, rfl⟩
  · rw [if_neg hc1] at ho2
    subst ho2
    go_enter Try.func23, Try.ntmps23
    go_wp2_with fail
    refine HR.out.mono ?_
    rintro e w1 ⟨rfl, hw1⟩
    subst hw1
    go_wp2_with fail
    have L := loc3 (blk_new' (w.setCell ⟨p, 1, none⟩ (.slice (some ⟨b, o' + 4, none⟩) R'.length (c - 1))) (.cells #[.slice oa x.a.length ca, .slice ob x.b.length cb, .slice oc x.c.length cc] 35) (n := w.heap.size) (by simp))
    exact bodyPost_ret (v := .tuple #[.agg #[.slice oa x.a.length ca, .slice ob x.b.length cb, .slice oc x.c.length cc], .bool true]) (by simp [results, Try.results23, go_sem, L]) rfl ⟨rfl, rfl⟩
def waitsL (R : List (Ret × List Nat)) : List Int := match R with | [] => [] | r :: _ => r.2.map (fun t : Nat => (t : Int))
theorem keys_up {ws : List Nat} (h : ws.Pairwise (· < ·)) : keysL (wM ws) = ws.map (fun t : Nat => (t : Int)) := by
  have hp : (ws.map (fun t : Nat => (t : Int))).Pairwise (· < ·) := List.Pairwise.map _ (fun a b (hab : a < b) => by show (a : Int) < b; omega) h
  have e : (wM ws).map (·.1) = ws.map (fun t : Nat => (t : Int)) := by unfold wM; rw [List.map_map]; rfl
  unfold keysL
  rw [e]
  exact rising_eq (sorted_rising (hp.imp (fun h => by omega))) hp (fun x => mem_sorted)
set_option maxRecDepth 100000 in
theorem waits_any (h : UAt w p u v D H R) (o : UOk D R K) : Calls Try.prog 20 #[.pointer (some ⟨p, 0, none⟩)] w fun e w' => ∃ x, e = .returned x ∧ RowAt w' 3 eI 1 x (waitsL R) ∧ New w x ∧ Kp NoB w w' := by
  have HL := hid (len_any h)
  have Lp := loc2 h.hp
  rcases R with _ | ⟨r, R'⟩
  · clear h o
    go_enter Try.func20, Try.ntmps20
    go_wp2_with fail
    refine HL.out.mono ?_
    rintro e w1 ⟨rfl, rfl⟩
    go_wp2_with fail
    go_ret
    exact ⟨_, rfl, RowAt.nil _ _ _ _, New.nil _, Kp.refl _ _⟩
  · obtain ⟨h', H', b, o', c, rfl, rfl, hc, hm, hb, ho, e0, e1, e2, e3⟩ := head_cells h rfl
    have hws := o.w r.1 r.2 List.mem_cons_self
    have hwl := ws_len hws.1 hws.2
    have n8 := o.n8
    have c1 : (0 : Int) < (((r :: R').length : Nat) : Int) := by simp only [List.length_cons]; omega
    have c2 : ((((r :: R').length : Nat) : Int) == 0) = false := by simp only [List.length_cons, beq_eq_false_iff_ne]; omega
    have HK := hid (fun W => keys_any (some h'.m) W)
    have HS := hid (sorted_any (ho.m.alloc (.cells #[.map (some h'.m)] 71)) (wM_ok hws.1 hws.2 (by omega)) (blk_new w _) (by rw [wM_len]; omega))
    have hku := hid (keys_up hws.1)
    unfold waitsL
    dsimp only
    clear h o ho hws
    generalize hrl : (r :: R').length = n at *
    go_enter Try.func20, Try.ntmps20
    go_wp2_with fail
    refine HL.out.mono ?_
    rintro e w1 ⟨rfl, rfl⟩
    go_wp2_with fail
    refine (HK.out _).mono ?_
    rintro e w1 ⟨rfl, rfl⟩
    go_wp2_with fail
    refine HS.out.mono ?_
    rintro e w1 ⟨x, rfl, hx, hn, k1⟩
    rw [hku.out] at hx
    obtain ⟨ox, cx, hxv, _⟩ := hx.form
    subst hxv
    rw [List.length_map] at hx hn
    replace hx := hid hx
    have hn' := hid hn
    clear hn
    go_wp2_with fail
    go_ret
    refine ⟨_, rfl, hx.out, ?_, ((Kp.refl _ w).alloc _).trans k1⟩
    intro b hb
    have := hn'.out b hb
    simp at this
    omega
end
end Go.Proofs.Ytplbkjgkocnehaa
