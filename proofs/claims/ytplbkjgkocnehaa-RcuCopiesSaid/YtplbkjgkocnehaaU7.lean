/- Walks through rcu: Retire. -/
import Derived.Test.YtplbkjgkocnehaaU6
namespace Go.Proofs.Ytplbkjgkocnehaa
set_option linter.unusedSimpArgs false
set_option linter.unusedVariables false
open Go.RowKit
attribute [local go_sem ↓] Go.wp_at_zero Go.wp_at_succ
/-- who is inside, of the first k -/
def inK (D : List Nat) (k : Nat) : List Nat := (List.range k).filter fun t => D.getD t 0 != 0
def inside (D : List Nat) : List Nat := inK D D.length
theorem inK_succ (D : List Nat) (k : Nat) : inK D (k + 1) = inK D k ++ (if D.getD k 0 = 0 then [] else [k]) := by
  unfold inK
  rw [List.range_succ, List.filter_append]
  congr 1
  by_cases h : D.getD k 0 = 0
  · have e : (D.getD k 0 != 0) = false := by rw [h]; rfl
    rw [if_pos h, List.filter_cons, e]; rfl
  · have e : (D.getD k 0 != 0) = true := bne_iff_ne.2 h
    rw [if_neg h, List.filter_cons, e]; rfl
theorem inK_lt {D : List Nat} {k t : Nat} (h : t ∈ inK D k) : t < k := by
  unfold inK at h
  rw [List.mem_filter] at h
  exact List.mem_range.1 h.1
theorem inK_up (D : List Nat) (k : Nat) : (inK D k).Pairwise (· < ·) := by
  unfold inK
  exact (List.pairwise_lt_range (n := k)).filter _
theorem mget_wM {ws : List Nat} {k : Nat} (h : k ∉ ws) : mget (wM ws) k = none := by
  rw [mget_none]
  intro p hp e
  obtain ⟨t, ht, rfl⟩ := List.mem_map.1 hp
  have : (t : Int) = k := e
  exact h ((by omega : t = k) ▸ ht)
theorem wM_put {ws : List Nat} {k : Nat} (h : k ∉ ws) : mput (wM ws) k (.int .i64 k) = wM (ws ++ [k]) := by
  unfold mput
  rw [mget_wM h]
  simp [wM]
theorem u66 : Try.prog.underlying 66 = some (.slice 74) := by kernel_rfl
theorem i74 : (Try.prog.info? 74).map (fun i => (i.zero, i.size, i.bytes)) = some (some (.agg #[.slice none 0 0, .slice none 0 0, .slice none 0 0, .map none]), 4, 80) := by kernel_rfl
theorem oneD {a b c : Option Addr} {l1 l2 l3 c1 c2 c3 m : Nat} : ∀ u ∈ [(⟨.slice a l1 c1, .slice b l2 c2, .slice c l3 c3, m⟩ : HV)].flatMap eD, u.oneCell' = true := by
  intro u hu
  simp [eD] at hu
  rcases hu with rfl | rfl | rfl | rfl <;> rfl
/-- the blocks of which something is read -/
def rdR (a b c : Value) (x : Ret) (s : Nat) : Prop := (x.a ≠ [] ∧ a.ownBlock = some s) ∨ (x.b ≠ [] ∧ b.ownBlock = some s) ∨ (x.c ≠ [] ∧ c.ownBlock = some s)
theorem SlR.kp {F : Nat → Prop} {w w' : World} {a b c : Value} {x : Ret} (h : SlR w a b c x) (k : Kp F w w') (hF : ∀ s, rdR a b c x s → ¬ F s) : SlR w' a b c x :=
  ⟨h.a.kp k (fun hl s hs => hF s (.inl ⟨hl, hs⟩)), h.b.kp k (fun hl s hs => hF s (.inr (.inl ⟨hl, hs⟩))), h.c.kp k (fun hl s hs => hF s (.inr (.inr ⟨hl, hs⟩)))⟩
theorem SlR.lt {w : World} {a b c : Value} {x : Ret} (h : SlR w a b c x) : ∀ s, rdR a b c x s → s < w.heap.size := by
  rintro s (⟨hl, hs⟩ | ⟨hl, hs⟩ | ⟨hl, hs⟩)
  · exact h.a.lt hl s hs
  · exact h.b.lt hl s hs
  · exact h.c.lt hl s hs
theorem HOk.nfp {w : World} {h : HV} {x : Ret} {ws : List Nat} (o : HOk w h x ws) {p : Nat} {A : Array Value} {v : Value} {H : List HV} (hp : w.heap[p]? = some (.cells A 68 (0, 0))) (hv : Off w 74 eD 4 v H) : ∀ b, h.fp b → ¬ (b = p ∨ v.ownBlock = some b) := by
  have hr : ∀ {z : Value} {l : List (Int × Int)} {b : Nat}, RowAt w 59 eH 2 z l → z.ownBlock = some b → ¬ (b = p ∨ v.ownBlock = some b) := by
    rintro z l b hR hb (rfl | h2)
    · exact hR.ne hp (by decide) hb
    · obtain ⟨A, hA⟩ := hv.cells h2
      exact hR.ne hA (by decide) hb
  obtain ⟨es, ck, hm, _⟩ := id o.m
  rintro b (h1 | h1 | h1 | rfl)
  · exact hr o.a h1
  · exact hr o.b h1
  · exact hr o.c h1
  · rintro (e | h2)
    · rw [e, hp] at hm; cases hm
    · obtain ⟨A, hA⟩ := hv.cells h2
      rw [hm] at hA; cases hA
section
variable {w w' : World} {p : Nat} {u v : Value} {D : List Nat} {H : List HV} {R : List (Ret × List Nat)} {K : Nat}
theorem UAt.push (h : UAt w p u v D H R) {h' : HV} {x : Ret} {ws : List Nat} {v' : Value} (ho : HOk w h' x ws) (hfr : h'.m ∉ H.map (·.m)) (hp' : w'.heap[p]? = some (.cells #[u, v'] 68 (0, 0))) (hv' : Off w' 74 eD 4 v' (H ++ [h']))
    (k : Kp (fun b => b = p ∨ v.ownBlock = some b) w w') : UAt w' p u v' D (H ++ [h']) (R ++ [(x, ws)]) := by
  refine ⟨hp', h.hu.kp k ?_, hv', by simp [h.hl], ?_, ?_⟩
  · rintro b hb (rfl | h2)
    · exact h.hu.ne h.hp (by decide) hb
    · obtain ⟨A, hA⟩ := h.hv.cells h2
      exact h.hu.ne hA (by decide) hb
  · intro i h2 y ws2 hi hy
    by_cases hil : i < H.length
    · rw [List.getElem?_append_left hil] at hi
      rw [List.getElem?_append_left (by rw [← h.hl]; exact hil)] at hy
      have o := h.hh i h2 y ws2 hi hy
      exact o.kp k (o.nfp h.hp h.hv)
    · rw [List.getElem?_append_right (by omega)] at hi
      rw [List.getElem?_append_right (by rw [← h.hl]; omega)] at hy
      have hi0 : i - H.length = 0 := by have := (List.getElem?_eq_some_iff.1 hi).1; simp at this; omega
      rw [hi0] at hi
      rw [← h.hl, hi0] at hy
      injection hi with hi
      injection hy with hy
      injection hy with hy1 hy2
      subst hi; subst hy1; subst hy2
      exact ho.kp k (ho.nfp h.hp h.hv)
  · rw [List.map_append, List.nodup_append]
    refine ⟨h.nd, by simp, ?_⟩
    intro a ha b hb e
    simp at hb
    subst hb; subst e
    exact hfr ha
set_option maxRecDepth 100000 in
theorem retire_none (h : UAt w p u v D H R) (o : UOk D R K) {a b c : Value} {x : Ret} (hx : SlR w a b c x) (h0 : x.a.length + x.b.length + x.c.length = 0) :
    Calls Try.prog 17 #[.pointer (some ⟨p, 0, none⟩), .agg #[a, b, c]] w fun e w' => e = .returned (.int .i64 0) ∧ Kp NoB w w' := by
  have HT := hid (tasks_any (h.alloc (.cells #[a, b, c] 35)))
  have n1 : ((D.length : Int) == 0) = false := by have := o.n1; simp; intro h; rw [h] at this; simp at this
  obtain ⟨oa, ca, rfl, _⟩ := hx.a.form
  obtain ⟨ob, cb, rfl, _⟩ := hx.b.form
  obtain ⟨oc, cc, rfl, _⟩ := hx.c.form
  obtain ⟨h1, h2, h3⟩ : x.a.length = 0 ∧ x.b.length = 0 ∧ x.c.length = 0 := by omega
  rw [h1, h2, h3] at HT ⊢
  clear h o hx h0 h1 h2 h3
  go_enter Try.func17, Try.ntmps17
  go_wp2_with fail
  refine HT.out.mono ?_
  rintro e w1 ⟨rfl, rfl⟩
  go_wp2_with fail
  go_ret
  exact ⟨rfl, (Kp.refl _ w).alloc _⟩
set_option maxRecDepth 100000 in
set_option maxHeartbeats 8000000 in
theorem retire_some (h : UAt w p u v D H R) (o : UOk D R K) {a b c : Value} {x : Ret} (hx : SlR w a b c x) (hf : x.few) (h0 : 0 < x.a.length + x.b.length + x.c.length) :
    Calls Try.prog 17 #[.pointer (some ⟨p, 0, none⟩), .agg #[a, b, c]] w fun e w' => e = .returned (.int .i64 0) ∧ ∃ v' h', UAt w' p u v' D (H ++ [h']) (R ++ [(x, inside D)]) ∧ (∀ b, h'.fp b → w.heap.size ≤ b) ∧
      (v'.ownBlock = v.ownBlock ∨ ∃ b, v'.ownBlock = some b ∧ w.heap.size ≤ b) ∧ Kp (fun b => b = p ∨ v.ownBlock = some b) w w' := by
  have HT := hid (tasks_any (h.alloc (.cells #[a, b, c] 35)))
  have hmk := hid (fun w => run_makeMap (P := Try.prog) 71 w)
  have n1 : ((D.length : Int) == 0) = false := by have := o.n1; simp; intro h; rw [h] at this; simp at this
  have HX := hid hx
  obtain ⟨oa, ca, rfl, _⟩ := hx.a.form
  obtain ⟨ob, cb, rfl, _⟩ := hx.b.form
  obtain ⟨oc, cc, rfl, _⟩ := hx.c.form
  obtain ⟨q1, q2, q3⟩ := id hf
  have e1 : (((x.a.length : Int) + x.b.length + x.c.length) == 0) = false := by simp; omega
  have Lp := loc2 h.hp
  have hne1 : 0 < D.length := o.n1
  have n8 := o.n8
  obtain ⟨b0, c0, A0, hu, hb0, hA0, hc0, hm0, _⟩ := h.hu.pos eN_len hne1
  have H1 := hid (h.alloc (.cells #[.slice oa x.a.length ca, .slice ob x.b.length cb, .slice oc x.c.length cc] 35))
  have B1 := hid (blk_new w (.cells #[.slice oa x.a.length ca, .slice ob x.b.length cb, .slice oc x.c.length cc] 35))
  have K1 := hid ((Kp.refl NoB w).alloc (.cells #[.slice oa x.a.length ca, .slice ob x.b.length cb, .slice oc x.c.length cc] 35))
  have hs1 : (w.alloc (.cells #[.slice oa x.a.length ca, .slice ob x.b.length cb, .slice oc x.c.length cc] 35)).heap.size = w.heap.size + 1 := by simp
  have HO := hid o
  have HF := hid hf
  subst hu
  clear h hx hf h0 hb0 hA0
  go_enter Try.func17, Try.ntmps17
  go_wp2_with fail
  refine HT.out.mono ?_
  rintro e w1 ⟨rfl, hw1⟩
  subst hw1
  go_wp2_with fail
  rw [hmk.out, hs1]
  generalize hW1 : (w.alloc (.cells #[.slice oa x.a.length ca, .slice ob x.b.length cb, .slice oc x.c.length cc] 35)) = W1 at *
  have H2 := hid (H1.out.alloc (.map #[] 0))
  have K2 := hid (K1.out.alloc (.map #[] 0))
  have B2 := hid (blk_alloc (o' := .map #[] 0) B1.out)
  have M2 := hid (show MapAt .i64 (W1.alloc (.map #[] 0)) (w.heap.size + 1) [] from by rw [← hs1]; exact MapAt.new _ _)
  have hs2 : (W1.alloc (.map #[] 0)).heap.size = w.heap.size + 2 := by simp [hs1]
  have hpl : p < w.heap.size := Lp.2.2.2.2
  have hfp := hid (fun b hb => H1.out.lt b hb)
  replace hW1 := hid hW1
  generalize (W1.alloc (.map #[] 0)) = W2 at *
  clear Lp
  have Lp2 := loc2 H2.out.hp
  go_wp2_with fail
  go_loopw [6, 30] (fun _ i W => ∃ k : Nat, k ≤ D.length ∧ i = .int .i64 k ∧ MapAt .i64 W (w.heap.size + 1) (wM (inK D k)) ∧ Kp (· = w.heap.size + 1) W2 W) (fun _ i _ => D.length - (intOf i).toNat)
  case atStart => exact ⟨0, Nat.zero_le _, rfl, M2.out, Kp.refl _ _⟩
  case round =>
    obtain ⟨k, hk, rfl, hM, hK⟩ := hrel
    have hne : ∀ b, ufp p (.slice (some ⟨b0, 0, none⟩) D.length c0) v H b → ¬ b = w.heap.size + 1 := fun b hb e => by have := hfp.out b hb; rw [hs1] at this; omega
    have hU := H2.out.kp hK hne
    have Lp := loc2 hU.hp
    have d1 : (0 : Int) ≤ (k : Int) := Int.natCast_nonneg _
    by_cases hlt : k < D.length
    · have d2 : (k : Int) < (D.length : Int) := by omega
      obtain ⟨d, hd⟩ : ∃ d, D[k]? = some d := ⟨_, List.getElem?_eq_getElem hlt⟩
      have Lt := row_n hU.hu hd
      have hsu := inK_succ D k
      have hdd : D.getD k 0 = d := by rw [List.getD_eq_getElem?_getD, hd]; rfl
      rw [hdd] at hsu
      have hni : k ∉ inK D k := fun h => by have := inK_lt h; omega
      have hU' := hid hU
      have hK' := hid hK
      have hM' := hid hM
      clear hU hK hM
      rcases Nat.eq_zero_or_pos d with rfl | hpos
      · rw [if_pos rfl, List.append_nil] at hsu
        replace hsu := hid hsu
        go_wp2_with fail
        go_roundw
        case rel => exact ⟨k + 1, by omega, by go_num, by rw [hsu.out]; exact hM'.out, hK'.out⟩
        case measure => simp [intOf]; omega
      · rw [if_neg (by omega)] at hsu
        have d3 : (0 : Int) < (d : Int) := by omega
        have hwt : (Lit.int .i64 (k : Int)).wf = true := by
          simp [Lit.wf, IntKind.min, IntKind.max, IntKind.bits, IntKind.signed]
          omega
        obtain ⟨w3, hr, hm3, k3'⟩ := hM'.out.upd (P := Try.prog) (wM_ok (inK_up D k) (fun t h => inK_lt h) (by omega)) k3 k71 k hwt (.int .i64 k)
        rw [wM_put hni, ← hsu] at hm3
        replace hsu := hid hsu
        replace hr := hid hr
        have hm3' := hid hm3
        have k3'' := hid k3'
        clear hm3 k3'
        go_wp2_with fail
        rw [hr.out]
        go_wp2_with fail
        go_roundw
        case rel => exact ⟨k + 1, by omega, by go_num, hm3'.out, hK'.out.trans k3''.out⟩
        case measure => simp [intOf]; omega
    · obtain rfl : k = D.length := by omega
      have KW := hid ((K2.out.mono (fun _ h => h.elim)).trans hK)
      have hxk := hid (HX.out.kp KW.out (fun s hs e => by have := HX.out.lt s hs; omega))
      obtain ⟨ov, cv, hvv, hcv, hvm⟩ := hU.hv.form
      have hHl := hU.hl
      rw [hHl] at hvv hcv
      have hB := hK.get B2.out (by omega)
      have L3 := loc3 hB
      have hU' := hid hU
      have hK' := hid hK
      have hM' := hid hM
      clear hU hK hM
      go_wp2_with fail
      have HOwn := hid (own_any (w := wr.drew) (hxk.out.kn ((Kp.refl NoB wr).drew)) HF.out)
      subst hvv
      refine wp_region_G (fun W => W.cell? ⟨p, 1, none⟩ = some (.slice ov R.length cv)) [(0, .held), (1, .held), (2, .held), (3, .held), (4, .held), (5, .at_), (7, .held), (6, .eff), (8, .at_), (9, .eff), (10, .eff), (11, .at_), (12, .at_), (13, .fin)] ?L1 (by kernel_rfl) (by kernel_rfl) ?hL1 (Lp.2.1) ?hG1
      case hL1 => simp only [pickOps, List.map_cons, List.map_nil, List.getD_cons_zero, List.getD_cons_succ]; rfl
      repeat (first | (refine wpG_at (v := ?_) (by rfl) ?_ ?_; rotate_left; (focus (first | (go_simp; with_reducible rfl) | (go_simp; done))); simp only [Act.put, List.setIfInBounds_toArray, List.set_cons_zero, List.set_cons_succ]) | (refine wpG_at_skip (by rfl) ?_; simp only [Act.put, List.setIfInBounds_toArray, List.set_cons_zero, List.set_cons_succ]) | (refine wpG_held_skip (by rfl) ?_; simp only [Act.put, List.setIfInBounds_toArray, List.set_cons_zero, List.set_cons_succ]) | (refine wpG_held (v := ?_) (by rfl) ?_ ?_; rotate_left; (focus (intro w' hSw; (try dsimp only at hSw); go_split_ands; first | (go_simp; with_reducible rfl) | (go_simp; done))); simp only [Act.put, List.setIfInBounds_toArray, List.set_cons_zero, List.set_cons_succ]))
      refine wpG_eff (by rfl) (fun K hK => ?_)
      go_simp
      refine HOwn.out.mono ?_
      rintro e w3 ⟨a', b', c', rfl, hR3, na, nb, nc, k3⟩
      have hU3 := hid ((hU'.out.drew).kn k3)
      have hM3 := hid (hM'.out.kp (((Kp.refl NoB wr).drew).trans k3) (fun h => h))
      have K3 := hid ((KW.out).trans ((((Kp.refl NoB wr).drew).trans k3).mono (fun _ h => h.elim)))
      have Lp3 := loc2 hU3.out.hp
      obtain ⟨o1, d1', rfl, _⟩ := hR3.a.form
      obtain ⟨o2, d2', rfl, _⟩ := hR3.b.form
      obtain ⟨o3, d3', rfl, _⟩ := hR3.c.form
      have hfr : ∀ b, (HV.mk (.slice o1 x.a.length d1') (.slice o2 x.b.length d2') (.slice o3 x.c.length d3') (w.heap.size + 1)).fp b → w.heap.size ≤ b := by
        have hs := KW.out.size
        have hs' : wr.drew.heap.size = wr.heap.size := rfl
        rintro b (hb | hb | hb | rfl)
        · have := na b hb; omega
        · have := nb b hb; omega
        · have := nc b hb; omega
        · exact Nat.le_succ _
      replace hfr := hid hfr
      replace hR3 := hid hR3
      clear na nb nc k3 Lp L3
      refine hK _ _ Lp3.2.1 ?_
      clear hK K
      repeat (first | (refine wpG_at (v := ?_) (by rfl) ?_ ?_; rotate_left; (focus (first | (go_simp; with_reducible rfl) | (go_simp; done))); simp only [Act.put, List.setIfInBounds_toArray, List.set_cons_zero, List.set_cons_succ]) | (refine wpG_at_skip (by rfl) ?_; simp only [Act.put, List.setIfInBounds_toArray, List.set_cons_zero, List.set_cons_succ]) | (refine wpG_held_skip (by rfl) ?_; simp only [Act.put, List.setIfInBounds_toArray, List.set_cons_zero, List.set_cons_succ]) | (refine wpG_held (v := ?_) (by rfl) ?_ ?_; rotate_left; (focus (intro w' hSw; (try dsimp only at hSw); go_split_ands; first | (go_simp; with_reducible rfl) | (go_simp; done))); simp only [Act.put, List.setIfInBounds_toArray, List.set_cons_zero, List.set_cons_succ]))
      refine wpG_eff (by rfl) (fun K hK => ?_)
      go_simp
      have hU4 := hU3.out.alloc (.cells #[.slice o1 x.a.length d1', .slice o2 x.b.length d2', .slice o3 x.c.length d3', .map (some (w.heap.size + 1))] 74)
      have hRl := HO.out.r
      have hKk := HO.out.k
      obtain ⟨v', w5, hr5, q1, q2, q3⟩ := run_grow_off (P := Try.prog) (ty := 66) eD_len (by omega) u66 i74 rfl hU4.hv (Sl.one w3 74 (⟨.slice o1 x.a.length d1', .slice o2 x.b.length d2', .slice o3 x.c.length d3', w.heap.size + 1⟩ : HV) (f := eD)) oneD (by rw [hHl]; simp; omega) (by omega)
      have Lp4 := loc2 hU4.hp
      refine hK _ _ Lp4.2.1 ?_
      clear hK K
      have hvp : (Value.slice ov R.length cv).ownBlock ≠ some p := hU4.hv.ne hU4.hp (by decide)
      have hp5 := grown_get q2 hU4.hp hvp
      have Lp5 := loc2 hp5
      obtain ⟨o5, c5, hv5, _⟩ := q1.form
      subst hv5
      rw [List.length_append, List.length_singleton, hHl] at q1
      replace hU4 := hid hU4
      replace q1 := hid q1
      replace q2 := hid q2
      rw [List.length_append, List.length_singleton, hHl] at q3 hr5
      have q3' := q3
      replace q3' := hid q3'
      replace hr5 := hid hr5
      clear q3 Lp3
      repeat (first | (refine wpG_at (v := ?_) (by rfl) ?_ ?_; rotate_left; (focus (first | (go_simp; with_reducible rfl) | (go_simp; done))); simp only [Act.put, List.setIfInBounds_toArray, List.set_cons_zero, List.set_cons_succ]) | (refine wpG_at_skip (by rfl) ?_; simp only [Act.put, List.setIfInBounds_toArray, List.set_cons_zero, List.set_cons_succ]) | (refine wpG_held_skip (by rfl) ?_; simp only [Act.put, List.setIfInBounds_toArray, List.set_cons_zero, List.set_cons_succ]) | (refine wpG_held (v := ?_) (by rfl) ?_ ?_; rotate_left; (focus (intro w' hSw; (try dsimp only at hSw); go_split_ands; first | (go_simp; with_reducible rfl) | (go_simp; done))); simp only [Act.put, List.setIfInBounds_toArray, List.set_cons_zero, List.set_cons_succ]))
      refine wpG_eff (by rfl) (fun K hK => ?_)
      refine Lib.wp_append_run _ _ _ 66 66 rfl (.slice ov R.length cv) (.slice (some ⟨w3.heap.size, 0, none⟩) 1 1) rfl rfl _ _ hr5.out ?_
      refine hK _ _ Lp5.2.1 ?_
      clear hK K
      repeat (first | (refine wpG_at (v := ?_) (by rfl) ?_ ?_; rotate_left; (focus (first | (go_simp; with_reducible rfl) | (go_simp; done))); simp only [Act.put, List.setIfInBounds_toArray, List.set_cons_zero, List.set_cons_succ]) | (refine wpG_at_skip (by rfl) ?_; simp only [Act.put, List.setIfInBounds_toArray, List.set_cons_zero, List.set_cons_succ]) | (refine wpG_held_skip (by rfl) ?_; simp only [Act.put, List.setIfInBounds_toArray, List.set_cons_zero, List.set_cons_succ]) | (refine wpG_held (v := ?_) (by rfl) ?_ ?_; rotate_left; (focus (intro w' hSw; (try dsimp only at hSw); go_split_ands; first | (go_simp; with_reducible rfl) | (go_simp; done))); simp only [Act.put, List.setIfInBounds_toArray, List.set_cons_zero, List.set_cons_succ]))
      refine wpG_fin (by rfl) (fun K hK => ?_)
      go_simp
      refine hK _ _ ?_
      clear hK K
      repeat (first | (refine wpG_at (v := ?_) (by rfl) ?_ ?_; rotate_left; (focus (first | (go_simp; with_reducible rfl) | (go_simp; done))); simp only [Act.put, List.setIfInBounds_toArray, List.set_cons_zero, List.set_cons_succ]) | (refine wpG_at_skip (by rfl) ?_; simp only [Act.put, List.setIfInBounds_toArray, List.set_cons_zero, List.set_cons_succ]) | (refine wpG_held_skip (by rfl) ?_; simp only [Act.put, List.setIfInBounds_toArray, List.set_cons_zero, List.set_cons_succ]) | (refine wpG_held (v := ?_) (by rfl) ?_ ?_; rotate_left; (focus (intro w' hSw; (try dsimp only at hSw); go_split_ands; first | (go_simp; with_reducible rfl) | (go_simp; done))); simp only [Act.put, List.setIfInBounds_toArray, List.set_cons_zero, List.set_cons_succ]))
      refine wpG_nil (NoPanic.normal ?_)
      go_wp2_with fail
      go_ret
      have hs3 := hid (show w.heap.size ≤ w3.heap.size from K3.out.size)
      have KA : Kp (fun b => b = p ∨ (Value.slice ov R.length cv).ownBlock = some b) (w3.alloc (.cells #[.slice o1 x.a.length d1', .slice o2 x.b.length d2', .slice o3 x.c.length d3', .map (some (w.heap.size + 1))] 74)) (w5.setCell ⟨p, 1, none⟩ (.slice o5 (R.length + 1) c5)) :=
        (kp_grown q2.out (fun b hb => .inr hb)).setCell (p := ⟨p, 1, none⟩) _ (fun _ => .inl rfl)
      have hv'p : (Value.slice o5 (R.length + 1) c5).ownBlock ≠ some p := by
        rcases q3'.out with e | ⟨b', e, hb'⟩
        · exact fun h => hvp (e ▸ h)
        · intro h
          rw [h] at e; injection e with e; subst e
          have h6 : w3.heap.size + 1 ≤ p := by simpa using hb'
          have := hs3.out
          omega
      refine ⟨rfl, .slice o5 (R.length + 1) c5, (⟨.slice o1 x.a.length d1', .slice o2 x.b.length d2', .slice o3 x.c.length d3', w.heap.size + 1⟩ : HV), ?_, hfr.out, ?_, ?_⟩
      · refine hU4.out.push ⟨?_, ?_, ?_, hM3.out.alloc _⟩ ?_ (blk_setCell hp5 1 _) (q1.out.setCell _ _ hv'p) KA
        · exact hR3.out.a.alloc _
        · exact hR3.out.b.alloc _
        · exact hR3.out.c.alloc _
        · intro hm
          obtain ⟨h2, hm2, e⟩ := List.mem_map.1 hm
          have e' : h2.m = w.heap.size + 1 := e
          have := hfp.out h2.m (.inr (.inr (.inr ⟨h2, hm2, .inr (.inr (.inr rfl))⟩)))
          omega
      · rcases q3' with e | ⟨b', e, hb'⟩
        · exact .inl e
        · refine .inr ⟨b', e, ?_⟩
          have h6 : w3.heap.size + 1 ≤ b' := by simpa using hb'
          have := hs3.out
          omega
      · have K5 := ((K3.out.alloc (.cells #[.slice o1 x.a.length d1', .slice o2 x.b.length d2', .slice o3 x.c.length d3', .map (some (w.heap.size + 1))] 74)).mono (G := fun b => (b = p ∨ (Value.slice ov R.length cv).ownBlock = some b) ∨ b = w.heap.size + 1) (fun b hb => .inr hb)).trans (KA.mono (fun b hb => .inl hb))
        exact (Kp.refl _ w).trans' K5 (fun b hb e => by
          rcases e with e | e
          · exact e
          · omega)
end
end Go.Proofs.Ytplbkjgkocnehaa
