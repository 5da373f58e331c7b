/- Walks through the document's RCU: what it is in memory; New, Enter, Leave. -/
import Derived.Test.YtplbkjgkocnehaaU12
import Derived.Test.YtplbkjgkocnehaaLibD
namespace Go.Proofs.Ytplbkjgkocnehaa
set_option linter.unusedSimpArgs false
set_option linter.unusedVariables false
open Go.RowKit
attribute [local go_sem ↓] Go.wp_at_zero Go.wp_at_succ
structure QV where
  a : Value
  b : Value
  c : Value
  o : Value
def eQ (h : QV) : List Value := [h.a, h.b, h.c, h.o]
theorem eQ_len (h : QV) : (eQ h).length = 4 := rfl
structure QOk (w : World) (h : QV) (x : Ret) (out : List Int) : Prop where
  x : RowR w h.a h.b h.c x
  o : RowAt w 3 eI 1 h.o out
def QV.fp (h : QV) (b : Nat) : Prop := h.a.ownBlock = some b ∨ h.b.ownBlock = some b ∨ h.c.ownBlock = some b ∨ h.o.ownBlock = some b
/-- the document's: the struct at q, the depths, how often each has gone out, the row -/
structure QAt (w : World) (q : Nat) (dv ov rv : Value) (D Z : List Nat) (H : List QV) (S : List (Ret × List Int)) : Prop where
  hq : w.heap[q]? = some (.cells #[dv, ov, rv] 54 (0, 0))
  hd : RowAt w 3 eN 1 dv D
  ho : RowAt w 3 eN 1 ov Z
  hr : RowAt w 81 eQ 4 rv H
  hl : H.length = S.length
  hh : ∀ (k : Nat) (h : QV) (x : Ret) (out : List Int), H[k]? = some h → S[k]? = some (x, out) → QOk w h x out
  nd : ∀ b, dv.ownBlock = some b → ¬ (ov.ownBlock = some b ∨ ∃ h ∈ H, h.o.ownBlock = some b)
  no : ∀ b, ov.ownBlock = some b → ¬ ∃ h ∈ H, h.o.ownBlock = some b
/-- its blocks; those that it writes -/
def qfp (q : Nat) (dv ov rv : Value) (H : List QV) (b : Nat) : Prop := b = q ∨ dv.ownBlock = some b ∨ ov.ownBlock = some b ∨ rv.ownBlock = some b ∨ ∃ h ∈ H, h.fp b
def qw (q : Nat) (dv ov : Value) (b : Nat) : Prop := b = q ∨ dv.ownBlock = some b ∨ ov.ownBlock = some b
section
variable {w w' : World} {q : Nat} {dv ov rv : Value} {D Z : List Nat} {H : List QV} {S : List (Ret × List Int)} {K : Nat}
theorem QOk.kp {F : Nat → Prop} {h : QV} {x : Ret} {out : List Int} (o : QOk w h x out) (k : Kp F w w') (hF : ∀ b, h.fp b → ¬ F b) : QOk w' h x out :=
  ⟨o.x.kp k (fun b hb => hF b (.inl hb)) (fun b hb => hF b (.inr (.inl hb))) (fun b hb => hF b (.inr (.inr (.inl hb)))), o.o.kp k (fun b hb => hF b (.inr (.inr (.inr hb))))⟩
theorem QOk.lt {h : QV} {x : Ret} {out : List Int} (o : QOk w h x out) : ∀ b, h.fp b → b < w.heap.size := by
  rintro b (h1 | h1 | h1 | h1)
  · exact o.x.a.lt b h1
  · exact o.x.b.lt b h1
  · exact o.x.c.lt b h1
  · exact o.o.lt b h1
theorem QAt.at_ (h : QAt w q dv ov rv D Z H S) {k : Nat} {h' : QV} (hk : H[k]? = some h') : ∃ x out, S[k]? = some (x, out) ∧ QOk w h' x out := by
  have hkl := (List.getElem?_eq_some_iff.1 hk).1
  obtain ⟨⟨x, ws⟩, hx⟩ : ∃ y, S[k]? = some y := ⟨_, List.getElem?_eq_getElem (by rw [← h.hl]; exact hkl)⟩
  exact ⟨x, ws, hx, h.hh k h' x ws hk hx⟩
theorem QAt.lt (h : QAt w q dv ov rv D Z H S) : ∀ b, qfp q dv ov rv H b → b < w.heap.size := by
  rintro b (rfl | h1 | h1 | h1 | ⟨h', hm, h1⟩)
  · exact blk_lt h.hq
  · exact h.hd.lt b h1
  · exact h.ho.lt b h1
  · exact h.hr.lt b h1
  · obtain ⟨k, hk⟩ := List.getElem?_of_mem hm
    obtain ⟨x, out, _, o⟩ := h.at_ hk
    exact o.lt b h1
theorem qw_fp {b : Nat} (h : qw q dv ov b) : qfp q dv ov rv H b := by
  rcases h with h | h | h
  · exact .inl h
  · exact .inr (.inl h)
  · exact .inr (.inr (.inl h))
theorem QAt.kp {F : Nat → Prop} (h : QAt w q dv ov rv D Z H S) (k : Kp F w w') (hF : ∀ b, qfp q dv ov rv H b → ¬ F b) : QAt w' q dv ov rv D Z H S :=
  ⟨k.get h.hq (hF q (.inl rfl)), h.hd.kp k (fun b hb => hF b (.inr (.inl hb))), h.ho.kp k (fun b hb => hF b (.inr (.inr (.inl hb)))), h.hr.kp k (fun b hb => hF b (.inr (.inr (.inr (.inl hb))))), h.hl,
   fun i h' x ws h1 h2 => (h.hh i h' x ws h1 h2).kp k (fun b hb => hF b (.inr (.inr (.inr (.inr ⟨h', List.mem_of_getElem? h1, hb⟩))))), h.nd, h.no⟩
theorem QAt.kn (h : QAt w q dv ov rv D Z H S) (k : Kp NoB w w') : QAt w' q dv ov rv D Z H S := h.kp k (fun _ _ h => h)
theorem QAt.alloc (h : QAt w q dv ov rv D Z H S) (o : Obj) : QAt (w.alloc o) q dv ov rv D Z H S := h.kn ((Kp.refl _ w).alloc o)
theorem QAt.drew (h : QAt w q dv ov rv D Z H S) : QAt w.drew q dv ov rv D Z H S := h.kn (Kp.refl _ w).drew
theorem row_slot {u : Value} {X : List Nat} (h : RowAt w 3 eN 1 u X) {t d : Nat} (ht : X[t]? = some d) : ∃ b c, u = .slice (some ⟨b, 0, none⟩) X.length c ∧ X.length ≤ c ∧ c ≤ maxLen ∧ w.cell? ⟨b, t, none⟩ = some (.int .i64 d) ∧ w.frozen? ⟨b, t, none⟩ = false ∧ b < w.heap.size ∧ ∃ A, w.heap[b]? = some (.cells A 3 (0, 0)) := by
  obtain ⟨b, c, A, hv, hb, _, h1, h2, _⟩ := h.pos eN_len (by have := (List.getElem?_eq_some_iff.1 ht).1; omega)
  subst hv
  obtain ⟨r1, r2, r3⟩ := row_n h ht
  exact ⟨b, c, rfl, h1, h2, r1, r2, r3, A, hb⟩
theorem QOk.ne {h : QV} {x : Ret} {out : List Int} (o : QOk w h x out) {b : Nat} {A : Array Value} (hb : w.heap[b]? = some (.cells A 3 (0, 0))) (hne : h.o.ownBlock ≠ some b) : ∀ c, h.fp c → ¬ c = b := by
  rintro c (h1 | h1 | h1 | h1) rfl
  · exact o.x.a.ne hb (by decide) h1
  · exact o.x.b.ne hb (by decide) h1
  · exact o.x.c.ne hb (by decide) h1
  · exact hne h1
theorem QAt.setD (h : QAt w q dv ov rv D Z H S) {t b c : Nat} (hu : dv = .slice (some ⟨b, 0, none⟩) D.length c) (ht : t < D.length) (d : Nat) : QAt (w.setCell ⟨b, t, none⟩ (.int .i64 d)) q dv ov rv (D.set t d) Z H S := by
  obtain ⟨b', c', e, _, _, _, _, _, A, hb⟩ := row_slot h.hd (List.getElem?_eq_getElem ht)
  rw [hu] at e
  injection e with e1 _ _
  injection e1 with e1
  injection e1 with e1
  subst e1
  have hob : dv.ownBlock = some b := by rw [hu]; rfl
  have hn := h.nd b hob
  have KS : Kp (fun x => x = b) w (w.setCell ⟨b, t, none⟩ (.int .i64 d)) := (Kp.refl (fun x => x = b) w).setCell (p := ⟨b, t, none⟩) _ (fun _ => rfl)
  refine ⟨blk_far h.hq _ (ne_of_types h.hq hb (by decide)), ?_, h.ho.setCell _ _ (fun e => hn (.inl e)), h.hr.setCell _ _ (h.hr.ne hb (by decide)), h.hl, fun i h' x ws h1 h2 => ?_, h.nd, h.no⟩
  · have hA := h.hd
    rw [hu] at hA ⊢
    exact hA.put eN_len ht rfl
  · exact (h.hh i h' x ws h1 h2).kp KS ((h.hh i h' x ws h1 h2).ne hb (fun e => hn (.inr ⟨h', List.mem_of_getElem? h1, e⟩)))
theorem QAt.setZ (h : QAt w q dv ov rv D Z H S) {t b c : Nat} (hu : ov = .slice (some ⟨b, 0, none⟩) Z.length c) (ht : t < Z.length) (d : Nat) : QAt (w.setCell ⟨b, t, none⟩ (.int .i64 d)) q dv ov rv D (Z.set t d) H S := by
  obtain ⟨b', c', e, _, _, _, _, _, A, hb⟩ := row_slot h.ho (List.getElem?_eq_getElem ht)
  rw [hu] at e
  injection e with e1 _ _
  injection e1 with e1
  injection e1 with e1
  subst e1
  have hob : ov.ownBlock = some b := by rw [hu]; rfl
  have hn := h.no b hob
  have KS : Kp (fun x => x = b) w (w.setCell ⟨b, t, none⟩ (.int .i64 d)) := (Kp.refl (fun x => x = b) w).setCell (p := ⟨b, t, none⟩) _ (fun _ => rfl)
  refine ⟨blk_far h.hq _ (ne_of_types h.hq hb (by decide)), h.hd.setCell _ _ (fun e => h.nd b e (.inl hob)), ?_, h.hr.setCell _ _ (h.hr.ne hb (by decide)), h.hl, fun i h' x ws h1 h2 => ?_, h.nd, h.no⟩
  · have hA := h.ho
    rw [hu] at hA ⊢
    exact hA.put eN_len ht rfl
  · exact (h.hh i h' x ws h1 h2).kp KS ((h.hh i h' x ws h1 h2).ne hb (fun e => hn ⟨h', List.mem_of_getElem? h1, e⟩))
theorem qnew_at {W : World} {n B x y q : Nat} (hx : W.heap[x]? = some (.cells (rows eN (List.replicate n 0)) 3 (0, 0))) (hy : W.heap[y]? = some (.cells (rows eN (List.replicate n 0)) 3 (0, 0))) (hxy : x ≠ y)
    (hq : W.heap[q]? = some (.cells #[.slice (some ⟨x, 0, none⟩) n n, .slice (some ⟨y, 0, none⟩) n n, .slice none 0 0] 54 (0, 0))) (hn : n ≤ maxLen) (h1 : B ≤ x) (h2 : B ≤ y) (h3 : B ≤ q) :
    QAt W q (.slice (some ⟨x, 0, none⟩) n n) (.slice (some ⟨y, 0, none⟩) n n) (.slice none 0 0) (List.replicate n 0) (List.replicate n 0) [] [] ∧ ∀ b, qfp q (.slice (some ⟨x, 0, none⟩) n n) (.slice (some ⟨y, 0, none⟩) n n) (.slice none 0 0) [] b → B ≤ b := by
  have row : ∀ z, W.heap[z]? = some (.cells (rows eN (List.replicate n 0)) 3 (0, 0)) → RowAt W 3 eN 1 (.slice (some ⟨z, 0, none⟩) n n) (List.replicate n 0) := fun z hz => by
    have := RowAt.own eN_len (l := List.replicate n 0) hz (Pre.rows eN_len _) (by simp) hn (by rw [rows_size eN_len, List.length_replicate])
    rw [List.length_replicate] at this
    exact this
  refine ⟨⟨hq, row x hx, row y hy, RowAt.nil _ _ _ _, rfl, by simp, ?_, ?_⟩, ?_⟩
  · rintro b hb (h | ⟨_, hm, _⟩)
    · injection hb with hb; injection h with h; exact hxy (by subst hb; exact h.symm)
    · cases hm
  · rintro b hb ⟨_, hm, _⟩; cases hm
  · rintro b (rfl | hb | hb | hb | ⟨_, hm, _⟩)
    · exact h3
    · injection hb with hb; subst hb; exact h1
    · injection hb with hb; subst hb; exact h2
    · cases hb
    · cases hm
set_option maxRecDepth 100000 in
set_option maxHeartbeats 4000000 in
theorem qnew_any (n : Nat) (n1 : 1 ≤ n) (n2 : n ≤ 8) (w : World) : Calls Try.prog 14 #[.int .i64 n] w fun e w' => ∃ q dv ov, e = .returned (.pointer (some ⟨q, 0, none⟩)) ∧
    QAt w' q dv ov (.slice none 0 0) (List.replicate n 0) (List.replicate n 0) [] [] ∧ (∀ b, qfp q dv ov (.slice none 0 0) [] b → w.heap.size ≤ b) ∧ Kp NoB w w' := by
  have b1 : (1 : Int) ≤ (n : Int) := by omega
  have b2 : (n : Int) ≤ 8 := by omega
  have hmk := fun w => run_make_rows (P := Try.prog) eN_len (by omega) 0 43 3 _ 8 u43 i3 rfl n (by omega) (by omega) w
  have key := hid (fun (W : World) (x y q : Nat) (hx : W.heap[x]? = some (.cells (rows eN (List.replicate n 0)) 3 (0, 0))) (hy : W.heap[y]? = some (.cells (rows eN (List.replicate n 0)) 3 (0, 0))) (hxy : x ≠ y)
      (hq : W.heap[q]? = some (.cells #[.slice (some ⟨x, 0, none⟩) n n, .slice (some ⟨y, 0, none⟩) n n, .slice none 0 0] 54 (0, 0))) (hl : w.heap.size ≤ x ∧ w.heap.size ≤ y ∧ w.heap.size ≤ q) => qnew_at hx hy hxy hq (by simp [maxLen]; omega) hl.1 hl.2.1 hl.2.2)
  go_enter Try.func14, Try.ntmps14
  go_wp2_with fail
  refine wp_region_two 1 3 (fun _ => True) [(0, .at_), (2, .held), (1, .eff), (3, .fin), (4, .at_), (5, .fin), (6, .at_)] [(0, .held), (2, .at_), (3, .eff), (1, .fin), (4, .at_), (5, .fin), (6, .at_)] ?La1 ?Lb1 (by kernel_rfl) (by kernel_rfl) ?hLa1 ?hLb1 (trivial) ?hGa1 ?hGb1
  case hLa1 => simp only [pickOps, List.map_cons, List.map_nil, List.getD_cons_zero, List.getD_cons_succ]; rfl
  case hLb1 => simp only [pickOps, List.map_cons, List.map_nil, List.getD_cons_zero, List.getD_cons_succ]; rfl
  · repeat (first | (refine wpG_at (v := ?_) (by rfl) ?_ ?_; rotate_left; (focus (first | (go_simp; with_reducible rfl) | (go_simp; done))); simp only [Act.put, List.setIfInBounds_toArray, List.set_cons_zero, List.set_cons_succ]) | (refine wpG_at_skip (by rfl) ?_; simp only [Act.put, List.setIfInBounds_toArray, List.set_cons_zero, List.set_cons_succ]) | (refine wpG_held_skip (by rfl) ?_; simp only [Act.put, List.setIfInBounds_toArray, List.set_cons_zero, List.set_cons_succ]) | (refine wpG_held (v := ?_) (by rfl) ?_ ?_; rotate_left; (focus (intro w' hSw; (try dsimp only at hSw); go_split_ands; first | (go_simp; with_reducible rfl) | (go_simp; done))); simp only [Act.put, List.setIfInBounds_toArray, List.set_cons_zero, List.set_cons_succ]))
    refine wpG_eff (by rfl) (fun K hK => ?_)
    go_simp
    refine hK _ _ trivial ?_
    clear hK K
    repeat (first | (refine wpG_at (v := ?_) (by rfl) ?_ ?_; rotate_left; (focus (first | (go_simp; with_reducible rfl) | (go_simp; done))); simp only [Act.put, List.setIfInBounds_toArray, List.set_cons_zero, List.set_cons_succ]) | (refine wpG_at_skip (by rfl) ?_; simp only [Act.put, List.setIfInBounds_toArray, List.set_cons_zero, List.set_cons_succ]) | (refine wpG_held_skip (by rfl) ?_; simp only [Act.put, List.setIfInBounds_toArray, List.set_cons_zero, List.set_cons_succ]) | (refine wpG_held (v := ?_) (by rfl) ?_ ?_; rotate_left; (focus (intro w' hSw; (try dsimp only at hSw); go_split_ands; first | (go_simp; with_reducible rfl) | (go_simp; done))); simp only [Act.put, List.setIfInBounds_toArray, List.set_cons_zero, List.set_cons_succ]))
    refine wpG_fin (by rfl) (fun K hK => ?_)
    go_simp
    refine hK _ _ ?_
    clear hK K
    repeat (first | (refine wpG_at (v := ?_) (by rfl) ?_ ?_; rotate_left; (focus (first | (go_simp; with_reducible rfl) | (go_simp; done))); simp only [Act.put, List.setIfInBounds_toArray, List.set_cons_zero, List.set_cons_succ]) | (refine wpG_at_skip (by rfl) ?_; simp only [Act.put, List.setIfInBounds_toArray, List.set_cons_zero, List.set_cons_succ]) | (refine wpG_held_skip (by rfl) ?_; simp only [Act.put, List.setIfInBounds_toArray, List.set_cons_zero, List.set_cons_succ]) | (refine wpG_held (v := ?_) (by rfl) ?_ ?_; rotate_left; (focus (intro w' hSw; (try dsimp only at hSw); go_split_ands; first | (go_simp; with_reducible rfl) | (go_simp; done))); simp only [Act.put, List.setIfInBounds_toArray, List.set_cons_zero, List.set_cons_succ]))
    refine wpG_fin (by rfl) (fun K hK => ?_)
    go_simp
    refine hK _ _ ?_
    clear hK K
    repeat (first | (refine wpG_at (v := ?_) (by rfl) ?_ ?_; rotate_left; (focus (first | (go_simp; with_reducible rfl) | (go_simp; done))); simp only [Act.put, List.setIfInBounds_toArray, List.set_cons_zero, List.set_cons_succ]) | (refine wpG_at_skip (by rfl) ?_; simp only [Act.put, List.setIfInBounds_toArray, List.set_cons_zero, List.set_cons_succ]) | (refine wpG_held_skip (by rfl) ?_; simp only [Act.put, List.setIfInBounds_toArray, List.set_cons_zero, List.set_cons_succ]) | (refine wpG_held (v := ?_) (by rfl) ?_ ?_; rotate_left; (focus (intro w' hSw; (try dsimp only at hSw); go_split_ands; first | (go_simp; with_reducible rfl) | (go_simp; done))); simp only [Act.put, List.setIfInBounds_toArray, List.set_cons_zero, List.set_cons_succ]))
    refine wpG_nil (NoPanic.normal ?_)
    go_wp2_with fail
    go_ret
    have h1 : (((w.alloc (.cells (rows eN (List.replicate n 0)) 3)).alloc (.cells (rows eN (List.replicate n 0)) 3)).alloc (.cells #[.slice (some ⟨w.heap.size, 0, none⟩) n n, .slice (some ⟨w.heap.size + 1, 0, none⟩) n n, .slice none 0 0] 54)).drew.heap[w.heap.size]? = some (.cells (rows eN (List.replicate n 0)) 3 (0, 0)) := blk_alloc (blk_alloc (blk_new w _))
    have h2 : (((w.alloc (.cells (rows eN (List.replicate n 0)) 3)).alloc (.cells (rows eN (List.replicate n 0)) 3)).alloc (.cells #[.slice (some ⟨w.heap.size, 0, none⟩) n n, .slice (some ⟨w.heap.size + 1, 0, none⟩) n n, .slice none 0 0] 54)).drew.heap[w.heap.size + 1]? = some (.cells (rows eN (List.replicate n 0)) 3 (0, 0)) := blk_alloc (blk_new' _ _ (by simp))
    have hk := key.out _ (w.heap.size) (w.heap.size + 1) (w.heap.size + 1 + 1) h1 h2 (by omega) (blk_new' _ _ (by simp)) ⟨by omega, by omega, by omega⟩
    exact ⟨_, _, _, rfl, hk.1, hk.2, ((((Kp.refl _ w).alloc _).alloc _).alloc _).drew⟩
  · repeat (first | (refine wpG_at (v := ?_) (by rfl) ?_ ?_; rotate_left; (focus (first | (go_simp; with_reducible rfl) | (go_simp; done))); simp only [Act.put, List.setIfInBounds_toArray, List.set_cons_zero, List.set_cons_succ]) | (refine wpG_at_skip (by rfl) ?_; simp only [Act.put, List.setIfInBounds_toArray, List.set_cons_zero, List.set_cons_succ]) | (refine wpG_held_skip (by rfl) ?_; simp only [Act.put, List.setIfInBounds_toArray, List.set_cons_zero, List.set_cons_succ]) | (refine wpG_held (v := ?_) (by rfl) ?_ ?_; rotate_left; (focus (intro w' hSw; (try dsimp only at hSw); go_split_ands; first | (go_simp; with_reducible rfl) | (go_simp; done))); simp only [Act.put, List.setIfInBounds_toArray, List.set_cons_zero, List.set_cons_succ]))
    refine wpG_eff (by rfl) (fun K hK => ?_)
    go_simp
    refine hK _ _ trivial ?_
    clear hK K
    repeat (first | (refine wpG_at (v := ?_) (by rfl) ?_ ?_; rotate_left; (focus (first | (go_simp; with_reducible rfl) | (go_simp; done))); simp only [Act.put, List.setIfInBounds_toArray, List.set_cons_zero, List.set_cons_succ]) | (refine wpG_at_skip (by rfl) ?_; simp only [Act.put, List.setIfInBounds_toArray, List.set_cons_zero, List.set_cons_succ]) | (refine wpG_held_skip (by rfl) ?_; simp only [Act.put, List.setIfInBounds_toArray, List.set_cons_zero, List.set_cons_succ]) | (refine wpG_held (v := ?_) (by rfl) ?_ ?_; rotate_left; (focus (intro w' hSw; (try dsimp only at hSw); go_split_ands; first | (go_simp; with_reducible rfl) | (go_simp; done))); simp only [Act.put, List.setIfInBounds_toArray, List.set_cons_zero, List.set_cons_succ]))
    refine wpG_fin (by rfl) (fun K hK => ?_)
    go_simp
    refine hK _ _ ?_
    clear hK K
    repeat (first | (refine wpG_at (v := ?_) (by rfl) ?_ ?_; rotate_left; (focus (first | (go_simp; with_reducible rfl) | (go_simp; done))); simp only [Act.put, List.setIfInBounds_toArray, List.set_cons_zero, List.set_cons_succ]) | (refine wpG_at_skip (by rfl) ?_; simp only [Act.put, List.setIfInBounds_toArray, List.set_cons_zero, List.set_cons_succ]) | (refine wpG_held_skip (by rfl) ?_; simp only [Act.put, List.setIfInBounds_toArray, List.set_cons_zero, List.set_cons_succ]) | (refine wpG_held (v := ?_) (by rfl) ?_ ?_; rotate_left; (focus (intro w' hSw; (try dsimp only at hSw); go_split_ands; first | (go_simp; with_reducible rfl) | (go_simp; done))); simp only [Act.put, List.setIfInBounds_toArray, List.set_cons_zero, List.set_cons_succ]))
    refine wpG_fin (by rfl) (fun K hK => ?_)
    go_simp
    refine hK _ _ ?_
    clear hK K
    repeat (first | (refine wpG_at (v := ?_) (by rfl) ?_ ?_; rotate_left; (focus (first | (go_simp; with_reducible rfl) | (go_simp; done))); simp only [Act.put, List.setIfInBounds_toArray, List.set_cons_zero, List.set_cons_succ]) | (refine wpG_at_skip (by rfl) ?_; simp only [Act.put, List.setIfInBounds_toArray, List.set_cons_zero, List.set_cons_succ]) | (refine wpG_held_skip (by rfl) ?_; simp only [Act.put, List.setIfInBounds_toArray, List.set_cons_zero, List.set_cons_succ]) | (refine wpG_held (v := ?_) (by rfl) ?_ ?_; rotate_left; (focus (intro w' hSw; (try dsimp only at hSw); go_split_ands; first | (go_simp; with_reducible rfl) | (go_simp; done))); simp only [Act.put, List.setIfInBounds_toArray, List.set_cons_zero, List.set_cons_succ]))
    refine wpG_nil (NoPanic.normal ?_)
    go_wp2_with fail
    go_ret
    have h1 : (((w.alloc (.cells (rows eN (List.replicate n 0)) 3)).alloc (.cells (rows eN (List.replicate n 0)) 3)).alloc (.cells #[.slice (some ⟨w.heap.size + 1, 0, none⟩) n n, .slice (some ⟨w.heap.size, 0, none⟩) n n, .slice none 0 0] 54)).drew.heap[w.heap.size]? = some (.cells (rows eN (List.replicate n 0)) 3 (0, 0)) := blk_alloc (blk_alloc (blk_new w _))
    have h2 : (((w.alloc (.cells (rows eN (List.replicate n 0)) 3)).alloc (.cells (rows eN (List.replicate n 0)) 3)).alloc (.cells #[.slice (some ⟨w.heap.size + 1, 0, none⟩) n n, .slice (some ⟨w.heap.size, 0, none⟩) n n, .slice none 0 0] 54)).drew.heap[w.heap.size + 1]? = some (.cells (rows eN (List.replicate n 0)) 3 (0, 0)) := blk_alloc (blk_new' _ _ (by simp))
    have hk := key.out _ (w.heap.size + 1) (w.heap.size) (w.heap.size + 1 + 1) h2 h1 (by omega) (blk_new' _ _ (by simp)) ⟨by omega, by omega, by omega⟩
    exact ⟨_, _, _, rfl, hk.1, hk.2, ((((Kp.refl _ w).alloc _).alloc _).alloc _).drew⟩
theorem qenter_out (h : QAt w q dv ov rv D Z H S) {t : Int} (ht : ¬ inT D t) : Calls Try.prog 32 #[.pointer (some ⟨q, 0, none⟩), .int .i64 t] w fun e w' => e = .returned (.int .i64 2) ∧ w = w' := by
  have Lq := loc3 h.hq
  obtain ⟨od, cd, rfl, hc, _⟩ := h.hd.form
  clear h
  by_cases h0 : t < 0
  · clear ht
    go_enter Try.func32, Try.ntmps32
    go_wp2_with fail
    go_ret
    exact ⟨rfl, rfl⟩
  · have h1 : (D.length : Int) ≤ t := by unfold inT at ht; omega
    have h2 : 0 ≤ t := by omega
    clear ht
    go_enter Try.func32, Try.ntmps32
    go_wp2_with fail
    go_ret
    exact ⟨rfl, rfl⟩
theorem qenter_in (h : QAt w q dv ov rv D Z H S) {t d : Nat} (ht : D[t]? = some d) (hd : d ≤ 1000) : Calls Try.prog 32 #[.pointer (some ⟨q, 0, none⟩), .int .i64 t] w fun e w' => e = .returned (.int .i64 0) ∧ QAt w' q dv ov rv (D.set t (d + 1)) Z H S ∧ Kp (qw q dv ov) w w' := by
  have htl := (List.getElem?_eq_some_iff.1 ht).1
  have Lq := loc3 h.hq
  obtain ⟨b, c, hu, hc, hm, L1, L2, L3, _⟩ := row_slot h.hd ht
  have HS := hid (h.setD hu htl (d + 1))
  subst hu
  have b1 : (0 : Int) ≤ (t : Int) := Int.natCast_nonneg _
  have b2 : (t : Int) < (D.length : Int) := by omega
  clear h ht
  go_enter Try.func32, Try.ntmps32
  go_wp2_with fail
  go_ret
  refine ⟨rfl, by have := HS.out; rw [Int.natCast_add] at this; exact this, (Kp.refl _ w).setCell _ (fun _ => .inr (.inl rfl))⟩
theorem qleave_out (h : QAt w q dv ov rv D Z H S) {t : Int} (ht : ¬ inT D t) : Calls Try.prog 33 #[.pointer (some ⟨q, 0, none⟩), .int .i64 t] w fun e w' => e = .returned (.int .i64 2) ∧ w = w' := by
  have Lq := loc3 h.hq
  obtain ⟨od, cd, rfl, hc, _⟩ := h.hd.form
  clear h
  by_cases h0 : t < 0
  · clear ht
    go_enter Try.func33, Try.ntmps33
    go_wp2_with fail
    go_ret
    exact ⟨rfl, rfl⟩
  · have h1 : (D.length : Int) ≤ t := by unfold inT at ht; omega
    have h2 : 0 ≤ t := by omega
    clear ht
    go_enter Try.func33, Try.ntmps33
    go_wp2_with fail
    go_ret
    exact ⟨rfl, rfl⟩
theorem qleave_none (h : QAt w q dv ov rv D Z H S) {t : Nat} (ht : D[t]? = some 0) : Calls Try.prog 33 #[.pointer (some ⟨q, 0, none⟩), .int .i64 t] w fun e w' => e = .returned (.int .i64 18) ∧ w = w' := by
  have htl := (List.getElem?_eq_some_iff.1 ht).1
  have Lq := loc3 h.hq
  obtain ⟨b, c, hu, hc, hm, L1, L2, L3, _⟩ := row_slot h.hd ht
  subst hu
  have b1 : (0 : Int) ≤ (t : Int) := Int.natCast_nonneg _
  have b2 : (t : Int) < (D.length : Int) := by omega
  clear h ht
  go_enter Try.func33, Try.ntmps33
  go_wp2_with fail
  go_ret
  exact ⟨rfl, rfl⟩
set_option maxRecDepth 100000 in
theorem qleave_one (h : QAt w q dv ov rv D Z H S) {t d : Nat} (ht : D[t]? = some (d + 2)) (hd : d + 2 ≤ 1000) : Calls Try.prog 33 #[.pointer (some ⟨q, 0, none⟩), .int .i64 t] w fun e w' => e = .returned (.int .i64 0) ∧ QAt w' q dv ov rv (D.set t (d + 1)) Z H S ∧ Kp (qw q dv ov) w w' := by
  have htl := (List.getElem?_eq_some_iff.1 ht).1
  have Lq := loc3 h.hq
  obtain ⟨b, c, hu, hc, hm, L1, L2, L3, A, hb⟩ := row_slot h.hd ht
  have HS := hid (h.setD hu htl (d + 1))
  have hqb := ne_of_types h.hq hb (by decide)
  subst hu
  have b1 : (0 : Int) ≤ (t : Int) := Int.natCast_nonneg _
  have b2 : (t : Int) < (D.length : Int) := by omega
  have e1 : (((d + 2 : Nat) : Int) == 0) = false := by simp; omega
  have e2 : ((d + 2 : Nat) : Int) - 1 = ((d + 1 : Nat) : Int) := by omega
  have e3 : (((d + 1 : Nat) : Int) == 0) = false := by simp; omega
  generalize hd1 : d + 1 = d1 at *
  generalize hd2 : d + 2 = d2 at *
  have KS := hid ((Kp.refl (qw q (.slice (some ⟨b, 0, none⟩) D.length c) ov) w).setCell (p := ⟨b, t, none⟩) (.int .i64 d1) (fun _ => .inr (.inl rfl)))
  clear h ht hb
  go_enter Try.func33, Try.ntmps33
  go_wp2_with fail
  go_ret
  exact ⟨rfl, HS.out, KS.out⟩
set_option maxRecDepth 100000 in
set_option maxHeartbeats 2000000 in
theorem qleave_last (h : QAt w q dv ov rv D Z H S) {t z : Nat} (ht : D[t]? = some 1) (hz : Z[t]? = some z) (hzk : z ≤ 1000) : Calls Try.prog 33 #[.pointer (some ⟨q, 0, none⟩), .int .i64 t] w fun e w' => e = .returned (.int .i64 0) ∧ QAt w' q dv ov rv (D.set t 0) (Z.set t (z + 1)) H S ∧ Kp (qw q dv ov) w w' := by
  have htl := (List.getElem?_eq_some_iff.1 ht).1
  have hzl := (List.getElem?_eq_some_iff.1 hz).1
  have Lq := loc3 h.hq
  obtain ⟨b, c, hu, hc, hm, L1, L2, L3, A, hb⟩ := row_slot h.hd ht
  obtain ⟨b', c', hu', hc', hm', L1', L2', L3', A', hb'⟩ := row_slot h.ho hz
  have hqb := ne_of_types h.hq hb (by decide)
  have hqb' := ne_of_types h.hq hb' (by decide)
  have hbb : b ≠ b' := by
    rintro rfl
    exact h.nd b (by rw [hu]; rfl) (.inl (by rw [hu']; rfl))
  have HS := hid ((h.setD hu htl 0).setZ hu' hzl (z + 1))
  subst hu; subst hu'
  have b1 : (0 : Int) ≤ (t : Int) := Int.natCast_nonneg _
  have b2 : (t : Int) < (D.length : Int) := by omega
  have b3 : (t : Int) < (Z.length : Int) := by omega
  have KS := hid (((Kp.refl (qw q (.slice (some ⟨b, 0, none⟩) D.length c) (.slice (some ⟨b', 0, none⟩) Z.length c')) w).setCell (p := ⟨b, t, none⟩) (.int .i64 0) (fun _ => .inr (.inl rfl))).setCell (p := ⟨b', t, none⟩) (.int .i64 ((z : Int) + 1)) (fun _ => .inr (.inr rfl)))
  clear h ht hb hb' hz
  go_enter Try.func33, Try.ntmps33
  go_wp2_with fail
  go_ret
  exact ⟨rfl, by have := HS.out; rw [Int.natCast_add] at this; exact this, KS.out⟩
end
end Go.Proofs.Ytplbkjgkocnehaa
