/- Walks: slices.AppendSeq, Collect, over an iterator that gives integers. -/
import Derived.Test.YtplbkjgkocnehaaU2
namespace Go.Proofs.Ytplbkjgkocnehaa
set_option linter.unusedSimpArgs false
set_option linter.unusedVariables false
open Go.RowKit Go.Shelf
attribute [local go_sem ↓] Go.wp_at_zero Go.wp_at_succ
attribute [local go_sem] Oper.semAt_some
def eI (x : Int) : List Value := [.int .i64 x]
theorem eI_len (x : Int) : (eI x).length = 1 := rfl
theorem sl43 : Try.prog.underlying 43 = some (.slice 3) := by kernel_rfl
theorem i3 : (Try.prog.info? 3).map (fun i => (i.zero, i.size, i.bytes)) = some (some (.int .i64 0), 1, 8) := by kernel_rfl
theorem one3 (l : List Int) : ∀ u ∈ l.flatMap eI, u.oneCell' = true := by
  intro u hu; simp [eI] at hu; obtain ⟨x, _, rfl⟩ := hu; rfl
section
variable {w w' : World} {gf : Nat} {lb : Array Value} {S Sp : List Int → Prop} {N : Nat}
set_option maxRecDepth 100000 in
set_option maxHeartbeats 4000000 in
theorem appendseq_any (hseq : SeqStopsK Fence.wide 4 Try.prog gf lb (fun s : Int => #[.int .i64 s]) KeepsWalks S Sp N w) (eg : ∀ args w, (callFunc gf args).run Try.prog w = .ok (.enter gf args) w) (hN : N ≤ 100000) :
    Calls Try.prog 58 #[.slice none 0 0, .func (.func gf) #[] lb] w fun e w' => ∃ v xs, e = .returned v ∧ S xs ∧ RowAt w' 3 eI 1 v xs ∧ (∀ b, v.ownBlock = some b → w.heap.size ≤ b) ∧ Kp NoB w w' := by
  refine calls_of_wp_marks Try.func58 rfl ?_
  simp only [Try.ntmps58, List.size_toArray, List.length_cons, List.length_nil, Nat.reduceAdd, Nat.reduceSub, Array.replicate_succ, Array.replicate_zero, List.push_toArray, List.append_toArray, List.nil_append, List.cons_append]
  go_wp2_with fail
  refine wpIn_wide (n := 5).1 ?_
  have hsz : (w.alloc (.cells #[.slice none 0 0] 43)).heap.size = w.heap.size + 1 := by simp
  refine wpIn_rangeFunc_ownG (F := Fence.wide) (n := 5) rfl (by omega) (gf := gf) (lb := lb) rfl trivial eg (encs := fun s : Int => #[.int .i64 s]) hseq (fun h k => h.trans k) (fun W l o o' _ hl hc hw => KeepsWalks.putObj _ hl hw) (((Below.refl _ w).alloc (Nat.le_refl _) _)) (fun _ => rfl)
    (fun pre W => ∃ v, W.heap[w.heap.size]? = some (.cells #[v] 43 (0, 0)) ∧ RowAt W 3 eI 1 v pre ∧ (∀ b, v.ownBlock = some b → w.heap.size + 1 ≤ b) ∧ Kp NoB w W) (fun _ _ _ => False) ?_ (fun _ _ _ _ _ hs _ _ => hs) ?_
    (fun x => { tmps := #[.slice none 0 0, .func (.func gf) #[] lb, .pointer (some ⟨w.heap.size, 0, none⟩), undef, .slice none 0 0, .int .i64 x, .func (.func gf) #[] lb, .int .i64 x, undef, undef, undef, undef, undef], defers := [] }) ?_ ?_ ?_ (fun _ _ _ _ _ _ h => h.elim)
  · -- what is the walk's own
    rintro s W W' row ⟨v, h1, h2, h3, h4⟩ hg hr
    rw [hsz] at hr
    have hne : ∀ b, v.ownBlock = some b → row ≠ some b := fun b hb e => by
      obtain ⟨_, o, ho, hc⟩ := hr b e
      rcases h2.2 with ⟨h5, _⟩ | ⟨g, cap, cur, h5, _, hgg, _⟩
      · rw [h5] at hb; cases hb
      · rw [h5] at hb; injection hb with hb; subst hb
        rw [hgg] at ho; injection ho with ho; subst ho; cases hc
    refine ⟨v, grown_get hg h1 (fun e => by have := (hr _ e).1; omega), h2.keep (fun b hb => hg.block b (h2.lt b hb) (fun e => hne b hb e.symm)), h3, h4.trans' (kp_grown (F := fun b => w.heap.size + 1 ≤ b) hg (fun b e => (hr b e).1)) (fun b hb e => by omega)⟩
  · exact ⟨_, blk_new w _, RowAt.nil _ _ _ _, by simp [Value.ownBlock], (Kp.refl _ w).alloc _⟩
  · intro l x W K hK
    gi_wp2_with fail
    exact hK
  · rintro l pre x W ⟨v, h1, h2, h3, h4⟩ hn
    have hlb := hid (fun b (hb : v.ownBlock = some b) => h2.lt b hb)
    obtain ⟨o, c, hv, hc, _⟩ := h2.form
    subst hv
    have L1 := loc1 h1
    have hRa := hid (h2.alloc (.cells #[.int .i64 x] 3))
    have H1 := hid h1
    have H2 := hid h2
    clear h1 h2
    refine wpIn_block ?_
    refine wpIn_region_L [(0, .at_), (1, .at_), (2, .eff), (3, .eff), (4, .eff)] ?L1 ?hL1 ?hM1 (by kernel_rfl) ?hG1
    case hL1 => simp only [pickOps, List.map_cons, List.map_nil, List.getD_cons_zero, List.getD_cons_succ]; rfl
    case hM1 => rfl
    repeat (first | (refine wpGS_at (v := ?_) (by rfl) ?_ ?_; rotate_left; (focus (first | (go_simp; with_reducible rfl) | (go_simp; done))); simp only [Act.put, List.setIfInBounds_toArray, List.set_cons_zero, List.set_cons_succ]) | (refine wpGS_at_skip (by rfl) ?_; simp only [Act.put, List.setIfInBounds_toArray, List.set_cons_zero, List.set_cons_succ]) | (refine wpGS_held_skip (by rfl) ?_; simp only [Act.put, List.setIfInBounds_toArray, List.set_cons_zero, List.set_cons_succ]) | (refine wpGS_held (v := ?_) (by rfl) ?_ ?_; rotate_left; (focus (intro w' hSw; (try dsimp only at hSw); go_split_ands; first | (go_simp; with_reducible rfl) | (go_simp; done))); simp only [Act.put, List.setIfInBounds_toArray, List.set_cons_zero, List.set_cons_succ]))
    refine wpGS_eff (by rfl) (fun K hK => ?_)
    go_simp
    refine hK _ _ trivial ?_
    clear hK K
    repeat (first | (refine wpGS_at (v := ?_) (by rfl) ?_ ?_; rotate_left; (focus (first | (go_simp; with_reducible rfl) | (go_simp; done))); simp only [Act.put, List.setIfInBounds_toArray, List.set_cons_zero, List.set_cons_succ]) | (refine wpGS_at_skip (by rfl) ?_; simp only [Act.put, List.setIfInBounds_toArray, List.set_cons_zero, List.set_cons_succ]) | (refine wpGS_held_skip (by rfl) ?_; simp only [Act.put, List.setIfInBounds_toArray, List.set_cons_zero, List.set_cons_succ]) | (refine wpGS_held (v := ?_) (by rfl) ?_ ?_; rotate_left; (focus (intro w' hSw; (try dsimp only at hSw); go_split_ands; first | (go_simp; with_reducible rfl) | (go_simp; done))); simp only [Act.put, List.setIfInBounds_toArray, List.set_cons_zero, List.set_cons_succ]))
    refine wpGS_eff (by rfl) (fun K hK => ?_)
    refine wp_grow eI_len (by omega) _ _ 43 3 _ 8 rfl sl43 i3 rfl (.slice o pre.length c) pre rfl hRa.out W.heap.size 1 [x] rfl #[.int .i64 x] 3 (blk_new _ _) (by intro a j x ha hj; match a, j, ha with | 0, 0, ha => simp at ha; subst ha; rfl) (one3 _) (by simp; omega) (by omega) ?_
    intro v' w' q1 q2 q3
    have hob : ∀ b, (Value.slice o pre.length c).ownBlock = some b → b ≠ w.heap.size := fun b hb e => by have := h3 b hb; omega
    have hbx := grown_get q2 (blk_alloc (o' := .cells #[.int .i64 x] 3) H1.out) (fun e => hob _ e rfl)
    have Lb := loc1 hbx
    have KA : Kp (fun b => (Value.slice o pre.length c).ownBlock = some b) W w' := ((Kp.refl _ W).alloc (.cells #[.int .i64 x] 3)).trans (kp_grown q2 (fun b hb => hb))
    have hnb : v'.ownBlock ≠ some w.heap.size := fun e => by
      rcases q3 with h | ⟨b2, h, h2⟩
      · exact hob _ (h ▸ e) rfl
      · rw [e] at h; injection h with h; subst h
        have h6 := blk_lt H1.out
        have h7 : W.heap.size + 1 ≤ w.heap.size := by simpa using h2
        omega
    have hnew : ∀ b, v'.ownBlock = some b → w.heap.size + 1 ≤ b := fun b' hb' => by
      rcases q3 with h | ⟨b2, h, h2⟩
      · exact h3 b' (h ▸ hb')
      · rw [hb'] at h; injection h with h; subst h
        have h6 := blk_lt H1.out
        have h7 : W.heap.size + 1 ≤ b' := by simpa using h2
        omega
    obtain ⟨o2, c2, hv2, _, _⟩ := q1.form
    rw [List.length_append, List.length_singleton] at hv2
    subst hv2
    replace q1 := hid q1
    replace hbx := hid hbx
    replace q2 := hid q2
    refine hK _ _ trivial ?_
    clear hK K q3
    repeat (first | (refine wpGS_at (v := ?_) (by rfl) ?_ ?_; rotate_left; (focus (first | (go_simp; with_reducible rfl) | (go_simp; done))); simp only [Act.put, List.setIfInBounds_toArray, List.set_cons_zero, List.set_cons_succ]) | (refine wpGS_at_skip (by rfl) ?_; simp only [Act.put, List.setIfInBounds_toArray, List.set_cons_zero, List.set_cons_succ]) | (refine wpGS_held_skip (by rfl) ?_; simp only [Act.put, List.setIfInBounds_toArray, List.set_cons_zero, List.set_cons_succ]) | (refine wpGS_held (v := ?_) (by rfl) ?_ ?_; rotate_left; (focus (intro w' hSw; (try dsimp only at hSw); go_split_ands; first | (go_simp; with_reducible rfl) | (go_simp; done))); simp only [Act.put, List.setIfInBounds_toArray, List.set_cons_zero, List.set_cons_succ]))
    refine wpGS_eff (by rfl) (fun K hK => ?_)
    go_simp
    refine hK _ _ trivial ?_
    clear hK K
    repeat (first | (refine wpGS_at (v := ?_) (by rfl) ?_ ?_; rotate_left; (focus (first | (go_simp; with_reducible rfl) | (go_simp; done))); simp only [Act.put, List.setIfInBounds_toArray, List.set_cons_zero, List.set_cons_succ]) | (refine wpGS_at_skip (by rfl) ?_; simp only [Act.put, List.setIfInBounds_toArray, List.set_cons_zero, List.set_cons_succ]) | (refine wpGS_held_skip (by rfl) ?_; simp only [Act.put, List.setIfInBounds_toArray, List.set_cons_zero, List.set_cons_succ]) | (refine wpGS_held (v := ?_) (by rfl) ?_ ?_; rotate_left; (focus (intro w' hSw; (try dsimp only at hSw); go_split_ands; first | (go_simp; with_reducible rfl) | (go_simp; done))); simp only [Act.put, List.setIfInBounds_toArray, List.set_cons_zero, List.set_cons_succ]))
    refine wpGS_nil ?_
    have KF := KA.setCell' (p := ⟨w.heap.size, 0, none⟩) (.slice o2 (pre.length + 1) c2)
    have kk := keeps_kp KF (fun b hb ob ho => by
      rcases hb with hb | hb
      · rcases H2.out.2 with ⟨h5, _⟩ | ⟨g, cap, cur, h5, _, hgg, _⟩
        · rw [h5] at hb; cases hb
        · rw [h5] at hb; injection hb with hb; subst hb
          rw [hgg] at ho; injection ho with ho; subst ho; rfl
      · subst hb; rw [H1.out] at ho; injection ho with ho; subst ho; rfl)
    exact ⟨kk.from _, kk.walks, _, blk_setCell hbx.out 0 _, q1.out.setCell _ _ hnb, hnew, h4.trans' KF (fun b hb e => by
      rcases e with e | e
      · have := h3 b e; omega
      · have : b = w.heap.size := e
        omega)⟩
  · rintro D xs W hD hS ⟨v, h1, h2, h3, h4⟩ hk
    obtain ⟨o, c, hv, hc, _⟩ := h2.form
    subst hv
    have L1 := loc1 h1
    replace h1 := hid h1
    replace h2 := hid h2
    replace hk := hid hk
    go_wp2_with fail
    refine leaves_one hk.out (v := .slice o xs.length c) ?_ ⟨_, xs, rfl, hS, h2.out.keep (fun b hb => World.putObj_heap_other (fun e => ?_)), (fun b hb => by have := h3 b hb; omega), h4.putObj (D := D) (.deferred none) (fun h => absurd h (by simp at hD; omega))⟩
    · generalize W.putObj D (.deferred none) = W4 at *
      simp [results, Try.results58, go_sem]
    · subst e
      rcases h2.out.2 with ⟨h5, _⟩ | ⟨g, cap, cur, h5, _, hgg, _⟩
      · rw [h5] at hb; cases hb
      · rw [h5] at hb; injection hb with hb; subst hb
        rw [hgg] at hk; cases hk.out
theorem collect_any (hseq : SeqStopsK Fence.wide 4 Try.prog gf lb (fun s : Int => #[.int .i64 s]) KeepsWalks S Sp N w) (eg : ∀ args w, (callFunc gf args).run Try.prog w = .ok (.enter gf args) w) (hN : N ≤ 100000) :
    Calls Try.prog 54 #[.func (.func gf) #[] lb] w fun e w' => ∃ v xs, e = .returned v ∧ S xs ∧ RowAt w' 3 eI 1 v xs ∧ (∀ b, v.ownBlock = some b → w.heap.size ≤ b) ∧ Kp NoB w w' := by
  have HA := hid (appendseq_any hseq eg hN)
  clear hseq
  go_enter Try.func54, Try.ntmps54
  go_wp2_with fail
  refine HA.out.mono ?_
  rintro e w1 ⟨v, xs, rfl, hS, hR, hO, k⟩
  obtain ⟨o, c, hv, _⟩ := hR.form
  subst hv
  replace hR := hid hR
  go_wp2_with fail
  go_ret
  exact ⟨_, xs, rfl, hS, hR.out, hO, k⟩
end
end Go.Proofs.Ytplbkjgkocnehaa
