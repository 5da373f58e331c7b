/- Walks through locks: what a task has. -/
import Derived.Test.YtpfhjfijpmcnkaaK20
import Derived.Test.YtpfhjfijpmcnkaaKS
import Derived.ScopeJumps
import Derived.WalkMore
namespace Go.Proofs.Ytpfhjfijpmcnkaa
set_option linter.unusedSimpArgs false
set_option linter.unusedVariables false
open Go.RowKit
attribute [local go_sem ↓] Go.wp_at_zero Go.wp_at_succ
theorem sl43 : Try.prog.underlying 43 = some (.slice 23) := by kernel_rfl
theorem i23 : (Try.prog.info? 23).map (fun i => (i.zero, i.size, i.bytes)) = some (some (.int .i64 0), 1, 8) := by kernel_rfl
theorem sort_any {w : World} {v : Value} {l : List Int} (h : RowAt w 23 eI 1 v l) (hl : l.length ≤ 1000000) :
    Calls Try.prog 41 #[v] w fun en w' => en = .returned (.tuple #[]) ∧ RowAt w' 23 eI 1 v (l.mergeSort le2) ∧ Kp (fun b => v.ownBlock = some b) w w' := sort_row Try.sortA h hl
def heldU (L : List (Int × Int)) (t : Int) : List Int := (L.filter (fun s => s.2 == t && hasB L t s.1)).map (·.1)
def heldL (L : List (Int × Int)) (t : Int) : List Int := (heldU L t).mergeSort le2
theorem held_mem {L : List (Int × Int)} {t id : Int} : id ∈ heldU L t ↔ hasB L t id = true := by
  unfold heldU
  constructor
  · intro h
    obtain ⟨s, hs, rfl⟩ := List.mem_map.1 h
    have := (List.mem_filter.1 hs).2
    simp only [Bool.and_eq_true] at this
    exact this.2
  · intro h
    have h' := h
    unfold hasB at h
    cases hr : rowL L id with
    | nil => rw [hr] at h; simp [isL] at h
    | cons a r =>
      rw [hr] at h
      simp [isL, hdL] at h
      subst h
      have : a ∈ rowL L id := by rw [hr]; exact List.mem_cons_self
      unfold rowL at this
      obtain ⟨s, hs, e⟩ := List.mem_map.1 this
      obtain ⟨h1, h2⟩ := List.mem_filter.1 hs
      have h2 : s.1 = id := by simpa using h2
      refine List.mem_map.2 ⟨s, List.mem_filter.2 ⟨h1, ?_⟩, h2⟩
      rw [h2, h', e]; simp
theorem fst_nodup {t : Int} (p : Int × Int → Bool) (hp : ∀ s, p s = true → s.2 = t) : ∀ (L : List (Int × Int)), (∀ id, (rowL L id).Nodup) → ((L.filter p).map (·.1)).Nodup := by
  intro L
  induction L with
  | nil => intro _; simp
  | cons s L ih =>
    intro h
    have hc : ∀ id, rowL (s :: L) id = if s.1 = id then s.2 :: rowL L id else rowL L id := by
      intro id
      unfold rowL
      rw [List.filter_cons]
      by_cases e : s.1 = id
      · simp [e]
      · simp [e]
    have hL : ∀ id, (rowL L id).Nodup := by
      intro id
      have := h id
      rw [hc] at this
      split at this
      · exact (List.nodup_cons.1 this).2
      · exact this
    rw [List.filter_cons]
    split
    · rename_i hps
      rw [List.map_cons, List.nodup_cons]
      refine ⟨?_, ih hL⟩
      intro hin
      obtain ⟨s', hs', e⟩ := List.mem_map.1 hin
      obtain ⟨h1, h2⟩ := List.mem_filter.1 hs'
      have h3 := h s.1
      rw [hc, if_pos rfl] at h3
      refine (List.nodup_cons.1 h3).1 ?_
      unfold rowL
      exact List.mem_map.2 ⟨s', List.mem_filter.2 ⟨h1, by simpa using e⟩, (hp s' h2).trans (hp s hps).symm⟩
    · exact ih hL
theorem held_nodup {n : Nat} {L : List (Int × Int)} (o : LOk n L) (t : Int) : (heldU L t).Nodup := fst_nodup (t := t) _ (fun s h => by simp only [Bool.and_eq_true, beq_iff_eq] at h; exact h.1) L o.nd
theorem heldU_len (L : List (Int × Int)) (t : Int) : (heldU L t).length ≤ L.length := by unfold heldU; rw [List.length_map]; exact List.length_filter_le _ _
theorem nodup_len : ∀ {l l' : List Int}, l.Nodup → (∀ x ∈ l, x ∈ l') → l.length ≤ l'.length := by
  intro l
  induction l with
  | nil => intro l' _ _; simp
  | cons a r ih =>
    intro l' h hs
    rw [List.nodup_cons] at h
    have ha : a ∈ l' := hs a List.mem_cons_self
    have := ih (l' := l'.erase a) h.2 (fun x hx => (List.mem_erase_of_ne (by rintro rfl; exact h.1 hx)).2 (hs x (List.mem_cons_of_mem _ hx)))
    rw [List.length_erase_of_mem ha] at this
    have := List.length_pos_of_mem ha
    rw [List.length_cons]; omega
/-- what has the same, each once, is the same sorted -/
theorem sorted_eq {l l' : List Int} (h : l.Nodup) (h' : l'.Nodup) (e : ∀ x, x ∈ l ↔ x ∈ l') : l.mergeSort le2 = l'.mergeSort le2 :=
  rising_eq (sorted_rising h) (sorted_rising h') (fun x => by rw [mem_sorted, mem_sorted]; exact e x)
section
variable {w w' : World} {p m n : Nat} {M : List (Int × Value)} {L : List (Int × Int)} {v : Value} {l : List Int}
theorem lat_entry (h : LAt w p m n M L) {k : Int} {v : Value} (hm : (k, v) ∈ M) : ∃ b f c x r, rowL L k = x :: r ∧ v = .slice (some ⟨b, f, none⟩) (r.length + 1) c ∧ r.length + 1 ≤ c ∧ ∀ W, Kp NoB w W → W.cell? ⟨b, f, none⟩ = some (.int .i64 x) := by
  have hg := uniq_at h.k.u hm
  have hr := h.rows k
  rw [hg] at hr
  have hne := h.ne k (by rw [hg]; rfl)
  obtain ⟨b, f, c, hv, hc, _, hcell⟩ := hr.cells hne
  cases hrow : rowL L k with
  | nil => exact absurd hrow hne
  | cons x r =>
    rw [hrow] at hv hc hcell
    exact ⟨b, f, c, x, r, rfl, by simpa using hv, by simpa using hc, fun W k => by have := hcell W k 0 x rfl; rwa [Nat.add_zero] at this⟩
set_option maxRecDepth 100000 in
set_option maxHeartbeats 4000000 in
theorem held_any (h : LAt w p m n M L) (o : LOk n L) (t : Int) (n2 : L.length ≤ 4000) :
    Calls Try.prog 21 #[.pointer (some ⟨p, 0, none⟩), .int .i64 t] w fun e w' => ∃ v', e = .returned v' ∧ Rs 23 w' v' (heldL L t) ∧ Kp NoB w w' := by
  have HT := hid (there_yes h o.n1)
  have H0 := hid h
  have Lp := loc2 h.hp
  have hml := h.lt.2
  obtain ⟨w1, hrg, ⟨cnt, I1⟩, k1⟩ := h.hm.range (P := Try.prog) k51
  have hsz : w.heap.size ≠ m := by omega
  have hul := heldU_len L t
  have hun := hid (held_nodup o t)
  replace I1 := hid I1
  replace k1 := hid k1
  clear h
  go_enter Try.func21, Try.ntmps21
  go_wp2_with fail
  refine wp_scope_jumps 0 (fun _ _ => False) (fun _ _ => 0) rfl ?_ ?_
  · go_wp2_with fail
    refine HT.out.mono ?_
    rintro e w2 ⟨rfl, rfl⟩
    go_wp2_with fail
    go_step3
    go_wp2_with fail
    go_loopw [4] (fun a W => ∃ (S : List Int) (c : Nat) (out : List Int), IterAt .i64 W w.heap.size m M S c ∧ RowAt W 23 eI 1 a out ∧ (∀ b, a.ownBlock = some b → w.heap.size ≤ b) ∧ Hid ((∀ id, id ∈ out ↔ (id ∈ S ∧ hasB L t id = true)) ∧ out.Nodup) ∧ Kp NoB w W) (fun _ W => itLeft W w.heap.size m)
    case atStart => exact ⟨[], cnt, [], I1.out, RowAt.nil _ _ _ _, by simp [Value.ownBlock], hid ⟨by simp, List.nodup_nil⟩, k1.out⟩
    case round =>
      obtain ⟨S, c, out, hI, hR, hO, hout, hK⟩ := hrel
      obtain ⟨oa, ca, hav, hac, _⟩ := hR.form
      subst hav
      have hol : out.length ≤ 4000 := Nat.le_trans (nodup_len hout.out.2 (fun x hx => held_mem.2 ((hout.out.1 x).1 hx).2)) (by omega)
      rcases hI.next (P := Try.prog) H0.out.k 0 with ⟨hS, hnx⟩ | ⟨k, v, w5, c', hkM, hkS, hnx, hI', hlt, hk5, hen⟩
      · have HS := hid (sort_any hR (by omega))
        have hE := hid (show out.mergeSort le2 = heldL L t from sorted_eq hout.out.2 hun.out (fun x => by
          rw [hout.out.1, held_mem]
          constructor
          · exact fun h => h.2
          · intro h
            refine ⟨?_, h⟩
            have h2 : rowL L x ≠ [] := by rintro e; simp [hasB, e, isL] at h
            cases hg : mget M x with
            | none => exact absurd (H0.out.none hg) h2
            | some v => exact hS (x, v) (mget_mem hg)))
        replace hI := hid hI
        replace hR := hid hR
        replace hS := hid hS
        go_wp2_with fail
        refine HS.out.mono ?_
        rintro e w6 ⟨rfl, q6, k6⟩
        rw [hE.out] at q6
        go_wp2_with fail
        simp only [Exit.jump]
        go_ret
        exact ⟨_, rfl, q6.rs, hK.trans' k6 (fun b hb e => absurd (hO b e) (by omega))⟩
      · obtain ⟨b, f, cc, x, r, hrow, rfl, hcc, hcell⟩ := lat_entry H0.out hkM
        have hlm := hI.left
        have hK5 : Kp NoB w w5 := hK.trans' hk5 (fun b hb e => by omega)
        have Le := hcell _ hK5
        have hne : ∀ b, (Value.slice oa out.length ca).ownBlock = some b → b ≠ w.heap.size := fun b hb e => by
          rcases hR.2 with ⟨h1, _⟩ | ⟨g, cap, cur, h1, _, hg, _⟩
          · rw [h1] at hb; cases hb
          · rw [h1] at hb; injection hb with hb; subst hb; subst e
            obtain ⟨es, ck, seen, c0, _, _, _, h4, _⟩ := hI
            rw [h4] at hg; cases hg
        have hRm : RowAt w5 23 eI 1 (.slice oa out.length ca) out := hR.kp hk5 hne
        replace hne := hid hne
        have b1 : (0 : Int) < (r.length : Int) + 1 := by omega
        replace hI := hid hI
        replace hI' := hid hI'
        replace hkM := hid hkM
        replace hkS := hid hkS
        replace hK := hid hK
        replace hK5 := hid hK5
        replace hR := hid hR
        replace hcell := hid hcell
        clear hk5
        by_cases hx : x = t
        · subst hx
          have hRa := hid (hRm.alloc (.cells #[.int .i64 k] 23))
          have hRm' := hid hRm
          clear hRm
          go_wp2_with (at_builtin; refine wpList_plain rfl fun K hK' => ?_; refine wp_grow eI_len (by omega) _ _ 43 23 _ 8 rfl sl43 i23 rfl (.slice oa out.length ca) out rfl hRa.out w5.heap.size 1 [k] rfl #[.int .i64 k] 23 (blk_new _ _) (by intro a j x ha hj; match a, j, ha with | 0, 0, ha => simp at ha; subst ha; rfl) (one3 _) (by simp; omega) (by omega) ?_; intro v' w' q1 q2 q3; refine hK' _ _ ?_; clear hK' K)
          have KA : Kp (fun b => (Value.slice oa out.length ca).ownBlock = some b) w5 w' := ((Kp.refl _ w5).alloc (.cells #[.int .i64 k] 23)).trans (kp_grown q2 (fun b hb => hb))
          have I6 := hI'.out.kp KA (fun e => absurd (hO _ e) (by omega)) (fun e => hne.out _ e rfl)
          have hl6 := I6.left
          replace I6 := hid I6
          have hO' : ∀ b, v'.ownBlock = some b → w.heap.size ≤ b := fun b' hb' => by
            rcases q3 with o | ⟨b2, o, h2⟩
            · exact hO b' (o ▸ hb')
            · rw [hb'] at o; injection o with o; subst o; exact Nat.le_trans (hK5.out.alloc (.cells #[.int .i64 k] 23)).size h2
          have KF : Kp NoB w w' := hK5.out.trans' KA (fun b hb hg => absurd hb (by have := hO b hg; omega))
          replace q1 := hid q1
          replace q2 := hid q2
          replace q3 := hid q3
          replace KA := hid KA
          replace hO' := hid hO'
          replace KF := hid KF
          go_wp2_with fail
          go_roundw
          case rel => exact ⟨k :: S, c', out ++ [k], I6.out, q1.out, hO'.out, hid ⟨fun id => by
            rw [List.mem_append, List.mem_singleton, hout.out.1]
            constructor
            · rintro (h | h)
              · exact ⟨List.mem_cons_of_mem _ h.1, h.2⟩
              · subst h; exact ⟨List.mem_cons_self, by rw [hasB, hrow]; simp [isL, hdL]⟩
            · rintro ⟨h1, h2⟩
              rcases List.mem_cons.1 h1 with e | h1
              · exact .inr e
              · exact .inl ⟨h1, h2⟩, by
            rw [List.nodup_append]
            refine ⟨hout.out.2, by simp, ?_⟩
            rintro a ha b hb rfl
            rw [List.mem_singleton] at hb; subst hb
            exact hkS.out ((hout.out.1 _).1 ha).1⟩, KF.out⟩
          case measure => rw [hlm, hl6]; exact hlt
        · have hxb : (x != t) = true := by simpa using hx
          have hx' := hid hx
          clear hx
          go_wp2_with fail
          go_roundw
          case rel => exact ⟨k :: S, c', out, hI'.out, hRm, hO, hid ⟨fun id => by
            rw [hout.out.1]
            constructor
            · exact fun h => ⟨List.mem_cons_of_mem _ h.1, h.2⟩
            · intro h
              refine ⟨?_, h.2⟩
              rcases List.mem_cons.1 h.1 with e | h1
              · subst e
                have := h.2
                rw [hasB, hrow] at this
                simp [isL, hdL] at this
                exact absurd this hx'.out
              · exact h1, hout.out.2⟩, hK5.out⟩
          case measure => rw [hlm, hI'.out.left]; exact hlt
  · intro a' w' h
    exact h.elim
end
end Go.Proofs.Ytpfhjfijpmcnkaa
