/- Walks: a chain, read whole. -/
import Derived.Test.YtaanbonbdhjbpaaE16
namespace Go.Proofs.Ytaanbonbdhjbpaa
set_option linter.unusedSimpArgs false
set_option linter.unusedVariables false
open Go.RowKit
attribute [local go_sem ↓] Go.wp_at_zero Go.wp_at_succ
theorem row_apart {α β : Type} {w : World} {e e' : TypeId} {f : α → List Value} {f' : β → List Value} {n n' : Nat} {v v' : Value} {l : List α} {l' : List β} (h : RowAt w e f n v l) (h' : RowAt w e' f' n' v' l') (he : e ≠ e') : ∀ b, v.ownBlock = some b → v'.ownBlock ≠ some b := by
  intro b hb
  rcases h.2 with ⟨h1, _⟩ | ⟨g, cap, cur, h1, h2, hg, _⟩
  · rw [h1] at hb; cases hb
  · rw [h1] at hb
    injection hb with hb
    subst hb
    exact h'.ne hg he
def lenOf : Value → Nat
  | .slice _ n _ => n
  | _ => 0
/-- what a reader has, j steps on -/
def MM (n : Nat → Nat) (b : Nat → Nat → Int) : Nat → List Int
  | 0 => []
  | j + 1 => MM n b j ++ (List.range (n j)).map (b j)
/-- m steps that go: at st j lies a slot with n j bytes and st (j + 1) -/
structure Tr (S : List Sl3) (st : Nat → Int × Int) (n : Nat → Nat) (b : Nat → Nat → Int) (m : Nat) : Prop where
  at_ : ∀ j, j < m → ∃ k : Nat, (st j).1 = k ∧ 0 < (st j).2 ∧ S[k]? = some (mkE (n j) (b j) (st (j + 1)).1 (st (j + 1)).2, (st j).2, true)
  n1 : ∀ j, j < m → 1 ≤ n j
  n16 : ∀ j, j < m → n j ≤ 16
  len : (MM n b m).length ≤ 256
theorem MM_mono (n : Nat → Nat) (b : Nat → Nat → Int) {i j : Nat} (h : i ≤ j) : (MM n b i).length ≤ (MM n b j).length := by
  induction h with
  | refl => exact Nat.le_refl _
  | step _ ih => exact Nat.le_trans ih (by simp [MM])
theorem Tr.m256 {S : List Sl3} {st : Nat → Int × Int} {n : Nat → Nat} {b : Nat → Nat → Int} {m : Nat} (h : Tr S st n b m) : m ≤ 256 := by
  have : ∀ j, j ≤ m → j ≤ (MM n b j).length := by
    intro j
    induction j with
    | zero => intro _; exact Nat.zero_le _
    | succ j ih =>
      intro hj
      have := ih (by omega)
      have := h.n1 j (by omega)
      simp [MM]; omega
  exact Nat.le_trans (this m (Nat.le_refl _)) h.len
section
variable {w w' : World} {q p l : Nat} {v : Value} {S : List Sl3} {B : List Nat} {E : Nat} {st : Nat → Int × Int} {n : Nat → Nat} {b : Nat → Nat → Int} {m : Nat}
theorem tr_step (h : AAt w p l v S B E) (o : AOk S B E) (tr : Tr S st n b m) {j : Nat} (hj : j < m) {bv : Value} (hr : RAt w q p (st j).1 (st j).2 bv (MM n b j)) : Calls Try.prog 26 #[.pointer (some ⟨q, 0, none⟩)] w
    fun e w' => e = .returned (.tuple #[.bool ((st (j + 1)).2 == 0), .int .i64 0]) ∧ ∃ bv', RAt w' q p (st (j + 1)).1 (st (j + 1)).2 bv' (MM n b (j + 1)) ∧ (bv'.ownBlock = bv.ownBlock ∨ ∃ x, bv'.ownBlock = some x ∧ w.heap.size ≤ x) ∧ Kp (fun x => x = q ∨ bv.ownBlock = some x) w w' := by
  obtain ⟨k, hk, hg, hs⟩ := tr.at_ j hj
  have hM : (MM n b j).length + n j ≤ 256 := by
    have h1 : (MM n b (j + 1)).length ≤ _ := MM_mono n b (show j + 1 ≤ m from hj)
    have h2 := tr.len
    simp [MM] at h1; omega
  rw [hk] at hr
  exact rstep_go h o hr (by omega) hs (tr.n1 j hj) (tr.n16 j hj) hM
/-- how it ends: at none, or at one that is bad -/
def Ends (S : List Sl3) (st : Nat → Int × Int) (n : Nat → Nat) (b : Nat → Nat → Int) (m : Nat) (bad : Bool) : Prop :=
  match bad with
  | false => (st m).2 = 0
  | true => ∃ (k : Nat) (nn : Int) (bb : Nat → Int) (i' g' : Int), (st m).1 = k ∧ 0 < (st m).2 ∧ S[k]? = some (mkE nn bb i' g', (st m).2, true) ∧ (nn < 1 ∨ 16 < nn ∨ 256 < ((MM n b m).length : Int) + nn)
theorem tr_bad (h : AAt w p l v S B E) (o : AOk S B E) (tr : Tr S st n b m) (he : Ends S st n b m true) {bv : Value} (hr : RAt w q p (st m).1 (st m).2 bv (MM n b m)) : Calls Try.prog 26 #[.pointer (some ⟨q, 0, none⟩)] w fun e w' =>
    e = .returned (.tuple #[.bool false, .int .i64 16]) ∧ Kp NoB w w' := by
  obtain ⟨k, nn, bb, i', g', hk, hg, hs, hn⟩ := he
  rw [hk] at hr
  exact rstep_bad h o hr tr.len (by omega) hs hn
def ChPost (w : World) (st : Nat → Int × Int) (m : Nat) (bad : Bool) (e : Ending) (w' : World) : Prop :=
  match bad with
  | true => e = .returned (.tuple #[.slice none 0 0, .int .i64 16]) ∧ Kp NoB w w'
  | false => ∃ v', e = .returned (.tuple #[v', .int .i64 0]) ∧ RowAt w' 33 eH 2 v' ((List.range m).map st) ∧ (∀ b, v'.ownBlock = some b → w.heap.size ≤ b) ∧ Kp NoB w w'
set_option maxRecDepth 100000 in
set_option maxHeartbeats 4000000 in
theorem chain_any (h : AAt w p l v S B E) (o : AOk S B E) (tr : Tr S st n b m) (bad : Bool) (he : Ends S st n b m bad) : Calls Try.prog 24 #[.pointer (some ⟨p, 0, none⟩), .agg #[.int .i64 (st 0).1, .int .u64 (st 0).2]] w (ChPost w st m bad) := by
  have HR := hid (read_go (i := (st 0).1) (g := (st 0).2) (h.alloc (.cells #[.int .i64 (st 0).1, .int .u64 (st 0).2] 33)) o.n1)
  have hm := tr.m256
  replace h := hid h
  replace tr := hid tr
  replace he := hid he
  go_enter Try.func24, Try.ntmps24
  go_wp2_with fail
  refine HR.out.mono ?_
  rintro e w1 ⟨q, rfl, R1, hq, k1⟩
  have k0 : Kp NoB w w1 := ((Kp.refl _ w).alloc _).trans k1
  have hq' : w.heap.size ≤ q := Nat.le_trans (by simp) hq
  replace R1 := hid R1
  replace hq := hid hq
  go_wp2_with fail
  go_loopw [4] (fun u V => ∃ (j : Nat) (bv : Value), j ≤ m ∧ lenOf u = j ∧ RowAt V 33 eH 2 u ((List.range j).map st) ∧ (∀ b, u.ownBlock = some b → w.heap.size ≤ b) ∧ RAt V q p (st j).1 (st j).2 bv (MM n b j) ∧ (∀ x, bv.ownBlock = some x → w.heap.size ≤ x) ∧ Kp NoB w V) (fun u _ => m - lenOf u)
  case atStart => exact ⟨0, _, Nat.zero_le _, rfl, RowAt.nil _ _ _ _, by simp [Value.ownBlock], R1.out, by simp [Value.ownBlock], k0⟩
  case round =>
    obtain ⟨j, bv, hj, hlu, Ru, nu, Rq, nb, kq⟩ := hrel
    obtain ⟨o2, c2, hu, _⟩ := Ru.form
    rw [List.length_map, List.length_range] at hu
    subst hu
    have LQ := Rq.cs
    obtain ⟨i0, hi0⟩ : ∃ i0, i0 = (st j).1 := ⟨_, rfl⟩
    obtain ⟨g0, hg0⟩ : ∃ g0, g0 = (st j).2 := ⟨_, rfl⟩
    rw [← hi0, ← hg0] at LQ
    replace hi0 := hid hi0
    replace hg0 := hid hg0
    by_cases hpos : 0 < g0
    · have Ru1 := hid (Ru.alloc (.cells #[.int .i64 i0, .int .u64 g0] 33))
      have Rq1 := hid (Rq.kn ((Kp.refl _ wr).alloc (.cells #[.int .i64 i0, .int .u64 g0] 33)))
      have k1' := hid (kq.alloc (.cells #[.int .i64 i0, .int .u64 g0] 33))
      replace Rq := hid Rq
      replace Ru := hid Ru
      clear k1 k0
      go_wp2_with (at_builtin; refine wpList_plain rfl fun K hK' => ?_; refine wp_grow eH_len (by omega) _ _ 46 33 _ 16 rfl sl46 i33 rfl (.slice o2 j c2) (List.map st (List.range j)) rfl Ru1.out wr.heap.size 1 [(i0, g0)] rfl #[.int .i64 i0, .int .u64 g0] 33 (blk_new _ _) (preH _) (eH_one _) (by simp; omega) (by omega) ?_; intro v' w' q1 q2 q3; refine hK' _ _ ?_; clear hK' K)
      have Rq2 := Rq1.out.kp (kp_grown (F := fun x => (Value.slice o2 j c2).ownBlock = some x) q2 (fun b hb => hb)) (fun e => Ru1.out.ne Rq1.out.hq (by decide) e) (fun x hx => row_apart Rq1.out.hb Ru1.out (by decide) x hx)
      have kg := k1'.out.trans' (kp_grown (F := fun x => (Value.slice o2 j c2).ownBlock = some x) q2 (fun b hb => hb)) (fun x hx e => by have := nu x e; omega)
      have nv : ∀ b, v'.ownBlock = some b → w.heap.size ≤ b := fun b hb => by
        rcases q3 with e | ⟨b', e, h'⟩
        · exact nu b (by rw [← e]; exact hb)
        · rw [hb] at e; injection e with e; subst e
          exact Nat.le_trans k1'.out.size h'
      have Rv : RowAt w' 33 eH 2 v' ((List.range (j + 1)).map st) := by
        rw [List.range_succ, List.map_append]
        have : (i0, g0) = st j := by rw [hi0.out, hg0.out]
        rw [this] at q1
        exact q1
      have hlv : lenOf v' = j + 1 := by obtain ⟨o3, c3, h3, _⟩ := Rv.form; rw [h3]; simp [lenOf]
      clear q1 q2 q3 Rq1 Ru1 k1'
      have hvq := Rv.ne Rq2.hq (by decide)
      have hvb := row_apart Rv Rq2.hb (by decide)
      by_cases hjm : j < m
      · have HS := hid (tr_step (h.out.kn kg) o tr.out hjm Rq2)
        replace Rv := hid Rv
        replace hlv := hid hlv
        replace nv := hid nv
        clear Rq2
        refine HS.out.mono ?_
        rintro e W2 ⟨rfl, bv', R2, n2, k2⟩
        have R3 := Rv.out.kp k2 (fun x hx hf => by
          rcases hf with e | e
          · subst e; exact hvq hx
          · exact hvb x hx e)
        have kz := kg.trans' k2 (fun x hx hf => by
          rcases hf with e | e
          · omega
          · have := nb x e; omega)
        have nz : ∀ x, bv'.ownBlock = some x → w.heap.size ≤ x := fun x hx => by
          rcases n2 with e | ⟨x', e, h'⟩
          · exact nb x (by rw [← e]; exact hx)
          · rw [hx] at e; injection e with e; subst e
            exact Nat.le_trans kg.size h'
        replace R3 := hid R3
        replace R2 := hid R2
        clear HS k2 n2 hvq hvb LQ
        go_wp2_with fail
        refine ⟨⟨j + 1, bv', by omega, hlv.out, R3.out, nv.out, R2.out, nz, kz⟩, ?_⟩
        rw [hlv.out]
        have := hlu
        omega
      · obtain rfl : j = m := by omega
        have hb : bad = true := by
          cases bad
          · have h1 : (st j).2 = 0 := he.out
            rw [← hg0.out] at h1; omega
          · rfl
        subst hb
        have HS := hid (tr_bad (h.out.kn kg) o tr.out he.out Rq2)
        replace Rv := hid Rv
        replace hlv := hid hlv
        clear Rq2 hvq hvb
        refine HS.out.mono ?_
        rintro e W2 ⟨rfl, k2⟩
        go_wp2_with fail
        go_ret2
        exact ⟨rfl, kg.trans k2⟩
    · have hjm : j = m := by
        rcases Nat.lt_or_ge j m with h' | h'
        · obtain ⟨_, _, h1, _⟩ := tr.out.at_ j h'
          rw [← hg0.out] at h1; exact absurd h1 hpos
        · omega
      subst hjm
      have hb : bad = false := by
        cases bad
        · rfl
        · obtain ⟨_, _, _, _, _, _, h1, _⟩ := he.out
          rw [← hg0.out] at h1; exact absurd h1 hpos
      subst hb
      replace Rq := hid Rq
      replace Ru := hid Ru
      go_wp2_with fail
      go_ret2
      exact ⟨_, rfl, Ru.out, nu, kq⟩
end
end Go.Proofs.Ytaanbonbdhjbpaa
