/- Walks through locks: Drop. -/
import Derived.Test.YtpfhjfijpmcnkaaK6
namespace Go.Proofs.Ytpfhjfijpmcnkaa
set_option linter.unusedSimpArgs false
set_option linter.unusedVariables false
open Go.RowKit
attribute [local go_sem ↓] Go.wp_at_zero Go.wp_at_succ
def dropL (L : List (Int × Int)) (t : Int) : List (Int × Int) := L.filter (fun s => s.2 != t)
theorem row_drop (L : List (Int × Int)) (t id : Int) : rowL (dropL L t) id = (rowL L id).filter (fun x => x != t) := by
  unfold rowL dropL
  rw [List.filter_filter, List.filter_map, List.filter_filter]
  congr 1
  apply List.filter_congr
  intro s _
  simp [Function.comp, Bool.and_comm]
theorem drop_len (L : List (Int × Int)) (t : Int) : (dropL L t).length ≤ L.length := List.length_filter_le _ _
theorem LOk.drop {n : Nat} {L : List (Int × Int)} (h : LOk n L) (t : Int) : LOk n (dropL L t) := ⟨h.n1, h.n2, fun id => by rw [row_drop]; exact (h.nd id).filter _, fun s hs => h.ge s (List.mem_filter.1 hs).1⟩
def itLeft (W : World) (r m : Nat) : Nat := match W.heap[m]?, W.heap[r]? with | some (.map es _), some (.mapIter _ _ seen _) => (leftOf es seen).size | _, _ => 0
section
variable {w w' : World} {p m n : Nat} {M : List (Int × Value)} {L L' : List (Int × Int)} {v : Value} {l : List Int}
theorem IterAt.left {q : IntKind} {r c : Nat} {S : List Int} (h : IterAt q w r m M S c) : itLeft w r m = c := by
  obtain ⟨es, ck, seen, c0, h1, _, _, h2, _, h3, _⟩ := h
  simp [itLeft, h1, h2, h3]
theorem LAt.none (h : LAt w p m n M L) {id : Int} (hi : mget M id = none) : rowL L id = [] := by
  have := h.rows id
  rw [hi] at this
  rcases this with ⟨_, h⟩ | ⟨b, f, c, A, h, _⟩
  · exact h
  · cases h
set_option maxRecDepth 100000 in
set_option maxHeartbeats 4000000 in
theorem drop_any (h : LAt w p m n M L) (o : LOk n L) {t : Int} (n2 : L.length ≤ 4000) :
    Calls Try.prog 20 #[.pointer (some ⟨p, 0, none⟩), .int .i64 t] w fun e w' => e = .returned (.tuple #[]) ∧ ∃ M', LAt w' p m n M' (dropL L t) ∧ Kp (· = m) w w' := by
  have HT := hid (there_yes h o.n1)
  have HC := hid (mapsclone_any h.hm)
  have Lp := loc2 h.hp
  have hml := h.lt.2
  have hpm := h.pm
  have H0 := hid h
  clear h
  go_enter Try.func20, Try.ntmps20
  go_wp2_with fail
  refine HT.out.mono ?_
  rintro e w1 ⟨rfl, rfl⟩
  go_wp2_with fail
  refine HC.out.mono ?_
  rintro e w2 ⟨rfl, c1, k1⟩
  obtain ⟨w3, hrg, ⟨cnt, I3⟩, k3⟩ := c1.range (P := Try.prog) k51
  have L3 := hid ((H0.out.kn k1).kn k3)
  replace I3 := hid I3
  have K3 := hid (k1.trans k3)
  have h3r : w.heap.size < w2.heap.size := c1.lt
  clear c1 k1 k3
  go_wp2_with fail
  go_loopw [4] (fun _ W => ∃ (S : List Int) (c : Nat) (M1 : List (Int × Value)) (L1 : List (Int × Int)), IterAt .i64 W w2.heap.size w.heap.size M S c ∧ LAt W p m n M1 L1 ∧ LOk n L1 ∧ L1.length ≤ L.length ∧ Hid (∀ id, rowL L1 id = if id ∈ S then (rowL L id).filter (fun x => x != t) else rowL L id) ∧ Kp (· = m) w W) (fun _ W => itLeft W w2.heap.size w.heap.size)
  case atStart => exact ⟨[], cnt, M, L, I3.out, L3.out, o, Nat.le_refl _, hid (fun id => by simp), K3.out.mono (fun _ h => h.elim)⟩
  case round =>
    obtain ⟨S, c, M1, L1, hI, hL, hO, hle, hrow, hK⟩ := hrel
    have hm1 := hL.lt.2
    rcases hI.next (P := Try.prog) H0.out.k 0 with ⟨hS, hnx⟩ | ⟨k, v, w5, c', hkM, hkS, hnx, hI', hlt, hk5, hen⟩
    · replace hI := hid hI
      replace hL := hid hL
      replace hS := hid hS
      go_wp2_with fail
      go_end0
      refine ⟨rfl, M1, hL.out.congr (fun id => ?_), hK⟩
      rw [hrow.out, row_drop]
      split
      · rfl
      · rename_i hn
        have : mget M id = none := by
          rw [mget_none]
          intro q hq e
          exact hn (e ▸ hS.out q hq)
        rw [H0.out.none this]; rfl
    · have hL5 : LAt w5 p m n M1 L1 := by
        have n1 : w2.heap.size ≠ p := by have := H0.out.lt.1; omega
        have n2 : w2.heap.size ≠ m := by omega
        refine ⟨hk5.get hL.hp (Ne.symm n1), hL.hm.kp hk5 (Ne.symm n2), hL.k, fun id => (hL.rows id).kp hk5 ?_, hL.ne⟩
        rintro b A rfl hb
        obtain ⟨es, ck, seen, c0, _, _, _, h4, _⟩ := hI
        rw [h4] at hb; cases hb
      have hw : (Lit.int .i64 k).wf = true := H0.out.k.w _ hkM
      have HLv := hid (leave_any (t := t) hL5 hO hw (by omega))
      have hml := hI.left
      replace hI := hid hI
      replace hI' := hid hI'
      replace hL := hid hL
      replace hL5 := hid hL5
      replace hkM := hid hkM
      replace hkS := hid hkS
      replace hw := hid hw
      have KK := hid (hK.trans' hk5 (fun b hb e => absurd hb (by subst e; omega)))
      clear hK hk5
      go_wp2_with fail
      refine HLv.out.mono ?_
      rintro e w6 ⟨rfl, M', q, k6⟩
      have I6 := hI'.out.kp k6 (by omega) (by omega)
      have Q := hid q
      have K6 := hid (KK.out.trans k6)
      have ml6 := I6.left
      replace I6 := hid I6
      clear q k6 hnx
      go_wp2_with fail
      go_roundw
      case rel => exact ⟨k :: S, c', M', _, I6.out, Q.out, hO.out t k, Nat.le_trans (out_len _ _ _) hle, hid (fun id => by
        rw [row_out]
        by_cases e : id = k
        · subst e
          rw [if_pos rfl, if_pos List.mem_cons_self, hrow.out, if_neg hkS.out]
        · rw [if_neg e, hrow.out]
          simp [e]), K6.out⟩
      case measure => rw [ml6, hml]; exact hlt
end
end Go.Proofs.Ytpfhjfijpmcnkaa
