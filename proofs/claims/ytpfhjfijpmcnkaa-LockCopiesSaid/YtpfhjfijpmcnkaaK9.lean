/- Walks through the document's locks: without, Release, Drop. -/
import Derived.Test.YtpfhjfijpmcnkaaK8
namespace Go.Proofs.Ytpfhjfijpmcnkaa
set_option linter.unusedSimpArgs false
set_option linter.unusedVariables false
open Go.RowKit
attribute [local go_sem ↓] Go.wp_at_zero Go.wp_at_succ
def keepB (t id : Int) (s : Int × Int) : Bool := s.2 != t || (decide (0 ≤ id) && s.1 != id)
def withoutL (L : List (Int × Int)) (t id : Int) : List (Int × Int) := L.filter (keepB t id)
theorem without_out {L : List (Int × Int)} {t id : Int} (h : 0 ≤ id) : withoutL L t id = outL L t id := by
  unfold withoutL outL
  apply List.filter_congr
  intro s _
  unfold keepB
  cases h1 : (s.2 == t) <;> cases h2 : (s.1 == id) <;> simp [bne, h1, h2, h]
theorem without_drop {L : List (Int × Int)} {t id : Int} (h : id < 0) : withoutL L t id = dropL L t := by
  unfold withoutL dropL
  apply List.filter_congr
  intro s _
  unfold keepB
  have : ¬ 0 ≤ id := by omega
  simp [this]
section
variable {w w' : World} {p m q n : Nat} {M : List (Int × Value)} {v : Value} {L : List (Int × Int)}
theorem LAt.kq (h : LAt w p m n M L) {B : Array Value} (hq : w.heap[q]? = some (.cells B 63 (0, 0))) (k : Kp (· = q) w w') : LAt w' p m n M L := by
  have n1 : p ≠ q := by
    rintro rfl
    have := h.hp.symm.trans hq
    injection this with this
    injection this with _ h3 _
    cases h3
  have n2 : m ≠ q := by
    rintro rfl
    obtain ⟨es, c, h1, _⟩ := h.hm
    rw [h1] at hq; cases hq
  refine ⟨k.get h.hp n1, h.hm.kp k n2, h.k, fun id => (h.rows id).kp k ?_, h.ne⟩
  rintro b A rfl hb
  rw [hb] at hq
  injection hq with hq
  injection hq with _ h3 _
  cases h3
theorem RAt.km (h : RAt w q n v L) (hm : MapAt .i64 w m M) (k : Kp (· = m) w w') : RAt w' q n v L := by
  obtain ⟨es, c, h1, _⟩ := hm
  refine ⟨k.get h.hq (by rintro rfl; have := h.hq; rw [h1] at this; cases this), h.hv.kp k ?_⟩
  intro b hb e
  subst e
  rcases h.hv.2 with ⟨h2, _⟩ | ⟨g, cap, cur, h2, _, hg, _⟩
  · rw [h2] at hb; cases hb
  · rw [h2] at hb; injection hb with hb; subst hb
    rw [h1] at hg; cases hg
set_option maxRecDepth 100000 in
set_option maxHeartbeats 8000000 in
theorem without_any (h : RAt w q n v L) (n2 : L.length ≤ 4000) (t id : Int) :
    Calls Try.prog 46 #[.pointer (some ⟨q, 0, none⟩), .int .i64 t, .int .i64 id] w fun e w' => e = .returned (.tuple #[]) ∧ ∃ v', RAt w' q n v' (withoutL L t id) ∧ Kp (· = q) w w' := by
  obtain ⟨ov, cv, hvv, _⟩ := h.hv.form
  subst hvv
  have H0 := hid h
  have hql := blk_lt h.hq
  clear h
  go_enter Try.func46, Try.ntmps46
  go_wp2_with fail
  go_loopw [6, 7] (fun a i W => ∃ j : Nat, j ≤ L.length ∧ i = .int .i64 j ∧ RowAt W 65 eP 2 a (withoutL (L.take j) t id) ∧ (∀ b, a.ownBlock = some b → w.heap.size ≤ b) ∧ Kp NoB w W) (fun _ i _ => L.length - (intOf i).toNat)
  case atStart => exact ⟨0, Nat.zero_le _, rfl, by simpa [withoutL] using RowAt.nil w 65 eP 2, by simp [Value.ownBlock], Kp.refl _ _⟩
  case round =>
    obtain ⟨j, hj, rfl, hR, hO, hK⟩ := hrel
    have hA := H0.out.kn hK
    have Lp := loc2 hA.hq
    have b3 : (0 : Int) ≤ (j : Int) := Int.natCast_nonneg _
    by_cases hlt : j < L.length
    · have b4 : (j : Int) < (L.length : Int) := by omega
      have hk : L[j]? = some L[j] := List.getElem?_eq_getElem hlt
      obtain ⟨⟨x, y⟩, hxy⟩ : ∃ s, L[j] = s := ⟨_, rfl⟩
      rw [hxy] at hk
      obtain ⟨b, c', hv', hcc, hcell⟩ := H0.out.cells hk
      injection hv' with hv1 _ hv3
      subst hv1; subst hv3
      have Le := hcell _ hK
      have htk : withoutL (L.take (j + 1)) t id = withoutL (L.take j) t id ++ (if keepB t id (x, y) then [(x, y)] else []) := by
        rw [List.take_add_one, hk]
        simp only [Option.toList_some]
        unfold withoutL
        rw [List.filter_append]
        cases hkb : keepB t id (x, y) <;> simp [List.filter, hkb]
      have hlR : (withoutL (L.take j) t id).length ≤ (L.take j).length := List.length_filter_le _ _
      have hlR2 : (L.take j).length ≤ L.length := by rw [List.length_take]; omega
      replace hk := hid hk
      replace hxy := hid hxy
      replace hcell := hid hcell
      replace hA := hid hA
      generalize hrr : withoutL (L.take j) t id = R at *
      replace hrr := hid hrr
      obtain ⟨oa, ca, hav, hac, _⟩ := hR.form
      subst hav
      have hRa := hid (hR.alloc (.cells #[.int .i64 x, .int .i64 y] 65))
      have hR0 := hid hR
      clear hR
      by_cases hy : y = t
      · have hyb : (y != t) = false := by simpa using hy
        by_cases hi : 0 ≤ id
        · by_cases hx : x = id
          · have hxb : (x != id) = false := by simpa using hx
            have hkb := hid (show keepB t id (x, y) = false from by simp [keepB, hyb, hxb])
            clear hx hy
            replace htk := hid (show withoutL (L.take (j + 1)) t id = R from htk.trans (by simp [hkb.out]))
            go_wp2_with fail
            go_roundw
            case rel => exact ⟨j + 1, by omega, by go_num, by rw [htk.out]; exact hR0.out, hO, hK⟩
            case measure => simp [intOf]; omega
          · have hxb : (x != id) = true := by simpa using hx
            have hkb := hid (show keepB t id (x, y) = true from by simp [keepB, hi, hxb])
            clear hx hy
            replace htk := hid (show withoutL (L.take (j + 1)) t id = R ++ [(x, y)] from htk.trans (by simp [hkb.out]))
            go_wp2_with (at_builtin; refine wpList_plain rfl fun K hK' => ?_; refine wp_grow eP_len (by omega) _ _ 61 65 _ 16 rfl sl61 i65 rfl (.slice oa R.length ca) R rfl hRa.out wr.heap.size 1 [(x, y)] rfl #[.int .i64 x, .int .i64 y] 65 (blk_new _ _) (by intro a b z ha hb; match a, ha with | 0, ha => simp at ha; subst ha; match b, hb with | 0, _ => rfl | 1, _ => rfl) (oneP _) (by simp; omega) (by omega) ?_; intro v' w' q1 q2 q3; refine hK' _ _ ?_; clear hK' K)
            go_roundw
            case rel => exact ⟨j + 1, by omega, by go_num, by rw [htk.out]; exact q1, fun b' hb' => by
                rcases q3 with o | ⟨b2, o, h2⟩
                · exact hO b' (o ▸ hb')
                · rw [hb'] at o; injection o with o; subst o; exact Nat.le_trans (hK.alloc (.cells #[.int .i64 x, .int .i64 y] 65)).size h2,
              (hK.alloc (.cells #[.int .i64 x, .int .i64 y] 65)).trans' (kp_grown (F := fun b => (Value.slice oa R.length ca).ownBlock = some b) q2 (fun b hb => hb)) (fun b hb hg => absurd hb (by have := hO b hg; omega))⟩
            case measure => simp [intOf]; omega
        · have hi' : decide (0 ≤ id) = false := by simpa using hi
          have hkb := hid (show keepB t id (x, y) = false from by simp [keepB, hyb, hi'])
          clear hi hy
          replace htk := hid (show withoutL (L.take (j + 1)) t id = R from htk.trans (by simp [hkb.out]))
          go_wp2_with fail
          go_roundw
          case rel => exact ⟨j + 1, by omega, by go_num, by rw [htk.out]; exact hR0.out, hO, hK⟩
          case measure => simp [intOf]; omega
      · have hyb : (y != t) = true := by simpa using hy
        have hkb := hid (show keepB t id (x, y) = true from by simp [keepB, hyb])
        clear hy
        replace htk := hid (show withoutL (L.take (j + 1)) t id = R ++ [(x, y)] from htk.trans (by simp [hkb.out]))
        go_wp2_with (at_builtin; refine wpList_plain rfl fun K hK' => ?_; refine wp_grow eP_len (by omega) _ _ 61 65 _ 16 rfl sl61 i65 rfl (.slice oa R.length ca) R rfl hRa.out wr.heap.size 1 [(x, y)] rfl #[.int .i64 x, .int .i64 y] 65 (blk_new _ _) (by intro a b z ha hb; match a, ha with | 0, ha => simp at ha; subst ha; match b, hb with | 0, _ => rfl | 1, _ => rfl) (oneP _) (by simp; omega) (by omega) ?_; intro v' w' q1 q2 q3; refine hK' _ _ ?_; clear hK' K)
        go_roundw
        case rel => exact ⟨j + 1, by omega, by go_num, by rw [htk.out]; exact q1, fun b' hb' => by
            rcases q3 with o | ⟨b2, o, h2⟩
            · exact hO b' (o ▸ hb')
            · rw [hb'] at o; injection o with o; subst o; exact Nat.le_trans (hK.alloc (.cells #[.int .i64 x, .int .i64 y] 65)).size h2,
          (hK.alloc (.cells #[.int .i64 x, .int .i64 y] 65)).trans' (kp_grown (F := fun b => (Value.slice oa R.length ca).ownBlock = some b) q2 (fun b hb => hb)) (fun b hb hg => absurd hb (by have := hO b hg; omega))⟩
        case measure => simp [intOf]; omega
    · obtain rfl : j = L.length := by omega
      rw [List.take_length] at hR
      have hqb := hK.get H0.out.hq (fun h => h)
      obtain ⟨oa, ca, hav, hac, _⟩ := hR.form
      subst hav
      have hne := hR.ne hqb (by decide)
      have hR0 := hid hR
      clear hR
      replace hA := hid hA
      replace hqb := hid hqb
      go_wp2_with fail
      go_end0
      exact ⟨rfl, _, ⟨blk_setCell hqb.out 1 _, hR0.out.setCell _ _ hne⟩, (hK.mono (fun _ h => h.elim)).setCell (p := ⟨q, 1, none⟩) _ (fun _ => rfl)⟩
def rrelL (L : List (Int × Int)) (t id : Int) : List (Int × Int) := if hasB L t id then withoutL L t id else L
set_option maxRecDepth 100000 in
theorem rrelease_any (h : RAt w q n v L) (n2 : L.length ≤ 4000) (t id : Int) :
    Calls Try.prog 34 #[.pointer (some ⟨q, 0, none⟩), .int .i64 t, .int .i64 id] w fun e w' => e = .returned (.bool (hasB L t id)) ∧ ∃ v', RAt w' q n v' (rrelL L t id) ∧ Kp (· = q) w w' := by
  have HH := hid (rhas_any h n2 t id)
  have HW := hid (fun W (k : Kp NoB w W) => without_any (h.kn k) n2 t id)
  have H0 := hid h
  clear h
  cases hb : hasB L t id
  · rw [hb] at HH
    have hr := hid (show rrelL L t id = L from by rw [rrelL, if_neg (by simp [hb])])
    go_enter Try.func34, Try.ntmps34
    go_wp2_with fail
    refine HH.out.mono ?_
    rintro e w1 ⟨rfl, k1⟩
    go_wp2_with fail
    go_ret
    exact ⟨rfl, _, by rw [hr.out]; exact H0.out.kn k1, k1.mono (fun _ h => h.elim)⟩
  · rw [hb] at HH
    have hr := hid (show rrelL L t id = withoutL L t id from by rw [rrelL, if_pos hb])
    go_enter Try.func34, Try.ntmps34
    go_wp2_with fail
    refine HH.out.mono ?_
    rintro e w1 ⟨rfl, k1⟩
    go_wp2_with fail
    refine (HW.out _ k1).mono ?_
    rintro e w2 ⟨rfl, v', q1, k2⟩
    have Q := hid q1
    clear q1
    go_wp2_with fail
    go_ret
    exact ⟨rfl, _, by rw [hr.out]; exact Q.out, (k1.mono (fun _ h => h.elim)).trans k2⟩
set_option maxRecDepth 100000 in
theorem rdrop_any (h : RAt w q n v L) (n2 : L.length ≤ 4000) (t : Int) :
    Calls Try.prog 35 #[.pointer (some ⟨q, 0, none⟩), .int .i64 t] w fun e w' => e = .returned (.tuple #[]) ∧ ∃ v', RAt w' q n v' (dropL L t) ∧ Kp (· = q) w w' := by
  have HW := hid (without_any h n2 t (-1))
  rw [without_drop (by omega)] at HW
  clear h
  go_enter Try.func35, Try.ntmps35
  go_wp2_with fail
  refine HW.out.mono ?_
  rintro e w2 ⟨rfl, v', q1, k2⟩
  have Q := hid q1
  clear q1
  go_wp2_with fail
  go_end0
  exact ⟨rfl, _, Q.out, k2⟩
end
end Go.Proofs.Ytpfhjfijpmcnkaa
