/- Walks through timers: Due. -/
import Derived.Test.YtackanpobfaglaaRRRRL8
namespace Go.Proofs.YtackanpobfaglaaRRRR
set_option linter.unusedSimpArgs false
set_option linter.unusedVariables false
open Go.RowKit
attribute [local go_sem ↓] Go.wp_at_zero Go.wp_at_succ
theorem u49 : Try.prog.underlying 49 = some (.slice 22) := by kernel_rfl
theorem i22 : (Try.prog.info? 22).map (fun i => (i.zero, i.size, i.bytes)) = some (some (.int .i64 0), 1, 8) := by kernel_rfl
def nx : List (Int × Int) → Int | [] => 0 | x :: _ => x.1
def nb : List (Int × Int) → Bool | [] => false | _ :: _ => true
theorem nx_nil : nx [] = 0 := rfl
theorem nb_nil : nb [] = false := rfl
theorem nx_cons (x y : Int) (l : List (Int × Int)) : nx ((x, y) :: l) = x := rfl
theorem nb_cons (x y : Int) (l : List (Int × Int)) : nb ((x, y) :: l) = true := rfl
def dueL (now : Int) : List Int → List (Int × Int) → List Int × List (Int × Int)
  | o, [] => (o, [])
  | o, (x, y) :: l => if x ≤ now then dueL now (o ++ [y]) l else (o, (x, y) :: l)
def tlen (W : World) (p : Nat) : Nat := match W.cell? ⟨p, 0, none⟩ with | some (.slice _ n _) => n | _ => 0
section
variable {w w' : World} {p : Nat} {v : Value} {l : List (Int × Int)}
theorem TAt.tlen (h : TAt w p v l) : tlen w p = l.length := by
  obtain ⟨ov, cv, hvv, _⟩ := h.hv.form
  subst hvv
  simp [Go.Proofs.YtackanpobfaglaaRRRR.tlen, (loc1 h.hp).1]
theorem next_any (h : TAt w p v l) : Calls Try.prog 13 #[.pointer (some ⟨p, 0, none⟩)] w fun e w' => e = .returned (.tuple #[.int .u64 (nx l), .bool (nb l)]) ∧ w' = w := by
  match l, h with
  | [], h => exact next_none h
  | (x, y) :: l, h => exact next_some h
theorem delete_first {b c : Nat} {x : Int × Int} (hv : RowAt w 58 eT 2 (.slice (some ⟨b, 0, none⟩) (l.length + 1) c) (x :: l)) (n2 : l.length ≤ 3999) :
    Calls Try.prog 19 #[.slice (some ⟨b, 0, none⟩) (l.length + 1) c, .int .i64 0, .int .i64 1] w fun e w' => e = .returned (.slice (some ⟨b, 0, none⟩) l.length c) ∧ RowAt w' 58 eT 2 (.slice (some ⟨b, 0, none⟩) l.length c) l ∧ Kp (fun b' => b' = b) w w' :=
  delete_any (l := x :: l) (i := 0) hv (by simp; omega) (by simp)
set_option maxRecDepth 100000 in
set_option maxHeartbeats 4000000 in
theorem due_any (h : TAt w p v l) (n2 : l.length ≤ 3999) {now : Int} : Calls Try.prog 12 #[.pointer (some ⟨p, 0, none⟩), .int .u64 now] w fun e w' => ∃ vo v', e = .returned vo ∧ RowAt w' 22 eS 1 vo (dueL now [] l).1 ∧ TAt w' p v' (dueL now [] l).2 ∧ v'.ownBlock = v.ownBlock ∧ (∀ b, vo.ownBlock = some b → w.heap.size ≤ b) ∧ Kp (fun b => b = p ∨ v.ownBlock = some b) w w' := by
  have HN := hid (next_any h)
  have H0 := hid h
  clear h
  go_enter Try.func12, Try.ntmps12
  go_wp2_with fail
  refine HN.out.mono ?_
  rintro e w1 ⟨rfl, rfl⟩
  clear HN
  go_wp2_with fail
  go_loopw [4, 5, 6] (fun a b c W => ∃ (out : List Int) (v1 : Value) (l1 : List (Int × Int)), RowAt W 22 eS 1 a out ∧ out.length + l1.length ≤ 3999 ∧ TAt W p v1 l1 ∧ v1.ownBlock = v.ownBlock ∧ b = .int .u64 (nx l1) ∧ c = .bool (nb l1) ∧ Hid (dueL now out l1 = dueL now [] l) ∧ (∀ b, a.ownBlock = some b → w1.heap.size ≤ b) ∧ Kp (fun b => b = p ∨ v.ownBlock = some b) w1 W) (fun _ _ _ W => tlen W p)
  case atStart => exact ⟨[], v, l, RowAt.nil _ _ _ _, by simp; omega, H0.out, rfl, rfl, rfl, hid rfl, by simp [Value.ownBlock], Kp.refl _ _⟩
  case round =>
    obtain ⟨out, v1, l1, hR, hn, hT, hv1, rfl, rfl, hD, hO, hK⟩ := hrel
    have hD' := hD.out
    match l1, hn, hT, hD, hD' with
    | [], hn, hT, hD, hD' =>
      rw [dueL] at hD'
      have e1 : (dueL now [] l).1 = out := by rw [← hD']
      have e2 : (dueL now [] l).2 = [] := by rw [← hD']
      replace hT := hid hT
      simp only [nx_nil, nb_nil]
      clear hD hD'
      go_wp2_with fail
      go_ret
      exact ⟨_, v1, rfl, by rw [e1]; exact hR, by rw [e2]; exact hT.out, hv1, hO, hK⟩
    | (x, y) :: l2, hn, hT, hD, hD' =>
      simp only [nx_cons, nb_cons]
      rw [dueL] at hD'
      by_cases hx : x ≤ now
      · rw [if_pos hx] at hD'
        obtain ⟨b, c, A, rfl, hb, hA, hcl, _⟩ := hT.hv.pos eT_len (by simp)
        have hpb : p ≠ b := fun e => hT.ne (by subst e; rfl)
        obtain ⟨oo, co, rfl, _⟩ := hR.form
        have Lp := loc1 hT.hp
        have Ly : wr.cell? ⟨b, 1, none⟩ = some (.int .i64 y) := by rw [cell_of hb]; exact hA 0 1 _ rfl (by omega)
        have hbl := blk_lt hb
        have htl := hT.tlen
        have hR0 := hid hR
        have hT0 := hid hT
        have hRb : (Value.slice oo out.length co).ownBlock ≠ some b := hR.ne hb (by decide)
        have hRp : (Value.slice oo out.length co).ownBlock ≠ some p := hR.ne hT.hp (by decide)
        have hR2 := hid (hR.alloc (.cells #[.int .i64 y] 22))
        have hlen : (((x, y) :: l2).length : Int) = (l2.length : Int) + 1 := by simp
        have b5 : (0 : Int) < (l2.length : Int) + 1 := by omega
        have hn' := hn
        simp only [List.length_cons] at hn' htl Lp hb hT0 hcl
        clear hT hR hA hD
        replace hb := hid hb
        replace hD' := hid hD'
        try simp only [List.length_cons]
        go_wp2_with (at_builtin; refine wpList_plain rfl fun K hK => ?_; refine wp_grow eS_len (by omega) _ _ 49 22 _ 8 rfl u49 i22 rfl (.slice oo out.length co) out rfl hR2.out wr.heap.size 1 [y] rfl #[.int .i64 y] 22 (blk_new _ _) (by intro a j x ha hj; match a, j, ha with | 0, 0, ha => simp at ha; subst ha; rfl) (by simp [eS, Value.oneCell']) (by simp; omega) (by omega) ?_; intro v' w' q1 q2 q3; have hp2 := grown_get q2 (blk_alloc (o' := .cells #[.int .i64 y] 22) hT0.out.hp) hRp; have Lp2 := loc1 hp2; refine hK _ _ ?_; clear hK K)
        have kg := kp_grown (F := fun b => (Value.slice oo out.length co).ownBlock = some b) q2 (fun b h => h)
        have hv2 := (hT0.out.hv.alloc (.cells #[.int .i64 y] 22)).kp kg (fun b' hb' hF => by
          injection hb' with hb'
          subst hb'
          exact hRb hF)
        refine (delete_first hv2 (by omega)).mono ?_
        rintro e w2 ⟨rfl, d1, d2⟩
        have hb2 := kg.get (blk_alloc (o' := .cells #[.int .i64 y] 22) hb.out) hRb
        have hp3 := d2.get hp2 hpb
        have Lp3 := loc1 hp3
        have T2 := hid (show TAt (w2.setCell ⟨p, 0, none⟩ (.slice (some ⟨b, 0, none⟩) l2.length c)) p (.slice (some ⟨b, 0, none⟩) l2.length c) l2 from ⟨blk_setCell hp3 0 _, d1.setCell _ _ (d1.ne hp3 (t := 55) (by decide))⟩)
        have HN2 := hid (next_any T2.out)
        have R2 := hid ((q1.kp d2 (fun b' hb' he => q1.ne hb2 (by decide) (by rw [hb', he]))).setCell ⟨p, 0, none⟩ (.slice (some ⟨b, 0, none⟩) l2.length c) (q1.ne hp2 (by decide)))
        have K2 := hid ((((hK.alloc (.cells #[.int .i64 y] 22)).trans' kg (fun b' hb' hg => absurd hb' (by have := hO b' hg; omega))).trans (d2.mono (fun b' hb' => Or.inr (by subst hb'; exact hv1.symm)))).setCell (p := ⟨p, 0, none⟩) (.slice (some ⟨b, 0, none⟩) l2.length c) (fun _ => Or.inl rfl))
        have O2 : ∀ b, v'.ownBlock = some b → w1.heap.size ≤ b := by
          intro b' hb'
          rcases q3 with q3 | ⟨b3, q3, h3⟩
          · exact hO b' (q3 ▸ hb')
          · rw [hb'] at q3; injection q3 with q3; subst q3
            exact Nat.le_trans (hK.alloc (.cells #[.int .i64 y] 22)).size h3
        replace O2 := hid O2
        replace hv1 := hid hv1
        clear q1 q2 q3 kg hv2 d1 d2 hO hK Lp Lp2 Ly hp2
        replace hp3 := hid hp3
        replace hb2 := hid hb2
        go_wp2_with fail
        refine HN2.out.mono ?_
        rintro e w3 ⟨rfl, rfl⟩
        go_wp2_with fail
        go_roundw
        case rel => exact ⟨out ++ [y], _, l2, R2.out, by simp; omega, T2.out, hv1.out, rfl, rfl, hD', O2.out, K2.out⟩
        case measure => rw [T2.out.tlen, htl]; omega
      · rw [if_neg hx] at hD'
        have e1 : (dueL now [] l).1 = out := by rw [← hD']
        have e2 : (dueL now [] l).2 = (x, y) :: l2 := by rw [← hD']
        replace hT := hid hT
        have hx' : (x ≤ now) = False := by simpa using hx
        replace e1 := hid e1
        replace e2 := hid e2
        clear hD hD'
        go_wp2_with fail
        go_ret
        exact ⟨_, rfl, by rw [e1.out]; exact hR, _, by rw [e2.out]; exact hT.out, hv1, hO, hK⟩
end
end Go.Proofs.YtackanpobfaglaaRRRR
