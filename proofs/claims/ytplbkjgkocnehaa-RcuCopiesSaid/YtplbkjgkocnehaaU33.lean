/- Walks: a copy. -/
import Derived.Test.YtplbkjgkocnehaaU12
import Derived.Lib.SliceRun
import Derived.Lib.AppendZeros
namespace Go.Proofs.Ytplbkjgkocnehaa
set_option linter.unusedSimpArgs false
set_option linter.unusedVariables false
open Go.RowKit Go.Shelf
attribute [local go_sem ↓] Go.wp_at_zero Go.wp_at_succ
section
variable {w w' : World} {p m : Nat} {u v : Value} {D : List Nat} {H : List HV} {R : List (Ret × List Nat)} {K : Nat}
theorem oneNc (l : List Nat) : ∀ u ∈ l.flatMap eN, u.oneCell' = true := by
  intro u hu
  obtain ⟨x, _, hx⟩ := List.mem_flatMap.1 hu
  simp [eN] at hx
  subst hx; rfl
theorem run_mclone {M : List (Int × Value)} {es : Array MapEntry} {c : Nat} (hb : w.heap[m]? = some (.map es c)) : (Extern.MapsClone.clone #[.iface 71 (.map (some m))]).run Try.prog w = .ok (.iface 71 (.map (some w.heap.size))) (w.alloc (.map es c)) := by
  show (getObj m >>= fun o => match o with
    | .map entries clock => (newObj (.map entries clock) >>= fun n => pure (Value.iface 71 (.map (some n))))
    | _ => stuck "maps.clone: a map expected").run Try.prog w = _
  simp [MapKept.run_getObj_map hb, Result.andThen, go_sem]
theorem mapsclone_any {M : List (Int × Value)} {q : IntKind} (h : MapAt q w m M) : Calls Try.prog 45 #[.map (some m)] w fun e w' => e = .returned (.map (some w.heap.size)) ∧ MapAt q w' w.heap.size M ∧ Kp NoB w w' := by
  have heq : ∀ a w, (binOp .eql 71 (.map (some a)) (.map none)).run Try.prog w = .ok (.bool false) w := fun _ _ => by kernel_rfl
  obtain ⟨es, c, hb, hE⟩ := h
  have hta : ∀ v w, (Instr.typeAssert (.iface 71 v) 20 71 false).run Try.prog w = .ok v w := fun _ _ => by kernel_rfl
  have hcl : (callFunc 57 #[.iface 71 (.map (some m))]).run Try.prog w = .ok (.value (.iface 71 (.map (some w.heap.size)))) (w.alloc (.map es c)) := by
    rw [run_callFunc_extern Try.func57 (by kernel_rfl) (by kernel_rfl) (by kernel_rfl) (e := Extern.MapsClone.clone) (by kernel_rfl), run_mclone (M := M) hb]
    rfl
  replace hb := hid hb
  go_enter Try.func45, Try.ntmps45
  go_wp2_with fail
  go_ret
  exact ⟨rfl, ⟨es, c, blk_new w _, hE⟩, (Kp.refl _ w).alloc _⟩
set_option maxRecDepth 100000 in
set_option maxHeartbeats 4000000 in
theorem cloneI_any (h : RowAt w 3 eN 1 v D) (n1 : 1 ≤ D.length) (n8 : D.length ≤ 8) : Calls Try.prog 44 #[v] w fun e w' => ∃ v', e = .returned v' ∧ RowAt w' 3 eN 1 v' D ∧ New w v' ∧ Kp NoB w w' := by
  obtain ⟨b, c, A, rfl, hb, hA, hc, _⟩ := h.pos eN_len (by omega)
  have en := fun w => Lib.run_eql_slice_nil (P := Try.prog) w 43 3 (some ⟨b, 0, none⟩) D.length c 0 0 u43
  have E0 : RowAt (w.alloc (.cells #[] 3)) 3 eN 1 (.slice (some ⟨w.heap.size, 0, none⟩) 0 0) [] := RowAt.new eN_len w 3 [] (by simp [maxLen])
  obtain ⟨v', w2, hr, q1, q2, q3⟩ := run_grow_sl (P := Try.prog) (ty := 43) eN_len (by omega) u43 i3 rfl E0 ((h.alloc (.cells #[] 3)).sl eN_len (by omega)) (oneNc D) (by simp; omega) (by omega)
  rw [List.nil_append] at q1
  have kA : Kp NoB w w2 := ((Kp.refl NoB w).alloc (.cells #[] 3)).trans' (kp_grown (F := fun b => b = w.heap.size) q2 (fun b hb => by injection hb with hb; exact hb.symm)) (fun b hb e => by omega)
  have hnw : New w v' := fun b hb => by
    rcases q3 with e | ⟨b', e, h'⟩
    · rw [hb] at e; injection e with e
      have e : b = w.heap.size := e
      omega
    · rw [hb] at e; injection e with e; subst e
      have : w.heap.size + 1 ≤ b := by simpa using h'
      omega
  obtain ⟨o2, c2, hv, _⟩ := q1.form
  subst hv
  replace q1 := hid q1
  replace kA := hid kA
  replace hnw := hid hnw
  replace hr := hid hr
  clear h E0 q2 q3 hb hA
  go_enter Try.func44, Try.ntmps44
  go_wp2_with (at_builtin; refine Lib.wpList_append_run _ rfl _ _ _ _ rfl _ _ rfl rfl _ _ hr.out ?_)
  go_ret
  exact ⟨_, rfl, q1.out, hnw.out, kA.out⟩
end
end Go.Proofs.Ytplbkjgkocnehaa
