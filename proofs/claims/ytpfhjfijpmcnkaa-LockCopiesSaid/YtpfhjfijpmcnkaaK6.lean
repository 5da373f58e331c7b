/- Walks through locks: Try, Release, whatever comes; a copy of the rows. -/
import Derived.Test.YtpfhjfijpmcnkaaK5
namespace Go.Proofs.Ytpfhjfijpmcnkaa
set_option linter.unusedSimpArgs false
set_option linter.unusedVariables false
open Go.RowKit
attribute [local go_sem ↓] Go.wp_at_zero Go.wp_at_succ
structure LOk (n : Nat) (L : List (Int × Int)) : Prop where
  n1 : 1 ≤ n
  n2 : n ≤ 8
  nd : ∀ id, (rowL L id).Nodup
  ge : ∀ s ∈ L, 0 ≤ s.1
theorem row_len (L : List (Int × Int)) (id : Int) : (rowL L id).length ≤ L.length := by
  unfold rowL; rw [List.length_map]; exact List.length_filter_le _ _
theorem LOk.nil {n : Nat} (n1 : 1 ≤ n) (n2 : n ≤ 8) : LOk n [] := ⟨n1, n2, fun _ => List.nodup_nil, by simp⟩
theorem LOk.out {n : Nat} {L : List (Int × Int)} (h : LOk n L) (t id : Int) : LOk n (outL L t id) := ⟨h.n1, h.n2, fun id' => by
  rw [row_out]; split
  · exact (h.nd id).filter _
  · exact h.nd id', fun s hs => h.ge s (List.mem_filter.1 hs).1⟩
theorem LOk.try_ {n : Nat} {L : List (Int × Int)} (h : LOk n L) (t id : Int) : LOk n (tryL n L t id) := ⟨h.n1, h.n2, fun id' => by
  unfold tryL; split
  · rename_i hc
    rw [row_app]; split
    · rename_i e; subst e
      rw [List.nodup_append]
      refine ⟨h.nd id', by simp, ?_⟩
      intro a ha b hb
      simp at hb; subst hb
      exact fun e => hc.2 (e ▸ ha)
    · exact h.nd id'
  · exact h.nd id', fun s hs => by
  unfold tryL at hs; split at hs
  · rename_i hc
    rcases List.mem_append.1 hs with h' | h'
    · exact h.ge s h'
    · simp at h'; subst h'; exact hc.1.2.2
  · exact h.ge s hs⟩
theorem try_len (n : Nat) (L : List (Int × Int)) (t id : Int) : (tryL n L t id).length ≤ L.length + 1 := by
  unfold tryL; split
  · simp
  · omega
theorem out_len (L : List (Int × Int)) (t id : Int) : (outL L t id).length ≤ L.length := List.length_filter_le _ _
section
variable {w w' : World} {p m n : Nat} {M : List (Int × Value)} {L L' : List (Int × Int)} {v : Value} {l : List Int}
theorem try_any (h : LAt w p m n M L) (o : LOk n L) {t id : Int} (hw : (Lit.int .i64 id).wf = true) (n2 : L.length ≤ 4000) :
    Calls Try.prog 13 #[.pointer (some ⟨p, 0, none⟩), .int .i64 t, .int .i64 id] w fun e w' => e = .returned (.bool (tryB n L t id)) ∧ ∃ M', LAt w' p m n M' (tryL n L t id) ∧ Kp (· = m) w w' := by
  have hl := row_len L id
  by_cases ho : okL n t id
  · by_cases ht : t ∈ rowL L id
    · refine (try_in h o.n1 ho hw (by omega) ht).mono ?_
      rintro e w1 ⟨rfl, k⟩
      have e1 : tryL n L t id = L := by rw [tryL, if_neg (fun h => h.2 ht)]
      rw [tryB, e1]
      exact ⟨by simp [ho], _, h.kn k, k.mono (fun _ h => h.elim)⟩
    · refine (try_new h o.n1 ho hw (by omega) ht).mono ?_
      rintro e w1 ⟨rfl, M', q, k⟩
      have e1 : tryL n L t id = L ++ [(id, t)] := by rw [tryL, if_pos ⟨ho, ht⟩]
      rw [tryB, e1, row_app, if_pos rfl]
      exact ⟨by simp [ho], _, q, k⟩
  · refine (try_out h o.n1 ho).mono ?_
    rintro e w1 ⟨rfl, rfl⟩
    have e1 : tryL n L t id = L := by rw [tryL, if_neg (fun h => ho h.1)]
    rw [tryB, e1]
    exact ⟨by simp [ho], _, h, Kp.refl _ _⟩
theorem leave_any (h : LAt w p m n M L) (o : LOk n L) {t id : Int} (hw : (Lit.int .i64 id).wf = true) (n2 : L.length ≤ 4000) :
    Calls Try.prog 32 #[.pointer (some ⟨p, 0, none⟩), .int .i64 t, .int .i64 id] w fun e w' => e = .returned (.tuple #[]) ∧ ∃ M', LAt w' p m n M' (outL L t id) ∧ Kp (· = m) w w' := by
  have hl := row_len L id
  by_cases ht : t ∈ rowL L id
  · exact leave_some h hw (by omega) (o.nd id) ht
  · refine (leave_none h hw (by omega) ht).mono ?_
    rintro e w1 ⟨rfl, k⟩
    refine ⟨rfl, _, (h.kn k).congr (fun id' => ?_), k.mono (fun _ h => h.elim)⟩
    rw [row_out]
    split
    · rename_i e; subst e
      exact List.filter_eq_self.2 (fun x hx => by simp; rintro rfl; exact ht hx)
    · rfl
def hasB (L : List (Int × Int)) (t id : Int) : Bool := isL (rowL L id) && hdL (rowL L id) == t
def relL (L : List (Int × Int)) (t id : Int) : List (Int × Int) := if hasB L t id then outL L t id else L
set_option maxRecDepth 100000 in
theorem release_any (h : LAt w p m n M L) (o : LOk n L) {t id : Int} (hw : (Lit.int .i64 id).wf = true) (n2 : L.length ≤ 4000) :
    Calls Try.prog 17 #[.pointer (some ⟨p, 0, none⟩), .int .i64 t, .int .i64 id] w fun e w' => e = .returned (.bool (hasB L t id)) ∧ ∃ M', LAt w' p m n M' (relL L t id) ∧ Kp (· = m) w w' := by
  have HH := hid (has_any (t := t) h o.n1 hw)
  have HL := hid (leave_any (t := t) h o hw n2)
  have H0 := hid h
  have hr : relL L t id = if hasB L t id then outL L t id else L := rfl
  unfold hasB at hr ⊢
  clear h
  cases hb : (isL (rowL L id) && hdL (rowL L id) == t)
  · rw [hb] at HH hr
    replace hr : relL L t id = L := hr
    replace hr := hid hr
    go_enter Try.func17, Try.ntmps17
    go_wp2_with fail
    refine HH.out.mono ?_
    rintro e w1 ⟨rfl, rfl⟩
    go_wp2_with fail
    go_ret
    exact ⟨rfl, _, by rw [hr.out]; exact H0.out, Kp.refl _ _⟩
  · rw [hb] at HH hr
    replace hr : relL L t id = outL L t id := hr
    replace hr := hid hr
    go_enter Try.func17, Try.ntmps17
    go_wp2_with fail
    refine HH.out.mono ?_
    rintro e w1 ⟨rfl, rfl⟩
    go_wp2_with fail
    refine HL.out.mono ?_
    rintro e w2 ⟨rfl, M', q, k⟩
    have Q := hid q
    clear q
    go_wp2_with fail
    go_ret
    exact ⟨rfl, _, by rw [hr.out]; exact Q.out, k⟩
theorem run_mclone {es : Array MapEntry} {c : Nat} (hb : w.heap[m]? = some (.map es c)) : (Extern.MapsClone.clone #[.iface 51 (.map (some m))]).run Try.prog w = .ok (.iface 51 (.map (some w.heap.size))) (w.alloc (.map es c)) := by
  show (getObj m >>= fun o => match o with
    | .map entries clock => (newObj (.map entries clock) >>= fun n => pure (Value.iface 51 (.map (some n))))
    | _ => stuck "maps.clone: a map expected").run Try.prog w = _
  simp [MapKept.run_getObj_map hb, Result.andThen, go_sem]
theorem mapsclone_any {q : IntKind} (h : MapAt q w m M) : Calls Try.prog 40 #[.map (some m)] w fun e w' => e = .returned (.map (some w.heap.size)) ∧ MapAt q w' w.heap.size M ∧ Kp NoB w w' := by
  have heq : ∀ a w, (binOp .eql 51 (.map (some a)) (.map none)).run Try.prog w = .ok (.bool false) w := fun _ _ => by kernel_rfl
  obtain ⟨es, c, hb, hE⟩ := h
  have hta : ∀ v w, (Instr.typeAssert (.iface 51 v) 20 51 false).run Try.prog w = .ok v w := fun _ _ => by kernel_rfl
  have hcl : (callFunc 47 #[.iface 51 (.map (some m))]).run Try.prog w = .ok (.value (.iface 51 (.map (some w.heap.size)))) (w.alloc (.map es c)) := by
    rw [run_callFunc_extern Try.func47 (by kernel_rfl) (by kernel_rfl) (by kernel_rfl) (e := Extern.MapsClone.clone) (by kernel_rfl), run_mclone hb]
    rfl
  replace hb := hid hb
  go_enter Try.func40, Try.ntmps40
  go_wp2_with fail
  go_ret
  exact ⟨rfl, ⟨es, c, blk_new w _, hE⟩, (Kp.refl _ w).alloc _⟩
end
end Go.Proofs.Ytpfhjfijpmcnkaa
