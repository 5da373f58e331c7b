/- Maps whose keys are integers, known whole: what a look-up, a store, a delete, a copy, a range come to. No program in sight. -/
import Derived.Test.YtplbkjgkocnehaaLibA
import Derived.Maps.Own
import Derived.Maps.OwnOps
import Derived.Maps.Range
namespace Go.Proofs.Ytplbkjgkocnehaa
open Go.RowKit Go.Maps Go.ChangeMaps

/-- the map's block at m holds just the entries M (key, element), in this order -/
def Ents (q : IntKind) (es : Array MapEntry) (M : List (Int × Value)) : Prop := es.toList.map (fun e => (e.key, e.val)) = M.map (fun p => (Value.int q p.1, p.2))
def Born (es : Array MapEntry) (clock : Nat) : Prop := (∀ x ∈ es.toList, x.born < clock) ∧ (es.toList.map (·.born)).Nodup
def MapAt (q : IntKind) (w : World) (m : Nat) (M : List (Int × Value)) : Prop := ∃ es clock, w.heap[m]? = some (.map es clock) ∧ Ents q es M ∧ Born es clock
/-- the list as a map -/
def mget (M : List (Int × Value)) (k : Int) : Option Value := (M.find? (fun p => p.1 == k)).map (·.2)
def mput (M : List (Int × Value)) (k : Int) (v : Value) : List (Int × Value) := if (mget M k).isSome then M.map (fun p => if p.1 = k then (k, v) else p) else M ++ [(k, v)]
structure MOk (q : IntKind) (M : List (Int × Value)) : Prop where
  u : (M.map (·.1)).Nodup
  w : ∀ p ∈ M, (Lit.int q p.1).wf = true
def Uniq (M : List (Int × Value)) : Prop := (M.map (·.1)).Nodup

section
variable {q : IntKind} {w w' : World} {m : Nat} {M : List (Int × Value)}
theorem MapAt.kp {F : Nat → Prop} (h : MapAt q w m M) (k : Kp F w w') (hm : ¬ F m) : MapAt q w' m M := by
  obtain ⟨es, c, hb, hE⟩ := h
  exact ⟨es, c, k.get hb hm, hE⟩
theorem MapAt.alloc (h : MapAt q w m M) (o : Obj) : MapAt q (w.alloc o) m M := by
  obtain ⟨es, c, hb, hE⟩ := h
  exact ⟨es, c, blk_alloc hb, hE⟩
theorem MapAt.drew (h : MapAt q w m M) : MapAt q w.drew m M := h
theorem MapAt.lt (h : MapAt q w m M) : m < w.heap.size := by
  obtain ⟨es, c, hb, hE⟩ := h
  exact blk_lt hb
theorem MapAt.setCell (h : MapAt q w m M) {a : Addr} (v : Value) (hne : m ≠ a.block) : MapAt q (w.setCell a v) m M := by
  obtain ⟨es, c, hb, hE⟩ := h
  exact ⟨es, c, blk_far hb v hne, hE⟩
theorem MapAt.new (q : IntKind) (w : World) : MapAt q (w.alloc (.map #[] 0)) w.heap.size [] := ⟨#[], 0, blk_new _ _, rfl, by simp, by simp⟩

theorem ents_get {es : Array MapEntry} (h : Ents q es M) (i : Nat) : es.toList[i]?.map (fun e => (e.key, e.val)) = M[i]?.map (fun p => (Value.int q p.1, p.2)) := by
  rw [← List.getElem?_map, h, List.getElem?_map]
theorem ents_len {es : Array MapEntry} (h : Ents q es M) : es.size = M.length := by
  have := congrArg List.length h
  simpa using this
theorem mget_none {k : Int} : mget M k = none ↔ ∀ p ∈ M, p.1 ≠ k := by
  simp [mget, List.find?_eq_none]
theorem mget_mem {k : Int} {v : Value} (h : mget M k = some v) : (k, v) ∈ M := by
  unfold mget at h
  obtain ⟨p, hp, rfl⟩ := Option.map_eq_some_iff.1 h
  have h1 := List.mem_of_find?_eq_some hp
  have h2 := List.find?_some hp
  simp at h2
  subst h2; exact h1
theorem uniq_at (hU : Uniq M) {k : Int} {v : Value} (h : (k, v) ∈ M) : mget M k = some v := by
  induction M with
  | nil => simp at h
  | cons p M ih =>
    unfold Uniq at hU
    rw [List.map_cons, List.nodup_cons] at hU
    rcases List.mem_cons.1 h with rfl | h'
    · simp [mget]
    · have hne : p.1 ≠ k := fun e => hU.1 (by rw [e]; exact List.mem_map_of_mem (f := (·.1)) h')
      have := ih hU.2 h'
      unfold mget at this ⊢
      rw [List.find?_cons_of_neg (by simpa using hne)]; exact this
variable {P : Program} {t kt e : TypeId}
theorem key_of (hk : P.underlying kt = some (.int q)) (k : Int) (hw : (Lit.int q k).wf = true) : keyOf P kt (.int q k) = some (.int q k) := by
  simp [keyOf, hk, mapKey, hw]
theorem ents_keys {es : Array MapEntry} (hk : P.underlying kt = some (.int q)) (h : Ents q es M) (hM : MOk q M) : ∀ x ∈ es.toList, ∃ l, keyOf P kt x.key = some l := by
  intro x hx
  have : (x.key, x.val) ∈ es.toList.map (fun e => (e.key, e.val)) := List.mem_map_of_mem (f := fun e : MapEntry => (e.key, e.val)) hx
  rw [h] at this
  obtain ⟨p, hpM, hp⟩ := List.mem_map.1 this
  injection hp with hp _
  exact ⟨_, by rw [← hp]; exact key_of hk p.1 (hM.w p hpM)⟩
/-- the key is found, or not -/
theorem find_at {es : Array MapEntry} (hk : P.underlying kt = some (.int q)) (h : Ents q es M) (hM : MOk q M) (k : Int) (hw : (Lit.int q k).wf = true) (w : World) :
    (∃ v j, mget M k = some v ∧ (Instr.findKey kt (.int q k) es.toList).run P w = .ok (some (j, v)) w ∧ M[j]? = some (k, v) ∧ ∃ x, es.toList[j]? = some x ∧ x.key = .int q k ∧ x.val = v) ∨ (mget M k = none ∧ (Instr.findKey kt (.int q k) es.toList).run P w = .ok none w) := by
  rcases (int_keyed hk).find w (key_of hk k hw) es.toList (ents_keys hk h hM) with ⟨hr, hn⟩ | ⟨j, x, hr, hj, hx⟩
  · refine .inr ⟨mget_none.2 fun p hp e => ?_, hr⟩
    have : (Value.int q p.1, p.2) ∈ M.map (fun p => (Value.int q p.1, p.2)) := List.mem_map_of_mem (f := fun p : Int × Value => (Value.int q p.1, p.2)) hp
    rw [← h] at this
    obtain ⟨x, hx, he⟩ := List.mem_map.1 this
    injection he with he _
    exact hn x hx (by rw [he, e])
  · have h1 := ents_get h j
    rw [hj] at h1
    obtain ⟨p, hp, he⟩ := Option.map_eq_some_iff.1 h1.symm
    injection he with he1 he2
    have hx' := hx
    rw [hx] at he1
    injection he1 with _ he1
    have hp' : M[j]? = some (k, x.val) := by rw [hp, ← he2]; congr 1; rw [Prod.ext_iff]; exact ⟨he1, rfl⟩
    exact .inl ⟨x.val, j, uniq_at hM.u (List.mem_of_getElem? hp'), hr, hp', x, hj, hx, rfl⟩
/-- x[k], with or without ok -/
theorem MapAt.look (h : MapAt q w m M) (hM : MOk q M) (hk : P.underlying kt = some (.int q)) (ht : P.underlying t = some (.map kt e)) {z : Value} (hz : (zeroValue e).run P w = .ok z w) (k : Int) (hw : (Lit.int q k).wf = true) (ok : Bool) :
    (Instr.lookup t (.map (some m)) (.int q k) ok).run P w = .ok (if ok then .tuple #[(mget M k).getD z, .bool (mget M k).isSome] else (mget M k).getD z) w := by
  obtain ⟨es, c, hb, hE⟩ := h
  have hc := fun em => (int_keyed hk).check w em (key_of hk k hw)
  rcases find_at hk hE.1 hM k hw w with ⟨v, j, hg, hf, _⟩ | ⟨hg, hf⟩
  · rw [hg]
    simp [Instr.lookup, run_underlying ht, MapKept.run_getObj_map hb, hc, hf, Result.andThen]
  · rw [hg]
    simp [Instr.lookup, run_underlying ht, MapKept.run_getObj_map hb, hc, hf, hz, Result.andThen]
theorem mget_put (k : Int) (v : Value) (k' : Int) : mget (mput M k v) k' = if k' = k then some v else mget M k' := by
  unfold mput
  split
  · rename_i hs
    by_cases e : k' = k
    · subst e
      rw [if_pos rfl]
      obtain ⟨v0, hv0⟩ := Option.isSome_iff_exists.1 hs
      have hm := mget_mem hv0
      clear hv0 hs
      induction M with
      | nil => simp at hm
      | cons p M ih =>
        by_cases hp : p.1 = k'
        · simp [mget, hp]
        · have hm' : (k', v0) ∈ M := by
            rcases List.mem_cons.1 hm with rfl | h
            · exact absurd rfl hp
            · exact h
          have := ih hm'
          unfold mget at this ⊢
          rw [List.map_cons, if_neg hp, List.find?_cons_of_neg (by simpa using hp)]
          exact this
    · rw [if_neg e]
      clear hs
      induction M with
      | nil => rfl
      | cons p M ih =>
        unfold mget at ih ⊢
        rw [List.map_cons]
        by_cases hp : p.1 = k
        · rw [if_pos hp, List.find?_cons_of_neg (by simp; exact fun h => e h.symm), List.find?_cons_of_neg (by simp; rw [hp]; exact fun h => e h.symm)]
          exact ih
        · rw [if_neg hp]
          by_cases hq : p.1 = k'
          · rw [List.find?_cons_of_pos (by simpa using hq), List.find?_cons_of_pos (by simpa using hq)]
          · rw [List.find?_cons_of_neg (by simpa using hq), List.find?_cons_of_neg (by simpa using hq)]
            exact ih
  · rename_i hs
    have hn : mget M k = none := by simpa using hs
    have hn' := mget_none.1 hn
    unfold mget
    rw [List.find?_append]
    by_cases e : k' = k
    · subst e
      rw [if_pos rfl]
      have : M.find? (fun p => p.1 == k') = none := by simp [List.find?_eq_none]; intro a b hab; exact hn' (a, b) hab
      rw [this]; simp
    · rw [if_neg e]
      have : ([(k, v)] : List (Int × Value)).find? (fun p => p.1 == k') = none := by simp; exact fun h => e h.symm
      rw [this, Option.or_none]
theorem MOk.put (hM : MOk q M) {k : Int} (hw : (Lit.int q k).wf = true) (v : Value) : MOk q (mput M k v) := by
  unfold mput
  split
  · refine ⟨?_, ?_⟩
    · have : (M.map (fun p => if p.1 = k then (k, v) else p)).map (·.1) = M.map (·.1) := by
        rw [List.map_map]
        apply List.map_congr_left
        intro p _
        simp only [Function.comp]
        split
        · rename_i h; exact h.symm
        · rfl
      rw [this]; exact hM.u
    · intro p hp
      obtain ⟨x, hx, rfl⟩ := List.mem_map.1 hp
      split
      · exact hw
      · exact hM.w x hx
  · rename_i hs
    have hn : mget M k = none := by simpa using hs
    have hn' := mget_none.1 hn
    refine ⟨?_, ?_⟩
    · rw [List.map_append, List.nodup_append]
      refine ⟨hM.u, by simp, ?_⟩
      intro a ha b hb
      obtain ⟨p, hp, rfl⟩ := List.mem_map.1 ha
      simp at hb; subst hb
      exact hn' p hp
    · intro p hp
      rcases List.mem_append.1 hp with h | h
      · exact hM.w p h
      · simp at h; subst h; exact hw
theorem mput_len (k : Int) (v : Value) : (mput M k v).length = if (mget M k).isSome then M.length else M.length + 1 := by
  unfold mput; split <;> simp

theorem set_as_map (hM : MOk q M) {j : Nat} {k : Int} {v0 : Value} (hj : M[j]? = some (k, v0)) (v : Value) : M.set j (k, v) = M.map (fun p => if p.1 = k then (k, v) else p) := by
  apply List.ext_getElem?
  intro i
  rw [List.getElem?_map]
  by_cases e : j = i
  · subst e
    rw [List.getElem?_set_self (List.getElem?_eq_some_iff.1 hj).1, hj]; simp
  · rw [List.getElem?_set_ne e]
    rcases hi : M[i]? with _ | p
    · rfl
    · simp only [Option.map_some]
      rw [if_neg]
      intro hp
      have hu := hM.u
      have h1 : (M.map (·.1))[j]? = some k := by rw [List.getElem?_map, hj]; rfl
      have h2 : (M.map (·.1))[i]? = some k := by rw [List.getElem?_map, hi]; simp [hp]
      exact e ((List.getElem?_inj (by simpa using (List.getElem?_eq_some_iff.1 h1).1) hu).1 (h1.trans h2.symm))
theorem ents_set {es : Array MapEntry} (h : Ents q es M) (j : Nat) (k : Int) (v : Value) : Ents q (es.modify j fun e => { e with key := .int q k, val := v }) (M.set j (k, v)) := by
  unfold Ents at h ⊢
  apply List.ext_getElem?
  intro i
  have h1 := ents_get h i
  rw [List.getElem?_map, List.getElem?_map, Array.toList_modify]
  by_cases e : j = i
  · subst e
    rw [List.getElem?_modify_eq]
    rcases hi : M[j]? with _ | p
    · rw [hi] at h1
      have : es.toList[j]? = none := by simpa using h1
      rw [this, List.set_eq_of_length_le (by simpa using List.getElem?_eq_none_iff.1 hi), hi]; rfl
    · rw [List.getElem?_set_self (List.getElem?_eq_some_iff.1 hi).1]
      rw [hi] at h1
      obtain ⟨x, hx, _⟩ := Option.map_eq_some_iff.1 h1
      rw [hx]; rfl
  · rw [List.getElem?_set_ne e, List.getElem?_modify_ne _ _ e]
    exact h1
theorem ents_push {es : Array MapEntry} (h : Ents q es M) (k : Int) (v : Value) (c : Nat) : Ents q (es.push ⟨.int q k, v, c⟩) (M ++ [(k, v)]) := by
  unfold Ents at h ⊢
  simp [h]
/-- x[k] = v -/
theorem born_mod {es : Array MapEntry} {c : Nat} (h : Born es c) (j : Nat) (k v : Value) : Born (es.modify j fun e => { e with key := k, val := v }) c := by
  have e1 : (es.modify j fun e => { e with key := k, val := v }).toList.map (·.born) = es.toList.map (·.born) := by
    rw [Array.toList_modify]
    apply List.ext_getElem?
    intro i
    rw [List.getElem?_map, List.getElem?_map]
    by_cases e : j = i
    · subst e
      rw [List.getElem?_modify_eq]
      cases es.toList[j]? <;> rfl
    · rw [List.getElem?_modify_ne _ _ e]
  refine ⟨fun x hx => ?_, by rw [e1]; exact h.2⟩
  have h1 : x.born ∈ es.toList.map (·.born) := by rw [← e1]; exact List.mem_map_of_mem (f := fun e : MapEntry => e.born) hx
  obtain ⟨y, hy, he⟩ := List.mem_map.1 h1
  rw [← he]; exact h.1 y hy
theorem born_push {es : Array MapEntry} {c : Nat} (h : Born es c) (k v : Value) : Born (es.push ⟨k, v, c⟩) (c + 1) := by
  refine ⟨fun x hx => ?_, ?_⟩
  · simp at hx
    rcases hx with hx | rfl
    · have := h.1 x (by simpa using hx); omega
    · exact Nat.lt_succ_self _
  · simp only [Array.toList_push, List.map_append, List.map_cons, List.map_nil]
    rw [List.nodup_append]
    refine ⟨h.2, by simp, ?_⟩
    intro a ha b hb
    obtain ⟨x, hx, rfl⟩ := List.mem_map.1 ha
    simp at hb; subst hb
    have := h.1 x hx; omega
theorem born_erase {es : Array MapEntry} {c : Nat} (h : Born es c) (i : Nat) : Born (es.eraseIdxIfInBounds i) c := by
  have hs : (es.eraseIdxIfInBounds i).toList.Sublist es.toList := by
    unfold Array.eraseIdxIfInBounds
    split
    · simp only [Array.toList_eraseIdx]; exact List.eraseIdx_sublist _ _
    · exact List.Sublist.refl _
  exact ⟨fun x hx => h.1 x (hs.subset hx), (hs.map _).nodup h.2⟩
theorem MapAt.upd (h : MapAt q w m M) (hM : MOk q M) (hk : P.underlying kt = some (.int q)) (ht : P.underlying t = some (.map kt e)) (k : Int) (hw : (Lit.int q k).wf = true) (v : Value) :
    ∃ w1, (Instr.mapUpdate t (.map (some m)) (.int q k) v).run P w = .ok () w1 ∧ MapAt q w1 m (mput M k v) ∧ Kp (· = m) w w1 := by
  obtain ⟨es, c, hb, hE⟩ := h
  have hc := (int_keyed hk).check w false (key_of hk k hw)
  have kp : ∀ o, Kp (· = m) w (setBlock w m o) := fun o => ⟨rfl, rfl, rfl, by simp [setBlock], fun b _ hf => heap_setBlock_other hb _ (fun e => hf e)⟩
  rcases find_at hk hE.1 hM k hw w with ⟨v0, j, hg, hf, hj, x, hx, hxk, _⟩ | ⟨hg, hf⟩
  · have hx' : es[j]? = some x := by simpa using hx
    have hs := (int_keyed hk).stays w (key_of hk k hw)
    refine ⟨setBlock w m (.map (es.modify j fun e => { e with key := .int q k, val := v }) c), ?_, ⟨_, _, heap_setBlock_same hb _, ?_⟩, kp _⟩
    · simp [Instr.mapUpdate, run_underlying ht, MapKept.run_getObj_map hb, hc, hf, hx', hxk, hs, MapKept.run_setObj_map _ hb, Result.andThen, setBlock]
    · unfold mput
      rw [hg, if_pos (by simp), ← set_as_map hM hj]
      exact ⟨ents_set hE.1 j k v, born_mod hE.2 _ _ _⟩
  · refine ⟨setBlock w m (.map (es.push ⟨.int q k, v, c⟩) (c + 1)), ?_, ⟨_, _, heap_setBlock_same hb _, ?_⟩, kp _⟩
    · simp [Instr.mapUpdate, run_underlying ht, MapKept.run_getObj_map hb, hc, hf, MapKept.run_setObj_map _ hb, Result.andThen, setBlock]
    · unfold mput
      rw [hg, if_neg (by simp)]
      exact ⟨ents_push hE.1 k v c, born_push hE.2 _ _⟩
theorem MapAt.len (h : MapAt q w m M) (ht : P.underlying t = some (.map kt e)) (ty : TypeId) (hl : M.length ≤ 9223372036854775807) : (Builtin.len_ #[t] ty #[.map (some m)]).run P w = .ok (.int .i64 M.length) w := by
  obtain ⟨es, c, hb, hE⟩ := h
  have e : goInt (M.length : Int) = .int .i64 M.length := by simp [goInt]
  simp [Builtin.len_, run_underlying ht, MapKept.run_getObj_map hb, ents_len hE.1, Result.andThen, e]
/-- .. at the operation -/
theorem wp_map_upd {o : Oper} {a : Act} {K : Act → World → Prop} {Q : Exit → Act → World → Prop} (mm x v : Operand) (hop : o.op = Op.mapUpdate t mm x v)
    (hk : P.underlying kt = some (.int q)) (ht : P.underlying t = some (.map kt e)) (hm : a.eval mm = .map (some m)) (k : Int) (hx : a.eval x = .int q k) (val : Value) (hv : a.eval v = val)
    (h : MapAt q w m M) (hM : MOk q M) (hw : (Lit.int q k).wf = true) (hK : ∀ w1, MapAt q w1 m (mput M k val) → Kp (· = m) w w1 → K (a.put o.dst undef) w1) : o.wp P a w K Q := by
  obtain ⟨w1, hr, h1, h2⟩ := h.upd hM hk ht k hw val
  unfold Oper.wp
  simp [execOp, hop, hm, hx, hv, hr, Result.andThen]
  exact hK w1 h1 h2
def mdel (M : List (Int × Value)) (k : Int) : List (Int × Value) := M.filter (fun p => p.1 != k)
theorem mget_del (k k' : Int) : mget (mdel M k) k' = if k' = k then none else mget M k' := by
  unfold mget mdel
  rw [List.find?_filter]
  split
  · rename_i h; subst h
    rw [List.find?_eq_none.2]; · rfl
    intro p _; simp
  · rename_i h
    congr 2
    funext p
    by_cases hp : p.1 = k'
    · subst hp; simp [h]
    · simp [hp]
theorem MOk.del (hM : MOk q M) (k : Int) : MOk q (mdel M k) := by
  refine ⟨?_, fun p hp => hM.w p (List.mem_filter.1 hp).1⟩
  exact (List.filter_sublist.map _).nodup hM.u
theorem del_at (hM : MOk q M) {j : Nat} {k : Int} {v : Value} (hj : M[j]? = some (k, v)) : M.eraseIdx j = mdel M k := by
  have hu := hM.u
  clear hM
  unfold mdel
  induction M generalizing j with
  | nil => simp at hj
  | cons p M ih =>
    rw [List.map_cons, List.nodup_cons] at hu
    cases j with
    | zero =>
      simp at hj
      subst hj
      simp
      refine (List.filter_eq_self.2 ?_).symm
      intro x hx
      simp
      exact fun e => hu.1 (by rw [← e]; exact List.mem_map_of_mem (f := (·.1)) hx)
    | succ j =>
      simp at hj
      rw [List.eraseIdx_cons_succ, ih hj hu.2]
      have : p.1 ≠ k := fun e => hu.1 (by rw [e]; exact List.mem_map_of_mem (f := (·.1)) (List.mem_of_getElem? hj))
      simp [this]
theorem del_none {k : Int} (h : mget M k = none) : mdel M k = M := by
  unfold mdel
  refine List.filter_eq_self.2 fun p hp => ?_
  have := mget_none.1 h p hp
  simpa using this
theorem ents_erase {es : Array MapEntry} (h : Ents q es M) (j : Nat) : Ents q (es.eraseIdxIfInBounds j) (M.eraseIdx j) := by
  unfold Ents at h ⊢
  have e1 : (es.eraseIdxIfInBounds j).toList = es.toList.eraseIdx j := by
    unfold Array.eraseIdxIfInBounds
    split
    · simp
    · rename_i hj
      rw [List.eraseIdx_of_length_le (by simpa using Nat.not_lt.1 hj)]
  rw [e1, ChangeMaps.map_eraseIdx, h, ChangeMaps.map_eraseIdx]
/-- delete(m, k) -/
theorem MapAt.del (h : MapAt q w m M) (hM : MOk q M) (hk : P.underlying kt = some (.int q)) (ht : P.underlying t = some (.map kt e)) (k : Int) (hw : (Lit.int q k).wf = true) (ty : TypeId) :
    ∃ w1, (Builtin.delete_ #[t, kt] ty #[.map (some m), .int q k]).run P w = .ok (.tuple #[]) w1 ∧ MapAt q w1 m (mdel M k) ∧ Kp (· = m) w w1 := by
  obtain ⟨es, c, hb, hE⟩ := h
  have hc := fun em => (int_keyed hk).check w em (key_of hk k hw)
  have kp : ∀ o, Kp (· = m) w (setBlock w m o) := fun o => ⟨rfl, rfl, rfl, by simp [setBlock], fun b _ hf => heap_setBlock_other hb _ (fun e => hf e)⟩
  rcases find_at hk hE.1 hM k hw w with ⟨v0, j, hg, hf, hj, x, hx, hxk, _⟩ | ⟨hg, hf⟩
  · refine ⟨setBlock w m (.map (es.eraseIdxIfInBounds j) c), ?_, ⟨_, _, heap_setBlock_same hb _, ?_, born_erase hE.2 j⟩, kp _⟩
    · simp [Builtin.delete_, run_underlying ht, MapKept.run_getObj_map hb, hc, hf, MapKept.run_setObj_map _ hb, Result.andThen, setBlock]
    · rw [← del_at hM hj]; exact ents_erase hE.1 j
  · refine ⟨setBlock w m (.map es c), ?_, ⟨_, _, heap_setBlock_same hb _, ?_, hE.2⟩, kp _⟩
    · simp [Builtin.delete_, run_underlying ht, MapKept.run_getObj_map hb, hc, hf, MapKept.run_setObj_map _ hb, Result.andThen, setBlock]
    · rw [del_none hg]; exact hE.1
/-- a range under way: S has come -/
def IterAt (q : IntKind) (w : World) (r m : Nat) (M : List (Int × Value)) (S : List Int) (cnt : Nat) : Prop :=
  ∃ es clock seen c0, w.heap[m]? = some (.map es clock) ∧ Ents q es M ∧ Born es clock ∧ w.heap[r]? = some (.mapIter (some m) clock seen c0) ∧ clock ≤ c0 ∧ (leftOf es seen).size = cnt ∧
    ∀ x ∈ es.toList, ∀ k, x.key = .int q k → (seen.contains x.born = true ↔ k ∈ S)
theorem IterAt.ne {r cnt : Nat} {S : List Int} (h : IterAt q w r m M S cnt) : r ≠ m := by
  obtain ⟨es, c, seen, c0, h1, _, _, h2, _⟩ := h
  rintro rfl
  rw [h1] at h2; cases h2
theorem IterAt.lt {r cnt : Nat} {S : List Int} (h : IterAt q w r m M S cnt) : r < w.heap.size ∧ m < w.heap.size := by
  obtain ⟨es, c, seen, c0, h1, _, _, h2, _⟩ := h
  exact ⟨blk_lt h2, blk_lt h1⟩
theorem IterAt.kp {F : Nat → Prop} {r cnt : Nat} {S : List Int} (h : IterAt q w r m M S cnt) (k : Kp F w w') (hm : ¬ F m) (hr : ¬ F r) : IterAt q w' r m M S cnt := by
  obtain ⟨es, c, seen, c0, h1, h2, h3, h4, h5⟩ := h
  exact ⟨es, c, seen, c0, k.get h1 hm, h2, h3, k.get h4 hr, h5⟩
theorem MapAt.range (h : MapAt q w m M) (ht : P.underlying t = some (.map kt e)) :
    (∃ w1, (Instr.range t (.map (some m))).run P w = .ok (.pointer (some ⟨w.heap.size, 0, none⟩)) w1 ∧ (∃ cnt, IterAt q w1 w.heap.size m M [] cnt) ∧ Kp NoB w w1) := by
  obtain ⟨es, c, hb, hE, hB⟩ := h
  refine ⟨_, run_range_map w t kt e m es c ht hb, ⟨_, es, c, #[], c, blk_alloc hb, hE, hB, blk_new w _, Nat.le_refl _, rfl, ?_⟩, (Kp.refl _ w).alloc _⟩
  intro x _ k _
  simp
theorem ents_mem {es : Array MapEntry} (h : Ents q es M) {x : MapEntry} (hx : x ∈ es.toList) : ∃ k, x.key = .int q k ∧ (k, x.val) ∈ M := by
  have h1 : (x.key, x.val) ∈ es.toList.map (fun e => (e.key, e.val)) := List.mem_map_of_mem (f := fun e : MapEntry => (e.key, e.val)) hx
  rw [h] at h1
  obtain ⟨p, hp, he⟩ := List.mem_map.1 h1
  injection he with e1 e2
  exact ⟨p.1, e1.symm, by rw [← e2]; exact hp⟩
theorem ents_mem' {es : Array MapEntry} (h : Ents q es M) {p : Int × Value} (hp : p ∈ M) : ∃ x ∈ es.toList, x.key = .int q p.1 ∧ x.val = p.2 := by
  have h1 : (Value.int q p.1, p.2) ∈ M.map (fun p => (Value.int q p.1, p.2)) := List.mem_map_of_mem (f := fun p : Int × Value => (Value.int q p.1, p.2)) hp
  rw [← h] at h1
  obtain ⟨x, hx, he⟩ := List.mem_map.1 h1
  injection he with e1 e2
  exact ⟨x, hx, e1, e2⟩
/-- two entries of one key are one -/
theorem ents_one {es : Array MapEntry} (h : Ents q es M) (hM : MOk q M) {x y : MapEntry} (hx : x ∈ es.toList) (hy : y ∈ es.toList) (e : x.key = y.key) : x = y := by
  obtain ⟨i, hi⟩ := List.getElem?_of_mem hx
  obtain ⟨j, hj⟩ := List.getElem?_of_mem hy
  have h1 := ents_get h i
  have h2 := ents_get h j
  rw [hi] at h1; rw [hj] at h2
  obtain ⟨p, hp, ep⟩ := Option.map_eq_some_iff.1 h1.symm
  obtain ⟨p', hp', ep'⟩ := Option.map_eq_some_iff.1 h2.symm
  injection ep with ep _
  injection ep' with ep' _
  have hk : p.1 = p'.1 := by
    rw [e, ← ep'] at ep
    injection ep
  have u1 : (M.map (·.1))[i]? = some p.1 := by rw [List.getElem?_map, hp]; rfl
  have u2 : (M.map (·.1))[j]? = some p.1 := by rw [List.getElem?_map, hp', hk]; rfl
  have hij : i = j := (List.getElem?_inj (by simpa using (List.getElem?_eq_some_iff.1 u1).1) hM.u).1 (u1.trans u2.symm)
  subst hij
  rw [hi] at hj; injection hj
/-- the step -/
theorem IterAt.next {r cnt : Nat} {S : List Int} (h : IterAt q w r m M S cnt) (hM : MOk q M) (ty : TypeId) :
    ((∀ p ∈ M, p.1 ∈ S) ∧ (Instr.next (.pointer (some ⟨r, 0, none⟩)) false ty).run P w = .ok (.tuple #[.bool false]) w) ∨
    ∃ k v w1 cnt', (k, v) ∈ M ∧ k ∉ S ∧ (Instr.next (.pointer (some ⟨r, 0, none⟩)) false ty).run P w = .ok (.tuple #[.bool true, .int q k, v]) w1 ∧ IterAt q w1 r m M (k :: S) cnt' ∧ cnt' < cnt ∧ Kp (· = r) w w1 ∧
      (Instr.entry (.pointer (some ⟨r, 0, none⟩))).run P w1 = .ok (.tuple #[.int q k, v]) w1 := by
  have hne := h.ne
  obtain ⟨es, c, seen, c0, hb, hE, hB, hr, hc, hcnt, hS⟩ := h
  rcases run_next_at (P := P) w ty r m c c0 seen es c hr hb hB.1 hc with ⟨h0, hrun⟩ | ⟨x, hx, w1, hal, hrun⟩
  · refine .inl ⟨fun p hp => ?_, hrun⟩
    obtain ⟨x, hx, hk, _⟩ := ents_mem' hE hp
    exact (hS x hx p.1 hk).1 (all_seen es seen h0 x hx)
  · obtain ⟨hem, hes⟩ := mem_left hx
    obtain ⟨k, hk, hkM⟩ := ents_mem hE hem
    have hr1 : w1.heap[r]? = some (.mapIter (some m) c seen c0) := by rcases hal with rfl | rfl <;> exact hr
    have hb1 : w1.heap[m]? = some (.map es c) := by rcases hal with rfl | rfl <;> exact hb
    have hset := MapKept.heap_set (o' := .mapIter (some m) c (seen.push x.born) c) hr1
    have hb' : (setBlock w1 r (.mapIter (some m) c (seen.push x.born) c)).heap[m]? = some (.map es c) := (hset.2 m (fun e1 => hne e1.symm)).trans hb1
    rw [hk] at hrun
    refine .inr ⟨k, x.val, _, _, hkM, ?_, hrun, ⟨es, c, seen.push x.born, c, hb', hE, hB, hset.1, Nat.le_refl _, rfl, ?_⟩, by rw [← hcnt]; exact left_shrinks es seen x hx, ?_, ?_⟩
    · intro hin
      have := (hS x hem k hk).2 hin
      rw [hes] at this; cases this
    · intro y hy k' hk'
      rw [contains_push]
      constructor
      · intro h
        rcases Bool.or_eq_true_iff.1 h with h | h
        · exact List.mem_cons_of_mem _ ((hS y hy k' hk').1 h)
        · have : y = x := born_inj hB.2 hy hem (by simpa using h)
          subst this
          rw [hk] at hk'; injection hk' with _ hk'; subst hk'
          exact List.mem_cons_self
      · intro h
        rcases List.mem_cons.1 h with rfl | h
        · have : y = x := ents_one hE hM hy hem (hk'.trans hk.symm)
          subst this; simp
        · rw [(hS y hy k' hk').2 h]; rfl
    · rcases hal with rfl | rfl <;> exact ⟨rfl, rfl, rfl, by simp [setBlock], fun i _ hi => hset.2 i (fun e1 => hi e1)⟩
    · have := run_entry_at (P := P) _ r m c seen es c x hset.1 hb' hem hB.2
      rw [hk] at this
      exact this
end
end Go.Proofs.Ytplbkjgkocnehaa
