/- Walks: a writer's step that makes an extent. -/
import Derived.Test.YtaanbonbdhjbpaaE7
namespace Go.Proofs.Ytaanbonbdhjbpaa
set_option linter.unusedSimpArgs false
set_option linter.unusedVariables false
open Go.RowKit
attribute [local go_sem ↓] Go.wp_at_zero Go.wp_at_succ
section
variable {a : Act} {o : Oper} {K : Act → World → Prop} {Q : Exit → Act → World → Prop}
theorem wp_stX {W : World} (y z : Operand) (ho : o.op = .store 35 y z) (b f : Nat) (x : X) (hx : a.eval y = .pointer (some ⟨b, f, none⟩)) (hz : a.eval z = .agg x.1.toArray) (hc : W.there b f 19)
    (h : K (a.put o.dst undef) (W.setCells b f x.1)) : o.wp Try.prog a W K Q :=
  wp_store_mid 35 y z ho b f x.1.toArray hx hz (by simpa [x.len] using hc) (by simpa [x.len] using infoX) (all_oneCell_toArray x.one) h
end
/-- an extent, the next one named -/
def setN (x : X) (i g : Int) : X := ⟨(x.1.set 17 (.int .i64 i)).set 18 (.int .u64 g), by
  refine ⟨by simp [x.len], fun v hv => ?_⟩
  rcases List.mem_or_eq_of_mem_set hv with hv | rfl
  · rcases List.mem_or_eq_of_mem_set hv with hv | rfl
    · exact x.one v hv
    · rfl
  · rfl⟩
theorem setN_mk (n : Int) (b : Nat → Int) (i g i' g' : Int) : setN (mkE n b i g) i' g' = mkE n b i' g' := rfl
theorem setN_put (x : X) (i g : Int) : (x.1.toArray.setIfInBounds 17 (.int .i64 i)).setIfInBounds 18 (.int .u64 g) = (setN x i g).1.toArray := by simp [setN]
def lnk (x : X) (Hs : List (Int × Int)) : X := match Hs.getLast? with
  | none => x
  | some h => setN x h.1 h.2
section
variable {w w' : World} {q p l : Nat} {v lv mv : Value} {over : Bool} {Ls : List X} {Hs : List (Int × Int)} {S : List Sl3} {B : List Nat} {E : Nat}
theorem preH (h : Int × Int) : Pre eH 2 #[.int .i64 h.1, .int .u64 h.2] [h] := by
  intro k j x hk hj
  match k, j, hk with
  | 0, 0, hk => simp at hk; subst hk; rfl
  | 0, 1, hk => simp at hk; subst hk; rfl
def StepPost (w : World) (q p l : Nat) (v lv mv : Value) (x : X) (Ls : List X) (Hs : List (Int × Int)) (S : List Sl3) (B : List Nat) (E : Nat) (g : Int) (e : Ending) (w' : World) : Prop :=
  e = .returned (.tuple #[.bool ((Ls.length : Int) == 0), .int .i64 0]) ∧ ∃ v' lv' mv', AAt w' p l v' (S.set (nextI B E) (lnk x Hs, g, true)) B.dropLast (nextE B E) ∧ WAt w' q p lv' mv' false Ls (Hs ++ [(((nextI B E : Nat) : Int), g)]) ∧
    v'.ownBlock = v.ownBlock ∧ lv'.ownBlock = lv.ownBlock ∧ (mv'.ownBlock = mv.ownBlock ∨ ∃ b, mv'.ownBlock = some b ∧ w.heap.size ≤ b) ∧ Kp (WF q p l v mv) w w'
set_option maxRecDepth 100000 in
set_option maxHeartbeats 8000000 in
theorem step_go {x : X} (h : AAt w p l v S B E) (inv : AInv S B E) (hw : WAt w q p lv mv false (Ls ++ [x]) Hs) (hl : Hs.length ≤ 1000) (hll : Ls.length ≤ 1000) (hr : 0 < room S B E) {g : Int} (hk : S[nextI B E]? = some (zX, g, false)) : Calls Try.prog 21 #[.pointer (some ⟨q, 0, none⟩)] w
    (StepPost w q p l v lv mv x Ls Hs S B E g) := by
  have hmf : ∀ (fn : Fn) (first cap : Array Value) (w : World), (Instr.makeFunc fn first cap).run Try.prog w = .ok (.func fn first cap) w := fun _ _ _ _ => rfl
  have cf := cf30
  have HR := hid (ready_go hw)
  have HA := hid (alloc_any h inv.ok hk)
  have hmlt := hw.hm.lt
  have INV := hid (inv.alloc hr (x := zX) (g := g)).1
  have hkl := (List.getElem?_eq_some_iff.1 hk).1
  have Lq := hw.cs
  obtain ⟨b0, c, hv, hlo, hlt, hlc⟩ := hw.hl.last rfl
  subst hv
  have h0' : (((Ls.length : Int) + 1) == 0) = false := by simp; omega
  replace h := hid h
  replace hw := hid hw
  replace hk := hid hk
  go_enter Try.func21, Try.ntmps21
  go_wp2_with fail
  refine HR.out.mono ?_
  rintro e w1 ⟨rfl, rfl⟩
  go_wp2_with fail
  refine HA.out.mono ?_
  rintro e w1 ⟨rfl, v1, A1, o1, k1⟩
  have W1 := hw.out.free h.out (k1.mono (fun b hb => by rcases hb with e | e; exact .inl e; exact .inr (.inl e)))
  obtain ⟨c6, h6⟩ : ∃ c6, c6 = w1.heap.size := ⟨_, rfl⟩
  obtain ⟨WA, hWA⟩ : ∃ WA, WA = w1.alloc (.cells #[.int .i64 (nextI B E), .int .u64 g] 33) := ⟨_, rfl⟩
  have A2 := A1.alloc (.cells #[.int .i64 (nextI B E), .int .u64 g] 33)
  have W2 := W1.alloc (.cells #[.int .i64 (nextI B E), .int .u64 g] 33)
  have H6 := blk_new' w1 (.cells #[.int .i64 (nextI B E), .int .u64 g] 33) h6
  have K2 : Kp (WF q p l v mv) w (w1.alloc (.cells #[.int .i64 (nextI B E), .int .u64 g] 33)) := (k1.mono (fun b hb => by rcases hb with e | e; exact .inr (.inl e); exact .inr (.inr (.inl e)))).alloc _
  rw [← hWA] at A2 W2 H6 K2
  replace A2 := hid A2
  replace W2 := hid W2
  replace H6 := hid H6
  replace hWA := hid hWA
  have hn6 : w.heap.size ≤ c6 := by rw [h6]; exact k1.size
  replace h6 := hid h6
  clear Lq HR HA A1 W1
  go_wp2_with fail
  rw [← hWA.out, ← h6.out]
  clear hWA h6
  obtain ⟨i, hi⟩ : ∃ i, i = nextI B E := ⟨_, rfl⟩
  rw [← hi] at hk A2 H6 INV ⊢
  have LW := W2.out.cs
  have rx := W2.out.hl.range_last rfl
  have gc : (Ls.length : Int) < (Ls.length : Int) + 1 := by omega
  have wL : IntKind.i64.wrap (Ls.length : Int) = Ls.length := wi_in (by omega)
  have bL : (0 : Int) ≤ (Ls.length : Int) := Int.natCast_nonneg _
  have up6 := ups (blk_lt H6.out)
  have upb := ups hlt
  have hb0A : b0 < WA.heap.size := W2.out.hl.lt b0 rfl
  have upb2 := ups hb0A
  refine wp_region_G (fun W => W.cell? ⟨q, 1, none⟩ = some (.slice (some ⟨b0, 0, none⟩) (Ls.length + 1) c) ∧ W.rangeAt b0 (Ls.length * 19) x.1) [(0, .held), (1, .held), (2, .held), (3, .held), (4, .held), (5, .held), (6, .held), (7, .held), (8, .held), (9, .held), (10, .held), (11, .held), (12, .eff), (13, .fin)] ?L1 (by kernel_rfl) (by kernel_rfl) ?hL1 (⟨LW.2.1, rx⟩) ?hG1
  case hL1 => simp only [pickOps, List.map_cons, List.map_nil, List.getD_cons_zero, List.getD_cons_succ]; rfl
  repeat (first | (refine wpG_held (by rfl) (fun w' hS => ex_ldX _ rfl _ _ rfl x hS.2) ?_; simp only [Act.put, List.setIfInBounds_toArray, List.set_cons_zero, List.set_cons_succ]) | (refine wpG_at (v := ?_) (by rfl) ?_ ?_; rotate_left; (focus (first | (go_simp; with_reducible rfl) | (go_simp; done))); simp only [Act.put, List.setIfInBounds_toArray, List.set_cons_zero, List.set_cons_succ]) | (refine wpG_at_skip (by rfl) ?_; simp only [Act.put, List.setIfInBounds_toArray, List.set_cons_zero, List.set_cons_succ]) | (refine wpG_held_skip (by rfl) ?_; simp only [Act.put, List.setIfInBounds_toArray, List.set_cons_zero, List.set_cons_succ]) | (refine wpG_held (v := ?_) (by rfl) ?_ ?_; rotate_left; (focus (intro w' hSw; (try dsimp only at hSw); go_split_ands; first | (go_simp; with_reducible rfl) | (go_simp; done))); simp only [Act.put, List.setIfInBounds_toArray, List.set_cons_zero, List.set_cons_succ]))
  refine wpG_eff (by rfl) (fun K hK => ?_)
  go_simp
  obtain ⟨b8, h8⟩ : ∃ b8, b8 = WA.heap.size := ⟨_, rfl⟩
  obtain ⟨WB, hWB⟩ : ∃ WB, WB = (WA.alloc (.cells #[.int .i64 0, .int .u8 0, .int .u8 0, .int .u8 0, .int .u8 0, .int .u8 0, .int .u8 0, .int .u8 0, .int .u8 0, .int .u8 0, .int .u8 0, .int .u8 0, .int .u8 0, .int .u8 0, .int .u8 0, .int .u8 0, .int .u8 0, .int .i64 0, .int .u64 0] 35)).drew := ⟨_, rfl⟩
  have A3 := (A2.out.alloc (.cells zX.1.toArray 35)).drew
  have W3 := (W2.out.alloc (.cells zX.1.toArray 35)).drew
  have H6b := blk_drew (blk_alloc (o' := .cells zX.1.toArray 35) H6.out)
  have H8 := blk_drew (blk_new' WA (.cells zX.1.toArray 35) h8)
  have K3 := (K2.alloc (.cells zX.1.toArray 35)).drew
  have eWB : (WA.alloc (.cells zX.1.toArray 35)).drew = WB := hWB.symm
  rw [eWB] at A3 W3 H6b H8 K3
  rw [← hWB, ← h8]
  have h8n : w.heap.size ≤ b8 := by rw [h8]; exact K2.size
  have n68 : c6 ≠ b8 := by have := blk_lt H6.out; omega
  replace h8 := hid h8
  replace hi := hid hi
  clear hWB eWB A2 W2 H6 K2 LW rx upb2 up6
  have LW := W3.cs
  refine hK _ _ ⟨LW.2.1, W3.hl.range_last rfl⟩ ?_
  clear hK K
  repeat (first | (refine wpG_at (v := ?_) (by rfl) ?_ ?_; rotate_left; (focus (first | (go_simp; with_reducible rfl) | (go_simp; done))); simp only [Act.put, List.setIfInBounds_toArray, List.set_cons_zero, List.set_cons_succ]) | (refine wpG_at_skip (by rfl) ?_; simp only [Act.put, List.setIfInBounds_toArray, List.set_cons_zero, List.set_cons_succ]) | (refine wpG_held_skip (by rfl) ?_; simp only [Act.put, List.setIfInBounds_toArray, List.set_cons_zero, List.set_cons_succ]) | (refine wpG_held (v := ?_) (by rfl) ?_ ?_; rotate_left; (focus (intro w' hSw; (try dsimp only at hSw); go_split_ands; first | (go_simp; with_reducible rfl) | (go_simp; done))); simp only [Act.put, List.setIfInBounds_toArray, List.set_cons_zero, List.set_cons_succ]))
  refine wpG_fin (by rfl) (fun K hK => ?_)
  refine wp_stX _ _ rfl b8 0 x rfl rfl (rowX H8) ?_
  refine hK _ _ ?_
  clear hK K
  refine wpG_nil (NoPanic.normal ?_)
  have kC : Kp (· = b8) WB (WB.setCells b8 0 x.1) := (Kp.refl _ WB).setCells _ (fun _ => rfl)
  have A4 := A3.kp kC (ne_of_types A3.hp H8 (by decide)) (ne_of_types A3.hl H8 (by decide)) (fun b hb e => by subst e; exact A3.hv.ne H8 (by decide) hb)
  have W4 := W3.kp kC (ne_of_types W3.hq H8 (by decide)) (fun b hb e => by subst e; injection hb with hb; simp only at hb; omega) (fun b hb e => by subst e; exact W3.hm.ne H8 (by decide) hb)
  have H6c := kC.get H6b n68
  have H8c := putX H8 x
  have K4 : Kp (WF q p l v mv) w (WB.setCells b8 0 x.1) := K3.setCells _ (fun h => absurd h (by omega))
  obtain ⟨WC, hWC⟩ : ∃ WC, WC = WB.setCells b8 0 x.1 := ⟨_, rfl⟩
  rw [← hWC] at A4 W4 H6c H8c K4 ⊢
  clear hWC kC A3 W3 H6b H8 K3 LW
  rcases List.eq_nil_or_concat Hs with hnil | ⟨Hs', ⟨hi', hg'⟩, hcon⟩
  · obtain ⟨om, cm, hmv, hmc, _⟩ := W4.hm.form
    have hlnk : lnk x Hs = x := by rw [hnil]; rfl
    rw [← hlnk] at H8c
    have LW := W4.cs
    have hm0 : Hs.length = 0 := by rw [hnil]; rfl
    rw [hm0] at hmv
    rw [hmv] at LW
    replace A4 := hid A4
    replace W4 := hid W4
    replace H6c := hid H6c
    replace H8c := hid H8c
    replace hmv := hid hmv
    replace hm0 := hid hm0
    replace hnil := hid hnil
    replace hlnk := hid hlnk
    go_wp2_with fail
    have KD := K4
    have HD8 := H8c.out
    have AD := A4.out
    have WD' := W4.out
    have H6d := H6c.out
    clear A4 W4 H6c H8c K4
    obtain ⟨WD, hWD⟩ : ∃ WD, WD = WC := ⟨_, rfl⟩
    rw [← hWD] at KD HD8 AD WD' H6d ⊢
    clear hWD LW
    have LW := WD'.cs
    have E5 : WAt (WD.setCell ⟨q, 1, none⟩ (.slice (some ⟨b0, 0, none⟩) Ls.length c)).drew q p (.slice (some ⟨b0, 0, none⟩) Ls.length c) mv false Ls Hs := by
      have hp : RowAt WD 35 eXv 19 (.slice (some ⟨b0, 0, none⟩) Ls.length c) Ls := by
        have := RowAt.pop (l := Ls ++ [x]) eXv_len (b := b0) (c := c) (by rw [List.length_append]; exact WD'.hl)
        rw [List.dropLast_concat, List.length_append] at this
        exact this
      exact ⟨blk_drew (blk_setCell WD'.hq 1 _), (hp.setCell ⟨q, 1, none⟩ _ (fun e => WD'.ne.1 e)).drew, (WD'.hm.setCell _ _ WD'.ne.2).drew⟩
    have A5 := (AD.far ⟨q, 1, none⟩ (.slice (some ⟨b0, 0, none⟩) Ls.length c) (ne_of_types AD.hp WD'.hq (by decide)) (ne_of_types AD.hl WD'.hq (by decide)) (AD.hv.ne WD'.hq (by decide))).drew
    have H65 := blk_drew (blk_far H6d (a := ⟨q, 1, none⟩) (.slice (some ⟨b0, 0, none⟩) Ls.length c) (ne_of_types H6d WD'.hq (by decide)))
    have H85 := blk_drew (blk_far HD8 (a := ⟨q, 1, none⟩) (.slice (some ⟨b0, 0, none⟩) Ls.length c) (ne_of_types HD8 WD'.hq (by decide)))
    have K5 := (KD.setCell (p := ⟨q, 1, none⟩) (.slice (some ⟨b0, 0, none⟩) Ls.length c) (fun _ => .inl rfl)).drew
    have bc : (Ls.length : Int) ≤ (c : Int) := by omega
    have bc' : Ls.length ≤ c := by omega
    clear WD' AD H6d HD8 KD
    obtain ⟨WE, hWE⟩ : ∃ WE, WE = (WD.setCell ⟨q, 1, none⟩ (.slice (some ⟨b0, 0, none⟩) Ls.length c)).drew := ⟨_, rfl⟩
    rw [← hWE] at E5 A5 H65 H85 K5
    replace E5 := hid E5
    replace A5 := hid A5
    replace H65 := hid H65
    replace H85 := hid H85
    replace K5 := hid K5
    replace hWE := hid hWE
    refine wp_region_G (fun _ => True) [(0, .at_), (1, .at_), (2, .at_), (3, .at_), (4, .at_), (5, .at_), (6, .at_), (7, .at_), (8, .at_), (9, .at_), (10, .at_), (11, .at_), (12, .at_), (13, .at_), (14, .eff)] ?L2 (by kernel_rfl) (by kernel_rfl) ?hL2 (trivial) ?hG2
    case hL2 => simp only [pickOps, List.map_cons, List.map_nil, List.getD_cons_zero, List.getD_cons_succ]; rfl
    repeat (first | (refine wpG_at (v := ?_) (by rfl) ?_ ?_; rotate_left; (focus (first | (go_simp; with_reducible rfl) | (go_simp; done))); simp only [Act.put, List.setIfInBounds_toArray, List.set_cons_zero, List.set_cons_succ]) | (refine wpG_at_skip (by rfl) ?_; simp only [Act.put, List.setIfInBounds_toArray, List.set_cons_zero, List.set_cons_succ]) | (refine wpG_held_skip (by rfl) ?_; simp only [Act.put, List.setIfInBounds_toArray, List.set_cons_zero, List.set_cons_succ]) | (refine wpG_held (v := ?_) (by rfl) ?_ ?_; rotate_left; (focus (intro w' hSw; (try dsimp only at hSw); go_split_ands; first | (go_simp; with_reducible rfl) | (go_simp; done))); simp only [Act.put, List.setIfInBounds_toArray, List.set_cons_zero, List.set_cons_succ]))
    refine wpG_eff (by rfl) (fun K hK => ?_)
    go_simp
    refine hK _ _ trivial ?_
    clear hK K
    repeat (first | (refine wpG_at (v := ?_) (by rfl) ?_ ?_; rotate_left; (focus (first | (go_simp; with_reducible rfl) | (go_simp; done))); simp only [Act.put, List.setIfInBounds_toArray, List.set_cons_zero, List.set_cons_succ]) | (refine wpG_at_skip (by rfl) ?_; simp only [Act.put, List.setIfInBounds_toArray, List.set_cons_zero, List.set_cons_succ]) | (refine wpG_held_skip (by rfl) ?_; simp only [Act.put, List.setIfInBounds_toArray, List.set_cons_zero, List.set_cons_succ]) | (refine wpG_held (v := ?_) (by rfl) ?_ ?_; rotate_left; (focus (intro w' hSw; (try dsimp only at hSw); go_split_ands; first | (go_simp; with_reducible rfl) | (go_simp; done))); simp only [Act.put, List.setIfInBounds_toArray, List.set_cons_zero, List.set_cons_succ]))
    refine wpG_nil (NoPanic.normal ?_)
    go_wp2_with fail
    rw [← hWE.out]
    clear hWE LW
    have LW := E5.out.cs
    have L6 := loc2 H65.out
    have up6 := ups L6.2.2.2.2
    refine wp_region_G (fun W => W.cell? ⟨q, 2, none⟩ = some mv) [(0, .held), (1, .held), (2, .held), (3, .held), (4, .held), (5, .at_), (6, .eff), (7, .eff), (8, .at_), (9, .at_), (10, .fin)] ?L3 (by kernel_rfl) (by kernel_rfl) ?hL3 (LW.2.2.1) ?hG3
    case hL3 => simp only [pickOps, List.map_cons, List.map_nil, List.getD_cons_zero, List.getD_cons_succ]; rfl
    repeat (first | (refine wpG_at (v := ?_) (by rfl) ?_ ?_; rotate_left; (focus (first | (go_simp; with_reducible rfl) | (go_simp; done))); simp only [Act.put, List.setIfInBounds_toArray, List.set_cons_zero, List.set_cons_succ]) | (refine wpG_at_skip (by rfl) ?_; simp only [Act.put, List.setIfInBounds_toArray, List.set_cons_zero, List.set_cons_succ]) | (refine wpG_held_skip (by rfl) ?_; simp only [Act.put, List.setIfInBounds_toArray, List.set_cons_zero, List.set_cons_succ]) | (refine wpG_held (v := ?_) (by rfl) ?_ ?_; rotate_left; (focus (intro w' hSw; (try dsimp only at hSw); go_split_ands; first | (go_simp; with_reducible rfl) | (go_simp; done))); simp only [Act.put, List.setIfInBounds_toArray, List.set_cons_zero, List.set_cons_succ]))
    refine wpG_eff (by rfl) (fun K hK => ?_)
    go_simp
    refine hK _ _ (by go_simp) ?_
    clear hK K
    repeat (first | (refine wpG_at (v := ?_) (by rfl) ?_ ?_; rotate_left; (focus (first | (go_simp; with_reducible rfl) | (go_simp; done))); simp only [Act.put, List.setIfInBounds_toArray, List.set_cons_zero, List.set_cons_succ]) | (refine wpG_at_skip (by rfl) ?_; simp only [Act.put, List.setIfInBounds_toArray, List.set_cons_zero, List.set_cons_succ]) | (refine wpG_held_skip (by rfl) ?_; simp only [Act.put, List.setIfInBounds_toArray, List.set_cons_zero, List.set_cons_succ]) | (refine wpG_held (v := ?_) (by rfl) ?_ ?_; rotate_left; (focus (intro w' hSw; (try dsimp only at hSw); go_split_ands; first | (go_simp; with_reducible rfl) | (go_simp; done))); simp only [Act.put, List.setIfInBounds_toArray, List.set_cons_zero, List.set_cons_succ]))
    refine wpG_eff (by rfl) (fun K hK => ?_)
    refine wp_grow eH_len (by omega) _ _ 46 33 _ 16 rfl sl46 i33 rfl mv Hs rfl ((E5.out.alloc (.cells #[.int .i64 i, .int .u64 g] 33)).drew.hm) WE.heap.size 1 [((i : Int), g)] rfl #[.int .i64 i, .int .u64 g] 33 (blk_drew (blk_new _ _)) (preH _) (eH_one _) (by rw [List.length_singleton]; omega) (by omega) ?_
    intro vb Wb q1 q2 q3
    obtain ⟨ov, nv, cv, hv'⟩ : ∃ ov nv cv, vb = .slice ov nv cv := by obtain ⟨o, c, h, _⟩ := q1.form; exact ⟨_, _, _, h⟩
    subst hv'
    have E6 := (E5.out.alloc (.cells #[.int .i64 i, .int .u64 g] 33)).drew
    have A6 := (A5.out.alloc (.cells #[.int .i64 i, .int .u64 g] 33)).drew
    have H66 := blk_drew (blk_alloc (o' := .cells #[.int .i64 i, .int .u64 g] 33) H65.out)
    have H86 := blk_drew (blk_alloc (o' := .cells #[.int .i64 i, .int .u64 g] 33) H85.out)
    have K6 := (K5.out.alloc (.cells #[.int .i64 i, .int .u64 g] 33)).drew
    obtain ⟨WG, hWG⟩ : ∃ WG, WG = (WE.alloc (.cells #[.int .i64 i, .int .u64 g] 33)).drew := ⟨_, rfl⟩
    rw [← hWG] at E6 A6 H66 H86 K6 q2 q3
    replace q2 : WG.grownBy Wb mv.ownBlock := q2
    replace q3 : (Value.slice ov nv cv).ownBlock = mv.ownBlock ∨ ∃ b, (Value.slice ov nv cv).ownBlock = some b ∧ WG.heap.size ≤ b := q3
    clear hWG E5 A5 H65 H85 K5 LW L6 up6
    have kG : Kp (fun b => mv.ownBlock = some b) WG Wb := kp_grown q2 (fun b hb => hb)
    have hqb := kG.get E6.hq E6.ne.2
    have A7 := A6.kp kG (E6.hm.ne A6.hp (by decide)) (E6.hm.ne A6.hl (by decide)) (fun b hb => A6.hv.far E6.hm (by decide) hb)
    have L7 := E6.hl.kp kG (fun b hb => E6.hl.far E6.hm (by decide) hb)
    have H67 := kG.get H66 (fun e => by have := hmlt c6 e; omega)
    have H87 := kG.get H86 (E6.hm.ne H86 (by decide))
    have K7 := K6.trans (kG.mono (fun b hb => .inr (.inr (.inr (.inr hb)))))
    have vbq : (Value.slice ov nv cv).ownBlock ≠ some q := q1.ne hqb (by decide)
    have W8 : WAt (Wb.setCell ⟨q, 2, none⟩ (.slice ov nv cv)) q p (.slice (some ⟨b0, 0, none⟩) Ls.length c) (.slice ov nv cv) false Ls (Hs ++ [((i : Int), g)]) := ⟨blk_setCell hqb 2 _, L7.setCell _ _ (L7.ne hqb (by decide)), q1.setCell _ _ vbq⟩
    have A8 := A7.far ⟨q, 2, none⟩ (.slice ov nv cv) (ne_of_types A7.hp hqb (by decide)) (ne_of_types A7.hl hqb (by decide)) (A7.hv.ne hqb (by decide))
    have H68 := blk_far H67 (a := ⟨q, 2, none⟩) (.slice ov nv cv) (ne_of_types H67 hqb (by decide))
    have H88 := blk_far H87 (a := ⟨q, 2, none⟩) (.slice ov nv cv) (ne_of_types H87 hqb (by decide))
    have K8 : Kp (WF q p l v mv) w (Wb.setCell ⟨q, 2, none⟩ (.slice ov nv cv)) := K7.setCell _ (fun _ => .inl rfl)
    have Lb : Wb.cell? ⟨q, 2, none⟩ = some mv := by rw [cell_of hqb]; rfl
    have Lf := frozen_of hqb 2
    have hvb : (Value.slice ov nv cv).ownBlock = mv.ownBlock ∨ ∃ b, (Value.slice ov nv cv).ownBlock = some b ∧ w.heap.size ≤ b := q3.imp id (fun ⟨b, e, h⟩ => ⟨b, e, Nat.le_trans K6.size h⟩)
    clear E6 A6 H66 H86 K6 q2 q3 kG A7 L7 H67 H87 K7 q1
    obtain ⟨WH, hWH⟩ : ∃ WH, WH = Wb.setCell ⟨q, 2, none⟩ (.slice ov nv cv) := ⟨_, rfl⟩
    rw [← hWH] at W8 A8 H68 H88 K8
    replace hWH := hid hWH
    replace hqb := hid hqb
    replace W8 := hid W8
    replace A8 := hid A8
    replace H68 := hid H68
    replace H88 := hid H88
    replace K8 := hid K8
    replace hvb := hid hvb
    refine hK _ _ Lb ?_
    clear hK K
    repeat (first | (refine wpG_at (v := ?_) (by rfl) ?_ ?_; rotate_left; (focus (first | (go_simp; with_reducible rfl) | (go_simp; done))); simp only [Act.put, List.setIfInBounds_toArray, List.set_cons_zero, List.set_cons_succ]) | (refine wpG_at_skip (by rfl) ?_; simp only [Act.put, List.setIfInBounds_toArray, List.set_cons_zero, List.set_cons_succ]) | (refine wpG_held_skip (by rfl) ?_; simp only [Act.put, List.setIfInBounds_toArray, List.set_cons_zero, List.set_cons_succ]) | (refine wpG_held (v := ?_) (by rfl) ?_ ?_; rotate_left; (focus (intro w' hSw; (try dsimp only at hSw); go_split_ands; first | (go_simp; with_reducible rfl) | (go_simp; done))); simp only [Act.put, List.setIfInBounds_toArray, List.set_cons_zero, List.set_cons_succ]))
    refine wpG_fin (by rfl) (fun K hK => ?_)
    go_simp
    refine hK _ _ ?_
    clear hK K
    repeat (first | (refine wpG_at (v := ?_) (by rfl) ?_ ?_; rotate_left; (focus (first | (go_simp; with_reducible rfl) | (go_simp; done))); simp only [Act.put, List.setIfInBounds_toArray, List.set_cons_zero, List.set_cons_succ]) | (refine wpG_at_skip (by rfl) ?_; simp only [Act.put, List.setIfInBounds_toArray, List.set_cons_zero, List.set_cons_succ]) | (refine wpG_held_skip (by rfl) ?_; simp only [Act.put, List.setIfInBounds_toArray, List.set_cons_zero, List.set_cons_succ]) | (refine wpG_held (v := ?_) (by rfl) ?_ ?_; rotate_left; (focus (intro w' hSw; (try dsimp only at hSw); go_split_ands; first | (go_simp; with_reducible rfl) | (go_simp; done))); simp only [Act.put, List.setIfInBounds_toArray, List.set_cons_zero, List.set_cons_succ]))
    refine wpG_nil (NoPanic.normal ?_)
    go_wp2_with fail
    rw [← hWH.out]
    clear hWH hqb Lb Lf
    have LW := W8.out.cs
    have L6 := loc2 H68.out
    have R8 : WH.drew.rangeAt b8 0 (lnk x Hs).1 := (World.rangeAt_drew _ _ _ _).2 (whole_of H88.out)
    have HSET := hid (set_yes A8.out.drew INV.out.ok (k := i) (x := zX) (g := g) (lnk x Hs) (by rw [List.getElem?_set_self (by rw [hi.out]; exact hkl)]))
    refine wp_region_G (fun W => W.cell? ⟨q, 1, none⟩ = some (.slice (some ⟨b0, 0, none⟩) Ls.length c)) [(0, .held), (1, .held), (2, .held), (3, .held), (4, .held), (5, .held), (6, .at_), (7, .at_), (8, .at_), (9, .at_), (10, .at_), (11, .at_), (12, .eff), (13, .at_), (14, .at_)] ?L4 (by kernel_rfl) (by kernel_rfl) ?hL4 (LW.2.1) ?hG4
    case hL4 => simp only [pickOps, List.map_cons, List.map_nil, List.getD_cons_zero, List.getD_cons_succ]; rfl
    repeat (first | (refine wpG_at (by rfl) (ex_ldX _ rfl _ _ rfl (lnk x Hs) R8) ?_; simp only [Act.put, List.setIfInBounds_toArray, List.set_cons_zero, List.set_cons_succ]) | (refine wpG_at (v := ?_) (by rfl) ?_ ?_; rotate_left; (focus (first | (go_simp; with_reducible rfl) | (go_simp; done))); simp only [Act.put, List.setIfInBounds_toArray, List.set_cons_zero, List.set_cons_succ]) | (refine wpG_at_skip (by rfl) ?_; simp only [Act.put, List.setIfInBounds_toArray, List.set_cons_zero, List.set_cons_succ]) | (refine wpG_held_skip (by rfl) ?_; simp only [Act.put, List.setIfInBounds_toArray, List.set_cons_zero, List.set_cons_succ]) | (refine wpG_held (v := ?_) (by rfl) ?_ ?_; rotate_left; (focus (intro w' hSw; (try dsimp only at hSw); go_split_ands; first | (go_simp; with_reducible rfl) | (go_simp; done))); simp only [Act.put, List.setIfInBounds_toArray, List.set_cons_zero, List.set_cons_succ]))
    refine wpG_eff (by rfl) (fun K hK => ?_)
    go_simp
    refine HSET.out.mono ?_
    rintro e w9 ⟨rfl, a9, k9⟩
    have W9 := W8.out.drew.kp k9 (ne_of_types W8.out.hq A8.out.hl (by decide)) (fun b hb e => by subst e; exact W8.out.hl.ne A8.out.hl (by decide) hb) (fun b hb e => by subst e; exact W8.out.hm.ne A8.out.hl (by decide) hb)
    rw [List.set_set] at a9
    have K9 : Kp (WF q p l v mv) w w9 := (K8.out.drew).trans (k9.mono (fun b e => .inr (.inr (.inl e))))
    refine hK _ _ W9.cs.2.1 ?_
    clear hK K
    replace a9 := hid a9
    replace W9 := hid W9
    replace K9 := hid K9
    clear R8 L6 LW HSET W8 A8 H68 H88 K8 k9
    repeat (first | (refine wpG_at (v := ?_) (by rfl) ?_ ?_; rotate_left; (focus (first | (go_simp; with_reducible rfl) | (go_simp; done))); simp only [Act.put, List.setIfInBounds_toArray, List.set_cons_zero, List.set_cons_succ]) | (refine wpG_at_skip (by rfl) ?_; simp only [Act.put, List.setIfInBounds_toArray, List.set_cons_zero, List.set_cons_succ]) | (refine wpG_held_skip (by rfl) ?_; simp only [Act.put, List.setIfInBounds_toArray, List.set_cons_zero, List.set_cons_succ]) | (refine wpG_held (v := ?_) (by rfl) ?_ ?_; rotate_left; (focus (intro w' hSw; (try dsimp only at hSw); go_split_ands; first | (go_simp; with_reducible rfl) | (go_simp; done))); simp only [Act.put, List.setIfInBounds_toArray, List.set_cons_zero, List.set_cons_succ]))
    refine wpG_nil (NoPanic.normal ?_)
    go_wp2_with fail
    go_ret2
    have hi' := hi.out
    subst hi'
    exact ⟨rfl, v1, _, _, a9.out, W9.out, o1, rfl, hvb.out, K9.out⟩
  · rw [List.concat_eq_append] at hcon
    obtain ⟨gm, cm, hmv, hmo, hml, hmc⟩ := W4.hm.blk (by rw [hcon]; simp)
    have hlnk : lnk x Hs = setN x hi' hg' := by rw [hcon]; simp [lnk]
    have hm1 : Hs.length = Hs'.length + 1 := by rw [hcon]; simp
    have r1 : WC.rangeAt gm (Hs'.length * 2) (eH (hi', hg')) := by
      have := W4.hm
      rw [hmv] at this
      exact this.range eH_len (by rw [hcon]; simp)
    have c1 : WC.cell? ⟨gm, Hs'.length * 2, none⟩ = some (.int .i64 hi') := r1 0 _ rfl
    have c2 : WC.cell? ⟨gm, Hs'.length * 2 + 1, none⟩ = some (.int .u64 hg') := r1 1 _ rfl
    have LW := W4.cs
    rw [hm1] at hmv
    rw [hmv] at LW
    have f1 := frozen_of H8c 17
    have f2 := frozen_of H8c 18
    have x17 : (WC.cell? ⟨b8, 17, none⟩).isSome = true := (rowX H8c 17 (by omega)).1
    have x18 : (WC.cell? ⟨b8, 18, none⟩).isSome = true := (rowX H8c 18 (by omega)).1
    obtain ⟨u17, e17⟩ := Option.isSome_iff_exists.1 x17
    obtain ⟨u18, e18⟩ := Option.isSome_iff_exists.1 x18
    have bM : (Hs'.length : Int) < (Hs'.length : Int) + 1 := by omega
    have bM0 : (0 : Int) ≤ (Hs'.length : Int) := Int.natCast_nonneg _
    have bMl : Hs'.length ≤ 1000 := by omega
    have KD : Kp (WF q p l v mv) w ((WC.setCell ⟨b8, 17, none⟩ (.int .i64 hi')).setCell ⟨b8, 18, none⟩ (.int .u64 hg')) := (K4.setCell _ (fun h => absurd h (by simp only; omega))).setCell _ (fun h => absurd h (by simp only; omega))
    have kD : Kp (· = b8) WC ((WC.setCell ⟨b8, 17, none⟩ (.int .i64 hi')).setCell ⟨b8, 18, none⟩ (.int .u64 hg')) := (Kp.refl _ WC).setCells (b := b8) (o := 17) [.int .i64 hi', .int .u64 hg'] (fun _ => rfl)
    have HD8 : ((WC.setCell ⟨b8, 17, none⟩ (.int .i64 hi')).setCell ⟨b8, 18, none⟩ (.int .u64 hg')).heap[b8]? = some (.cells (lnk x Hs).1.toArray 35 (0, 0)) := by
      rw [blk_setCell (blk_setCell H8c 17 _) 18 _, setN_put, hlnk]
    have AD := A4.kp kD (ne_of_types A4.hp H8c (by decide)) (ne_of_types A4.hl H8c (by decide)) (fun b hb e => by subst e; exact A4.hv.ne H8c (by decide) hb)
    have WD := W4.kp kD (ne_of_types W4.hq H8c (by decide)) (fun b hb e => by subst e; injection hb with hb; simp only at hb; omega) (fun b hb e => by subst e; exact W4.hm.ne H8c (by decide) hb)
    have H6d := kD.get H6c n68
    replace KD := hid KD
    replace HD8 := hid HD8
    replace AD := hid AD
    replace WD := hid WD
    replace H6d := hid H6d
    replace hmv := hid hmv
    replace hcon := hid hcon
    replace hlnk := hid hlnk
    replace hm1 := hid hm1
    clear A4 W4 H6c H8c K4 kD r1 x17 x18 hmo
    go_wp2_with fail
    replace KD := KD.out
    replace HD8 := HD8.out
    replace AD := AD.out
    have WD' := WD.out
    replace H6d := H6d.out
    clear WD
    obtain ⟨WD, hWD⟩ : ∃ WD, WD = (WC.setCell ⟨b8, 17, none⟩ (.int .i64 hi')).setCell ⟨b8, 18, none⟩ (.int .u64 hg') := ⟨_, rfl⟩
    rw [← hWD] at KD HD8 AD WD' H6d ⊢
    clear hWD LW c1 c2 f1 f2 e17 e18
    have LW := WD'.cs
    have E5 : WAt (WD.setCell ⟨q, 1, none⟩ (.slice (some ⟨b0, 0, none⟩) Ls.length c)).drew q p (.slice (some ⟨b0, 0, none⟩) Ls.length c) mv false Ls Hs := by
      have hp : RowAt WD 35 eXv 19 (.slice (some ⟨b0, 0, none⟩) Ls.length c) Ls := by
        have := RowAt.pop (l := Ls ++ [x]) eXv_len (b := b0) (c := c) (by rw [List.length_append]; exact WD'.hl)
        rw [List.dropLast_concat, List.length_append] at this
        exact this
      exact ⟨blk_drew (blk_setCell WD'.hq 1 _), (hp.setCell ⟨q, 1, none⟩ _ (fun e => WD'.ne.1 e)).drew, (WD'.hm.setCell _ _ WD'.ne.2).drew⟩
    have A5 := (AD.far ⟨q, 1, none⟩ (.slice (some ⟨b0, 0, none⟩) Ls.length c) (ne_of_types AD.hp WD'.hq (by decide)) (ne_of_types AD.hl WD'.hq (by decide)) (AD.hv.ne WD'.hq (by decide))).drew
    have H65 := blk_drew (blk_far H6d (a := ⟨q, 1, none⟩) (.slice (some ⟨b0, 0, none⟩) Ls.length c) (ne_of_types H6d WD'.hq (by decide)))
    have H85 := blk_drew (blk_far HD8 (a := ⟨q, 1, none⟩) (.slice (some ⟨b0, 0, none⟩) Ls.length c) (ne_of_types HD8 WD'.hq (by decide)))
    have K5 := (KD.setCell (p := ⟨q, 1, none⟩) (.slice (some ⟨b0, 0, none⟩) Ls.length c) (fun _ => .inl rfl)).drew
    have bc : (Ls.length : Int) ≤ (c : Int) := by omega
    have bc' : Ls.length ≤ c := by omega
    clear WD' AD H6d HD8 KD
    obtain ⟨WE, hWE⟩ : ∃ WE, WE = (WD.setCell ⟨q, 1, none⟩ (.slice (some ⟨b0, 0, none⟩) Ls.length c)).drew := ⟨_, rfl⟩
    rw [← hWE] at E5 A5 H65 H85 K5
    replace E5 := hid E5
    replace A5 := hid A5
    replace H65 := hid H65
    replace H85 := hid H85
    replace K5 := hid K5
    replace hWE := hid hWE
    refine wp_region_G (fun _ => True) [(0, .at_), (1, .at_), (2, .at_), (3, .at_), (4, .at_), (5, .at_), (6, .at_), (7, .at_), (8, .at_), (9, .at_), (10, .at_), (11, .at_), (12, .at_), (13, .at_), (14, .eff)] ?L5 (by kernel_rfl) (by kernel_rfl) ?hL5 (trivial) ?hG5
    case hL5 => simp only [pickOps, List.map_cons, List.map_nil, List.getD_cons_zero, List.getD_cons_succ]; rfl
    repeat (first | (refine wpG_at (v := ?_) (by rfl) ?_ ?_; rotate_left; (focus (first | (go_simp; with_reducible rfl) | (go_simp; done))); simp only [Act.put, List.setIfInBounds_toArray, List.set_cons_zero, List.set_cons_succ]) | (refine wpG_at_skip (by rfl) ?_; simp only [Act.put, List.setIfInBounds_toArray, List.set_cons_zero, List.set_cons_succ]) | (refine wpG_held_skip (by rfl) ?_; simp only [Act.put, List.setIfInBounds_toArray, List.set_cons_zero, List.set_cons_succ]) | (refine wpG_held (v := ?_) (by rfl) ?_ ?_; rotate_left; (focus (intro w' hSw; (try dsimp only at hSw); go_split_ands; first | (go_simp; with_reducible rfl) | (go_simp; done))); simp only [Act.put, List.setIfInBounds_toArray, List.set_cons_zero, List.set_cons_succ]))
    refine wpG_eff (by rfl) (fun K hK => ?_)
    go_simp
    refine hK _ _ trivial ?_
    clear hK K
    repeat (first | (refine wpG_at (v := ?_) (by rfl) ?_ ?_; rotate_left; (focus (first | (go_simp; with_reducible rfl) | (go_simp; done))); simp only [Act.put, List.setIfInBounds_toArray, List.set_cons_zero, List.set_cons_succ]) | (refine wpG_at_skip (by rfl) ?_; simp only [Act.put, List.setIfInBounds_toArray, List.set_cons_zero, List.set_cons_succ]) | (refine wpG_held_skip (by rfl) ?_; simp only [Act.put, List.setIfInBounds_toArray, List.set_cons_zero, List.set_cons_succ]) | (refine wpG_held (v := ?_) (by rfl) ?_ ?_; rotate_left; (focus (intro w' hSw; (try dsimp only at hSw); go_split_ands; first | (go_simp; with_reducible rfl) | (go_simp; done))); simp only [Act.put, List.setIfInBounds_toArray, List.set_cons_zero, List.set_cons_succ]))
    refine wpG_nil (NoPanic.normal ?_)
    go_wp2_with fail
    rw [← hWE.out]
    clear hWE LW
    have LW := E5.out.cs
    have L6 := loc2 H65.out
    have up6 := ups L6.2.2.2.2
    refine wp_region_G (fun W => W.cell? ⟨q, 2, none⟩ = some mv) [(0, .held), (1, .held), (2, .held), (3, .held), (4, .held), (5, .at_), (6, .eff), (7, .eff), (8, .at_), (9, .at_), (10, .fin)] ?L6 (by kernel_rfl) (by kernel_rfl) ?hL6 (LW.2.2.1) ?hG6
    case hL6 => simp only [pickOps, List.map_cons, List.map_nil, List.getD_cons_zero, List.getD_cons_succ]; rfl
    repeat (first | (refine wpG_at (v := ?_) (by rfl) ?_ ?_; rotate_left; (focus (first | (go_simp; with_reducible rfl) | (go_simp; done))); simp only [Act.put, List.setIfInBounds_toArray, List.set_cons_zero, List.set_cons_succ]) | (refine wpG_at_skip (by rfl) ?_; simp only [Act.put, List.setIfInBounds_toArray, List.set_cons_zero, List.set_cons_succ]) | (refine wpG_held_skip (by rfl) ?_; simp only [Act.put, List.setIfInBounds_toArray, List.set_cons_zero, List.set_cons_succ]) | (refine wpG_held (v := ?_) (by rfl) ?_ ?_; rotate_left; (focus (intro w' hSw; (try dsimp only at hSw); go_split_ands; first | (go_simp; with_reducible rfl) | (go_simp; done))); simp only [Act.put, List.setIfInBounds_toArray, List.set_cons_zero, List.set_cons_succ]))
    refine wpG_eff (by rfl) (fun K hK => ?_)
    go_simp
    refine hK _ _ (by go_simp) ?_
    clear hK K
    repeat (first | (refine wpG_at (v := ?_) (by rfl) ?_ ?_; rotate_left; (focus (first | (go_simp; with_reducible rfl) | (go_simp; done))); simp only [Act.put, List.setIfInBounds_toArray, List.set_cons_zero, List.set_cons_succ]) | (refine wpG_at_skip (by rfl) ?_; simp only [Act.put, List.setIfInBounds_toArray, List.set_cons_zero, List.set_cons_succ]) | (refine wpG_held_skip (by rfl) ?_; simp only [Act.put, List.setIfInBounds_toArray, List.set_cons_zero, List.set_cons_succ]) | (refine wpG_held (v := ?_) (by rfl) ?_ ?_; rotate_left; (focus (intro w' hSw; (try dsimp only at hSw); go_split_ands; first | (go_simp; with_reducible rfl) | (go_simp; done))); simp only [Act.put, List.setIfInBounds_toArray, List.set_cons_zero, List.set_cons_succ]))
    refine wpG_eff (by rfl) (fun K hK => ?_)
    refine wp_grow eH_len (by omega) _ _ 46 33 _ 16 rfl sl46 i33 rfl mv Hs rfl ((E5.out.alloc (.cells #[.int .i64 i, .int .u64 g] 33)).drew.hm) WE.heap.size 1 [((i : Int), g)] rfl #[.int .i64 i, .int .u64 g] 33 (blk_drew (blk_new _ _)) (preH _) (eH_one _) (by rw [List.length_singleton]; omega) (by omega) ?_
    intro vb Wb q1 q2 q3
    obtain ⟨ov, nv, cv, hv'⟩ : ∃ ov nv cv, vb = .slice ov nv cv := by obtain ⟨o, c, h, _⟩ := q1.form; exact ⟨_, _, _, h⟩
    subst hv'
    have E6 := (E5.out.alloc (.cells #[.int .i64 i, .int .u64 g] 33)).drew
    have A6 := (A5.out.alloc (.cells #[.int .i64 i, .int .u64 g] 33)).drew
    have H66 := blk_drew (blk_alloc (o' := .cells #[.int .i64 i, .int .u64 g] 33) H65.out)
    have H86 := blk_drew (blk_alloc (o' := .cells #[.int .i64 i, .int .u64 g] 33) H85.out)
    have K6 := (K5.out.alloc (.cells #[.int .i64 i, .int .u64 g] 33)).drew
    obtain ⟨WG, hWG⟩ : ∃ WG, WG = (WE.alloc (.cells #[.int .i64 i, .int .u64 g] 33)).drew := ⟨_, rfl⟩
    rw [← hWG] at E6 A6 H66 H86 K6 q2 q3
    replace q2 : WG.grownBy Wb mv.ownBlock := q2
    replace q3 : (Value.slice ov nv cv).ownBlock = mv.ownBlock ∨ ∃ b, (Value.slice ov nv cv).ownBlock = some b ∧ WG.heap.size ≤ b := q3
    clear hWG E5 A5 H65 H85 K5 LW L6 up6
    have kG : Kp (fun b => mv.ownBlock = some b) WG Wb := kp_grown q2 (fun b hb => hb)
    have hqb := kG.get E6.hq E6.ne.2
    have A7 := A6.kp kG (E6.hm.ne A6.hp (by decide)) (E6.hm.ne A6.hl (by decide)) (fun b hb => A6.hv.far E6.hm (by decide) hb)
    have L7 := E6.hl.kp kG (fun b hb => E6.hl.far E6.hm (by decide) hb)
    have H67 := kG.get H66 (fun e => by have := hmlt c6 e; omega)
    have H87 := kG.get H86 (E6.hm.ne H86 (by decide))
    have K7 := K6.trans (kG.mono (fun b hb => .inr (.inr (.inr (.inr hb)))))
    have vbq : (Value.slice ov nv cv).ownBlock ≠ some q := q1.ne hqb (by decide)
    have W8 : WAt (Wb.setCell ⟨q, 2, none⟩ (.slice ov nv cv)) q p (.slice (some ⟨b0, 0, none⟩) Ls.length c) (.slice ov nv cv) false Ls (Hs ++ [((i : Int), g)]) := ⟨blk_setCell hqb 2 _, L7.setCell _ _ (L7.ne hqb (by decide)), q1.setCell _ _ vbq⟩
    have A8 := A7.far ⟨q, 2, none⟩ (.slice ov nv cv) (ne_of_types A7.hp hqb (by decide)) (ne_of_types A7.hl hqb (by decide)) (A7.hv.ne hqb (by decide))
    have H68 := blk_far H67 (a := ⟨q, 2, none⟩) (.slice ov nv cv) (ne_of_types H67 hqb (by decide))
    have H88 := blk_far H87 (a := ⟨q, 2, none⟩) (.slice ov nv cv) (ne_of_types H87 hqb (by decide))
    have K8 : Kp (WF q p l v mv) w (Wb.setCell ⟨q, 2, none⟩ (.slice ov nv cv)) := K7.setCell _ (fun _ => .inl rfl)
    have Lb : Wb.cell? ⟨q, 2, none⟩ = some mv := by rw [cell_of hqb]; rfl
    have Lf := frozen_of hqb 2
    have hvb : (Value.slice ov nv cv).ownBlock = mv.ownBlock ∨ ∃ b, (Value.slice ov nv cv).ownBlock = some b ∧ w.heap.size ≤ b := q3.imp id (fun ⟨b, e, h⟩ => ⟨b, e, Nat.le_trans K6.size h⟩)
    clear E6 A6 H66 H86 K6 q2 q3 kG A7 L7 H67 H87 K7 q1
    obtain ⟨WH, hWH⟩ : ∃ WH, WH = Wb.setCell ⟨q, 2, none⟩ (.slice ov nv cv) := ⟨_, rfl⟩
    rw [← hWH] at W8 A8 H68 H88 K8
    replace hWH := hid hWH
    replace hqb := hid hqb
    replace W8 := hid W8
    replace A8 := hid A8
    replace H68 := hid H68
    replace H88 := hid H88
    replace K8 := hid K8
    replace hvb := hid hvb
    refine hK _ _ Lb ?_
    clear hK K
    repeat (first | (refine wpG_at (v := ?_) (by rfl) ?_ ?_; rotate_left; (focus (first | (go_simp; with_reducible rfl) | (go_simp; done))); simp only [Act.put, List.setIfInBounds_toArray, List.set_cons_zero, List.set_cons_succ]) | (refine wpG_at_skip (by rfl) ?_; simp only [Act.put, List.setIfInBounds_toArray, List.set_cons_zero, List.set_cons_succ]) | (refine wpG_held_skip (by rfl) ?_; simp only [Act.put, List.setIfInBounds_toArray, List.set_cons_zero, List.set_cons_succ]) | (refine wpG_held (v := ?_) (by rfl) ?_ ?_; rotate_left; (focus (intro w' hSw; (try dsimp only at hSw); go_split_ands; first | (go_simp; with_reducible rfl) | (go_simp; done))); simp only [Act.put, List.setIfInBounds_toArray, List.set_cons_zero, List.set_cons_succ]))
    refine wpG_fin (by rfl) (fun K hK => ?_)
    go_simp
    refine hK _ _ ?_
    clear hK K
    repeat (first | (refine wpG_at (v := ?_) (by rfl) ?_ ?_; rotate_left; (focus (first | (go_simp; with_reducible rfl) | (go_simp; done))); simp only [Act.put, List.setIfInBounds_toArray, List.set_cons_zero, List.set_cons_succ]) | (refine wpG_at_skip (by rfl) ?_; simp only [Act.put, List.setIfInBounds_toArray, List.set_cons_zero, List.set_cons_succ]) | (refine wpG_held_skip (by rfl) ?_; simp only [Act.put, List.setIfInBounds_toArray, List.set_cons_zero, List.set_cons_succ]) | (refine wpG_held (v := ?_) (by rfl) ?_ ?_; rotate_left; (focus (intro w' hSw; (try dsimp only at hSw); go_split_ands; first | (go_simp; with_reducible rfl) | (go_simp; done))); simp only [Act.put, List.setIfInBounds_toArray, List.set_cons_zero, List.set_cons_succ]))
    refine wpG_nil (NoPanic.normal ?_)
    go_wp2_with fail
    rw [← hWH.out]
    clear hWH hqb Lb Lf
    have LW := W8.out.cs
    have L6 := loc2 H68.out
    have R8 : WH.drew.rangeAt b8 0 (lnk x Hs).1 := (World.rangeAt_drew _ _ _ _).2 (whole_of H88.out)
    have HSET := hid (set_yes A8.out.drew INV.out.ok (k := i) (x := zX) (g := g) (lnk x Hs) (by rw [List.getElem?_set_self (by rw [hi.out]; exact hkl)]))
    refine wp_region_G (fun W => W.cell? ⟨q, 1, none⟩ = some (.slice (some ⟨b0, 0, none⟩) Ls.length c)) [(0, .held), (1, .held), (2, .held), (3, .held), (4, .held), (5, .held), (6, .at_), (7, .at_), (8, .at_), (9, .at_), (10, .at_), (11, .at_), (12, .eff), (13, .at_), (14, .at_)] ?L7 (by kernel_rfl) (by kernel_rfl) ?hL7 (LW.2.1) ?hG7
    case hL7 => simp only [pickOps, List.map_cons, List.map_nil, List.getD_cons_zero, List.getD_cons_succ]; rfl
    repeat (first | (refine wpG_at (by rfl) (ex_ldX _ rfl _ _ rfl (lnk x Hs) R8) ?_; simp only [Act.put, List.setIfInBounds_toArray, List.set_cons_zero, List.set_cons_succ]) | (refine wpG_at (v := ?_) (by rfl) ?_ ?_; rotate_left; (focus (first | (go_simp; with_reducible rfl) | (go_simp; done))); simp only [Act.put, List.setIfInBounds_toArray, List.set_cons_zero, List.set_cons_succ]) | (refine wpG_at_skip (by rfl) ?_; simp only [Act.put, List.setIfInBounds_toArray, List.set_cons_zero, List.set_cons_succ]) | (refine wpG_held_skip (by rfl) ?_; simp only [Act.put, List.setIfInBounds_toArray, List.set_cons_zero, List.set_cons_succ]) | (refine wpG_held (v := ?_) (by rfl) ?_ ?_; rotate_left; (focus (intro w' hSw; (try dsimp only at hSw); go_split_ands; first | (go_simp; with_reducible rfl) | (go_simp; done))); simp only [Act.put, List.setIfInBounds_toArray, List.set_cons_zero, List.set_cons_succ]))
    refine wpG_eff (by rfl) (fun K hK => ?_)
    go_simp
    refine HSET.out.mono ?_
    rintro e w9 ⟨rfl, a9, k9⟩
    have W9 := W8.out.drew.kp k9 (ne_of_types W8.out.hq A8.out.hl (by decide)) (fun b hb e => by subst e; exact W8.out.hl.ne A8.out.hl (by decide) hb) (fun b hb e => by subst e; exact W8.out.hm.ne A8.out.hl (by decide) hb)
    rw [List.set_set] at a9
    have K9 : Kp (WF q p l v mv) w w9 := (K8.out.drew).trans (k9.mono (fun b e => .inr (.inr (.inl e))))
    refine hK _ _ W9.cs.2.1 ?_
    clear hK K
    replace a9 := hid a9
    replace W9 := hid W9
    replace K9 := hid K9
    clear R8 L6 LW HSET W8 A8 H68 H88 K8 k9
    repeat (first | (refine wpG_at (v := ?_) (by rfl) ?_ ?_; rotate_left; (focus (first | (go_simp; with_reducible rfl) | (go_simp; done))); simp only [Act.put, List.setIfInBounds_toArray, List.set_cons_zero, List.set_cons_succ]) | (refine wpG_at_skip (by rfl) ?_; simp only [Act.put, List.setIfInBounds_toArray, List.set_cons_zero, List.set_cons_succ]) | (refine wpG_held_skip (by rfl) ?_; simp only [Act.put, List.setIfInBounds_toArray, List.set_cons_zero, List.set_cons_succ]) | (refine wpG_held (v := ?_) (by rfl) ?_ ?_; rotate_left; (focus (intro w' hSw; (try dsimp only at hSw); go_split_ands; first | (go_simp; with_reducible rfl) | (go_simp; done))); simp only [Act.put, List.setIfInBounds_toArray, List.set_cons_zero, List.set_cons_succ]))
    refine wpG_nil (NoPanic.normal ?_)
    go_wp2_with fail
    go_ret2
    have hi' := hi.out
    subst hi'
    exact ⟨rfl, v1, _, _, a9.out, W9.out, o1, rfl, hvb.out, K9.out⟩
end
end Go.Proofs.Ytaanbonbdhjbpaa
