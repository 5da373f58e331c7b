/- Bytes that came in; the law of pieces, walked. -/
import Derived.Test.YtaanbonbdhjbpaaE10
import Derived.Test.YtaanbonbdhjbpaaLibV
namespace Go.Proofs.Ytaanbonbdhjbpaa
set_option linter.unusedSimpArgs false
set_option linter.unusedVariables false
open Go.RowKit
attribute [local go_sem ↓] Go.wp_at_zero Go.wp_at_succ
section
open Go.ChangeShapes Go.WideShapes Go.Deep
variable {H : Type} {enc : TypeId × Value → H} {w : World} {base : Nat} {spare : Nat → Bool} {held : Bool}
/-- bytes that came in -/
def Bin (w : World) (v : Value) (L : List Int) : Prop := Sg w eB v L ∧ ∀ x ∈ L, 0 ≤ x ∧ x < 256
set_option maxRecDepth 100000 in
theorem bytes_of {fuel : Nat} {a : Option Addr} {len cap : Nat} {x : DataW H × List MemPlace} (h : DataW.trod enc Try.prog w base spare held fuel 22 [.slice a len cap] = some x) : ∃ L, Bin w (.slice a len cap) L := by
  have c5 : Try.prog.cellsOf 5 = 1 := by kernel_rfl
  rcases open_deep Try.underlying22 h with ⟨rfl, rfl, rfl⟩ | ⟨y, rfl, hl, hm, hi⟩
  · exact ⟨[], .inl ⟨rfl, rfl⟩, by simp⟩
  · have hh : ∀ i, i < len → ∃ z : Int, (0 ≤ z ∧ z < 256) ∧ w.cell? (y.add i) = some (.int .u8 z) := by
      intro i hil
      obtain ⟨n, cs, z, ht, hc⟩ := hi i hil
      rw [c5] at hc
      obtain ⟨n0, e0, _, f0⟩ := DataW.trod_int Try.underlying5 ht
      subst e0
      have := hc 0 _ rfl
      rw [Nat.mul_one, Nat.add_zero] at this
      refine ⟨n0, ?_, this⟩
      have := f0
      simp [Lit.wf, IntKind.min, IntKind.max, IntKind.bits, IntKind.signed] at this
      omega
    obtain ⟨L, hL, hz⟩ := list_of hh
    refine ⟨L, .inr ⟨y, cap, by rw [hL], by omega, fun hne => ?_, fun j u hj => ?_⟩, fun z hz' => ?_⟩
    · have hp := List.length_pos_iff.2 hne
      obtain ⟨_, c0⟩ := hz 0 (L[0]'hp) (List.getElem?_eq_getElem hp)
      have := cell_lt c0
      rwa [add_blk] at this
    · rw [flatB, List.getElem?_map] at hj
      obtain ⟨z, hz1, rfl⟩ := Option.map_eq_some_iff.1 hj
      exact (hz j z hz1).2
    · obtain ⟨i, hi'⟩ := List.mem_iff_getElem?.1 hz'
      exact (hz i z hi').1
end
section
variable {ops : Array Oper} {a : Act} {o : Oper}
theorem ex_nqX {W : World} (t2 : TypeId) (y z : Operand) (ho : o.op = .binOp .neq 35 y z t2) (x : X) (hx : XEq x) (hy : a.eval y = .agg x.1.toArray) (hz : a.eval z = .agg x.1.toArray) : (execOp a.eval o).run Try.prog W = .ok (.value (.bool false)) W := by
  unfold execOp
  simp only [ho, hy, hz, Sem.run_bind, run_eqGuard_agg W _ _ _ _ _ _ guardX, run_neq_struct, eqX hx W, Result.andThen_ok]
  rfl
end
/-- a payload's pieces can be compared -/
theorem wf_u8 {x : Int} (h : 0 ≤ x ∧ x < 256) : (Lit.int .u8 x).wf = true := by
  simp [Lit.wf, IntKind.min, IntKind.max, IntKind.bits, IntKind.signed]; omega
theorem cl35 : Try.prog.cellsOf 35 = 19 ∧ Try.prog.cellsOf 30 = 16 ∧ Try.prog.cellsOf 33 = 2 ∧ Try.prog.cellsOf 3 = 1 ∧ Try.prog.cellsOf 5 = 1 ∧ Try.prog.cellsOf 31 = 1 := ⟨by kernel_rfl, by kernel_rfl, by kernel_rfl, by kernel_rfl, by kernel_rfl, by kernel_rfl⟩
theorem kl_int {d : Nat} {t : TypeId} {k : IntKind} (hu : Try.prog.underlying t = some (.int k)) {n : Int} (h : (Lit.int k n).wf = true) : Try.prog.keyLits (d + 1) t [.int k n] = some [.int k n] := by
  simp [Program.keyLits, hu, h]
theorem mapM_all {α β : Type} {f : α → Option β} {g : α → β} : ∀ (l : List α), (∀ x ∈ l, f x = some (g x)) → l.mapM f = some (l.map g)
  | [], _ => rfl
  | x :: r, h => by
    rw [List.mapM_cons, h x (by simp), mapM_all r (fun y hy => h y (by simp [hy]))]
    rfl
theorem kl_bytes {b : Nat → Int} (hb : ∀ j, j < 16 → 0 ≤ b j ∧ b j < 256) : Try.prog.keyLits 19 30 ((List.range 16).map (fun j => .int .u8 (b j))) = some ((List.range 16).map (fun j => [Lit.int .u8 (b j)])).flatten := by
  obtain ⟨_, c2, _, _, c5, _⟩ := cl35
  have hm : (List.range 16).mapM (fun i => Try.prog.keyLits 18 5 ((((List.range 16).map (fun j => Value.int .u8 (b j))).drop (i * 1)).take 1)) = some ((List.range 16).map (fun j => [Lit.int .u8 (b j)])) := by
    refine mapM_all _ (fun i hi => ?_)
    have hi' := List.mem_range.1 hi
    have e : (((List.range 16).map (fun j => Value.int .u8 (b j))).drop (i * 1)).take 1 = [.int .u8 (b i)] := by
      rw [Nat.mul_one, List.drop_eq_getElem_cons (by simpa using hi'), List.take_succ_cons, List.take_zero]
      simp
    rw [e]
    exact kl_int Try.underlying5 (wf_u8 (hb i hi'))
  unfold Program.keyLits
  rw [Try.underlying30]
  dsimp only
  rw [c2, c5, if_pos (by simp), hm]
  rfl
theorem kl_h {i g : Int} (hi : (Lit.int .i64 i).wf = true) (hg : (Lit.int .u64 g).wf = true) : Try.prog.keyLits 19 33 [.int .i64 i, .int .u64 g] = some [.int .i64 i, .int .u64 g] := by
  obtain ⟨_, _, c3, c4, _, c6⟩ := cl35
  unfold Program.keyLits
  rw [Try.underlying33]
  dsimp only
  rw [c3, if_pos ⟨rfl, by kernel_rfl⟩]
  simp only [List.mapM_cons, List.mapM_nil, c4, c6, List.drop_zero, List.drop_succ_cons, List.take_succ_cons, List.take_zero]
  rw [kl_int Try.underlying3 hi, kl_int Try.underlying31 hg]
  rfl
theorem mkE_eqs {n i g : Int} {b : Nat → Int} (hn : (Lit.int .i64 n).wf = true) (hb : ∀ j, j < 16 → 0 ≤ b j ∧ b j < 256) (hi : (Lit.int .i64 i).wf = true) (hg : (Lit.int .u64 g).wf = true) : XEq (mkE n b i g) := by
  obtain ⟨c1, c2, c3, c4, _, c6⟩ := cl35
  unfold XEq
  unfold Program.keyLits
  rw [Try.underlying35]
  dsimp only
  rw [c1, if_pos ⟨(mkE n b i g).len, by kernel_rfl⟩]
  have h1 : (List.drop 0 (mkE n b i g).1).take 1 = [.int .i64 n] := rfl
  have h2 : (List.drop 1 (mkE n b i g).1).take 16 = (List.range 16).map (fun j => .int .u8 (b j)) := rfl
  have h3 : (List.drop 17 (mkE n b i g).1).take 2 = [.int .i64 i, .int .u64 g] := rfl
  simp only [List.mapM_cons, List.mapM_nil, c2, c3, c4, h1, h2, h3]
  rw [kl_int Try.underlying3 hn, kl_bytes hb, kl_h hi hg]
  rfl
theorem wf_small {n : Int} (h : 0 ≤ n ∧ n ≤ 1000000) : (Lit.int .i64 n).wf = true := WalkArith.wf_i64 (by omega)
theorem byte_at {L : List Int} (hL : ∀ x ∈ L, 0 ≤ x ∧ x < 256) (k : Nat) : 0 ≤ (L[k]?).getD 0 ∧ (L[k]?).getD 0 < 256 := by
  cases h : L[k]? with
  | none => simp
  | some x => exact hL x (List.mem_of_getElem? h)
theorem pc_eqs {L : List Int} (hL : ∀ x ∈ L, 0 ≤ x ∧ x < 256) (k : Nat) : XEq (pc L k) :=
  mkE_eqs (wf_small (by omega)) (fun j _ => byte_at hL _) (by decide) (by decide)
end Go.Proofs.Ytaanbonbdhjbpaa
