/- Walks through a game: an act of the kind 5. -/
import Derived.Test.YtldkogdkadgnkaaR65a
import Derived.Test.YtldkogdkadgnkaaR65b
import Derived.Test.YtldkogdkadgnkaaR65c
namespace Go.Proofs.Ytldkogdkadgnkaa
set_option linter.unusedSimpArgs false
set_option linter.unusedVariables false
open Go.RowKit
attribute [local go_sem ↓] Go.wp_at_zero Go.wp_at_succ
section
variable {N : Nat} {w w' : World} {pg p l r lb c : Nat} {v vb hv : Value} {S : List (Int × Int × Bool)} {B : List Nat} {E : Nat} {H : List (Nat × Int)} {G : Int}
theorem do5 (h : GAt N w pg p l r lb c v vb hv S B E H) (hI : AInv S B E) (hG : Gens S E G) (hGG : G ≤ 4096) (hH : H.length ≤ 4096) (hi hg at_ x : Int) (wat : -9223372036854775808 ≤ at_ ∧ at_ < 9223372036854775808) :
    Calls Try.prog 9 #[.pointer (some ⟨pg, 0, none⟩), .agg #[.int .i64 5, .int .i64 hi, .int .u64 hg, .int .i64 at_, .int .i64 x]] w fun e w' => e = .returned (.bool true) ∧ Done N w w' pg p l r lb c v vb hv S B E H := by
  by_cases c1 : at_ < 1
  · exact do5a h hI hG hGG hH hi hg at_ x wat c1
  · by_cases c2 : H.length = 0
    · exact do5b h hI hG hGG hH hi hg at_ x wat (by omega) c2
    · exact do5c h hI hG hGG hH hi hg at_ x wat (by omega) (by omega)
end
end Go.Proofs.Ytldkogdkadgnkaa
