/- Contracts and laws of a chapter that its statement of names leans on. Each states its conditions. -/
import Derived.Test.YtldaijkcmnnjpaaHd2
namespace Go.Proofs.Ytldaijkcmnnjpaa
open Go.RowKit Wire
set_option linter.unusedVariables false
set_option maxHeartbeats 1600000 in
theorem base27_any (g : Nat) (w : World) (hg : g ≤ 1000000) :
    Calls Try.prog 85 #[.int .i64 (g : Int)] w fun e w' => e = .returned (.int .u64 ((16777216 * (g + 1) : Nat) : Int)) ∧ w = w' := by
  go_enter Try.func85, Try.ntmps85
  go_wp2_with fail
  go_ret
  exact ⟨by simp, rfl⟩
set_option maxHeartbeats 1600000 in
theorem rbase27_any (g : Nat) (w : World) (hg : g ≤ 1000000) :
    Calls Try.prog 41 #[.int .i64 (g : Int)] w fun e w' => e = .returned (.int .u64 ((16777216 * (g + 1) : Nat) : Int)) ∧ w = w' := by
  go_enter Try.func41, Try.ntmps41
  go_wp2_with fail
  go_ret
  exact ⟨by simp, rfl⟩

end Go.Proofs.Ytldaijkcmnnjpaa
