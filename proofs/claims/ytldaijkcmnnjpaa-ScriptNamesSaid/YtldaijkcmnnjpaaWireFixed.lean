/- Contracts and laws of a chapter that its statement of names leans on. Each states its conditions. -/
import Derived.Test.YtldaijkcmnnjpaaWireVary
import Derived.Test.YtldaijkcmnnjpaaArr
namespace Go.Proofs.Ytldaijkcmnnjpaa
open Go.RowKit Wire
set_option linter.unusedVariables false
theorem wide_any (a : Int) (w : World) : Calls Try.prog 103 #[.int .i64 a] w fun e w' => e = .returned (.int .i64 (if wdB a then 0 else 2)) ∧ w = w' := by
  cases h : wdB a
  · obtain ⟨h1, h2, h4, h8⟩ := wdB_not h
    clear h
    have d1 : decide (a = 1) = false := by simpa using h1
    have d2 : decide (a = 2) = false := by simpa using h2
    have d4 : decide (a = 4) = false := by simpa using h4
    have d8 : decide (a = 8) = false := by simpa using h8
    go_enter Try.func103, Try.ntmps103
    go_wp2_with fail
    go_ret
    exact ⟨rfl, rfl⟩
  · rcases wdB_of h with rfl | rfl | rfl | rfl
    all_goals
      clear h
      go_enter Try.func103, Try.ntmps103
      go_wp2_with fail
      go_ret
      exact ⟨rfl, rfl⟩

end Go.Proofs.Ytldaijkcmnnjpaa
