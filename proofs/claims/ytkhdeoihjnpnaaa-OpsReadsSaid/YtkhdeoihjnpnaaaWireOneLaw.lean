/- Contracts and laws of another chapter that this one leans on. Each states its conditions. -/
import Derived.Test.YtkhdeoihjnpnaaaChecked
import Derived.Test.YtkhdeoihjnpnaaaMem
import Derived.Test.YtkhdeoihjnpnaaaSlice
import Derived.Test.YtkhdeoihjnpnaaaArr
import Derived.Test.YtkhdeoihjnpnaaaRegion
import Derived.Test.YtkhdeoihjnpnaaaRet
import Derived.Test.YtkhdeoihjnpnaaaRbb
import Derived.Test.YtkhdeoihjnpnaaaWireFirstLaw
namespace Go.Proofs.Ytkhdeoihjnpnaaa
open Wire
set_option linter.unusedVariables false

/-- A number that was read, written again. -/
theorem one_num {l : List UInt8} {most : Nat} (h : uvE l 0 most = 0) : 1 ≤ (uvR l 0).2.2 ∧ (uvR l 0).2.2 ≤ l.length ∧ vry (uvN l 0 most) = l.take (uvR l 0).2.2 := by
  obtain ⟨h1, h2, h3⟩ := uv_zero h
  obtain ⟨g1, g2, g3, g4⟩ := uvR_le h2
  refine ⟨g2, by simpa using g3, ?_⟩
  rw [show uvN l 0 most = (uvR l 0).2.1 from by simp [uvN, h]]
  simpa using g4.symm
end Go.Proofs.Ytkhdeoihjnpnaaa
