/- Contracts and laws of another chapter that this one leans on. Each states its conditions. -/
import Derived.Test.YtljpggebpfpelaaChecked
import Derived.Test.YtljpggebpfpelaaMem
import Derived.Test.YtljpggebpfpelaaSlice
import Derived.Test.YtljpggebpfpelaaArr
import Derived.Test.YtljpggebpfpelaaRegion
import Derived.Test.YtljpggebpfpelaaRet
import Derived.Test.YtljpggebpfpelaaRbb
import Derived.Test.YtljpggebpfpelaaWireFirstLaw
namespace Go.Proofs.Ytljpggebpfpelaa
open Wire
set_option linter.unusedVariables false

/-- A number that was read, written again. -/
theorem one_num {l : List UInt8} {most : Nat} (h : uvE l 0 most = 0) : 1 ≤ (uvR l 0).2.2 ∧ (uvR l 0).2.2 ≤ l.length ∧ vry (uvN l 0 most) = l.take (uvR l 0).2.2 := by
  obtain ⟨h1, h2, h3⟩ := uv_zero h
  obtain ⟨g1, g2, g3, g4⟩ := uvR_le h2
  refine ⟨g2, by simpa using g3, ?_⟩
  rw [show uvN l 0 most = (uvR l 0).2.1 from by simp [uvN, h]]
  simpa using g4.symm
end Go.Proofs.Ytljpggebpfpelaa
