/- Contracts and laws of another chapter that this one leans on. Each states its conditions. -/
import Derived.Test.YtibkimmagiijnaaChecked
import Derived.Test.YtibkimmagiijnaaMem
import Derived.Test.YtibkimmagiijnaaSlice
import Derived.Test.YtibkimmagiijnaaArr
import Derived.Test.YtibkimmagiijnaaRegion
import Derived.Test.YtibkimmagiijnaaRet
import Derived.Test.YtibkimmagiijnaaRbb
import Derived.Test.YtibkimmagiijnaaWireFirstLaw
namespace Go.Proofs.Ytibkimmagiijnaa
open Wire
set_option linter.unusedVariables false

/-- A number that was read, written again. -/
theorem one_num {l : List UInt8} {most : Nat} (h : uvE l 0 most = 0) : 1 ≤ (uvR l 0).2.2 ∧ (uvR l 0).2.2 ≤ l.length ∧ vry (uvN l 0 most) = l.take (uvR l 0).2.2 := by
  obtain ⟨h1, h2, h3⟩ := uv_zero h
  obtain ⟨g1, g2, g3, g4⟩ := uvR_le h2
  refine ⟨g2, by simpa using g3, ?_⟩
  rw [show uvN l 0 most = (uvR l 0).2.1 from by simp [uvN, h]]
  simpa using g4.symm
end Go.Proofs.Ytibkimmagiijnaa
