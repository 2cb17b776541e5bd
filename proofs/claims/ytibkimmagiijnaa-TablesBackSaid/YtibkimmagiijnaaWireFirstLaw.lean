/- Contracts and laws of another chapter that this one leans on. Each states its conditions. -/
import Derived.Test.YtibkimmagiijnaaChecked
import Derived.Test.YtibkimmagiijnaaMem
import Derived.Test.YtibkimmagiijnaaSlice
import Derived.Test.YtibkimmagiijnaaArr
import Derived.Test.YtibkimmagiijnaaRegion
import Derived.Test.YtibkimmagiijnaaRet
import Derived.Test.YtibkimmagiijnaaRbb
import Derived.Test.YtibkimmagiijnaaWireReads0
namespace Go.Proofs.Ytibkimmagiijnaa
open Wire
set_option linter.unusedVariables false

theorem ck_zero {n : Nat} (h : n ≤ 200000) : ckB n 0 = true := by simp [ckB, h]
theorem uv_cut {n k : Nat} (hn : n < 18446744073709551616) (hk : k < (vry n).length) : uvE ((vry n).take k) 0 18446744073709551615 = 24 := by
  have hl := (vry_len n).2
  have h : uvR ((vry n).take k) 0 = (24, 0, 0) := rd_cut hn hk
  rw [uvE, if_pos (ck_zero (by rw [List.length_take]; omega)), h]
  rfl
end Go.Proofs.Ytibkimmagiijnaa
