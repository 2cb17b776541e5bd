/- Contracts and laws of another chapter that this one leans on. Each states its conditions. -/
import Derived.Test.YtljpggebpfpelaaChecked
import Derived.Test.YtljpggebpfpelaaMem
import Derived.Test.YtljpggebpfpelaaSlice
import Derived.Test.YtljpggebpfpelaaArr
import Derived.Test.YtljpggebpfpelaaRegion
import Derived.Test.YtljpggebpfpelaaRet
import Derived.Test.YtljpggebpfpelaaRbb
import Derived.Test.YtljpggebpfpelaaWireReads4
namespace Go.Proofs.Ytljpggebpfpelaa
open Wire
set_option linter.unusedVariables false

theorem ck_zero {n : Nat} (h : n ≤ 200000) : ckB n 0 = true := by simp [ckB, h]
theorem uv_cut {n k : Nat} (hn : n < 18446744073709551616) (hk : k < (vry n).length) : uvE ((vry n).take k) 0 18446744073709551615 = 24 := by
  have hl := (vry_len n).2
  have h : uvR ((vry n).take k) 0 = (24, 0, 0) := rd_cut hn hk
  rw [uvE, if_pos (ck_zero (by rw [List.length_take]; omega)), h]
  rfl
end Go.Proofs.Ytljpggebpfpelaa
