/- Contracts and laws of another chapter that this one leans on. Each states its conditions. -/
import Derived.Test.YtponceakelimeaaChecked
import Derived.Test.YtponceakelimeaaMem
import Derived.Test.YtponceakelimeaaSlice
import Derived.Test.YtponceakelimeaaArr
import Derived.Test.YtponceakelimeaaRegion
import Derived.Test.YtponceakelimeaaRet
import Derived.Test.YtponceakelimeaaRbb
import Derived.Test.YtponceakelimeaaWireReads4
namespace Go.Proofs.Ytponceakelimeaa
open Wire
set_option linter.unusedVariables false

theorem tx_of {s : ByteArray} (h : s.size ≤ 200000) : txL s = vry s.size ++ s.data.toList := if_pos h
theorem ck_zero {n : Nat} (h : n ≤ 200000) : ckB n 0 = true := by simp [ckB, h]
theorem uv_cut {n k : Nat} (hn : n < 18446744073709551616) (hk : k < (vry n).length) : uvE ((vry n).take k) 0 18446744073709551615 = 24 := by
  have hl := (vry_len n).2
  have h : uvR ((vry n).take k) 0 = (24, 0, 0) := rd_cut hn hk
  rw [uvE, if_pos (ck_zero (by rw [List.length_take]; omega)), h]
  rfl
end Go.Proofs.Ytponceakelimeaa
