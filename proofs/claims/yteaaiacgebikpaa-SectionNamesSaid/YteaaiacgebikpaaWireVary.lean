/- Contracts and laws of another chapter that this one leans on. Each states its conditions. -/
import Derived.Test.YteaaiacgebikpaaChecked
import Derived.Test.YteaaiacgebikpaaMem
import Derived.Test.YteaaiacgebikpaaSlice
import Derived.Test.YteaaiacgebikpaaArr
import Derived.Test.YteaaiacgebikpaaRegion
import Derived.Test.YteaaiacgebikpaaRet
import Derived.Test.YteaaiacgebikpaaRbb
import Derived.Deep.RegionHeld3
import Derived.Deep.DeepCutAuto
import Derived.Deep.DeepMust
import Derived.Test.YteaaiacgebikpaaWirePlain
namespace Go.Proofs.Yteaaiacgebikpaa
open Go.RowKit Wire
set_option linter.unusedVariables false

theorem sl8 : IsSl Try.prog 22 5 (.int .u8 0) 1 1 := ⟨Try.underlying22, by kernel_rfl, rfl, by omega, by omega⟩
theorem b8_ofNat {x : Nat} (h : x < 256) : b8 (UInt8.ofNat x) = .int .u8 (x : Int) := by
  unfold b8; rw [UInt8.toNat_ofNat']; congr 1; omega
end Go.Proofs.Yteaaiacgebikpaa
