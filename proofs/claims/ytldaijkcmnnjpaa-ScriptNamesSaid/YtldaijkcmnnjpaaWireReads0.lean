/- Contracts and laws of a chapter that its statement of names leans on. Each states its conditions. -/
import Derived.Test.YtldaijkcmnnjpaaWireUnsig
import Derived.Test.YtldaijkcmnnjpaaRet
namespace Go.Proofs.Ytldaijkcmnnjpaa
open Go.RowKit Wire
set_option linter.unusedVariables false
theorem curT : AggT Try.prog 70 2 := ⟨⟨_, Try.underlying70, rfl⟩, by kernel_rfl⟩

end Go.Proofs.Ytldaijkcmnnjpaa
