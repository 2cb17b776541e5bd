/- Contracts and laws of another chapter that this one leans on. Each states its conditions. -/
import Derived.Test.YtgobebiagpejkaaChecked
import Derived.Test.YtgobebiagpejkaaMem
import Derived.Test.YtgobebiagpejkaaSlice
import Derived.Test.YtgobebiagpejkaaArr
import Derived.Test.YtgobebiagpejkaaRegion
import Derived.Test.YtgobebiagpejkaaRet
import Derived.Test.YtgobebiagpejkaaRbb
import Derived.BigQuiet
import Derived.Test.YtgobebiagpejkaaWireVary
namespace Go.Proofs.Ytgobebiagpejkaa
open Go.RowKit Wire
set_option linter.unusedVariables false

/-- A cursor. -/
abbrev cur (A : Option Addr) (n c : Nat) (a : Int) : Value := .agg #[.slice A n c, .int .i64 a]
theorem cur_sized (u v : Value) : (Try.prog.info? 68).map (·.size) = some (#[u, v] : Array Value).size := by
  show _ = some 2
  kernel_rfl
/-- The conversion of bytes to a string, in a world. -/
abbrev CvS (A : Option Addr) (n c : Nat) (l : List UInt8) (w : World) : Prop := (convert 33 9 (.slice A n c)).run Try.prog w = .ok (.string ⟨l.toArray⟩) w
theorem cvS {A : Option Addr} {n : Nat} {l : List UInt8} {w : World} {B : Nat} (c : Nat) (h : RdB w B A n l) : CvS A n c l w := conv_to_str _ _ _ Try.underlying33 Try.underlying5 Try.underlying9 c h
end Go.Proofs.Ytgobebiagpejkaa
