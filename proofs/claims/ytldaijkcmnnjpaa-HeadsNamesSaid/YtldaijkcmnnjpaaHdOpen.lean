/- Contracts and laws of a chapter that its statement of names leans on. Each states its conditions. -/
import Derived.Test.YtldaijkcmnnjpaaOpenS
import Derived.Test.YtldaijkcmnnjpaaHd12
namespace Go.Proofs.Ytldaijkcmnnjpaa
open Go.ChangeShapes Go.WideShapes Go.ChangeAt Go.RowKit Wire
open Go.Deep (open_slice oneCellFields)
set_option linter.unusedVariables false
/-- The conversion of bytes to a string, in a world. -/
abbrev h_CvS (A : Option Addr) (n c : Nat) (l : List UInt8) (w : World) : Prop := (convert 25 9 (.slice A n c)).run Try.prog w = .ok (.string ⟨l.toArray⟩) w
theorem h_cvS {A : Option Addr} {n : Nat} {l : List UInt8} {w : World} {B : Nat} (c : Nat) (h : RdB w B A n l) : h_CvS A n c l w := conv_to_str _ _ _ Try.underlying25 Try.underlying5 Try.underlying9 c h
section
variable {H : Type} {enc : TypeId × Value → H} {W : World} {base b0 : Nat} {r : Reach} {spare : Nat → Bool} {held : Bool} {v : Value} {d : DataW H} {p : List MemPlace} {fuel : Nat} {cs : List Value} {x : DataW H × List MemPlace}
end

end Go.Proofs.Ytldaijkcmnnjpaa
