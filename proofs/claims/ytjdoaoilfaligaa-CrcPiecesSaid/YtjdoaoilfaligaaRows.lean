/-
  No cell of these rows narrows 'for every input' (looked for: loops, veiled, ifaces, maps, wideKeys, modest, calm, conditions, laid).
  DERIVED. THE GIVEN ROWS OF THIS SEAT. 6 by the template 'for every input the law returns true; each argument reads behind the call as it read before'; 0 by the template 'total and deterministic' (their statements: YtjdoaoilfaligaaTotals.lean).
  GIVEN WITH THE SEED: the statements are not yours to turn. If you find one false, say at which input.
  Laid BY PROGRAM, IN A SANDBOX (cutbox-rows.mjs): the forced cells as the released guide's own fill.sh prints them over the translation cf5efbf14ddbfbf4… (all of the seat's roots in one cut). By AI agents, Wed Nov 11 2026. No macro, syntax, notation, axiom, sorry.
-/
import Derived.Test.YtjdoaoilfaligaaChecked
import GoSem.Claim
import GoSem.ClaimJoined
import GoSem.ClaimMapViews
import Derived.JoinedTies
import Derived.KernelRfl
namespace Go.Proofs.Ytjdoaoilfaligaa
/- THE CELL 'sum', in the pinned program and in every row, IS THE sha256 OF THE DUMP (.gsa) THAT YtjdoaoilfaligaaProg.lean LOADS. Nothing in Lean hashes anything: it is a label: what it is worth is what the hold of that sum in a sandbox is worth. -/
noncomputable def Try.pinned : Pinned := { name := "ytjdoaoilfaligaa", sum := "cf5efbf14ddbfbf4403022e4975f3d859c7ae4091f331e99d36d523653de546c", checked := Try.checked }
namespace Rows
def none {H : Type} : Left H := { results := [], args := [] }

/-- 'wreckagelaw01.CrcSums': WHATEVER THE INPUT: true; the input reads as it did. -/
def crcSumsSpec : ChangeSpec := { name := "crcSums", fn := fun _ => fun
  | [d1, d2, d3, d4] => { results := [.lit (.bool true)], args := [d1, d2, d3, d4] }
  | _ => none }
def crcSumsRow : OpenClaim := { program := "ytjdoaoilfaligaa", sum := "cf5efbf14ddbfbf4403022e4975f3d859c7ae4091f331e99d36d523653de546c", func := "wreckage/wreckagelaw01.CrcSums", spec := "crcSums", apart := false }
def CrcSumsSaid : Prop := crcSumsRow.holds Try.pinned (OpenSpec.ofChange crcSumsSpec)

/-- ITS FALSE NEIGHBOUR: 'it returns false'. Refute it at one input. -/
def crcSumsWrong : ChangeSpec := { name := "crcSums", fn := fun _ => fun
  | [d1, d2, d3, d4] => { results := [.lit (.bool false)], args := [d1, d2, d3, d4] }
  | _ => none }
def CrcSumsWrongFalsely : Prop := crcSumsRow.holds Try.pinned (OpenSpec.ofChange crcSumsWrong)

/-- 'wreckagelaw01.CrcChanged': WHATEVER THE INPUT: true; the input reads as it did. -/
def crcChangedSpec : ChangeSpec := { name := "crcChanged", fn := fun _ => fun
  | [d1, d2, d3] => { results := [.lit (.bool true)], args := [d1, d2, d3] }
  | _ => none }
def crcChangedRow : OpenClaim := { program := "ytjdoaoilfaligaa", sum := "cf5efbf14ddbfbf4403022e4975f3d859c7ae4091f331e99d36d523653de546c", func := "wreckage/wreckagelaw01.CrcChanged", spec := "crcChanged", apart := false }
def CrcChangedSaid : Prop := crcChangedRow.holds Try.pinned (OpenSpec.ofChange crcChangedSpec)

/-- ITS FALSE NEIGHBOUR: 'it returns false'. Refute it at one input. -/
def crcChangedWrong : ChangeSpec := { name := "crcChanged", fn := fun _ => fun
  | [d1, d2, d3] => { results := [.lit (.bool false)], args := [d1, d2, d3] }
  | _ => none }
def CrcChangedWrongFalsely : Prop := crcChangedRow.holds Try.pinned (OpenSpec.ofChange crcChangedWrong)

/-- 'wreckagelaw01.CrcLinear': WHATEVER THE INPUT: true; the input reads as it did. -/
def crcLinearSpec : ChangeSpec := { name := "crcLinear", fn := fun _ => fun
  | [d1, d2] => { results := [.lit (.bool true)], args := [d1, d2] }
  | _ => none }
def crcLinearRow : OpenClaim := { program := "ytjdoaoilfaligaa", sum := "cf5efbf14ddbfbf4403022e4975f3d859c7ae4091f331e99d36d523653de546c", func := "wreckage/wreckagelaw01.CrcLinear", spec := "crcLinear", apart := false }
def CrcLinearSaid : Prop := crcLinearRow.holds Try.pinned (OpenSpec.ofChange crcLinearSpec)

/-- ITS FALSE NEIGHBOUR: 'it returns false'. Refute it at one input. -/
def crcLinearWrong : ChangeSpec := { name := "crcLinear", fn := fun _ => fun
  | [d1, d2] => { results := [.lit (.bool false)], args := [d1, d2] }
  | _ => none }
def CrcLinearWrongFalsely : Prop := crcLinearRow.holds Try.pinned (OpenSpec.ofChange crcLinearWrong)

/-- 'wreckagelaw01.CrcPieces': WHATEVER THE INPUT: true; the input reads as it did. -/
def crcPiecesSpec : ChangeSpec := { name := "crcPieces", fn := fun _ => fun
  | [d] => { results := [.lit (.bool true)], args := [d] }
  | _ => none }
def crcPiecesRow : OpenClaim := { program := "ytjdoaoilfaligaa", sum := "cf5efbf14ddbfbf4403022e4975f3d859c7ae4091f331e99d36d523653de546c", func := "wreckage/wreckagelaw01.CrcPieces", spec := "crcPieces", apart := false }
def CrcPiecesSaid : Prop := crcPiecesRow.holds Try.pinned (OpenSpec.ofChange crcPiecesSpec)

/-- ITS FALSE NEIGHBOUR: 'it returns false'. Refute it at one input. -/
def crcPiecesWrong : ChangeSpec := { name := "crcPieces", fn := fun _ => fun
  | [d] => { results := [.lit (.bool false)], args := [d] }
  | _ => none }
def CrcPiecesWrongFalsely : Prop := crcPiecesRow.holds Try.pinned (OpenSpec.ofChange crcPiecesWrong)

/-- 'wreckagelaw01.CrcPatches': WHATEVER THE INPUT: true; the input reads as it did. -/
def crcPatchesSpec : ChangeSpec := { name := "crcPatches", fn := fun _ => fun
  | [d1, d2, d3] => { results := [.lit (.bool true)], args := [d1, d2, d3] }
  | _ => none }
def crcPatchesRow : OpenClaim := { program := "ytjdoaoilfaligaa", sum := "cf5efbf14ddbfbf4403022e4975f3d859c7ae4091f331e99d36d523653de546c", func := "wreckage/wreckagelaw01.CrcPatches", spec := "crcPatches", apart := false }
def CrcPatchesSaid : Prop := crcPatchesRow.holds Try.pinned (OpenSpec.ofChange crcPatchesSpec)

/-- ITS FALSE NEIGHBOUR: 'it returns false'. Refute it at one input. -/
def crcPatchesWrong : ChangeSpec := { name := "crcPatches", fn := fun _ => fun
  | [d1, d2, d3] => { results := [.lit (.bool false)], args := [d1, d2, d3] }
  | _ => none }
def CrcPatchesWrongFalsely : Prop := crcPatchesRow.holds Try.pinned (OpenSpec.ofChange crcPatchesWrong)

/-- 'wreckagelaw01.CrcNames': WHATEVER THE INPUT: true; the input reads as it did. -/
def crcNamesSpec : ChangeSpec := { name := "crcNames", fn := fun _ => fun
  | [] => { results := [.lit (.bool true)], args := [] }
  | _ => none }
def crcNamesRow : OpenClaim := { program := "ytjdoaoilfaligaa", sum := "cf5efbf14ddbfbf4403022e4975f3d859c7ae4091f331e99d36d523653de546c", func := "wreckage/wreckagelaw01.CrcNames", spec := "crcNames", apart := false }
def CrcNamesSaid : Prop := crcNamesRow.holds Try.pinned (OpenSpec.ofChange crcNamesSpec)

/-- ITS FALSE NEIGHBOUR: 'it returns false'. Refute it at one input. -/
def crcNamesWrong : ChangeSpec := { name := "crcNames", fn := fun _ => fun
  | [] => { results := [.lit (.bool false)], args := [] }
  | _ => none }
def CrcNamesWrongFalsely : Prop := crcNamesRow.holds Try.pinned (OpenSpec.ofChange crcNamesWrong)

/- THE SECOND FORM. 'bulk': how many values and letters a reading holds, each counted each time it is reached (what is shared counts as often as it is met; a slice's spare places count too). A statement '..UptoSaid' is the law's where the arguments, and the package variables that the reading takes, are together of bulk at most 1048576: NARROWER than '..Said'. Prove '..Said' where nothing that the law and all that it calls make is longer than what came in: it says more and counts as full. Else prove '..UptoSaid'. A law counts once. -/
mutual
def uptoBulk {H : Type} : DataW H → Nat
  | .lit (.string bytes) => bytes.length + 1
  | .lit _ => 1
  | .nil => 1
  | .ptr d => uptoBulk d + 1
  | .slice elems spare => uptoBulkAll elems + uptoBulkAll spare + 1
  | .agg parts => uptoBulkAll parts + 1
  | .iface _ d => uptoBulk d + 1
  | .map entries => uptoBulkEntries entries + 1
  | .held _ => 1
def uptoBulkAll {H : Type} : List (DataW H) → Nat
  | [] => 0
  | d :: r => uptoBulk d + uptoBulkAll r
def uptoBulkEntries {H : Type} : List (Lit × DataW H) → Nat
  | [] => 0
  | x :: r => uptoBulkEntry x + uptoBulkEntries r
def uptoBulkEntry {H : Type} : Lit × DataW H → Nat
  | (.string bytes, d) => bytes.length + uptoBulk d + 1
  | (_, d) => uptoBulk d + 1
 end
def uptoSmall : (H : Type) → List (DataW H) → Bool := fun _ ds => decide (uptoBulkAll ds ≤ 1048576)
def OpenSpec.upto (s : _root_.Go.ChangeSpec) : _root_.Go.OpenSpec := { _root_.Go.OpenSpec.ofChange s with cond := some uptoSmall }

/-- 'wreckagelaw01.CrcSums', WHERE WHAT IT READS IS OF BULK AT MOST 1048576: true; the input reads as it did. -/
def crcSumsUptoRow : OpenClaim := { program := "ytjdoaoilfaligaa", sum := "cf5efbf14ddbfbf4403022e4975f3d859c7ae4091f331e99d36d523653de546c", func := "wreckage/wreckagelaw01.CrcSums", spec := "crcSums", apart := false, narrowed := true }
def CrcSumsUptoSaid : Prop := crcSumsUptoRow.holds Try.pinned (OpenSpec.upto crcSumsSpec)

/-- 'wreckagelaw01.CrcChanged', WHERE WHAT IT READS IS OF BULK AT MOST 1048576: true; the input reads as it did. -/
def crcChangedUptoRow : OpenClaim := { program := "ytjdoaoilfaligaa", sum := "cf5efbf14ddbfbf4403022e4975f3d859c7ae4091f331e99d36d523653de546c", func := "wreckage/wreckagelaw01.CrcChanged", spec := "crcChanged", apart := false, narrowed := true }
def CrcChangedUptoSaid : Prop := crcChangedUptoRow.holds Try.pinned (OpenSpec.upto crcChangedSpec)

/-- 'wreckagelaw01.CrcLinear', WHERE WHAT IT READS IS OF BULK AT MOST 1048576: true; the input reads as it did. -/
def crcLinearUptoRow : OpenClaim := { program := "ytjdoaoilfaligaa", sum := "cf5efbf14ddbfbf4403022e4975f3d859c7ae4091f331e99d36d523653de546c", func := "wreckage/wreckagelaw01.CrcLinear", spec := "crcLinear", apart := false, narrowed := true }
def CrcLinearUptoSaid : Prop := crcLinearUptoRow.holds Try.pinned (OpenSpec.upto crcLinearSpec)

/-- 'wreckagelaw01.CrcPieces', WHERE WHAT IT READS IS OF BULK AT MOST 1048576: true; the input reads as it did. -/
def crcPiecesUptoRow : OpenClaim := { program := "ytjdoaoilfaligaa", sum := "cf5efbf14ddbfbf4403022e4975f3d859c7ae4091f331e99d36d523653de546c", func := "wreckage/wreckagelaw01.CrcPieces", spec := "crcPieces", apart := false, narrowed := true }
def CrcPiecesUptoSaid : Prop := crcPiecesUptoRow.holds Try.pinned (OpenSpec.upto crcPiecesSpec)

/-- 'wreckagelaw01.CrcPatches', WHERE WHAT IT READS IS OF BULK AT MOST 1048576: true; the input reads as it did. -/
def crcPatchesUptoRow : OpenClaim := { program := "ytjdoaoilfaligaa", sum := "cf5efbf14ddbfbf4403022e4975f3d859c7ae4091f331e99d36d523653de546c", func := "wreckage/wreckagelaw01.CrcPatches", spec := "crcPatches", apart := false, narrowed := true }
def CrcPatchesUptoSaid : Prop := crcPatchesUptoRow.holds Try.pinned (OpenSpec.upto crcPatchesSpec)

/-- 'wreckagelaw01.CrcNames', WHERE WHAT IT READS IS OF BULK AT MOST 1048576: true; the input reads as it did. -/
def crcNamesUptoRow : OpenClaim := { program := "ytjdoaoilfaligaa", sum := "cf5efbf14ddbfbf4403022e4975f3d859c7ae4091f331e99d36d523653de546c", func := "wreckage/wreckagelaw01.CrcNames", spec := "crcNames", apart := false, narrowed := true }
def CrcNamesUptoSaid : Prop := crcNamesUptoRow.holds Try.pinned (OpenSpec.upto crcNamesSpec)

end Rows
end Go.Proofs.Ytjdoaoilfaligaa
