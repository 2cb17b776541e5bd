/-
  No cell of these rows narrows 'for every input' (looked for: loops, veiled, ifaces, maps, wideKeys, modest, calm, conditions, laid).
  DERIVED. THE GIVEN ROWS OF THIS SEAT. 7 by the template 'for every input the law returns true; each argument reads behind the call as it read before'; 0 by the template 'total and deterministic' (their statements: YtibkimmagiijnaaTotals.lean).
  GIVEN WITH THE SEED: the statements are not yours to turn. If you find one false, say at which input.
  Laid BY PROGRAM, IN A SANDBOX (cutbox-rows.mjs): the forced cells as the released guide's own fill.sh prints them over the translation bac7d46dc160b931… (all of the seat's roots in one cut). By AI agents, Wed Nov 11 2026. No macro, syntax, notation, axiom, sorry.
-/
import Derived.Test.YtibkimmagiijnaaChecked
import GoSem.Claim
import GoSem.ClaimJoined
import GoSem.ClaimMapViews
import Derived.JoinedTies
import Derived.KernelRfl
namespace Go.Proofs.Ytibkimmagiijnaa
/- THE CELL 'sum', in the pinned program and in every row, IS THE sha256 OF THE DUMP (.gsa) THAT YtibkimmagiijnaaProg.lean LOADS. Nothing in Lean hashes anything: it is a label: what it is worth is what the hold of that sum in a sandbox is worth. -/
noncomputable def Try.pinned : Pinned := { name := "ytibkimmagiijnaa", sum := "bac7d46dc160b931d85cc85977ed754d0063ba62d6ce3be36cd04398d9d101fb", checked := Try.checked }
namespace Rows
def none {H : Type} : Left H := { results := [], args := [] }

/-- 'wreckagelaw08.TablesOne': WHATEVER THE INPUT: true; the input reads as it did. -/
def tablesOneSpec : ChangeSpec := { name := "tablesOne", fn := fun _ => fun
  | [d1, d2] => { results := [.lit (.bool true)], args := [d1, d2] }
  | _ => none }
def tablesOneRow : OpenClaim := { program := "ytibkimmagiijnaa", sum := "bac7d46dc160b931d85cc85977ed754d0063ba62d6ce3be36cd04398d9d101fb", func := "wreckage/wreckagelaw08.TablesOne", spec := "tablesOne", unfollowed := true, recurses := true, apart := false }
def TablesOneSaid : Prop := tablesOneRow.holds Try.pinned (OpenSpec.ofChange tablesOneSpec)

/-- ITS FALSE NEIGHBOUR: 'it returns false'. Refute it at one input. -/
def tablesOneWrong : ChangeSpec := { name := "tablesOne", fn := fun _ => fun
  | [d1, d2] => { results := [.lit (.bool false)], args := [d1, d2] }
  | _ => none }
def TablesOneWrongFalsely : Prop := tablesOneRow.holds Try.pinned (OpenSpec.ofChange tablesOneWrong)

/-- 'wreckagelaw08.TablesMore': WHATEVER THE INPUT: true; the input reads as it did. -/
def tablesMoreSpec : ChangeSpec := { name := "tablesMore", fn := fun _ => fun
  | [d1, d2, d3] => { results := [.lit (.bool true)], args := [d1, d2, d3] }
  | _ => none }
def tablesMoreRow : OpenClaim := { program := "ytibkimmagiijnaa", sum := "bac7d46dc160b931d85cc85977ed754d0063ba62d6ce3be36cd04398d9d101fb", func := "wreckage/wreckagelaw08.TablesMore", spec := "tablesMore", unfollowed := true, recurses := true, apart := false }
def TablesMoreSaid : Prop := tablesMoreRow.holds Try.pinned (OpenSpec.ofChange tablesMoreSpec)

/-- ITS FALSE NEIGHBOUR: 'it returns false'. Refute it at one input. -/
def tablesMoreWrong : ChangeSpec := { name := "tablesMore", fn := fun _ => fun
  | [d1, d2, d3] => { results := [.lit (.bool false)], args := [d1, d2, d3] }
  | _ => none }
def TablesMoreWrongFalsely : Prop := tablesMoreRow.holds Try.pinned (OpenSpec.ofChange tablesMoreWrong)

/-- 'wreckagelaw08.TablesTells': WHATEVER THE INPUT: true; the input reads as it did. -/
def tablesTellsSpec : ChangeSpec := { name := "tablesTells", fn := fun _ => fun
  | [d1, d2, d3] => { results := [.lit (.bool true)], args := [d1, d2, d3] }
  | _ => none }
def tablesTellsRow : OpenClaim := { program := "ytibkimmagiijnaa", sum := "bac7d46dc160b931d85cc85977ed754d0063ba62d6ce3be36cd04398d9d101fb", func := "wreckage/wreckagelaw08.TablesTells", spec := "tablesTells", unfollowed := true, recurses := true, apart := false }
def TablesTellsSaid : Prop := tablesTellsRow.holds Try.pinned (OpenSpec.ofChange tablesTellsSpec)

/-- ITS FALSE NEIGHBOUR: 'it returns false'. Refute it at one input. -/
def tablesTellsWrong : ChangeSpec := { name := "tablesTells", fn := fun _ => fun
  | [d1, d2, d3] => { results := [.lit (.bool false)], args := [d1, d2, d3] }
  | _ => none }
def TablesTellsWrongFalsely : Prop := tablesTellsRow.holds Try.pinned (OpenSpec.ofChange tablesTellsWrong)

/-- 'wreckagelaw08.TablesMakes': WHATEVER THE INPUT: true; the input reads as it did. -/
def tablesMakesSpec : ChangeSpec := { name := "tablesMakes", fn := fun _ => fun
  | [d1, d2, d3] => { results := [.lit (.bool true)], args := [d1, d2, d3] }
  | _ => none }
def tablesMakesRow : OpenClaim := { program := "ytibkimmagiijnaa", sum := "bac7d46dc160b931d85cc85977ed754d0063ba62d6ce3be36cd04398d9d101fb", func := "wreckage/wreckagelaw08.TablesMakes", spec := "tablesMakes", unfollowed := true, recurses := true, apart := false }
def TablesMakesSaid : Prop := tablesMakesRow.holds Try.pinned (OpenSpec.ofChange tablesMakesSpec)

/-- ITS FALSE NEIGHBOUR: 'it returns false'. Refute it at one input. -/
def tablesMakesWrong : ChangeSpec := { name := "tablesMakes", fn := fun _ => fun
  | [d1, d2, d3] => { results := [.lit (.bool false)], args := [d1, d2, d3] }
  | _ => none }
def TablesMakesWrongFalsely : Prop := tablesMakesRow.holds Try.pinned (OpenSpec.ofChange tablesMakesWrong)

/-- 'wreckagelaw08.TablesAgree': WHATEVER THE INPUT: true; the input reads as it did. -/
def tablesAgreeSpec : ChangeSpec := { name := "tablesAgree", fn := fun _ => fun
  | [d] => { results := [.lit (.bool true)], args := [d] }
  | _ => none }
def tablesAgreeRow : OpenClaim := { program := "ytibkimmagiijnaa", sum := "bac7d46dc160b931d85cc85977ed754d0063ba62d6ce3be36cd04398d9d101fb", func := "wreckage/wreckagelaw08.TablesAgree", spec := "tablesAgree", unfollowed := true, recurses := true, apart := false }
def TablesAgreeSaid : Prop := tablesAgreeRow.holds Try.pinned (OpenSpec.ofChange tablesAgreeSpec)

/-- ITS FALSE NEIGHBOUR: 'it returns false'. Refute it at one input. -/
def tablesAgreeWrong : ChangeSpec := { name := "tablesAgree", fn := fun _ => fun
  | [d] => { results := [.lit (.bool false)], args := [d] }
  | _ => none }
def TablesAgreeWrongFalsely : Prop := tablesAgreeRow.holds Try.pinned (OpenSpec.ofChange tablesAgreeWrong)

/-- 'wreckagelaw08.TablesBack': WHATEVER THE INPUT: true; the input reads as it did. -/
def tablesBackSpec : ChangeSpec := { name := "tablesBack", fn := fun _ => fun
  | [d1, d2, d3] => { results := [.lit (.bool true)], args := [d1, d2, d3] }
  | _ => none }
def tablesBackRow : OpenClaim := { program := "ytibkimmagiijnaa", sum := "bac7d46dc160b931d85cc85977ed754d0063ba62d6ce3be36cd04398d9d101fb", func := "wreckage/wreckagelaw08.TablesBack", spec := "tablesBack", unfollowed := true, recurses := true, apart := false }
def TablesBackSaid : Prop := tablesBackRow.holds Try.pinned (OpenSpec.ofChange tablesBackSpec)

/-- ITS FALSE NEIGHBOUR: 'it returns false'. Refute it at one input. -/
def tablesBackWrong : ChangeSpec := { name := "tablesBack", fn := fun _ => fun
  | [d1, d2, d3] => { results := [.lit (.bool false)], args := [d1, d2, d3] }
  | _ => none }
def TablesBackWrongFalsely : Prop := tablesBackRow.holds Try.pinned (OpenSpec.ofChange tablesBackWrong)

/-- 'wreckagelaw08.TablesNames': WHATEVER THE INPUT: true; the input reads as it did. -/
def tablesNamesSpec : ChangeSpec := { name := "tablesNames", fn := fun _ => fun
  | [] => { results := [.lit (.bool true)], args := [] }
  | _ => none }
def tablesNamesRow : OpenClaim := { program := "ytibkimmagiijnaa", sum := "bac7d46dc160b931d85cc85977ed754d0063ba62d6ce3be36cd04398d9d101fb", func := "wreckage/wreckagelaw08.TablesNames", spec := "tablesNames", unfollowed := true, recurses := true, apart := false }
def TablesNamesSaid : Prop := tablesNamesRow.holds Try.pinned (OpenSpec.ofChange tablesNamesSpec)

/-- ITS FALSE NEIGHBOUR: 'it returns false'. Refute it at one input. -/
def tablesNamesWrong : ChangeSpec := { name := "tablesNames", fn := fun _ => fun
  | [] => { results := [.lit (.bool false)], args := [] }
  | _ => none }
def TablesNamesWrongFalsely : Prop := tablesNamesRow.holds Try.pinned (OpenSpec.ofChange tablesNamesWrong)

/- THE SECOND FORM. 'bulk': how many values and letters a reading holds, each counted each time it is reached (what is shared counts as often as it is met; a slice's spare places count too). A statement '..UptoSaid' is the law's where the arguments, and the package variables that the reading takes, are together of bulk at most 1048576: NARROWER than '..Said'. Prove '..Said' where nothing that the law and all that it calls make is longer than what came in: it says more and counts as full. Else prove '..UptoSaid'. A law counts once. -/
mutual
def uptoBulk {H : Type} : DataW H → Nat
  | .lit (.string bytes) => bytes.length + 1
  | .lit _ => 1
  | .nil => 1
  | .ptr d => uptoBulk d + 1
  | .slice elems spare => uptoBulkAll elems + uptoBulkAll spare + 1
  | .agg parts => uptoBulkAll parts + 1
  | .iface _ d => uptoBulk d + 1
  | .map entries => uptoBulkEntries entries + 1
  | .held _ => 1
def uptoBulkAll {H : Type} : List (DataW H) → Nat
  | [] => 0
  | d :: r => uptoBulk d + uptoBulkAll r
def uptoBulkEntries {H : Type} : List (Lit × DataW H) → Nat
  | [] => 0
  | x :: r => uptoBulkEntry x + uptoBulkEntries r
def uptoBulkEntry {H : Type} : Lit × DataW H → Nat
  | (.string bytes, d) => bytes.length + uptoBulk d + 1
  | (_, d) => uptoBulk d + 1
 end
def uptoSmall : (H : Type) → List (DataW H) → Bool := fun _ ds => decide (uptoBulkAll ds ≤ 1048576)
def OpenSpec.upto (s : _root_.Go.ChangeSpec) : _root_.Go.OpenSpec := { _root_.Go.OpenSpec.ofChange s with cond := some uptoSmall }

/-- 'wreckagelaw08.TablesOne', WHERE WHAT IT READS IS OF BULK AT MOST 1048576: true; the input reads as it did. -/
def tablesOneUptoRow : OpenClaim := { program := "ytibkimmagiijnaa", sum := "bac7d46dc160b931d85cc85977ed754d0063ba62d6ce3be36cd04398d9d101fb", func := "wreckage/wreckagelaw08.TablesOne", spec := "tablesOne", unfollowed := true, recurses := true, apart := false, narrowed := true }
def TablesOneUptoSaid : Prop := tablesOneUptoRow.holds Try.pinned (OpenSpec.upto tablesOneSpec)

/-- 'wreckagelaw08.TablesMore', WHERE WHAT IT READS IS OF BULK AT MOST 1048576: true; the input reads as it did. -/
def tablesMoreUptoRow : OpenClaim := { program := "ytibkimmagiijnaa", sum := "bac7d46dc160b931d85cc85977ed754d0063ba62d6ce3be36cd04398d9d101fb", func := "wreckage/wreckagelaw08.TablesMore", spec := "tablesMore", unfollowed := true, recurses := true, apart := false, narrowed := true }
def TablesMoreUptoSaid : Prop := tablesMoreUptoRow.holds Try.pinned (OpenSpec.upto tablesMoreSpec)

/-- 'wreckagelaw08.TablesTells', WHERE WHAT IT READS IS OF BULK AT MOST 1048576: true; the input reads as it did. -/
def tablesTellsUptoRow : OpenClaim := { program := "ytibkimmagiijnaa", sum := "bac7d46dc160b931d85cc85977ed754d0063ba62d6ce3be36cd04398d9d101fb", func := "wreckage/wreckagelaw08.TablesTells", spec := "tablesTells", unfollowed := true, recurses := true, apart := false, narrowed := true }
def TablesTellsUptoSaid : Prop := tablesTellsUptoRow.holds Try.pinned (OpenSpec.upto tablesTellsSpec)

/-- 'wreckagelaw08.TablesMakes', WHERE WHAT IT READS IS OF BULK AT MOST 1048576: true; the input reads as it did. -/
def tablesMakesUptoRow : OpenClaim := { program := "ytibkimmagiijnaa", sum := "bac7d46dc160b931d85cc85977ed754d0063ba62d6ce3be36cd04398d9d101fb", func := "wreckage/wreckagelaw08.TablesMakes", spec := "tablesMakes", unfollowed := true, recurses := true, apart := false, narrowed := true }
def TablesMakesUptoSaid : Prop := tablesMakesUptoRow.holds Try.pinned (OpenSpec.upto tablesMakesSpec)

/-- 'wreckagelaw08.TablesAgree', WHERE WHAT IT READS IS OF BULK AT MOST 1048576: true; the input reads as it did. -/
def tablesAgreeUptoRow : OpenClaim := { program := "ytibkimmagiijnaa", sum := "bac7d46dc160b931d85cc85977ed754d0063ba62d6ce3be36cd04398d9d101fb", func := "wreckage/wreckagelaw08.TablesAgree", spec := "tablesAgree", unfollowed := true, recurses := true, apart := false, narrowed := true }
def TablesAgreeUptoSaid : Prop := tablesAgreeUptoRow.holds Try.pinned (OpenSpec.upto tablesAgreeSpec)

/-- 'wreckagelaw08.TablesBack', WHERE WHAT IT READS IS OF BULK AT MOST 1048576: true; the input reads as it did. -/
def tablesBackUptoRow : OpenClaim := { program := "ytibkimmagiijnaa", sum := "bac7d46dc160b931d85cc85977ed754d0063ba62d6ce3be36cd04398d9d101fb", func := "wreckage/wreckagelaw08.TablesBack", spec := "tablesBack", unfollowed := true, recurses := true, apart := false, narrowed := true }
def TablesBackUptoSaid : Prop := tablesBackUptoRow.holds Try.pinned (OpenSpec.upto tablesBackSpec)

/-- 'wreckagelaw08.TablesNames', WHERE WHAT IT READS IS OF BULK AT MOST 1048576: true; the input reads as it did. -/
def tablesNamesUptoRow : OpenClaim := { program := "ytibkimmagiijnaa", sum := "bac7d46dc160b931d85cc85977ed754d0063ba62d6ce3be36cd04398d9d101fb", func := "wreckage/wreckagelaw08.TablesNames", spec := "tablesNames", unfollowed := true, recurses := true, apart := false, narrowed := true }
def TablesNamesUptoSaid : Prop := tablesNamesUptoRow.holds Try.pinned (OpenSpec.upto tablesNamesSpec)

end Rows
end Go.Proofs.Ytibkimmagiijnaa
