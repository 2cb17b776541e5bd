/-
  No cell of these rows narrows 'for every input' (looked for: loops, veiled, ifaces, maps, wideKeys, modest, calm, conditions, laid).
  DERIVED. THE GIVEN ROWS OF THIS SEAT. 6 by the template 'for every input the law returns true; each argument reads behind the call as it read before'; 0 by the template 'total and deterministic' (their statements: YtljpggebpfpelaaTotals.lean).
  GIVEN WITH THE SEED: the statements are not yours to turn. If you find one false, say at which input.
  Laid BY PROGRAM, IN A SANDBOX (cutbox-rows.mjs): the forced cells as the released guide's own fill.sh prints them over the translation 98d5f947e159fb6c… (all of the seat's roots in one cut). By AI agents, Wed Nov 11 2026. No macro, syntax, notation, axiom, sorry.
-/
import Derived.Test.YtljpggebpfpelaaChecked
import GoSem.Claim
import GoSem.ClaimJoined
import GoSem.ClaimMapViews
import Derived.JoinedTies
import Derived.KernelRfl
namespace Go.Proofs.Ytljpggebpfpelaa
/- THE CELL 'sum', in the pinned program and in every row, IS THE sha256 OF THE DUMP (.gsa) THAT YtljpggebpfpelaaProg.lean LOADS. Nothing in Lean hashes anything: it is a label: what it is worth is what the hold of that sum in a sandbox is worth. -/
noncomputable def Try.pinned : Pinned := { name := "ytljpggebpfpelaa", sum := "98d5f947e159fb6ce1db36be887e4014a5e0aa71a636ee5ab733f42532410c9e", checked := Try.checked }
namespace Rows
def none {H : Type} : Left H := { results := [], args := [] }

/-- 'wreckagelaw27.HeadsBack': WHATEVER THE INPUT: true; the input reads as it did. -/
def headsBackSpec : ChangeSpec := { name := "headsBack", fn := fun _ => fun
  | [d1, d2, d3, d4] => { results := [.lit (.bool true)], args := [d1, d2, d3, d4] }
  | _ => none }
def headsBackRow : OpenClaim := { program := "ytljpggebpfpelaa", sum := "98d5f947e159fb6ce1db36be887e4014a5e0aa71a636ee5ab733f42532410c9e", func := "wreckage/wreckagelaw27.HeadsBack", spec := "headsBack", unfollowed := true, recurses := true, apart := false }
def HeadsBackSaid : Prop := headsBackRow.holds Try.pinned (OpenSpec.ofChange headsBackSpec)

/-- ITS FALSE NEIGHBOUR: 'it returns false'. Refute it at one input. -/
def headsBackWrong : ChangeSpec := { name := "headsBack", fn := fun _ => fun
  | [d1, d2, d3, d4] => { results := [.lit (.bool false)], args := [d1, d2, d3, d4] }
  | _ => none }
def HeadsBackWrongFalsely : Prop := headsBackRow.holds Try.pinned (OpenSpec.ofChange headsBackWrong)

/-- 'wreckagelaw27.HeadsBegin': WHATEVER THE INPUT: true; the input reads as it did. -/
def headsBeginSpec : ChangeSpec := { name := "headsBegin", fn := fun _ => fun
  | [d1, d2, d3] => { results := [.lit (.bool true)], args := [d1, d2, d3] }
  | _ => none }
def headsBeginRow : OpenClaim := { program := "ytljpggebpfpelaa", sum := "98d5f947e159fb6ce1db36be887e4014a5e0aa71a636ee5ab733f42532410c9e", func := "wreckage/wreckagelaw27.HeadsBegin", spec := "headsBegin", unfollowed := true, recurses := true, apart := false }
def HeadsBeginSaid : Prop := headsBeginRow.holds Try.pinned (OpenSpec.ofChange headsBeginSpec)

/-- ITS FALSE NEIGHBOUR: 'it returns false'. Refute it at one input. -/
def headsBeginWrong : ChangeSpec := { name := "headsBegin", fn := fun _ => fun
  | [d1, d2, d3] => { results := [.lit (.bool false)], args := [d1, d2, d3] }
  | _ => none }
def HeadsBeginWrongFalsely : Prop := headsBeginRow.holds Try.pinned (OpenSpec.ofChange headsBeginWrong)

/-- 'wreckagelaw27.HeadsWrites': WHATEVER THE INPUT: true; the input reads as it did. -/
def headsWritesSpec : ChangeSpec := { name := "headsWrites", fn := fun _ => fun
  | [d1, d2, d3] => { results := [.lit (.bool true)], args := [d1, d2, d3] }
  | _ => none }
def headsWritesRow : OpenClaim := { program := "ytljpggebpfpelaa", sum := "98d5f947e159fb6ce1db36be887e4014a5e0aa71a636ee5ab733f42532410c9e", func := "wreckage/wreckagelaw27.HeadsWrites", spec := "headsWrites", unfollowed := true, recurses := true, apart := false }
def HeadsWritesSaid : Prop := headsWritesRow.holds Try.pinned (OpenSpec.ofChange headsWritesSpec)

/-- ITS FALSE NEIGHBOUR: 'it returns false'. Refute it at one input. -/
def headsWritesWrong : ChangeSpec := { name := "headsWrites", fn := fun _ => fun
  | [d1, d2, d3] => { results := [.lit (.bool false)], args := [d1, d2, d3] }
  | _ => none }
def HeadsWritesWrongFalsely : Prop := headsWritesRow.holds Try.pinned (OpenSpec.ofChange headsWritesWrong)

/-- 'wreckagelaw27.HeadsLess': WHATEVER THE INPUT: true; the input reads as it did. -/
def headsLessSpec : ChangeSpec := { name := "headsLess", fn := fun _ => fun
  | [d] => { results := [.lit (.bool true)], args := [d] }
  | _ => none }
def headsLessRow : OpenClaim := { program := "ytljpggebpfpelaa", sum := "98d5f947e159fb6ce1db36be887e4014a5e0aa71a636ee5ab733f42532410c9e", func := "wreckage/wreckagelaw27.HeadsLess", spec := "headsLess", unfollowed := true, recurses := true, apart := false }
def HeadsLessSaid : Prop := headsLessRow.holds Try.pinned (OpenSpec.ofChange headsLessSpec)

/-- ITS FALSE NEIGHBOUR: 'it returns false'. Refute it at one input. -/
def headsLessWrong : ChangeSpec := { name := "headsLess", fn := fun _ => fun
  | [d] => { results := [.lit (.bool false)], args := [d] }
  | _ => none }
def HeadsLessWrongFalsely : Prop := headsLessRow.holds Try.pinned (OpenSpec.ofChange headsLessWrong)

/-- 'wreckagelaw27.HeadsReads': WHATEVER THE INPUT: true; the input reads as it did. -/
def headsReadsSpec : ChangeSpec := { name := "headsReads", fn := fun _ => fun
  | [d] => { results := [.lit (.bool true)], args := [d] }
  | _ => none }
def headsReadsRow : OpenClaim := { program := "ytljpggebpfpelaa", sum := "98d5f947e159fb6ce1db36be887e4014a5e0aa71a636ee5ab733f42532410c9e", func := "wreckage/wreckagelaw27.HeadsReads", spec := "headsReads", unfollowed := true, recurses := true, apart := false }
def HeadsReadsSaid : Prop := headsReadsRow.holds Try.pinned (OpenSpec.ofChange headsReadsSpec)

/-- ITS FALSE NEIGHBOUR: 'it returns false'. Refute it at one input. -/
def headsReadsWrong : ChangeSpec := { name := "headsReads", fn := fun _ => fun
  | [d] => { results := [.lit (.bool false)], args := [d] }
  | _ => none }
def HeadsReadsWrongFalsely : Prop := headsReadsRow.holds Try.pinned (OpenSpec.ofChange headsReadsWrong)

/-- 'wreckagelaw27.HeadsNames': WHATEVER THE INPUT: true; the input reads as it did. -/
def headsNamesSpec : ChangeSpec := { name := "headsNames", fn := fun _ => fun
  | [] => { results := [.lit (.bool true)], args := [] }
  | _ => none }
def headsNamesRow : OpenClaim := { program := "ytljpggebpfpelaa", sum := "98d5f947e159fb6ce1db36be887e4014a5e0aa71a636ee5ab733f42532410c9e", func := "wreckage/wreckagelaw27.HeadsNames", spec := "headsNames", unfollowed := true, recurses := true, apart := false }
def HeadsNamesSaid : Prop := headsNamesRow.holds Try.pinned (OpenSpec.ofChange headsNamesSpec)

/-- ITS FALSE NEIGHBOUR: 'it returns false'. Refute it at one input. -/
def headsNamesWrong : ChangeSpec := { name := "headsNames", fn := fun _ => fun
  | [] => { results := [.lit (.bool false)], args := [] }
  | _ => none }
def HeadsNamesWrongFalsely : Prop := headsNamesRow.holds Try.pinned (OpenSpec.ofChange headsNamesWrong)

/- THE SECOND FORM. 'bulk': how many values and letters a reading holds, each counted each time it is reached (what is shared counts as often as it is met; a slice's spare places count too). A statement '..UptoSaid' is the law's where the arguments, and the package variables that the reading takes, are together of bulk at most 1048576: NARROWER than '..Said'. Prove '..Said' where nothing that the law and all that it calls make is longer than what came in: it says more and counts as full. Else prove '..UptoSaid'. A law counts once. -/
mutual
def uptoBulk {H : Type} : DataW H → Nat
  | .lit (.string bytes) => bytes.length + 1
  | .lit _ => 1
  | .nil => 1
  | .ptr d => uptoBulk d + 1
  | .slice elems spare => uptoBulkAll elems + uptoBulkAll spare + 1
  | .agg parts => uptoBulkAll parts + 1
  | .iface _ d => uptoBulk d + 1
  | .map entries => uptoBulkEntries entries + 1
  | .held _ => 1
def uptoBulkAll {H : Type} : List (DataW H) → Nat
  | [] => 0
  | d :: r => uptoBulk d + uptoBulkAll r
def uptoBulkEntries {H : Type} : List (Lit × DataW H) → Nat
  | [] => 0
  | x :: r => uptoBulkEntry x + uptoBulkEntries r
def uptoBulkEntry {H : Type} : Lit × DataW H → Nat
  | (.string bytes, d) => bytes.length + uptoBulk d + 1
  | (_, d) => uptoBulk d + 1
 end
def uptoSmall : (H : Type) → List (DataW H) → Bool := fun _ ds => decide (uptoBulkAll ds ≤ 1048576)
def OpenSpec.upto (s : _root_.Go.ChangeSpec) : _root_.Go.OpenSpec := { _root_.Go.OpenSpec.ofChange s with cond := some uptoSmall }

/-- 'wreckagelaw27.HeadsBack', WHERE WHAT IT READS IS OF BULK AT MOST 1048576: true; the input reads as it did. -/
def headsBackUptoRow : OpenClaim := { program := "ytljpggebpfpelaa", sum := "98d5f947e159fb6ce1db36be887e4014a5e0aa71a636ee5ab733f42532410c9e", func := "wreckage/wreckagelaw27.HeadsBack", spec := "headsBack", unfollowed := true, recurses := true, apart := false, narrowed := true }
def HeadsBackUptoSaid : Prop := headsBackUptoRow.holds Try.pinned (OpenSpec.upto headsBackSpec)

/-- 'wreckagelaw27.HeadsBegin', WHERE WHAT IT READS IS OF BULK AT MOST 1048576: true; the input reads as it did. -/
def headsBeginUptoRow : OpenClaim := { program := "ytljpggebpfpelaa", sum := "98d5f947e159fb6ce1db36be887e4014a5e0aa71a636ee5ab733f42532410c9e", func := "wreckage/wreckagelaw27.HeadsBegin", spec := "headsBegin", unfollowed := true, recurses := true, apart := false, narrowed := true }
def HeadsBeginUptoSaid : Prop := headsBeginUptoRow.holds Try.pinned (OpenSpec.upto headsBeginSpec)

/-- 'wreckagelaw27.HeadsWrites', WHERE WHAT IT READS IS OF BULK AT MOST 1048576: true; the input reads as it did. -/
def headsWritesUptoRow : OpenClaim := { program := "ytljpggebpfpelaa", sum := "98d5f947e159fb6ce1db36be887e4014a5e0aa71a636ee5ab733f42532410c9e", func := "wreckage/wreckagelaw27.HeadsWrites", spec := "headsWrites", unfollowed := true, recurses := true, apart := false, narrowed := true }
def HeadsWritesUptoSaid : Prop := headsWritesUptoRow.holds Try.pinned (OpenSpec.upto headsWritesSpec)

/-- 'wreckagelaw27.HeadsLess', WHERE WHAT IT READS IS OF BULK AT MOST 1048576: true; the input reads as it did. -/
def headsLessUptoRow : OpenClaim := { program := "ytljpggebpfpelaa", sum := "98d5f947e159fb6ce1db36be887e4014a5e0aa71a636ee5ab733f42532410c9e", func := "wreckage/wreckagelaw27.HeadsLess", spec := "headsLess", unfollowed := true, recurses := true, apart := false, narrowed := true }
def HeadsLessUptoSaid : Prop := headsLessUptoRow.holds Try.pinned (OpenSpec.upto headsLessSpec)

/-- 'wreckagelaw27.HeadsReads', WHERE WHAT IT READS IS OF BULK AT MOST 1048576: true; the input reads as it did. -/
def headsReadsUptoRow : OpenClaim := { program := "ytljpggebpfpelaa", sum := "98d5f947e159fb6ce1db36be887e4014a5e0aa71a636ee5ab733f42532410c9e", func := "wreckage/wreckagelaw27.HeadsReads", spec := "headsReads", unfollowed := true, recurses := true, apart := false, narrowed := true }
def HeadsReadsUptoSaid : Prop := headsReadsUptoRow.holds Try.pinned (OpenSpec.upto headsReadsSpec)

/-- 'wreckagelaw27.HeadsNames', WHERE WHAT IT READS IS OF BULK AT MOST 1048576: true; the input reads as it did. -/
def headsNamesUptoRow : OpenClaim := { program := "ytljpggebpfpelaa", sum := "98d5f947e159fb6ce1db36be887e4014a5e0aa71a636ee5ab733f42532410c9e", func := "wreckage/wreckagelaw27.HeadsNames", spec := "headsNames", unfollowed := true, recurses := true, apart := false, narrowed := true }
def HeadsNamesUptoSaid : Prop := headsNamesUptoRow.holds Try.pinned (OpenSpec.upto headsNamesSpec)

end Rows
end Go.Proofs.Ytljpggebpfpelaa
