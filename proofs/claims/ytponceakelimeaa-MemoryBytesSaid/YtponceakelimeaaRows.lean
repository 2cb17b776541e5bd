/-
  No cell of these rows narrows 'for every input' (looked for: loops, veiled, ifaces, maps, wideKeys, modest, calm, conditions, laid).
  DERIVED. THE GIVEN ROWS OF THIS SEAT. 7 by the template 'for every input the law returns true; each argument reads behind the call as it read before'; 0 by the template 'total and deterministic' (their statements: YtponceakelimeaaTotals.lean).
  GIVEN WITH THE SEED: the statements are not yours to turn. If you find one false, say at which input.
  Laid BY PROGRAM, IN A SANDBOX (cutbox-rows.mjs): the forced cells as the released guide's own fill.sh prints them over the translation 09ec204f5c4cc2f7… (all of the seat's roots in one cut). By AI agents, Wed Nov 11 2026. No macro, syntax, notation, axiom, sorry.
-/
import Derived.Test.YtponceakelimeaaChecked
import GoSem.Claim
import GoSem.ClaimJoined
import GoSem.ClaimMapViews
import Derived.JoinedTies
import Derived.KernelRfl
namespace Go.Proofs.Ytponceakelimeaa
/- THE CELL 'sum', in the pinned program and in every row, IS THE sha256 OF THE DUMP (.gsa) THAT YtponceakelimeaaProg.lean LOADS. Nothing in Lean hashes anything: it is a label: what it is worth is what the hold of that sum in a sandbox is worth. -/
noncomputable def Try.pinned : Pinned := { name := "ytponceakelimeaa", sum := "09ec204f5c4cc2f7bf66976daed75df7c5e272e663577892ff5a750ec364f007", checked := Try.checked }
namespace Rows
def none {H : Type} : Left H := { results := [], args := [] }

/-- 'wreckagelaw26.MemoryWrites': WHATEVER THE INPUT: true; the input reads as it did. -/
def memoryWritesSpec : ChangeSpec := { name := "memoryWrites", fn := fun _ => fun
  | [d1, d2] => { results := [.lit (.bool true)], args := [d1, d2] }
  | _ => none }
def memoryWritesRow : OpenClaim := { program := "ytponceakelimeaa", sum := "09ec204f5c4cc2f7bf66976daed75df7c5e272e663577892ff5a750ec364f007", func := "wreckage/wreckagelaw26.MemoryWrites", spec := "memoryWrites", unfollowed := true, recurses := true, apart := false }
def MemoryWritesSaid : Prop := memoryWritesRow.holds Try.pinned (OpenSpec.ofChange memoryWritesSpec)

/-- ITS FALSE NEIGHBOUR: 'it returns false'. Refute it at one input. -/
def memoryWritesWrong : ChangeSpec := { name := "memoryWrites", fn := fun _ => fun
  | [d1, d2] => { results := [.lit (.bool false)], args := [d1, d2] }
  | _ => none }
def MemoryWritesWrongFalsely : Prop := memoryWritesRow.holds Try.pinned (OpenSpec.ofChange memoryWritesWrong)

/-- 'wreckagelaw26.MemoryFinds': WHATEVER THE INPUT: true; the input reads as it did. -/
def memoryFindsSpec : ChangeSpec := { name := "memoryFinds", fn := fun _ => fun
  | [d1, d2, d3, d4] => { results := [.lit (.bool true)], args := [d1, d2, d3, d4] }
  | _ => none }
def memoryFindsRow : OpenClaim := { program := "ytponceakelimeaa", sum := "09ec204f5c4cc2f7bf66976daed75df7c5e272e663577892ff5a750ec364f007", func := "wreckage/wreckagelaw26.MemoryFinds", spec := "memoryFinds", unfollowed := true, recurses := true, apart := false }
def MemoryFindsSaid : Prop := memoryFindsRow.holds Try.pinned (OpenSpec.ofChange memoryFindsSpec)

/-- ITS FALSE NEIGHBOUR: 'it returns false'. Refute it at one input. -/
def memoryFindsWrong : ChangeSpec := { name := "memoryFinds", fn := fun _ => fun
  | [d1, d2, d3, d4] => { results := [.lit (.bool false)], args := [d1, d2, d3, d4] }
  | _ => none }
def MemoryFindsWrongFalsely : Prop := memoryFindsRow.holds Try.pinned (OpenSpec.ofChange memoryFindsWrong)

/-- 'wreckagelaw26.MemoryReads': WHATEVER THE INPUT: true; the input reads as it did. -/
def memoryReadsSpec : ChangeSpec := { name := "memoryReads", fn := fun _ => fun
  | [d] => { results := [.lit (.bool true)], args := [d] }
  | _ => none }
def memoryReadsRow : OpenClaim := { program := "ytponceakelimeaa", sum := "09ec204f5c4cc2f7bf66976daed75df7c5e272e663577892ff5a750ec364f007", func := "wreckage/wreckagelaw26.MemoryReads", spec := "memoryReads", apart := false }
def MemoryReadsSaid : Prop := memoryReadsRow.holds Try.pinned (OpenSpec.ofChange memoryReadsSpec)

/-- ITS FALSE NEIGHBOUR: 'it returns false'. Refute it at one input. -/
def memoryReadsWrong : ChangeSpec := { name := "memoryReads", fn := fun _ => fun
  | [d] => { results := [.lit (.bool false)], args := [d] }
  | _ => none }
def MemoryReadsWrongFalsely : Prop := memoryReadsRow.holds Try.pinned (OpenSpec.ofChange memoryReadsWrong)

/-- 'wreckagelaw26.MemoryBytes': WHATEVER THE INPUT: true; the input reads as it did. -/
def memoryBytesSpec : ChangeSpec := { name := "memoryBytes", fn := fun _ => fun
  | [d1, d2, d3, d4] => { results := [.lit (.bool true)], args := [d1, d2, d3, d4] }
  | _ => none }
def memoryBytesRow : OpenClaim := { program := "ytponceakelimeaa", sum := "09ec204f5c4cc2f7bf66976daed75df7c5e272e663577892ff5a750ec364f007", func := "wreckage/wreckagelaw26.MemoryBytes", spec := "memoryBytes", unfollowed := true, recurses := true, apart := false }
def MemoryBytesSaid : Prop := memoryBytesRow.holds Try.pinned (OpenSpec.ofChange memoryBytesSpec)

/-- ITS FALSE NEIGHBOUR: 'it returns false'. Refute it at one input. -/
def memoryBytesWrong : ChangeSpec := { name := "memoryBytes", fn := fun _ => fun
  | [d1, d2, d3, d4] => { results := [.lit (.bool false)], args := [d1, d2, d3, d4] }
  | _ => none }
def MemoryBytesWrongFalsely : Prop := memoryBytesRow.holds Try.pinned (OpenSpec.ofChange memoryBytesWrong)

/-- 'wreckagelaw26.MemoryParts': WHATEVER THE INPUT: true; the input reads as it did. -/
def memoryPartsSpec : ChangeSpec := { name := "memoryParts", fn := fun _ => fun
  | [d1, d2, d3, d4, d5] => { results := [.lit (.bool true)], args := [d1, d2, d3, d4, d5] }
  | _ => none }
def memoryPartsRow : OpenClaim := { program := "ytponceakelimeaa", sum := "09ec204f5c4cc2f7bf66976daed75df7c5e272e663577892ff5a750ec364f007", func := "wreckage/wreckagelaw26.MemoryParts", spec := "memoryParts", unfollowed := true, recurses := true, apart := false }
def MemoryPartsSaid : Prop := memoryPartsRow.holds Try.pinned (OpenSpec.ofChange memoryPartsSpec)

/-- ITS FALSE NEIGHBOUR: 'it returns false'. Refute it at one input. -/
def memoryPartsWrong : ChangeSpec := { name := "memoryParts", fn := fun _ => fun
  | [d1, d2, d3, d4, d5] => { results := [.lit (.bool false)], args := [d1, d2, d3, d4, d5] }
  | _ => none }
def MemoryPartsWrongFalsely : Prop := memoryPartsRow.holds Try.pinned (OpenSpec.ofChange memoryPartsWrong)

/-- 'wreckagelaw26.MemoryNames': WHATEVER THE INPUT: true; the input reads as it did. -/
def memoryNamesSpec : ChangeSpec := { name := "memoryNames", fn := fun _ => fun
  | [] => { results := [.lit (.bool true)], args := [] }
  | _ => none }
def memoryNamesRow : OpenClaim := { program := "ytponceakelimeaa", sum := "09ec204f5c4cc2f7bf66976daed75df7c5e272e663577892ff5a750ec364f007", func := "wreckage/wreckagelaw26.MemoryNames", spec := "memoryNames", unfollowed := true, recurses := true, apart := false }
def MemoryNamesSaid : Prop := memoryNamesRow.holds Try.pinned (OpenSpec.ofChange memoryNamesSpec)

/-- ITS FALSE NEIGHBOUR: 'it returns false'. Refute it at one input. -/
def memoryNamesWrong : ChangeSpec := { name := "memoryNames", fn := fun _ => fun
  | [] => { results := [.lit (.bool false)], args := [] }
  | _ => none }
def MemoryNamesWrongFalsely : Prop := memoryNamesRow.holds Try.pinned (OpenSpec.ofChange memoryNamesWrong)

/-- 'wreckagelaw26.MemoryBack': WHATEVER THE INPUT: true; the input reads as it did. -/
def memoryBackSpec : ChangeSpec := { name := "memoryBack", fn := fun _ => fun
  | [d1, d2, d3] => { results := [.lit (.bool true)], args := [d1, d2, d3] }
  | _ => none }
def memoryBackRow : OpenClaim := { program := "ytponceakelimeaa", sum := "09ec204f5c4cc2f7bf66976daed75df7c5e272e663577892ff5a750ec364f007", func := "wreckage/wreckagelaw26.MemoryBack", spec := "memoryBack", unfollowed := true, recurses := true, apart := false }
def MemoryBackSaid : Prop := memoryBackRow.holds Try.pinned (OpenSpec.ofChange memoryBackSpec)

/-- ITS FALSE NEIGHBOUR: 'it returns false'. Refute it at one input. -/
def memoryBackWrong : ChangeSpec := { name := "memoryBack", fn := fun _ => fun
  | [d1, d2, d3] => { results := [.lit (.bool false)], args := [d1, d2, d3] }
  | _ => none }
def MemoryBackWrongFalsely : Prop := memoryBackRow.holds Try.pinned (OpenSpec.ofChange memoryBackWrong)

/- THE SECOND FORM. 'bulk': how many values and letters a reading holds, each counted each time it is reached (what is shared counts as often as it is met; a slice's spare places count too). A statement '..UptoSaid' is the law's where the arguments, and the package variables that the reading takes, are together of bulk at most 1048576: NARROWER than '..Said'. Prove '..Said' where nothing that the law and all that it calls make is longer than what came in: it says more and counts as full. Else prove '..UptoSaid'. A law counts once. -/
mutual
def uptoBulk {H : Type} : DataW H → Nat
  | .lit (.string bytes) => bytes.length + 1
  | .lit _ => 1
  | .nil => 1
  | .ptr d => uptoBulk d + 1
  | .slice elems spare => uptoBulkAll elems + uptoBulkAll spare + 1
  | .agg parts => uptoBulkAll parts + 1
  | .iface _ d => uptoBulk d + 1
  | .map entries => uptoBulkEntries entries + 1
  | .held _ => 1
def uptoBulkAll {H : Type} : List (DataW H) → Nat
  | [] => 0
  | d :: r => uptoBulk d + uptoBulkAll r
def uptoBulkEntries {H : Type} : List (Lit × DataW H) → Nat
  | [] => 0
  | x :: r => uptoBulkEntry x + uptoBulkEntries r
def uptoBulkEntry {H : Type} : Lit × DataW H → Nat
  | (.string bytes, d) => bytes.length + uptoBulk d + 1
  | (_, d) => uptoBulk d + 1
 end
def uptoSmall : (H : Type) → List (DataW H) → Bool := fun _ ds => decide (uptoBulkAll ds ≤ 1048576)
def OpenSpec.upto (s : _root_.Go.ChangeSpec) : _root_.Go.OpenSpec := { _root_.Go.OpenSpec.ofChange s with cond := some uptoSmall }

/-- 'wreckagelaw26.MemoryWrites', WHERE WHAT IT READS IS OF BULK AT MOST 1048576: true; the input reads as it did. -/
def memoryWritesUptoRow : OpenClaim := { program := "ytponceakelimeaa", sum := "09ec204f5c4cc2f7bf66976daed75df7c5e272e663577892ff5a750ec364f007", func := "wreckage/wreckagelaw26.MemoryWrites", spec := "memoryWrites", unfollowed := true, recurses := true, apart := false, narrowed := true }
def MemoryWritesUptoSaid : Prop := memoryWritesUptoRow.holds Try.pinned (OpenSpec.upto memoryWritesSpec)

/-- 'wreckagelaw26.MemoryFinds', WHERE WHAT IT READS IS OF BULK AT MOST 1048576: true; the input reads as it did. -/
def memoryFindsUptoRow : OpenClaim := { program := "ytponceakelimeaa", sum := "09ec204f5c4cc2f7bf66976daed75df7c5e272e663577892ff5a750ec364f007", func := "wreckage/wreckagelaw26.MemoryFinds", spec := "memoryFinds", unfollowed := true, recurses := true, apart := false, narrowed := true }
def MemoryFindsUptoSaid : Prop := memoryFindsUptoRow.holds Try.pinned (OpenSpec.upto memoryFindsSpec)

/-- 'wreckagelaw26.MemoryReads', WHERE WHAT IT READS IS OF BULK AT MOST 1048576: true; the input reads as it did. -/
def memoryReadsUptoRow : OpenClaim := { program := "ytponceakelimeaa", sum := "09ec204f5c4cc2f7bf66976daed75df7c5e272e663577892ff5a750ec364f007", func := "wreckage/wreckagelaw26.MemoryReads", spec := "memoryReads", apart := false, narrowed := true }
def MemoryReadsUptoSaid : Prop := memoryReadsUptoRow.holds Try.pinned (OpenSpec.upto memoryReadsSpec)

/-- 'wreckagelaw26.MemoryBytes', WHERE WHAT IT READS IS OF BULK AT MOST 1048576: true; the input reads as it did. -/
def memoryBytesUptoRow : OpenClaim := { program := "ytponceakelimeaa", sum := "09ec204f5c4cc2f7bf66976daed75df7c5e272e663577892ff5a750ec364f007", func := "wreckage/wreckagelaw26.MemoryBytes", spec := "memoryBytes", unfollowed := true, recurses := true, apart := false, narrowed := true }
def MemoryBytesUptoSaid : Prop := memoryBytesUptoRow.holds Try.pinned (OpenSpec.upto memoryBytesSpec)

/-- 'wreckagelaw26.MemoryParts', WHERE WHAT IT READS IS OF BULK AT MOST 1048576: true; the input reads as it did. -/
def memoryPartsUptoRow : OpenClaim := { program := "ytponceakelimeaa", sum := "09ec204f5c4cc2f7bf66976daed75df7c5e272e663577892ff5a750ec364f007", func := "wreckage/wreckagelaw26.MemoryParts", spec := "memoryParts", unfollowed := true, recurses := true, apart := false, narrowed := true }
def MemoryPartsUptoSaid : Prop := memoryPartsUptoRow.holds Try.pinned (OpenSpec.upto memoryPartsSpec)

/-- 'wreckagelaw26.MemoryNames', WHERE WHAT IT READS IS OF BULK AT MOST 1048576: true; the input reads as it did. -/
def memoryNamesUptoRow : OpenClaim := { program := "ytponceakelimeaa", sum := "09ec204f5c4cc2f7bf66976daed75df7c5e272e663577892ff5a750ec364f007", func := "wreckage/wreckagelaw26.MemoryNames", spec := "memoryNames", unfollowed := true, recurses := true, apart := false, narrowed := true }
def MemoryNamesUptoSaid : Prop := memoryNamesUptoRow.holds Try.pinned (OpenSpec.upto memoryNamesSpec)

/-- 'wreckagelaw26.MemoryBack', WHERE WHAT IT READS IS OF BULK AT MOST 1048576: true; the input reads as it did. -/
def memoryBackUptoRow : OpenClaim := { program := "ytponceakelimeaa", sum := "09ec204f5c4cc2f7bf66976daed75df7c5e272e663577892ff5a750ec364f007", func := "wreckage/wreckagelaw26.MemoryBack", spec := "memoryBack", unfollowed := true, recurses := true, apart := false, narrowed := true }
def MemoryBackUptoSaid : Prop := memoryBackUptoRow.holds Try.pinned (OpenSpec.upto memoryBackSpec)

end Rows
end Go.Proofs.Ytponceakelimeaa
