/-
  No cell of these rows narrows 'for every input' (looked for: loops, veiled, ifaces, maps, wideKeys, modest, calm, conditions, laid).
  DERIVED. THE GIVEN ROWS OF THIS SEAT. 5 by the template 'for every input the law returns true; each argument reads behind the call as it read before'; 0 by the template 'total and deterministic' (their statements: YtldaijkcmnnjpaaTotals.lean).
  GIVEN WITH THE SEED: the statements are not yours to turn. If you find one false, say at which input.
  Laid BY PROGRAM, IN A SANDBOX (cutbox-rows.mjs): the forced cells as the released guide's own fill.sh prints them over the translation a9da02de8d680d03… (all of the seat's roots in one cut). By AI agents, Wed Nov 11 2026. No macro, syntax, notation, axiom, sorry.
-/
import Derived.Test.YtldaijkcmnnjpaaChecked
import GoSem.Claim
import GoSem.ClaimJoined
import GoSem.ClaimMapViews
import Derived.JoinedTies
import Derived.KernelRfl
namespace Go.Proofs.Ytldaijkcmnnjpaa
/- THE CELL 'sum', in the pinned program and in every row, IS THE sha256 OF THE DUMP (.gsa) THAT YtldaijkcmnnjpaaProg.lean LOADS. Nothing in Lean hashes anything: it is a label: what it is worth is what the hold of that sum in a sandbox is worth. -/
noncomputable def Try.pinned : Pinned := { name := "ytldaijkcmnnjpaa", sum := "a9da02de8d680d0373241fd49e3f30d2f9f972687f0f6d285baa8946cbb2f0e2", checked := Try.checked }
namespace Rows
def none {H : Type} : Left H := { results := [], args := [] }

/-- 'wreckagelaw01.CrcNames': WHATEVER THE INPUT: true; the input reads as it did. -/
def crcNamesSpec : ChangeSpec := { name := "crcNames", fn := fun _ => fun
  | [] => { results := [.lit (.bool true)], args := [] }
  | _ => none }
def crcNamesRow : OpenClaim := { program := "ytldaijkcmnnjpaa", sum := "a9da02de8d680d0373241fd49e3f30d2f9f972687f0f6d285baa8946cbb2f0e2", func := "wreckage/wreckagelaw01.CrcNames", spec := "crcNames", apart := false }
def CrcNamesSaid : Prop := crcNamesRow.holds Try.pinned (OpenSpec.ofChange crcNamesSpec)

/-- ITS FALSE NEIGHBOUR: 'it returns false'. Refute it at one input. -/
def crcNamesWrong : ChangeSpec := { name := "crcNames", fn := fun _ => fun
  | [] => { results := [.lit (.bool false)], args := [] }
  | _ => none }
def CrcNamesWrongFalsely : Prop := crcNamesRow.holds Try.pinned (OpenSpec.ofChange crcNamesWrong)

/-- 'wreckagelaw11.ScriptNames': WHATEVER THE INPUT: true; the input reads as it did. -/
def scriptNamesSpec : ChangeSpec := { name := "scriptNames", fn := fun _ => fun
  | [] => { results := [.lit (.bool true)], args := [] }
  | _ => none }
def scriptNamesRow : OpenClaim := { program := "ytldaijkcmnnjpaa", sum := "a9da02de8d680d0373241fd49e3f30d2f9f972687f0f6d285baa8946cbb2f0e2", func := "wreckage/wreckagelaw11.ScriptNames", spec := "scriptNames", unfollowed := true, recurses := true, apart := false }
def ScriptNamesSaid : Prop := scriptNamesRow.holds Try.pinned (OpenSpec.ofChange scriptNamesSpec)

/-- ITS FALSE NEIGHBOUR: 'it returns false'. Refute it at one input. -/
def scriptNamesWrong : ChangeSpec := { name := "scriptNames", fn := fun _ => fun
  | [] => { results := [.lit (.bool false)], args := [] }
  | _ => none }
def ScriptNamesWrongFalsely : Prop := scriptNamesRow.holds Try.pinned (OpenSpec.ofChange scriptNamesWrong)

/-- 'wreckagelaw08.TablesNames': WHATEVER THE INPUT: true; the input reads as it did. -/
def tablesNamesSpec : ChangeSpec := { name := "tablesNames", fn := fun _ => fun
  | [] => { results := [.lit (.bool true)], args := [] }
  | _ => none }
def tablesNamesRow : OpenClaim := { program := "ytldaijkcmnnjpaa", sum := "a9da02de8d680d0373241fd49e3f30d2f9f972687f0f6d285baa8946cbb2f0e2", func := "wreckage/wreckagelaw08.TablesNames", spec := "tablesNames", unfollowed := true, recurses := true, apart := false }
def TablesNamesSaid : Prop := tablesNamesRow.holds Try.pinned (OpenSpec.ofChange tablesNamesSpec)

/-- ITS FALSE NEIGHBOUR: 'it returns false'. Refute it at one input. -/
def tablesNamesWrong : ChangeSpec := { name := "tablesNames", fn := fun _ => fun
  | [] => { results := [.lit (.bool false)], args := [] }
  | _ => none }
def TablesNamesWrongFalsely : Prop := tablesNamesRow.holds Try.pinned (OpenSpec.ofChange tablesNamesWrong)

/-- 'wreckagelaw26.MemoryNames': WHATEVER THE INPUT: true; the input reads as it did. -/
def memoryNamesSpec : ChangeSpec := { name := "memoryNames", fn := fun _ => fun
  | [] => { results := [.lit (.bool true)], args := [] }
  | _ => none }
def memoryNamesRow : OpenClaim := { program := "ytldaijkcmnnjpaa", sum := "a9da02de8d680d0373241fd49e3f30d2f9f972687f0f6d285baa8946cbb2f0e2", func := "wreckage/wreckagelaw26.MemoryNames", spec := "memoryNames", unfollowed := true, recurses := true, apart := false }
def MemoryNamesSaid : Prop := memoryNamesRow.holds Try.pinned (OpenSpec.ofChange memoryNamesSpec)

/-- ITS FALSE NEIGHBOUR: 'it returns false'. Refute it at one input. -/
def memoryNamesWrong : ChangeSpec := { name := "memoryNames", fn := fun _ => fun
  | [] => { results := [.lit (.bool false)], args := [] }
  | _ => none }
def MemoryNamesWrongFalsely : Prop := memoryNamesRow.holds Try.pinned (OpenSpec.ofChange memoryNamesWrong)

/-- 'wreckagelaw27.HeadsNames': WHATEVER THE INPUT: true; the input reads as it did. -/
def headsNamesSpec : ChangeSpec := { name := "headsNames", fn := fun _ => fun
  | [] => { results := [.lit (.bool true)], args := [] }
  | _ => none }
def headsNamesRow : OpenClaim := { program := "ytldaijkcmnnjpaa", sum := "a9da02de8d680d0373241fd49e3f30d2f9f972687f0f6d285baa8946cbb2f0e2", func := "wreckage/wreckagelaw27.HeadsNames", spec := "headsNames", unfollowed := true, recurses := true, apart := false }
def HeadsNamesSaid : Prop := headsNamesRow.holds Try.pinned (OpenSpec.ofChange headsNamesSpec)

/-- ITS FALSE NEIGHBOUR: 'it returns false'. Refute it at one input. -/
def headsNamesWrong : ChangeSpec := { name := "headsNames", fn := fun _ => fun
  | [] => { results := [.lit (.bool false)], args := [] }
  | _ => none }
def HeadsNamesWrongFalsely : Prop := headsNamesRow.holds Try.pinned (OpenSpec.ofChange headsNamesWrong)

/- THE SECOND FORM. 'bulk': how many values and letters a reading holds, each counted each time it is reached (what is shared counts as often as it is met; a slice's spare places count too). A statement '..UptoSaid' is the law's where the arguments, and the package variables that the reading takes, are together of bulk at most 1048576: NARROWER than '..Said'. Prove '..Said' where nothing that the law and all that it calls make is longer than what came in: it says more and counts as full. Else prove '..UptoSaid'. A law counts once. -/
mutual
def uptoBulk {H : Type} : DataW H → Nat
  | .lit (.string bytes) => bytes.length + 1
  | .lit _ => 1
  | .nil => 1
  | .ptr d => uptoBulk d + 1
  | .slice elems spare => uptoBulkAll elems + uptoBulkAll spare + 1
  | .agg parts => uptoBulkAll parts + 1
  | .iface _ d => uptoBulk d + 1
  | .map entries => uptoBulkEntries entries + 1
  | .held _ => 1
def uptoBulkAll {H : Type} : List (DataW H) → Nat
  | [] => 0
  | d :: r => uptoBulk d + uptoBulkAll r
def uptoBulkEntries {H : Type} : List (Lit × DataW H) → Nat
  | [] => 0
  | x :: r => uptoBulkEntry x + uptoBulkEntries r
def uptoBulkEntry {H : Type} : Lit × DataW H → Nat
  | (.string bytes, d) => bytes.length + uptoBulk d + 1
  | (_, d) => uptoBulk d + 1
 end
def uptoSmall : (H : Type) → List (DataW H) → Bool := fun _ ds => decide (uptoBulkAll ds ≤ 1048576)
def OpenSpec.upto (s : _root_.Go.ChangeSpec) : _root_.Go.OpenSpec := { _root_.Go.OpenSpec.ofChange s with cond := some uptoSmall }

/-- 'wreckagelaw01.CrcNames', WHERE WHAT IT READS IS OF BULK AT MOST 1048576: true; the input reads as it did. -/
def crcNamesUptoRow : OpenClaim := { program := "ytldaijkcmnnjpaa", sum := "a9da02de8d680d0373241fd49e3f30d2f9f972687f0f6d285baa8946cbb2f0e2", func := "wreckage/wreckagelaw01.CrcNames", spec := "crcNames", apart := false, narrowed := true }
def CrcNamesUptoSaid : Prop := crcNamesUptoRow.holds Try.pinned (OpenSpec.upto crcNamesSpec)

/-- 'wreckagelaw11.ScriptNames', WHERE WHAT IT READS IS OF BULK AT MOST 1048576: true; the input reads as it did. -/
def scriptNamesUptoRow : OpenClaim := { program := "ytldaijkcmnnjpaa", sum := "a9da02de8d680d0373241fd49e3f30d2f9f972687f0f6d285baa8946cbb2f0e2", func := "wreckage/wreckagelaw11.ScriptNames", spec := "scriptNames", unfollowed := true, recurses := true, apart := false, narrowed := true }
def ScriptNamesUptoSaid : Prop := scriptNamesUptoRow.holds Try.pinned (OpenSpec.upto scriptNamesSpec)

/-- 'wreckagelaw08.TablesNames', WHERE WHAT IT READS IS OF BULK AT MOST 1048576: true; the input reads as it did. -/
def tablesNamesUptoRow : OpenClaim := { program := "ytldaijkcmnnjpaa", sum := "a9da02de8d680d0373241fd49e3f30d2f9f972687f0f6d285baa8946cbb2f0e2", func := "wreckage/wreckagelaw08.TablesNames", spec := "tablesNames", unfollowed := true, recurses := true, apart := false, narrowed := true }
def TablesNamesUptoSaid : Prop := tablesNamesUptoRow.holds Try.pinned (OpenSpec.upto tablesNamesSpec)

/-- 'wreckagelaw26.MemoryNames', WHERE WHAT IT READS IS OF BULK AT MOST 1048576: true; the input reads as it did. -/
def memoryNamesUptoRow : OpenClaim := { program := "ytldaijkcmnnjpaa", sum := "a9da02de8d680d0373241fd49e3f30d2f9f972687f0f6d285baa8946cbb2f0e2", func := "wreckage/wreckagelaw26.MemoryNames", spec := "memoryNames", unfollowed := true, recurses := true, apart := false, narrowed := true }
def MemoryNamesUptoSaid : Prop := memoryNamesUptoRow.holds Try.pinned (OpenSpec.upto memoryNamesSpec)

/-- 'wreckagelaw27.HeadsNames', WHERE WHAT IT READS IS OF BULK AT MOST 1048576: true; the input reads as it did. -/
def headsNamesUptoRow : OpenClaim := { program := "ytldaijkcmnnjpaa", sum := "a9da02de8d680d0373241fd49e3f30d2f9f972687f0f6d285baa8946cbb2f0e2", func := "wreckage/wreckagelaw27.HeadsNames", spec := "headsNames", unfollowed := true, recurses := true, apart := false, narrowed := true }
def HeadsNamesUptoSaid : Prop := headsNamesUptoRow.holds Try.pinned (OpenSpec.upto headsNamesSpec)

end Rows
end Go.Proofs.Ytldaijkcmnnjpaa
