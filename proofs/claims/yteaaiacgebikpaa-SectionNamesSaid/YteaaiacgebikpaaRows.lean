/-
  No cell of these rows narrows 'for every input' (looked for: loops, veiled, ifaces, maps, wideKeys, modest, calm, conditions, laid).
  DERIVED. THE GIVEN ROWS OF THIS SEAT. 6 by the template 'for every input the law returns true; each argument reads behind the call as it read before'; 0 by the template 'total and deterministic' (their statements: YteaaiacgebikpaaTotals.lean).
  GIVEN WITH THE SEED: the statements are not yours to turn. If you find one false, say at which input.
  Laid BY PROGRAM, IN A SANDBOX (cutbox-rows.mjs): the forced cells as the released guide's own fill.sh prints them over the translation a0d6d9212c2b3bd7… (all of the seat's roots in one cut). By AI agents, Wed Nov 11 2026. No macro, syntax, notation, axiom, sorry.
-/
import Derived.Test.YteaaiacgebikpaaChecked
import GoSem.Claim
import GoSem.ClaimJoined
import GoSem.ClaimMapViews
import Derived.JoinedTies
import Derived.KernelRfl
namespace Go.Proofs.Yteaaiacgebikpaa
/- THE CELL 'sum', in the pinned program and in every row, IS THE sha256 OF THE DUMP (.gsa) THAT YteaaiacgebikpaaProg.lean LOADS. Nothing in Lean hashes anything: it is a label: what it is worth is what the hold of that sum in a sandbox is worth. -/
noncomputable def Try.pinned : Pinned := { name := "yteaaiacgebikpaa", sum := "a0d6d9212c2b3bd7267aa0b19e3032f2c7ebf40fa3a2a34247e4a5bc390c13b9", checked := Try.checked }
namespace Rows
def none {H : Type} : Left H := { results := [], args := [] }

/-- 'wreckagelaw25.SectionReads': WHATEVER THE INPUT: true; the input reads as it did. -/
def sectionReadsSpec : ChangeSpec := { name := "sectionReads", fn := fun _ => fun
  | [d] => { results := [.lit (.bool true)], args := [d] }
  | _ => none }
def sectionReadsRow : OpenClaim := { program := "yteaaiacgebikpaa", sum := "a0d6d9212c2b3bd7267aa0b19e3032f2c7ebf40fa3a2a34247e4a5bc390c13b9", func := "wreckage/wreckagelaw25.SectionReads", spec := "sectionReads", apart := false }
def SectionReadsSaid : Prop := sectionReadsRow.holds Try.pinned (OpenSpec.ofChange sectionReadsSpec)

/-- ITS FALSE NEIGHBOUR: 'it returns false'. Refute it at one input. -/
def sectionReadsWrong : ChangeSpec := { name := "sectionReads", fn := fun _ => fun
  | [d] => { results := [.lit (.bool false)], args := [d] }
  | _ => none }
def SectionReadsWrongFalsely : Prop := sectionReadsRow.holds Try.pinned (OpenSpec.ofChange sectionReadsWrong)

/-- 'wreckagelaw25.SectionFinds': WHATEVER THE INPUT: true; the input reads as it did. -/
def sectionFindsSpec : ChangeSpec := { name := "sectionFinds", fn := fun _ => fun
  | [d1, d2] => { results := [.lit (.bool true)], args := [d1, d2] }
  | _ => none }
def sectionFindsRow : OpenClaim := { program := "yteaaiacgebikpaa", sum := "a0d6d9212c2b3bd7267aa0b19e3032f2c7ebf40fa3a2a34247e4a5bc390c13b9", func := "wreckage/wreckagelaw25.SectionFinds", spec := "sectionFinds", apart := false }
def SectionFindsSaid : Prop := sectionFindsRow.holds Try.pinned (OpenSpec.ofChange sectionFindsSpec)

/-- ITS FALSE NEIGHBOUR: 'it returns false'. Refute it at one input. -/
def sectionFindsWrong : ChangeSpec := { name := "sectionFinds", fn := fun _ => fun
  | [d1, d2] => { results := [.lit (.bool false)], args := [d1, d2] }
  | _ => none }
def SectionFindsWrongFalsely : Prop := sectionFindsRow.holds Try.pinned (OpenSpec.ofChange sectionFindsWrong)

/-- 'wreckagelaw25.SectionWrites': WHATEVER THE INPUT: true; the input reads as it did. -/
def sectionWritesSpec : ChangeSpec := { name := "sectionWrites", fn := fun _ => fun
  | [d1, d2, d3] => { results := [.lit (.bool true)], args := [d1, d2, d3] }
  | _ => none }
def sectionWritesRow : OpenClaim := { program := "yteaaiacgebikpaa", sum := "a0d6d9212c2b3bd7267aa0b19e3032f2c7ebf40fa3a2a34247e4a5bc390c13b9", func := "wreckage/wreckagelaw25.SectionWrites", spec := "sectionWrites", apart := false }
def SectionWritesSaid : Prop := sectionWritesRow.holds Try.pinned (OpenSpec.ofChange sectionWritesSpec)

/-- ITS FALSE NEIGHBOUR: 'it returns false'. Refute it at one input. -/
def sectionWritesWrong : ChangeSpec := { name := "sectionWrites", fn := fun _ => fun
  | [d1, d2, d3] => { results := [.lit (.bool false)], args := [d1, d2, d3] }
  | _ => none }
def SectionWritesWrongFalsely : Prop := sectionWritesRow.holds Try.pinned (OpenSpec.ofChange sectionWritesWrong)

/-- 'wreckagelaw25.SectionChanged': WHATEVER THE INPUT: true; the input reads as it did. -/
def sectionChangedSpec : ChangeSpec := { name := "sectionChanged", fn := fun _ => fun
  | [d1, d2, d3] => { results := [.lit (.bool true)], args := [d1, d2, d3] }
  | _ => none }
def sectionChangedRow : OpenClaim := { program := "yteaaiacgebikpaa", sum := "a0d6d9212c2b3bd7267aa0b19e3032f2c7ebf40fa3a2a34247e4a5bc390c13b9", func := "wreckage/wreckagelaw25.SectionChanged", spec := "sectionChanged", apart := false }
def SectionChangedSaid : Prop := sectionChangedRow.holds Try.pinned (OpenSpec.ofChange sectionChangedSpec)

/-- ITS FALSE NEIGHBOUR: 'it returns false'. Refute it at one input. -/
def sectionChangedWrong : ChangeSpec := { name := "sectionChanged", fn := fun _ => fun
  | [d1, d2, d3] => { results := [.lit (.bool false)], args := [d1, d2, d3] }
  | _ => none }
def SectionChangedWrongFalsely : Prop := sectionChangedRow.holds Try.pinned (OpenSpec.ofChange sectionChangedWrong)

/-- 'wreckagelaw25.SectionOne': WHATEVER THE INPUT: true; the input reads as it did. -/
def sectionOneSpec : ChangeSpec := { name := "sectionOne", fn := fun _ => fun
  | [d1, d2] => { results := [.lit (.bool true)], args := [d1, d2] }
  | _ => none }
def sectionOneRow : OpenClaim := { program := "yteaaiacgebikpaa", sum := "a0d6d9212c2b3bd7267aa0b19e3032f2c7ebf40fa3a2a34247e4a5bc390c13b9", func := "wreckage/wreckagelaw25.SectionOne", spec := "sectionOne", apart := false }
def SectionOneSaid : Prop := sectionOneRow.holds Try.pinned (OpenSpec.ofChange sectionOneSpec)

/-- ITS FALSE NEIGHBOUR: 'it returns false'. Refute it at one input. -/
def sectionOneWrong : ChangeSpec := { name := "sectionOne", fn := fun _ => fun
  | [d1, d2] => { results := [.lit (.bool false)], args := [d1, d2] }
  | _ => none }
def SectionOneWrongFalsely : Prop := sectionOneRow.holds Try.pinned (OpenSpec.ofChange sectionOneWrong)

/-- 'wreckagelaw25.SectionNames': WHATEVER THE INPUT: true; the input reads as it did. -/
def sectionNamesSpec : ChangeSpec := { name := "sectionNames", fn := fun _ => fun
  | [] => { results := [.lit (.bool true)], args := [] }
  | _ => none }
def sectionNamesRow : OpenClaim := { program := "yteaaiacgebikpaa", sum := "a0d6d9212c2b3bd7267aa0b19e3032f2c7ebf40fa3a2a34247e4a5bc390c13b9", func := "wreckage/wreckagelaw25.SectionNames", spec := "sectionNames", apart := false }
def SectionNamesSaid : Prop := sectionNamesRow.holds Try.pinned (OpenSpec.ofChange sectionNamesSpec)

/-- ITS FALSE NEIGHBOUR: 'it returns false'. Refute it at one input. -/
def sectionNamesWrong : ChangeSpec := { name := "sectionNames", fn := fun _ => fun
  | [] => { results := [.lit (.bool false)], args := [] }
  | _ => none }
def SectionNamesWrongFalsely : Prop := sectionNamesRow.holds Try.pinned (OpenSpec.ofChange sectionNamesWrong)

/- THE SECOND FORM. 'bulk': how many values and letters a reading holds, each counted each time it is reached (what is shared counts as often as it is met; a slice's spare places count too). A statement '..UptoSaid' is the law's where the arguments, and the package variables that the reading takes, are together of bulk at most 1048576: NARROWER than '..Said'. Prove '..Said' where nothing that the law and all that it calls make is longer than what came in: it says more and counts as full. Else prove '..UptoSaid'. A law counts once. -/
mutual
def uptoBulk {H : Type} : DataW H → Nat
  | .lit (.string bytes) => bytes.length + 1
  | .lit _ => 1
  | .nil => 1
  | .ptr d => uptoBulk d + 1
  | .slice elems spare => uptoBulkAll elems + uptoBulkAll spare + 1
  | .agg parts => uptoBulkAll parts + 1
  | .iface _ d => uptoBulk d + 1
  | .map entries => uptoBulkEntries entries + 1
  | .held _ => 1
def uptoBulkAll {H : Type} : List (DataW H) → Nat
  | [] => 0
  | d :: r => uptoBulk d + uptoBulkAll r
def uptoBulkEntries {H : Type} : List (Lit × DataW H) → Nat
  | [] => 0
  | x :: r => uptoBulkEntry x + uptoBulkEntries r
def uptoBulkEntry {H : Type} : Lit × DataW H → Nat
  | (.string bytes, d) => bytes.length + uptoBulk d + 1
  | (_, d) => uptoBulk d + 1
 end
def uptoSmall : (H : Type) → List (DataW H) → Bool := fun _ ds => decide (uptoBulkAll ds ≤ 1048576)
def OpenSpec.upto (s : _root_.Go.ChangeSpec) : _root_.Go.OpenSpec := { _root_.Go.OpenSpec.ofChange s with cond := some uptoSmall }

/-- 'wreckagelaw25.SectionReads', WHERE WHAT IT READS IS OF BULK AT MOST 1048576: true; the input reads as it did. -/
def sectionReadsUptoRow : OpenClaim := { program := "yteaaiacgebikpaa", sum := "a0d6d9212c2b3bd7267aa0b19e3032f2c7ebf40fa3a2a34247e4a5bc390c13b9", func := "wreckage/wreckagelaw25.SectionReads", spec := "sectionReads", apart := false, narrowed := true }
def SectionReadsUptoSaid : Prop := sectionReadsUptoRow.holds Try.pinned (OpenSpec.upto sectionReadsSpec)

/-- 'wreckagelaw25.SectionFinds', WHERE WHAT IT READS IS OF BULK AT MOST 1048576: true; the input reads as it did. -/
def sectionFindsUptoRow : OpenClaim := { program := "yteaaiacgebikpaa", sum := "a0d6d9212c2b3bd7267aa0b19e3032f2c7ebf40fa3a2a34247e4a5bc390c13b9", func := "wreckage/wreckagelaw25.SectionFinds", spec := "sectionFinds", apart := false, narrowed := true }
def SectionFindsUptoSaid : Prop := sectionFindsUptoRow.holds Try.pinned (OpenSpec.upto sectionFindsSpec)

/-- 'wreckagelaw25.SectionWrites', WHERE WHAT IT READS IS OF BULK AT MOST 1048576: true; the input reads as it did. -/
def sectionWritesUptoRow : OpenClaim := { program := "yteaaiacgebikpaa", sum := "a0d6d9212c2b3bd7267aa0b19e3032f2c7ebf40fa3a2a34247e4a5bc390c13b9", func := "wreckage/wreckagelaw25.SectionWrites", spec := "sectionWrites", apart := false, narrowed := true }
def SectionWritesUptoSaid : Prop := sectionWritesUptoRow.holds Try.pinned (OpenSpec.upto sectionWritesSpec)

/-- 'wreckagelaw25.SectionChanged', WHERE WHAT IT READS IS OF BULK AT MOST 1048576: true; the input reads as it did. -/
def sectionChangedUptoRow : OpenClaim := { program := "yteaaiacgebikpaa", sum := "a0d6d9212c2b3bd7267aa0b19e3032f2c7ebf40fa3a2a34247e4a5bc390c13b9", func := "wreckage/wreckagelaw25.SectionChanged", spec := "sectionChanged", apart := false, narrowed := true }
def SectionChangedUptoSaid : Prop := sectionChangedUptoRow.holds Try.pinned (OpenSpec.upto sectionChangedSpec)

/-- 'wreckagelaw25.SectionOne', WHERE WHAT IT READS IS OF BULK AT MOST 1048576: true; the input reads as it did. -/
def sectionOneUptoRow : OpenClaim := { program := "yteaaiacgebikpaa", sum := "a0d6d9212c2b3bd7267aa0b19e3032f2c7ebf40fa3a2a34247e4a5bc390c13b9", func := "wreckage/wreckagelaw25.SectionOne", spec := "sectionOne", apart := false, narrowed := true }
def SectionOneUptoSaid : Prop := sectionOneUptoRow.holds Try.pinned (OpenSpec.upto sectionOneSpec)

/-- 'wreckagelaw25.SectionNames', WHERE WHAT IT READS IS OF BULK AT MOST 1048576: true; the input reads as it did. -/
def sectionNamesUptoRow : OpenClaim := { program := "yteaaiacgebikpaa", sum := "a0d6d9212c2b3bd7267aa0b19e3032f2c7ebf40fa3a2a34247e4a5bc390c13b9", func := "wreckage/wreckagelaw25.SectionNames", spec := "sectionNames", apart := false, narrowed := true }
def SectionNamesUptoSaid : Prop := sectionNamesUptoRow.holds Try.pinned (OpenSpec.upto sectionNamesSpec)

end Rows
end Go.Proofs.Yteaaiacgebikpaa
