/-
  No cell of these rows narrows 'for every input' (looked for: loops, veiled, ifaces, maps, wideKeys, modest, calm, conditions, laid).
  DERIVED. THE GIVEN ROWS OF THIS SEAT. 6 by the template 'for every input the law returns true; each argument reads behind the call as it read before'; 0 by the template 'total and deterministic' (their statements: YtkhdeoihjnpnaaaTotals.lean).
  GIVEN WITH THE SEED: the statements are not yours to turn. If you find one false, say at which input.
  Laid BY PROGRAM, IN A SANDBOX (cutbox-rows.mjs): the forced cells as the released guide's own fill.sh prints them over the translation 1c304840f224d648… (all of the seat's roots in one cut). By AI agents, Wed Nov 11 2026. No macro, syntax, notation, axiom, sorry.
-/
import Derived.Test.YtkhdeoihjnpnaaaChecked
import GoSem.Claim
import GoSem.ClaimJoined
import GoSem.ClaimMapViews
import Derived.JoinedTies
import Derived.KernelRfl
namespace Go.Proofs.Ytkhdeoihjnpnaaa
/- THE CELL 'sum', in the pinned program and in every row, IS THE sha256 OF THE DUMP (.gsa) THAT YtkhdeoihjnpnaaaProg.lean LOADS. Nothing in Lean hashes anything: it is a label: what it is worth is what the hold of that sum in a sandbox is worth. -/
noncomputable def Try.pinned : Pinned := { name := "ytkhdeoihjnpnaaa", sum := "1c304840f224d648dd4f7d19ef17733c91039b75d123d3b7e0057ab06d09e7db", checked := Try.checked }
namespace Rows
def none {H : Type} : Left H := { results := [], args := [] }

/-- 'wreckagelaw06.OpsSlots': WHATEVER THE INPUT: true; the input reads as it did. -/
def opsSlotsSpec : ChangeSpec := { name := "opsSlots", fn := fun _ => fun
  | [d1, d2] => { results := [.lit (.bool true)], args := [d1, d2] }
  | _ => none }
def opsSlotsRow : OpenClaim := { program := "ytkhdeoihjnpnaaa", sum := "1c304840f224d648dd4f7d19ef17733c91039b75d123d3b7e0057ab06d09e7db", func := "wreckage/wreckagelaw06.OpsSlots", spec := "opsSlots", unfollowed := true, recurses := true, apart := false }
def OpsSlotsSaid : Prop := opsSlotsRow.holds Try.pinned (OpenSpec.ofChange opsSlotsSpec)

/-- ITS FALSE NEIGHBOUR: 'it returns false'. Refute it at one input. -/
def opsSlotsWrong : ChangeSpec := { name := "opsSlots", fn := fun _ => fun
  | [d1, d2] => { results := [.lit (.bool false)], args := [d1, d2] }
  | _ => none }
def OpsSlotsWrongFalsely : Prop := opsSlotsRow.holds Try.pinned (OpenSpec.ofChange opsSlotsWrong)

/-- 'wreckagelaw06.OpsNamed': WHATEVER THE INPUT: true; the input reads as it did. -/
def opsNamedSpec : ChangeSpec := { name := "opsNamed", fn := fun _ => fun
  | [d1, d2, d3] => { results := [.lit (.bool true)], args := [d1, d2, d3] }
  | _ => none }
def opsNamedRow : OpenClaim := { program := "ytkhdeoihjnpnaaa", sum := "1c304840f224d648dd4f7d19ef17733c91039b75d123d3b7e0057ab06d09e7db", func := "wreckage/wreckagelaw06.OpsNamed", spec := "opsNamed", unfollowed := true, recurses := true, apart := false }
def OpsNamedSaid : Prop := opsNamedRow.holds Try.pinned (OpenSpec.ofChange opsNamedSpec)

/-- ITS FALSE NEIGHBOUR: 'it returns false'. Refute it at one input. -/
def opsNamedWrong : ChangeSpec := { name := "opsNamed", fn := fun _ => fun
  | [d1, d2, d3] => { results := [.lit (.bool false)], args := [d1, d2, d3] }
  | _ => none }
def OpsNamedWrongFalsely : Prop := opsNamedRow.holds Try.pinned (OpenSpec.ofChange opsNamedWrong)

/-- 'wreckagelaw06.OpsReads': WHATEVER THE INPUT: true; the input reads as it did. -/
def opsReadsSpec : ChangeSpec := { name := "opsReads", fn := fun _ => fun
  | [d] => { results := [.lit (.bool true)], args := [d] }
  | _ => none }
def opsReadsRow : OpenClaim := { program := "ytkhdeoihjnpnaaa", sum := "1c304840f224d648dd4f7d19ef17733c91039b75d123d3b7e0057ab06d09e7db", func := "wreckage/wreckagelaw06.OpsReads", spec := "opsReads", unfollowed := true, recurses := true, apart := false }
def OpsReadsSaid : Prop := opsReadsRow.holds Try.pinned (OpenSpec.ofChange opsReadsSpec)

/-- ITS FALSE NEIGHBOUR: 'it returns false'. Refute it at one input. -/
def opsReadsWrong : ChangeSpec := { name := "opsReads", fn := fun _ => fun
  | [d] => { results := [.lit (.bool false)], args := [d] }
  | _ => none }
def OpsReadsWrongFalsely : Prop := opsReadsRow.holds Try.pinned (OpenSpec.ofChange opsReadsWrong)

/-- 'wreckagelaw06.OpsOne': WHATEVER THE INPUT: true; the input reads as it did. -/
def opsOneSpec : ChangeSpec := { name := "opsOne", fn := fun _ => fun
  | [d1, d2] => { results := [.lit (.bool true)], args := [d1, d2] }
  | _ => none }
def opsOneRow : OpenClaim := { program := "ytkhdeoihjnpnaaa", sum := "1c304840f224d648dd4f7d19ef17733c91039b75d123d3b7e0057ab06d09e7db", func := "wreckage/wreckagelaw06.OpsOne", spec := "opsOne", unfollowed := true, recurses := true, apart := false }
def OpsOneSaid : Prop := opsOneRow.holds Try.pinned (OpenSpec.ofChange opsOneSpec)

/-- ITS FALSE NEIGHBOUR: 'it returns false'. Refute it at one input. -/
def opsOneWrong : ChangeSpec := { name := "opsOne", fn := fun _ => fun
  | [d1, d2] => { results := [.lit (.bool false)], args := [d1, d2] }
  | _ => none }
def OpsOneWrongFalsely : Prop := opsOneRow.holds Try.pinned (OpenSpec.ofChange opsOneWrong)

/-- 'wreckagelaw06.OpsFirst': WHATEVER THE INPUT: true; the input reads as it did. -/
def opsFirstSpec : ChangeSpec := { name := "opsFirst", fn := fun _ => fun
  | [d1, d2, d3] => { results := [.lit (.bool true)], args := [d1, d2, d3] }
  | _ => none }
def opsFirstRow : OpenClaim := { program := "ytkhdeoihjnpnaaa", sum := "1c304840f224d648dd4f7d19ef17733c91039b75d123d3b7e0057ab06d09e7db", func := "wreckage/wreckagelaw06.OpsFirst", spec := "opsFirst", unfollowed := true, recurses := true, apart := false }
def OpsFirstSaid : Prop := opsFirstRow.holds Try.pinned (OpenSpec.ofChange opsFirstSpec)

/-- ITS FALSE NEIGHBOUR: 'it returns false'. Refute it at one input. -/
def opsFirstWrong : ChangeSpec := { name := "opsFirst", fn := fun _ => fun
  | [d1, d2, d3] => { results := [.lit (.bool false)], args := [d1, d2, d3] }
  | _ => none }
def OpsFirstWrongFalsely : Prop := opsFirstRow.holds Try.pinned (OpenSpec.ofChange opsFirstWrong)

/-- 'wreckagelaw06.OpsNames': WHATEVER THE INPUT: true; the input reads as it did. -/
def opsNamesSpec : ChangeSpec := { name := "opsNames", fn := fun _ => fun
  | [] => { results := [.lit (.bool true)], args := [] }
  | _ => none }
def opsNamesRow : OpenClaim := { program := "ytkhdeoihjnpnaaa", sum := "1c304840f224d648dd4f7d19ef17733c91039b75d123d3b7e0057ab06d09e7db", func := "wreckage/wreckagelaw06.OpsNames", spec := "opsNames", unfollowed := true, recurses := true, apart := false }
def OpsNamesSaid : Prop := opsNamesRow.holds Try.pinned (OpenSpec.ofChange opsNamesSpec)

/-- ITS FALSE NEIGHBOUR: 'it returns false'. Refute it at one input. -/
def opsNamesWrong : ChangeSpec := { name := "opsNames", fn := fun _ => fun
  | [] => { results := [.lit (.bool false)], args := [] }
  | _ => none }
def OpsNamesWrongFalsely : Prop := opsNamesRow.holds Try.pinned (OpenSpec.ofChange opsNamesWrong)

/- THE SECOND FORM. 'bulk': how many values and letters a reading holds, each counted each time it is reached (what is shared counts as often as it is met; a slice's spare places count too). A statement '..UptoSaid' is the law's where the arguments, and the package variables that the reading takes, are together of bulk at most 1048576: NARROWER than '..Said'. Prove '..Said' where nothing that the law and all that it calls make is longer than what came in: it says more and counts as full. Else prove '..UptoSaid'. A law counts once. -/
mutual
def uptoBulk {H : Type} : DataW H → Nat
  | .lit (.string bytes) => bytes.length + 1
  | .lit _ => 1
  | .nil => 1
  | .ptr d => uptoBulk d + 1
  | .slice elems spare => uptoBulkAll elems + uptoBulkAll spare + 1
  | .agg parts => uptoBulkAll parts + 1
  | .iface _ d => uptoBulk d + 1
  | .map entries => uptoBulkEntries entries + 1
  | .held _ => 1
def uptoBulkAll {H : Type} : List (DataW H) → Nat
  | [] => 0
  | d :: r => uptoBulk d + uptoBulkAll r
def uptoBulkEntries {H : Type} : List (Lit × DataW H) → Nat
  | [] => 0
  | x :: r => uptoBulkEntry x + uptoBulkEntries r
def uptoBulkEntry {H : Type} : Lit × DataW H → Nat
  | (.string bytes, d) => bytes.length + uptoBulk d + 1
  | (_, d) => uptoBulk d + 1
 end
def uptoSmall : (H : Type) → List (DataW H) → Bool := fun _ ds => decide (uptoBulkAll ds ≤ 1048576)
def OpenSpec.upto (s : _root_.Go.ChangeSpec) : _root_.Go.OpenSpec := { _root_.Go.OpenSpec.ofChange s with cond := some uptoSmall }

/-- 'wreckagelaw06.OpsSlots', WHERE WHAT IT READS IS OF BULK AT MOST 1048576: true; the input reads as it did. -/
def opsSlotsUptoRow : OpenClaim := { program := "ytkhdeoihjnpnaaa", sum := "1c304840f224d648dd4f7d19ef17733c91039b75d123d3b7e0057ab06d09e7db", func := "wreckage/wreckagelaw06.OpsSlots", spec := "opsSlots", unfollowed := true, recurses := true, apart := false, narrowed := true }
def OpsSlotsUptoSaid : Prop := opsSlotsUptoRow.holds Try.pinned (OpenSpec.upto opsSlotsSpec)

/-- 'wreckagelaw06.OpsNamed', WHERE WHAT IT READS IS OF BULK AT MOST 1048576: true; the input reads as it did. -/
def opsNamedUptoRow : OpenClaim := { program := "ytkhdeoihjnpnaaa", sum := "1c304840f224d648dd4f7d19ef17733c91039b75d123d3b7e0057ab06d09e7db", func := "wreckage/wreckagelaw06.OpsNamed", spec := "opsNamed", unfollowed := true, recurses := true, apart := false, narrowed := true }
def OpsNamedUptoSaid : Prop := opsNamedUptoRow.holds Try.pinned (OpenSpec.upto opsNamedSpec)

/-- 'wreckagelaw06.OpsReads', WHERE WHAT IT READS IS OF BULK AT MOST 1048576: true; the input reads as it did. -/
def opsReadsUptoRow : OpenClaim := { program := "ytkhdeoihjnpnaaa", sum := "1c304840f224d648dd4f7d19ef17733c91039b75d123d3b7e0057ab06d09e7db", func := "wreckage/wreckagelaw06.OpsReads", spec := "opsReads", unfollowed := true, recurses := true, apart := false, narrowed := true }
def OpsReadsUptoSaid : Prop := opsReadsUptoRow.holds Try.pinned (OpenSpec.upto opsReadsSpec)

/-- 'wreckagelaw06.OpsOne', WHERE WHAT IT READS IS OF BULK AT MOST 1048576: true; the input reads as it did. -/
def opsOneUptoRow : OpenClaim := { program := "ytkhdeoihjnpnaaa", sum := "1c304840f224d648dd4f7d19ef17733c91039b75d123d3b7e0057ab06d09e7db", func := "wreckage/wreckagelaw06.OpsOne", spec := "opsOne", unfollowed := true, recurses := true, apart := false, narrowed := true }
def OpsOneUptoSaid : Prop := opsOneUptoRow.holds Try.pinned (OpenSpec.upto opsOneSpec)

/-- 'wreckagelaw06.OpsFirst', WHERE WHAT IT READS IS OF BULK AT MOST 1048576: true; the input reads as it did. -/
def opsFirstUptoRow : OpenClaim := { program := "ytkhdeoihjnpnaaa", sum := "1c304840f224d648dd4f7d19ef17733c91039b75d123d3b7e0057ab06d09e7db", func := "wreckage/wreckagelaw06.OpsFirst", spec := "opsFirst", unfollowed := true, recurses := true, apart := false, narrowed := true }
def OpsFirstUptoSaid : Prop := opsFirstUptoRow.holds Try.pinned (OpenSpec.upto opsFirstSpec)

/-- 'wreckagelaw06.OpsNames', WHERE WHAT IT READS IS OF BULK AT MOST 1048576: true; the input reads as it did. -/
def opsNamesUptoRow : OpenClaim := { program := "ytkhdeoihjnpnaaa", sum := "1c304840f224d648dd4f7d19ef17733c91039b75d123d3b7e0057ab06d09e7db", func := "wreckage/wreckagelaw06.OpsNames", spec := "opsNames", unfollowed := true, recurses := true, apart := false, narrowed := true }
def OpsNamesUptoSaid : Prop := opsNamesUptoRow.holds Try.pinned (OpenSpec.upto opsNamesSpec)

end Rows
end Go.Proofs.Ytkhdeoihjnpnaaa
