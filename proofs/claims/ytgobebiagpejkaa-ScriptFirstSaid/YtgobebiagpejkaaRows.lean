/-
  No cell of these rows narrows 'for every input' (looked for: loops, veiled, ifaces, maps, wideKeys, modest, calm, conditions, laid).
  DERIVED. THE GIVEN ROWS OF THIS SEAT. 7 by the template 'for every input the law returns true; each argument reads behind the call as it read before'; 0 by the template 'total and deterministic' (their statements: YtgobebiagpejkaaTotals.lean).
  GIVEN WITH THE SEED: the statements are not yours to turn. If you find one false, say at which input.
  Laid BY PROGRAM, IN A SANDBOX (cutbox-rows.mjs): the forced cells as the released guide's own fill.sh prints them over the translation 66155b215bd58032… (all of the seat's roots in one cut). By AI agents, Wed Nov 11 2026. No macro, syntax, notation, axiom, sorry.
-/
import Derived.Test.YtgobebiagpejkaaChecked
import GoSem.Claim
import GoSem.ClaimJoined
import GoSem.ClaimMapViews
import Derived.JoinedTies
import Derived.KernelRfl
namespace Go.Proofs.Ytgobebiagpejkaa
/- THE CELL 'sum', in the pinned program and in every row, IS THE sha256 OF THE DUMP (.gsa) THAT YtgobebiagpejkaaProg.lean LOADS. Nothing in Lean hashes anything: it is a label: what it is worth is what the hold of that sum in a sandbox is worth. -/
noncomputable def Try.pinned : Pinned := { name := "ytgobebiagpejkaa", sum := "66155b215bd5803230b40672500e6bf33a91eba2981b8312c4f61af353772e41", checked := Try.checked }
namespace Rows
def none {H : Type} : Left H := { results := [], args := [] }

/-- 'wreckagelaw11.ScriptChooses': WHATEVER THE INPUT: true; the input reads as it did. -/
def scriptChoosesSpec : ChangeSpec := { name := "scriptChooses", fn := fun _ => fun
  | [d1, d2, d3] => { results := [.lit (.bool true)], args := [d1, d2, d3] }
  | _ => none }
def scriptChoosesRow : OpenClaim := { program := "ytgobebiagpejkaa", sum := "66155b215bd5803230b40672500e6bf33a91eba2981b8312c4f61af353772e41", func := "wreckage/wreckagelaw11.ScriptChooses", spec := "scriptChooses", unfollowed := true, recurses := true, apart := false }
def ScriptChoosesSaid : Prop := scriptChoosesRow.holds Try.pinned (OpenSpec.ofChange scriptChoosesSpec)

/-- ITS FALSE NEIGHBOUR: 'it returns false'. Refute it at one input. -/
def scriptChoosesWrong : ChangeSpec := { name := "scriptChooses", fn := fun _ => fun
  | [d1, d2, d3] => { results := [.lit (.bool false)], args := [d1, d2, d3] }
  | _ => none }
def ScriptChoosesWrongFalsely : Prop := scriptChoosesRow.holds Try.pinned (OpenSpec.ofChange scriptChoosesWrong)

/-- 'wreckagelaw11.ScriptTells': WHATEVER THE INPUT: true; the input reads as it did. -/
def scriptTellsSpec : ChangeSpec := { name := "scriptTells", fn := fun _ => fun
  | [d1, d2, d3, d4] => { results := [.lit (.bool true)], args := [d1, d2, d3, d4] }
  | _ => none }
def scriptTellsRow : OpenClaim := { program := "ytgobebiagpejkaa", sum := "66155b215bd5803230b40672500e6bf33a91eba2981b8312c4f61af353772e41", func := "wreckage/wreckagelaw11.ScriptTells", spec := "scriptTells", unfollowed := true, recurses := true, apart := false }
def ScriptTellsSaid : Prop := scriptTellsRow.holds Try.pinned (OpenSpec.ofChange scriptTellsSpec)

/-- ITS FALSE NEIGHBOUR: 'it returns false'. Refute it at one input. -/
def scriptTellsWrong : ChangeSpec := { name := "scriptTells", fn := fun _ => fun
  | [d1, d2, d3, d4] => { results := [.lit (.bool false)], args := [d1, d2, d3, d4] }
  | _ => none }
def ScriptTellsWrongFalsely : Prop := scriptTellsRow.holds Try.pinned (OpenSpec.ofChange scriptTellsWrong)

/-- 'wreckagelaw11.ScriptCuts': WHATEVER THE INPUT: true; the input reads as it did. -/
def scriptCutsSpec : ChangeSpec := { name := "scriptCuts", fn := fun _ => fun
  | [d1, d2, d3] => { results := [.lit (.bool true)], args := [d1, d2, d3] }
  | _ => none }
def scriptCutsRow : OpenClaim := { program := "ytgobebiagpejkaa", sum := "66155b215bd5803230b40672500e6bf33a91eba2981b8312c4f61af353772e41", func := "wreckage/wreckagelaw11.ScriptCuts", spec := "scriptCuts", unfollowed := true, recurses := true, apart := false }
def ScriptCutsSaid : Prop := scriptCutsRow.holds Try.pinned (OpenSpec.ofChange scriptCutsSpec)

/-- ITS FALSE NEIGHBOUR: 'it returns false'. Refute it at one input. -/
def scriptCutsWrong : ChangeSpec := { name := "scriptCuts", fn := fun _ => fun
  | [d1, d2, d3] => { results := [.lit (.bool false)], args := [d1, d2, d3] }
  | _ => none }
def ScriptCutsWrongFalsely : Prop := scriptCutsRow.holds Try.pinned (OpenSpec.ofChange scriptCutsWrong)

/-- 'wreckagelaw11.ScriptReads': WHATEVER THE INPUT: true; the input reads as it did. -/
def scriptReadsSpec : ChangeSpec := { name := "scriptReads", fn := fun _ => fun
  | [d] => { results := [.lit (.bool true)], args := [d] }
  | _ => none }
def scriptReadsRow : OpenClaim := { program := "ytgobebiagpejkaa", sum := "66155b215bd5803230b40672500e6bf33a91eba2981b8312c4f61af353772e41", func := "wreckage/wreckagelaw11.ScriptReads", spec := "scriptReads", unfollowed := true, recurses := true, apart := false }
def ScriptReadsSaid : Prop := scriptReadsRow.holds Try.pinned (OpenSpec.ofChange scriptReadsSpec)

/-- ITS FALSE NEIGHBOUR: 'it returns false'. Refute it at one input. -/
def scriptReadsWrong : ChangeSpec := { name := "scriptReads", fn := fun _ => fun
  | [d] => { results := [.lit (.bool false)], args := [d] }
  | _ => none }
def ScriptReadsWrongFalsely : Prop := scriptReadsRow.holds Try.pinned (OpenSpec.ofChange scriptReadsWrong)

/-- 'wreckagelaw11.ScriptOne': WHATEVER THE INPUT: true; the input reads as it did. -/
def scriptOneSpec : ChangeSpec := { name := "scriptOne", fn := fun _ => fun
  | [d1, d2] => { results := [.lit (.bool true)], args := [d1, d2] }
  | _ => none }
def scriptOneRow : OpenClaim := { program := "ytgobebiagpejkaa", sum := "66155b215bd5803230b40672500e6bf33a91eba2981b8312c4f61af353772e41", func := "wreckage/wreckagelaw11.ScriptOne", spec := "scriptOne", unfollowed := true, recurses := true, apart := false }
def ScriptOneSaid : Prop := scriptOneRow.holds Try.pinned (OpenSpec.ofChange scriptOneSpec)

/-- ITS FALSE NEIGHBOUR: 'it returns false'. Refute it at one input. -/
def scriptOneWrong : ChangeSpec := { name := "scriptOne", fn := fun _ => fun
  | [d1, d2] => { results := [.lit (.bool false)], args := [d1, d2] }
  | _ => none }
def ScriptOneWrongFalsely : Prop := scriptOneRow.holds Try.pinned (OpenSpec.ofChange scriptOneWrong)

/-- 'wreckagelaw11.ScriptFirst': WHATEVER THE INPUT: true; the input reads as it did. -/
def scriptFirstSpec : ChangeSpec := { name := "scriptFirst", fn := fun _ => fun
  | [d1, d2, d3, d4] => { results := [.lit (.bool true)], args := [d1, d2, d3, d4] }
  | _ => none }
def scriptFirstRow : OpenClaim := { program := "ytgobebiagpejkaa", sum := "66155b215bd5803230b40672500e6bf33a91eba2981b8312c4f61af353772e41", func := "wreckage/wreckagelaw11.ScriptFirst", spec := "scriptFirst", unfollowed := true, recurses := true, apart := false }
def ScriptFirstSaid : Prop := scriptFirstRow.holds Try.pinned (OpenSpec.ofChange scriptFirstSpec)

/-- ITS FALSE NEIGHBOUR: 'it returns false'. Refute it at one input. -/
def scriptFirstWrong : ChangeSpec := { name := "scriptFirst", fn := fun _ => fun
  | [d1, d2, d3, d4] => { results := [.lit (.bool false)], args := [d1, d2, d3, d4] }
  | _ => none }
def ScriptFirstWrongFalsely : Prop := scriptFirstRow.holds Try.pinned (OpenSpec.ofChange scriptFirstWrong)

/-- 'wreckagelaw11.ScriptNames': WHATEVER THE INPUT: true; the input reads as it did. -/
def scriptNamesSpec : ChangeSpec := { name := "scriptNames", fn := fun _ => fun
  | [] => { results := [.lit (.bool true)], args := [] }
  | _ => none }
def scriptNamesRow : OpenClaim := { program := "ytgobebiagpejkaa", sum := "66155b215bd5803230b40672500e6bf33a91eba2981b8312c4f61af353772e41", func := "wreckage/wreckagelaw11.ScriptNames", spec := "scriptNames", unfollowed := true, recurses := true, apart := false }
def ScriptNamesSaid : Prop := scriptNamesRow.holds Try.pinned (OpenSpec.ofChange scriptNamesSpec)

/-- ITS FALSE NEIGHBOUR: 'it returns false'. Refute it at one input. -/
def scriptNamesWrong : ChangeSpec := { name := "scriptNames", fn := fun _ => fun
  | [] => { results := [.lit (.bool false)], args := [] }
  | _ => none }
def ScriptNamesWrongFalsely : Prop := scriptNamesRow.holds Try.pinned (OpenSpec.ofChange scriptNamesWrong)

/- THE SECOND FORM. 'bulk': how many values and letters a reading holds, each counted each time it is reached (what is shared counts as often as it is met; a slice's spare places count too). A statement '..UptoSaid' is the law's where the arguments, and the package variables that the reading takes, are together of bulk at most 1048576: NARROWER than '..Said'. Prove '..Said' where nothing that the law and all that it calls make is longer than what came in: it says more and counts as full. Else prove '..UptoSaid'. A law counts once. -/
mutual
def uptoBulk {H : Type} : DataW H → Nat
  | .lit (.string bytes) => bytes.length + 1
  | .lit _ => 1
  | .nil => 1
  | .ptr d => uptoBulk d + 1
  | .slice elems spare => uptoBulkAll elems + uptoBulkAll spare + 1
  | .agg parts => uptoBulkAll parts + 1
  | .iface _ d => uptoBulk d + 1
  | .map entries => uptoBulkEntries entries + 1
  | .held _ => 1
def uptoBulkAll {H : Type} : List (DataW H) → Nat
  | [] => 0
  | d :: r => uptoBulk d + uptoBulkAll r
def uptoBulkEntries {H : Type} : List (Lit × DataW H) → Nat
  | [] => 0
  | x :: r => uptoBulkEntry x + uptoBulkEntries r
def uptoBulkEntry {H : Type} : Lit × DataW H → Nat
  | (.string bytes, d) => bytes.length + uptoBulk d + 1
  | (_, d) => uptoBulk d + 1
 end
def uptoSmall : (H : Type) → List (DataW H) → Bool := fun _ ds => decide (uptoBulkAll ds ≤ 1048576)
def OpenSpec.upto (s : _root_.Go.ChangeSpec) : _root_.Go.OpenSpec := { _root_.Go.OpenSpec.ofChange s with cond := some uptoSmall }

/-- 'wreckagelaw11.ScriptChooses', WHERE WHAT IT READS IS OF BULK AT MOST 1048576: true; the input reads as it did. -/
def scriptChoosesUptoRow : OpenClaim := { program := "ytgobebiagpejkaa", sum := "66155b215bd5803230b40672500e6bf33a91eba2981b8312c4f61af353772e41", func := "wreckage/wreckagelaw11.ScriptChooses", spec := "scriptChooses", unfollowed := true, recurses := true, apart := false, narrowed := true }
def ScriptChoosesUptoSaid : Prop := scriptChoosesUptoRow.holds Try.pinned (OpenSpec.upto scriptChoosesSpec)

/-- 'wreckagelaw11.ScriptTells', WHERE WHAT IT READS IS OF BULK AT MOST 1048576: true; the input reads as it did. -/
def scriptTellsUptoRow : OpenClaim := { program := "ytgobebiagpejkaa", sum := "66155b215bd5803230b40672500e6bf33a91eba2981b8312c4f61af353772e41", func := "wreckage/wreckagelaw11.ScriptTells", spec := "scriptTells", unfollowed := true, recurses := true, apart := false, narrowed := true }
def ScriptTellsUptoSaid : Prop := scriptTellsUptoRow.holds Try.pinned (OpenSpec.upto scriptTellsSpec)

/-- 'wreckagelaw11.ScriptCuts', WHERE WHAT IT READS IS OF BULK AT MOST 1048576: true; the input reads as it did. -/
def scriptCutsUptoRow : OpenClaim := { program := "ytgobebiagpejkaa", sum := "66155b215bd5803230b40672500e6bf33a91eba2981b8312c4f61af353772e41", func := "wreckage/wreckagelaw11.ScriptCuts", spec := "scriptCuts", unfollowed := true, recurses := true, apart := false, narrowed := true }
def ScriptCutsUptoSaid : Prop := scriptCutsUptoRow.holds Try.pinned (OpenSpec.upto scriptCutsSpec)

/-- 'wreckagelaw11.ScriptReads', WHERE WHAT IT READS IS OF BULK AT MOST 1048576: true; the input reads as it did. -/
def scriptReadsUptoRow : OpenClaim := { program := "ytgobebiagpejkaa", sum := "66155b215bd5803230b40672500e6bf33a91eba2981b8312c4f61af353772e41", func := "wreckage/wreckagelaw11.ScriptReads", spec := "scriptReads", unfollowed := true, recurses := true, apart := false, narrowed := true }
def ScriptReadsUptoSaid : Prop := scriptReadsUptoRow.holds Try.pinned (OpenSpec.upto scriptReadsSpec)

/-- 'wreckagelaw11.ScriptOne', WHERE WHAT IT READS IS OF BULK AT MOST 1048576: true; the input reads as it did. -/
def scriptOneUptoRow : OpenClaim := { program := "ytgobebiagpejkaa", sum := "66155b215bd5803230b40672500e6bf33a91eba2981b8312c4f61af353772e41", func := "wreckage/wreckagelaw11.ScriptOne", spec := "scriptOne", unfollowed := true, recurses := true, apart := false, narrowed := true }
def ScriptOneUptoSaid : Prop := scriptOneUptoRow.holds Try.pinned (OpenSpec.upto scriptOneSpec)

/-- 'wreckagelaw11.ScriptFirst', WHERE WHAT IT READS IS OF BULK AT MOST 1048576: true; the input reads as it did. -/
def scriptFirstUptoRow : OpenClaim := { program := "ytgobebiagpejkaa", sum := "66155b215bd5803230b40672500e6bf33a91eba2981b8312c4f61af353772e41", func := "wreckage/wreckagelaw11.ScriptFirst", spec := "scriptFirst", unfollowed := true, recurses := true, apart := false, narrowed := true }
def ScriptFirstUptoSaid : Prop := scriptFirstUptoRow.holds Try.pinned (OpenSpec.upto scriptFirstSpec)

/-- 'wreckagelaw11.ScriptNames', WHERE WHAT IT READS IS OF BULK AT MOST 1048576: true; the input reads as it did. -/
def scriptNamesUptoRow : OpenClaim := { program := "ytgobebiagpejkaa", sum := "66155b215bd5803230b40672500e6bf33a91eba2981b8312c4f61af353772e41", func := "wreckage/wreckagelaw11.ScriptNames", spec := "scriptNames", unfollowed := true, recurses := true, apart := false, narrowed := true }
def ScriptNamesUptoSaid : Prop := scriptNamesUptoRow.holds Try.pinned (OpenSpec.upto scriptNamesSpec)

end Rows
end Go.Proofs.Ytgobebiagpejkaa
