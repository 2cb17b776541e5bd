/- Contracts and laws of another chapter that this one leans on. Each states its conditions. -/
import Derived.Test.YtkhdeoihjnpnaaaChecked
import Derived.Test.YtkhdeoihjnpnaaaMem
import Derived.Test.YtkhdeoihjnpnaaaSlice
import Derived.Test.YtkhdeoihjnpnaaaArr
import Derived.Test.YtkhdeoihjnpnaaaRegion
import Derived.Test.YtkhdeoihjnpnaaaRet
import Derived.Test.YtkhdeoihjnpnaaaRbb
import Derived.BigQuiet
import Derived.Test.YtkhdeoihjnpnaaaWireText
namespace Go.Proofs.Ytkhdeoihjnpnaaa
open Go.RowKit Wire
set_option linter.unusedVariables false

/-- A cursor. -/
abbrev cur (A : Option Addr) (n c : Nat) (a : Int) : Value := .agg #[.slice A n c, .int .i64 a]
theorem cur_sized (u v : Value) : (Try.prog.info? 39).map (·.size) = some (#[u, v] : Array Value).size := by
  show _ = some 2
  kernel_rfl
set_option maxHeartbeats 800000 in
theorem same_any (A B : Option Addr) (n c m d : Nat) (l : List UInt8) (a : Int) (w : World) (hr : Rb w A n l) (hs : Rb w B m l) :
    Calls Try.prog 17 #[cur A n c a, cur B m d a] w fun e w' => e = .returned (.bool true) ∧ Below w.heap.size w w' := by
  have HR := fun wq (hb : Below w.heap.size w wq) => conv_to_str (P := Try.prog) 37 9 5 Try.underlying37 Try.underlying5 Try.underlying9 c (hr.below hb)
  have HS := fun wq (hb : Below w.heap.size w wq) => conv_to_str (P := Try.prog) 37 9 5 Try.underlying37 Try.underlying5 Try.underlying9 d (hs.below hb)
  have hB := ((Below.refl w.heap.size w).alloc (Nat.le_refl _) (.cells #[.slice A n c, .int .i64 a] 39)).alloc (by simp) (.cells #[.slice B m d, .int .i64 a] 39)
  have HR2 := HR _ hB
  have HS2 := HS _ hB
  clear hr hs HR HS
  go_enter Try.func17, Try.ntmps17
  go_wp2_with fail
  go_ret
  exact ⟨rfl, hB⟩
/-- The conversion of bytes to a string, in a world. -/
abbrev CvS (A : Option Addr) (n c : Nat) (l : List UInt8) (w : World) : Prop := (convert 37 9 (.slice A n c)).run Try.prog w = .ok (.string ⟨l.toArray⟩) w
theorem cvS {A : Option Addr} {n : Nat} {l : List UInt8} {w : World} {B : Nat} (c : Nat) (h : RdB w B A n l) : CvS A n c l w := conv_to_str _ _ _ Try.underlying37 Try.underlying5 Try.underlying9 c h
end Go.Proofs.Ytkhdeoihjnpnaaa
