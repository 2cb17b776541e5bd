/- The contract of shape. -/
import Derived.Test.YtkhdeoihjnpnaaaOps2a
import Derived.Test.YtkhdeoihjnpnaaaOps2b
import Derived.Test.YtkhdeoihjnpnaaaOps2c
import Derived.Test.YtkhdeoihjnpnaaaOps2d
namespace Go.Proofs.Ytkhdeoihjnpnaaa
open Go.RowKit Wire
set_option linter.unusedVariables false

theorem shape_any (op : Nat) (hop : op < 256) (w : World) :
    Calls Try.prog 21 #[.int .u8 (op : Int)] w fun e w' => e = .returned (.tuple #[.agg (usL (shp op).1).toArray, .int .i64 (shp op).2]) ∧ Below w.heap.size w w' := by
  rcases Nat.lt_or_ge op 35 with h | h
  · match op, h with
    | 0, _ => exact shape_0 w
    | 1, _ => exact shape_1 w
    | 2, _ => exact shape_2 w
    | 3, _ => exact shape_3 w
    | 4, _ => exact shape_4 w
    | 5, _ => exact shape_5 w
    | 6, _ => exact shape_6 w
    | 7, _ => exact shape_7 w
    | 8, _ => exact shape_8 w
    | 9, _ => exact shape_9 w
    | 10, _ => exact shape_10 w
    | 11, _ => exact shape_11 w
    | 12, _ => exact shape_12 w
    | 13, _ => exact shape_13 w
    | 14, _ => exact shape_14 w
    | 15, _ => exact shape_15 w
    | 16, _ => exact shape_16 w
    | 17, _ => exact shape_17 w
    | 18, _ => exact shape_18 w
    | 19, _ => exact shape_19 w
    | 20, _ => exact shape_20 w
    | 21, _ => exact shape_21 w
    | 22, _ => exact shape_22 w
    | 23, _ => exact shape_23 w
    | 24, _ => exact shape_24 w
    | 25, _ => exact shape_25 w
    | 26, _ => exact shape_26 w
    | 27, _ => exact shape_27 w
    | 28, _ => exact shape_28 w
    | 29, _ => exact shape_29 w
    | 30, _ => exact shape_30 w
    | 31, _ => exact shape_31 w
    | 32, _ => exact shape_32 w
    | 33, _ => exact shape_33 w
    | 34, _ => exact shape_34 w
    | n + 35, hh => exact absurd hh (by omega)
  · have e : shp op = ([uNo, uNo, uNo], -1) := by
      unfold shp
      rw [List.getD_eq_getElem?_getD, List.getElem?_eq_none (by exact h)]; rfl
    rw [e]
    exact shape_d op ⟨h, hop⟩ w

end Go.Proofs.Ytkhdeoihjnpnaaa
