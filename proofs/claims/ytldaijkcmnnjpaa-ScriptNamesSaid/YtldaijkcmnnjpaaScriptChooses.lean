/- Contracts and laws of a chapter that its statement of names leans on. Each states its conditions. -/
import Derived.Test.YtldaijkcmnnjpaaScr5
namespace Go.Proofs.Ytldaijkcmnnjpaa
open Go.RowKit Wire
set_option linter.unusedVariables false
set_option maxRecDepth 100000 in
set_option maxHeartbeats 3200000 in
theorem alive11_any (w : World) :
    Calls Try.prog 23 #[] w fun e w' => e = .returned (.bool true) ∧ Below w.heap.size w w' := by
  have hB1 : Below w.heap.size w (w.alloc (.cells #[.int .i64 0, .int .i64 300] 3)) := Ext.al w _
  have RI : RdI (w.alloc (.cells #[.int .i64 0, .int .i64 300] 3)) (w.alloc (.cells #[.int .i64 0, .int .i64 300] 3)).heap.size (some ⟨w.heap.size, 0, none⟩) 2 [0, 300] := reads_ints w [0, 300] 3
  go_enter Try.func23, Try.ntmps23
  go_wp2_with fail
  refine (encode11_any _ 2 2 [0, 300] 9 128 0 1 _ RI (by omega)).mono ?_
  rintro e w2 ⟨A1, c1, rfl, o1, b⟩
  rw [show enL 9 128 0 1 [0, 300] = [9, 128, 1, 0, 1, 2, 0, 172, 2] from by decide] at *
  rw [show scE 9 128 0 1 [0, 300] = 0 from by decide]
  have R1 : Rb w2 A1 9 [9, 128, 1, 0, 1, 2, 0, 172, 2] := own_rd o1
  have K1 := cvS c1 R1
  have hB2 := hB1.trans (b.mono hB1.size)
  have hB3 := hB2.alloc hB2.size (.cells #[.int .u8 9, .int .u8 128, .int .u8 1, .int .u8 0, .int .u8 1, .int .u8 2, .int .u8 0, .int .u8 172, .int .u8 2] 5)
  have R2 : Rb (w2.alloc (.cells #[.int .u8 9, .int .u8 128, .int .u8 1, .int .u8 0, .int .u8 1, .int .u8 2, .int .u8 0, .int .u8 172, .int .u8 2] 5)) (some ⟨w2.heap.size, 0, none⟩) 9 [9, 128, 1, 0, 1, 2, 0, 172, 2] := reads_bytes w2 [9, 128, 1, 0, 1, 2, 0, 172, 2] 5
  have K2 := cvS 9 R2
  clear o1 b R1 R2 RI
  go_wp2_with (go_at_call 21; refine (pick_any _ _ _).mono ?_; rintro e wq ⟨rfl, rfl⟩; rw [show pkN 7 3 = 1 from by decide, show pkE 7 3 = 0 from by decide])
  go_ret
  exact ⟨rfl, hB3⟩

end Go.Proofs.Ytldaijkcmnnjpaa
