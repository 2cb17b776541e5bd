/- The walk of OpsNames. No conditions. -/
import Derived.Test.YtkhdeoihjnpnaaaOpsNm
import Derived.Test.YtkhdeoihjnpnaaaOps8
import Derived.BigQuiet
namespace Go.Proofs.Ytkhdeoihjnpnaaa
open Go.RowKit Wire
set_option linter.unusedVariables false

set_option maxRecDepth 100000 in
set_option maxHeartbeats 8000000 in
theorem opsNames_walk (w : World) :
    Calls Try.prog 8 #[] w fun e w' => e = .returned (.bool true) ∧ Below w.heap.size w w' := by
  go_enter Try.func8, Try.ntmps8
  have hB0 : Below w.heap.size w (w.alloc (.cells #[.int .u8 1, .int .i64 15, .int .i64 (-9223372036854775808), .int .i64 0, .int .u8 1, .int .i64 0, .int .i64 9223372036854775807, .int .i64 0, .int .u8 2, .int .i64 0, .int .i64 31, .int .i64 0, .int .u8 3, .int .i64 0, .int .i64 1, .int .i64 0, .int .u8 13, .int .i64 0, .int .i64 0, .int .i64 7, .int .u8 14, .int .i64 0, .int .i64 7, .int .i64 0, .int .u8 22, .int .i64 199, .int .i64 0, .int .i64 0, .int .u8 23, .int .i64 15, .int .i64 199, .int .i64 0, .int .u8 25, .int .i64 (-1), .int .i64 31, .int .i64 0, .int .u8 26, .int .i64 31, .int .i64 0, .int .i64 0, .int .u8 34, .int .i64 15, .int .i64 0, .int .i64 0] 23)) := (Below.refl w.heap.size w).alloc (Nat.le_refl _) (.cells #[.int .u8 1, .int .i64 15, .int .i64 (-9223372036854775808), .int .i64 0, .int .u8 1, .int .i64 0, .int .i64 9223372036854775807, .int .i64 0, .int .u8 2, .int .i64 0, .int .i64 31, .int .i64 0, .int .u8 3, .int .i64 0, .int .i64 1, .int .i64 0, .int .u8 13, .int .i64 0, .int .i64 0, .int .i64 7, .int .u8 14, .int .i64 0, .int .i64 7, .int .i64 0, .int .u8 22, .int .i64 199, .int .i64 0, .int .i64 0, .int .u8 23, .int .i64 15, .int .i64 199, .int .i64 0, .int .u8 25, .int .i64 (-1), .int .i64 31, .int .i64 0, .int .u8 26, .int .i64 31, .int .i64 0, .int .i64 0, .int .u8 34, .int .i64 15, .int .i64 0, .int .i64 0] 23)
  have hT : Blk (w.alloc (.cells #[.int .u8 1, .int .i64 15, .int .i64 (-9223372036854775808), .int .i64 0, .int .u8 1, .int .i64 0, .int .i64 9223372036854775807, .int .i64 0, .int .u8 2, .int .i64 0, .int .i64 31, .int .i64 0, .int .u8 3, .int .i64 0, .int .i64 1, .int .i64 0, .int .u8 13, .int .i64 0, .int .i64 0, .int .i64 7, .int .u8 14, .int .i64 0, .int .i64 7, .int .i64 0, .int .u8 22, .int .i64 199, .int .i64 0, .int .i64 0, .int .u8 23, .int .i64 15, .int .i64 199, .int .i64 0, .int .u8 25, .int .i64 (-1), .int .i64 31, .int .i64 0, .int .u8 26, .int .i64 31, .int .i64 0, .int .i64 0, .int .u8 34, .int .i64 15, .int .i64 0, .int .i64 0] 23)) w.heap.size 23 (goodL.map insC).flatten.toArray := Blk.new w 23 #[.int .u8 1, .int .i64 15, .int .i64 (-9223372036854775808), .int .i64 0, .int .u8 1, .int .i64 0, .int .i64 9223372036854775807, .int .i64 0, .int .u8 2, .int .i64 0, .int .i64 31, .int .i64 0, .int .u8 3, .int .i64 0, .int .i64 1, .int .i64 0, .int .u8 13, .int .i64 0, .int .i64 0, .int .i64 7, .int .u8 14, .int .i64 0, .int .i64 7, .int .i64 0, .int .u8 22, .int .i64 199, .int .i64 0, .int .i64 0, .int .u8 23, .int .i64 15, .int .i64 199, .int .i64 0, .int .u8 25, .int .i64 (-1), .int .i64 31, .int .i64 0, .int .u8 26, .int .i64 31, .int .i64 0, .int .i64 0, .int .u8 34, .int .i64 15, .int .i64 0, .int .i64 0]
  go_wp2_with fail
  generalize w.alloc (.cells #[.int .u8 1, .int .i64 15, .int .i64 (-9223372036854775808), .int .i64 0, .int .u8 1, .int .i64 0, .int .i64 9223372036854775807, .int .i64 0, .int .u8 2, .int .i64 0, .int .i64 31, .int .i64 0, .int .u8 3, .int .i64 0, .int .i64 1, .int .i64 0, .int .u8 13, .int .i64 0, .int .i64 0, .int .i64 7, .int .u8 14, .int .i64 0, .int .i64 7, .int .i64 0, .int .u8 22, .int .i64 199, .int .i64 0, .int .i64 0, .int .u8 23, .int .i64 15, .int .i64 199, .int .i64 0, .int .u8 25, .int .i64 (-1), .int .i64 31, .int .i64 0, .int .u8 26, .int .i64 31, .int .i64 0, .int .i64 0, .int .u8 34, .int .i64 15, .int .i64 0, .int .i64 0] 23) = w1 at *
  generalize hG_ : w.heap.size = G at hT ⊢
  clear hG_
  have hPT := hT.lt
  go_loopw [2] (fun i wr => ∃ j : Nat, j ≤ 11 ∧ i = .int .i64 (j : Int) ∧ Below w1.heap.size w1 wr) (fun i _ => 11 - (intOf i).toNat)
  case atStart => exact ⟨0, by omega, rfl, Below.refl _ _⟩
  case round =>
    obtain ⟨j, hj, rfl, hC⟩ := hrel
    by_cases hlt : j < goodL.length
    · obtain ⟨op, x, y, z, hJ, hop, hx, hy, hz, hck⟩ := ins_get good_all hlt
      replace hlt : j < 11 := hlt
      obtain ⟨k0, k1, k2, k3⟩ := ins_at (hT.below hC hPT) rfl hJ
      have hB := hC
      go_wp2_with fail
      refine ((by have h := check6_any op hop x y z wr; rw [hck] at h; exact h : Calls Try.prog 10 #[insV op x y z] wr fun e w' => e = .returned (.int .i64 0) ∧ Below wr.heap.size wr w')).mono ?_
      rintro e x1 ⟨rfl, bB⟩
      replace hB := Below.via (w := w1) (by have hs_ := hB.size; repeat (first | with_reducible exact hB | with_reducible (refine Below.setCell ?_ (by simp <;> omega) _) | with_reducible (refine Below.alloc ?_ (by first | exact hs_ | (simp <;> omega)) _) | with_reducible (refine Below.drew ?_))) bB
      clear bB
      go_wp2_with fail
      go_roundw
      case rel => exact ⟨j + 1, by omega, by go_num, (by have hs_ := hB.size; repeat (first | with_reducible exact hB | with_reducible (refine Below.setCell ?_ (by simp <;> omega) _) | with_reducible (refine Below.alloc ?_ (by first | exact hs_ | (simp <;> omega)) _) | with_reducible (refine Below.drew ?_)))⟩
      case measure => simp [intOf]; omega
    · replace hlt : ¬ j < 11 := hlt
      have hj2 : j = 11 := by omega
      subst hj2
      have hB1 := hB0.trans (hC.mono hB0.size)
      clear hT hPT hC hB0
      have hT : Blk (wr.alloc (.cells #[.int .u8 0, .int .i64 0, .int .i64 0, .int .i64 0, .int .u8 35, .int .i64 0, .int .i64 0, .int .i64 0, .int .u8 255, .int .i64 0, .int .i64 0, .int .i64 0, .int .u8 1, .int .i64 16, .int .i64 0, .int .i64 0, .int .u8 1, .int .i64 (-1), .int .i64 0, .int .i64 0, .int .u8 1, .int .i64 0, .int .i64 0, .int .i64 1, .int .u8 2, .int .i64 0, .int .i64 32, .int .i64 0, .int .u8 3, .int .i64 0, .int .i64 2, .int .i64 0, .int .u8 3, .int .i64 0, .int .i64 (-1), .int .i64 0, .int .u8 13, .int .i64 0, .int .i64 0, .int .i64 8, .int .u8 14, .int .i64 0, .int .i64 8, .int .i64 0, .int .u8 22, .int .i64 (-1), .int .i64 0, .int .i64 0, .int .u8 22, .int .i64 0, .int .i64 1, .int .i64 0, .int .u8 23, .int .i64 0, .int .i64 200, .int .i64 0, .int .u8 25, .int .i64 (-2), .int .i64 0, .int .i64 0, .int .u8 25, .int .i64 0, .int .i64 32, .int .i64 0, .int .u8 26, .int .i64 (-1), .int .i64 0, .int .i64 0, .int .u8 27, .int .i64 32, .int .i64 0, .int .i64 0, .int .u8 31, .int .i64 1, .int .i64 0, .int .i64 0, .int .u8 34, .int .i64 (-2), .int .i64 0, .int .i64 0, .int .u8 34, .int .i64 16, .int .i64 0, .int .i64 0, .int .u8 17, .int .i64 0, .int .i64 0, .int .i64 1, .int .u8 6, .int .i64 0, .int .i64 0, .int .i64 16, .int .u8 29, .int .i64 0, .int .i64 16, .int .i64 0] 23)) wr.heap.size 23 (badL.map insC).flatten.toArray := Blk.new wr 23 #[.int .u8 0, .int .i64 0, .int .i64 0, .int .i64 0, .int .u8 35, .int .i64 0, .int .i64 0, .int .i64 0, .int .u8 255, .int .i64 0, .int .i64 0, .int .i64 0, .int .u8 1, .int .i64 16, .int .i64 0, .int .i64 0, .int .u8 1, .int .i64 (-1), .int .i64 0, .int .i64 0, .int .u8 1, .int .i64 0, .int .i64 0, .int .i64 1, .int .u8 2, .int .i64 0, .int .i64 32, .int .i64 0, .int .u8 3, .int .i64 0, .int .i64 2, .int .i64 0, .int .u8 3, .int .i64 0, .int .i64 (-1), .int .i64 0, .int .u8 13, .int .i64 0, .int .i64 0, .int .i64 8, .int .u8 14, .int .i64 0, .int .i64 8, .int .i64 0, .int .u8 22, .int .i64 (-1), .int .i64 0, .int .i64 0, .int .u8 22, .int .i64 0, .int .i64 1, .int .i64 0, .int .u8 23, .int .i64 0, .int .i64 200, .int .i64 0, .int .u8 25, .int .i64 (-2), .int .i64 0, .int .i64 0, .int .u8 25, .int .i64 0, .int .i64 32, .int .i64 0, .int .u8 26, .int .i64 (-1), .int .i64 0, .int .i64 0, .int .u8 27, .int .i64 32, .int .i64 0, .int .i64 0, .int .u8 31, .int .i64 1, .int .i64 0, .int .i64 0, .int .u8 34, .int .i64 (-2), .int .i64 0, .int .i64 0, .int .u8 34, .int .i64 16, .int .i64 0, .int .i64 0, .int .u8 17, .int .i64 0, .int .i64 0, .int .i64 1, .int .u8 6, .int .i64 0, .int .i64 0, .int .i64 16, .int .u8 29, .int .i64 0, .int .i64 16, .int .i64 0]
      have hB0 : Below w.heap.size w (wr.alloc (.cells #[.int .u8 0, .int .i64 0, .int .i64 0, .int .i64 0, .int .u8 35, .int .i64 0, .int .i64 0, .int .i64 0, .int .u8 255, .int .i64 0, .int .i64 0, .int .i64 0, .int .u8 1, .int .i64 16, .int .i64 0, .int .i64 0, .int .u8 1, .int .i64 (-1), .int .i64 0, .int .i64 0, .int .u8 1, .int .i64 0, .int .i64 0, .int .i64 1, .int .u8 2, .int .i64 0, .int .i64 32, .int .i64 0, .int .u8 3, .int .i64 0, .int .i64 2, .int .i64 0, .int .u8 3, .int .i64 0, .int .i64 (-1), .int .i64 0, .int .u8 13, .int .i64 0, .int .i64 0, .int .i64 8, .int .u8 14, .int .i64 0, .int .i64 8, .int .i64 0, .int .u8 22, .int .i64 (-1), .int .i64 0, .int .i64 0, .int .u8 22, .int .i64 0, .int .i64 1, .int .i64 0, .int .u8 23, .int .i64 0, .int .i64 200, .int .i64 0, .int .u8 25, .int .i64 (-2), .int .i64 0, .int .i64 0, .int .u8 25, .int .i64 0, .int .i64 32, .int .i64 0, .int .u8 26, .int .i64 (-1), .int .i64 0, .int .i64 0, .int .u8 27, .int .i64 32, .int .i64 0, .int .i64 0, .int .u8 31, .int .i64 1, .int .i64 0, .int .i64 0, .int .u8 34, .int .i64 (-2), .int .i64 0, .int .i64 0, .int .u8 34, .int .i64 16, .int .i64 0, .int .i64 0, .int .u8 17, .int .i64 0, .int .i64 0, .int .i64 1, .int .u8 6, .int .i64 0, .int .i64 0, .int .i64 16, .int .u8 29, .int .i64 0, .int .i64 16, .int .i64 0] 23)) := hB1.alloc hB1.size (.cells #[.int .u8 0, .int .i64 0, .int .i64 0, .int .i64 0, .int .u8 35, .int .i64 0, .int .i64 0, .int .i64 0, .int .u8 255, .int .i64 0, .int .i64 0, .int .i64 0, .int .u8 1, .int .i64 16, .int .i64 0, .int .i64 0, .int .u8 1, .int .i64 (-1), .int .i64 0, .int .i64 0, .int .u8 1, .int .i64 0, .int .i64 0, .int .i64 1, .int .u8 2, .int .i64 0, .int .i64 32, .int .i64 0, .int .u8 3, .int .i64 0, .int .i64 2, .int .i64 0, .int .u8 3, .int .i64 0, .int .i64 (-1), .int .i64 0, .int .u8 13, .int .i64 0, .int .i64 0, .int .i64 8, .int .u8 14, .int .i64 0, .int .i64 8, .int .i64 0, .int .u8 22, .int .i64 (-1), .int .i64 0, .int .i64 0, .int .u8 22, .int .i64 0, .int .i64 1, .int .i64 0, .int .u8 23, .int .i64 0, .int .i64 200, .int .i64 0, .int .u8 25, .int .i64 (-2), .int .i64 0, .int .i64 0, .int .u8 25, .int .i64 0, .int .i64 32, .int .i64 0, .int .u8 26, .int .i64 (-1), .int .i64 0, .int .i64 0, .int .u8 27, .int .i64 32, .int .i64 0, .int .i64 0, .int .u8 31, .int .i64 1, .int .i64 0, .int .i64 0, .int .u8 34, .int .i64 (-2), .int .i64 0, .int .i64 0, .int .u8 34, .int .i64 16, .int .i64 0, .int .i64 0, .int .u8 17, .int .i64 0, .int .i64 0, .int .i64 1, .int .u8 6, .int .i64 0, .int .i64 0, .int .i64 16, .int .u8 29, .int .i64 0, .int .i64 16, .int .i64 0] 23)
      clear hB1
      go_wp2_with fail
      generalize wr.alloc (.cells #[.int .u8 0, .int .i64 0, .int .i64 0, .int .i64 0, .int .u8 35, .int .i64 0, .int .i64 0, .int .i64 0, .int .u8 255, .int .i64 0, .int .i64 0, .int .i64 0, .int .u8 1, .int .i64 16, .int .i64 0, .int .i64 0, .int .u8 1, .int .i64 (-1), .int .i64 0, .int .i64 0, .int .u8 1, .int .i64 0, .int .i64 0, .int .i64 1, .int .u8 2, .int .i64 0, .int .i64 32, .int .i64 0, .int .u8 3, .int .i64 0, .int .i64 2, .int .i64 0, .int .u8 3, .int .i64 0, .int .i64 (-1), .int .i64 0, .int .u8 13, .int .i64 0, .int .i64 0, .int .i64 8, .int .u8 14, .int .i64 0, .int .i64 8, .int .i64 0, .int .u8 22, .int .i64 (-1), .int .i64 0, .int .i64 0, .int .u8 22, .int .i64 0, .int .i64 1, .int .i64 0, .int .u8 23, .int .i64 0, .int .i64 200, .int .i64 0, .int .u8 25, .int .i64 (-2), .int .i64 0, .int .i64 0, .int .u8 25, .int .i64 0, .int .i64 32, .int .i64 0, .int .u8 26, .int .i64 (-1), .int .i64 0, .int .i64 0, .int .u8 27, .int .i64 32, .int .i64 0, .int .i64 0, .int .u8 31, .int .i64 1, .int .i64 0, .int .i64 0, .int .u8 34, .int .i64 (-2), .int .i64 0, .int .i64 0, .int .u8 34, .int .i64 16, .int .i64 0, .int .i64 0, .int .u8 17, .int .i64 0, .int .i64 0, .int .i64 1, .int .u8 6, .int .i64 0, .int .i64 0, .int .i64 16, .int .u8 29, .int .i64 0, .int .i64 16, .int .i64 0] 23) = v1 at *
      generalize hG_ : wr.heap.size = G2 at hT ⊢
      clear hG_
      have hPT := hT.lt
      go_loopw [4] (fun i wr => ∃ j : Nat, j ≤ 24 ∧ i = .int .i64 (j : Int) ∧ Below v1.heap.size v1 wr) (fun i _ => 24 - (intOf i).toNat)
      case atStart => exact ⟨0, by omega, rfl, Below.refl _ _⟩
      case round =>
        obtain ⟨j, hj, rfl, hC⟩ := hrel
        by_cases hlt : j < badL.length
        · obtain ⟨op, x, y, z, hJ, hop, hx, hy, hz, hck⟩ := ins_get bad_all hlt
          replace hlt : j < 24 := hlt
          obtain ⟨k0, k1, k2, k3⟩ := ins_at (hT.below hC hPT) rfl hJ
          have hB := hC
          go_wp2_with fail
          refine (bad_encode hop hx hy hz hck wr).mono ?_
          rintro e x1 ⟨A1, c1, rfl, bB⟩
          replace hB := Below.via (w := v1) (by have hs_ := hB.size; repeat (first | with_reducible exact hB | with_reducible (refine Below.setCell ?_ (by simp <;> omega) _) | with_reducible (refine Below.alloc ?_ (by first | exact hs_ | (simp <;> omega)) _) | with_reducible (refine Below.drew ?_))) bB
          clear bB
          clear k0 k1 k2 k3
          obtain ⟨k0, k1, k2, k3⟩ := ins_at (hT.below (by have hs_ := hB.size; repeat (first | with_reducible exact hB | with_reducible (refine Below.setCell ?_ (by simp <;> omega) _) | with_reducible (refine Below.alloc ?_ (by first | exact hs_ | (simp <;> omega)) _) | with_reducible (refine Below.drew ?_))) hPT) rfl hJ
          go_wp2_with fail
          refine (bad_slots hop hck x1).mono ?_
          rintro e x2 ⟨A2, c2, A3, c3, rfl, bB⟩
          replace hB := Below.via (w := v1) (by have hs_ := hB.size; repeat (first | with_reducible exact hB | with_reducible (refine Below.setCell ?_ (by simp <;> omega) _) | with_reducible (refine Below.alloc ?_ (by first | exact hs_ | (simp <;> omega)) _) | with_reducible (refine Below.drew ?_))) bB
          clear bB
          clear k0 k1 k2 k3
          obtain ⟨k0, k1, k2, k3⟩ := ins_at (hT.below (by have hs_ := hB.size; repeat (first | with_reducible exact hB | with_reducible (refine Below.setCell ?_ (by simp <;> omega) _) | with_reducible (refine Below.alloc ?_ (by first | exact hs_ | (simp <;> omega)) _) | with_reducible (refine Below.drew ?_))) hPT) rfl hJ
          go_wp2_with fail
          refine (bad_check hop hck x2).mono ?_
          rintro e x3 ⟨rfl, bB⟩
          replace hB := Below.via (w := v1) (by have hs_ := hB.size; repeat (first | with_reducible exact hB | with_reducible (refine Below.setCell ?_ (by simp <;> omega) _) | with_reducible (refine Below.alloc ?_ (by first | exact hs_ | (simp <;> omega)) _) | with_reducible (refine Below.drew ?_))) bB
          clear bB
          clear k0 k1 k2 k3
          go_wp2_with fail
          go_roundw
          case rel => exact ⟨j + 1, by omega, by go_num, (by have hs_ := hB.size; repeat (first | with_reducible exact hB | with_reducible (refine Below.setCell ?_ (by simp <;> omega) _) | with_reducible (refine Below.alloc ?_ (by first | exact hs_ | (simp <;> omega)) _) | with_reducible (refine Below.drew ?_)))⟩
          case measure => simp [intOf]; omega
        · replace hlt : ¬ j < 24 := hlt
          have hj2 : j = 24 := by omega
          subst hj2
          have hB := hB0.trans (hC.mono hB0.size)
          clear hT hPT hC hB0
          go_wp2_with fail
          have HN := fun W => name6_any 0 (by omega) W
          rw [show nmG 0 = ⟨#[]⟩ from rfl, show nmE 0 = 6 from by decide] at HN
          refine (HN _).mono ?_
          rintro e y1 ⟨rfl, bB⟩
          replace hB := Below.via (w := w) (by have hs_ := hB.size; repeat (first | with_reducible exact hB | with_reducible (refine Below.setCell ?_ (by simp <;> omega) _) | with_reducible (refine Below.alloc ?_ (by first | exact hs_ | (simp <;> omega)) _) | with_reducible (refine Below.drew ?_))) bB
          clear bB
          clear HN
          go_wp2_with fail
          have HN := fun W => name6_any 35 (by omega) W
          rw [show nmG 35 = ⟨#[]⟩ from rfl, show nmE 35 = 6 from by decide] at HN
          refine (HN _).mono ?_
          rintro e y2 ⟨rfl, bB⟩
          replace hB := Below.via (w := w) (by have hs_ := hB.size; repeat (first | with_reducible exact hB | with_reducible (refine Below.setCell ?_ (by simp <;> omega) _) | with_reducible (refine Below.alloc ?_ (by first | exact hs_ | (simp <;> omega)) _) | with_reducible (refine Below.drew ?_))) bB
          clear bB
          clear HN
          go_wp2_with fail
          have HN := fun W => name6_any 34 (by omega) W
          rw [show nmG 34 = ⟨#[114, 101, 116, 117, 114, 110]⟩ from rfl, show nmE 34 = 0 from by decide] at HN
          refine (HN _).mono ?_
          rintro e y3 ⟨rfl, bB⟩
          replace hB := Below.via (w := w) (by have hs_ := hB.size; repeat (first | with_reducible exact hB | with_reducible (refine Below.setCell ?_ (by simp <;> omega) _) | with_reducible (refine Below.alloc ?_ (by first | exact hs_ | (simp <;> omega)) _) | with_reducible (refine Below.drew ?_))) bB
          clear bB
          clear HN
          go_wp2_with fail
          have HN := fun W => op6_any ⟨#[]⟩ W
          rw [show opV ⟨#[]⟩ = 0 from by decide +kernel, show opE ⟨#[]⟩ = 6 from by decide +kernel] at HN
          refine (HN _).mono ?_
          rintro e y4 ⟨rfl, bB⟩
          replace hB := Below.via (w := w) (by have hs_ := hB.size; repeat (first | with_reducible exact hB | with_reducible (refine Below.setCell ?_ (by simp <;> omega) _) | with_reducible (refine Below.alloc ?_ (by first | exact hs_ | (simp <;> omega)) _) | with_reducible (refine Below.drew ?_))) bB
          clear bB
          clear HN
          go_wp2_with fail
          have HN := fun W => op6_any ⟨#[73, 110, 116]⟩ W
          rw [show opV ⟨#[73, 110, 116]⟩ = 0 from by decide +kernel, show opE ⟨#[73, 110, 116]⟩ = 6 from by decide +kernel] at HN
          refine (HN _).mono ?_
          rintro e y5 ⟨rfl, bB⟩
          replace hB := Below.via (w := w) (by have hs_ := hB.size; repeat (first | with_reducible exact hB | with_reducible (refine Below.setCell ?_ (by simp <;> omega) _) | with_reducible (refine Below.alloc ?_ (by first | exact hs_ | (simp <;> omega)) _) | with_reducible (refine Below.drew ?_))) bB
          clear bB
          clear HN
          go_wp2_with fail
          have HN := fun W => op6_any ⟨#[119, 97, 107, 101]⟩ W
          rw [show opV ⟨#[119, 97, 107, 101]⟩ = 33 from by decide +kernel, show opE ⟨#[119, 97, 107, 101]⟩ = 0 from by decide +kernel] at HN
          refine (HN _).mono ?_
          rintro e y6 ⟨rfl, bB⟩
          replace hB := Below.via (w := w) (by have hs_ := hB.size; repeat (first | with_reducible exact hB | with_reducible (refine Below.setCell ?_ (by simp <;> omega) _) | with_reducible (refine Below.alloc ?_ (by first | exact hs_ | (simp <;> omega)) _) | with_reducible (refine Below.drew ?_))) bB
          clear bB
          clear HN
          go_wp2_with fail
          have HD := decode6_any none 0 0 [] 1 (by omega) y6 Reads.none_ (by omega)
          unfold DeP cur insV at HD
          rw [show dcE [] 1 = 8 from by decide] at HD
          refine HD.mono ?_
          rintro e y7 ⟨⟨h0, _⟩ | ⟨_, rfl⟩, b⟩
          · exact absurd h0 (by decide)
          replace hB := hB.trans (b.mono hB.size)
          clear HD b
          go_wp2_with fail
          have RL : ∀ W, Rb W none 0 [] := fun W => Reads.none_
          refine (form6_yes 24 none 0 0 [] _ (RL _) (by omega) (by decide +kernel) (by omega)).mono ?_
          rintro e y8 ⟨rfl, bB⟩
          replace hB := Below.via (w := w) (by have hs_ := hB.size; repeat (first | with_reducible exact hB | with_reducible (refine Below.setCell ?_ (by simp <;> omega) _) | with_reducible (refine Below.alloc ?_ (by first | exact hs_ | (simp <;> omega)) _) | with_reducible (refine Below.drew ?_))) bB
          clear bB
          clear RL
          go_wp2_with fail
          have RL : Rb (y8.alloc (.cells #[.int .u8 0] 5)) (some ⟨y8.heap.size, 0, none⟩) 1 [0] := reads_bytes y8 [0] 5
          refine (form6_yes 12 (some ⟨y8.heap.size, 0, none⟩) 1 1 [0] _ RL (by omega) (by decide +kernel) (by omega)).mono ?_
          rintro e y9 ⟨rfl, bB⟩
          replace hB := Below.via (w := w) (by have hs_ := hB.size; repeat (first | with_reducible exact hB | with_reducible (refine Below.setCell ?_ (by simp <;> omega) _) | with_reducible (refine Below.alloc ?_ (by first | exact hs_ | (simp <;> omega)) _) | with_reducible (refine Below.drew ?_))) bB
          clear bB
          clear RL
          go_wp2_with fail
          have RL : Rb (y9.alloc (.cells #[.int .u8 35] 5)) (some ⟨y9.heap.size, 0, none⟩) 1 [35] := reads_bytes y9 [35] 5
          refine (form6_yes 12 (some ⟨y9.heap.size, 0, none⟩) 1 1 [35] _ RL (by omega) (by decide +kernel) (by omega)).mono ?_
          rintro e y10 ⟨rfl, bB⟩
          replace hB := Below.via (w := w) (by have hs_ := hB.size; repeat (first | with_reducible exact hB | with_reducible (refine Below.setCell ?_ (by simp <;> omega) _) | with_reducible (refine Below.alloc ?_ (by first | exact hs_ | (simp <;> omega)) _) | with_reducible (refine Below.drew ?_))) bB
          clear bB
          clear RL
          go_wp2_with fail
          have RL : Rb (y10.alloc (.cells #[.int .u8 1] 5)) (some ⟨y10.heap.size, 0, none⟩) 1 [1] := reads_bytes y10 [1] 5
          refine (form6_yes 24 (some ⟨y10.heap.size, 0, none⟩) 1 1 [1] _ RL (by omega) (by decide +kernel) (by omega)).mono ?_
          rintro e y11 ⟨rfl, bB⟩
          replace hB := Below.via (w := w) (by have hs_ := hB.size; repeat (first | with_reducible exact hB | with_reducible (refine Below.setCell ?_ (by simp <;> omega) _) | with_reducible (refine Below.alloc ?_ (by first | exact hs_ | (simp <;> omega)) _) | with_reducible (refine Below.drew ?_))) bB
          clear bB
          clear RL
          go_wp2_with fail
          have RL : Rb (y11.alloc (.cells #[.int .u8 1, .int .u8 3] 5)) (some ⟨y11.heap.size, 0, none⟩) 2 [1, 3] := reads_bytes y11 [1, 3] 5
          refine (form6_yes 24 (some ⟨y11.heap.size, 0, none⟩) 2 2 [1, 3] _ RL (by omega) (by decide +kernel) (by omega)).mono ?_
          rintro e y12 ⟨rfl, bB⟩
          replace hB := Below.via (w := w) (by have hs_ := hB.size; repeat (first | with_reducible exact hB | with_reducible (refine Below.setCell ?_ (by simp <;> omega) _) | with_reducible (refine Below.alloc ?_ (by first | exact hs_ | (simp <;> omega)) _) | with_reducible (refine Below.drew ?_))) bB
          clear bB
          clear RL
          go_wp2_with fail
          have RL : Rb (y12.alloc (.cells #[.int .u8 1, .int .u8 16, .int .u8 0] 5)) (some ⟨y12.heap.size, 0, none⟩) 3 [1, 16, 0] := reads_bytes y12 [1, 16, 0] 5
          refine (form6_yes 12 (some ⟨y12.heap.size, 0, none⟩) 3 3 [1, 16, 0] _ RL (by omega) (by decide +kernel) (by omega)).mono ?_
          rintro e y13 ⟨rfl, bB⟩
          replace hB := Below.via (w := w) (by have hs_ := hB.size; repeat (first | with_reducible exact hB | with_reducible (refine Below.setCell ?_ (by simp <;> omega) _) | with_reducible (refine Below.alloc ?_ (by first | exact hs_ | (simp <;> omega)) _) | with_reducible (refine Below.drew ?_))) bB
          clear bB
          clear RL
          go_wp2_with fail
          have RL : Rb (y13.alloc (.cells #[.int .u8 1, .int .u8 128, .int .u8 0, .int .u8 0] 5)) (some ⟨y13.heap.size, 0, none⟩) 4 [1, 128, 0, 0] := reads_bytes y13 [1, 128, 0, 0] 5
          refine (form6_yes 12 (some ⟨y13.heap.size, 0, none⟩) 4 4 [1, 128, 0, 0] _ RL (by omega) (by decide +kernel) (by omega)).mono ?_
          rintro e y14 ⟨rfl, bB⟩
          replace hB := Below.via (w := w) (by have hs_ := hB.size; repeat (first | with_reducible exact hB | with_reducible (refine Below.setCell ?_ (by simp <;> omega) _) | with_reducible (refine Below.alloc ?_ (by first | exact hs_ | (simp <;> omega)) _) | with_reducible (refine Below.drew ?_))) bB
          clear bB
          clear RL
          go_wp2_with fail
          have RL : Rb (y14.alloc (.cells #[.int .u8 3, .int .u8 0, .int .u8 2] 5)) (some ⟨y14.heap.size, 0, none⟩) 3 [3, 0, 2] := reads_bytes y14 [3, 0, 2] 5
          refine (form6_yes 12 (some ⟨y14.heap.size, 0, none⟩) 3 3 [3, 0, 2] _ RL (by omega) (by decide +kernel) (by omega)).mono ?_
          rintro e y15 ⟨rfl, bB⟩
          replace hB := Below.via (w := w) (by have hs_ := hB.size; repeat (first | with_reducible exact hB | with_reducible (refine Below.setCell ?_ (by simp <;> omega) _) | with_reducible (refine Below.alloc ?_ (by first | exact hs_ | (simp <;> omega)) _) | with_reducible (refine Below.drew ?_))) bB
          clear bB
          clear RL
          go_wp2_with fail
          have RL : Rb (y15.alloc (.cells #[.int .u8 25, .int .u8 3, .int .u8 0] 5)) (some ⟨y15.heap.size, 0, none⟩) 3 [25, 3, 0] := reads_bytes y15 [25, 3, 0] 5
          refine (form6_yes 12 (some ⟨y15.heap.size, 0, none⟩) 3 3 [25, 3, 0] _ RL (by omega) (by decide +kernel) (by omega)).mono ?_
          rintro e y16 ⟨rfl, bB⟩
          replace hB := Below.via (w := w) (by have hs_ := hB.size; repeat (first | with_reducible exact hB | with_reducible (refine Below.setCell ?_ (by simp <;> omega) _) | with_reducible (refine Below.alloc ?_ (by first | exact hs_ | (simp <;> omega)) _) | with_reducible (refine Below.drew ?_))) bB
          clear bB
          clear RL
          go_wp2_with fail
          have RL : Rb (y16.alloc (.cells #[.int .u8 25, .int .u8 1] 5)) (some ⟨y16.heap.size, 0, none⟩) 2 [25, 1] := reads_bytes y16 [25, 1] 5
          refine (form6_yes 24 (some ⟨y16.heap.size, 0, none⟩) 2 2 [25, 1] _ RL (by omega) (by decide +kernel) (by omega)).mono ?_
          rintro e y17 ⟨rfl, bB⟩
          replace hB := Below.via (w := w) (by have hs_ := hB.size; repeat (first | with_reducible exact hB | with_reducible (refine Below.setCell ?_ (by simp <;> omega) _) | with_reducible (refine Below.alloc ?_ (by first | exact hs_ | (simp <;> omega)) _) | with_reducible (refine Below.drew ?_))) bB
          clear bB
          clear RL
          go_wp2_with fail
          have RL : Rb (y17.alloc (.cells #[.int .u8 22, .int .u8 200, .int .u8 1] 5)) (some ⟨y17.heap.size, 0, none⟩) 3 [22, 200, 1] := reads_bytes y17 [22, 200, 1] 5
          refine (form6_yes 12 (some ⟨y17.heap.size, 0, none⟩) 3 3 [22, 200, 1] _ RL (by omega) (by decide +kernel) (by omega)).mono ?_
          rintro e y18 ⟨rfl, bB⟩
          replace hB := Below.via (w := w) (by have hs_ := hB.size; repeat (first | with_reducible exact hB | with_reducible (refine Below.setCell ?_ (by simp <;> omega) _) | with_reducible (refine Below.alloc ?_ (by first | exact hs_ | (simp <;> omega)) _) | with_reducible (refine Below.drew ?_))) bB
          clear bB
          clear RL
          go_wp2_with fail
          have RL : Rb (y18.alloc (.cells #[.int .u8 22, .int .u8 128, .int .u8 2] 5)) (some ⟨y18.heap.size, 0, none⟩) 3 [22, 128, 2] := reads_bytes y18 [22, 128, 2] 5
          refine (form6_yes 12 (some ⟨y18.heap.size, 0, none⟩) 3 3 [22, 128, 2] _ RL (by omega) (by decide +kernel) (by omega)).mono ?_
          rintro e y19 ⟨rfl, bB⟩
          replace hB := Below.via (w := w) (by have hs_ := hB.size; repeat (first | with_reducible exact hB | with_reducible (refine Below.setCell ?_ (by simp <;> omega) _) | with_reducible (refine Below.alloc ?_ (by first | exact hs_ | (simp <;> omega)) _) | with_reducible (refine Below.drew ?_))) bB
          clear bB
          clear RL
          go_wp2_with fail
          have RL : Rb (y19.alloc (.cells #[.int .u8 22, .int .u8 255, .int .u8 255, .int .u8 255, .int .u8 255, .int .u8 255, .int .u8 255, .int .u8 255, .int .u8 255, .int .u8 255, .int .u8 1] 5)) (some ⟨y19.heap.size, 0, none⟩) 11 [22, 255, 255, 255, 255, 255, 255, 255, 255, 255, 1] := reads_bytes y19 [22, 255, 255, 255, 255, 255, 255, 255, 255, 255, 1] 5
          refine (form6_yes 12 (some ⟨y19.heap.size, 0, none⟩) 11 11 [22, 255, 255, 255, 255, 255, 255, 255, 255, 255, 1] _ RL (by omega) (by decide +kernel) (by omega)).mono ?_
          rintro e y20 ⟨rfl, bB⟩
          replace hB := Below.via (w := w) (by have hs_ := hB.size; repeat (first | with_reducible exact hB | with_reducible (refine Below.setCell ?_ (by simp <;> omega) _) | with_reducible (refine Below.alloc ?_ (by first | exact hs_ | (simp <;> omega)) _) | with_reducible (refine Below.drew ?_))) bB
          clear bB
          clear RL
          go_wp2_with fail
          have RL : Rb (y20.alloc (.cells #[.int .u8 6, .int .u8 16, .int .u8 1] 5)) (some ⟨y20.heap.size, 0, none⟩) 3 [6, 16, 1] := reads_bytes y20 [6, 16, 1] 5
          refine (form6_yes 24 (some ⟨y20.heap.size, 0, none⟩) 3 3 [6, 16, 1] _ RL (by omega) (by decide +kernel) (by omega)).mono ?_
          rintro e y21 ⟨rfl, bB⟩
          replace hB := Below.via (w := w) (by have hs_ := hB.size; repeat (first | with_reducible exact hB | with_reducible (refine Below.setCell ?_ (by simp <;> omega) _) | with_reducible (refine Below.alloc ?_ (by first | exact hs_ | (simp <;> omega)) _) | with_reducible (refine Below.drew ?_))) bB
          clear bB
          clear RL
          go_wp2_with fail
          refine (alive6_any _).mono ?_
          rintro e y22 ⟨rfl, bB⟩
          replace hB := Below.via (w := w) (by have hs_ := hB.size; repeat (first | with_reducible exact hB | with_reducible (refine Below.setCell ?_ (by simp <;> omega) _) | with_reducible (refine Below.alloc ?_ (by first | exact hs_ | (simp <;> omega)) _) | with_reducible (refine Below.drew ?_))) bB
          clear bB
          go_wp2_with fail
          go_ret
          exact ⟨rfl, (by have hs_ := hB.size; repeat (first | with_reducible exact hB | with_reducible (refine Below.setCell ?_ (by simp <;> omega) _) | with_reducible (refine Below.alloc ?_ (by first | exact hs_ | (simp <;> omega)) _) | with_reducible (refine Below.drew ?_)))⟩

end Go.Proofs.Ytkhdeoihjnpnaaa
