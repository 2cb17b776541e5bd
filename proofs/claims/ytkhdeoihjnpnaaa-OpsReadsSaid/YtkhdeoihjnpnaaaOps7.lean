/- The chapter's examples hold. Each states its conditions. -/
import Derived.Test.YtkhdeoihjnpnaaaOps6
import Derived.BigQuiet
namespace Go.Proofs.Ytkhdeoihjnpnaaa
open Go.RowKit Wire
set_option linter.unusedVariables false

theorem cvS6 {A : Option Addr} {n : Nat} {l : List UInt8} {w : World} {B : Nat} (c : Nat) (h : RdB w B A n l) : (convert 37 9 (.slice A n c)).run Try.prog w = .ok (.string ⟨l.toArray⟩) w := conv_to_str _ _ _ Try.underlying37 Try.underlying5 Try.underlying9 c h

set_option maxRecDepth 100000 in
set_option maxHeartbeats 1600000 in
theorem is_yes (op : Nat) (hop : op < 256) (x y z : Int) (hx : (-9223372036854775808 ≤ x ∧ x ≤ 9223372036854775807)) (hy : (-9223372036854775808 ≤ y ∧ y ≤ 9223372036854775807)) (hz : (-9223372036854775808 ≤ z ∧ z ≤ 9223372036854775807)) (A : Option Addr) (n c : Nat) (l : List UInt8) (w : World) (hr : Rb w A n l) (hck : ckI op x y z = 0) (hen : enI op x y z = l) :
    Calls Try.prog 23 #[insV op x y z, .slice A n c] w fun e w' => e = .returned (.bool true) ∧ Below w.heap.size w w' := by
  have hB : Below w.heap.size w (w.alloc (.cells #[.int .u8 (op : Int), .int .i64 x, .int .i64 y, .int .i64 z] 23)) := (Below.alloc (Below.refl w.heap.size w) (by simp <;> omega) (.cells #[.int .u8 (op : Int), .int .i64 x, .int .i64 y, .int .i64 z] 23))
  have hq := Blk.new w 23 #[.int .u8 (op : Int), .int .i64 x, .int .i64 y, .int .i64 z]
  go_enter Try.func23, Try.ntmps23
  have z1 : (w.alloc (.cells #[.int .u8 (op : Int), .int .i64 x, .int .i64 y, .int .i64 z] 23)).cell? ⟨w.heap.size, 0, none⟩ = some (.int .u8 (op : Int)) := (hq.cell 0).trans rfl
  have z2 := hq.frozen 0
  have z3 : (w.alloc (.cells #[.int .u8 (op : Int), .int .i64 x, .int .i64 y, .int .i64 z] 23)).cell? ⟨w.heap.size, 1, none⟩ = some (.int .i64 x) := (hq.cell 1).trans rfl
  have z4 := hq.frozen 1
  have z5 : (w.alloc (.cells #[.int .u8 (op : Int), .int .i64 x, .int .i64 y, .int .i64 z] 23)).cell? ⟨w.heap.size, 2, none⟩ = some (.int .i64 y) := (hq.cell 2).trans rfl
  have z6 := hq.frozen 2
  have z7 : (w.alloc (.cells #[.int .u8 (op : Int), .int .i64 x, .int .i64 y, .int .i64 z] 23)).cell? ⟨w.heap.size, 3, none⟩ = some (.int .i64 z) := (hq.cell 3).trans rfl
  have z8 := hq.frozen 3
  have z9 := hq.lt
  go_wp2_with fail
  have HE := fun W => encode6_any op hop x y z hx hy hz W
  unfold EnP at HE
  rw [hck, hen] at HE
  refine (HE _).mono ?_
  rintro e w1 ⟨A1, c1, rfl, o1, bB⟩
  have ne_o1_hq : (Value.slice A1 l.length c1).ownBlock ≠ some w.heap.size := own_not_lt o1 (by first | omega | (simp <;> omega))
  replace o1 := own_low o1 (show w.heap.size ≤ _ from by have hs_ := hB.size; simp <;> omega)
  replace hq := Blk.via0 (g := w.heap.size) (t := 23) bB (by repeat (first | with_reducible exact hq | with_reducible (apply Blk.set_) | with_reducible (apply Blk.far; case hp => (simp <;> omega)) | with_reducible (apply Blk.alloc) | with_reducible (apply Blk.drew)))
  replace hq : Blk w1 w.heap.size 23 #[.int .u8 (op : Int), .int .i64 x, .int .i64 y, .int .i64 z] := hq
  replace hB := Below.via (w := w) (by have hs_ := hB.size; repeat (first | with_reducible exact hB | with_reducible (refine Below.setCell ?_ (by simp <;> omega) _) | with_reducible (refine Below.alloc ?_ (by first | exact hs_ | (simp <;> omega)) _) | with_reducible (refine Below.drew ?_))) bB
  clear z1 z2 z3 z4 z5 z6 z7 z8 z9
  clear bB
  have K1 := cvS6 c1 (own_rd o1)
  have K2 := cvS6 c (hr.mv (by have hs_ := hB.size; repeat (first | with_reducible exact hB | with_reducible (refine Below.setCell ?_ (by simp <;> omega) _) | with_reducible (refine Below.alloc ?_ (by first | exact hs_ | (simp <;> omega)) _) | with_reducible (refine Below.drew ?_))))
  clear HE o1 hr
  have z10 : w1.cell? ⟨w.heap.size, 0, none⟩ = some (.int .u8 (op : Int)) := (hq.cell 0).trans rfl
  have z11 := hq.frozen 0
  have z12 : w1.cell? ⟨w.heap.size, 1, none⟩ = some (.int .i64 x) := (hq.cell 1).trans rfl
  have z13 := hq.frozen 1
  have z14 : w1.cell? ⟨w.heap.size, 2, none⟩ = some (.int .i64 y) := (hq.cell 2).trans rfl
  have z15 := hq.frozen 2
  have z16 : w1.cell? ⟨w.heap.size, 3, none⟩ = some (.int .i64 z) := (hq.cell 3).trans rfl
  have z17 := hq.frozen 3
  have z18 := hq.lt
  go_wp2_with fail
  go_ret
  exact ⟨rfl, (by have hs_ := hB.size; repeat (first | with_reducible exact hB | with_reducible (refine Below.setCell ?_ (by simp <;> omega) _) | with_reducible (refine Below.alloc ?_ (by first | exact hs_ | (simp <;> omega)) _) | with_reducible (refine Below.drew ?_)))⟩

set_option maxRecDepth 100000 in
set_option maxHeartbeats 1600000 in
theorem alive6_any (w : World) :
    Calls Try.prog 11 #[] w fun e w' => e = .returned (.bool true) ∧ Below w.heap.size w w' := by
  have hB := Below.refl w.heap.size w
  go_enter Try.func11, Try.ntmps11
  go_wp2_with fail
  have HS := slots_any 20 (by omega) 4 5 6 w
  unfold SlP at HS
  rw [show slR 20 4 5 6 = [4, 5, 6] from by decide, show slW 20 4 5 6 = [] from by decide, show ckI 20 4 5 6 = 0 from by decide] at HS
  refine (HS).mono ?_
  rintro e w1 ⟨A1, c1, A2, c2, rfl, o1, o2, bB⟩
  replace o1 := own_low o1 (show w.heap.size ≤ _ from by have hs_ := hB.size; simp <;> omega)
  replace hB := Below.via (w := w) (by have hs_ := hB.size; repeat (first | with_reducible exact hB | with_reducible (refine Below.setCell ?_ (by simp <;> omega) _) | with_reducible (refine Below.alloc ?_ (by first | exact hs_ | (simp <;> omega)) _) | with_reducible (refine Below.drew ?_))) bB
  clear bB
  clear HS o2
  go_wp2_with fail
  have RL : Rb (w1.alloc (.cells #[.int .u8 1, .int .u8 3, .int .u8 1] 5)) (some ⟨w1.heap.size, 0, none⟩) 3 [1, 3, 1] := reads_bytes w1 [1, 3, 1] 5
  refine (is_yes 1 (by omega) 3 (-1) 0 (by omega) (by omega) (by omega) (some ⟨w1.heap.size, 0, none⟩) 3 3 [1, 3, 1] _ RL (by decide) (by decide)).mono ?_
  rintro e w2 ⟨rfl, bB⟩
  replace o1 := own_call (by repeat (first | with_reducible exact o1 | (with_reducible apply own_set_; case hne => first | skip) | with_reducible (apply own_alloc_) | with_reducible (apply own_drew_))) bB
  replace hB := Below.via (w := w) (by have hs_ := hB.size; repeat (first | with_reducible exact hB | with_reducible (refine Below.setCell ?_ (by simp <;> omega) _) | with_reducible (refine Below.alloc ?_ (by first | exact hs_ | (simp <;> omega)) _) | with_reducible (refine Below.drew ?_))) bB
  clear bB
  clear RL
  go_wp2_with fail
  have RL : Rb (w2.alloc (.cells #[.int .u8 6, .int .u8 0, .int .u8 1, .int .u8 2] 5)) (some ⟨w2.heap.size, 0, none⟩) 4 [6, 0, 1, 2] := reads_bytes w2 [6, 0, 1, 2] 5
  refine (is_yes 6 (by omega) 0 1 2 (by omega) (by omega) (by omega) (some ⟨w2.heap.size, 0, none⟩) 4 4 [6, 0, 1, 2] _ RL (by decide) (by decide)).mono ?_
  rintro e w3 ⟨rfl, bB⟩
  replace o1 := own_call (by repeat (first | with_reducible exact o1 | (with_reducible apply own_set_; case hne => first | skip) | with_reducible (apply own_alloc_) | with_reducible (apply own_drew_))) bB
  replace hB := Below.via (w := w) (by have hs_ := hB.size; repeat (first | with_reducible exact hB | with_reducible (refine Below.setCell ?_ (by simp <;> omega) _) | with_reducible (refine Below.alloc ?_ (by first | exact hs_ | (simp <;> omega)) _) | with_reducible (refine Below.drew ?_))) bB
  clear bB
  clear RL
  go_wp2_with fail
  have RL : Rb (w3.alloc (.cells #[.int .u8 34, .int .u8 1] 5)) (some ⟨w3.heap.size, 0, none⟩) 2 [34, 1] := reads_bytes w3 [34, 1] 5
  refine (is_yes 34 (by omega) (-1) 0 0 (by omega) (by omega) (by omega) (some ⟨w3.heap.size, 0, none⟩) 2 2 [34, 1] _ RL (by decide) (by decide)).mono ?_
  rintro e w4 ⟨rfl, bB⟩
  replace o1 := own_call (by repeat (first | with_reducible exact o1 | (with_reducible apply own_set_; case hne => first | skip) | with_reducible (apply own_alloc_) | with_reducible (apply own_drew_))) bB
  replace hB := Below.via (w := w) (by have hs_ := hB.size; repeat (first | with_reducible exact hB | with_reducible (refine Below.setCell ?_ (by simp <;> omega) _) | with_reducible (refine Below.alloc ?_ (by first | exact hs_ | (simp <;> omega)) _) | with_reducible (refine Below.drew ?_))) bB
  clear bB
  clear RL
  go_wp2_with fail
  have RL : Rb (w4.alloc (.cells #[.int .u8 31] 5)) (some ⟨w4.heap.size, 0, none⟩) 1 [31] := reads_bytes w4 [31] 5
  refine (is_yes 31 (by omega) 0 0 0 (by omega) (by omega) (by omega) (some ⟨w4.heap.size, 0, none⟩) 1 1 [31] _ RL (by decide) (by decide)).mono ?_
  rintro e w5 ⟨rfl, bB⟩
  replace o1 := own_call (by repeat (first | with_reducible exact o1 | (with_reducible apply own_set_; case hne => first | skip) | with_reducible (apply own_alloc_) | with_reducible (apply own_drew_))) bB
  replace hB := Below.via (w := w) (by have hs_ := hB.size; repeat (first | with_reducible exact hB | with_reducible (refine Below.setCell ?_ (by simp <;> omega) _) | with_reducible (refine Below.alloc ?_ (by first | exact hs_ | (simp <;> omega)) _) | with_reducible (refine Below.drew ?_))) bB
  clear bB
  clear RL
  go_wp2_with fail
  have RI : RdI (w5.alloc (.cells #[.int .i64 4, .int .i64 5, .int .i64 6] 3)) (w5.alloc (.cells #[.int .i64 4, .int .i64 5, .int .i64 6] 3)).heap.size (some ⟨w5.heap.size, 0, none⟩) 3 [4, 5, 6] := reads_blk2 (Blk.new w5 3 #[.int .i64 4, .int .i64 5, .int .i64 6]) 1 3 rfl
  have RO : RdI (w5.alloc (.cells #[.int .i64 4, .int .i64 5, .int .i64 6] 3)) (w5.alloc (.cells #[.int .i64 4, .int .i64 5, .int .i64 6] 3)).heap.size A1 3 [4, 5, 6] := own_reads (own_alloc_ o1 (.cells #[.int .i64 4, .int .i64 5, .int .i64 6] 3))
  refine (sameInts_any A1 3 c1 [4, 5, 6] (some ⟨w5.heap.size, 0, none⟩) 3 3 [4, 5, 6] _ RO RI (by omega)).mono ?_
  rintro e w8 ⟨rfl, bB⟩
  rw [decide_eq_true (rfl : ([4, 5, 6] : List Int) = [4, 5, 6])]
  replace hB := Below.via (w := w) (by have hs_ := hB.size; repeat (first | with_reducible exact hB | with_reducible (refine Below.setCell ?_ (by simp <;> omega) _) | with_reducible (refine Below.alloc ?_ (by first | exact hs_ | (simp <;> omega)) _) | with_reducible (refine Below.drew ?_))) bB
  clear bB
  clear RI RO o1
  go_wp2_with fail
  have HC := fun W => check6_any 22 (by omega) 200 0 0 W
  rw [show ckI 22 200 0 0 = 8 from by decide] at HC
  refine (HC _).mono ?_
  rintro e w9 ⟨rfl, bB⟩
  replace hB := Below.via (w := w) (by have hs_ := hB.size; repeat (first | with_reducible exact hB | with_reducible (refine Below.setCell ?_ (by simp <;> omega) _) | with_reducible (refine Below.alloc ?_ (by first | exact hs_ | (simp <;> omega)) _) | with_reducible (refine Below.drew ?_))) bB
  clear bB
  go_wp2_with fail
  go_ret
  exact ⟨rfl, (by have hs_ := hB.size; repeat (first | with_reducible exact hB | with_reducible (refine Below.setCell ?_ (by simp <;> omega) _) | with_reducible (refine Below.alloc ?_ (by first | exact hs_ | (simp <;> omega)) _) | with_reducible (refine Below.drew ?_)))⟩

end Go.Proofs.Ytkhdeoihjnpnaaa
