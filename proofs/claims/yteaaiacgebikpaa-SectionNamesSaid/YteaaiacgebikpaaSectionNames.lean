/- The walk of SectionNames. No conditions. -/
import Derived.Test.YteaaiacgebikpaaSecNm3
namespace Go.Proofs.Yteaaiacgebikpaa
open Go.RowKit Wire Crc
set_option linter.unusedVariables false

set_option maxRecDepth 100000 in
set_option maxHeartbeats 8000000 in
theorem sectionNames_walk (w : World) :
    Calls Try.prog 8 #[] w fun e w' => e = .returned (.bool true) ∧ Below w.heap.size w w' := by
  go_enter Try.func8, Try.ntmps8
  have hB0 : Below w.heap.size w ((((w.alloc (.cells #[.int .u8 0, .slice none 0 0] 32)).alloc (.cells #[.int .u8 8, .slice none 0 0] 32)).alloc (.cells #[.int .u8 2, .slice none 0 0, .int .u8 2, .slice none 0 0] 32)).alloc (.cells #[.int .u8 2, .slice none 0 0, .int .u8 1, .slice none 0 0] 32)) := (Below.alloc (Below.alloc (Below.alloc (Below.alloc (Below.refl w.heap.size w) (by simp <;> omega) (.cells #[.int .u8 0, .slice none 0 0] 32)) (by simp <;> omega) (.cells #[.int .u8 8, .slice none 0 0] 32)) (by simp <;> omega) (.cells #[.int .u8 2, .slice none 0 0, .int .u8 2, .slice none 0 0] 32)) (by simp <;> omega) (.cells #[.int .u8 2, .slice none 0 0, .int .u8 1, .slice none 0 0] 32))
  have q0 := Blk.new w 32 #[.int .u8 0, .slice none 0 0]
  replace q0 := q0.alloc (.cells #[.int .u8 8, .slice none 0 0] 32)
  replace q0 := q0.alloc (.cells #[.int .u8 2, .slice none 0 0, .int .u8 2, .slice none 0 0] 32)
  replace q0 := q0.alloc (.cells #[.int .u8 2, .slice none 0 0, .int .u8 1, .slice none 0 0] 32)
  have S0 : RdS ((((w.alloc (.cells #[.int .u8 0, .slice none 0 0] 32)).alloc (.cells #[.int .u8 8, .slice none 0 0] 32)).alloc (.cells #[.int .u8 2, .slice none 0 0, .int .u8 2, .slice none 0 0] 32)).alloc (.cells #[.int .u8 2, .slice none 0 0, .int .u8 1, .slice none 0 0] 32)) (some ⟨w.heap.size, 0, none⟩) 1 [(0, [])] := rdS_kinds [0] (reads_blk2 q0 2 1 rfl) (by decide)
  clear q0
  have q1 := Blk.new (w.alloc (.cells #[.int .u8 0, .slice none 0 0] 32)) 32 #[.int .u8 8, .slice none 0 0]
  rw [show (w.alloc (.cells #[.int .u8 0, .slice none 0 0] 32)).heap.size = w.heap.size + 1 from by simp] at q1
  replace q1 := q1.alloc (.cells #[.int .u8 2, .slice none 0 0, .int .u8 2, .slice none 0 0] 32)
  replace q1 := q1.alloc (.cells #[.int .u8 2, .slice none 0 0, .int .u8 1, .slice none 0 0] 32)
  have S1 : RdS ((((w.alloc (.cells #[.int .u8 0, .slice none 0 0] 32)).alloc (.cells #[.int .u8 8, .slice none 0 0] 32)).alloc (.cells #[.int .u8 2, .slice none 0 0, .int .u8 2, .slice none 0 0] 32)).alloc (.cells #[.int .u8 2, .slice none 0 0, .int .u8 1, .slice none 0 0] 32)) (some ⟨(w.heap.size + 1), 0, none⟩) 1 [(8, [])] := rdS_kinds [8] (reads_blk2 q1 2 1 rfl) (by decide)
  clear q1
  have q2 := Blk.new ((w.alloc (.cells #[.int .u8 0, .slice none 0 0] 32)).alloc (.cells #[.int .u8 8, .slice none 0 0] 32)) 32 #[.int .u8 2, .slice none 0 0, .int .u8 2, .slice none 0 0]
  rw [show ((w.alloc (.cells #[.int .u8 0, .slice none 0 0] 32)).alloc (.cells #[.int .u8 8, .slice none 0 0] 32)).heap.size = w.heap.size + 2 from by simp] at q2
  replace q2 := q2.alloc (.cells #[.int .u8 2, .slice none 0 0, .int .u8 1, .slice none 0 0] 32)
  have S2 : RdS ((((w.alloc (.cells #[.int .u8 0, .slice none 0 0] 32)).alloc (.cells #[.int .u8 8, .slice none 0 0] 32)).alloc (.cells #[.int .u8 2, .slice none 0 0, .int .u8 2, .slice none 0 0] 32)).alloc (.cells #[.int .u8 2, .slice none 0 0, .int .u8 1, .slice none 0 0] 32)) (some ⟨(w.heap.size + 2), 0, none⟩) 2 [(2, []), (2, [])] := rdS_kinds [2, 2] (reads_blk2 q2 2 2 rfl) (by decide)
  clear q2
  have q3 := Blk.new (((w.alloc (.cells #[.int .u8 0, .slice none 0 0] 32)).alloc (.cells #[.int .u8 8, .slice none 0 0] 32)).alloc (.cells #[.int .u8 2, .slice none 0 0, .int .u8 2, .slice none 0 0] 32)) 32 #[.int .u8 2, .slice none 0 0, .int .u8 1, .slice none 0 0]
  rw [show (((w.alloc (.cells #[.int .u8 0, .slice none 0 0] 32)).alloc (.cells #[.int .u8 8, .slice none 0 0] 32)).alloc (.cells #[.int .u8 2, .slice none 0 0, .int .u8 2, .slice none 0 0] 32)).heap.size = w.heap.size + 3 from by simp] at q3
  have S3 : RdS ((((w.alloc (.cells #[.int .u8 0, .slice none 0 0] 32)).alloc (.cells #[.int .u8 8, .slice none 0 0] 32)).alloc (.cells #[.int .u8 2, .slice none 0 0, .int .u8 2, .slice none 0 0] 32)).alloc (.cells #[.int .u8 2, .slice none 0 0, .int .u8 1, .slice none 0 0] 32)) (some ⟨(w.heap.size + 3), 0, none⟩) 2 [(2, []), (1, [])] := rdS_kinds [2, 1] (reads_blk2 q3 2 2 rfl) (by decide)
  clear q3
  go_wp2_with (refine wpList_mk2 _ rfl (.const (.int .i64 8)) (.const (.int .i64 8)) rfl slSC 8 (by rfl) (by rfl) rfl rfl (by omega) ?_; intro w2 o2 b2)
  have e8 : (madeCells (Value.agg #[.int .u8 0, .slice none 0 0]).cells (8 * 2)).toList = (([0, 0, 0, 0, 0, 0, 0, 0] : List Nat).map fun (k : Nat) => [Value.int .u8 (k : Int), Value.slice none 0 0]).flatten := by kernel_rfl
  rw [e8] at o2
  have S4 : RdS w2 (some ⟨((((w.alloc (.cells #[.int .u8 0, .slice none 0 0] 32)).alloc (.cells #[.int .u8 8, .slice none 0 0] 32)).alloc (.cells #[.int .u8 2, .slice none 0 0, .int .u8 2, .slice none 0 0] 32)).alloc (.cells #[.int .u8 2, .slice none 0 0, .int .u8 1, .slice none 0 0] 32)).heap.size, 0, none⟩) 8 [(0, []), (0, []), (0, []), (0, []), (0, []), (0, []), (0, []), (0, [])] := rdS_kinds [0, 0, 0, 0, 0, 0, 0, 0] (own_reads o2) (by decide)
  rw [show ((((w.alloc (.cells #[.int .u8 0, .slice none 0 0] 32)).alloc (.cells #[.int .u8 8, .slice none 0 0] 32)).alloc (.cells #[.int .u8 2, .slice none 0 0, .int .u8 2, .slice none 0 0] 32)).alloc (.cells #[.int .u8 2, .slice none 0 0, .int .u8 1, .slice none 0 0] 32)).heap.size = w.heap.size + 4 from by simp] at S4
  replace S0 := S0.mv b2
  replace S1 := S1.mv b2
  replace S2 := S2.mv b2
  replace S3 := S3.mv b2
  replace hB0 := hB0.trans (b2.mono hB0.size)
  clear o2 b2
  have b2 := (Below.refl w2.heap.size w2).alloc (Nat.le_refl _) (.cells #[.slice (some ⟨w.heap.size, 0, none⟩) 1 1, .slice (some ⟨w.heap.size + 1, 0, none⟩) 1 1, .slice (some ⟨w.heap.size + 2, 0, none⟩) 2 2, .slice (some ⟨w.heap.size + 3, 0, none⟩) 2 2, .slice (some ⟨w.heap.size + 4, 0, none⟩) 8 8] 24)
  have hT := Blk.new w2 24 #[.slice (some ⟨w.heap.size, 0, none⟩) 1 1, .slice (some ⟨w.heap.size + 1, 0, none⟩) 1 1, .slice (some ⟨w.heap.size + 2, 0, none⟩) 2 2, .slice (some ⟨w.heap.size + 3, 0, none⟩) 2 2, .slice (some ⟨w.heap.size + 4, 0, none⟩) 8 8]
  replace S0 := S0.mv b2
  replace S1 := S1.mv b2
  replace S2 := S2.mv b2
  replace S3 := S3.mv b2
  replace S4 := S4.mv b2
  replace hB0 := hB0.alloc hB0.size (.cells #[.slice (some ⟨w.heap.size, 0, none⟩) 1 1, .slice (some ⟨w.heap.size + 1, 0, none⟩) 1 1, .slice (some ⟨w.heap.size + 2, 0, none⟩) 2 2, .slice (some ⟨w.heap.size + 3, 0, none⟩) 2 2, .slice (some ⟨w.heap.size + 4, 0, none⟩) 8 8] 24)
  clear b2
  generalize hPT_ : w2.heap.size = PT at *
  generalize w2.alloc (.cells #[.slice (some ⟨w.heap.size, 0, none⟩) 1 1, .slice (some ⟨w.heap.size + 1, 0, none⟩) 1 1, .slice (some ⟨w.heap.size + 2, 0, none⟩) 2 2, .slice (some ⟨w.heap.size + 3, 0, none⟩) 2 2, .slice (some ⟨w.heap.size + 4, 0, none⟩) 8 8] 24) = w3 at *
  clear hPT_
  have HS0 := Lib.hid S0
  clear S0
  have HS1 := Lib.hid S1
  clear S1
  have HS2 := Lib.hid S2
  clear S2
  have HS3 := Lib.hid S3
  clear S3
  have HS4 := Lib.hid S4
  clear S4
  have hPT := hT.lt
  have HT := Lib.hid hT
  clear hT
  go_loopw [2] (fun i wr => ∃ j : Nat, j ≤ 5 ∧ i = .int .i64 (j : Int) ∧ Below w3.heap.size w3 wr) (fun i _ => 5 - (intOf i).toNat)
  case atStart => exact ⟨0, by omega, rfl, Below.refl _ _⟩
  case round =>
    obtain ⟨j, hj, rfl, hC⟩ := hrel
    have hT := HT.out.below hC hPT
    rcases j with _ | _ | _ | _ | _ | _ | j
    · have hB := hC
      have z1 : wr.cell? ⟨PT, 0, none⟩ = some (.slice (some ⟨w.heap.size, 0, none⟩) 1 1) := (hT.cell 0).trans rfl
      have z2 := hT.frozen 0
      have z3 : wr.cell? ⟨PT, 1, none⟩ = some (.slice (some ⟨w.heap.size + 1, 0, none⟩) 1 1) := (hT.cell 1).trans rfl
      have z4 := hT.frozen 1
      have z5 : wr.cell? ⟨PT, 2, none⟩ = some (.slice (some ⟨w.heap.size + 2, 0, none⟩) 2 2) := (hT.cell 2).trans rfl
      have z6 := hT.frozen 2
      have z7 : wr.cell? ⟨PT, 3, none⟩ = some (.slice (some ⟨w.heap.size + 3, 0, none⟩) 2 2) := (hT.cell 3).trans rfl
      have z8 := hT.frozen 3
      have z9 : wr.cell? ⟨PT, 4, none⟩ = some (.slice (some ⟨w.heap.size + 4, 0, none⟩) 8 8) := (hT.cell 4).trans rfl
      have z10 := hT.frozen 4
      have z11 := hT.lt
      go_wp2_with fail
      refine (writeBad (some ⟨w.heap.size, 0, none⟩) 1 1 ([(0, [])] : List (Nat × List UInt8)) 8 _ (HS0.out.mv (by have hs_ := hC.size; repeat (first | with_reducible exact hC | with_reducible (refine Below.setCell ?_ (by simp <;> omega) _) | with_reducible (refine Below.alloc ?_ (by first | exact hs_ | (simp <;> omega)) _) | with_reducible (refine Below.drew ?_)))) (by omega) (by decide) (by omega)).mono ?_
      rintro e x1 ⟨A1, c1, rfl, bB⟩
      replace hT := Blk.via0 (g := PT) (t := 24) bB (by repeat (first | with_reducible exact hT | with_reducible (apply Blk.set_) | with_reducible (apply Blk.far; case hp => (simp <;> omega)) | with_reducible (apply Blk.alloc) | with_reducible (apply Blk.drew)))
      replace hT : Blk x1 PT 24 #[.slice (some ⟨w.heap.size, 0, none⟩) 1 1, .slice (some ⟨w.heap.size + 1, 0, none⟩) 1 1, .slice (some ⟨w.heap.size + 2, 0, none⟩) 2 2, .slice (some ⟨w.heap.size + 3, 0, none⟩) 2 2, .slice (some ⟨w.heap.size + 4, 0, none⟩) 8 8] := hT
      replace hC := Below.via (w := w3) (by have hs_ := hC.size; repeat (first | with_reducible exact hC | with_reducible (refine Below.setCell ?_ (by simp <;> omega) _) | with_reducible (refine Below.alloc ?_ (by first | exact hs_ | (simp <;> omega)) _) | with_reducible (refine Below.drew ?_))) bB
      replace hB := Below.via (w := w3) (by have hs_ := hB.size; repeat (first | with_reducible exact hB | with_reducible (refine Below.setCell ?_ (by simp <;> omega) _) | with_reducible (refine Below.alloc ?_ (by first | exact hs_ | (simp <;> omega)) _) | with_reducible (refine Below.drew ?_))) bB
      clear z1 z2 z3 z4 z5 z6 z7 z8 z9 z10 z11
      clear bB
      have z12 : x1.cell? ⟨PT, 0, none⟩ = some (.slice (some ⟨w.heap.size, 0, none⟩) 1 1) := (hT.cell 0).trans rfl
      have z13 := hT.frozen 0
      have z14 : x1.cell? ⟨PT, 1, none⟩ = some (.slice (some ⟨w.heap.size + 1, 0, none⟩) 1 1) := (hT.cell 1).trans rfl
      have z15 := hT.frozen 1
      have z16 : x1.cell? ⟨PT, 2, none⟩ = some (.slice (some ⟨w.heap.size + 2, 0, none⟩) 2 2) := (hT.cell 2).trans rfl
      have z17 := hT.frozen 2
      have z18 : x1.cell? ⟨PT, 3, none⟩ = some (.slice (some ⟨w.heap.size + 3, 0, none⟩) 2 2) := (hT.cell 3).trans rfl
      have z19 := hT.frozen 3
      have z20 : x1.cell? ⟨PT, 4, none⟩ = some (.slice (some ⟨w.heap.size + 4, 0, none⟩) 8 8) := (hT.cell 4).trans rfl
      have z21 := hT.frozen 4
      have z22 := hT.lt
      go_wp2_with fail
      refine (findBad (some ⟨w.heap.size, 0, none⟩) 1 1 ([(0, [])] : List (Nat × List UInt8)) 1 8 _ (HS0.out.mv (by have hs_ := hC.size; repeat (first | with_reducible exact hC | with_reducible (refine Below.setCell ?_ (by simp <;> omega) _) | with_reducible (refine Below.alloc ?_ (by first | exact hs_ | (simp <;> omega)) _) | with_reducible (refine Below.drew ?_)))) (by omega) (by omega) (by decide) (by decide) (by omega)).mono ?_
      rintro e x2 ⟨A2, c2, rfl, bB⟩
      replace hT := Blk.via0 (g := PT) (t := 24) bB (by repeat (first | with_reducible exact hT | with_reducible (apply Blk.set_) | with_reducible (apply Blk.far; case hp => (simp <;> omega)) | with_reducible (apply Blk.alloc) | with_reducible (apply Blk.drew)))
      replace hT : Blk x2 PT 24 #[.slice (some ⟨w.heap.size, 0, none⟩) 1 1, .slice (some ⟨w.heap.size + 1, 0, none⟩) 1 1, .slice (some ⟨w.heap.size + 2, 0, none⟩) 2 2, .slice (some ⟨w.heap.size + 3, 0, none⟩) 2 2, .slice (some ⟨w.heap.size + 4, 0, none⟩) 8 8] := hT
      replace hC := Below.via (w := w3) (by have hs_ := hC.size; repeat (first | with_reducible exact hC | with_reducible (refine Below.setCell ?_ (by simp <;> omega) _) | with_reducible (refine Below.alloc ?_ (by first | exact hs_ | (simp <;> omega)) _) | with_reducible (refine Below.drew ?_))) bB
      replace hB := Below.via (w := w3) (by have hs_ := hB.size; repeat (first | with_reducible exact hB | with_reducible (refine Below.setCell ?_ (by simp <;> omega) _) | with_reducible (refine Below.alloc ?_ (by first | exact hs_ | (simp <;> omega)) _) | with_reducible (refine Below.drew ?_))) bB
      clear z12 z13 z14 z15 z16 z17 z18 z19 z20 z21 z22
      clear bB
      have z23 : x2.cell? ⟨PT, 0, none⟩ = some (.slice (some ⟨w.heap.size, 0, none⟩) 1 1) := (hT.cell 0).trans rfl
      have z24 := hT.frozen 0
      have z25 : x2.cell? ⟨PT, 1, none⟩ = some (.slice (some ⟨w.heap.size + 1, 0, none⟩) 1 1) := (hT.cell 1).trans rfl
      have z26 := hT.frozen 1
      have z27 : x2.cell? ⟨PT, 2, none⟩ = some (.slice (some ⟨w.heap.size + 2, 0, none⟩) 2 2) := (hT.cell 2).trans rfl
      have z28 := hT.frozen 2
      have z29 : x2.cell? ⟨PT, 3, none⟩ = some (.slice (some ⟨w.heap.size + 3, 0, none⟩) 2 2) := (hT.cell 3).trans rfl
      have z30 := hT.frozen 3
      have z31 : x2.cell? ⟨PT, 4, none⟩ = some (.slice (some ⟨w.heap.size + 4, 0, none⟩) 8 8) := (hT.cell 4).trans rfl
      have z32 := hT.frozen 4
      have z33 := hT.lt
      go_wp2_with fail
      refine (checkIs (some ⟨w.heap.size, 0, none⟩) 1 1 ([(0, [])] : List (Nat × List UInt8)) 8 _ (HS0.out.mv (by have hs_ := hC.size; repeat (first | with_reducible exact hC | with_reducible (refine Below.setCell ?_ (by simp <;> omega) _) | with_reducible (refine Below.alloc ?_ (by first | exact hs_ | (simp <;> omega)) _) | with_reducible (refine Below.drew ?_)))) (by omega) (by decide)).mono ?_
      rintro e x3 ⟨rfl, bB⟩
      replace hT := Blk.via0 (g := PT) (t := 24) bB (by repeat (first | with_reducible exact hT | with_reducible (apply Blk.set_) | with_reducible (apply Blk.far; case hp => (simp <;> omega)) | with_reducible (apply Blk.alloc) | with_reducible (apply Blk.drew)))
      replace hT : Blk x3 PT 24 #[.slice (some ⟨w.heap.size, 0, none⟩) 1 1, .slice (some ⟨w.heap.size + 1, 0, none⟩) 1 1, .slice (some ⟨w.heap.size + 2, 0, none⟩) 2 2, .slice (some ⟨w.heap.size + 3, 0, none⟩) 2 2, .slice (some ⟨w.heap.size + 4, 0, none⟩) 8 8] := hT
      replace hC := Below.via (w := w3) (by have hs_ := hC.size; repeat (first | with_reducible exact hC | with_reducible (refine Below.setCell ?_ (by simp <;> omega) _) | with_reducible (refine Below.alloc ?_ (by first | exact hs_ | (simp <;> omega)) _) | with_reducible (refine Below.drew ?_))) bB
      replace hB := Below.via (w := w3) (by have hs_ := hB.size; repeat (first | with_reducible exact hB | with_reducible (refine Below.setCell ?_ (by simp <;> omega) _) | with_reducible (refine Below.alloc ?_ (by first | exact hs_ | (simp <;> omega)) _) | with_reducible (refine Below.drew ?_))) bB
      clear z23 z24 z25 z26 z27 z28 z29 z30 z31 z32 z33
      clear bB
      have z34 : x3.cell? ⟨PT, 0, none⟩ = some (.slice (some ⟨w.heap.size, 0, none⟩) 1 1) := (hT.cell 0).trans rfl
      have z35 := hT.frozen 0
      have z36 : x3.cell? ⟨PT, 1, none⟩ = some (.slice (some ⟨w.heap.size + 1, 0, none⟩) 1 1) := (hT.cell 1).trans rfl
      have z37 := hT.frozen 1
      have z38 : x3.cell? ⟨PT, 2, none⟩ = some (.slice (some ⟨w.heap.size + 2, 0, none⟩) 2 2) := (hT.cell 2).trans rfl
      have z39 := hT.frozen 2
      have z40 : x3.cell? ⟨PT, 3, none⟩ = some (.slice (some ⟨w.heap.size + 3, 0, none⟩) 2 2) := (hT.cell 3).trans rfl
      have z41 := hT.frozen 3
      have z42 : x3.cell? ⟨PT, 4, none⟩ = some (.slice (some ⟨w.heap.size + 4, 0, none⟩) 8 8) := (hT.cell 4).trans rfl
      have z43 := hT.frozen 4
      have z44 := hT.lt
      go_wp2_with fail
      go_roundw
      case rel => exact ⟨1, by omega, by go_num, (by have hs_ := hC.size; repeat (first | with_reducible exact hC | with_reducible (refine Below.setCell ?_ (by simp <;> omega) _) | with_reducible (refine Below.alloc ?_ (by first | exact hs_ | (simp <;> omega)) _) | with_reducible (refine Below.drew ?_)))⟩
      case measure => simp [intOf]
    · have hB := hC
      have z1 : wr.cell? ⟨PT, 0, none⟩ = some (.slice (some ⟨w.heap.size, 0, none⟩) 1 1) := (hT.cell 0).trans rfl
      have z2 := hT.frozen 0
      have z3 : wr.cell? ⟨PT, 1, none⟩ = some (.slice (some ⟨w.heap.size + 1, 0, none⟩) 1 1) := (hT.cell 1).trans rfl
      have z4 := hT.frozen 1
      have z5 : wr.cell? ⟨PT, 2, none⟩ = some (.slice (some ⟨w.heap.size + 2, 0, none⟩) 2 2) := (hT.cell 2).trans rfl
      have z6 := hT.frozen 2
      have z7 : wr.cell? ⟨PT, 3, none⟩ = some (.slice (some ⟨w.heap.size + 3, 0, none⟩) 2 2) := (hT.cell 3).trans rfl
      have z8 := hT.frozen 3
      have z9 : wr.cell? ⟨PT, 4, none⟩ = some (.slice (some ⟨w.heap.size + 4, 0, none⟩) 8 8) := (hT.cell 4).trans rfl
      have z10 := hT.frozen 4
      have z11 := hT.lt
      go_wp2_with fail
      refine (writeBad (some ⟨w.heap.size + 1, 0, none⟩) 1 1 ([(8, [])] : List (Nat × List UInt8)) 8 _ (HS1.out.mv (by have hs_ := hC.size; repeat (first | with_reducible exact hC | with_reducible (refine Below.setCell ?_ (by simp <;> omega) _) | with_reducible (refine Below.alloc ?_ (by first | exact hs_ | (simp <;> omega)) _) | with_reducible (refine Below.drew ?_)))) (by omega) (by decide) (by omega)).mono ?_
      rintro e x1 ⟨A1, c1, rfl, bB⟩
      replace hT := Blk.via0 (g := PT) (t := 24) bB (by repeat (first | with_reducible exact hT | with_reducible (apply Blk.set_) | with_reducible (apply Blk.far; case hp => (simp <;> omega)) | with_reducible (apply Blk.alloc) | with_reducible (apply Blk.drew)))
      replace hT : Blk x1 PT 24 #[.slice (some ⟨w.heap.size, 0, none⟩) 1 1, .slice (some ⟨w.heap.size + 1, 0, none⟩) 1 1, .slice (some ⟨w.heap.size + 2, 0, none⟩) 2 2, .slice (some ⟨w.heap.size + 3, 0, none⟩) 2 2, .slice (some ⟨w.heap.size + 4, 0, none⟩) 8 8] := hT
      replace hC := Below.via (w := w3) (by have hs_ := hC.size; repeat (first | with_reducible exact hC | with_reducible (refine Below.setCell ?_ (by simp <;> omega) _) | with_reducible (refine Below.alloc ?_ (by first | exact hs_ | (simp <;> omega)) _) | with_reducible (refine Below.drew ?_))) bB
      replace hB := Below.via (w := w3) (by have hs_ := hB.size; repeat (first | with_reducible exact hB | with_reducible (refine Below.setCell ?_ (by simp <;> omega) _) | with_reducible (refine Below.alloc ?_ (by first | exact hs_ | (simp <;> omega)) _) | with_reducible (refine Below.drew ?_))) bB
      clear z1 z2 z3 z4 z5 z6 z7 z8 z9 z10 z11
      clear bB
      have z12 : x1.cell? ⟨PT, 0, none⟩ = some (.slice (some ⟨w.heap.size, 0, none⟩) 1 1) := (hT.cell 0).trans rfl
      have z13 := hT.frozen 0
      have z14 : x1.cell? ⟨PT, 1, none⟩ = some (.slice (some ⟨w.heap.size + 1, 0, none⟩) 1 1) := (hT.cell 1).trans rfl
      have z15 := hT.frozen 1
      have z16 : x1.cell? ⟨PT, 2, none⟩ = some (.slice (some ⟨w.heap.size + 2, 0, none⟩) 2 2) := (hT.cell 2).trans rfl
      have z17 := hT.frozen 2
      have z18 : x1.cell? ⟨PT, 3, none⟩ = some (.slice (some ⟨w.heap.size + 3, 0, none⟩) 2 2) := (hT.cell 3).trans rfl
      have z19 := hT.frozen 3
      have z20 : x1.cell? ⟨PT, 4, none⟩ = some (.slice (some ⟨w.heap.size + 4, 0, none⟩) 8 8) := (hT.cell 4).trans rfl
      have z21 := hT.frozen 4
      have z22 := hT.lt
      go_wp2_with fail
      refine (findBad (some ⟨w.heap.size + 1, 0, none⟩) 1 1 ([(8, [])] : List (Nat × List UInt8)) 1 8 _ (HS1.out.mv (by have hs_ := hC.size; repeat (first | with_reducible exact hC | with_reducible (refine Below.setCell ?_ (by simp <;> omega) _) | with_reducible (refine Below.alloc ?_ (by first | exact hs_ | (simp <;> omega)) _) | with_reducible (refine Below.drew ?_)))) (by omega) (by omega) (by decide) (by decide) (by omega)).mono ?_
      rintro e x2 ⟨A2, c2, rfl, bB⟩
      replace hT := Blk.via0 (g := PT) (t := 24) bB (by repeat (first | with_reducible exact hT | with_reducible (apply Blk.set_) | with_reducible (apply Blk.far; case hp => (simp <;> omega)) | with_reducible (apply Blk.alloc) | with_reducible (apply Blk.drew)))
      replace hT : Blk x2 PT 24 #[.slice (some ⟨w.heap.size, 0, none⟩) 1 1, .slice (some ⟨w.heap.size + 1, 0, none⟩) 1 1, .slice (some ⟨w.heap.size + 2, 0, none⟩) 2 2, .slice (some ⟨w.heap.size + 3, 0, none⟩) 2 2, .slice (some ⟨w.heap.size + 4, 0, none⟩) 8 8] := hT
      replace hC := Below.via (w := w3) (by have hs_ := hC.size; repeat (first | with_reducible exact hC | with_reducible (refine Below.setCell ?_ (by simp <;> omega) _) | with_reducible (refine Below.alloc ?_ (by first | exact hs_ | (simp <;> omega)) _) | with_reducible (refine Below.drew ?_))) bB
      replace hB := Below.via (w := w3) (by have hs_ := hB.size; repeat (first | with_reducible exact hB | with_reducible (refine Below.setCell ?_ (by simp <;> omega) _) | with_reducible (refine Below.alloc ?_ (by first | exact hs_ | (simp <;> omega)) _) | with_reducible (refine Below.drew ?_))) bB
      clear z12 z13 z14 z15 z16 z17 z18 z19 z20 z21 z22
      clear bB
      have z23 : x2.cell? ⟨PT, 0, none⟩ = some (.slice (some ⟨w.heap.size, 0, none⟩) 1 1) := (hT.cell 0).trans rfl
      have z24 := hT.frozen 0
      have z25 : x2.cell? ⟨PT, 1, none⟩ = some (.slice (some ⟨w.heap.size + 1, 0, none⟩) 1 1) := (hT.cell 1).trans rfl
      have z26 := hT.frozen 1
      have z27 : x2.cell? ⟨PT, 2, none⟩ = some (.slice (some ⟨w.heap.size + 2, 0, none⟩) 2 2) := (hT.cell 2).trans rfl
      have z28 := hT.frozen 2
      have z29 : x2.cell? ⟨PT, 3, none⟩ = some (.slice (some ⟨w.heap.size + 3, 0, none⟩) 2 2) := (hT.cell 3).trans rfl
      have z30 := hT.frozen 3
      have z31 : x2.cell? ⟨PT, 4, none⟩ = some (.slice (some ⟨w.heap.size + 4, 0, none⟩) 8 8) := (hT.cell 4).trans rfl
      have z32 := hT.frozen 4
      have z33 := hT.lt
      go_wp2_with fail
      refine (checkIs (some ⟨w.heap.size + 1, 0, none⟩) 1 1 ([(8, [])] : List (Nat × List UInt8)) 8 _ (HS1.out.mv (by have hs_ := hC.size; repeat (first | with_reducible exact hC | with_reducible (refine Below.setCell ?_ (by simp <;> omega) _) | with_reducible (refine Below.alloc ?_ (by first | exact hs_ | (simp <;> omega)) _) | with_reducible (refine Below.drew ?_)))) (by omega) (by decide)).mono ?_
      rintro e x3 ⟨rfl, bB⟩
      replace hT := Blk.via0 (g := PT) (t := 24) bB (by repeat (first | with_reducible exact hT | with_reducible (apply Blk.set_) | with_reducible (apply Blk.far; case hp => (simp <;> omega)) | with_reducible (apply Blk.alloc) | with_reducible (apply Blk.drew)))
      replace hT : Blk x3 PT 24 #[.slice (some ⟨w.heap.size, 0, none⟩) 1 1, .slice (some ⟨w.heap.size + 1, 0, none⟩) 1 1, .slice (some ⟨w.heap.size + 2, 0, none⟩) 2 2, .slice (some ⟨w.heap.size + 3, 0, none⟩) 2 2, .slice (some ⟨w.heap.size + 4, 0, none⟩) 8 8] := hT
      replace hC := Below.via (w := w3) (by have hs_ := hC.size; repeat (first | with_reducible exact hC | with_reducible (refine Below.setCell ?_ (by simp <;> omega) _) | with_reducible (refine Below.alloc ?_ (by first | exact hs_ | (simp <;> omega)) _) | with_reducible (refine Below.drew ?_))) bB
      replace hB := Below.via (w := w3) (by have hs_ := hB.size; repeat (first | with_reducible exact hB | with_reducible (refine Below.setCell ?_ (by simp <;> omega) _) | with_reducible (refine Below.alloc ?_ (by first | exact hs_ | (simp <;> omega)) _) | with_reducible (refine Below.drew ?_))) bB
      clear z23 z24 z25 z26 z27 z28 z29 z30 z31 z32 z33
      clear bB
      have z34 : x3.cell? ⟨PT, 0, none⟩ = some (.slice (some ⟨w.heap.size, 0, none⟩) 1 1) := (hT.cell 0).trans rfl
      have z35 := hT.frozen 0
      have z36 : x3.cell? ⟨PT, 1, none⟩ = some (.slice (some ⟨w.heap.size + 1, 0, none⟩) 1 1) := (hT.cell 1).trans rfl
      have z37 := hT.frozen 1
      have z38 : x3.cell? ⟨PT, 2, none⟩ = some (.slice (some ⟨w.heap.size + 2, 0, none⟩) 2 2) := (hT.cell 2).trans rfl
      have z39 := hT.frozen 2
      have z40 : x3.cell? ⟨PT, 3, none⟩ = some (.slice (some ⟨w.heap.size + 3, 0, none⟩) 2 2) := (hT.cell 3).trans rfl
      have z41 := hT.frozen 3
      have z42 : x3.cell? ⟨PT, 4, none⟩ = some (.slice (some ⟨w.heap.size + 4, 0, none⟩) 8 8) := (hT.cell 4).trans rfl
      have z43 := hT.frozen 4
      have z44 := hT.lt
      go_wp2_with fail
      go_roundw
      case rel => exact ⟨2, by omega, by go_num, (by have hs_ := hC.size; repeat (first | with_reducible exact hC | with_reducible (refine Below.setCell ?_ (by simp <;> omega) _) | with_reducible (refine Below.alloc ?_ (by first | exact hs_ | (simp <;> omega)) _) | with_reducible (refine Below.drew ?_)))⟩
      case measure => simp [intOf]
    · have hB := hC
      have z1 : wr.cell? ⟨PT, 0, none⟩ = some (.slice (some ⟨w.heap.size, 0, none⟩) 1 1) := (hT.cell 0).trans rfl
      have z2 := hT.frozen 0
      have z3 : wr.cell? ⟨PT, 1, none⟩ = some (.slice (some ⟨w.heap.size + 1, 0, none⟩) 1 1) := (hT.cell 1).trans rfl
      have z4 := hT.frozen 1
      have z5 : wr.cell? ⟨PT, 2, none⟩ = some (.slice (some ⟨w.heap.size + 2, 0, none⟩) 2 2) := (hT.cell 2).trans rfl
      have z6 := hT.frozen 2
      have z7 : wr.cell? ⟨PT, 3, none⟩ = some (.slice (some ⟨w.heap.size + 3, 0, none⟩) 2 2) := (hT.cell 3).trans rfl
      have z8 := hT.frozen 3
      have z9 : wr.cell? ⟨PT, 4, none⟩ = some (.slice (some ⟨w.heap.size + 4, 0, none⟩) 8 8) := (hT.cell 4).trans rfl
      have z10 := hT.frozen 4
      have z11 := hT.lt
      go_wp2_with fail
      refine (writeBad (some ⟨w.heap.size + 2, 0, none⟩) 2 2 ([(2, []), (2, [])] : List (Nat × List UInt8)) 8 _ (HS2.out.mv (by have hs_ := hC.size; repeat (first | with_reducible exact hC | with_reducible (refine Below.setCell ?_ (by simp <;> omega) _) | with_reducible (refine Below.alloc ?_ (by first | exact hs_ | (simp <;> omega)) _) | with_reducible (refine Below.drew ?_)))) (by omega) (by decide) (by omega)).mono ?_
      rintro e x1 ⟨A1, c1, rfl, bB⟩
      replace hT := Blk.via0 (g := PT) (t := 24) bB (by repeat (first | with_reducible exact hT | with_reducible (apply Blk.set_) | with_reducible (apply Blk.far; case hp => (simp <;> omega)) | with_reducible (apply Blk.alloc) | with_reducible (apply Blk.drew)))
      replace hT : Blk x1 PT 24 #[.slice (some ⟨w.heap.size, 0, none⟩) 1 1, .slice (some ⟨w.heap.size + 1, 0, none⟩) 1 1, .slice (some ⟨w.heap.size + 2, 0, none⟩) 2 2, .slice (some ⟨w.heap.size + 3, 0, none⟩) 2 2, .slice (some ⟨w.heap.size + 4, 0, none⟩) 8 8] := hT
      replace hC := Below.via (w := w3) (by have hs_ := hC.size; repeat (first | with_reducible exact hC | with_reducible (refine Below.setCell ?_ (by simp <;> omega) _) | with_reducible (refine Below.alloc ?_ (by first | exact hs_ | (simp <;> omega)) _) | with_reducible (refine Below.drew ?_))) bB
      replace hB := Below.via (w := w3) (by have hs_ := hB.size; repeat (first | with_reducible exact hB | with_reducible (refine Below.setCell ?_ (by simp <;> omega) _) | with_reducible (refine Below.alloc ?_ (by first | exact hs_ | (simp <;> omega)) _) | with_reducible (refine Below.drew ?_))) bB
      clear z1 z2 z3 z4 z5 z6 z7 z8 z9 z10 z11
      clear bB
      have z12 : x1.cell? ⟨PT, 0, none⟩ = some (.slice (some ⟨w.heap.size, 0, none⟩) 1 1) := (hT.cell 0).trans rfl
      have z13 := hT.frozen 0
      have z14 : x1.cell? ⟨PT, 1, none⟩ = some (.slice (some ⟨w.heap.size + 1, 0, none⟩) 1 1) := (hT.cell 1).trans rfl
      have z15 := hT.frozen 1
      have z16 : x1.cell? ⟨PT, 2, none⟩ = some (.slice (some ⟨w.heap.size + 2, 0, none⟩) 2 2) := (hT.cell 2).trans rfl
      have z17 := hT.frozen 2
      have z18 : x1.cell? ⟨PT, 3, none⟩ = some (.slice (some ⟨w.heap.size + 3, 0, none⟩) 2 2) := (hT.cell 3).trans rfl
      have z19 := hT.frozen 3
      have z20 : x1.cell? ⟨PT, 4, none⟩ = some (.slice (some ⟨w.heap.size + 4, 0, none⟩) 8 8) := (hT.cell 4).trans rfl
      have z21 := hT.frozen 4
      have z22 := hT.lt
      go_wp2_with fail
      refine (findBad (some ⟨w.heap.size + 2, 0, none⟩) 2 2 ([(2, []), (2, [])] : List (Nat × List UInt8)) 1 8 _ (HS2.out.mv (by have hs_ := hC.size; repeat (first | with_reducible exact hC | with_reducible (refine Below.setCell ?_ (by simp <;> omega) _) | with_reducible (refine Below.alloc ?_ (by first | exact hs_ | (simp <;> omega)) _) | with_reducible (refine Below.drew ?_)))) (by omega) (by omega) (by decide) (by decide) (by omega)).mono ?_
      rintro e x2 ⟨A2, c2, rfl, bB⟩
      replace hT := Blk.via0 (g := PT) (t := 24) bB (by repeat (first | with_reducible exact hT | with_reducible (apply Blk.set_) | with_reducible (apply Blk.far; case hp => (simp <;> omega)) | with_reducible (apply Blk.alloc) | with_reducible (apply Blk.drew)))
      replace hT : Blk x2 PT 24 #[.slice (some ⟨w.heap.size, 0, none⟩) 1 1, .slice (some ⟨w.heap.size + 1, 0, none⟩) 1 1, .slice (some ⟨w.heap.size + 2, 0, none⟩) 2 2, .slice (some ⟨w.heap.size + 3, 0, none⟩) 2 2, .slice (some ⟨w.heap.size + 4, 0, none⟩) 8 8] := hT
      replace hC := Below.via (w := w3) (by have hs_ := hC.size; repeat (first | with_reducible exact hC | with_reducible (refine Below.setCell ?_ (by simp <;> omega) _) | with_reducible (refine Below.alloc ?_ (by first | exact hs_ | (simp <;> omega)) _) | with_reducible (refine Below.drew ?_))) bB
      replace hB := Below.via (w := w3) (by have hs_ := hB.size; repeat (first | with_reducible exact hB | with_reducible (refine Below.setCell ?_ (by simp <;> omega) _) | with_reducible (refine Below.alloc ?_ (by first | exact hs_ | (simp <;> omega)) _) | with_reducible (refine Below.drew ?_))) bB
      clear z12 z13 z14 z15 z16 z17 z18 z19 z20 z21 z22
      clear bB
      have z23 : x2.cell? ⟨PT, 0, none⟩ = some (.slice (some ⟨w.heap.size, 0, none⟩) 1 1) := (hT.cell 0).trans rfl
      have z24 := hT.frozen 0
      have z25 : x2.cell? ⟨PT, 1, none⟩ = some (.slice (some ⟨w.heap.size + 1, 0, none⟩) 1 1) := (hT.cell 1).trans rfl
      have z26 := hT.frozen 1
      have z27 : x2.cell? ⟨PT, 2, none⟩ = some (.slice (some ⟨w.heap.size + 2, 0, none⟩) 2 2) := (hT.cell 2).trans rfl
      have z28 := hT.frozen 2
      have z29 : x2.cell? ⟨PT, 3, none⟩ = some (.slice (some ⟨w.heap.size + 3, 0, none⟩) 2 2) := (hT.cell 3).trans rfl
      have z30 := hT.frozen 3
      have z31 : x2.cell? ⟨PT, 4, none⟩ = some (.slice (some ⟨w.heap.size + 4, 0, none⟩) 8 8) := (hT.cell 4).trans rfl
      have z32 := hT.frozen 4
      have z33 := hT.lt
      go_wp2_with fail
      refine (checkIs (some ⟨w.heap.size + 2, 0, none⟩) 2 2 ([(2, []), (2, [])] : List (Nat × List UInt8)) 8 _ (HS2.out.mv (by have hs_ := hC.size; repeat (first | with_reducible exact hC | with_reducible (refine Below.setCell ?_ (by simp <;> omega) _) | with_reducible (refine Below.alloc ?_ (by first | exact hs_ | (simp <;> omega)) _) | with_reducible (refine Below.drew ?_)))) (by omega) (by decide)).mono ?_
      rintro e x3 ⟨rfl, bB⟩
      replace hT := Blk.via0 (g := PT) (t := 24) bB (by repeat (first | with_reducible exact hT | with_reducible (apply Blk.set_) | with_reducible (apply Blk.far; case hp => (simp <;> omega)) | with_reducible (apply Blk.alloc) | with_reducible (apply Blk.drew)))
      replace hT : Blk x3 PT 24 #[.slice (some ⟨w.heap.size, 0, none⟩) 1 1, .slice (some ⟨w.heap.size + 1, 0, none⟩) 1 1, .slice (some ⟨w.heap.size + 2, 0, none⟩) 2 2, .slice (some ⟨w.heap.size + 3, 0, none⟩) 2 2, .slice (some ⟨w.heap.size + 4, 0, none⟩) 8 8] := hT
      replace hC := Below.via (w := w3) (by have hs_ := hC.size; repeat (first | with_reducible exact hC | with_reducible (refine Below.setCell ?_ (by simp <;> omega) _) | with_reducible (refine Below.alloc ?_ (by first | exact hs_ | (simp <;> omega)) _) | with_reducible (refine Below.drew ?_))) bB
      replace hB := Below.via (w := w3) (by have hs_ := hB.size; repeat (first | with_reducible exact hB | with_reducible (refine Below.setCell ?_ (by simp <;> omega) _) | with_reducible (refine Below.alloc ?_ (by first | exact hs_ | (simp <;> omega)) _) | with_reducible (refine Below.drew ?_))) bB
      clear z23 z24 z25 z26 z27 z28 z29 z30 z31 z32 z33
      clear bB
      have z34 : x3.cell? ⟨PT, 0, none⟩ = some (.slice (some ⟨w.heap.size, 0, none⟩) 1 1) := (hT.cell 0).trans rfl
      have z35 := hT.frozen 0
      have z36 : x3.cell? ⟨PT, 1, none⟩ = some (.slice (some ⟨w.heap.size + 1, 0, none⟩) 1 1) := (hT.cell 1).trans rfl
      have z37 := hT.frozen 1
      have z38 : x3.cell? ⟨PT, 2, none⟩ = some (.slice (some ⟨w.heap.size + 2, 0, none⟩) 2 2) := (hT.cell 2).trans rfl
      have z39 := hT.frozen 2
      have z40 : x3.cell? ⟨PT, 3, none⟩ = some (.slice (some ⟨w.heap.size + 3, 0, none⟩) 2 2) := (hT.cell 3).trans rfl
      have z41 := hT.frozen 3
      have z42 : x3.cell? ⟨PT, 4, none⟩ = some (.slice (some ⟨w.heap.size + 4, 0, none⟩) 8 8) := (hT.cell 4).trans rfl
      have z43 := hT.frozen 4
      have z44 := hT.lt
      go_wp2_with fail
      go_roundw
      case rel => exact ⟨3, by omega, by go_num, (by have hs_ := hC.size; repeat (first | with_reducible exact hC | with_reducible (refine Below.setCell ?_ (by simp <;> omega) _) | with_reducible (refine Below.alloc ?_ (by first | exact hs_ | (simp <;> omega)) _) | with_reducible (refine Below.drew ?_)))⟩
      case measure => simp [intOf]
    · have hB := hC
      have z1 : wr.cell? ⟨PT, 0, none⟩ = some (.slice (some ⟨w.heap.size, 0, none⟩) 1 1) := (hT.cell 0).trans rfl
      have z2 := hT.frozen 0
      have z3 : wr.cell? ⟨PT, 1, none⟩ = some (.slice (some ⟨w.heap.size + 1, 0, none⟩) 1 1) := (hT.cell 1).trans rfl
      have z4 := hT.frozen 1
      have z5 : wr.cell? ⟨PT, 2, none⟩ = some (.slice (some ⟨w.heap.size + 2, 0, none⟩) 2 2) := (hT.cell 2).trans rfl
      have z6 := hT.frozen 2
      have z7 : wr.cell? ⟨PT, 3, none⟩ = some (.slice (some ⟨w.heap.size + 3, 0, none⟩) 2 2) := (hT.cell 3).trans rfl
      have z8 := hT.frozen 3
      have z9 : wr.cell? ⟨PT, 4, none⟩ = some (.slice (some ⟨w.heap.size + 4, 0, none⟩) 8 8) := (hT.cell 4).trans rfl
      have z10 := hT.frozen 4
      have z11 := hT.lt
      go_wp2_with fail
      refine (writeBad (some ⟨w.heap.size + 3, 0, none⟩) 2 2 ([(2, []), (1, [])] : List (Nat × List UInt8)) 8 _ (HS3.out.mv (by have hs_ := hC.size; repeat (first | with_reducible exact hC | with_reducible (refine Below.setCell ?_ (by simp <;> omega) _) | with_reducible (refine Below.alloc ?_ (by first | exact hs_ | (simp <;> omega)) _) | with_reducible (refine Below.drew ?_)))) (by omega) (by decide) (by omega)).mono ?_
      rintro e x1 ⟨A1, c1, rfl, bB⟩
      replace hT := Blk.via0 (g := PT) (t := 24) bB (by repeat (first | with_reducible exact hT | with_reducible (apply Blk.set_) | with_reducible (apply Blk.far; case hp => (simp <;> omega)) | with_reducible (apply Blk.alloc) | with_reducible (apply Blk.drew)))
      replace hT : Blk x1 PT 24 #[.slice (some ⟨w.heap.size, 0, none⟩) 1 1, .slice (some ⟨w.heap.size + 1, 0, none⟩) 1 1, .slice (some ⟨w.heap.size + 2, 0, none⟩) 2 2, .slice (some ⟨w.heap.size + 3, 0, none⟩) 2 2, .slice (some ⟨w.heap.size + 4, 0, none⟩) 8 8] := hT
      replace hC := Below.via (w := w3) (by have hs_ := hC.size; repeat (first | with_reducible exact hC | with_reducible (refine Below.setCell ?_ (by simp <;> omega) _) | with_reducible (refine Below.alloc ?_ (by first | exact hs_ | (simp <;> omega)) _) | with_reducible (refine Below.drew ?_))) bB
      replace hB := Below.via (w := w3) (by have hs_ := hB.size; repeat (first | with_reducible exact hB | with_reducible (refine Below.setCell ?_ (by simp <;> omega) _) | with_reducible (refine Below.alloc ?_ (by first | exact hs_ | (simp <;> omega)) _) | with_reducible (refine Below.drew ?_))) bB
      clear z1 z2 z3 z4 z5 z6 z7 z8 z9 z10 z11
      clear bB
      have z12 : x1.cell? ⟨PT, 0, none⟩ = some (.slice (some ⟨w.heap.size, 0, none⟩) 1 1) := (hT.cell 0).trans rfl
      have z13 := hT.frozen 0
      have z14 : x1.cell? ⟨PT, 1, none⟩ = some (.slice (some ⟨w.heap.size + 1, 0, none⟩) 1 1) := (hT.cell 1).trans rfl
      have z15 := hT.frozen 1
      have z16 : x1.cell? ⟨PT, 2, none⟩ = some (.slice (some ⟨w.heap.size + 2, 0, none⟩) 2 2) := (hT.cell 2).trans rfl
      have z17 := hT.frozen 2
      have z18 : x1.cell? ⟨PT, 3, none⟩ = some (.slice (some ⟨w.heap.size + 3, 0, none⟩) 2 2) := (hT.cell 3).trans rfl
      have z19 := hT.frozen 3
      have z20 : x1.cell? ⟨PT, 4, none⟩ = some (.slice (some ⟨w.heap.size + 4, 0, none⟩) 8 8) := (hT.cell 4).trans rfl
      have z21 := hT.frozen 4
      have z22 := hT.lt
      go_wp2_with fail
      refine (findBad (some ⟨w.heap.size + 3, 0, none⟩) 2 2 ([(2, []), (1, [])] : List (Nat × List UInt8)) 1 8 _ (HS3.out.mv (by have hs_ := hC.size; repeat (first | with_reducible exact hC | with_reducible (refine Below.setCell ?_ (by simp <;> omega) _) | with_reducible (refine Below.alloc ?_ (by first | exact hs_ | (simp <;> omega)) _) | with_reducible (refine Below.drew ?_)))) (by omega) (by omega) (by decide) (by decide) (by omega)).mono ?_
      rintro e x2 ⟨A2, c2, rfl, bB⟩
      replace hT := Blk.via0 (g := PT) (t := 24) bB (by repeat (first | with_reducible exact hT | with_reducible (apply Blk.set_) | with_reducible (apply Blk.far; case hp => (simp <;> omega)) | with_reducible (apply Blk.alloc) | with_reducible (apply Blk.drew)))
      replace hT : Blk x2 PT 24 #[.slice (some ⟨w.heap.size, 0, none⟩) 1 1, .slice (some ⟨w.heap.size + 1, 0, none⟩) 1 1, .slice (some ⟨w.heap.size + 2, 0, none⟩) 2 2, .slice (some ⟨w.heap.size + 3, 0, none⟩) 2 2, .slice (some ⟨w.heap.size + 4, 0, none⟩) 8 8] := hT
      replace hC := Below.via (w := w3) (by have hs_ := hC.size; repeat (first | with_reducible exact hC | with_reducible (refine Below.setCell ?_ (by simp <;> omega) _) | with_reducible (refine Below.alloc ?_ (by first | exact hs_ | (simp <;> omega)) _) | with_reducible (refine Below.drew ?_))) bB
      replace hB := Below.via (w := w3) (by have hs_ := hB.size; repeat (first | with_reducible exact hB | with_reducible (refine Below.setCell ?_ (by simp <;> omega) _) | with_reducible (refine Below.alloc ?_ (by first | exact hs_ | (simp <;> omega)) _) | with_reducible (refine Below.drew ?_))) bB
      clear z12 z13 z14 z15 z16 z17 z18 z19 z20 z21 z22
      clear bB
      have z23 : x2.cell? ⟨PT, 0, none⟩ = some (.slice (some ⟨w.heap.size, 0, none⟩) 1 1) := (hT.cell 0).trans rfl
      have z24 := hT.frozen 0
      have z25 : x2.cell? ⟨PT, 1, none⟩ = some (.slice (some ⟨w.heap.size + 1, 0, none⟩) 1 1) := (hT.cell 1).trans rfl
      have z26 := hT.frozen 1
      have z27 : x2.cell? ⟨PT, 2, none⟩ = some (.slice (some ⟨w.heap.size + 2, 0, none⟩) 2 2) := (hT.cell 2).trans rfl
      have z28 := hT.frozen 2
      have z29 : x2.cell? ⟨PT, 3, none⟩ = some (.slice (some ⟨w.heap.size + 3, 0, none⟩) 2 2) := (hT.cell 3).trans rfl
      have z30 := hT.frozen 3
      have z31 : x2.cell? ⟨PT, 4, none⟩ = some (.slice (some ⟨w.heap.size + 4, 0, none⟩) 8 8) := (hT.cell 4).trans rfl
      have z32 := hT.frozen 4
      have z33 := hT.lt
      go_wp2_with fail
      refine (checkIs (some ⟨w.heap.size + 3, 0, none⟩) 2 2 ([(2, []), (1, [])] : List (Nat × List UInt8)) 8 _ (HS3.out.mv (by have hs_ := hC.size; repeat (first | with_reducible exact hC | with_reducible (refine Below.setCell ?_ (by simp <;> omega) _) | with_reducible (refine Below.alloc ?_ (by first | exact hs_ | (simp <;> omega)) _) | with_reducible (refine Below.drew ?_)))) (by omega) (by decide)).mono ?_
      rintro e x3 ⟨rfl, bB⟩
      replace hT := Blk.via0 (g := PT) (t := 24) bB (by repeat (first | with_reducible exact hT | with_reducible (apply Blk.set_) | with_reducible (apply Blk.far; case hp => (simp <;> omega)) | with_reducible (apply Blk.alloc) | with_reducible (apply Blk.drew)))
      replace hT : Blk x3 PT 24 #[.slice (some ⟨w.heap.size, 0, none⟩) 1 1, .slice (some ⟨w.heap.size + 1, 0, none⟩) 1 1, .slice (some ⟨w.heap.size + 2, 0, none⟩) 2 2, .slice (some ⟨w.heap.size + 3, 0, none⟩) 2 2, .slice (some ⟨w.heap.size + 4, 0, none⟩) 8 8] := hT
      replace hC := Below.via (w := w3) (by have hs_ := hC.size; repeat (first | with_reducible exact hC | with_reducible (refine Below.setCell ?_ (by simp <;> omega) _) | with_reducible (refine Below.alloc ?_ (by first | exact hs_ | (simp <;> omega)) _) | with_reducible (refine Below.drew ?_))) bB
      replace hB := Below.via (w := w3) (by have hs_ := hB.size; repeat (first | with_reducible exact hB | with_reducible (refine Below.setCell ?_ (by simp <;> omega) _) | with_reducible (refine Below.alloc ?_ (by first | exact hs_ | (simp <;> omega)) _) | with_reducible (refine Below.drew ?_))) bB
      clear z23 z24 z25 z26 z27 z28 z29 z30 z31 z32 z33
      clear bB
      have z34 : x3.cell? ⟨PT, 0, none⟩ = some (.slice (some ⟨w.heap.size, 0, none⟩) 1 1) := (hT.cell 0).trans rfl
      have z35 := hT.frozen 0
      have z36 : x3.cell? ⟨PT, 1, none⟩ = some (.slice (some ⟨w.heap.size + 1, 0, none⟩) 1 1) := (hT.cell 1).trans rfl
      have z37 := hT.frozen 1
      have z38 : x3.cell? ⟨PT, 2, none⟩ = some (.slice (some ⟨w.heap.size + 2, 0, none⟩) 2 2) := (hT.cell 2).trans rfl
      have z39 := hT.frozen 2
      have z40 : x3.cell? ⟨PT, 3, none⟩ = some (.slice (some ⟨w.heap.size + 3, 0, none⟩) 2 2) := (hT.cell 3).trans rfl
      have z41 := hT.frozen 3
      have z42 : x3.cell? ⟨PT, 4, none⟩ = some (.slice (some ⟨w.heap.size + 4, 0, none⟩) 8 8) := (hT.cell 4).trans rfl
      have z43 := hT.frozen 4
      have z44 := hT.lt
      go_wp2_with fail
      go_roundw
      case rel => exact ⟨4, by omega, by go_num, (by have hs_ := hC.size; repeat (first | with_reducible exact hC | with_reducible (refine Below.setCell ?_ (by simp <;> omega) _) | with_reducible (refine Below.alloc ?_ (by first | exact hs_ | (simp <;> omega)) _) | with_reducible (refine Below.drew ?_)))⟩
      case measure => simp [intOf]
    · have hB := hC
      have z1 : wr.cell? ⟨PT, 0, none⟩ = some (.slice (some ⟨w.heap.size, 0, none⟩) 1 1) := (hT.cell 0).trans rfl
      have z2 := hT.frozen 0
      have z3 : wr.cell? ⟨PT, 1, none⟩ = some (.slice (some ⟨w.heap.size + 1, 0, none⟩) 1 1) := (hT.cell 1).trans rfl
      have z4 := hT.frozen 1
      have z5 : wr.cell? ⟨PT, 2, none⟩ = some (.slice (some ⟨w.heap.size + 2, 0, none⟩) 2 2) := (hT.cell 2).trans rfl
      have z6 := hT.frozen 2
      have z7 : wr.cell? ⟨PT, 3, none⟩ = some (.slice (some ⟨w.heap.size + 3, 0, none⟩) 2 2) := (hT.cell 3).trans rfl
      have z8 := hT.frozen 3
      have z9 : wr.cell? ⟨PT, 4, none⟩ = some (.slice (some ⟨w.heap.size + 4, 0, none⟩) 8 8) := (hT.cell 4).trans rfl
      have z10 := hT.frozen 4
      have z11 := hT.lt
      go_wp2_with fail
      refine (writeBad (some ⟨w.heap.size + 4, 0, none⟩) 8 8 ([(0, []), (0, []), (0, []), (0, []), (0, []), (0, []), (0, []), (0, [])] : List (Nat × List UInt8)) 8 _ (HS4.out.mv (by have hs_ := hC.size; repeat (first | with_reducible exact hC | with_reducible (refine Below.setCell ?_ (by simp <;> omega) _) | with_reducible (refine Below.alloc ?_ (by first | exact hs_ | (simp <;> omega)) _) | with_reducible (refine Below.drew ?_)))) (by omega) (by decide) (by omega)).mono ?_
      rintro e x1 ⟨A1, c1, rfl, bB⟩
      replace hT := Blk.via0 (g := PT) (t := 24) bB (by repeat (first | with_reducible exact hT | with_reducible (apply Blk.set_) | with_reducible (apply Blk.far; case hp => (simp <;> omega)) | with_reducible (apply Blk.alloc) | with_reducible (apply Blk.drew)))
      replace hT : Blk x1 PT 24 #[.slice (some ⟨w.heap.size, 0, none⟩) 1 1, .slice (some ⟨w.heap.size + 1, 0, none⟩) 1 1, .slice (some ⟨w.heap.size + 2, 0, none⟩) 2 2, .slice (some ⟨w.heap.size + 3, 0, none⟩) 2 2, .slice (some ⟨w.heap.size + 4, 0, none⟩) 8 8] := hT
      replace hC := Below.via (w := w3) (by have hs_ := hC.size; repeat (first | with_reducible exact hC | with_reducible (refine Below.setCell ?_ (by simp <;> omega) _) | with_reducible (refine Below.alloc ?_ (by first | exact hs_ | (simp <;> omega)) _) | with_reducible (refine Below.drew ?_))) bB
      replace hB := Below.via (w := w3) (by have hs_ := hB.size; repeat (first | with_reducible exact hB | with_reducible (refine Below.setCell ?_ (by simp <;> omega) _) | with_reducible (refine Below.alloc ?_ (by first | exact hs_ | (simp <;> omega)) _) | with_reducible (refine Below.drew ?_))) bB
      clear z1 z2 z3 z4 z5 z6 z7 z8 z9 z10 z11
      clear bB
      have z12 : x1.cell? ⟨PT, 0, none⟩ = some (.slice (some ⟨w.heap.size, 0, none⟩) 1 1) := (hT.cell 0).trans rfl
      have z13 := hT.frozen 0
      have z14 : x1.cell? ⟨PT, 1, none⟩ = some (.slice (some ⟨w.heap.size + 1, 0, none⟩) 1 1) := (hT.cell 1).trans rfl
      have z15 := hT.frozen 1
      have z16 : x1.cell? ⟨PT, 2, none⟩ = some (.slice (some ⟨w.heap.size + 2, 0, none⟩) 2 2) := (hT.cell 2).trans rfl
      have z17 := hT.frozen 2
      have z18 : x1.cell? ⟨PT, 3, none⟩ = some (.slice (some ⟨w.heap.size + 3, 0, none⟩) 2 2) := (hT.cell 3).trans rfl
      have z19 := hT.frozen 3
      have z20 : x1.cell? ⟨PT, 4, none⟩ = some (.slice (some ⟨w.heap.size + 4, 0, none⟩) 8 8) := (hT.cell 4).trans rfl
      have z21 := hT.frozen 4
      have z22 := hT.lt
      go_wp2_with fail
      refine (findBad (some ⟨w.heap.size + 4, 0, none⟩) 8 8 ([(0, []), (0, []), (0, []), (0, []), (0, []), (0, []), (0, []), (0, [])] : List (Nat × List UInt8)) 1 8 _ (HS4.out.mv (by have hs_ := hC.size; repeat (first | with_reducible exact hC | with_reducible (refine Below.setCell ?_ (by simp <;> omega) _) | with_reducible (refine Below.alloc ?_ (by first | exact hs_ | (simp <;> omega)) _) | with_reducible (refine Below.drew ?_)))) (by omega) (by omega) (by decide) (by decide) (by omega)).mono ?_
      rintro e x2 ⟨A2, c2, rfl, bB⟩
      replace hT := Blk.via0 (g := PT) (t := 24) bB (by repeat (first | with_reducible exact hT | with_reducible (apply Blk.set_) | with_reducible (apply Blk.far; case hp => (simp <;> omega)) | with_reducible (apply Blk.alloc) | with_reducible (apply Blk.drew)))
      replace hT : Blk x2 PT 24 #[.slice (some ⟨w.heap.size, 0, none⟩) 1 1, .slice (some ⟨w.heap.size + 1, 0, none⟩) 1 1, .slice (some ⟨w.heap.size + 2, 0, none⟩) 2 2, .slice (some ⟨w.heap.size + 3, 0, none⟩) 2 2, .slice (some ⟨w.heap.size + 4, 0, none⟩) 8 8] := hT
      replace hC := Below.via (w := w3) (by have hs_ := hC.size; repeat (first | with_reducible exact hC | with_reducible (refine Below.setCell ?_ (by simp <;> omega) _) | with_reducible (refine Below.alloc ?_ (by first | exact hs_ | (simp <;> omega)) _) | with_reducible (refine Below.drew ?_))) bB
      replace hB := Below.via (w := w3) (by have hs_ := hB.size; repeat (first | with_reducible exact hB | with_reducible (refine Below.setCell ?_ (by simp <;> omega) _) | with_reducible (refine Below.alloc ?_ (by first | exact hs_ | (simp <;> omega)) _) | with_reducible (refine Below.drew ?_))) bB
      clear z12 z13 z14 z15 z16 z17 z18 z19 z20 z21 z22
      clear bB
      have z23 : x2.cell? ⟨PT, 0, none⟩ = some (.slice (some ⟨w.heap.size, 0, none⟩) 1 1) := (hT.cell 0).trans rfl
      have z24 := hT.frozen 0
      have z25 : x2.cell? ⟨PT, 1, none⟩ = some (.slice (some ⟨w.heap.size + 1, 0, none⟩) 1 1) := (hT.cell 1).trans rfl
      have z26 := hT.frozen 1
      have z27 : x2.cell? ⟨PT, 2, none⟩ = some (.slice (some ⟨w.heap.size + 2, 0, none⟩) 2 2) := (hT.cell 2).trans rfl
      have z28 := hT.frozen 2
      have z29 : x2.cell? ⟨PT, 3, none⟩ = some (.slice (some ⟨w.heap.size + 3, 0, none⟩) 2 2) := (hT.cell 3).trans rfl
      have z30 := hT.frozen 3
      have z31 : x2.cell? ⟨PT, 4, none⟩ = some (.slice (some ⟨w.heap.size + 4, 0, none⟩) 8 8) := (hT.cell 4).trans rfl
      have z32 := hT.frozen 4
      have z33 := hT.lt
      go_wp2_with fail
      refine (checkIs (some ⟨w.heap.size + 4, 0, none⟩) 8 8 ([(0, []), (0, []), (0, []), (0, []), (0, []), (0, []), (0, []), (0, [])] : List (Nat × List UInt8)) 8 _ (HS4.out.mv (by have hs_ := hC.size; repeat (first | with_reducible exact hC | with_reducible (refine Below.setCell ?_ (by simp <;> omega) _) | with_reducible (refine Below.alloc ?_ (by first | exact hs_ | (simp <;> omega)) _) | with_reducible (refine Below.drew ?_)))) (by omega) (by decide)).mono ?_
      rintro e x3 ⟨rfl, bB⟩
      replace hT := Blk.via0 (g := PT) (t := 24) bB (by repeat (first | with_reducible exact hT | with_reducible (apply Blk.set_) | with_reducible (apply Blk.far; case hp => (simp <;> omega)) | with_reducible (apply Blk.alloc) | with_reducible (apply Blk.drew)))
      replace hT : Blk x3 PT 24 #[.slice (some ⟨w.heap.size, 0, none⟩) 1 1, .slice (some ⟨w.heap.size + 1, 0, none⟩) 1 1, .slice (some ⟨w.heap.size + 2, 0, none⟩) 2 2, .slice (some ⟨w.heap.size + 3, 0, none⟩) 2 2, .slice (some ⟨w.heap.size + 4, 0, none⟩) 8 8] := hT
      replace hC := Below.via (w := w3) (by have hs_ := hC.size; repeat (first | with_reducible exact hC | with_reducible (refine Below.setCell ?_ (by simp <;> omega) _) | with_reducible (refine Below.alloc ?_ (by first | exact hs_ | (simp <;> omega)) _) | with_reducible (refine Below.drew ?_))) bB
      replace hB := Below.via (w := w3) (by have hs_ := hB.size; repeat (first | with_reducible exact hB | with_reducible (refine Below.setCell ?_ (by simp <;> omega) _) | with_reducible (refine Below.alloc ?_ (by first | exact hs_ | (simp <;> omega)) _) | with_reducible (refine Below.drew ?_))) bB
      clear z23 z24 z25 z26 z27 z28 z29 z30 z31 z32 z33
      clear bB
      have z34 : x3.cell? ⟨PT, 0, none⟩ = some (.slice (some ⟨w.heap.size, 0, none⟩) 1 1) := (hT.cell 0).trans rfl
      have z35 := hT.frozen 0
      have z36 : x3.cell? ⟨PT, 1, none⟩ = some (.slice (some ⟨w.heap.size + 1, 0, none⟩) 1 1) := (hT.cell 1).trans rfl
      have z37 := hT.frozen 1
      have z38 : x3.cell? ⟨PT, 2, none⟩ = some (.slice (some ⟨w.heap.size + 2, 0, none⟩) 2 2) := (hT.cell 2).trans rfl
      have z39 := hT.frozen 2
      have z40 : x3.cell? ⟨PT, 3, none⟩ = some (.slice (some ⟨w.heap.size + 3, 0, none⟩) 2 2) := (hT.cell 3).trans rfl
      have z41 := hT.frozen 3
      have z42 : x3.cell? ⟨PT, 4, none⟩ = some (.slice (some ⟨w.heap.size + 4, 0, none⟩) 8 8) := (hT.cell 4).trans rfl
      have z43 := hT.frozen 4
      have z44 := hT.lt
      go_wp2_with fail
      go_roundw
      case rel => exact ⟨5, by omega, by go_num, (by have hs_ := hC.size; repeat (first | with_reducible exact hC | with_reducible (refine Below.setCell ?_ (by simp <;> omega) _) | with_reducible (refine Below.alloc ?_ (by first | exact hs_ | (simp <;> omega)) _) | with_reducible (refine Below.drew ?_)))⟩
      case measure => simp [intOf]
    · have hB := hB0.trans (hC.mono hB0.size)
      clear hT hC HT HS0 HS1 HS2 HS3 HS4 hB0
      obtain ⟨Z1, hZ1⟩ : ∃ Z : List UInt8, Z = List.replicate 199978 (0 : UInt8) := ⟨_, rfl⟩
      have hl1 : Z1.length = 199978 := by rw [hZ1, List.length_replicate]
      have HZ1 := Lib.hid hZ1
      obtain ⟨Z2, hZ2⟩ : ∃ Z : List UInt8, Z = List.replicate 199977 (0 : UInt8) := ⟨_, rfl⟩
      have hl2 : Z2.length = 199977 := by rw [hZ2, List.length_replicate]
      have HZ2 := Lib.hid hZ2
      have HL1 := Lib.hid hl1
      have HL2 := Lib.hid hl2
      clear hZ1 hZ2 hl1 hl2
      go_wp2_with (first
        | (refine wpList_mk1 _ rfl (.const (.int .i64 199978)) (.const (.int .i64 199978)) rfl sl8 rfl 199978 (by rfl) (by rfl) rfl rfl (by omega) ?_; intro m1 o1 b1; rw [rep_b8, ← HZ1.out] at o1; have R1 := own_rd o1; replace hB := hB.trans (b1.mono hB.size); have S1 := rdS_at (b := 7) (Blk.new m1 32 #[.int .u8 7, .slice (some ⟨wr.heap.size, 0, none⟩) 199978 199978]) HL1.out (by omega) (R1.mv ((Below.refl _ _).alloc (Nat.le_refl _) (.cells #[.int .u8 7, .slice (some ⟨wr.heap.size, 0, none⟩) 199978 199978] 32))) (by decide); replace hB := hB.alloc hB.size (.cells #[.int .u8 7, .slice (some ⟨wr.heap.size, 0, none⟩) 199978 199978] 32); clear o1 b1 R1)
        | (refine wpList_mk1 _ rfl (.const (.int .i64 199977)) (.const (.int .i64 199977)) rfl sl8 rfl 199977 (by rfl) (by rfl) rfl rfl (by omega) ?_; intro m2 o2 b2; rw [rep_b8, ← HZ2.out] at o2; rw [alloc_size] at o2; have R2 := own_rd o2; replace hB := hB.trans (b2.mono hB.size); replace S1 := S1.mv b2; have S2 := rdS_at (b := 7) (Blk.new m2 32 #[.int .u8 7, .slice (some ⟨m1.heap.size + 1, 0, none⟩) 199977 199977]) HL2.out (by omega) (R2.mv ((Below.refl _ _).alloc (Nat.le_refl _) (.cells #[.int .u8 7, .slice (some ⟨m1.heap.size + 1, 0, none⟩) 199977 199977] 32))) (by decide); replace hB := hB.alloc hB.size (.cells #[.int .u8 7, .slice (some ⟨m1.heap.size + 1, 0, none⟩) 199977 199977] 32); replace S1 := S1.mv ((Below.refl _ _).alloc (Nat.le_refl _) (.cells #[.int .u8 7, .slice (some ⟨m1.heap.size + 1, 0, none⟩) 199977 199977] 32)); clear o2 b2 R2))
      generalize m2.alloc (.cells #[.int .u8 7, .slice (some ⟨m1.heap.size + 1, 0, none⟩) 199977 199977] 32) = x0 at *
      with_reducible refine (writeBad (some ⟨m1.heap.size, 0, none⟩) 1 1 [(7, Z1)] 4 x0 S1 (by omega) (ck_long HL1.out) (by omega)).mono ?_
      rintro e x1 ⟨A3, c3, rfl, b_⟩
      replace S1 := S1.mv b_
      replace S2 := S2.mv b_
      replace hB := hB.trans (b_.mono hB.size)
      clear b_
      go_wp2_with fail
      refine (findBad (some ⟨m1.heap.size, 0, none⟩) 1 1 [(7, Z1)] 7 4 x1 S1 (by omega) (by omega) (by intro p hp; simp at hp; subst hp; simp only; have := HL1.out; omega) (ck_long HL1.out) (by omega)).mono ?_
      rintro e x2 ⟨A4, c4, rfl, b_⟩
      replace S1 := S1.mv b_
      replace S2 := S2.mv b_
      replace hB := hB.trans (b_.mono hB.size)
      clear b_
      have Y : RdY (x2.alloc (.cells #[.int .i64 199977] 3)) (some ⟨x2.heap.size, 0, none⟩) 1 [199977] := rdY_row x2 [199977] (by decide)
      have b_ := (Below.refl x2.heap.size x2).alloc (Nat.le_refl _) (.cells #[.int .i64 199977] 3)
      replace S1 := S1.mv b_
      replace S2 := S2.mv b_
      replace hB := hB.alloc hB.size (.cells #[.int .i64 199977] 3)
      clear b_
      go_wp2_with fail
      refine (lenIs (some ⟨x2.heap.size, 0, none⟩) 1 1 [199977] 200000 0 _ Y (by omega) (by decide) (by decide)).mono ?_
      rintro e wq ⟨rfl, rfl⟩
      clear Y
      generalize x2.alloc (.cells #[.int .i64 199977] 3) = x3 at *
      have Y : RdY (x3.alloc (.cells #[.int .i64 199978] 3)) (some ⟨x3.heap.size, 0, none⟩) 1 [199978] := rdY_row x3 [199978] (by decide)
      have b_ := (Below.refl x3.heap.size x3).alloc (Nat.le_refl _) (.cells #[.int .i64 199978] 3)
      replace S1 := S1.mv b_
      replace S2 := S2.mv b_
      replace hB := hB.alloc hB.size (.cells #[.int .i64 199978] 3)
      clear b_
      go_wp2_with fail
      refine (lenIs (some ⟨x3.heap.size, 0, none⟩) 1 1 [199978] 0 4 _ Y (by omega) (by decide) (by decide)).mono ?_
      rintro e wq ⟨rfl, rfl⟩
      clear Y
      generalize x3.alloc (.cells #[.int .i64 199978] 3) = x4 at *
      have Y : RdY (x4.alloc (.cells #[.int .i64 (-1), .int .i64 200000] 3)) (some ⟨x4.heap.size, 0, none⟩) 2 [-1, 200000] := rdY_row x4 [-1, 200000] (by decide)
      have b_ := (Below.refl x4.heap.size x4).alloc (Nat.le_refl _) (.cells #[.int .i64 (-1), .int .i64 200000] 3)
      replace S1 := S1.mv b_
      replace S2 := S2.mv b_
      replace hB := hB.alloc hB.size (.cells #[.int .i64 (-1), .int .i64 200000] 3)
      clear b_
      go_wp2_with fail
      refine (lenIs (some ⟨x4.heap.size, 0, none⟩) 2 2 [-1, 200000] 0 8 _ Y (by omega) (by decide) (by decide)).mono ?_
      rintro e wq ⟨rfl, rfl⟩
      clear Y
      generalize x4.alloc (.cells #[.int .i64 (-1), .int .i64 200000] 3) = x5 at *
      have Y : RdY (x5.alloc (.cells #[.int .i64 9223372036854775807, .int .i64 9223372036854775807] 3)) (some ⟨x5.heap.size, 0, none⟩) 2 [9223372036854775807, 9223372036854775807] := rdY_row x5 [9223372036854775807, 9223372036854775807] (by decide)
      have b_ := (Below.refl x5.heap.size x5).alloc (Nat.le_refl _) (.cells #[.int .i64 9223372036854775807, .int .i64 9223372036854775807] 3)
      replace S1 := S1.mv b_
      replace S2 := S2.mv b_
      replace hB := hB.alloc hB.size (.cells #[.int .i64 9223372036854775807, .int .i64 9223372036854775807] 3)
      clear b_
      go_wp2_with fail
      refine (lenIs (some ⟨x5.heap.size, 0, none⟩) 2 2 [9223372036854775807, 9223372036854775807] 0 4 _ Y (by omega) (by decide) (by decide)).mono ?_
      rintro e wq ⟨rfl, rfl⟩
      clear Y
      generalize x5.alloc (.cells #[.int .i64 9223372036854775807, .int .i64 9223372036854775807] 3) = x6 at *
      go_wp2_with (refine wpList_mk1 _ rfl (.const (.int .i64 8)) (.const (.int .i64 8)) rfl slIN1 rfl 8 (by rfl) (by rfl) rfl rfl (by omega) ?_; intro x7 o_ b_)
      have Y : RdY x7 (some ⟨x6.heap.size, 0, none⟩) 8 [0, 0, 0, 0, 0, 0, 0, 0] := ⟨own_reads o_, by decide⟩
      clear o_
      replace S1 := S1.mv b_
      replace S2 := S2.mv b_
      replace hB := hB.trans (b_.mono hB.size)
      clear b_
      refine (lenIs (some ⟨x6.heap.size, 0, none⟩) 8 8 [0, 0, 0, 0, 0, 0, 0, 0] 0 4 _ Y (by omega) (by decide) (by decide)).mono ?_
      rintro e wq ⟨rfl, rfl⟩
      clear Y
      go_wp2_with (refine wpList_mk1 _ rfl (.const (.int .i64 7)) (.const (.int .i64 7)) rfl slIN1 rfl 7 (by rfl) (by rfl) rfl rfl (by omega) ?_; intro x8 o_ b_)
      have Y : RdY x8 (some ⟨x7.heap.size, 0, none⟩) 7 [0, 0, 0, 0, 0, 0, 0] := ⟨own_reads o_, by decide⟩
      clear o_
      replace S1 := S1.mv b_
      replace S2 := S2.mv b_
      replace hB := hB.trans (b_.mono hB.size)
      clear b_
      refine (lenIs (some ⟨x7.heap.size, 0, none⟩) 7 7 [0, 0, 0, 0, 0, 0, 0] 101 0 _ Y (by omega) (by decide) (by decide)).mono ?_
      rintro e wq ⟨rfl, rfl⟩
      clear Y
      have RA : Rb (x8.alloc (.cells #[.int .u8 97, .int .u8 98, .int .u8 99] 5 (3, 4))) (some ⟨x8.heap.size, 0, none⟩) 3 [97, 98, 99] := reads_bytes_fr x8 [97, 98, 99] 5 (3, 4)
      have kc := fun (w : World) (C : Array Value) (n c : Nat) => Lib.run_convert_bytes_const (P := Try.prog) w 22 5 C n c Try.underlying22 Try.underlying5
      have RC : Rb ((x8.alloc (.cells #[.int .u8 97, .int .u8 98, .int .u8 99] 5 (3, 4))).alloc (.cells #[.int .u8 0] 5)) (some ⟨(x8.alloc (.cells #[.int .u8 97, .int .u8 98, .int .u8 99] 5 (3, 4))).heap.size, 0, none⟩) 1 [0] := reads_bytes (x8.alloc (.cells #[.int .u8 97, .int .u8 98, .int .u8 99] 5 (3, 4))) [0] 5
      rw [alloc_size] at RC
      have b_ := (Below.refl x8.heap.size x8).alloc (Nat.le_refl _) (.cells #[.int .u8 97, .int .u8 98, .int .u8 99] 5 (3, 4))
      replace S1 := S1.mv b_
      replace S2 := S2.mv b_
      replace hB := hB.alloc hB.size (.cells #[.int .u8 97, .int .u8 98, .int .u8 99] 5 (3, 4))
      clear b_
      have b_ := (Below.refl (x8.alloc (.cells #[.int .u8 97, .int .u8 98, .int .u8 99] 5 (3, 4))).heap.size (x8.alloc (.cells #[.int .u8 97, .int .u8 98, .int .u8 99] 5 (3, 4)))).alloc (Nat.le_refl _) (.cells #[.int .u8 0] 5)
      replace S1 := S1.mv b_
      replace S2 := S2.mv b_
      replace RA := RA.mv b_
      replace hB := hB.alloc hB.size (.cells #[.int .u8 0] 5)
      clear b_
      have hq := Blk.new ((x8.alloc (.cells #[.int .u8 97, .int .u8 98, .int .u8 99] 5 (3, 4))).alloc (.cells #[.int .u8 0] 5)) 32 #[.int .u8 1, .slice (some ⟨x8.heap.size, 0, none⟩) 3 3, .int .u8 4, .slice none 0 0, .int .u8 5, .slice (some ⟨x8.heap.size + 1, 0, none⟩) 1 1]
      rw [show ((x8.alloc (.cells #[.int .u8 97, .int .u8 98, .int .u8 99] 5 (3, 4))).alloc (.cells #[.int .u8 0] 5)).heap.size = x8.heap.size + 2 from by simp] at hq
      have b_ := (Below.refl ((x8.alloc (.cells #[.int .u8 97, .int .u8 98, .int .u8 99] 5 (3, 4))).alloc (.cells #[.int .u8 0] 5)).heap.size ((x8.alloc (.cells #[.int .u8 97, .int .u8 98, .int .u8 99] 5 (3, 4))).alloc (.cells #[.int .u8 0] 5))).alloc (Nat.le_refl _) (.cells #[.int .u8 1, .slice (some ⟨x8.heap.size, 0, none⟩) 3 3, .int .u8 4, .slice none 0 0, .int .u8 5, .slice (some ⟨x8.heap.size + 1, 0, none⟩) 1 1] 32)
      replace S1 := S1.mv b_
      replace S2 := S2.mv b_
      replace RA := RA.mv b_
      replace RC := RC.mv b_
      replace hB := hB.alloc hB.size (.cells #[.int .u8 1, .slice (some ⟨x8.heap.size, 0, none⟩) 3 3, .int .u8 4, .slice none 0 0, .int .u8 5, .slice (some ⟨x8.heap.size + 1, 0, none⟩) 1 1] 32)
      clear b_
      have ST : RdS (((x8.alloc (.cells #[.int .u8 97, .int .u8 98, .int .u8 99] 5 (3, 4))).alloc (.cells #[.int .u8 0] 5)).alloc (.cells #[.int .u8 1, .slice (some ⟨x8.heap.size, 0, none⟩) 3 3, .int .u8 4, .slice none 0 0, .int .u8 5, .slice (some ⟨x8.heap.size + 1, 0, none⟩) 1 1] 32)) (some ⟨x8.heap.size + 2, 0, none⟩) 3 [(1, [97, 98, 99]), (4, []), (5, [0])] := by
        refine ⟨rfl, [[.int .u8 1, .slice (some ⟨x8.heap.size, 0, none⟩) 3 3], [.int .u8 4, .slice none 0 0], [.int .u8 5, .slice (some ⟨x8.heap.size + 1, 0, none⟩) 1 1]], rfl, by simp, reads_blk2 hq 2 3 rfl, fun k p hp => ?_⟩
        rcases k with _ | _ | _ | k
        · injection hp with hp
          subst hp
          exact ⟨_, 3, rfl, by simp, RA, by decide⟩
        · injection hp with hp
          subst hp
          exact ⟨none, 0, rfl, by simp, Reads.none_, by decide⟩
        · injection hp with hp
          subst hp
          exact ⟨_, 1, rfl, by simp, RC, by decide⟩
        · simp at hp
      clear RA RC hq
      go_wp2_with fail
      have HW := write25_any (some ⟨x8.heap.size + 2, 0, none⟩) 3 3 [(1, [97, 98, 99]), (4, []), (5, [0])] _ ST (by omega)
      rw [wr_three, ck_three] at HW
      refine (HW).mono ?_
      rintro e y1 ⟨A5, c5, rfl, o5, b_⟩
      replace S1 := S1.mv b_
      replace S2 := S2.mv b_
      replace hB := hB.trans (b_.mono hB.size)
      clear b_
      clear HW ST
      have R5 : Rb y1 A5 53 wNm := own_rd o5
      have hcp : 53 ≤ c5 ∧ c5 ≤ 9223372036854775807 := by obtain ⟨h1, h2⟩ := own_cap o5; rw [wNm_len] at h1; unfold maxLen at h2; omega
      clear o5
      rw [wNm_len]
      go_wp2_with fail
      with_reducible refine (alive25_any _).mono ?_
      rintro e y2 ⟨rfl, b_⟩
      replace S1 := S1.mv b_
      replace S2 := S2.mv b_
      replace R5 := R5.mv b_
      replace hB := hB.trans (b_.mono hB.size)
      clear b_
      go_wp2_with fail
      with_reducible refine (checkIs (some ⟨m1.heap.size, 0, none⟩) 1 1 [(7, Z1)] 4 _ S1 (by omega) (ck_long HL1.out)).mono ?_
      rintro e y3 ⟨rfl, b_⟩
      replace S1 := S1.mv b_
      replace S2 := S2.mv b_
      replace R5 := R5.mv b_
      replace hB := hB.trans (b_.mono hB.size)
      clear b_
      go_wp2_with fail
      with_reducible refine (checkIs (some ⟨m2.heap.size, 0, none⟩) 1 1 [(7, Z2)] 0 _ S2 (by omega) (ck_fits HL2.out)).mono ?_
      rintro e y4 ⟨rfl, b_⟩
      replace S1 := S1.mv b_
      replace S2 := S2.mv b_
      replace R5 := R5.mv b_
      replace hB := hB.trans (b_.mono hB.size)
      clear b_
      clear S1 S2
      go_wp2_with fail
      have HN := told_none A5 53 c5 wNm 9 (by omega) 24 _ R5 (by omega) hcp.1
      rw [tld0] at HN
      refine (HN).mono ?_
      rintro e y5 ⟨rfl, b_⟩
      replace R5 := R5.mv b_
      replace hB := hB.trans (b_.mono hB.size)
      clear b_
      clear HN
      go_wp2_with fail
      have HN := told_none A5 53 c5 wNm 48 (by omega) 24 _ R5 (by omega) hcp.1
      rw [tld1] at HN
      refine (HN).mono ?_
      rintro e y6 ⟨rfl, b_⟩
      replace R5 := R5.mv b_
      replace hB := hB.trans (b_.mono hB.size)
      clear b_
      clear HN
      go_wp2_with fail
      have HN := told_none A5 53 c5 wNm 52 (by omega) 12 _ R5 (by omega) hcp.1
      rw [tld2] at HN
      refine (HN).mono ?_
      rintro e y7 ⟨rfl, b_⟩
      replace R5 := R5.mv b_
      replace hB := hB.trans (b_.mono hB.size)
      clear b_
      clear HN
      go_wp2_with fail
      have HN := told_at A5 53 c5 wNm 53 (by omega) 0 (by omega) 87 rfl 12 _ R5 (by omega) hcp.1
      rw [tld3] at HN
      refine (HN).mono ?_
      rintro e y8 ⟨rfl, b_⟩
      replace R5 := R5.mv b_
      replace hB := hB.trans (b_.mono hB.size)
      clear b_
      clear HN
      go_wp2_with fail
      have HN := told_at A5 53 c5 wNm 53 (by omega) 4 (by omega) 1 rfl 12 _ R5 (by omega) hcp.1
      rw [tld4] at HN
      refine (HN).mono ?_
      rintro e y9 ⟨rfl, b_⟩
      replace R5 := R5.mv b_
      replace hB := hB.trans (b_.mono hB.size)
      clear b_
      clear HN
      go_wp2_with fail
      have HN := told_at A5 53 c5 wNm 53 (by omega) 45 (by omega) 78 rfl 22 _ R5 (by omega) hcp.1
      rw [tld5] at HN
      refine (HN).mono ?_
      rintro e y10 ⟨rfl, b_⟩
      replace R5 := R5.mv b_
      replace hB := hB.trans (b_.mono hB.size)
      clear b_
      clear HN
      go_wp2_with fail
      have HN := told_at A5 53 c5 wNm 53 (by omega) 50 (by omega) 98 rfl 22 _ R5 (by omega) hcp.1
      rw [tld6] at HN
      refine (HN).mono ?_
      rintro e y11 ⟨rfl, b_⟩
      replace R5 := R5.mv b_
      replace hB := hB.trans (b_.mono hB.size)
      clear b_
      clear HN
      go_wp2_with fail
      have HN := told_at A5 53 c5 wNm 53 (by omega) 52 (by omega) 0 rfl 22 _ R5 (by omega) hcp.1
      rw [tld7] at HN
      refine (HN).mono ?_
      rintro e y12 ⟨rfl, b_⟩
      replace R5 := R5.mv b_
      replace hB := hB.trans (b_.mono hB.size)
      clear b_
      clear HN
      go_wp2_with fail
      have HN := told_at A5 53 c5 wNm 53 (by omega) 6 (by omega) 1 rfl 22 _ R5 (by omega) hcp.1
      rw [tld8] at HN
      refine (HN).mono ?_
      rintro e y13 ⟨rfl, b_⟩
      replace R5 := R5.mv b_
      replace hB := hB.trans (b_.mono hB.size)
      clear b_
      clear HN
      go_wp2_with fail
      refine (others_any A5 c5 _ R5 hcp).mono ?_
      rintro e y20 ⟨rfl, b_⟩
      replace R5 := R5.mv b_
      replace hB := hB.trans (b_.mono hB.size)
      clear b_
      go_wp2_with fail
      go_ret
      exact ⟨rfl, hB⟩
    · omega

end Go.Proofs.Yteaaiacgebikpaa
