/- The walk of OpsOne. -/
import Derived.Test.YtkhdeoihjnpnaaaOps10
import Derived.Test.YtkhdeoihjnpnaaaOpsLaw
import Derived.BigQuiet
namespace Go.Proofs.Ytkhdeoihjnpnaaa
open Go.RowKit Wire
set_option linter.unusedVariables false

theorem tl_yes6 (s : ByteArray) : (s.toList == s.toList) = true := by simp
theorem encL_len (n : Nat) (a b c : Use) (x y z : Int) : (encL n [a, b, c] [x, y, z]).length ≤ 30 := by
  have q1 := encU_len a x
  have q2 := encU_len b y
  have q3 := encU_len c z
  rcases n with _ | _ | _ | n
  · simp [encL]
  · simp [encL]; omega
  · simp [encL]; omega
  · cases n <;> simp [encL] <;> omega
theorem enI_len (op : Nat) (x y z : Int) : (enI op x y z).length ≤ 31 := by
  unfold enI
  by_cases h : ckI op x y z = 0
  · rw [if_pos h]
    obtain ⟨a1, a2, a3, a4, b1, b2, b3, b4, c1, c2, c3, c4, n, hs, _, _⟩ := shp_form op
    rw [hs]
    have := encL_len n.toNat (a1, a2, a3, a4) (b1, b2, b3, b4) (c1, c2, c3, c4) x y z
    simp only [List.length_cons]
    omega
  · rw [if_neg h]; simp
theorem ck_08' (op : Nat) (x y z : Int) : ckI op x y z = 0 ∨ ckI op x y z = 8 := by
  unfold ckI
  by_cases h : (shp op).2 < 0
  · rw [if_pos h]; exact .inr rfl
  rw [if_neg h]
  by_cases h2 : fitL (shp op).1 [x, y, z] = true
  · rw [if_pos h2]; exact .inl rfl
  · rw [if_neg h2]; exact .inr rfl
theorem sl6_h (A : Option Addr) (n c v : Nat) (hc : v ≤ c) (W : World) : (Instr.slice 37 (.slice A n c) none (some (.int .i64 (v : Int))) none).run Try.prog W = .ok (.slice (sA A c 0) v c) W := by
  have hs : ∀ w, (sizeOf 5).run Try.prog w = .ok 1 w := fun _ => by kernel_rfl
  have ht' : Try.prog.underlying 37 = some (.slice (Try.prog.elem 37)) := by rw [elem_of Try.underlying37]; exact Try.underlying37
  rw [run_slice_h W 37 A n c ht' .i64 (v : Int) (by omega) (by omega), elem_of Try.underlying37, hs]
  simp only [Result.andThen, sliced, sA, Nat.mul_one]
  rw [show ((v : Int)).toNat = v from by simp, Nat.sub_zero, Nat.sub_zero]

set_option maxRecDepth 100000 in
set_option maxHeartbeats 6400000 in
theorem opsOne_walk (w : World) (op : Nat) (x y z : Int) (hop : op < 256) (hx : (-9223372036854775808 ≤ x ∧ x ≤ 9223372036854775807)) (hy : (-9223372036854775808 ≤ y ∧ y ≤ 9223372036854775807)) (hz : (-9223372036854775808 ≤ z ∧ z ≤ 9223372036854775807)) (A2 : Option Addr) (n c2 : Nat) (b : List UInt8) (hr : Rb w A2 n b) (hc2 : n ≤ c2 ∧ c2 ≤ 9223372036854775807) :
    Calls Try.prog 6 #[insV op x y z, .slice A2 n c2] w fun e w' => e = .returned (.bool true) ∧ Below w.heap.size w w' := by
  have HR := Lib.hid hr
  have HBL := Lib.hid hr.len8
  clear hr
  have hB : Below w.heap.size w (w.alloc (.cells #[.int .u8 (op : Int), .int .i64 x, .int .i64 y, .int .i64 z] 23)) := (Below.alloc (Below.refl w.heap.size w) (by simp <;> omega) (.cells #[.int .u8 (op : Int), .int .i64 x, .int .i64 y, .int .i64 z] 23))
  have hq := Blk.new w 23 #[.int .u8 (op : Int), .int .i64 x, .int .i64 y, .int .i64 z]
  go_enter Try.func6, Try.ntmps6
  have z1 : (w.alloc (.cells #[.int .u8 (op : Int), .int .i64 x, .int .i64 y, .int .i64 z] 23)).cell? ⟨w.heap.size, 0, none⟩ = some (.int .u8 (op : Int)) := (hq.cell 0).trans rfl
  have z2 := hq.frozen 0
  have z3 : (w.alloc (.cells #[.int .u8 (op : Int), .int .i64 x, .int .i64 y, .int .i64 z] 23)).cell? ⟨w.heap.size, 1, none⟩ = some (.int .i64 x) := (hq.cell 1).trans rfl
  have z4 := hq.frozen 1
  have z5 : (w.alloc (.cells #[.int .u8 (op : Int), .int .i64 x, .int .i64 y, .int .i64 z] 23)).cell? ⟨w.heap.size, 2, none⟩ = some (.int .i64 y) := (hq.cell 2).trans rfl
  have z6 := hq.frozen 2
  have z7 : (w.alloc (.cells #[.int .u8 (op : Int), .int .i64 x, .int .i64 y, .int .i64 z] 23)).cell? ⟨w.heap.size, 3, none⟩ = some (.int .i64 z) := (hq.cell 3).trans rfl
  have z8 := hq.frozen 3
  have z9 := hq.lt
  by_cases hbig : 300 < n
  · have d0 : decide ((n : Int) > 300) = true := by simp; omega
    go_wp2_with fail
    refine (alive6_any _).mono ?_
    rintro e v1 ⟨rfl, bB⟩
    replace hq := Blk.via0 (g := w.heap.size) (t := 23) bB (by repeat (first | with_reducible exact hq | with_reducible (apply Blk.set_) | with_reducible (apply Blk.far; case hp => (simp <;> omega)) | with_reducible (apply Blk.alloc) | with_reducible (apply Blk.drew)))
    replace hq : Blk v1 w.heap.size 23 #[.int .u8 (op : Int), .int .i64 x, .int .i64 y, .int .i64 z] := hq
    replace hB := Below.via (w := w) (by have hs_ := hB.size; repeat (first | with_reducible exact hB | with_reducible (refine Below.setCell ?_ (by simp <;> omega) _) | with_reducible (refine Below.alloc ?_ (by first | exact hs_ | (simp <;> omega)) _) | with_reducible (refine Below.drew ?_))) bB
    clear z1 z2 z3 z4 z5 z6 z7 z8 z9
    clear bB
    go_wp2_with fail
    go_ret
    exact ⟨rfl, (by have hs_ := hB.size; repeat (first | with_reducible exact hB | with_reducible (refine Below.setCell ?_ (by simp <;> omega) _) | with_reducible (refine Below.alloc ?_ (by first | exact hs_ | (simp <;> omega)) _) | with_reducible (refine Below.drew ?_)))⟩
  have d0 : decide ((n : Int) > 300) = false := by simp; omega
  go_wp2_with fail
  obtain ⟨E, hE⟩ : ∃ E, ckI op x y z = E := ⟨_, rfl⟩
  have HE := Lib.hid hE
  have H08 := ck_08' op x y z
  have HS := fun W => encode6_any op hop x y z hx hy hz W
  unfold EnP at HS
  rw [hE] at HS H08
  obtain ⟨EN, hEN⟩ : ∃ E, enI op x y z = E := ⟨_, rfl⟩
  rw [hEN] at HS
  have HEN := Lib.hid hEN
  clear hE hEN
  refine (HS _).mono ?_
  rintro e w1 ⟨A1, c1, rfl, o1, bB⟩
  have ne_o1_hq : (Value.slice A1 EN.length c1).ownBlock ≠ some w.heap.size := own_not_lt o1 (by first | omega | (simp <;> omega))
  replace o1 := own_low o1 (show w.heap.size ≤ _ from by have hs_ := hB.size; simp <;> omega)
  replace hq := Blk.via0 (g := w.heap.size) (t := 23) bB (by repeat (first | with_reducible exact hq | with_reducible (apply Blk.set_) | with_reducible (apply Blk.far; case hp => (simp <;> omega)) | with_reducible (apply Blk.alloc) | with_reducible (apply Blk.drew)))
  replace hq : Blk w1 w.heap.size 23 #[.int .u8 (op : Int), .int .i64 x, .int .i64 y, .int .i64 z] := hq
  replace hB := Below.via (w := w) (by have hs_ := hB.size; repeat (first | with_reducible exact hB | with_reducible (refine Below.setCell ?_ (by simp <;> omega) _) | with_reducible (refine Below.alloc ?_ (by first | exact hs_ | (simp <;> omega)) _) | with_reducible (refine Below.drew ?_))) bB
  clear z1 z2 z3 z4 z5 z6 z7 z8 z9
  clear bB
  clear HS
  have z10 : w1.cell? ⟨w.heap.size, 0, none⟩ = some (.int .u8 (op : Int)) := (hq.cell 0).trans rfl
  have z11 := hq.frozen 0
  have z12 : w1.cell? ⟨w.heap.size, 1, none⟩ = some (.int .i64 x) := (hq.cell 1).trans rfl
  have z13 := hq.frozen 1
  have z14 : w1.cell? ⟨w.heap.size, 2, none⟩ = some (.int .i64 y) := (hq.cell 2).trans rfl
  have z15 := hq.frozen 2
  have z16 : w1.cell? ⟨w.heap.size, 3, none⟩ = some (.int .i64 z) := (hq.cell 3).trans rfl
  have z17 := hq.frozen 3
  have z18 := hq.lt
  go_wp2_with fail
  have HC := fun W => check6_any op hop x y z W
  rw [HE.out] at HC
  refine (HC _).mono ?_
  rintro e w2 ⟨rfl, bB⟩
  replace hq := Blk.via0 (g := w.heap.size) (t := 23) bB (by repeat (first | with_reducible exact hq | with_reducible (apply Blk.set_) | with_reducible (apply Blk.far; case hp => (simp <;> omega)) | with_reducible (apply Blk.alloc) | with_reducible (apply Blk.drew)))
  replace hq : Blk w2 w.heap.size 23 #[.int .u8 (op : Int), .int .i64 x, .int .i64 y, .int .i64 z] := hq
  replace o1 := own_call (by repeat (first | with_reducible exact o1 | (with_reducible apply own_set_; case hne => first | exact ne_o1_hq) | with_reducible (apply own_alloc_) | with_reducible (apply own_drew_))) bB
  replace hB := Below.via (w := w) (by have hs_ := hB.size; repeat (first | with_reducible exact hB | with_reducible (refine Below.setCell ?_ (by simp <;> omega) _) | with_reducible (refine Below.alloc ?_ (by first | exact hs_ | (simp <;> omega)) _) | with_reducible (refine Below.drew ?_))) bB
  clear z10 z11 z12 z13 z14 z15 z16 z17 z18
  clear bB
  clear HC
  have z19 : w2.cell? ⟨w.heap.size, 0, none⟩ = some (.int .u8 (op : Int)) := (hq.cell 0).trans rfl
  have z20 := hq.frozen 0
  have z21 : w2.cell? ⟨w.heap.size, 1, none⟩ = some (.int .i64 x) := (hq.cell 1).trans rfl
  have z22 := hq.frozen 1
  have z23 : w2.cell? ⟨w.heap.size, 2, none⟩ = some (.int .i64 y) := (hq.cell 2).trans rfl
  have z24 := hq.frozen 2
  have z25 : w2.cell? ⟨w.heap.size, 3, none⟩ = some (.int .i64 z) := (hq.cell 3).trans rfl
  have z26 := hq.frozen 3
  have z27 := hq.lt
  rcases H08 with rfl | rfl
  rotate_left
  · go_wp2_with fail
    have HD := fun W h => decode6_any A2 n c2 b 0 (by omega) W h (by omega)
    have z28 := hq.lt
    refine (HD _ (HR.out.mv (by have hs_ := hB.size; repeat (first | with_reducible exact hB | with_reducible (refine Below.setCell ?_ (by simp <;> omega) _) | with_reducible (refine Below.alloc ?_ (by first | exact hs_ | (simp <;> omega)) _) | with_reducible (refine Below.drew ?_))))).mono ?_
    intro e y1 hde
    clear HD
    unfold DeP at hde
    rw [show ((0 : Int)).toNat = 0 from rfl] at hde
    obtain ⟨hde, bB⟩ := hde
    replace hq := Blk.via0 (g := w.heap.size) (t := 23) bB (by repeat (first | with_reducible exact hq | with_reducible (apply Blk.set_) | with_reducible (apply Blk.far; case hp => (simp <;> omega)) | with_reducible (apply Blk.alloc) | with_reducible (apply Blk.drew)))
    replace hq : Blk y1 w.heap.size 23 #[.int .u8 (op : Int), .int .i64 x, .int .i64 y, .int .i64 z] := hq
    replace hB := Below.via (w := w) (by have hs_ := hB.size; repeat (first | with_reducible exact hB | with_reducible (refine Below.setCell ?_ (by simp <;> omega) _) | with_reducible (refine Below.alloc ?_ (by first | exact hs_ | (simp <;> omega)) _) | with_reducible (refine Below.drew ?_))) bB
    clear z19 z20 z21 z22 z23 z24 z25 z26 z27 z28
    clear bB
    rcases hde with ⟨h0, rfl⟩ | ⟨h0, rfl⟩
    rotate_left
    · obtain ⟨E2, hE2⟩ : ∃ E, dcE b 0 = E := ⟨_, rfl⟩
      rw [hE2] at h0 ⊢
      have dr : (E2 != 0) = true := by rw [bne_iff_ne]; exact h0
      clear h0 hE2
      have z29 : y1.cell? ⟨w.heap.size, 0, none⟩ = some (.int .u8 (op : Int)) := (hq.cell 0).trans rfl
      have z30 := hq.frozen 0
      have z31 : y1.cell? ⟨w.heap.size, 1, none⟩ = some (.int .i64 x) := (hq.cell 1).trans rfl
      have z32 := hq.frozen 1
      have z33 : y1.cell? ⟨w.heap.size, 2, none⟩ = some (.int .i64 y) := (hq.cell 2).trans rfl
      have z34 := hq.frozen 2
      have z35 : y1.cell? ⟨w.heap.size, 3, none⟩ = some (.int .i64 z) := (hq.cell 3).trans rfl
      have z36 := hq.frozen 3
      have z37 := hq.lt
      go_wp2_with fail
      refine (alive6_any _).mono ?_
      rintro e y2 ⟨rfl, bB⟩
      replace hq := Blk.via0 (g := w.heap.size) (t := 23) bB (by repeat (first | with_reducible exact hq | with_reducible (apply Blk.set_) | with_reducible (apply Blk.far; case hp => (simp <;> omega)) | with_reducible (apply Blk.alloc) | with_reducible (apply Blk.drew)))
      replace hq : Blk y2 w.heap.size 23 #[.int .u8 (op : Int), .int .i64 x, .int .i64 y, .int .i64 z] := hq
      replace hB := Below.via (w := w) (by have hs_ := hB.size; repeat (first | with_reducible exact hB | with_reducible (refine Below.setCell ?_ (by simp <;> omega) _) | with_reducible (refine Below.alloc ?_ (by first | exact hs_ | (simp <;> omega)) _) | with_reducible (refine Below.drew ?_))) bB
      clear z29 z30 z31 z32 z33 z34 z35 z36 z37
      clear bB
      go_wp2_with fail
      go_ret
      exact ⟨rfl, (by have hs_ := hB.size; repeat (first | with_reducible exact hB | with_reducible (refine Below.setCell ?_ (by simp <;> omega) _) | with_reducible (refine Below.alloc ?_ (by first | exact hs_ | (simp <;> omega)) _) | with_reducible (refine Below.drew ?_)))⟩
    obtain ⟨g1, g2, g3, g4⟩ := dec_backI h0
    have gop : (b.getD 0 0).toNat < 256 := (b.getD 0 0).toNat_lt
    obtain ⟨r1, r2, r3⟩ := ck_range g1
    clear h0
    obtain ⟨op2, hop2⟩ : ∃ v, (b.getD 0 0).toNat = v := ⟨_, rfl⟩
    obtain ⟨x2, hx2⟩ : ∃ v, padI (dcD b 0).2.1 0 = v := ⟨_, rfl⟩
    obtain ⟨y2, hy2⟩ : ∃ v, padI (dcD b 0).2.1 1 = v := ⟨_, rfl⟩
    obtain ⟨z2, hz2⟩ : ∃ v, padI (dcD b 0).2.1 2 = v := ⟨_, rfl⟩
    obtain ⟨q, hq_⟩ : ∃ v, (dcD b 0).2.2 = v := ⟨_, rfl⟩
    rw [hop2, hx2, hy2, hz2] at g1 g4 ⊢
    rw [hq_] at g2 g3 g4 ⊢
    rw [hop2] at gop
    rw [hx2] at r1
    rw [hy2] at r2
    rw [hz2] at r3
    rw [HBL.out] at g3
    clear hop2 hx2 hy2 hz2 hq_
    have HS := fun W => encode6_any op2 gop x2 y2 z2 r1 r2 r3 W
    unfold EnP at HS
    rw [g1, g4] at HS
    have hlq : (b.take q).length = q := by rw [List.length_take, HBL.out]; omega
    have HLQ := Lib.hid hlq
    rw [hlq] at HS
    clear g1 g4 r1 r2 r3 hlq
    have z29 : y1.cell? ⟨w.heap.size, 0, none⟩ = some (.int .u8 (op : Int)) := (hq.cell 0).trans rfl
    have z30 := hq.frozen 0
    have z31 : y1.cell? ⟨w.heap.size, 1, none⟩ = some (.int .i64 x) := (hq.cell 1).trans rfl
    have z32 := hq.frozen 1
    have z33 : y1.cell? ⟨w.heap.size, 2, none⟩ = some (.int .i64 y) := (hq.cell 2).trans rfl
    have z34 := hq.frozen 2
    have z35 : y1.cell? ⟨w.heap.size, 3, none⟩ = some (.int .i64 z) := (hq.cell 3).trans rfl
    have z36 := hq.frozen 3
    have z37 := hq.lt
    go_wp2_with fail
    refine (HS _).mono ?_
    rintro e y3 ⟨A6, c6, rfl, o6, bB⟩
    have o_hq_hc : w.heap.size < y1.heap.size := (by omega)
    have ow_hc : w.heap.size ≤ y1.heap.size := (by have := hB.size; omega)
    have o_hq_hy_ : w.heap.size < (y1.heap.size + 1) := (by omega)
    have ow_hy_ : w.heap.size ≤ (y1.heap.size + 1) := (by have := hB.size; omega)
    have o_hc_hy_ : y1.heap.size < (y1.heap.size + 1) := (by omega)
    replace hq := Blk.via0 (g := w.heap.size) (t := 23) bB (by repeat (first | with_reducible exact hq | with_reducible (apply Blk.set_) | with_reducible (apply Blk.far; case hp => (simp <;> omega)) | with_reducible (apply Blk.alloc) | with_reducible (apply Blk.drew)))
    replace hq : Blk y3 w.heap.size 23 #[.int .u8 (op : Int), .int .i64 x, .int .i64 y, .int .i64 z] := hq
    have hc := Blk.via0 (g := y1.heap.size) (t := 39) bB (by repeat (first | with_reducible exact Blk.newAt (by simp) _ _ | with_reducible (apply Blk.set_) | with_reducible (apply Blk.far; case hp => (simp <;> omega)) | with_reducible (apply Blk.alloc) | with_reducible (apply Blk.drew)))
    replace hc : Blk y3 y1.heap.size 39 #[.slice A2 n c2, .int .i64 (q : Int)] := hc
    have hy_ := Blk.via0 (g := (y1.heap.size + 1)) (t := 23) bB (by repeat (first | with_reducible exact Blk.newAt (by simp) _ _ | with_reducible (apply Blk.set_) | with_reducible (apply Blk.far; case hp => (simp <;> omega)) | with_reducible (apply Blk.alloc) | with_reducible (apply Blk.drew)))
    replace hy_ : Blk y3 (y1.heap.size + 1) 23 #[.int .u8 (op2 : Int), .int .i64 x2, .int .i64 y2, .int .i64 z2] := hy_
    replace hB := Below.via (w := w) (by have hs_ := hB.size; repeat (first | with_reducible exact hB | with_reducible (refine Below.setCell ?_ (by simp <;> omega) _) | with_reducible (refine Below.alloc ?_ (by first | exact hs_ | (simp <;> omega)) _) | with_reducible (refine Below.drew ?_))) bB
    clear z29 z30 z31 z32 z33 z34 z35 z36 z37
    clear bB
    generalize (y1.heap.size + 1) = py at *
    generalize y1.heap.size = pc at *
    clear HS
    have z38 : y3.cell? ⟨w.heap.size, 0, none⟩ = some (.int .u8 (op : Int)) := (hq.cell 0).trans rfl
    have z39 := hq.frozen 0
    have z40 : y3.cell? ⟨w.heap.size, 1, none⟩ = some (.int .i64 x) := (hq.cell 1).trans rfl
    have z41 := hq.frozen 1
    have z42 : y3.cell? ⟨w.heap.size, 2, none⟩ = some (.int .i64 y) := (hq.cell 2).trans rfl
    have z43 := hq.frozen 2
    have z44 : y3.cell? ⟨w.heap.size, 3, none⟩ = some (.int .i64 z) := (hq.cell 3).trans rfl
    have z45 := hq.frozen 3
    have z46 : y3.cell? ⟨pc, 0, none⟩ = some (.slice A2 n c2) := (hc.cell 0).trans rfl
    have z47 := hc.frozen 0
    have z48 : y3.cell? ⟨pc, 1, none⟩ = some (.int .i64 (q : Int)) := (hc.cell 1).trans rfl
    have z49 := hc.frozen 1
    have z50 : y3.cell? ⟨py, 0, none⟩ = some (.int .u8 (op2 : Int)) := (hy_.cell 0).trans rfl
    have z51 := hy_.frozen 0
    have z52 : y3.cell? ⟨py, 1, none⟩ = some (.int .i64 x2) := (hy_.cell 1).trans rfl
    have z53 := hy_.frozen 1
    have z54 : y3.cell? ⟨py, 2, none⟩ = some (.int .i64 y2) := (hy_.cell 2).trans rfl
    have z55 := hy_.frozen 2
    have z56 : y3.cell? ⟨py, 3, none⟩ = some (.int .i64 z2) := (hy_.cell 3).trans rfl
    have z57 := hy_.frozen 3
    have z58 := hq.lt
    have z59 := hc.lt
    have z60 := hy_.lt
    go_wp2_with fail
    clear z38 z39 z40 z41 z42 z43 z44 z45 z46 z47 z48 z49 z50 z51 z52 z53 z54 z55 z56 z57 z58 z59 z60
    refine nop_wp (ext_start (by kernel_rfl) calm_nop (fun hQ => ?_))
    have kc : Blk y3.drew pc 39 #[.slice A2 n c2, .int .i64 (q : Int)] := hc
    have o7 := own_drew_ o6
    have hB9 := hB.drew
    clear o6 hc hy_ hB
    generalize y3.drew = xx at *
    have X0 : ∀ W, Ext xx W → W.cell? ⟨pc, 1, none⟩ = some (.int .i64 (q : Int)) := fun W h_ => ((kc.below h_ kc.lt).cell 1).trans rfl
    have X1 : ∀ W, Ext xx W → (convert 37 9 (.slice A6 q c6)).run Try.prog W = .ok (.string ⟨(b.take q).toArray⟩) W := fun W h_ => cvS6 c6 (own_rd (own_call o7 h_))
    have X2 : ∀ W, Ext xx W → (convert 37 9 (.slice (sA A2 c2 0) q c2)).run Try.prog W = .ok (.string ⟨(b.take q).toArray⟩) W := fun W h_ => cvS6 c2 (by
      have h9 := sub_reads (c := c2) (i := 0) (v := q) (HR.out.mv (hB9.trans (h_.mono hB9.size))) (by omega) (by omega)
      simpa using h9)
    have KS : ∀ W, (Instr.slice 37 (.slice A2 n c2) none (some (.int .i64 (q : Int))) none).run Try.prog W = .ok (.slice (sA A2 c2 0) q c2) W := fun W => sl6_h A2 n c2 q (by omega) W
    have j1 : decide ((q : Int) ≥ 1) = true := by simp; omega
    have j3 : decide ((1 : Int) ≤ (q : Int)) = true := by simp; omega
    have j2 : decide ((q : Int) ≤ (n : Int)) = true := by simp; omega
    have s9 := tl_yes6 ⟨(b.take q).toArray⟩
    refine ext_take (i := 0) (oi := ?oia10) (v := ?va10) ?hia10 (by kernel_rfl) (by kernel_rfl) (by kernel_rfl) hQ ?hwa10 ?hya10 ?resta10
    case hia10 => simp only [List.getElem?_toArray, List.getElem?_cons_zero]; rfl
    case hwa10 => rfl
    case hya10 => intro W hW; go_simp; with_reducible rfl
    simp only [Act.put, List.setIfInBounds_toArray, List.set_cons_zero, List.set_cons_succ]
    refine ext_take (i := 1) (oi := ?oia11) (v := ?va11) ?hia11 (by kernel_rfl) (by kernel_rfl) (by kernel_rfl) hQ ?hwa11 ?hya11 ?resta11
    case hia11 => simp only [List.getElem?_toArray, List.getElem?_cons_zero, List.getElem?_cons_succ]; rfl
    case hwa11 => rfl
    case hya11 => intro W hW; go_simp; with_reducible rfl
    simp only [Act.put, List.setIfInBounds_toArray, List.set_cons_zero, List.set_cons_succ]
    refine ext_take (i := 2) (oi := ?oia12) (v := ?va12) ?hia12 (by kernel_rfl) (by kernel_rfl) (by kernel_rfl) hQ ?hwa12 ?hya12 ?resta12
    case hia12 => simp only [List.getElem?_toArray, List.getElem?_cons_zero, List.getElem?_cons_succ]; rfl
    case hwa12 => rfl
    case hya12 => intro W hW; go_simp; with_reducible rfl
    simp only [Act.put, List.setIfInBounds_toArray, List.set_cons_zero, List.set_cons_succ]
    refine ext_take (i := 3) (oi := ?oia13) (v := ?va13) ?hia13 (by kernel_rfl) (by kernel_rfl) (by kernel_rfl) hQ ?hwa13 ?hya13 ?resta13
    case hia13 => simp only [List.getElem?_toArray, List.getElem?_cons_zero, List.getElem?_cons_succ]; rfl
    case hwa13 => rfl
    case hya13 => intro W hW; go_simp; with_reducible rfl
    simp only [Act.put, List.setIfInBounds_toArray, List.set_cons_zero, List.set_cons_succ]
    refine ext_take (i := 4) (oi := ?oia14) (v := ?va14) ?hia14 (by kernel_rfl) (by kernel_rfl) (by kernel_rfl) hQ ?hwa14 ?hya14 ?resta14
    case hia14 => simp only [List.getElem?_toArray, List.getElem?_cons_zero, List.getElem?_cons_succ]; rfl
    case hwa14 => rfl
    case hya14 => intro W hW; go_simp; with_reducible rfl
    simp only [Act.put, List.setIfInBounds_toArray, List.set_cons_zero, List.set_cons_succ]
    refine ext_take (i := 5) (oi := ?oia15) (v := ?va15) ?hia15 (by kernel_rfl) (by kernel_rfl) (by kernel_rfl) hQ ?hwa15 ?hya15 ?resta15
    case hia15 => simp only [List.getElem?_toArray, List.getElem?_cons_zero, List.getElem?_cons_succ]; rfl
    case hwa15 => rfl
    case hya15 => intro W hW; go_simp; with_reducible rfl
    simp only [Act.put, List.setIfInBounds_toArray, List.set_cons_zero, List.set_cons_succ]
    refine ext_take (i := 6) (oi := ?oia16) (v := ?va16) ?hia16 (by kernel_rfl) (by kernel_rfl) (by kernel_rfl) hQ ?hwa16 ?hya16 ?resta16
    case hia16 => simp only [List.getElem?_toArray, List.getElem?_cons_zero, List.getElem?_cons_succ]; rfl
    case hwa16 => rfl
    case hya16 => intro W hW; go_simp; with_reducible rfl
    simp only [Act.put, List.setIfInBounds_toArray, List.set_cons_zero, List.set_cons_succ]
    refine ext_take (i := 7) (oi := ?oia17) (v := ?va17) ?hia17 (by kernel_rfl) (by kernel_rfl) (by kernel_rfl) hQ ?hwa17 ?hya17 ?resta17
    case hia17 => simp only [List.getElem?_toArray, List.getElem?_cons_zero, List.getElem?_cons_succ]; rfl
    case hwa17 => rfl
    case hya17 => intro W hW; go_simp; with_reducible rfl
    simp only [Act.put, List.setIfInBounds_toArray, List.set_cons_zero, List.set_cons_succ]
    refine ext_take (i := 8) (oi := ?oia18) (v := ?va18) ?hia18 (by kernel_rfl) (by kernel_rfl) (by kernel_rfl) hQ ?hwa18 ?hya18 ?resta18
    case hia18 => simp only [List.getElem?_toArray, List.getElem?_cons_zero, List.getElem?_cons_succ]; rfl
    case hwa18 => rfl
    case hya18 => intro W hW; go_simp; with_reducible rfl
    simp only [Act.put, List.setIfInBounds_toArray, List.set_cons_zero, List.set_cons_succ]
    refine ext_take (i := 9) (oi := ?oia19) (v := ?va19) ?hia19 (by kernel_rfl) (by kernel_rfl) (by kernel_rfl) hQ ?hwa19 ?hya19 ?resta19
    case hia19 => simp only [List.getElem?_toArray, List.getElem?_cons_zero, List.getElem?_cons_succ]; rfl
    case hwa19 => rfl
    case hya19 => intro W hW; go_simp; with_reducible rfl
    simp only [Act.put, List.setIfInBounds_toArray, List.set_cons_zero, List.set_cons_succ]
    refine ext_take (i := 10) (oi := ?oia110) (v := ?va110) ?hia110 (by kernel_rfl) (by kernel_rfl) (by kernel_rfl) hQ ?hwa110 ?hya110 ?resta110
    case hia110 => simp only [List.getElem?_toArray, List.getElem?_cons_zero, List.getElem?_cons_succ]; rfl
    case hwa110 => rfl
    case hya110 => intro W hW; go_simp; with_reducible rfl
    simp only [Act.put, List.setIfInBounds_toArray, List.set_cons_zero, List.set_cons_succ]
    refine ext_take (i := 11) (oi := ?oia111) (v := ?va111) ?hia111 (by kernel_rfl) (by kernel_rfl) (by kernel_rfl) hQ ?hwa111 ?hya111 ?resta111
    case hia111 => simp only [List.getElem?_toArray, List.getElem?_cons_zero, List.getElem?_cons_succ]; rfl
    case hwa111 => rfl
    case hya111 => intro W hW; go_simp; with_reducible rfl
    simp only [Act.put, List.setIfInBounds_toArray, List.set_cons_zero, List.set_cons_succ]
    refine ext_take (i := 12) (oi := ?oia112) (v := ?va112) ?hia112 (by kernel_rfl) (by kernel_rfl) (by kernel_rfl) hQ ?hwa112 ?hya112 ?resta112
    case hia112 => simp only [List.getElem?_toArray, List.getElem?_cons_zero, List.getElem?_cons_succ]; rfl
    case hwa112 => rfl
    case hya112 => intro W hW; go_simp; with_reducible rfl
    simp only [Act.put, List.setIfInBounds_toArray, List.set_cons_zero, List.set_cons_succ]
    refine ext_take (i := 13) (oi := ?oia113) (v := ?va113) ?hia113 (by kernel_rfl) (by kernel_rfl) (by kernel_rfl) hQ ?hwa113 ?hya113 ?resta113
    case hia113 => simp only [List.getElem?_toArray, List.getElem?_cons_zero, List.getElem?_cons_succ]; rfl
    case hwa113 => rfl
    case hya113 => intro W hW; go_simp; with_reducible rfl
    simp only [Act.put, List.setIfInBounds_toArray, List.set_cons_zero, List.set_cons_succ]
    refine ext_take (i := 14) (oi := ?oia114) (v := ?va114) ?hia114 (by kernel_rfl) (by kernel_rfl) (by kernel_rfl) hQ ?hwa114 ?hya114 ?resta114
    case hia114 => simp only [List.getElem?_toArray, List.getElem?_cons_zero, List.getElem?_cons_succ]; rfl
    case hwa114 => rfl
    case hya114 => intro W hW; go_simp; with_reducible rfl
    simp only [Act.put, List.setIfInBounds_toArray, List.set_cons_zero, List.set_cons_succ]
    refine ext_take (i := 15) (oi := ?oia115) (v := ?va115) ?hia115 (by kernel_rfl) (by kernel_rfl) (by kernel_rfl) hQ ?hwa115 ?hya115 ?resta115
    case hia115 => simp only [List.getElem?_toArray, List.getElem?_cons_zero, List.getElem?_cons_succ]; rfl
    case hwa115 => rfl
    case hya115 => intro W hW; go_simp; with_reducible rfl
    simp only [Act.put, List.setIfInBounds_toArray, List.set_cons_zero, List.set_cons_succ]
    refine ext_take (i := 16) (oi := ?oia116) (v := ?va116) ?hia116 (by kernel_rfl) (by kernel_rfl) (by kernel_rfl) hQ ?hwa116 ?hya116 ?resta116
    case hia116 => simp only [List.getElem?_toArray, List.getElem?_cons_zero, List.getElem?_cons_succ]; rfl
    case hwa116 => rfl
    case hya116 => intro W hW; go_simp; with_reducible rfl
    simp only [Act.put, List.setIfInBounds_toArray, List.set_cons_zero, List.set_cons_succ]
    refine ext_take (i := 17) (oi := ?oia117) (v := ?va117) ?hia117 (by kernel_rfl) (by kernel_rfl) (by kernel_rfl) hQ ?hwa117 ?hya117 ?resta117
    case hia117 => simp only [List.getElem?_toArray, List.getElem?_cons_zero, List.getElem?_cons_succ]; rfl
    case hwa117 => rfl
    case hya117 => intro W hW; go_simp; with_reducible rfl
    simp only [Act.put, List.setIfInBounds_toArray, List.set_cons_zero, List.set_cons_succ]
    refine ext_take (i := 18) (oi := ?oia118) (v := ?va118) ?hia118 (by kernel_rfl) (by kernel_rfl) (by kernel_rfl) hQ ?hwa118 ?hya118 ?resta118
    case hia118 => simp only [List.getElem?_toArray, List.getElem?_cons_zero, List.getElem?_cons_succ]; rfl
    case hwa118 => rfl
    case hya118 => intro W hW; go_simp; with_reducible rfl
    simp only [Act.put, List.setIfInBounds_toArray, List.set_cons_zero, List.set_cons_succ]
    refine ext_take (i := 19) (oi := ?oia119) (v := ?va119) ?hia119 (by kernel_rfl) (by kernel_rfl) (by kernel_rfl) hQ ?hwa119 ?hya119 ?resta119
    case hia119 => simp only [List.getElem?_toArray, List.getElem?_cons_zero, List.getElem?_cons_succ]; rfl
    case hwa119 => rfl
    case hya119 => intro W hW; go_simp; with_reducible rfl
    simp only [Act.put, List.setIfInBounds_toArray, List.set_cons_zero, List.set_cons_succ]
    refine ext_take (i := 20) (oi := ?oia120) (v := ?va120) ?hia120 (by kernel_rfl) (by kernel_rfl) (by kernel_rfl) hQ ?hwa120 ?hya120 ?resta120
    case hia120 => simp only [List.getElem?_toArray, List.getElem?_cons_zero, List.getElem?_cons_succ]; rfl
    case hwa120 => rfl
    case hya120 => intro W hW; go_simp; with_reducible rfl
    simp only [Act.put, List.setIfInBounds_toArray, List.set_cons_zero, List.set_cons_succ]
    refine ext_take (i := 21) (oi := ?oia121) (v := ?va121) ?hia121 (by kernel_rfl) (by kernel_rfl) (by kernel_rfl) hQ ?hwa121 ?hya121 ?resta121
    case hia121 => simp only [List.getElem?_toArray, List.getElem?_cons_zero, List.getElem?_cons_succ]; rfl
    case hwa121 => rfl
    case hya121 => intro W hW; go_simp; with_reducible rfl
    simp only [Act.put, List.setIfInBounds_toArray, List.set_cons_zero, List.set_cons_succ]
    refine ext_take (i := 22) (oi := ?oia122) (v := ?va122) ?hia122 (by kernel_rfl) (by kernel_rfl) (by kernel_rfl) hQ ?hwa122 ?hya122 ?resta122
    case hia122 => simp only [List.getElem?_toArray, List.getElem?_cons_zero, List.getElem?_cons_succ]; rfl
    case hwa122 => rfl
    case hya122 => intro W hW; go_simp; with_reducible rfl
    simp only [Act.put, List.setIfInBounds_toArray, List.set_cons_zero, List.set_cons_succ]
    refine ext_take (i := 23) (oi := ?oia123) (v := ?va123) ?hia123 (by kernel_rfl) (by kernel_rfl) (by kernel_rfl) hQ ?hwa123 ?hya123 ?resta123
    case hia123 => simp only [List.getElem?_toArray, List.getElem?_cons_zero, List.getElem?_cons_succ]; rfl
    case hwa123 => rfl
    case hya123 => intro W hW; go_simp; with_reducible rfl
    simp only [Act.put, List.setIfInBounds_toArray, List.set_cons_zero, List.set_cons_succ]
    refine ext_take (i := 24) (oi := ?oia124) (v := ?va124) ?hia124 (by kernel_rfl) (by kernel_rfl) (by kernel_rfl) hQ ?hwa124 ?hya124 ?resta124
    case hia124 => simp only [List.getElem?_toArray, List.getElem?_cons_zero, List.getElem?_cons_succ]; rfl
    case hwa124 => rfl
    case hya124 => intro W hW; go_simp; with_reducible rfl
    simp only [Act.put, List.setIfInBounds_toArray, List.set_cons_zero, List.set_cons_succ]
    refine ext_step (i := 25) (oi := ?oia125) (by kernel_rfl) ?hia125 ?hwa125 (fun K hK => ?_)
    case hia125 => simp only [List.getElem?_toArray, List.getElem?_cons_zero, List.getElem?_cons_succ]; rfl
    case hwa125 => rfl
    go_simp
    refine (alive6_any _).mono ?_; rintro e v9 ⟨rfl, b9⟩; have hB8 := hB9.trans (b9.mono hB9.size); refine hK _ _ b9 ?_
    try simp only [Act.put, List.setIfInBounds_toArray, List.set_cons_zero, List.set_cons_succ]
    refine ext_take (i := 26) (oi := ?oia126) (v := ?va126) ?hia126 (by kernel_rfl) (by kernel_rfl) (by kernel_rfl) hQ ?hwa126 ?hya126 ?resta126
    case hia126 => simp only [List.getElem?_toArray, List.getElem?_cons_zero, List.getElem?_cons_succ]; rfl
    case hwa126 => rfl
    case hya126 => intro W hW; go_simp; with_reducible rfl
    simp only [Act.put, List.setIfInBounds_toArray, List.set_cons_zero, List.set_cons_succ]
    refine ext_take (i := 27) (oi := ?oia127) (v := ?va127) ?hia127 (by kernel_rfl) (by kernel_rfl) (by kernel_rfl) hQ ?hwa127 ?hya127 ?resta127
    case hia127 => simp only [List.getElem?_toArray, List.getElem?_cons_zero, List.getElem?_cons_succ]; rfl
    case hwa127 => rfl
    case hya127 => intro W hW; go_simp; with_reducible rfl
    simp only [Act.put, List.setIfInBounds_toArray, List.set_cons_zero, List.set_cons_succ]
    refine wpAnyH_done (by kernel_rfl) ?_ _
    simp only [NoP]
    go_wp2_with fail
    go_ret
    exact ⟨rfl, hB8⟩
  obtain ⟨k1, k2, k3, k4, k5, k6⟩ := dec_enI hop hx hy hz HE.out (b := b) (by rw [HBL.out]; omega) rfl
  rw [HEN.out] at k1 k2 k3 k4 k5 k6
  have hl30 : EN.length ≤ 31 := by rw [← HEN.out]; exact enI_len op x y z
  have oe := own_empty w2 (Nat.le_refl _) 5 1
  have hE0 := (Below.refl w2.heap.size w2).alloc (Nat.le_refl _) (.cells #[] 5)
  have RR1 : Rb (w2.alloc (.cells #[] 5)) A1 EN.length EN := Reads.mv (own_rd o1) hE0
  have RB0 := HR.out.mv hB
  obtain ⟨N, hN⟩ : ∃ N, EN.length + n = N := ⟨_, rfl⟩
  go_wp2_with (at_builtin; first | (refine wpList_app8g (l := []) rfl (.tmp 33) (.tmp 34) _ (by rfl) sl8 w2.heap.size (by rfl) oe (by rfl) RR1 EN.length (by omega) (by omega) hE0.size ?_; intro A4 c4 w4 o4 g4 b4; rw [List.nil_append] at o4; have b14 := hE0.trans b4; have RW1 := RB0.mv b14; clear RR1 oe hE0) | (refine wpList_app8g (l := EN) rfl (.tmp 35) (.tmp 36) _ (by rfl) sl8 w2.heap.size (by rfl) o4 (by rfl) RW1 N hN (by omega) b14.size ?_; intro A5 c5 w5 o5 g5 b5))
  have b15 := b14.trans b5
  replace hq := hq.below b15 hq.lt
  replace hB := hB.trans (b15.mono hB.size)
  have hcp := own_cap o5
  have HD := decode6_any A5 N c5 (EN ++ b) 0 (by omega) w5 (own_rd o5) (by obtain ⟨h1, h2⟩ := hcp; unfold maxLen at h2; omega)
  unfold DeP at HD
  rw [show ((0 : Int)).toNat = 0 from rfl, k2, k3, k4, k5, k6] at HD
  refine HD.mono ?_
  rintro e w6 ⟨⟨_, rfl⟩ | ⟨hne, _⟩, b6⟩
  rotate_left
  · exact absurd k1 hne
  replace hq : Blk w6 w.heap.size 23 #[.int .u8 (op : Int), .int .i64 x, .int .i64 y, .int .i64 z] := hq.below b6 hq.lt
  replace hB := hB.trans (b6.mono hB.size)
  clear HD k1 k2 k3 k4 k5 k6 b14 b5 b4 b6 o4 o5 g4 g5 RW1 RB0 o1 b15
  have z28 : w6.cell? ⟨w.heap.size, 0, none⟩ = some (.int .u8 (op : Int)) := (hq.cell 0).trans rfl
  have z29 := hq.frozen 0
  have z30 : w6.cell? ⟨w.heap.size, 1, none⟩ = some (.int .i64 x) := (hq.cell 1).trans rfl
  have z31 := hq.frozen 1
  have z32 : w6.cell? ⟨w.heap.size, 2, none⟩ = some (.int .i64 y) := (hq.cell 2).trans rfl
  have z33 := hq.frozen 2
  have z34 : w6.cell? ⟨w.heap.size, 3, none⟩ = some (.int .i64 z) := (hq.cell 3).trans rfl
  have z35 := hq.frozen 3
  have z36 := hq.lt
  go_wp2_with fail
  have HD := fun W h => decode6_any A2 n c2 b 0 (by omega) W h (by omega)
  have z37 := hq.lt
  refine (HD _ (HR.out.mv (by have hs_ := hB.size; repeat (first | with_reducible exact hB | with_reducible (refine Below.setCell ?_ (by simp <;> omega) _) | with_reducible (refine Below.alloc ?_ (by first | exact hs_ | (simp <;> omega)) _) | with_reducible (refine Below.drew ?_))))).mono ?_
  intro e y1 hde
  clear HD
  unfold DeP at hde
  rw [show ((0 : Int)).toNat = 0 from rfl] at hde
  obtain ⟨hde, bB⟩ := hde
  replace hq := Blk.via0 (g := w.heap.size) (t := 23) bB (by repeat (first | with_reducible exact hq | with_reducible (apply Blk.set_) | with_reducible (apply Blk.far; case hp => (simp <;> omega)) | with_reducible (apply Blk.alloc) | with_reducible (apply Blk.drew)))
  replace hq : Blk y1 w.heap.size 23 #[.int .u8 (op : Int), .int .i64 x, .int .i64 y, .int .i64 z] := hq
  replace hB := Below.via (w := w) (by have hs_ := hB.size; repeat (first | with_reducible exact hB | with_reducible (refine Below.setCell ?_ (by simp <;> omega) _) | with_reducible (refine Below.alloc ?_ (by first | exact hs_ | (simp <;> omega)) _) | with_reducible (refine Below.drew ?_))) bB
  clear z28 z29 z30 z31 z32 z33 z34 z35 z36 z37
  clear bB
  rcases hde with ⟨h0, rfl⟩ | ⟨h0, rfl⟩
  rotate_left
  · obtain ⟨E2, hE2⟩ : ∃ E, dcE b 0 = E := ⟨_, rfl⟩
    rw [hE2] at h0 ⊢
    have dr : (E2 != 0) = true := by rw [bne_iff_ne]; exact h0
    clear h0 hE2
    have z38 : y1.cell? ⟨w.heap.size, 0, none⟩ = some (.int .u8 (op : Int)) := (hq.cell 0).trans rfl
    have z39 := hq.frozen 0
    have z40 : y1.cell? ⟨w.heap.size, 1, none⟩ = some (.int .i64 x) := (hq.cell 1).trans rfl
    have z41 := hq.frozen 1
    have z42 : y1.cell? ⟨w.heap.size, 2, none⟩ = some (.int .i64 y) := (hq.cell 2).trans rfl
    have z43 := hq.frozen 2
    have z44 : y1.cell? ⟨w.heap.size, 3, none⟩ = some (.int .i64 z) := (hq.cell 3).trans rfl
    have z45 := hq.frozen 3
    have z46 := hq.lt
    go_wp2_with fail
    refine (alive6_any _).mono ?_
    rintro e y2 ⟨rfl, bB⟩
    replace hq := Blk.via0 (g := w.heap.size) (t := 23) bB (by repeat (first | with_reducible exact hq | with_reducible (apply Blk.set_) | with_reducible (apply Blk.far; case hp => (simp <;> omega)) | with_reducible (apply Blk.alloc) | with_reducible (apply Blk.drew)))
    replace hq : Blk y2 w.heap.size 23 #[.int .u8 (op : Int), .int .i64 x, .int .i64 y, .int .i64 z] := hq
    replace hB := Below.via (w := w) (by have hs_ := hB.size; repeat (first | with_reducible exact hB | with_reducible (refine Below.setCell ?_ (by simp <;> omega) _) | with_reducible (refine Below.alloc ?_ (by first | exact hs_ | (simp <;> omega)) _) | with_reducible (refine Below.drew ?_))) bB
    clear z38 z39 z40 z41 z42 z43 z44 z45 z46
    clear bB
    go_wp2_with fail
    go_ret
    exact ⟨rfl, (by have hs_ := hB.size; repeat (first | with_reducible exact hB | with_reducible (refine Below.setCell ?_ (by simp <;> omega) _) | with_reducible (refine Below.alloc ?_ (by first | exact hs_ | (simp <;> omega)) _) | with_reducible (refine Below.drew ?_)))⟩
  obtain ⟨g1, g2, g3, g4⟩ := dec_backI h0
  have gop : (b.getD 0 0).toNat < 256 := (b.getD 0 0).toNat_lt
  obtain ⟨r1, r2, r3⟩ := ck_range g1
  clear h0
  obtain ⟨op2, hop2⟩ : ∃ v, (b.getD 0 0).toNat = v := ⟨_, rfl⟩
  obtain ⟨x2, hx2⟩ : ∃ v, padI (dcD b 0).2.1 0 = v := ⟨_, rfl⟩
  obtain ⟨y2, hy2⟩ : ∃ v, padI (dcD b 0).2.1 1 = v := ⟨_, rfl⟩
  obtain ⟨z2, hz2⟩ : ∃ v, padI (dcD b 0).2.1 2 = v := ⟨_, rfl⟩
  obtain ⟨q, hq_⟩ : ∃ v, (dcD b 0).2.2 = v := ⟨_, rfl⟩
  rw [hop2, hx2, hy2, hz2] at g1 g4 ⊢
  rw [hq_] at g2 g3 g4 ⊢
  rw [hop2] at gop
  rw [hx2] at r1
  rw [hy2] at r2
  rw [hz2] at r3
  rw [HBL.out] at g3
  clear hop2 hx2 hy2 hz2 hq_
  have HS := fun W => encode6_any op2 gop x2 y2 z2 r1 r2 r3 W
  unfold EnP at HS
  rw [g1, g4] at HS
  have hlq : (b.take q).length = q := by rw [List.length_take, HBL.out]; omega
  have HLQ := Lib.hid hlq
  rw [hlq] at HS
  clear g1 g4 r1 r2 r3 hlq
  have z38 : y1.cell? ⟨w.heap.size, 0, none⟩ = some (.int .u8 (op : Int)) := (hq.cell 0).trans rfl
  have z39 := hq.frozen 0
  have z40 : y1.cell? ⟨w.heap.size, 1, none⟩ = some (.int .i64 x) := (hq.cell 1).trans rfl
  have z41 := hq.frozen 1
  have z42 : y1.cell? ⟨w.heap.size, 2, none⟩ = some (.int .i64 y) := (hq.cell 2).trans rfl
  have z43 := hq.frozen 2
  have z44 : y1.cell? ⟨w.heap.size, 3, none⟩ = some (.int .i64 z) := (hq.cell 3).trans rfl
  have z45 := hq.frozen 3
  have z46 := hq.lt
  go_wp2_with fail
  refine (HS _).mono ?_
  rintro e y3 ⟨A6, c6, rfl, o6, bB⟩
  have o_hq_hc : w.heap.size < y1.heap.size := (by omega)
  have ow_hc : w.heap.size ≤ y1.heap.size := (by have := hB.size; omega)
  have o_hq_hy_ : w.heap.size < (y1.heap.size + 1) := (by omega)
  have ow_hy_ : w.heap.size ≤ (y1.heap.size + 1) := (by have := hB.size; omega)
  have o_hc_hy_ : y1.heap.size < (y1.heap.size + 1) := (by omega)
  replace hq := Blk.via0 (g := w.heap.size) (t := 23) bB (by repeat (first | with_reducible exact hq | with_reducible (apply Blk.set_) | with_reducible (apply Blk.far; case hp => (simp <;> omega)) | with_reducible (apply Blk.alloc) | with_reducible (apply Blk.drew)))
  replace hq : Blk y3 w.heap.size 23 #[.int .u8 (op : Int), .int .i64 x, .int .i64 y, .int .i64 z] := hq
  have hc := Blk.via0 (g := y1.heap.size) (t := 39) bB (by repeat (first | with_reducible exact Blk.newAt (by simp) _ _ | with_reducible (apply Blk.set_) | with_reducible (apply Blk.far; case hp => (simp <;> omega)) | with_reducible (apply Blk.alloc) | with_reducible (apply Blk.drew)))
  replace hc : Blk y3 y1.heap.size 39 #[.slice A2 n c2, .int .i64 (q : Int)] := hc
  have hy_ := Blk.via0 (g := (y1.heap.size + 1)) (t := 23) bB (by repeat (first | with_reducible exact Blk.newAt (by simp) _ _ | with_reducible (apply Blk.set_) | with_reducible (apply Blk.far; case hp => (simp <;> omega)) | with_reducible (apply Blk.alloc) | with_reducible (apply Blk.drew)))
  replace hy_ : Blk y3 (y1.heap.size + 1) 23 #[.int .u8 (op2 : Int), .int .i64 x2, .int .i64 y2, .int .i64 z2] := hy_
  replace hB := Below.via (w := w) (by have hs_ := hB.size; repeat (first | with_reducible exact hB | with_reducible (refine Below.setCell ?_ (by simp <;> omega) _) | with_reducible (refine Below.alloc ?_ (by first | exact hs_ | (simp <;> omega)) _) | with_reducible (refine Below.drew ?_))) bB
  clear z38 z39 z40 z41 z42 z43 z44 z45 z46
  clear bB
  generalize (y1.heap.size + 1) = py at *
  generalize y1.heap.size = pc at *
  clear HS
  have z47 : y3.cell? ⟨w.heap.size, 0, none⟩ = some (.int .u8 (op : Int)) := (hq.cell 0).trans rfl
  have z48 := hq.frozen 0
  have z49 : y3.cell? ⟨w.heap.size, 1, none⟩ = some (.int .i64 x) := (hq.cell 1).trans rfl
  have z50 := hq.frozen 1
  have z51 : y3.cell? ⟨w.heap.size, 2, none⟩ = some (.int .i64 y) := (hq.cell 2).trans rfl
  have z52 := hq.frozen 2
  have z53 : y3.cell? ⟨w.heap.size, 3, none⟩ = some (.int .i64 z) := (hq.cell 3).trans rfl
  have z54 := hq.frozen 3
  have z55 : y3.cell? ⟨pc, 0, none⟩ = some (.slice A2 n c2) := (hc.cell 0).trans rfl
  have z56 := hc.frozen 0
  have z57 : y3.cell? ⟨pc, 1, none⟩ = some (.int .i64 (q : Int)) := (hc.cell 1).trans rfl
  have z58 := hc.frozen 1
  have z59 : y3.cell? ⟨py, 0, none⟩ = some (.int .u8 (op2 : Int)) := (hy_.cell 0).trans rfl
  have z60 := hy_.frozen 0
  have z61 : y3.cell? ⟨py, 1, none⟩ = some (.int .i64 x2) := (hy_.cell 1).trans rfl
  have z62 := hy_.frozen 1
  have z63 : y3.cell? ⟨py, 2, none⟩ = some (.int .i64 y2) := (hy_.cell 2).trans rfl
  have z64 := hy_.frozen 2
  have z65 : y3.cell? ⟨py, 3, none⟩ = some (.int .i64 z2) := (hy_.cell 3).trans rfl
  have z66 := hy_.frozen 3
  have z67 := hq.lt
  have z68 := hc.lt
  have z69 := hy_.lt
  go_wp2_with fail
  clear z47 z48 z49 z50 z51 z52 z53 z54 z55 z56 z57 z58 z59 z60 z61 z62 z63 z64 z65 z66 z67 z68 z69
  refine nop_wp (ext_start (by kernel_rfl) calm_nop (fun hQ => ?_))
  have kc : Blk y3.drew pc 39 #[.slice A2 n c2, .int .i64 (q : Int)] := hc
  have o7 := own_drew_ o6
  have hB9 := hB.drew
  clear o6 hc hy_ hB
  generalize y3.drew = xx at *
  have X0 : ∀ W, Ext xx W → W.cell? ⟨pc, 1, none⟩ = some (.int .i64 (q : Int)) := fun W h_ => ((kc.below h_ kc.lt).cell 1).trans rfl
  have X1 : ∀ W, Ext xx W → (convert 37 9 (.slice A6 q c6)).run Try.prog W = .ok (.string ⟨(b.take q).toArray⟩) W := fun W h_ => cvS6 c6 (own_rd (own_call o7 h_))
  have X2 : ∀ W, Ext xx W → (convert 37 9 (.slice (sA A2 c2 0) q c2)).run Try.prog W = .ok (.string ⟨(b.take q).toArray⟩) W := fun W h_ => cvS6 c2 (by
    have h9 := sub_reads (c := c2) (i := 0) (v := q) (HR.out.mv (hB9.trans (h_.mono hB9.size))) (by omega) (by omega)
    simpa using h9)
  have KS : ∀ W, (Instr.slice 37 (.slice A2 n c2) none (some (.int .i64 (q : Int))) none).run Try.prog W = .ok (.slice (sA A2 c2 0) q c2) W := fun W => sl6_h A2 n c2 q (by omega) W
  have j1 : decide ((q : Int) ≥ 1) = true := by simp; omega
  have j3 : decide ((1 : Int) ≤ (q : Int)) = true := by simp; omega
  have j2 : decide ((q : Int) ≤ (n : Int)) = true := by simp; omega
  have s9 := tl_yes6 ⟨(b.take q).toArray⟩
  refine ext_take (i := 0) (oi := ?oia20) (v := ?va20) ?hia20 (by kernel_rfl) (by kernel_rfl) (by kernel_rfl) hQ ?hwa20 ?hya20 ?resta20
  case hia20 => simp only [List.getElem?_toArray, List.getElem?_cons_zero]; rfl
  case hwa20 => rfl
  case hya20 => intro W hW; go_simp; with_reducible rfl
  simp only [Act.put, List.setIfInBounds_toArray, List.set_cons_zero, List.set_cons_succ]
  refine ext_take (i := 1) (oi := ?oia21) (v := ?va21) ?hia21 (by kernel_rfl) (by kernel_rfl) (by kernel_rfl) hQ ?hwa21 ?hya21 ?resta21
  case hia21 => simp only [List.getElem?_toArray, List.getElem?_cons_zero, List.getElem?_cons_succ]; rfl
  case hwa21 => rfl
  case hya21 => intro W hW; go_simp; with_reducible rfl
  simp only [Act.put, List.setIfInBounds_toArray, List.set_cons_zero, List.set_cons_succ]
  refine ext_take (i := 2) (oi := ?oia22) (v := ?va22) ?hia22 (by kernel_rfl) (by kernel_rfl) (by kernel_rfl) hQ ?hwa22 ?hya22 ?resta22
  case hia22 => simp only [List.getElem?_toArray, List.getElem?_cons_zero, List.getElem?_cons_succ]; rfl
  case hwa22 => rfl
  case hya22 => intro W hW; go_simp; with_reducible rfl
  simp only [Act.put, List.setIfInBounds_toArray, List.set_cons_zero, List.set_cons_succ]
  refine ext_take (i := 3) (oi := ?oia23) (v := ?va23) ?hia23 (by kernel_rfl) (by kernel_rfl) (by kernel_rfl) hQ ?hwa23 ?hya23 ?resta23
  case hia23 => simp only [List.getElem?_toArray, List.getElem?_cons_zero, List.getElem?_cons_succ]; rfl
  case hwa23 => rfl
  case hya23 => intro W hW; go_simp; with_reducible rfl
  simp only [Act.put, List.setIfInBounds_toArray, List.set_cons_zero, List.set_cons_succ]
  refine ext_take (i := 4) (oi := ?oia24) (v := ?va24) ?hia24 (by kernel_rfl) (by kernel_rfl) (by kernel_rfl) hQ ?hwa24 ?hya24 ?resta24
  case hia24 => simp only [List.getElem?_toArray, List.getElem?_cons_zero, List.getElem?_cons_succ]; rfl
  case hwa24 => rfl
  case hya24 => intro W hW; go_simp; with_reducible rfl
  simp only [Act.put, List.setIfInBounds_toArray, List.set_cons_zero, List.set_cons_succ]
  refine ext_take (i := 5) (oi := ?oia25) (v := ?va25) ?hia25 (by kernel_rfl) (by kernel_rfl) (by kernel_rfl) hQ ?hwa25 ?hya25 ?resta25
  case hia25 => simp only [List.getElem?_toArray, List.getElem?_cons_zero, List.getElem?_cons_succ]; rfl
  case hwa25 => rfl
  case hya25 => intro W hW; go_simp; with_reducible rfl
  simp only [Act.put, List.setIfInBounds_toArray, List.set_cons_zero, List.set_cons_succ]
  refine ext_take (i := 6) (oi := ?oia26) (v := ?va26) ?hia26 (by kernel_rfl) (by kernel_rfl) (by kernel_rfl) hQ ?hwa26 ?hya26 ?resta26
  case hia26 => simp only [List.getElem?_toArray, List.getElem?_cons_zero, List.getElem?_cons_succ]; rfl
  case hwa26 => rfl
  case hya26 => intro W hW; go_simp; with_reducible rfl
  simp only [Act.put, List.setIfInBounds_toArray, List.set_cons_zero, List.set_cons_succ]
  refine ext_take (i := 7) (oi := ?oia27) (v := ?va27) ?hia27 (by kernel_rfl) (by kernel_rfl) (by kernel_rfl) hQ ?hwa27 ?hya27 ?resta27
  case hia27 => simp only [List.getElem?_toArray, List.getElem?_cons_zero, List.getElem?_cons_succ]; rfl
  case hwa27 => rfl
  case hya27 => intro W hW; go_simp; with_reducible rfl
  simp only [Act.put, List.setIfInBounds_toArray, List.set_cons_zero, List.set_cons_succ]
  refine ext_take (i := 8) (oi := ?oia28) (v := ?va28) ?hia28 (by kernel_rfl) (by kernel_rfl) (by kernel_rfl) hQ ?hwa28 ?hya28 ?resta28
  case hia28 => simp only [List.getElem?_toArray, List.getElem?_cons_zero, List.getElem?_cons_succ]; rfl
  case hwa28 => rfl
  case hya28 => intro W hW; go_simp; with_reducible rfl
  simp only [Act.put, List.setIfInBounds_toArray, List.set_cons_zero, List.set_cons_succ]
  refine ext_take (i := 9) (oi := ?oia29) (v := ?va29) ?hia29 (by kernel_rfl) (by kernel_rfl) (by kernel_rfl) hQ ?hwa29 ?hya29 ?resta29
  case hia29 => simp only [List.getElem?_toArray, List.getElem?_cons_zero, List.getElem?_cons_succ]; rfl
  case hwa29 => rfl
  case hya29 => intro W hW; go_simp; with_reducible rfl
  simp only [Act.put, List.setIfInBounds_toArray, List.set_cons_zero, List.set_cons_succ]
  refine ext_take (i := 10) (oi := ?oia210) (v := ?va210) ?hia210 (by kernel_rfl) (by kernel_rfl) (by kernel_rfl) hQ ?hwa210 ?hya210 ?resta210
  case hia210 => simp only [List.getElem?_toArray, List.getElem?_cons_zero, List.getElem?_cons_succ]; rfl
  case hwa210 => rfl
  case hya210 => intro W hW; go_simp; with_reducible rfl
  simp only [Act.put, List.setIfInBounds_toArray, List.set_cons_zero, List.set_cons_succ]
  refine ext_take (i := 11) (oi := ?oia211) (v := ?va211) ?hia211 (by kernel_rfl) (by kernel_rfl) (by kernel_rfl) hQ ?hwa211 ?hya211 ?resta211
  case hia211 => simp only [List.getElem?_toArray, List.getElem?_cons_zero, List.getElem?_cons_succ]; rfl
  case hwa211 => rfl
  case hya211 => intro W hW; go_simp; with_reducible rfl
  simp only [Act.put, List.setIfInBounds_toArray, List.set_cons_zero, List.set_cons_succ]
  refine ext_take (i := 12) (oi := ?oia212) (v := ?va212) ?hia212 (by kernel_rfl) (by kernel_rfl) (by kernel_rfl) hQ ?hwa212 ?hya212 ?resta212
  case hia212 => simp only [List.getElem?_toArray, List.getElem?_cons_zero, List.getElem?_cons_succ]; rfl
  case hwa212 => rfl
  case hya212 => intro W hW; go_simp; with_reducible rfl
  simp only [Act.put, List.setIfInBounds_toArray, List.set_cons_zero, List.set_cons_succ]
  refine ext_take (i := 13) (oi := ?oia213) (v := ?va213) ?hia213 (by kernel_rfl) (by kernel_rfl) (by kernel_rfl) hQ ?hwa213 ?hya213 ?resta213
  case hia213 => simp only [List.getElem?_toArray, List.getElem?_cons_zero, List.getElem?_cons_succ]; rfl
  case hwa213 => rfl
  case hya213 => intro W hW; go_simp; with_reducible rfl
  simp only [Act.put, List.setIfInBounds_toArray, List.set_cons_zero, List.set_cons_succ]
  refine ext_take (i := 14) (oi := ?oia214) (v := ?va214) ?hia214 (by kernel_rfl) (by kernel_rfl) (by kernel_rfl) hQ ?hwa214 ?hya214 ?resta214
  case hia214 => simp only [List.getElem?_toArray, List.getElem?_cons_zero, List.getElem?_cons_succ]; rfl
  case hwa214 => rfl
  case hya214 => intro W hW; go_simp; with_reducible rfl
  simp only [Act.put, List.setIfInBounds_toArray, List.set_cons_zero, List.set_cons_succ]
  refine ext_take (i := 15) (oi := ?oia215) (v := ?va215) ?hia215 (by kernel_rfl) (by kernel_rfl) (by kernel_rfl) hQ ?hwa215 ?hya215 ?resta215
  case hia215 => simp only [List.getElem?_toArray, List.getElem?_cons_zero, List.getElem?_cons_succ]; rfl
  case hwa215 => rfl
  case hya215 => intro W hW; go_simp; with_reducible rfl
  simp only [Act.put, List.setIfInBounds_toArray, List.set_cons_zero, List.set_cons_succ]
  refine ext_take (i := 16) (oi := ?oia216) (v := ?va216) ?hia216 (by kernel_rfl) (by kernel_rfl) (by kernel_rfl) hQ ?hwa216 ?hya216 ?resta216
  case hia216 => simp only [List.getElem?_toArray, List.getElem?_cons_zero, List.getElem?_cons_succ]; rfl
  case hwa216 => rfl
  case hya216 => intro W hW; go_simp; with_reducible rfl
  simp only [Act.put, List.setIfInBounds_toArray, List.set_cons_zero, List.set_cons_succ]
  refine ext_take (i := 17) (oi := ?oia217) (v := ?va217) ?hia217 (by kernel_rfl) (by kernel_rfl) (by kernel_rfl) hQ ?hwa217 ?hya217 ?resta217
  case hia217 => simp only [List.getElem?_toArray, List.getElem?_cons_zero, List.getElem?_cons_succ]; rfl
  case hwa217 => rfl
  case hya217 => intro W hW; go_simp; with_reducible rfl
  simp only [Act.put, List.setIfInBounds_toArray, List.set_cons_zero, List.set_cons_succ]
  refine ext_take (i := 18) (oi := ?oia218) (v := ?va218) ?hia218 (by kernel_rfl) (by kernel_rfl) (by kernel_rfl) hQ ?hwa218 ?hya218 ?resta218
  case hia218 => simp only [List.getElem?_toArray, List.getElem?_cons_zero, List.getElem?_cons_succ]; rfl
  case hwa218 => rfl
  case hya218 => intro W hW; go_simp; with_reducible rfl
  simp only [Act.put, List.setIfInBounds_toArray, List.set_cons_zero, List.set_cons_succ]
  refine ext_take (i := 19) (oi := ?oia219) (v := ?va219) ?hia219 (by kernel_rfl) (by kernel_rfl) (by kernel_rfl) hQ ?hwa219 ?hya219 ?resta219
  case hia219 => simp only [List.getElem?_toArray, List.getElem?_cons_zero, List.getElem?_cons_succ]; rfl
  case hwa219 => rfl
  case hya219 => intro W hW; go_simp; with_reducible rfl
  simp only [Act.put, List.setIfInBounds_toArray, List.set_cons_zero, List.set_cons_succ]
  refine ext_take (i := 20) (oi := ?oia220) (v := ?va220) ?hia220 (by kernel_rfl) (by kernel_rfl) (by kernel_rfl) hQ ?hwa220 ?hya220 ?resta220
  case hia220 => simp only [List.getElem?_toArray, List.getElem?_cons_zero, List.getElem?_cons_succ]; rfl
  case hwa220 => rfl
  case hya220 => intro W hW; go_simp; with_reducible rfl
  simp only [Act.put, List.setIfInBounds_toArray, List.set_cons_zero, List.set_cons_succ]
  refine ext_take (i := 21) (oi := ?oia221) (v := ?va221) ?hia221 (by kernel_rfl) (by kernel_rfl) (by kernel_rfl) hQ ?hwa221 ?hya221 ?resta221
  case hia221 => simp only [List.getElem?_toArray, List.getElem?_cons_zero, List.getElem?_cons_succ]; rfl
  case hwa221 => rfl
  case hya221 => intro W hW; go_simp; with_reducible rfl
  simp only [Act.put, List.setIfInBounds_toArray, List.set_cons_zero, List.set_cons_succ]
  refine ext_take (i := 22) (oi := ?oia222) (v := ?va222) ?hia222 (by kernel_rfl) (by kernel_rfl) (by kernel_rfl) hQ ?hwa222 ?hya222 ?resta222
  case hia222 => simp only [List.getElem?_toArray, List.getElem?_cons_zero, List.getElem?_cons_succ]; rfl
  case hwa222 => rfl
  case hya222 => intro W hW; go_simp; with_reducible rfl
  simp only [Act.put, List.setIfInBounds_toArray, List.set_cons_zero, List.set_cons_succ]
  refine ext_take (i := 23) (oi := ?oia223) (v := ?va223) ?hia223 (by kernel_rfl) (by kernel_rfl) (by kernel_rfl) hQ ?hwa223 ?hya223 ?resta223
  case hia223 => simp only [List.getElem?_toArray, List.getElem?_cons_zero, List.getElem?_cons_succ]; rfl
  case hwa223 => rfl
  case hya223 => intro W hW; go_simp; with_reducible rfl
  simp only [Act.put, List.setIfInBounds_toArray, List.set_cons_zero, List.set_cons_succ]
  refine ext_take (i := 24) (oi := ?oia224) (v := ?va224) ?hia224 (by kernel_rfl) (by kernel_rfl) (by kernel_rfl) hQ ?hwa224 ?hya224 ?resta224
  case hia224 => simp only [List.getElem?_toArray, List.getElem?_cons_zero, List.getElem?_cons_succ]; rfl
  case hwa224 => rfl
  case hya224 => intro W hW; go_simp; with_reducible rfl
  simp only [Act.put, List.setIfInBounds_toArray, List.set_cons_zero, List.set_cons_succ]
  refine ext_step (i := 25) (oi := ?oia225) (by kernel_rfl) ?hia225 ?hwa225 (fun K hK => ?_)
  case hia225 => simp only [List.getElem?_toArray, List.getElem?_cons_zero, List.getElem?_cons_succ]; rfl
  case hwa225 => rfl
  go_simp
  refine (alive6_any _).mono ?_; rintro e v9 ⟨rfl, b9⟩; have hB8 := hB9.trans (b9.mono hB9.size); refine hK _ _ b9 ?_
  try simp only [Act.put, List.setIfInBounds_toArray, List.set_cons_zero, List.set_cons_succ]
  refine ext_take (i := 26) (oi := ?oia226) (v := ?va226) ?hia226 (by kernel_rfl) (by kernel_rfl) (by kernel_rfl) hQ ?hwa226 ?hya226 ?resta226
  case hia226 => simp only [List.getElem?_toArray, List.getElem?_cons_zero, List.getElem?_cons_succ]; rfl
  case hwa226 => rfl
  case hya226 => intro W hW; go_simp; with_reducible rfl
  simp only [Act.put, List.setIfInBounds_toArray, List.set_cons_zero, List.set_cons_succ]
  refine ext_take (i := 27) (oi := ?oia227) (v := ?va227) ?hia227 (by kernel_rfl) (by kernel_rfl) (by kernel_rfl) hQ ?hwa227 ?hya227 ?resta227
  case hia227 => simp only [List.getElem?_toArray, List.getElem?_cons_zero, List.getElem?_cons_succ]; rfl
  case hwa227 => rfl
  case hya227 => intro W hW; go_simp; with_reducible rfl
  simp only [Act.put, List.setIfInBounds_toArray, List.set_cons_zero, List.set_cons_succ]
  refine wpAnyH_done (by kernel_rfl) ?_ _
  simp only [NoP]
  go_wp2_with fail
  go_ret
  exact ⟨rfl, hB8⟩

end Go.Proofs.Ytkhdeoihjnpnaaa
