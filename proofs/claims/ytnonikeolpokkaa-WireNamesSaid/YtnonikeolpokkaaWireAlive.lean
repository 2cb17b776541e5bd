/- The walk of the chapter's examples (alive): they hold. No conditions. -/
import Derived.Test.YtnonikeolpokkaaWireUnvary
namespace Go.Proofs.Ytnonikeolpokkaa
open Go.RowKit Wire
set_option linter.unusedVariables false

theorem is_any (A B : Option Addr) (n c m d : Nat) (l : List UInt8) (w : World) (hr : Rb w A n l) (hs : Rb w B m l) :
    Calls Try.prog 36 #[.slice A n c, .slice B m d] w fun e w' => e = .returned (.bool true) ∧ w = w' := by
  have HR := conv_to_str (P := Try.prog) 23 9 5 Try.underlying23 Try.underlying5 Try.underlying9 c hr
  have HS := conv_to_str (P := Try.prog) 23 9 5 Try.underlying23 Try.underlying5 Try.underlying9 d hs
  clear hr hs
  go_enter Try.func36, Try.ntmps36
  go_wp2_with fail
  go_ret
  exact ⟨rfl, rfl⟩

set_option maxRecDepth 100000 in
set_option maxHeartbeats 4000000 in
theorem alive_any (w : World) : Calls Try.prog 23 #[] w fun e w' => e = .returned (.bool true) ∧ Below w.heap.size w w' := by
  have hB := Below.refl w.heap.size w
  go_enter Try.func23, Try.ntmps23
  go_wp2_with fail
  refine (fixed_any 300 4 (by omega) (by omega) w).mono ?_
  rintro e w1 ⟨A1, c1, rfl, o1, b1⟩
  rw [show fxL 300 4 = [44, 1, 0, 0] from by decide, show fxE 300 4 = 0 from by decide]
  rw [show fxL 300 4 = [44, 1, 0, 0] from by decide] at o1
  have R1 := own_reads o1
  replace hB := hB.trans b1
  clear o1 b1
  go_wp2_with fail
  refine (text_any ⟨#[97, 98]⟩ (by decide) w1).mono ?_
  rintro e w2 ⟨A2, c2, rfl, o2, b2⟩
  rw [show txL ⟨#[97, 98]⟩ = [2, 97, 98] from by decide, show txE ⟨#[97, 98]⟩ = 0 from by decide]
  rw [show txL ⟨#[97, 98]⟩ = [2, 97, 98] from by decide] at o2
  have R2 := own_reads o2
  replace R1 := R1.mv b2
  replace hB := hB.trans (b2.mono hB.size)
  clear o2 b2
  go_wp2_with fail
  have hb3 := (Below.refl w2.heap.size w2).alloc (Nat.le_refl _) (.cells #[.int .u8 128, .int .u8 0] 5)
  replace R1 := R1.mv hb3
  replace R2 := R2.mv hb3
  replace hB := hB.trans (hb3.mono hB.size)
  have R3 := reads_bytes w2 [128, 0] 5
  clear hb3
  refine (unvary_any (some ⟨w2.heap.size, 0, none⟩) 2 2 [128, 0] 0 1000 _ R3 (by omega) (by omega) (by omega)).mono ?_
  rintro e w3 ⟨rfl, b3⟩
  rw [show uvE [128, 0] 0 1000 = 12 from by decide]
  have HB3 := Lib.hid (uv_bad (l := [128, 0]) (a := 0) (most := 1000) (some ⟨w2.heap.size, 0, none⟩) 2 2 (show uvE [128, 0] 0 1000 = 12 from by decide) (by decide))
  rw [HB3.out.1, HB3.out.2]
  replace R1 := R1.mv b3
  replace R2 := R2.mv b3
  replace hB := hB.trans (b3.mono hB.size)
  clear b3 R3 HB3
  go_wp2_with fail
  have hb4 := (Below.refl w3.heap.size w3).alloc (Nat.le_refl _) (.cells #[.slice none 0 0, .int .i64 0] 33)
  rw [← alloc_size w3 (.cells #[.slice none 0 0, .int .i64 0] 33)]
  generalize w3.alloc (.cells #[.slice none 0 0, .int .i64 0] 33) = w4 at *
  replace R1 := R1.mv hb4
  replace R2 := R2.mv hb4
  replace hB := hB.trans (hb4.mono hB.size)
  clear hb4
  have hb := (Below.refl w4.heap.size w4).alloc (Nat.le_refl _) (.cells #[.int .u8 44, .int .u8 1, .int .u8 0, .int .u8 0] 5)
  have HI := Lib.hid (is_any A1 (some ⟨w4.heap.size, 0, none⟩) 4 c1 4 4 [44, 1, 0, 0] _ (R1.mv hb) (reads_bytes w4 [44, 1, 0, 0] 5))
  refine HI.out.mono ?_
  rintro e w5 ⟨rfl, rfl⟩
  replace hB := hB.trans (hb.mono hB.size)
  replace R2 := R2.mv hb
  clear HI
  generalize w4.alloc (.cells #[.int .u8 44, .int .u8 1, .int .u8 0, .int .u8 0] 5) = w5 at *
  clear hb
  go_wp2_with fail
  clear R1
  refine (vary_any 300 (by omega) _).mono ?_
  rintro e w6 ⟨A6, c6, rfl, oo, bb⟩
  rw [show vry 300 = [172, 2] from by decide]
  rw [show vry 300 = [172, 2] from by decide] at oo
  have RR := own_reads oo
  replace R2 := R2.mv bb
  replace hB := hB.trans (bb.mono hB.size)
  clear oo bb
  go_wp2_with fail
  have hb := (Below.refl w6.heap.size w6).alloc (Nat.le_refl _) (.cells #[.int .u8 172, .int .u8 2] 5)
  have HI := Lib.hid (is_any A6 (some ⟨w6.heap.size, 0, none⟩) 2 c6 2 2 [172, 2] _ (RR.mv hb) (reads_bytes w6 [172, 2] 5))
  refine HI.out.mono ?_
  rintro e w7 ⟨rfl, rfl⟩
  replace hB := hB.trans (hb.mono hB.size)
  replace R2 := R2.mv hb
  clear HI
  generalize w6.alloc (.cells #[.int .u8 172, .int .u8 2] 5) = w7 at *
  clear hb
  go_wp2_with fail
  clear RR
  refine (vary_any 127 (by omega) _).mono ?_
  rintro e w8 ⟨A8, c8, rfl, oo, bb⟩
  rw [show vry 127 = [127] from by decide]
  rw [show vry 127 = [127] from by decide] at oo
  have RR := own_reads oo
  replace R2 := R2.mv bb
  replace hB := hB.trans (bb.mono hB.size)
  clear oo bb
  go_wp2_with fail
  have hb := (Below.refl w8.heap.size w8).alloc (Nat.le_refl _) (.cells #[.int .u8 127] 5)
  have HI := Lib.hid (is_any A8 (some ⟨w8.heap.size, 0, none⟩) 1 c8 1 1 [127] _ (RR.mv hb) (reads_bytes w8 [127] 5))
  refine HI.out.mono ?_
  rintro e w9 ⟨rfl, rfl⟩
  replace hB := hB.trans (hb.mono hB.size)
  replace R2 := R2.mv hb
  clear HI
  generalize w8.alloc (.cells #[.int .u8 127] 5) = w9 at *
  clear hb
  go_wp2_with fail
  clear RR
  refine (vary_any 128 (by omega) _).mono ?_
  rintro e w10 ⟨A10, c10, rfl, oo, bb⟩
  rw [show vry 128 = [128, 1] from by decide]
  rw [show vry 128 = [128, 1] from by decide] at oo
  have RR := own_reads oo
  replace R2 := R2.mv bb
  replace hB := hB.trans (bb.mono hB.size)
  clear oo bb
  go_wp2_with fail
  have hb := (Below.refl w10.heap.size w10).alloc (Nat.le_refl _) (.cells #[.int .u8 128, .int .u8 1] 5)
  have HI := Lib.hid (is_any A10 (some ⟨w10.heap.size, 0, none⟩) 2 c10 2 2 [128, 1] _ (RR.mv hb) (reads_bytes w10 [128, 1] 5))
  refine HI.out.mono ?_
  rintro e w11 ⟨rfl, rfl⟩
  replace hB := hB.trans (hb.mono hB.size)
  replace R2 := R2.mv hb
  clear HI
  generalize w10.alloc (.cells #[.int .u8 128, .int .u8 1] 5) = w11 at *
  clear hb
  go_wp2_with fail
  clear RR
  refine (signed_any 0 (by omega) _).mono ?_
  rintro e w12 ⟨A12, c12, rfl, oo, bb⟩
  rw [show vry (dbl 0) = [0] from by decide]
  rw [show vry (dbl 0) = [0] from by decide] at oo
  have RR := own_reads oo
  replace R2 := R2.mv bb
  replace hB := hB.trans (bb.mono hB.size)
  clear oo bb
  go_wp2_with fail
  have hb := (Below.refl w12.heap.size w12).alloc (Nat.le_refl _) (.cells #[.int .u8 0] 5)
  have HI := Lib.hid (is_any A12 (some ⟨w12.heap.size, 0, none⟩) 1 c12 1 1 [0] _ (RR.mv hb) (reads_bytes w12 [0] 5))
  refine HI.out.mono ?_
  rintro e w13 ⟨rfl, rfl⟩
  replace hB := hB.trans (hb.mono hB.size)
  replace R2 := R2.mv hb
  clear HI
  generalize w12.alloc (.cells #[.int .u8 0] 5) = w13 at *
  clear hb
  go_wp2_with fail
  clear RR
  refine (signed_any (-1) (by omega) _).mono ?_
  rintro e w14 ⟨A14, c14, rfl, oo, bb⟩
  rw [show vry (dbl (-1)) = [1] from by decide]
  rw [show vry (dbl (-1)) = [1] from by decide] at oo
  have RR := own_reads oo
  replace R2 := R2.mv bb
  replace hB := hB.trans (bb.mono hB.size)
  clear oo bb
  go_wp2_with fail
  have hb := (Below.refl w14.heap.size w14).alloc (Nat.le_refl _) (.cells #[.int .u8 1] 5)
  have HI := Lib.hid (is_any A14 (some ⟨w14.heap.size, 0, none⟩) 1 c14 1 1 [1] _ (RR.mv hb) (reads_bytes w14 [1] 5))
  refine HI.out.mono ?_
  rintro e w15 ⟨rfl, rfl⟩
  replace hB := hB.trans (hb.mono hB.size)
  replace R2 := R2.mv hb
  clear HI
  generalize w14.alloc (.cells #[.int .u8 1] 5) = w15 at *
  clear hb
  go_wp2_with fail
  clear RR
  refine (signed_any 1 (by omega) _).mono ?_
  rintro e w16 ⟨A16, c16, rfl, oo, bb⟩
  rw [show vry (dbl 1) = [2] from by decide]
  rw [show vry (dbl 1) = [2] from by decide] at oo
  have RR := own_reads oo
  replace R2 := R2.mv bb
  replace hB := hB.trans (bb.mono hB.size)
  clear oo bb
  go_wp2_with fail
  have hb := (Below.refl w16.heap.size w16).alloc (Nat.le_refl _) (.cells #[.int .u8 2] 5)
  have HI := Lib.hid (is_any A16 (some ⟨w16.heap.size, 0, none⟩) 1 c16 1 1 [2] _ (RR.mv hb) (reads_bytes w16 [2] 5))
  refine HI.out.mono ?_
  rintro e w17 ⟨rfl, rfl⟩
  replace hB := hB.trans (hb.mono hB.size)
  replace R2 := R2.mv hb
  clear HI
  generalize w16.alloc (.cells #[.int .u8 2] 5) = w17 at *
  clear hb
  go_wp2_with fail
  clear RR
  refine (signed_any (-64) (by omega) _).mono ?_
  rintro e w18 ⟨A18, c18, rfl, oo, bb⟩
  rw [show vry (dbl (-64)) = [127] from by decide]
  rw [show vry (dbl (-64)) = [127] from by decide] at oo
  have RR := own_reads oo
  replace R2 := R2.mv bb
  replace hB := hB.trans (bb.mono hB.size)
  clear oo bb
  go_wp2_with fail
  have hb := (Below.refl w18.heap.size w18).alloc (Nat.le_refl _) (.cells #[.int .u8 127] 5)
  have HI := Lib.hid (is_any A18 (some ⟨w18.heap.size, 0, none⟩) 1 c18 1 1 [127] _ (RR.mv hb) (reads_bytes w18 [127] 5))
  refine HI.out.mono ?_
  rintro e w19 ⟨rfl, rfl⟩
  replace hB := hB.trans (hb.mono hB.size)
  replace R2 := R2.mv hb
  clear HI
  generalize w18.alloc (.cells #[.int .u8 127] 5) = w19 at *
  clear hb
  go_wp2_with fail
  clear RR
  have hb := (Below.refl w19.heap.size w19).alloc (Nat.le_refl _) (.cells #[.int .u8 2, .int .u8 97, .int .u8 98] 5)
  have HI := Lib.hid (is_any A2 (some ⟨w19.heap.size, 0, none⟩) 3 c2 3 3 [2, 97, 98] _ (R2.mv hb) (reads_bytes w19 [2, 97, 98] 5))
  refine HI.out.mono ?_
  rintro e w20 ⟨rfl, rfl⟩
  replace hB := hB.trans (hb.mono hB.size)
  clear HI
  generalize w19.alloc (.cells #[.int .u8 2, .int .u8 97, .int .u8 98] 5) = w20 at *
  clear hb
  go_wp2_with fail
  go_ret
  exact ⟨rfl, hB⟩
end Go.Proofs.Ytnonikeolpokkaa
