/- The walk of WireReads: it returns true for every argument. -/
import Derived.Test.YtnonikeolpokkaaWireReads4
namespace Go.Proofs.Ytnonikeolpokkaa
open Go.RowKit Wire
set_option linter.unusedVariables false

theorem uf_cur (A : Option Addr) (n c : Nat) (l : List UInt8) (a wd : Int) : ∃ A' n' c' i' l', ufC A n c l a wd = cur A' n' c' i' ∧ ∀ W B, RdB W B A n l → RdB W B A' n' l' := by
  unfold ufC; split
  · exact ⟨_, _, _, _, l, rfl, fun _ _ h => h⟩
  · exact ⟨_, _, _, _, [], rfl, fun _ _ _ => Reads.none_⟩
theorem uv_cur (A : Option Addr) (n c : Nat) (l : List UInt8) (a : Int) (m : Nat) : ∃ A' n' c' i' l', uvC A n c l a m = cur A' n' c' i' ∧ ∀ W B, RdB W B A n l → RdB W B A' n' l' := by
  unfold uvC; split
  · exact ⟨_, _, _, _, l, rfl, fun _ _ h => h⟩
  · exact ⟨_, _, _, _, [], rfl, fun _ _ _ => Reads.none_⟩
theorem ut_cur (A : Option Addr) (n c : Nat) (l : List UInt8) (a m : Int) : ∃ A' n' c' i' l', utC A n c l a m = cur A' n' c' i' ∧ ∀ W B, RdB W B A n l → RdB W B A' n' l' := by
  unfold utC; split
  · exact ⟨_, _, _, _, l, rfl, fun _ _ h => h⟩
  · exact ⟨_, _, _, _, [], rfl, fun _ _ _ => Reads.none_⟩

set_option maxRecDepth 100000 in
set_option maxHeartbeats 4000000 in
theorem wireReads_walk (w : World) (A : Option Addr) (n c : Nat) (l : List UInt8) (a : Int) (hr : Rb w A n l) (hc : n ≤ c ∧ c ≤ 9223372036854775807) (ha : -9223372036854775808 ≤ a ∧ a ≤ 9223372036854775807) (wd : Int) (hwd : -9223372036854775808 ≤ wd ∧ wd ≤ 9223372036854775807) (most : Nat) (hm : most < 18446744073709551616) (t : Int) (ht : -9223372036854775808 ≤ t ∧ t ≤ 9223372036854775807) :
    Calls Try.prog 6 #[cur A n c a, .int .i64 wd, .int .u64 (most : Int), .int .i64 t] w fun e w' => e = .returned (.bool true) ∧ Below w.heap.size w w' := by
  by_cases hg : lgB n = true
  · have HG := Lib.hid hg
    clear hg
    have hk4 := Blk.new w 33 #[.slice A n c, .int .i64 a]
    go_enter Try.func6, Try.ntmps6
    go_wp2_with fail
    refine (long_any A n c _).mono ?_
    rintro e wq ⟨rfl, rfl⟩
    rw [HG.out]
    go_wp2_with fail
    go_ret
    exact ⟨rfl, (Below.refl _ _).alloc (Nat.le_refl _) _⟩
  have HG := Lib.hid (show lgB n = false from by simpa using hg)
  clear hg
  have hn : n ≤ 9223372036854775807 := by omega
  have HF0 := Lib.hid (fun W (h : Rb W A n l) => unfixed_any A n c l a wd W h hn hc.1 ha hwd)
  have HF1 := Lib.hid (fun W (h : Rb W A n l) => reunfixed_any A n c l a wd W h hn hc.1 ha hwd)
  have HV0 := Lib.hid (fun W (h : Rb W A n l) => unvary_any A n c l a most W h hn hm ha)
  have HV1 := Lib.hid (fun W (h : Rb W A n l) => reunvary_any A n c l a most W h hn hm ha)
  have HS0 := Lib.hid (fun W (h : Rb W A n l) => unsigned_any A n c l a W h hn ha)
  have HS1 := Lib.hid (fun W (h : Rb W A n l) => reunsigned_any A n c l a W h hn ha)
  have HT0 := Lib.hid (fun W (h : Rb W A n l) => untext_any A n c l a t W h hn hc.1 ha ht)
  have HT1 := Lib.hid (fun W (h : Rb W A n l) => reuntext_any A n c l a t W h hn hc.1 ha ht)
  obtain ⟨A1, n1, c1, i1, l1, hu1, hf1⟩ := uf_cur A n c l a wd
  obtain ⟨A2, n2, c2, i2, l2, hu2, hf2⟩ := uv_cur A n c l a most
  obtain ⟨A3, n3, c3, i3, l3, hu3, hf3⟩ := uv_cur A n c l a 18446744073709551615
  obtain ⟨A4, n4, c4, i4, l4, hu4, hf4⟩ := ut_cur A n c l a t
  rw [hu1] at HF0 HF1
  rw [hu2] at HV0 HV1
  rw [hu3] at HS0 HS1
  rw [hu4] at HT0 HT1
  clear hu1 hu2 hu3 hu4
  have G1 := Lib.hid hf1
  have G2 := Lib.hid hf2
  have G3 := Lib.hid hf3
  have G4 := Lib.hid hf4
  have HLF := Lib.hid (fun W => left_any A n c a W ha)
  have HLR := Lib.hid (fun W => releft_any A n c a W ha)
  clear hf1 hf2 hf3 hf4
  generalize ufE l a wd = e1 at *
  generalize ufN l a wd = m1 at *
  generalize uvE l a most = e2 at *
  generalize uvN l a most = m2 at *
  generalize hlf (uvN l a 18446744073709551615) = m3 at *
  generalize uvE l a 18446744073709551615 = e3 at *
  generalize utE l a t = e4 at *
  generalize utS l a t = m4 at *
  generalize lfN n a = mL at *
  generalize ckE n a = eL at *
  have hB : Below w.heap.size w (w.alloc (.cells #[.slice A n c, .int .i64 a] 33)) := Ext.al w (.cells #[.slice A n c, .int .i64 a] 33)
  have hk := Blk.new w 33 #[.slice A n c, .int .i64 a]
  have R := hr.below hB
  have CV0 := cvS c R
  clear hr
  go_enter Try.func6, Try.ntmps6
  go_wp2_with fail
  refine (long_any A n c _).mono ?_
  rintro e wq ⟨rfl, rfl⟩
  rw [HG.out]
  generalize w.alloc (.cells #[.slice A n c, .int .i64 a] 33) = w4 at *
  obtain ⟨p, hp⟩ : ∃ p, p = w.heap.size := ⟨_, rfl⟩
  rw [← hp] at hk
  have hpw : w.heap.size ≤ p := by omega
  have HP := Lib.hid hp
  rw [← hp]
  clear hp
  have z1 : w4.cell? ⟨p, 0, none⟩ = some (.slice A n c) := (hk.cell 0).trans rfl
  have z2 : w4.cell? ⟨p, 1, none⟩ = some (.int .i64 a) := (hk.cell 1).trans rfl
  go_wp2_with fail
  clear CV0
  clear z1 z2
  refine (HLF.out _).mono ?_
  rintro e w5 ⟨rfl, b⟩
  replace R := R.below (b.mono hB.size)
  replace hk := hk.below b hk.lt
  replace hB := hB.trans (b.mono hB.size)
  clear b
  have z3 : w5.cell? ⟨p, 0, none⟩ = some (.slice A n c) := (hk.cell 0).trans rfl
  have z4 : w5.cell? ⟨p, 1, none⟩ = some (.int .i64 a) := (hk.cell 1).trans rfl
  go_wp2_with fail
  clear z3 z4
  refine (HLR.out _).mono ?_
  rintro e w6 ⟨rfl, b⟩
  replace R := R.below (b.mono hB.size)
  replace hk := hk.below b hk.lt
  replace hB := hB.trans (b.mono hB.size)
  clear b
  have z5 : w6.cell? ⟨p, 0, none⟩ = some (.slice A n c) := (hk.cell 0).trans rfl
  have z6 : w6.cell? ⟨p, 1, none⟩ = some (.int .i64 a) := (hk.cell 1).trans rfl
  go_wp2_with fail
  clear z5 z6
  refine (HF0.out _ (R.more hB.size)).mono ?_
  rintro e w7 ⟨rfl, b⟩
  replace R := R.below (b.mono hB.size)
  replace hk := hk.below b hk.lt
  replace hB := hB.trans (b.mono hB.size)
  clear b
  have b := Ext.al w7 (.cells #[.slice A1 n1 c1, .int .i64 i1] 33)
  have h14 := Blk.new w7 33 #[.slice A1 n1 c1, .int .i64 i1]
  have o_hk_h14 := hk.lt
  replace R := R.below (b.mono hB.size)
  replace hk := hk.below b hk.lt
  replace hB := hB.trans (b.mono hB.size)
  clear b
  have z7 : (w7.alloc (.cells #[.slice A1 n1 c1, .int .i64 i1] 33)).cell? ⟨p, 0, none⟩ = some (.slice A n c) := (hk.cell 0).trans rfl
  have z8 : (w7.alloc (.cells #[.slice A1 n1 c1, .int .i64 i1] 33)).cell? ⟨p, 1, none⟩ = some (.int .i64 a) := (hk.cell 1).trans rfl
  go_wp2_with fail
  clear z7 z8
  generalize w7.alloc (.cells #[.slice A1 n1 c1, .int .i64 i1] 33) = w8 at *
  generalize w7.heap.size = p14 at *
  refine (HF1.out _ (R.more hB.size)).mono ?_
  rintro e w9 ⟨rfl, b⟩
  replace R := R.below (b.mono hB.size)
  replace hk := hk.below b hk.lt
  replace h14 := h14.below b h14.lt
  replace hB := hB.trans (b.mono hB.size)
  clear b
  have b := Ext.al w9 (.cells #[.slice A1 n1 c1, .int .i64 i1] 33)
  have h17 := Blk.new w9 33 #[.slice A1 n1 c1, .int .i64 i1]
  have o_hk_h17 := hk.lt
  have o_h14_h17 := h14.lt
  replace R := R.below (b.mono hB.size)
  replace hk := hk.below b hk.lt
  replace h14 := h14.below b h14.lt
  replace hB := hB.trans (b.mono hB.size)
  clear b
  have z9 : (w9.alloc (.cells #[.slice A1 n1 c1, .int .i64 i1] 33)).cell? ⟨p, 0, none⟩ = some (.slice A n c) := (hk.cell 0).trans rfl
  have z10 : (w9.alloc (.cells #[.slice A1 n1 c1, .int .i64 i1] 33)).cell? ⟨p, 1, none⟩ = some (.int .i64 a) := (hk.cell 1).trans rfl
  have z11 : (w9.alloc (.cells #[.slice A1 n1 c1, .int .i64 i1] 33)).cell? ⟨p14, 0, none⟩ = some (.slice A1 n1 c1) := (h14.cell 0).trans rfl
  have z12 : (w9.alloc (.cells #[.slice A1 n1 c1, .int .i64 i1] 33)).cell? ⟨p14, 1, none⟩ = some (.int .i64 i1) := (h14.cell 1).trans rfl
  have z13 : (w9.alloc (.cells #[.slice A1 n1 c1, .int .i64 i1] 33)).cell? ⟨w9.heap.size, 0, none⟩ = some (.slice A1 n1 c1) := (h17.cell 0).trans rfl
  have z14 : (w9.alloc (.cells #[.slice A1 n1 c1, .int .i64 i1] 33)).cell? ⟨w9.heap.size, 1, none⟩ = some (.int .i64 i1) := (h17.cell 1).trans rfl
  go_wp2_with fail
  clear z9 z10 z11 z12 z13 z14
  generalize w9.alloc (.cells #[.slice A1 n1 c1, .int .i64 i1] 33) = w10 at *
  generalize w9.heap.size = p17 at *
  refine (same_any A1 A1 n1 c1 n1 c1 l1 i1 _ ((G1.out _ _ R).more hB.size) ((G1.out _ _ R).more hB.size)).mono ?_
  rintro e w11 ⟨rfl, b⟩
  replace R := R.below (b.mono hB.size)
  replace hk := hk.below b hk.lt
  replace h14 := h14.below b h14.lt
  replace h17 := h17.below b h17.lt
  replace hB := hB.trans (b.mono hB.size)
  clear b
  have z15 : w11.cell? ⟨p, 0, none⟩ = some (.slice A n c) := (hk.cell 0).trans rfl
  have z16 : w11.cell? ⟨p, 1, none⟩ = some (.int .i64 a) := (hk.cell 1).trans rfl
  go_wp2_with fail
  clear z15 z16
  refine (HV0.out _ (R.more hB.size)).mono ?_
  rintro e w12 ⟨rfl, b⟩
  replace R := R.below (b.mono hB.size)
  replace hk := hk.below b hk.lt
  replace h14 := h14.below b h14.lt
  replace h17 := h17.below b h17.lt
  replace hB := hB.trans (b.mono hB.size)
  clear b
  have z17 : w12.cell? ⟨p14, 0, none⟩ = some (.slice A1 n1 c1) := (h14.cell 0).trans rfl
  have z18 := h14.frozen 0
  have z19 : w12.cell? ⟨p14, 1, none⟩ = some (.int .i64 i1) := (h14.cell 1).trans rfl
  have z20 := h14.frozen 1
  have b : ExR p14 w12 ((w12.setCell ⟨p14, 0, none⟩ (.slice A2 n2 c2)).setCell ⟨p14, 1, none⟩ (.int .i64 i2)) := (((ExR.refl p14 w12).set_ rfl _).set_ rfl _)
  have hnew := ((h14.set_ 0 (.slice A2 n2 c2)).set_ 1 (.int .i64 i2))
  replace R := R.below (b.below (by omega) hB.size)
  replace hk := hk.exr b (by omega)
  replace h17 := h17.exr b (by omega)
  replace hB := hB.trans (b.below (by omega) hB.size)
  clear b
  replace h14 := hnew
  clear hnew
  have z21 : ((w12.setCell ⟨p14, 0, none⟩ (.slice A2 n2 c2)).setCell ⟨p14, 1, none⟩ (.int .i64 i2)).cell? ⟨p, 0, none⟩ = some (.slice A n c) := (hk.cell 0).trans rfl
  have z22 : ((w12.setCell ⟨p14, 0, none⟩ (.slice A2 n2 c2)).setCell ⟨p14, 1, none⟩ (.int .i64 i2)).cell? ⟨p, 1, none⟩ = some (.int .i64 a) := (hk.cell 1).trans rfl
  go_wp2_with fail
  clear z17 z18 z19 z20 z21 z22
  generalize ((w12.setCell ⟨p14, 0, none⟩ (.slice A2 n2 c2)).setCell ⟨p14, 1, none⟩ (.int .i64 i2)) = w13 at *
  refine (HV1.out _ (R.more hB.size)).mono ?_
  rintro e w14 ⟨rfl, b⟩
  replace R := R.below (b.mono hB.size)
  replace hk := hk.below b hk.lt
  replace h14 := h14.below b h14.lt
  replace h17 := h17.below b h17.lt
  replace hB := hB.trans (b.mono hB.size)
  clear b
  have z23 : w14.cell? ⟨p17, 0, none⟩ = some (.slice A1 n1 c1) := (h17.cell 0).trans rfl
  have z24 := h17.frozen 0
  have z25 : w14.cell? ⟨p17, 1, none⟩ = some (.int .i64 i1) := (h17.cell 1).trans rfl
  have z26 := h17.frozen 1
  have b : ExR p17 w14 ((w14.setCell ⟨p17, 0, none⟩ (.slice A2 n2 c2)).setCell ⟨p17, 1, none⟩ (.int .i64 i2)) := (((ExR.refl p17 w14).set_ rfl _).set_ rfl _)
  have hnew := ((h17.set_ 0 (.slice A2 n2 c2)).set_ 1 (.int .i64 i2))
  replace R := R.below (b.below (by omega) hB.size)
  replace hk := hk.exr b (by omega)
  replace h14 := h14.exr b (by omega)
  replace hB := hB.trans (b.below (by omega) hB.size)
  clear b
  replace h17 := hnew
  clear hnew
  have z27 : ((w14.setCell ⟨p17, 0, none⟩ (.slice A2 n2 c2)).setCell ⟨p17, 1, none⟩ (.int .i64 i2)).cell? ⟨p, 0, none⟩ = some (.slice A n c) := (hk.cell 0).trans rfl
  have z28 : ((w14.setCell ⟨p17, 0, none⟩ (.slice A2 n2 c2)).setCell ⟨p17, 1, none⟩ (.int .i64 i2)).cell? ⟨p, 1, none⟩ = some (.int .i64 a) := (hk.cell 1).trans rfl
  go_wp2_with fail
  clear z23 z24 z25 z26 z27 z28
  generalize ((w14.setCell ⟨p17, 0, none⟩ (.slice A2 n2 c2)).setCell ⟨p17, 1, none⟩ (.int .i64 i2)) = w15 at *
  refine (HS0.out _ (R.more hB.size)).mono ?_
  rintro e w16 ⟨rfl, b⟩
  replace R := R.below (b.mono hB.size)
  replace hk := hk.below b hk.lt
  replace h14 := h14.below b h14.lt
  replace h17 := h17.below b h17.lt
  replace hB := hB.trans (b.mono hB.size)
  clear b
  have b := Ext.al w16 (.cells #[.slice A3 n3 c3, .int .i64 i3] 33)
  have h20 := Blk.new w16 33 #[.slice A3 n3 c3, .int .i64 i3]
  have o_hk_h20 := hk.lt
  have o_h14_h20 := h14.lt
  have o_h17_h20 := h17.lt
  replace R := R.below (b.mono hB.size)
  replace hk := hk.below b hk.lt
  replace h14 := h14.below b h14.lt
  replace h17 := h17.below b h17.lt
  replace hB := hB.trans (b.mono hB.size)
  clear b
  have z29 : (w16.alloc (.cells #[.slice A3 n3 c3, .int .i64 i3] 33)).cell? ⟨p, 0, none⟩ = some (.slice A n c) := (hk.cell 0).trans rfl
  have z30 : (w16.alloc (.cells #[.slice A3 n3 c3, .int .i64 i3] 33)).cell? ⟨p, 1, none⟩ = some (.int .i64 a) := (hk.cell 1).trans rfl
  go_wp2_with fail
  clear z29 z30
  generalize w16.alloc (.cells #[.slice A3 n3 c3, .int .i64 i3] 33) = w17 at *
  generalize w16.heap.size = p20 at *
  refine (HS1.out _ (R.more hB.size)).mono ?_
  rintro e w18 ⟨rfl, b⟩
  replace R := R.below (b.mono hB.size)
  replace hk := hk.below b hk.lt
  replace h14 := h14.below b h14.lt
  replace h17 := h17.below b h17.lt
  replace h20 := h20.below b h20.lt
  replace hB := hB.trans (b.mono hB.size)
  clear b
  have b := Ext.al w18 (.cells #[.slice A3 n3 c3, .int .i64 i3] 33)
  have h23 := Blk.new w18 33 #[.slice A3 n3 c3, .int .i64 i3]
  have o_hk_h23 := hk.lt
  have o_h14_h23 := h14.lt
  have o_h17_h23 := h17.lt
  have o_h20_h23 := h20.lt
  replace R := R.below (b.mono hB.size)
  replace hk := hk.below b hk.lt
  replace h14 := h14.below b h14.lt
  replace h17 := h17.below b h17.lt
  replace h20 := h20.below b h20.lt
  replace hB := hB.trans (b.mono hB.size)
  clear b
  have z31 : (w18.alloc (.cells #[.slice A3 n3 c3, .int .i64 i3] 33)).cell? ⟨p, 0, none⟩ = some (.slice A n c) := (hk.cell 0).trans rfl
  have z32 : (w18.alloc (.cells #[.slice A3 n3 c3, .int .i64 i3] 33)).cell? ⟨p, 1, none⟩ = some (.int .i64 a) := (hk.cell 1).trans rfl
  go_wp2_with fail
  clear z31 z32
  generalize w18.alloc (.cells #[.slice A3 n3 c3, .int .i64 i3] 33) = w19 at *
  generalize w18.heap.size = p23 at *
  refine (HT0.out _ (R.more hB.size)).mono ?_
  rintro e w20 ⟨rfl, b⟩
  replace R := R.below (b.mono hB.size)
  replace hk := hk.below b hk.lt
  replace h14 := h14.below b h14.lt
  replace h17 := h17.below b h17.lt
  replace h20 := h20.below b h20.lt
  replace h23 := h23.below b h23.lt
  replace hB := hB.trans (b.mono hB.size)
  clear b
  have b := Ext.al w20 (.cells #[.slice A4 n4 c4, .int .i64 i4] 33)
  have h26 := Blk.new w20 33 #[.slice A4 n4 c4, .int .i64 i4]
  have o_hk_h26 := hk.lt
  have o_h14_h26 := h14.lt
  have o_h17_h26 := h17.lt
  have o_h20_h26 := h20.lt
  have o_h23_h26 := h23.lt
  replace R := R.below (b.mono hB.size)
  replace hk := hk.below b hk.lt
  replace h14 := h14.below b h14.lt
  replace h17 := h17.below b h17.lt
  replace h20 := h20.below b h20.lt
  replace h23 := h23.below b h23.lt
  replace hB := hB.trans (b.mono hB.size)
  clear b
  have z33 : (w20.alloc (.cells #[.slice A4 n4 c4, .int .i64 i4] 33)).cell? ⟨p, 0, none⟩ = some (.slice A n c) := (hk.cell 0).trans rfl
  have z34 : (w20.alloc (.cells #[.slice A4 n4 c4, .int .i64 i4] 33)).cell? ⟨p, 1, none⟩ = some (.int .i64 a) := (hk.cell 1).trans rfl
  go_wp2_with fail
  clear z33 z34
  generalize w20.alloc (.cells #[.slice A4 n4 c4, .int .i64 i4] 33) = w21 at *
  generalize w20.heap.size = p26 at *
  refine (HT1.out _ (R.more hB.size)).mono ?_
  rintro e w22 ⟨rfl, b⟩
  replace R := R.below (b.mono hB.size)
  replace hk := hk.below b hk.lt
  replace h14 := h14.below b h14.lt
  replace h17 := h17.below b h17.lt
  replace h20 := h20.below b h20.lt
  replace h23 := h23.below b h23.lt
  replace h26 := h26.below b h26.lt
  replace hB := hB.trans (b.mono hB.size)
  clear b
  have b := Ext.al w22 (.cells #[.slice A4 n4 c4, .int .i64 i4] 33)
  have h29 := Blk.new w22 33 #[.slice A4 n4 c4, .int .i64 i4]
  have o_hk_h29 := hk.lt
  have o_h14_h29 := h14.lt
  have o_h17_h29 := h17.lt
  have o_h20_h29 := h20.lt
  have o_h23_h29 := h23.lt
  have o_h26_h29 := h26.lt
  replace R := R.below (b.mono hB.size)
  replace hk := hk.below b hk.lt
  replace h14 := h14.below b h14.lt
  replace h17 := h17.below b h17.lt
  replace h20 := h20.below b h20.lt
  replace h23 := h23.below b h23.lt
  replace h26 := h26.below b h26.lt
  replace hB := hB.trans (b.mono hB.size)
  clear b
  have z35 : (w22.alloc (.cells #[.slice A4 n4 c4, .int .i64 i4] 33)).cell? ⟨p14, 0, none⟩ = some (.slice A2 n2 c2) := (h14.cell 0).trans rfl
  have z36 : (w22.alloc (.cells #[.slice A4 n4 c4, .int .i64 i4] 33)).cell? ⟨p14, 1, none⟩ = some (.int .i64 i2) := (h14.cell 1).trans rfl
  have z37 : (w22.alloc (.cells #[.slice A4 n4 c4, .int .i64 i4] 33)).cell? ⟨p17, 0, none⟩ = some (.slice A2 n2 c2) := (h17.cell 0).trans rfl
  have z38 : (w22.alloc (.cells #[.slice A4 n4 c4, .int .i64 i4] 33)).cell? ⟨p17, 1, none⟩ = some (.int .i64 i2) := (h17.cell 1).trans rfl
  have z39 : (w22.alloc (.cells #[.slice A4 n4 c4, .int .i64 i4] 33)).cell? ⟨w22.heap.size, 0, none⟩ = some (.slice A4 n4 c4) := (h29.cell 0).trans rfl
  have z40 : (w22.alloc (.cells #[.slice A4 n4 c4, .int .i64 i4] 33)).cell? ⟨w22.heap.size, 1, none⟩ = some (.int .i64 i4) := (h29.cell 1).trans rfl
  go_wp2_with fail
  clear z35 z36 z37 z38 z39 z40
  generalize w22.alloc (.cells #[.slice A4 n4 c4, .int .i64 i4] 33) = w23 at *
  generalize w22.heap.size = p29 at *
  refine (same_any A2 A2 n2 c2 n2 c2 l2 i2 _ ((G2.out _ _ R).more hB.size) ((G2.out _ _ R).more hB.size)).mono ?_
  rintro e w24 ⟨rfl, b⟩
  replace R := R.below (b.mono hB.size)
  replace hk := hk.below b hk.lt
  replace h14 := h14.below b h14.lt
  replace h17 := h17.below b h17.lt
  replace h20 := h20.below b h20.lt
  replace h23 := h23.below b h23.lt
  replace h26 := h26.below b h26.lt
  replace h29 := h29.below b h29.lt
  replace hB := hB.trans (b.mono hB.size)
  clear b
  have z41 : w24.cell? ⟨p20, 0, none⟩ = some (.slice A3 n3 c3) := (h20.cell 0).trans rfl
  have z42 : w24.cell? ⟨p20, 1, none⟩ = some (.int .i64 i3) := (h20.cell 1).trans rfl
  have z43 : w24.cell? ⟨p23, 0, none⟩ = some (.slice A3 n3 c3) := (h23.cell 0).trans rfl
  have z44 : w24.cell? ⟨p23, 1, none⟩ = some (.int .i64 i3) := (h23.cell 1).trans rfl
  go_wp2_with fail
  clear z41 z42 z43 z44
  refine (same_any A3 A3 n3 c3 n3 c3 l3 i3 _ ((G3.out _ _ R).more hB.size) ((G3.out _ _ R).more hB.size)).mono ?_
  rintro e w25 ⟨rfl, b⟩
  replace R := R.below (b.mono hB.size)
  replace hk := hk.below b hk.lt
  replace h14 := h14.below b h14.lt
  replace h17 := h17.below b h17.lt
  replace h20 := h20.below b h20.lt
  replace h23 := h23.below b h23.lt
  replace h26 := h26.below b h26.lt
  replace h29 := h29.below b h29.lt
  replace hB := hB.trans (b.mono hB.size)
  clear b
  have z45 : w25.cell? ⟨p26, 0, none⟩ = some (.slice A4 n4 c4) := (h26.cell 0).trans rfl
  have z46 : w25.cell? ⟨p26, 1, none⟩ = some (.int .i64 i4) := (h26.cell 1).trans rfl
  have z47 : w25.cell? ⟨p29, 0, none⟩ = some (.slice A4 n4 c4) := (h29.cell 0).trans rfl
  have z48 : w25.cell? ⟨p29, 1, none⟩ = some (.int .i64 i4) := (h29.cell 1).trans rfl
  go_wp2_with fail
  clear z45 z46 z47 z48
  refine (same_any A4 A4 n4 c4 n4 c4 l4 i4 _ ((G4.out _ _ R).more hB.size) ((G4.out _ _ R).more hB.size)).mono ?_
  rintro e w26 ⟨rfl, b⟩
  replace R := R.below (b.mono hB.size)
  replace hk := hk.below b hk.lt
  replace h14 := h14.below b h14.lt
  replace h17 := h17.below b h17.lt
  replace h20 := h20.below b h20.lt
  replace h23 := h23.below b h23.lt
  replace h26 := h26.below b h26.lt
  replace h29 := h29.below b h29.lt
  replace hB := hB.trans (b.mono hB.size)
  clear b
  have z49 : w26.cell? ⟨p, 0, none⟩ = some (.slice A n c) := (hk.cell 0).trans rfl
  have z50 : w26.cell? ⟨p, 1, none⟩ = some (.int .i64 a) := (hk.cell 1).trans rfl
  have CV1 := cvS c R
  go_wp2_with fail
  go_ret
  exact ⟨rfl, hB⟩

end Go.Proofs.Ytnonikeolpokkaa
