/- The walk of WireOne: it returns true for all bytes. -/
import Derived.Test.YtnonikeolpokkaaWireOneLaw
import Derived.Test.YtnonikeolpokkaaWireAlive
import Derived.Test.YtnonikeolpokkaaRegion
import Derived.Test.YtnonikeolpokkaaWireReads4
namespace Go.Proofs.Ytnonikeolpokkaa
open Go.RowKit Wire
set_option linter.unusedVariables false

set_option maxRecDepth 100000 in
set_option maxHeartbeats 8000000 in
theorem wireOne_bad (w : World) (A : Option Addr) (n c : Nat) (l : List UInt8) (hr : Rb w A n l) (hc : n ≤ c ∧ c ≤ 9223372036854775807) (he : uvE l 0 18446744073709551615 ≠ 0) :
    Calls Try.prog 7 #[.slice A n c] w fun e w' => e = .returned (.bool true) ∧ Below w.heap.size w w' := by
  have HL := Lib.hid hr.len8
  have HR := Lib.hid hr
  clear hr
  by_cases h1 : 2000 < n
  · have d1 : decide ((2000 : Int) < (n : Int)) = true := by simp; omega
    go_enter Try.func7, Try.ntmps7
    go_wp2_with (go_at_call 23; refine (alive_any _).mono ?_; rintro e w7 ⟨rfl, hb7⟩)
    go_ret
    exact ⟨rfl, hb7⟩

  have d1 : decide ((2000 : Int) < (n : Int)) = false := by simp; omega
  have HNW := Lib.hid (new_any A n c l w HR.out (by omega))
  rw [show nwL l = l from if_pos (by rw [HL.out]; omega), show nwE l = 0 from if_pos (by rw [HL.out]; omega), HL.out] at HNW
  have hlen := HL.out
  have HUV := Lib.hid (fun A1 c1 W (h : Rb W A1 n l) => unvary_any A1 n c1 l 0 18446744073709551615 W h (by omega) (by omega) (by omega))
  have HUS := Lib.hid (fun A1 c1 W (h : Rb W A1 n l) => unsigned_any A1 n c1 l 0 W h (by omega) (by omega))
  have HZ := Lib.hid (fun A1 c1 => uv_bad (l := l) (a := 0) (most := 18446744073709551615) A1 n c1 rfl he)
  have de : (uvE l 0 18446744073709551615 == 0) = false := by rw [beq_eq_false_iff_ne]; exact he
  have HXX := Lib.hid he
  clear he
  go_enter Try.func7, Try.ntmps7
  go_wp2_with fail
  refine HNW.out.mono ?_
  rintro e w1 ⟨A1, c1, rfl, o1, b⟩
  obtain ⟨Z, hZ⟩ : ∃ Z, Z = w1.heap.size := ⟨_, rfl⟩
  have hS : Z ≤ w1.heap.size := Nat.le_of_eq hZ
  have R1 : RdB w1 Z A1 n l := hZ ▸ own_rd o1
  have hc1 := own_cap o1
  have hB0 := b
  have hBZ : w.heap.size ≤ Z := hZ ▸ b.size
  have R0 : RdB w1 Z A n l := hZ ▸ HR.out.mv b
  have hB := Below.refl Z w1
  clear o1 b HNW hZ
  have b := Ext.al w1 (.cells #[.slice A1 n c1, .int .i64 (0)] 33)
  have h3 := Blk.new w1 33 #[.slice A1 n c1, .int .i64 (0)]
  replace R0 := R0.below (b.mono hS)
  replace R1 := R1.below (b.mono hS)
  replace hB := hB.trans (b.mono hS)
  replace hS := Nat.le_trans hS b.size
  clear b
  have z1 : (w1.alloc (.cells #[.slice A1 n c1, .int .i64 (0)] 33)).cell? ⟨w1.heap.size, 0, none⟩ = some (.slice A1 n c1) := (h3.cell 0).trans rfl
  have z2 : (w1.alloc (.cells #[.slice A1 n c1, .int .i64 (0)] 33)).cell? ⟨w1.heap.size, 1, none⟩ = some (.int .i64 (0)) := (h3.cell 1).trans rfl
  go_wp2_with fail
  clear z1 z2
  generalize w1.alloc (.cells #[.slice A1 n c1, .int .i64 (0)] 33) = w2 at *
  generalize w1.heap.size = p3 at *
  refine (HUV.out _ _ _ (R1.more hS)).mono ?_
  rintro e w3 ⟨rfl, b⟩
  replace R0 := R0.below (b.mono hS)
  replace R1 := R1.below (b.mono hS)
  replace h3 := h3.below b h3.lt
  replace hB := hB.trans (b.mono hS)
  replace hS := Nat.le_trans hS b.size
  clear b
  rw [(HZ.out A1 c1).1, (HZ.out A1 c1).2]
  have HUS2 := Lib.hid (fun W (h : Rb W A1 n l) => HUS.out A1 c1 W h)
  rw [(HZ.out A1 c1).1, (HZ.out A1 c1).2] at HUS2
  clear HUS HZ HUV HXX
  generalize uvE l 0 18446744073709551615 = e0 at *
  have b := Ext.al w3 (.cells #[.slice none 0 0, .int .i64 0] 33)
  have h5 := Blk.new w3 33 #[.slice none 0 0, .int .i64 0]
  have o_h3_h5 := h3.lt
  replace R0 := R0.below (b.mono hS)
  replace R1 := R1.below (b.mono hS)
  replace h3 := h3.below b h3.lt
  replace hB := hB.trans (b.mono hS)
  replace hS := Nat.le_trans hS b.size
  clear b
  go_wp2_with fail
  generalize w3.alloc (.cells #[.slice none 0 0, .int .i64 0] 33) = w4 at *
  generalize w3.heap.size = p5 at *
  refine ext_start (by kernel_rfl) (by repeat (first | exact calm_body | apply calm_then | apply calm_block)) (fun hQ => ?_)
  have b := (Ext.refl w4).draw
  replace R0 := R0.below (b.mono hS)
  replace R1 := R1.below (b.mono hS)
  replace h3 := h3.below b h3.lt
  replace h5 := h5.below b h5.lt
  replace hB := hB.trans (b.mono hS)
  replace hS := Nat.le_trans hS b.size
  clear b
  generalize w4.drew = w5 at *
  refine ext_take (i := 0) (oi := ?oia0) (v := ?va0) ?hia0 (by kernel_rfl) (by kernel_rfl) (by kernel_rfl) hQ ?hwa0 ?hya0 ?resta0
  case hia0 => simp only [List.getElem?_toArray, List.getElem?_cons_zero]; rfl
  case hwa0 => rfl
  case hya0 => intro W hW; go_simp; with_reducible rfl
  simp only [Act.put, List.setIfInBounds_toArray, List.set_cons_zero, List.set_cons_succ]
  refine ext_take (i := 1) (oi := ?oia1) (v := ?va1) ?hia1 (by kernel_rfl) (by kernel_rfl) (by kernel_rfl) hQ ?hwa1 ?hya1 ?resta1
  case hia1 => simp only [List.getElem?_toArray, List.getElem?_cons_zero, List.getElem?_cons_succ]; rfl
  case hwa1 => rfl
  case hya1 => intro W hW; go_simp; with_reducible rfl
  simp only [Act.put, List.setIfInBounds_toArray, List.set_cons_zero, List.set_cons_succ]
  refine ext_take (i := 2) (oi := ?oia2) (v := ?va2) ?hia2 (by kernel_rfl) (by kernel_rfl) (by kernel_rfl) hQ ?hwa2 ?hya2 ?resta2
  case hia2 => simp only [List.getElem?_toArray, List.getElem?_cons_zero, List.getElem?_cons_succ]; rfl
  case hwa2 => rfl
  case hya2 => intro W hW; go_simp; with_reducible rfl
  simp only [Act.put, List.setIfInBounds_toArray, List.set_cons_zero, List.set_cons_succ]
  refine ext_skip (i := 3) (oi := ?oia3) ?hia3 (by kernel_rfl) (by kernel_rfl) (by kernel_rfl) hQ ?hwa3 ?resta3
  case hia3 => simp only [List.getElem?_toArray, List.getElem?_cons_zero, List.getElem?_cons_succ]; rfl
  case hwa3 => rfl
  simp only [Act.put, List.setIfInBounds_toArray, List.set_cons_zero, List.set_cons_succ]
  refine ext_skip (i := 4) (oi := ?oia4) ?hia4 (by kernel_rfl) (by kernel_rfl) (by kernel_rfl) hQ ?hwa4 ?resta4
  case hia4 => simp only [List.getElem?_toArray, List.getElem?_cons_zero, List.getElem?_cons_succ]; rfl
  case hwa4 => rfl
  simp only [Act.put, List.setIfInBounds_toArray, List.set_cons_zero, List.set_cons_succ]
  refine ext_skip (i := 5) (oi := ?oia5) ?hia5 (by kernel_rfl) (by kernel_rfl) (by kernel_rfl) hQ ?hwa5 ?resta5
  case hia5 => simp only [List.getElem?_toArray, List.getElem?_cons_zero, List.getElem?_cons_succ]; rfl
  case hwa5 => rfl
  simp only [Act.put, List.setIfInBounds_toArray, List.set_cons_zero, List.set_cons_succ]
  refine ext_skip (i := 6) (oi := ?oia6) ?hia6 (by kernel_rfl) (by kernel_rfl) (by kernel_rfl) hQ ?hwa6 ?resta6
  case hia6 => simp only [List.getElem?_toArray, List.getElem?_cons_zero, List.getElem?_cons_succ]; rfl
  case hwa6 => rfl
  simp only [Act.put, List.setIfInBounds_toArray, List.set_cons_zero, List.set_cons_succ]
  refine ext_skip (i := 7) (oi := ?oia7) ?hia7 (by kernel_rfl) (by kernel_rfl) (by kernel_rfl) hQ ?hwa7 ?resta7
  case hia7 => simp only [List.getElem?_toArray, List.getElem?_cons_zero, List.getElem?_cons_succ]; rfl
  case hwa7 => rfl
  simp only [Act.put, List.setIfInBounds_toArray, List.set_cons_zero, List.set_cons_succ]
  refine ext_skip (i := 8) (oi := ?oia8) ?hia8 (by kernel_rfl) (by kernel_rfl) (by kernel_rfl) hQ ?hwa8 ?resta8
  case hia8 => simp only [List.getElem?_toArray, List.getElem?_cons_zero, List.getElem?_cons_succ]; rfl
  case hwa8 => rfl
  simp only [Act.put, List.setIfInBounds_toArray, List.set_cons_zero, List.set_cons_succ]
  refine ext_skip (i := 9) (oi := ?oia9) ?hia9 (by kernel_rfl) (by kernel_rfl) (by kernel_rfl) hQ ?hwa9 ?resta9
  case hia9 => simp only [List.getElem?_toArray, List.getElem?_cons_zero, List.getElem?_cons_succ]; rfl
  case hwa9 => rfl
  simp only [Act.put, List.setIfInBounds_toArray, List.set_cons_zero, List.set_cons_succ]
  refine ext_skip (i := 10) (oi := ?oia10) ?hia10 (by kernel_rfl) (by kernel_rfl) (by kernel_rfl) hQ ?hwa10 ?resta10
  case hia10 => simp only [List.getElem?_toArray, List.getElem?_cons_zero, List.getElem?_cons_succ]; rfl
  case hwa10 => rfl
  simp only [Act.put, List.setIfInBounds_toArray, List.set_cons_zero, List.set_cons_succ]
  refine ext_skip (i := 11) (oi := ?oia11) ?hia11 (by kernel_rfl) (by kernel_rfl) (by kernel_rfl) hQ ?hwa11 ?resta11
  case hia11 => simp only [List.getElem?_toArray, List.getElem?_cons_zero, List.getElem?_cons_succ]; rfl
  case hwa11 => rfl
  simp only [Act.put, List.setIfInBounds_toArray, List.set_cons_zero, List.set_cons_succ]
  refine ext_skip (i := 12) (oi := ?oia12) ?hia12 (by kernel_rfl) (by kernel_rfl) (by kernel_rfl) hQ ?hwa12 ?resta12
  case hia12 => simp only [List.getElem?_toArray, List.getElem?_cons_zero, List.getElem?_cons_succ]; rfl
  case hwa12 => rfl
  simp only [Act.put, List.setIfInBounds_toArray, List.set_cons_zero, List.set_cons_succ]
  refine ext_skip (i := 13) (oi := ?oia13) ?hia13 (by kernel_rfl) (by kernel_rfl) (by kernel_rfl) hQ ?hwa13 ?resta13
  case hia13 => simp only [List.getElem?_toArray, List.getElem?_cons_zero, List.getElem?_cons_succ]; rfl
  case hwa13 => rfl
  simp only [Act.put, List.setIfInBounds_toArray, List.set_cons_zero, List.set_cons_succ]
  refine ext_skip (i := 14) (oi := ?oia14) ?hia14 (by kernel_rfl) (by kernel_rfl) (by kernel_rfl) hQ ?hwa14 ?resta14
  case hia14 => simp only [List.getElem?_toArray, List.getElem?_cons_zero, List.getElem?_cons_succ]; rfl
  case hwa14 => rfl
  simp only [Act.put, List.setIfInBounds_toArray, List.set_cons_zero, List.set_cons_succ]
  refine ext_skip (i := 15) (oi := ?oia15) ?hia15 (by kernel_rfl) (by kernel_rfl) (by kernel_rfl) hQ ?hwa15 ?resta15
  case hia15 => simp only [List.getElem?_toArray, List.getElem?_cons_zero, List.getElem?_cons_succ]; rfl
  case hwa15 => rfl
  simp only [Act.put, List.setIfInBounds_toArray, List.set_cons_zero, List.set_cons_succ]
  refine ext_skip (i := 16) (oi := ?oia16) ?hia16 (by kernel_rfl) (by kernel_rfl) (by kernel_rfl) hQ ?hwa16 ?resta16
  case hia16 => simp only [List.getElem?_toArray, List.getElem?_cons_zero, List.getElem?_cons_succ]; rfl
  case hwa16 => rfl
  simp only [Act.put, List.setIfInBounds_toArray, List.set_cons_zero, List.set_cons_succ]
  refine ext_skip (i := 17) (oi := ?oia17) ?hia17 (by kernel_rfl) (by kernel_rfl) (by kernel_rfl) hQ ?hwa17 ?resta17
  case hia17 => simp only [List.getElem?_toArray, List.getElem?_cons_zero, List.getElem?_cons_succ]; rfl
  case hwa17 => rfl
  simp only [Act.put, List.setIfInBounds_toArray, List.set_cons_zero, List.set_cons_succ]
  refine ext_skip (i := 18) (oi := ?oia18) ?hia18 (by kernel_rfl) (by kernel_rfl) (by kernel_rfl) hQ ?hwa18 ?resta18
  case hia18 => simp only [List.getElem?_toArray, List.getElem?_cons_zero, List.getElem?_cons_succ]; rfl
  case hwa18 => rfl
  simp only [Act.put, List.setIfInBounds_toArray, List.set_cons_zero, List.set_cons_succ]
  refine ext_skip (i := 19) (oi := ?oia19) ?hia19 (by kernel_rfl) (by kernel_rfl) (by kernel_rfl) hQ ?hwa19 ?resta19
  case hia19 => simp only [List.getElem?_toArray, List.getElem?_cons_zero, List.getElem?_cons_succ]; rfl
  case hwa19 => rfl
  simp only [Act.put, List.setIfInBounds_toArray, List.set_cons_zero, List.set_cons_succ]
  refine ext_skip (i := 20) (oi := ?oia20) ?hia20 (by kernel_rfl) (by kernel_rfl) (by kernel_rfl) hQ ?hwa20 ?resta20
  case hia20 => simp only [List.getElem?_toArray, List.getElem?_cons_zero, List.getElem?_cons_succ]; rfl
  case hwa20 => rfl
  simp only [Act.put, List.setIfInBounds_toArray, List.set_cons_zero, List.set_cons_succ]
  refine ext_skip (i := 21) (oi := ?oia21) ?hia21 (by kernel_rfl) (by kernel_rfl) (by kernel_rfl) hQ ?hwa21 ?resta21
  case hia21 => simp only [List.getElem?_toArray, List.getElem?_cons_zero, List.getElem?_cons_succ]; rfl
  case hwa21 => rfl
  simp only [Act.put, List.setIfInBounds_toArray, List.set_cons_zero, List.set_cons_succ]
  refine ext_skip (i := 22) (oi := ?oia22) ?hia22 (by kernel_rfl) (by kernel_rfl) (by kernel_rfl) hQ ?hwa22 ?resta22
  case hia22 => simp only [List.getElem?_toArray, List.getElem?_cons_zero, List.getElem?_cons_succ]; rfl
  case hwa22 => rfl
  simp only [Act.put, List.setIfInBounds_toArray, List.set_cons_zero, List.set_cons_succ]
  refine ext_skip (i := 23) (oi := ?oia23) ?hia23 (by kernel_rfl) (by kernel_rfl) (by kernel_rfl) hQ ?hwa23 ?resta23
  case hia23 => simp only [List.getElem?_toArray, List.getElem?_cons_zero, List.getElem?_cons_succ]; rfl
  case hwa23 => rfl
  simp only [Act.put, List.setIfInBounds_toArray, List.set_cons_zero, List.set_cons_succ]
  refine ext_take (i := 24) (oi := ?oia24) (v := ?va24) ?hia24 (by kernel_rfl) (by kernel_rfl) (by kernel_rfl) hQ ?hwa24 ?hya24 ?resta24
  case hia24 => simp only [List.getElem?_toArray, List.getElem?_cons_zero, List.getElem?_cons_succ]; rfl
  case hwa24 => rfl
  case hya24 => intro W hW; go_simp; with_reducible rfl
  simp only [Act.put, List.setIfInBounds_toArray, List.set_cons_zero, List.set_cons_succ]
  refine wpAnyH_done (by kernel_rfl) ?_ _
  have z3 : w5.cell? ⟨p3, 0, none⟩ = some (.slice A1 n c1) := (h3.cell 0).trans rfl
  have z4 : w5.cell? ⟨p3, 1, none⟩ = some (.int .i64 (0)) := (h3.cell 1).trans rfl
  go_wp2_with fail
  clear z3 z4
  refine (HUS2.out _ (R1.more hS)).mono ?_
  rintro e w6 ⟨rfl, b⟩
  replace R0 := R0.below (b.mono hS)
  replace R1 := R1.below (b.mono hS)
  replace h3 := h3.below b h3.lt
  replace h5 := h5.below b h5.lt
  replace hB := hB.trans (b.mono hS)
  replace hS := Nat.le_trans hS b.size
  clear b
  have b := Ext.al w6 (.cells #[.slice none 0 0, .int .i64 0] 33)
  have h8 := Blk.new w6 33 #[.slice none 0 0, .int .i64 0]
  have o_h3_h8 := h3.lt
  have o_h5_h8 := h5.lt
  replace R0 := R0.below (b.mono hS)
  replace R1 := R1.below (b.mono hS)
  replace h3 := h3.below b h3.lt
  replace h5 := h5.below b h5.lt
  replace hB := hB.trans (b.mono hS)
  replace hS := Nat.le_trans hS b.size
  clear b
  go_wp2_with fail
  generalize w6.alloc (.cells #[.slice none 0 0, .int .i64 0] 33) = w7 at *
  generalize w6.heap.size = p8 at *
  refine ext_start (by kernel_rfl) (by repeat (first | exact calm_body | apply calm_then | apply calm_block)) (fun hQ => ?_)
  have b := (Ext.refl w7).draw
  replace R0 := R0.below (b.mono hS)
  replace R1 := R1.below (b.mono hS)
  replace h3 := h3.below b h3.lt
  replace h5 := h5.below b h5.lt
  replace h8 := h8.below b h8.lt
  replace hB := hB.trans (b.mono hS)
  replace hS := Nat.le_trans hS b.size
  clear b
  generalize w7.drew = w8 at *
  refine ext_take (i := 0) (oi := ?oib0) (v := ?vb0) ?hib0 (by kernel_rfl) (by kernel_rfl) (by kernel_rfl) hQ ?hwb0 ?hyb0 ?restb0
  case hib0 => simp only [List.getElem?_toArray, List.getElem?_cons_zero]; rfl
  case hwb0 => rfl
  case hyb0 => intro W hW; go_simp; with_reducible rfl
  simp only [Act.put, List.setIfInBounds_toArray, List.set_cons_zero, List.set_cons_succ]
  refine ext_take (i := 1) (oi := ?oib1) (v := ?vb1) ?hib1 (by kernel_rfl) (by kernel_rfl) (by kernel_rfl) hQ ?hwb1 ?hyb1 ?restb1
  case hib1 => simp only [List.getElem?_toArray, List.getElem?_cons_zero, List.getElem?_cons_succ]; rfl
  case hwb1 => rfl
  case hyb1 => intro W hW; go_simp; with_reducible rfl
  simp only [Act.put, List.setIfInBounds_toArray, List.set_cons_zero, List.set_cons_succ]
  refine ext_take (i := 2) (oi := ?oib2) (v := ?vb2) ?hib2 (by kernel_rfl) (by kernel_rfl) (by kernel_rfl) hQ ?hwb2 ?hyb2 ?restb2
  case hib2 => simp only [List.getElem?_toArray, List.getElem?_cons_zero, List.getElem?_cons_succ]; rfl
  case hwb2 => rfl
  case hyb2 => intro W hW; go_simp; with_reducible rfl
  simp only [Act.put, List.setIfInBounds_toArray, List.set_cons_zero, List.set_cons_succ]
  refine ext_take (i := 3) (oi := ?oib3) (v := ?vb3) ?hib3 (by kernel_rfl) (by kernel_rfl) (by kernel_rfl) hQ ?hwb3 ?hyb3 ?restb3
  case hib3 => simp only [List.getElem?_toArray, List.getElem?_cons_zero, List.getElem?_cons_succ]; rfl
  case hwb3 => rfl
  case hyb3 => intro W hW; go_simp; with_reducible rfl
  simp only [Act.put, List.setIfInBounds_toArray, List.set_cons_zero, List.set_cons_succ]
  refine ext_take (i := 4) (oi := ?oib4) (v := ?vb4) ?hib4 (by kernel_rfl) (by kernel_rfl) (by kernel_rfl) hQ ?hwb4 ?hyb4 ?restb4
  case hib4 => simp only [List.getElem?_toArray, List.getElem?_cons_zero, List.getElem?_cons_succ]; rfl
  case hwb4 => rfl
  case hyb4 => intro W hW; go_simp; with_reducible rfl
  simp only [Act.put, List.setIfInBounds_toArray, List.set_cons_zero, List.set_cons_succ]
  refine ext_take (i := 5) (oi := ?oib5) (v := ?vb5) ?hib5 (by kernel_rfl) (by kernel_rfl) (by kernel_rfl) hQ ?hwb5 ?hyb5 ?restb5
  case hib5 => simp only [List.getElem?_toArray, List.getElem?_cons_zero, List.getElem?_cons_succ]; rfl
  case hwb5 => rfl
  case hyb5 => intro W hW; go_simp; with_reducible rfl
  simp only [Act.put, List.setIfInBounds_toArray, List.set_cons_zero, List.set_cons_succ]
  refine ext_take (i := 6) (oi := ?oib6) (v := ?vb6) ?hib6 (by kernel_rfl) (by kernel_rfl) (by kernel_rfl) hQ ?hwb6 ?hyb6 ?restb6
  case hib6 => simp only [List.getElem?_toArray, List.getElem?_cons_zero, List.getElem?_cons_succ]; rfl
  case hwb6 => rfl
  case hyb6 => intro W hW; go_simp; with_reducible rfl
  simp only [Act.put, List.setIfInBounds_toArray, List.set_cons_zero, List.set_cons_succ]
  refine ext_skip (i := 7) (oi := ?oib7) ?hib7 (by kernel_rfl) (by kernel_rfl) (by kernel_rfl) hQ ?hwb7 ?restb7
  case hib7 => simp only [List.getElem?_toArray, List.getElem?_cons_zero, List.getElem?_cons_succ]; rfl
  case hwb7 => rfl
  simp only [Act.put, List.setIfInBounds_toArray, List.set_cons_zero, List.set_cons_succ]
  refine ext_skip (i := 8) (oi := ?oib8) ?hib8 (by kernel_rfl) (by kernel_rfl) (by kernel_rfl) hQ ?hwb8 ?restb8
  case hib8 => simp only [List.getElem?_toArray, List.getElem?_cons_zero, List.getElem?_cons_succ]; rfl
  case hwb8 => rfl
  simp only [Act.put, List.setIfInBounds_toArray, List.set_cons_zero, List.set_cons_succ]
  refine ext_skip (i := 9) (oi := ?oib9) ?hib9 (by kernel_rfl) (by kernel_rfl) (by kernel_rfl) hQ ?hwb9 ?restb9
  case hib9 => simp only [List.getElem?_toArray, List.getElem?_cons_zero, List.getElem?_cons_succ]; rfl
  case hwb9 => rfl
  simp only [Act.put, List.setIfInBounds_toArray, List.set_cons_zero, List.set_cons_succ]
  refine ext_skip (i := 10) (oi := ?oib10) ?hib10 (by kernel_rfl) (by kernel_rfl) (by kernel_rfl) hQ ?hwb10 ?restb10
  case hib10 => simp only [List.getElem?_toArray, List.getElem?_cons_zero, List.getElem?_cons_succ]; rfl
  case hwb10 => rfl
  simp only [Act.put, List.setIfInBounds_toArray, List.set_cons_zero, List.set_cons_succ]
  refine ext_skip (i := 11) (oi := ?oib11) ?hib11 (by kernel_rfl) (by kernel_rfl) (by kernel_rfl) hQ ?hwb11 ?restb11
  case hib11 => simp only [List.getElem?_toArray, List.getElem?_cons_zero, List.getElem?_cons_succ]; rfl
  case hwb11 => rfl
  simp only [Act.put, List.setIfInBounds_toArray, List.set_cons_zero, List.set_cons_succ]
  refine ext_skip (i := 12) (oi := ?oib12) ?hib12 (by kernel_rfl) (by kernel_rfl) (by kernel_rfl) hQ ?hwb12 ?restb12
  case hib12 => simp only [List.getElem?_toArray, List.getElem?_cons_zero, List.getElem?_cons_succ]; rfl
  case hwb12 => rfl
  simp only [Act.put, List.setIfInBounds_toArray, List.set_cons_zero, List.set_cons_succ]
  refine ext_skip (i := 13) (oi := ?oib13) ?hib13 (by kernel_rfl) (by kernel_rfl) (by kernel_rfl) hQ ?hwb13 ?restb13
  case hib13 => simp only [List.getElem?_toArray, List.getElem?_cons_zero, List.getElem?_cons_succ]; rfl
  case hwb13 => rfl
  simp only [Act.put, List.setIfInBounds_toArray, List.set_cons_zero, List.set_cons_succ]
  refine ext_skip (i := 14) (oi := ?oib14) ?hib14 (by kernel_rfl) (by kernel_rfl) (by kernel_rfl) hQ ?hwb14 ?restb14
  case hib14 => simp only [List.getElem?_toArray, List.getElem?_cons_zero, List.getElem?_cons_succ]; rfl
  case hwb14 => rfl
  simp only [Act.put, List.setIfInBounds_toArray, List.set_cons_zero, List.set_cons_succ]
  refine ext_skip (i := 15) (oi := ?oib15) ?hib15 (by kernel_rfl) (by kernel_rfl) (by kernel_rfl) hQ ?hwb15 ?restb15
  case hib15 => simp only [List.getElem?_toArray, List.getElem?_cons_zero, List.getElem?_cons_succ]; rfl
  case hwb15 => rfl
  simp only [Act.put, List.setIfInBounds_toArray, List.set_cons_zero, List.set_cons_succ]
  refine ext_skip (i := 16) (oi := ?oib16) ?hib16 (by kernel_rfl) (by kernel_rfl) (by kernel_rfl) hQ ?hwb16 ?restb16
  case hib16 => simp only [List.getElem?_toArray, List.getElem?_cons_zero, List.getElem?_cons_succ]; rfl
  case hwb16 => rfl
  simp only [Act.put, List.setIfInBounds_toArray, List.set_cons_zero, List.set_cons_succ]
  refine ext_skip (i := 17) (oi := ?oib17) ?hib17 (by kernel_rfl) (by kernel_rfl) (by kernel_rfl) hQ ?hwb17 ?restb17
  case hib17 => simp only [List.getElem?_toArray, List.getElem?_cons_zero, List.getElem?_cons_succ]; rfl
  case hwb17 => rfl
  simp only [Act.put, List.setIfInBounds_toArray, List.set_cons_zero, List.set_cons_succ]
  refine ext_skip (i := 18) (oi := ?oib18) ?hib18 (by kernel_rfl) (by kernel_rfl) (by kernel_rfl) hQ ?hwb18 ?restb18
  case hib18 => simp only [List.getElem?_toArray, List.getElem?_cons_zero, List.getElem?_cons_succ]; rfl
  case hwb18 => rfl
  simp only [Act.put, List.setIfInBounds_toArray, List.set_cons_zero, List.set_cons_succ]
  refine ext_skip (i := 19) (oi := ?oib19) ?hib19 (by kernel_rfl) (by kernel_rfl) (by kernel_rfl) hQ ?hwb19 ?restb19
  case hib19 => simp only [List.getElem?_toArray, List.getElem?_cons_zero, List.getElem?_cons_succ]; rfl
  case hwb19 => rfl
  simp only [Act.put, List.setIfInBounds_toArray, List.set_cons_zero, List.set_cons_succ]
  refine ext_skip (i := 20) (oi := ?oib20) ?hib20 (by kernel_rfl) (by kernel_rfl) (by kernel_rfl) hQ ?hwb20 ?restb20
  case hib20 => simp only [List.getElem?_toArray, List.getElem?_cons_zero, List.getElem?_cons_succ]; rfl
  case hwb20 => rfl
  simp only [Act.put, List.setIfInBounds_toArray, List.set_cons_zero, List.set_cons_succ]
  refine ext_skip (i := 21) (oi := ?oib21) ?hib21 (by kernel_rfl) (by kernel_rfl) (by kernel_rfl) hQ ?hwb21 ?restb21
  case hib21 => simp only [List.getElem?_toArray, List.getElem?_cons_zero, List.getElem?_cons_succ]; rfl
  case hwb21 => rfl
  simp only [Act.put, List.setIfInBounds_toArray, List.set_cons_zero, List.set_cons_succ]
  refine ext_skip (i := 22) (oi := ?oib22) ?hib22 (by kernel_rfl) (by kernel_rfl) (by kernel_rfl) hQ ?hwb22 ?restb22
  case hib22 => simp only [List.getElem?_toArray, List.getElem?_cons_zero, List.getElem?_cons_succ]; rfl
  case hwb22 => rfl
  simp only [Act.put, List.setIfInBounds_toArray, List.set_cons_zero, List.set_cons_succ]
  refine ext_take (i := 23) (oi := ?oib23) (v := ?vb23) ?hib23 (by kernel_rfl) (by kernel_rfl) (by kernel_rfl) hQ ?hwb23 ?hyb23 ?restb23
  case hib23 => simp only [List.getElem?_toArray, List.getElem?_cons_zero, List.getElem?_cons_succ]; rfl
  case hwb23 => rfl
  case hyb23 => intro W hW; go_simp; with_reducible rfl
  simp only [Act.put, List.setIfInBounds_toArray, List.set_cons_zero, List.set_cons_succ]
  refine ext_take (i := 24) (oi := ?oib24) (v := ?vb24) ?hib24 (by kernel_rfl) (by kernel_rfl) (by kernel_rfl) hQ ?hwb24 ?hyb24 ?restb24
  case hib24 => simp only [List.getElem?_toArray, List.getElem?_cons_zero, List.getElem?_cons_succ]; rfl
  case hwb24 => rfl
  case hyb24 => intro W hW; go_simp; with_reducible rfl
  simp only [Act.put, List.setIfInBounds_toArray, List.set_cons_zero, List.set_cons_succ]
  refine wpAnyH_done (by kernel_rfl) ?_ _
  have z5 : w8.cell? ⟨p3, 0, none⟩ = some (.slice A1 n c1) := (h3.cell 0).trans rfl
  have z6 : w8.cell? ⟨p3, 1, none⟩ = some (.int .i64 (0)) := (h3.cell 1).trans rfl
  go_wp2_with fail
  clear z5 z6
  refine (untext_any A1 n c1 l 0 ((200000 : Nat) : Int) _ (R1.more hS) (by omega) hc1.1 (by omega) (by omega)).mono ?_
  rintro e w8t ⟨rfl, b⟩
  replace R0 := R0.below (b.mono hS)
  replace R1 := R1.below (b.mono hS)
  replace h3 := h3.below b h3.lt
  replace h5 := h5.below b h5.lt
  replace h8 := h8.below b h8.lt
  replace hB := hB.trans (b.mono hS)
  replace hS := Nat.le_trans hS b.size
  clear b
  by_cases ht : utE l 0 ((200000 : Nat) : Int) = 0
  rotate_left
  · have HT := Lib.hid (ut_bad (l := l) (a := 0) (mo := ((200000 : Nat) : Int)) A1 n c1 rfl ht)
    rw [HT.out.1, HT.out.2]
    have dt : (utE l 0 ((200000 : Nat) : Int) == 0) = false := by rw [beq_eq_false_iff_ne]; exact ht
    have hne : utE l 0 ((200000 : Nat) : Int) ≠ 0 := ht
    clear ht HT
    generalize utE l 0 ((200000 : Nat) : Int) = t0 at *
    have b := Ext.al w8t (.cells #[.slice none 0 0, .int .i64 0] 33)
    have h11 := Blk.new w8t 33 #[.slice none 0 0, .int .i64 0]
    have o_h3_h11 := h3.lt
    have o_h5_h11 := h5.lt
    have o_h8_h11 := h8.lt
    replace R0 := R0.below (b.mono hS)
    replace R1 := R1.below (b.mono hS)
    replace h3 := h3.below b h3.lt
    replace h5 := h5.below b h5.lt
    replace h8 := h8.below b h8.lt
    replace hB := hB.trans (b.mono hS)
    replace hS := Nat.le_trans hS b.size
    clear b
    go_wp2_with fail
    generalize w8t.alloc (.cells #[.slice none 0 0, .int .i64 0] 33) = w8ta at *
    generalize w8t.heap.size = p11 at *
    refine (alive_any _).mono ?_
    rintro e w8taz ⟨rfl, b⟩
    replace R0 := R0.below (b.mono hS)
    replace R1 := R1.below (b.mono hS)
    replace h3 := h3.below b h3.lt
    replace h5 := h5.below b h5.lt
    replace h8 := h8.below b h8.lt
    replace h11 := h11.below b h11.lt
    replace hB := hB.trans (b.mono hS)
    replace hS := Nat.le_trans hS b.size
    clear b
    go_wp2_with fail
    go_ret
    exact ⟨rfl, hB0.trans (hB.mono hBZ)⟩
  obtain ⟨q1, q2, q3, q4, q5⟩ := one_text (by omega) ht
  have HT := Lib.hid (ut_ok A1 n c1 ht)
  have H5 := Lib.hid q5
  have HTX := Lib.hid (fun W => text_any (utS l 0 ((200000 : Nat) : Int)) (by omega) W)
  rw [show txE (utS l 0 ((200000 : Nat) : Int)) = 0 from if_pos q2, q5] at HTX
  have hCC : utC A1 n c1 l 0 ((200000 : Nat) : Int) = cur A1 n c1 (((uvR l 0).2.2 + (uvR l 0).2.1 : Nat) : Int) := by rw [HT.out.2]; congr 3; omega
  rw [hCC, ht]
  clear hCC HT q1 q5 q2 ht
  generalize utS l 0 ((200000 : Nat) : Int) = ss at *
  generalize (uvR l 0).2.2 + (uvR l 0).2.1 = K at *
  rw [show (l.take K).length = K from by rw [List.length_take]; omega] at HTX
  clear H5
  have b := Ext.al w8t (.cells #[.slice A1 n c1, .int .i64 ((K : Int))] 33)
  have h11 := Blk.new w8t 33 #[.slice A1 n c1, .int .i64 ((K : Int))]
  have o_h3_h11 := h3.lt
  have o_h5_h11 := h5.lt
  have o_h8_h11 := h8.lt
  replace R0 := R0.below (b.mono hS)
  replace R1 := R1.below (b.mono hS)
  replace h3 := h3.below b h3.lt
  replace h5 := h5.below b h5.lt
  replace h8 := h8.below b h8.lt
  replace hB := hB.trans (b.mono hS)
  replace hS := Nat.le_trans hS b.size
  clear b
  go_wp2_with fail
  generalize w8t.alloc (.cells #[.slice A1 n c1, .int .i64 ((K : Int))] 33) = w8tb at *
  generalize w8t.heap.size = p11 at *
  refine (HTX.out _).mono ?_
  rintro e w8tbx ⟨A9, c9, rfl, o9, b⟩
  have R9 := own_rd o9
  clear o9
  replace R0 := R0.below (b.mono hS)
  replace R1 := R1.below (b.mono hS)
  replace h3 := h3.below b h3.lt
  replace h5 := h5.below b h5.lt
  replace h8 := h8.below b h8.lt
  replace h11 := h11.below b h11.lt
  replace hB := hB.trans (b.mono hS)
  replace hS := Nat.le_trans hS b.size
  clear b
  replace R9 := R9.mv (Below.refl _ _)
  go_wp2_with fail
  refine ext_start (by kernel_rfl) (by repeat (first | exact calm_body | apply calm_then | apply calm_block)) (fun hQ => ?_)
  have b := (Ext.refl w8tbx).draw
  replace R9 := R9.mv b
  replace R0 := R0.below (b.mono hS)
  replace R1 := R1.below (b.mono hS)
  replace h3 := h3.below b h3.lt
  replace h5 := h5.below b h5.lt
  replace h8 := h8.below b h8.lt
  replace h11 := h11.below b h11.lt
  replace hB := hB.trans (b.mono hS)
  replace hS := Nat.le_trans hS b.size
  clear b
  generalize w8tbx.drew = w8tbxd at *
  have hKn : K ≤ n := by omega
  have RS := Reads.first R0 hKn
  rw [Nat.mul_one, ← List.map_take] at RS
  have i0 : (0 : Int) ≤ (K : Int) := by omega
  have i1 : (K : Int) ≤ (c : Int) := by omega
  have dd1 : decide ((1 : Int) ≤ (K : Int)) = true := by simp; omega
  have dd2 : decide ((K : Int) ≤ (n : Int)) = true := by simp; omega
  have X7 : ∀ W, Ext w8tbxd W → W.cell? ⟨p11, 0, none⟩ = some (.slice A1 n c1) := fun W h => ((h11.below h h11.lt).cell 0).trans rfl
  have X8 : ∀ W, Ext w8tbxd W → W.cell? ⟨p11, 1, none⟩ = some (.int .i64 ((K : Int))) := fun W h => ((h11.below h h11.lt).cell 1).trans rfl
  have X9 : ∀ W, Ext w8tbxd W → CvS (A) (K) (c) (l.take K) W := fun W h => cvS (c) (RS.below (Below.mono h hS))
  have XR : ∀ W, Ext w8tbxd W → CvS A9 K c9 (l.take K) W := fun W h => cvS c9 (R9.below h)
  refine ext_take (i := 0) (oi := ?oic0) (v := ?vc0) ?hic0 (by kernel_rfl) (by kernel_rfl) (by kernel_rfl) hQ ?hwc0 ?hyc0 ?restc0
  case hic0 => simp only [List.getElem?_toArray, List.getElem?_cons_zero]; rfl
  case hwc0 => rfl
  case hyc0 => intro W hW; go_simp; with_reducible rfl
  simp only [Act.put, List.setIfInBounds_toArray, List.set_cons_zero, List.set_cons_succ]
  refine ext_take (i := 1) (oi := ?oic1) (v := ?vc1) ?hic1 (by kernel_rfl) (by kernel_rfl) (by kernel_rfl) hQ ?hwc1 ?hyc1 ?restc1
  case hic1 => simp only [List.getElem?_toArray, List.getElem?_cons_zero, List.getElem?_cons_succ]; rfl
  case hwc1 => rfl
  case hyc1 => intro W hW; go_simp; with_reducible rfl
  simp only [Act.put, List.setIfInBounds_toArray, List.set_cons_zero, List.set_cons_succ]
  refine ext_take (i := 2) (oi := ?oic2) (v := ?vc2) ?hic2 (by kernel_rfl) (by kernel_rfl) (by kernel_rfl) hQ ?hwc2 ?hyc2 ?restc2
  case hic2 => simp only [List.getElem?_toArray, List.getElem?_cons_zero, List.getElem?_cons_succ]; rfl
  case hwc2 => rfl
  case hyc2 => intro W hW; go_simp; with_reducible rfl
  simp only [Act.put, List.setIfInBounds_toArray, List.set_cons_zero, List.set_cons_succ]
  refine ext_take (i := 3) (oi := ?oic3) (v := ?vc3) ?hic3 (by kernel_rfl) (by kernel_rfl) (by kernel_rfl) hQ ?hwc3 ?hyc3 ?restc3
  case hic3 => simp only [List.getElem?_toArray, List.getElem?_cons_zero, List.getElem?_cons_succ]; rfl
  case hwc3 => rfl
  case hyc3 => intro W hW; go_simp; with_reducible rfl
  simp only [Act.put, List.setIfInBounds_toArray, List.set_cons_zero, List.set_cons_succ]
  refine ext_take (i := 4) (oi := ?oic4) (v := ?vc4) ?hic4 (by kernel_rfl) (by kernel_rfl) (by kernel_rfl) hQ ?hwc4 ?hyc4 ?restc4
  case hic4 => simp only [List.getElem?_toArray, List.getElem?_cons_zero, List.getElem?_cons_succ]; rfl
  case hwc4 => rfl
  case hyc4 => intro W hW; go_simp; with_reducible rfl
  simp only [Act.put, List.setIfInBounds_toArray, List.set_cons_zero, List.set_cons_succ]
  refine ext_take (i := 5) (oi := ?oic5) (v := ?vc5) ?hic5 (by kernel_rfl) (by kernel_rfl) (by kernel_rfl) hQ ?hwc5 ?hyc5 ?restc5
  case hic5 => simp only [List.getElem?_toArray, List.getElem?_cons_zero, List.getElem?_cons_succ]; rfl
  case hwc5 => rfl
  case hyc5 => intro W hW; go_simp; with_reducible rfl
  simp only [Act.put, List.setIfInBounds_toArray, List.set_cons_zero, List.set_cons_succ]
  refine ext_take (i := 6) (oi := ?oic6) (v := ?vc6) ?hic6 (by kernel_rfl) (by kernel_rfl) (by kernel_rfl) hQ ?hwc6 ?hyc6 ?restc6
  case hic6 => simp only [List.getElem?_toArray, List.getElem?_cons_zero, List.getElem?_cons_succ]; rfl
  case hwc6 => rfl
  case hyc6 => intro W hW; go_simp; with_reducible rfl
  simp only [Act.put, List.setIfInBounds_toArray, List.set_cons_zero, List.set_cons_succ]
  refine ext_take (i := 7) (oi := ?oic7) (v := ?vc7) ?hic7 (by kernel_rfl) (by kernel_rfl) (by kernel_rfl) hQ ?hwc7 ?hyc7 ?restc7
  case hic7 => simp only [List.getElem?_toArray, List.getElem?_cons_zero, List.getElem?_cons_succ]; rfl
  case hwc7 => rfl
  case hyc7 => intro W hW; go_simp; with_reducible rfl
  simp only [Act.put, List.setIfInBounds_toArray, List.set_cons_zero, List.set_cons_succ]
  refine ext_take (i := 8) (oi := ?oic8) (v := ?vc8) ?hic8 (by kernel_rfl) (by kernel_rfl) (by kernel_rfl) hQ ?hwc8 ?hyc8 ?restc8
  case hic8 => simp only [List.getElem?_toArray, List.getElem?_cons_zero, List.getElem?_cons_succ]; rfl
  case hwc8 => rfl
  case hyc8 => intro W hW; go_simp; with_reducible rfl
  simp only [Act.put, List.setIfInBounds_toArray, List.set_cons_zero, List.set_cons_succ]
  refine ext_take (i := 9) (oi := ?oic9) (v := ?vc9) ?hic9 (by kernel_rfl) (by kernel_rfl) (by kernel_rfl) hQ ?hwc9 ?hyc9 ?restc9
  case hic9 => simp only [List.getElem?_toArray, List.getElem?_cons_zero, List.getElem?_cons_succ]; rfl
  case hwc9 => rfl
  case hyc9 => intro W hW; go_simp; with_reducible rfl
  simp only [Act.put, List.setIfInBounds_toArray, List.set_cons_zero, List.set_cons_succ]
  refine ext_take (i := 10) (oi := ?oic10) (v := ?vc10) ?hic10 (by kernel_rfl) (by kernel_rfl) (by kernel_rfl) hQ ?hwc10 ?hyc10 ?restc10
  case hic10 => simp only [List.getElem?_toArray, List.getElem?_cons_zero, List.getElem?_cons_succ]; rfl
  case hwc10 => rfl
  case hyc10 => intro W hW; go_simp; with_reducible rfl
  simp only [Act.put, List.setIfInBounds_toArray, List.set_cons_zero, List.set_cons_succ]
  refine ext_take (i := 11) (oi := ?oic11) (v := ?vc11) ?hic11 (by kernel_rfl) (by kernel_rfl) (by kernel_rfl) hQ ?hwc11 ?hyc11 ?restc11
  case hic11 => simp only [List.getElem?_toArray, List.getElem?_cons_zero, List.getElem?_cons_succ]; rfl
  case hwc11 => rfl
  case hyc11 => intro W hW; go_simp; with_reducible rfl
  simp only [Act.put, List.setIfInBounds_toArray, List.set_cons_zero, List.set_cons_succ]
  refine ext_take (i := 12) (oi := ?oic12) (v := ?vc12) ?hic12 (by kernel_rfl) (by kernel_rfl) (by kernel_rfl) hQ ?hwc12 ?hyc12 ?restc12
  case hic12 => simp only [List.getElem?_toArray, List.getElem?_cons_zero, List.getElem?_cons_succ]; rfl
  case hwc12 => rfl
  case hyc12 => intro W hW; go_simp; with_reducible rfl
  simp only [Act.put, List.setIfInBounds_toArray, List.set_cons_zero, List.set_cons_succ]
  refine ext_take (i := 13) (oi := ?oic13) (v := ?vc13) ?hic13 (by kernel_rfl) (by kernel_rfl) (by kernel_rfl) hQ ?hwc13 ?hyc13 ?restc13
  case hic13 => simp only [List.getElem?_toArray, List.getElem?_cons_zero, List.getElem?_cons_succ]; rfl
  case hwc13 => rfl
  case hyc13 => intro W hW; go_simp; with_reducible rfl
  simp only [Act.put, List.setIfInBounds_toArray, List.set_cons_zero, List.set_cons_succ]
  refine ext_take (i := 14) (oi := ?oic14) (v := ?vc14) ?hic14 (by kernel_rfl) (by kernel_rfl) (by kernel_rfl) hQ ?hwc14 ?hyc14 ?restc14
  case hic14 => simp only [List.getElem?_toArray, List.getElem?_cons_zero, List.getElem?_cons_succ]; rfl
  case hwc14 => rfl
  case hyc14 => intro W hW; go_simp; with_reducible rfl
  simp only [Act.put, List.setIfInBounds_toArray, List.set_cons_zero, List.set_cons_succ]
  refine ext_take (i := 15) (oi := ?oic15) (v := ?vc15) ?hic15 (by kernel_rfl) (by kernel_rfl) (by kernel_rfl) hQ ?hwc15 ?hyc15 ?restc15
  case hic15 => simp only [List.getElem?_toArray, List.getElem?_cons_zero, List.getElem?_cons_succ]; rfl
  case hwc15 => rfl
  case hyc15 => intro W hW; go_simp; with_reducible rfl
  simp only [Act.put, List.setIfInBounds_toArray, List.set_cons_zero, List.set_cons_succ]
  refine ext_take (i := 16) (oi := ?oic16) (v := ?vc16) ?hic16 (by kernel_rfl) (by kernel_rfl) (by kernel_rfl) hQ ?hwc16 ?hyc16 ?restc16
  case hic16 => simp only [List.getElem?_toArray, List.getElem?_cons_zero, List.getElem?_cons_succ]; rfl
  case hwc16 => rfl
  case hyc16 => intro W hW; go_simp; with_reducible rfl
  simp only [Act.put, List.setIfInBounds_toArray, List.set_cons_zero, List.set_cons_succ]
  refine ext_take (i := 17) (oi := ?oic17) (v := ?vc17) ?hic17 (by kernel_rfl) (by kernel_rfl) (by kernel_rfl) hQ ?hwc17 ?hyc17 ?restc17
  case hic17 => simp only [List.getElem?_toArray, List.getElem?_cons_zero, List.getElem?_cons_succ]; rfl
  case hwc17 => rfl
  case hyc17 => intro W hW; go_simp; with_reducible rfl
  simp only [Act.put, List.setIfInBounds_toArray, List.set_cons_zero, List.set_cons_succ]
  refine ext_take (i := 18) (oi := ?oic18) (v := ?vc18) ?hic18 (by kernel_rfl) (by kernel_rfl) (by kernel_rfl) hQ ?hwc18 ?hyc18 ?restc18
  case hic18 => simp only [List.getElem?_toArray, List.getElem?_cons_zero, List.getElem?_cons_succ]; rfl
  case hwc18 => rfl
  case hyc18 => intro W hW; go_simp; with_reducible rfl
  simp only [Act.put, List.setIfInBounds_toArray, List.set_cons_zero, List.set_cons_succ]
  refine ext_take (i := 19) (oi := ?oic19) (v := ?vc19) ?hic19 (by kernel_rfl) (by kernel_rfl) (by kernel_rfl) hQ ?hwc19 ?hyc19 ?restc19
  case hic19 => simp only [List.getElem?_toArray, List.getElem?_cons_zero, List.getElem?_cons_succ]; rfl
  case hwc19 => rfl
  case hyc19 => intro W hW; go_simp; with_reducible rfl
  simp only [Act.put, List.setIfInBounds_toArray, List.set_cons_zero, List.set_cons_succ]
  refine ext_take (i := 20) (oi := ?oic20) (v := ?vc20) ?hic20 (by kernel_rfl) (by kernel_rfl) (by kernel_rfl) hQ ?hwc20 ?hyc20 ?restc20
  case hic20 => simp only [List.getElem?_toArray, List.getElem?_cons_zero, List.getElem?_cons_succ]; rfl
  case hwc20 => rfl
  case hyc20 => intro W hW; go_simp; with_reducible rfl
  simp only [Act.put, List.setIfInBounds_toArray, List.set_cons_zero, List.set_cons_succ]
  refine ext_take (i := 21) (oi := ?oic21) (v := ?vc21) ?hic21 (by kernel_rfl) (by kernel_rfl) (by kernel_rfl) hQ ?hwc21 ?hyc21 ?restc21
  case hic21 => simp only [List.getElem?_toArray, List.getElem?_cons_zero, List.getElem?_cons_succ]; rfl
  case hwc21 => rfl
  case hyc21 => intro W hW; go_simp; with_reducible rfl
  simp only [Act.put, List.setIfInBounds_toArray, List.set_cons_zero, List.set_cons_succ]
  refine ext_take (i := 22) (oi := ?oic22) (v := ?vc22) ?hic22 (by kernel_rfl) (by kernel_rfl) (by kernel_rfl) hQ ?hwc22 ?hyc22 ?restc22
  case hic22 => simp only [List.getElem?_toArray, List.getElem?_cons_zero, List.getElem?_cons_succ]; rfl
  case hwc22 => rfl
  case hyc22 => intro W hW; go_simp; with_reducible rfl
  simp only [Act.put, List.setIfInBounds_toArray, List.set_cons_zero, List.set_cons_succ]
  refine ext_take (i := 23) (oi := ?oic23) (v := ?vc23) ?hic23 (by kernel_rfl) (by kernel_rfl) (by kernel_rfl) hQ ?hwc23 ?hyc23 ?restc23
  case hic23 => simp only [List.getElem?_toArray, List.getElem?_cons_zero, List.getElem?_cons_succ]; rfl
  case hwc23 => rfl
  case hyc23 => intro W hW; go_simp; with_reducible rfl
  simp only [Act.put, List.setIfInBounds_toArray, List.set_cons_zero, List.set_cons_succ]
  refine ext_take (i := 24) (oi := ?oic24) (v := ?vc24) ?hic24 (by kernel_rfl) (by kernel_rfl) (by kernel_rfl) hQ ?hwc24 ?hyc24 ?restc24
  case hic24 => simp only [List.getElem?_toArray, List.getElem?_cons_zero, List.getElem?_cons_succ]; rfl
  case hwc24 => rfl
  case hyc24 => intro W hW; go_simp; with_reducible rfl
  simp only [Act.put, List.setIfInBounds_toArray, List.set_cons_zero, List.set_cons_succ]
  refine ext_step (i := 25) (oi := ?oic25) (by kernel_rfl) ?hic25 ?hwc25 (fun K hK => ?_)
  case hic25 => simp only [List.getElem?_toArray, List.getElem?_cons_zero, List.getElem?_cons_succ]; rfl
  case hwc25 => rfl
  go_simp
  refine (alive_any _).mono ?_; rintro e w8tbxdz ⟨rfl, b⟩; replace hB := hB.trans (b.mono hS); replace hS := Nat.le_trans hS b.size; refine hK _ _ b ?_
  try simp only [Act.put, List.setIfInBounds_toArray, List.set_cons_zero, List.set_cons_succ]
  refine ext_take (i := 26) (oi := ?oic26) (v := ?vc26) ?hic26 (by kernel_rfl) (by kernel_rfl) (by kernel_rfl) hQ ?hwc26 ?hyc26 ?restc26
  case hic26 => simp only [List.getElem?_toArray, List.getElem?_cons_zero, List.getElem?_cons_succ]; rfl
  case hwc26 => rfl
  case hyc26 => intro W hW; go_simp; with_reducible rfl
  simp only [Act.put, List.setIfInBounds_toArray, List.set_cons_zero, List.set_cons_succ]
  refine ext_take (i := 27) (oi := ?oic27) (v := ?vc27) ?hic27 (by kernel_rfl) (by kernel_rfl) (by kernel_rfl) hQ ?hwc27 ?hyc27 ?restc27
  case hic27 => simp only [List.getElem?_toArray, List.getElem?_cons_zero, List.getElem?_cons_succ]; rfl
  case hwc27 => rfl
  case hyc27 => intro W hW; go_simp; with_reducible rfl
  simp only [Act.put, List.setIfInBounds_toArray, List.set_cons_zero, List.set_cons_succ]
  refine wpAnyH_done (by kernel_rfl) ?_ _
  clear X7 X8 X9
  clear XR
  go_wp2_with fail
  go_ret
  exact ⟨rfl, hB0.trans (hB.mono hBZ)⟩

set_option maxRecDepth 100000 in
set_option maxHeartbeats 8000000 in
theorem wireOne_good (w : World) (A : Option Addr) (n c : Nat) (l : List UInt8) (hr : Rb w A n l) (hc : n ≤ c ∧ c ≤ 9223372036854775807) (he : uvE l 0 18446744073709551615 = 0) :
    Calls Try.prog 7 #[.slice A n c] w fun e w' => e = .returned (.bool true) ∧ Below w.heap.size w w' := by
  have HL := Lib.hid hr.len8
  have HR := Lib.hid hr
  clear hr
  by_cases h1 : 2000 < n
  · have d1 : decide ((2000 : Int) < (n : Int)) = true := by simp; omega
    go_enter Try.func7, Try.ntmps7
    go_wp2_with (go_at_call 23; refine (alive_any _).mono ?_; rintro e w7 ⟨rfl, hb7⟩)
    go_ret
    exact ⟨rfl, hb7⟩

  have d1 : decide ((2000 : Int) < (n : Int)) = false := by simp; omega
  have HNW := Lib.hid (new_any A n c l w HR.out (by omega))
  rw [show nwL l = l from if_pos (by rw [HL.out]; omega), show nwE l = 0 from if_pos (by rw [HL.out]; omega), HL.out] at HNW
  have hlen := HL.out
  obtain ⟨g1, g2, g3⟩ := one_num he
  have hv := uvN_lt l 0 18446744073709551615
  obtain ⟨v, hvv⟩ : ∃ v, uvN l 0 18446744073709551615 = v := ⟨_, rfl⟩
  obtain ⟨kk, hKK⟩ : ∃ kk, (uvR l 0).2.2 = kk := ⟨_, rfl⟩
  have hC : ∀ A1 c1, uvC A1 n c1 l 0 18446744073709551615 = cur A1 n c1 (kk : Int) := fun A1 c1 => by rw [← hKK]; simp [uvC, he]
  have HUV := Lib.hid (fun A1 c1 W (h : Rb W A1 n l) => unvary_any A1 n c1 l 0 18446744073709551615 W h (by omega) (by omega) (by omega))
  have HUS := Lib.hid (fun A1 c1 W (h : Rb W A1 n l) => unsigned_any A1 n c1 l 0 W h (by omega) (by omega))
  simp only [hC, he, hvv] at HUV HUS
  rw [hvv] at g3 hv
  rw [hKK] at g1 g2 g3
  have hlk : (l.take kk).length = kk := by rw [List.length_take]; omega
  have HVY := Lib.hid (fun W => vary_any v hv W)
  rw [g3, hlk] at HVY
  obtain ⟨si, hsi⟩ : ∃ si, hlf v = si := ⟨_, rfl⟩
  have hdh : dbl si = v := by rw [← hsi]; exact dbl_hlf v
  have hsb : -9223372036854775808 ≤ si ∧ si ≤ 9223372036854775807 := by rw [← hsi]; unfold hlf; split <;> omega
  have HSG := Lib.hid (fun W => signed_any si hsb W)
  rw [hdh, g3, hlk] at HSG
  rw [hsi] at HUS
  have hKn : kk ≤ n := by omega
  have i0 : (0 : Int) ≤ (kk : Int) := by omega
  have i1 : (kk : Int) ≤ (c : Int) := by omega
  have dd1 : decide ((kk : Int) < (1 : Int)) = false := by simp; omega
  have dd2 : decide ((n : Int) < (kk : Int)) = false := by simp; omega
  have dd3 : decide (n < kk) = false := by simp; omega
  clear g3 hC hdh hsi hsb hvv hKK he hlk
  go_enter Try.func7, Try.ntmps7
  go_wp2_with fail
  refine HNW.out.mono ?_
  rintro e w1 ⟨A1, c1, rfl, o1, b⟩
  obtain ⟨Z, hZ⟩ : ∃ Z, Z = w1.heap.size := ⟨_, rfl⟩
  have hS : Z ≤ w1.heap.size := Nat.le_of_eq hZ
  have R1 : RdB w1 Z A1 n l := hZ ▸ own_rd o1
  have hc1 := own_cap o1
  have hB0 := b
  have hBZ : w.heap.size ≤ Z := hZ ▸ b.size
  have R0 : RdB w1 Z A n l := hZ ▸ HR.out.mv b
  have hB := Below.refl Z w1
  clear o1 b HNW hZ
  have b := Ext.al w1 (.cells #[.slice A1 n c1, .int .i64 (0)] 33)
  have h3 := Blk.new w1 33 #[.slice A1 n c1, .int .i64 (0)]
  replace R0 := R0.below (b.mono hS)
  replace R1 := R1.below (b.mono hS)
  replace hB := hB.trans (b.mono hS)
  replace hS := Nat.le_trans hS b.size
  clear b
  have z1 : (w1.alloc (.cells #[.slice A1 n c1, .int .i64 (0)] 33)).cell? ⟨w1.heap.size, 0, none⟩ = some (.slice A1 n c1) := (h3.cell 0).trans rfl
  have z2 : (w1.alloc (.cells #[.slice A1 n c1, .int .i64 (0)] 33)).cell? ⟨w1.heap.size, 1, none⟩ = some (.int .i64 (0)) := (h3.cell 1).trans rfl
  go_wp2_with fail
  clear z1 z2
  generalize w1.alloc (.cells #[.slice A1 n c1, .int .i64 (0)] 33) = w2 at *
  generalize w1.heap.size = p3 at *
  refine (HUV.out _ _ _ (R1.more hS)).mono ?_
  rintro e w3 ⟨rfl, b⟩
  replace R0 := R0.below (b.mono hS)
  replace R1 := R1.below (b.mono hS)
  replace h3 := h3.below b h3.lt
  replace hB := hB.trans (b.mono hS)
  replace hS := Nat.le_trans hS b.size
  clear b
  have b := Ext.al w3 (.cells #[.slice A1 n c1, .int .i64 ((kk : Int))] 33)
  have h5 := Blk.new w3 33 #[.slice A1 n c1, .int .i64 ((kk : Int))]
  have o_h3_h5 := h3.lt
  replace R0 := R0.below (b.mono hS)
  replace R1 := R1.below (b.mono hS)
  replace h3 := h3.below b h3.lt
  replace hB := hB.trans (b.mono hS)
  replace hS := Nat.le_trans hS b.size
  clear b
  go_wp2_with fail
  generalize w3.alloc (.cells #[.slice A1 n c1, .int .i64 ((kk : Int))] 33) = w4 at *
  generalize w3.heap.size = p5 at *
  refine ext_start (by kernel_rfl) (by repeat (first | exact calm_body | apply calm_then | apply calm_block)) (fun hQ => ?_)
  have b := (Ext.refl w4).draw
  replace R0 := R0.below (b.mono hS)
  replace R1 := R1.below (b.mono hS)
  replace h3 := h3.below b h3.lt
  replace h5 := h5.below b h5.lt
  replace hB := hB.trans (b.mono hS)
  replace hS := Nat.le_trans hS b.size
  clear b
  generalize w4.drew = w5 at *
  have RS := Reads.first R0 hKn
  rw [Nat.mul_one, ← List.map_take] at RS
  have X3 : ∀ W, Ext w5 W → W.cell? ⟨p5, 0, none⟩ = some (.slice A1 n c1) := fun W h => ((h5.below h h5.lt).cell 0).trans rfl
  have X4 : ∀ W, Ext w5 W → W.cell? ⟨p5, 1, none⟩ = some (.int .i64 ((kk : Int))) := fun W h => ((h5.below h h5.lt).cell 1).trans rfl
  have X5 : ∀ W, Ext w5 W → CvS (A) (kk) (c) (l.take kk) W := fun W h => cvS (c) (RS.below (Below.mono h hS))
  refine ext_take (i := 0) (oi := ?oia0) (v := ?va0) ?hia0 (by kernel_rfl) (by kernel_rfl) (by kernel_rfl) hQ ?hwa0 ?hya0 ?resta0
  case hia0 => simp only [List.getElem?_toArray, List.getElem?_cons_zero]; rfl
  case hwa0 => rfl
  case hya0 => intro W hW; go_simp; with_reducible rfl
  simp only [Act.put, List.setIfInBounds_toArray, List.set_cons_zero, List.set_cons_succ]
  refine ext_take (i := 1) (oi := ?oia1) (v := ?va1) ?hia1 (by kernel_rfl) (by kernel_rfl) (by kernel_rfl) hQ ?hwa1 ?hya1 ?resta1
  case hia1 => simp only [List.getElem?_toArray, List.getElem?_cons_zero, List.getElem?_cons_succ]; rfl
  case hwa1 => rfl
  case hya1 => intro W hW; go_simp; with_reducible rfl
  simp only [Act.put, List.setIfInBounds_toArray, List.set_cons_zero, List.set_cons_succ]
  refine ext_take (i := 2) (oi := ?oia2) (v := ?va2) ?hia2 (by kernel_rfl) (by kernel_rfl) (by kernel_rfl) hQ ?hwa2 ?hya2 ?resta2
  case hia2 => simp only [List.getElem?_toArray, List.getElem?_cons_zero, List.getElem?_cons_succ]; rfl
  case hwa2 => rfl
  case hya2 => intro W hW; go_simp; with_reducible rfl
  simp only [Act.put, List.setIfInBounds_toArray, List.set_cons_zero, List.set_cons_succ]
  refine ext_take (i := 3) (oi := ?oia3) (v := ?va3) ?hia3 (by kernel_rfl) (by kernel_rfl) (by kernel_rfl) hQ ?hwa3 ?hya3 ?resta3
  case hia3 => simp only [List.getElem?_toArray, List.getElem?_cons_zero, List.getElem?_cons_succ]; rfl
  case hwa3 => rfl
  case hya3 => intro W hW; go_simp; with_reducible rfl
  simp only [Act.put, List.setIfInBounds_toArray, List.set_cons_zero, List.set_cons_succ]
  refine ext_take (i := 4) (oi := ?oia4) (v := ?va4) ?hia4 (by kernel_rfl) (by kernel_rfl) (by kernel_rfl) hQ ?hwa4 ?hya4 ?resta4
  case hia4 => simp only [List.getElem?_toArray, List.getElem?_cons_zero, List.getElem?_cons_succ]; rfl
  case hwa4 => rfl
  case hya4 => intro W hW; go_simp; with_reducible rfl
  simp only [Act.put, List.setIfInBounds_toArray, List.set_cons_zero, List.set_cons_succ]
  refine ext_take (i := 5) (oi := ?oia5) (v := ?va5) ?hia5 (by kernel_rfl) (by kernel_rfl) (by kernel_rfl) hQ ?hwa5 ?hya5 ?resta5
  case hia5 => simp only [List.getElem?_toArray, List.getElem?_cons_zero, List.getElem?_cons_succ]; rfl
  case hwa5 => rfl
  case hya5 => intro W hW; go_simp; with_reducible rfl
  simp only [Act.put, List.setIfInBounds_toArray, List.set_cons_zero, List.set_cons_succ]
  refine ext_take (i := 6) (oi := ?oia6) (v := ?va6) ?hia6 (by kernel_rfl) (by kernel_rfl) (by kernel_rfl) hQ ?hwa6 ?hya6 ?resta6
  case hia6 => simp only [List.getElem?_toArray, List.getElem?_cons_zero, List.getElem?_cons_succ]; rfl
  case hwa6 => rfl
  case hya6 => intro W hW; go_simp; with_reducible rfl
  simp only [Act.put, List.setIfInBounds_toArray, List.set_cons_zero, List.set_cons_succ]
  refine ext_take (i := 7) (oi := ?oia7) (v := ?va7) ?hia7 (by kernel_rfl) (by kernel_rfl) (by kernel_rfl) hQ ?hwa7 ?hya7 ?resta7
  case hia7 => simp only [List.getElem?_toArray, List.getElem?_cons_zero, List.getElem?_cons_succ]; rfl
  case hwa7 => rfl
  case hya7 => intro W hW; go_simp; with_reducible rfl
  simp only [Act.put, List.setIfInBounds_toArray, List.set_cons_zero, List.set_cons_succ]
  refine ext_take (i := 8) (oi := ?oia8) (v := ?va8) ?hia8 (by kernel_rfl) (by kernel_rfl) (by kernel_rfl) hQ ?hwa8 ?hya8 ?resta8
  case hia8 => simp only [List.getElem?_toArray, List.getElem?_cons_zero, List.getElem?_cons_succ]; rfl
  case hwa8 => rfl
  case hya8 => intro W hW; go_simp; with_reducible rfl
  simp only [Act.put, List.setIfInBounds_toArray, List.set_cons_zero, List.set_cons_succ]
  refine ext_take (i := 9) (oi := ?oia9) (v := ?va9) ?hia9 (by kernel_rfl) (by kernel_rfl) (by kernel_rfl) hQ ?hwa9 ?hya9 ?resta9
  case hia9 => simp only [List.getElem?_toArray, List.getElem?_cons_zero, List.getElem?_cons_succ]; rfl
  case hwa9 => rfl
  case hya9 => intro W hW; go_simp; with_reducible rfl
  simp only [Act.put, List.setIfInBounds_toArray, List.set_cons_zero, List.set_cons_succ]
  refine ext_take (i := 10) (oi := ?oia10) (v := ?va10) ?hia10 (by kernel_rfl) (by kernel_rfl) (by kernel_rfl) hQ ?hwa10 ?hya10 ?resta10
  case hia10 => simp only [List.getElem?_toArray, List.getElem?_cons_zero, List.getElem?_cons_succ]; rfl
  case hwa10 => rfl
  case hya10 => intro W hW; go_simp; with_reducible rfl
  simp only [Act.put, List.setIfInBounds_toArray, List.set_cons_zero, List.set_cons_succ]
  refine ext_take (i := 11) (oi := ?oia11) (v := ?va11) ?hia11 (by kernel_rfl) (by kernel_rfl) (by kernel_rfl) hQ ?hwa11 ?hya11 ?resta11
  case hia11 => simp only [List.getElem?_toArray, List.getElem?_cons_zero, List.getElem?_cons_succ]; rfl
  case hwa11 => rfl
  case hya11 => intro W hW; go_simp; with_reducible rfl
  simp only [Act.put, List.setIfInBounds_toArray, List.set_cons_zero, List.set_cons_succ]
  refine ext_take (i := 12) (oi := ?oia12) (v := ?va12) ?hia12 (by kernel_rfl) (by kernel_rfl) (by kernel_rfl) hQ ?hwa12 ?hya12 ?resta12
  case hia12 => simp only [List.getElem?_toArray, List.getElem?_cons_zero, List.getElem?_cons_succ]; rfl
  case hwa12 => rfl
  case hya12 => intro W hW; go_simp; with_reducible rfl
  simp only [Act.put, List.setIfInBounds_toArray, List.set_cons_zero, List.set_cons_succ]
  refine ext_take (i := 13) (oi := ?oia13) (v := ?va13) ?hia13 (by kernel_rfl) (by kernel_rfl) (by kernel_rfl) hQ ?hwa13 ?hya13 ?resta13
  case hia13 => simp only [List.getElem?_toArray, List.getElem?_cons_zero, List.getElem?_cons_succ]; rfl
  case hwa13 => rfl
  case hya13 => intro W hW; go_simp; with_reducible rfl
  simp only [Act.put, List.setIfInBounds_toArray, List.set_cons_zero, List.set_cons_succ]
  refine ext_take (i := 14) (oi := ?oia14) (v := ?va14) ?hia14 (by kernel_rfl) (by kernel_rfl) (by kernel_rfl) hQ ?hwa14 ?hya14 ?resta14
  case hia14 => simp only [List.getElem?_toArray, List.getElem?_cons_zero, List.getElem?_cons_succ]; rfl
  case hwa14 => rfl
  case hya14 => intro W hW; go_simp; with_reducible rfl
  simp only [Act.put, List.setIfInBounds_toArray, List.set_cons_zero, List.set_cons_succ]
  refine ext_take (i := 17) (oi := ?oia17) (v := ?va17) ?hia17 (by kernel_rfl) (by kernel_rfl) (by kernel_rfl) hQ ?hwa17 ?hya17 ?resta17
  case hia17 => simp only [List.getElem?_toArray, List.getElem?_cons_zero, List.getElem?_cons_succ]; rfl
  case hwa17 => rfl
  case hya17 => intro W hW; go_simp; with_reducible rfl
  simp only [Act.put, List.setIfInBounds_toArray, List.set_cons_zero, List.set_cons_succ]
  refine ext_take (i := 18) (oi := ?oia18) (v := ?va18) ?hia18 (by kernel_rfl) (by kernel_rfl) (by kernel_rfl) hQ ?hwa18 ?hya18 ?resta18
  case hia18 => simp only [List.getElem?_toArray, List.getElem?_cons_zero, List.getElem?_cons_succ]; rfl
  case hwa18 => rfl
  case hya18 => intro W hW; go_simp; with_reducible rfl
  simp only [Act.put, List.setIfInBounds_toArray, List.set_cons_zero, List.set_cons_succ]
  refine ext_take (i := 19) (oi := ?oia19) (v := ?va19) ?hia19 (by kernel_rfl) (by kernel_rfl) (by kernel_rfl) hQ ?hwa19 ?hya19 ?resta19
  case hia19 => simp only [List.getElem?_toArray, List.getElem?_cons_zero, List.getElem?_cons_succ]; rfl
  case hwa19 => rfl
  case hya19 => intro W hW; go_simp; with_reducible rfl
  simp only [Act.put, List.setIfInBounds_toArray, List.set_cons_zero, List.set_cons_succ]
  refine ext_take (i := 20) (oi := ?oia20) (v := ?va20) ?hia20 (by kernel_rfl) (by kernel_rfl) (by kernel_rfl) hQ ?hwa20 ?hya20 ?resta20
  case hia20 => simp only [List.getElem?_toArray, List.getElem?_cons_zero, List.getElem?_cons_succ]; rfl
  case hwa20 => rfl
  case hya20 => intro W hW; go_simp; with_reducible rfl
  simp only [Act.put, List.setIfInBounds_toArray, List.set_cons_zero, List.set_cons_succ]
  refine ext_take (i := 21) (oi := ?oia21) (v := ?va21) ?hia21 (by kernel_rfl) (by kernel_rfl) (by kernel_rfl) hQ ?hwa21 ?hya21 ?resta21
  case hia21 => simp only [List.getElem?_toArray, List.getElem?_cons_zero, List.getElem?_cons_succ]; rfl
  case hwa21 => rfl
  case hya21 => intro W hW; go_simp; with_reducible rfl
  simp only [Act.put, List.setIfInBounds_toArray, List.set_cons_zero, List.set_cons_succ]
  refine ext_step (i := 15) (oi := ?oia15) (by kernel_rfl) ?hia15 ?hwa15 (fun K hK => ?_)
  case hia15 => simp only [List.getElem?_toArray, List.getElem?_cons_zero, List.getElem?_cons_succ]; rfl
  case hwa15 => rfl
  go_simp
  refine (HVY.out _).mono ?_; rintro e w6 ⟨A6, c6, rfl, o6, b⟩; have R6 := own_rd o6; clear o6; replace R0 := R0.below (b.mono hS); replace R1 := R1.below (b.mono hS); replace RS := RS.below (b.mono hS); replace h3 := h3.below b h3.lt; replace h5 := h5.below b h5.lt; replace hB := hB.trans (b.mono hS); replace hS := Nat.le_trans hS b.size; have X6 : ∀ W, Ext w6 W → W.cell? ⟨p5, 0, none⟩ = some (.slice A1 n c1) := fun W h => ((h5.below h h5.lt).cell 0).trans rfl; have X7 : ∀ W, Ext w6 W → W.cell? ⟨p5, 1, none⟩ = some (.int .i64 ((kk : Int))) := fun W h => ((h5.below h h5.lt).cell 1).trans rfl; have X8 : ∀ W, Ext w6 W → CvS (A) (kk) (c) (l.take kk) W := fun W h => cvS (c) (RS.below (Below.mono h hS)); have XR : ∀ W, Ext w6 W → CvS A6 kk c6 (l.take kk) W := fun W h => cvS c6 (R6.below h); refine hK _ _ b ?_
  try simp only [Act.put, List.setIfInBounds_toArray, List.set_cons_zero, List.set_cons_succ]
  refine ext_take (i := 16) (oi := ?oia16) (v := ?va16) ?hia16 (by kernel_rfl) (by kernel_rfl) (by kernel_rfl) hQ ?hwa16 ?hya16 ?resta16
  case hia16 => simp only [List.getElem?_toArray, List.getElem?_cons_zero, List.getElem?_cons_succ]; rfl
  case hwa16 => rfl
  case hya16 => intro W hW; go_simp; with_reducible rfl
  simp only [Act.put, List.setIfInBounds_toArray, List.set_cons_zero, List.set_cons_succ]
  refine ext_take (i := 22) (oi := ?oia22) (v := ?va22) ?hia22 (by kernel_rfl) (by kernel_rfl) (by kernel_rfl) hQ ?hwa22 ?hya22 ?resta22
  case hia22 => simp only [List.getElem?_toArray, List.getElem?_cons_zero, List.getElem?_cons_succ]; rfl
  case hwa22 => rfl
  case hya22 => intro W hW; go_simp; with_reducible rfl
  simp only [Act.put, List.setIfInBounds_toArray, List.set_cons_zero, List.set_cons_succ]
  refine ext_take (i := 23) (oi := ?oia23) (v := ?va23) ?hia23 (by kernel_rfl) (by kernel_rfl) (by kernel_rfl) hQ ?hwa23 ?hya23 ?resta23
  case hia23 => simp only [List.getElem?_toArray, List.getElem?_cons_zero, List.getElem?_cons_succ]; rfl
  case hwa23 => rfl
  case hya23 => intro W hW; go_simp; with_reducible rfl
  simp only [Act.put, List.setIfInBounds_toArray, List.set_cons_zero, List.set_cons_succ]
  refine ext_take (i := 24) (oi := ?oia24) (v := ?va24) ?hia24 (by kernel_rfl) (by kernel_rfl) (by kernel_rfl) hQ ?hwa24 ?hya24 ?resta24
  case hia24 => simp only [List.getElem?_toArray, List.getElem?_cons_zero, List.getElem?_cons_succ]; rfl
  case hwa24 => rfl
  case hya24 => intro W hW; go_simp; with_reducible rfl
  simp only [Act.put, List.setIfInBounds_toArray, List.set_cons_zero, List.set_cons_succ]
  refine wpAnyH_done (by kernel_rfl) ?_ _
  clear X3 X4 X5 X6 X7 X8
  clear XR R6 RS
  have z9 : w6.cell? ⟨p3, 0, none⟩ = some (.slice A1 n c1) := (h3.cell 0).trans rfl
  have z10 : w6.cell? ⟨p3, 1, none⟩ = some (.int .i64 (0)) := (h3.cell 1).trans rfl
  go_wp2_with fail
  clear z9 z10
  refine (HUS.out _ _ _ (R1.more hS)).mono ?_
  rintro e w7 ⟨rfl, b⟩
  replace R0 := R0.below (b.mono hS)
  replace R1 := R1.below (b.mono hS)
  replace h3 := h3.below b h3.lt
  replace h5 := h5.below b h5.lt
  replace hB := hB.trans (b.mono hS)
  replace hS := Nat.le_trans hS b.size
  clear b
  have b := Ext.al w7 (.cells #[.slice A1 n c1, .int .i64 ((kk : Int))] 33)
  have h8 := Blk.new w7 33 #[.slice A1 n c1, .int .i64 ((kk : Int))]
  have o_h3_h8 := h3.lt
  have o_h5_h8 := h5.lt
  replace R0 := R0.below (b.mono hS)
  replace R1 := R1.below (b.mono hS)
  replace h3 := h3.below b h3.lt
  replace h5 := h5.below b h5.lt
  replace hB := hB.trans (b.mono hS)
  replace hS := Nat.le_trans hS b.size
  clear b
  go_wp2_with fail
  generalize w7.alloc (.cells #[.slice A1 n c1, .int .i64 ((kk : Int))] 33) = w8 at *
  generalize w7.heap.size = p8 at *
  refine ext_start (by kernel_rfl) (by repeat (first | exact calm_body | apply calm_then | apply calm_block)) (fun hQ => ?_)
  have b := (Ext.refl w8).draw
  replace R0 := R0.below (b.mono hS)
  replace R1 := R1.below (b.mono hS)
  replace h3 := h3.below b h3.lt
  replace h5 := h5.below b h5.lt
  replace h8 := h8.below b h8.lt
  replace hB := hB.trans (b.mono hS)
  replace hS := Nat.le_trans hS b.size
  clear b
  generalize w8.drew = w9 at *
  have RS := Reads.first R0 hKn
  rw [Nat.mul_one, ← List.map_take] at RS
  have X11 : ∀ W, Ext w9 W → W.cell? ⟨p5, 0, none⟩ = some (.slice A1 n c1) := fun W h => ((h5.below h h5.lt).cell 0).trans rfl
  have X12 : ∀ W, Ext w9 W → W.cell? ⟨p5, 1, none⟩ = some (.int .i64 ((kk : Int))) := fun W h => ((h5.below h h5.lt).cell 1).trans rfl
  have X13 : ∀ W, Ext w9 W → W.cell? ⟨p8, 0, none⟩ = some (.slice A1 n c1) := fun W h => ((h8.below h h8.lt).cell 0).trans rfl
  have X14 : ∀ W, Ext w9 W → W.cell? ⟨p8, 1, none⟩ = some (.int .i64 ((kk : Int))) := fun W h => ((h8.below h h8.lt).cell 1).trans rfl
  have X15 : ∀ W, Ext w9 W → CvS (A) (kk) (c) (l.take kk) W := fun W h => cvS (c) (RS.below (Below.mono h hS))
  refine ext_take (i := 0) (oi := ?oib0) (v := ?vb0) ?hib0 (by kernel_rfl) (by kernel_rfl) (by kernel_rfl) hQ ?hwb0 ?hyb0 ?restb0
  case hib0 => simp only [List.getElem?_toArray, List.getElem?_cons_zero]; rfl
  case hwb0 => rfl
  case hyb0 => intro W hW; go_simp; with_reducible rfl
  simp only [Act.put, List.setIfInBounds_toArray, List.set_cons_zero, List.set_cons_succ]
  refine ext_take (i := 1) (oi := ?oib1) (v := ?vb1) ?hib1 (by kernel_rfl) (by kernel_rfl) (by kernel_rfl) hQ ?hwb1 ?hyb1 ?restb1
  case hib1 => simp only [List.getElem?_toArray, List.getElem?_cons_zero, List.getElem?_cons_succ]; rfl
  case hwb1 => rfl
  case hyb1 => intro W hW; go_simp; with_reducible rfl
  simp only [Act.put, List.setIfInBounds_toArray, List.set_cons_zero, List.set_cons_succ]
  refine ext_take (i := 2) (oi := ?oib2) (v := ?vb2) ?hib2 (by kernel_rfl) (by kernel_rfl) (by kernel_rfl) hQ ?hwb2 ?hyb2 ?restb2
  case hib2 => simp only [List.getElem?_toArray, List.getElem?_cons_zero, List.getElem?_cons_succ]; rfl
  case hwb2 => rfl
  case hyb2 => intro W hW; go_simp; with_reducible rfl
  simp only [Act.put, List.setIfInBounds_toArray, List.set_cons_zero, List.set_cons_succ]
  refine ext_take (i := 3) (oi := ?oib3) (v := ?vb3) ?hib3 (by kernel_rfl) (by kernel_rfl) (by kernel_rfl) hQ ?hwb3 ?hyb3 ?restb3
  case hib3 => simp only [List.getElem?_toArray, List.getElem?_cons_zero, List.getElem?_cons_succ]; rfl
  case hwb3 => rfl
  case hyb3 => intro W hW; go_simp; with_reducible rfl
  simp only [Act.put, List.setIfInBounds_toArray, List.set_cons_zero, List.set_cons_succ]
  refine ext_take (i := 4) (oi := ?oib4) (v := ?vb4) ?hib4 (by kernel_rfl) (by kernel_rfl) (by kernel_rfl) hQ ?hwb4 ?hyb4 ?restb4
  case hib4 => simp only [List.getElem?_toArray, List.getElem?_cons_zero, List.getElem?_cons_succ]; rfl
  case hwb4 => rfl
  case hyb4 => intro W hW; go_simp; with_reducible rfl
  simp only [Act.put, List.setIfInBounds_toArray, List.set_cons_zero, List.set_cons_succ]
  refine ext_take (i := 5) (oi := ?oib5) (v := ?vb5) ?hib5 (by kernel_rfl) (by kernel_rfl) (by kernel_rfl) hQ ?hwb5 ?hyb5 ?restb5
  case hib5 => simp only [List.getElem?_toArray, List.getElem?_cons_zero, List.getElem?_cons_succ]; rfl
  case hwb5 => rfl
  case hyb5 => intro W hW; go_simp; with_reducible rfl
  simp only [Act.put, List.setIfInBounds_toArray, List.set_cons_zero, List.set_cons_succ]
  refine ext_take (i := 6) (oi := ?oib6) (v := ?vb6) ?hib6 (by kernel_rfl) (by kernel_rfl) (by kernel_rfl) hQ ?hwb6 ?hyb6 ?restb6
  case hib6 => simp only [List.getElem?_toArray, List.getElem?_cons_zero, List.getElem?_cons_succ]; rfl
  case hwb6 => rfl
  case hyb6 => intro W hW; go_simp; with_reducible rfl
  simp only [Act.put, List.setIfInBounds_toArray, List.set_cons_zero, List.set_cons_succ]
  refine ext_take (i := 7) (oi := ?oib7) (v := ?vb7) ?hib7 (by kernel_rfl) (by kernel_rfl) (by kernel_rfl) hQ ?hwb7 ?hyb7 ?restb7
  case hib7 => simp only [List.getElem?_toArray, List.getElem?_cons_zero, List.getElem?_cons_succ]; rfl
  case hwb7 => rfl
  case hyb7 => intro W hW; go_simp; with_reducible rfl
  simp only [Act.put, List.setIfInBounds_toArray, List.set_cons_zero, List.set_cons_succ]
  refine ext_take (i := 8) (oi := ?oib8) (v := ?vb8) ?hib8 (by kernel_rfl) (by kernel_rfl) (by kernel_rfl) hQ ?hwb8 ?hyb8 ?restb8
  case hib8 => simp only [List.getElem?_toArray, List.getElem?_cons_zero, List.getElem?_cons_succ]; rfl
  case hwb8 => rfl
  case hyb8 => intro W hW; go_simp; with_reducible rfl
  simp only [Act.put, List.setIfInBounds_toArray, List.set_cons_zero, List.set_cons_succ]
  refine ext_take (i := 9) (oi := ?oib9) (v := ?vb9) ?hib9 (by kernel_rfl) (by kernel_rfl) (by kernel_rfl) hQ ?hwb9 ?hyb9 ?restb9
  case hib9 => simp only [List.getElem?_toArray, List.getElem?_cons_zero, List.getElem?_cons_succ]; rfl
  case hwb9 => rfl
  case hyb9 => intro W hW; go_simp; with_reducible rfl
  simp only [Act.put, List.setIfInBounds_toArray, List.set_cons_zero, List.set_cons_succ]
  refine ext_take (i := 10) (oi := ?oib10) (v := ?vb10) ?hib10 (by kernel_rfl) (by kernel_rfl) (by kernel_rfl) hQ ?hwb10 ?hyb10 ?restb10
  case hib10 => simp only [List.getElem?_toArray, List.getElem?_cons_zero, List.getElem?_cons_succ]; rfl
  case hwb10 => rfl
  case hyb10 => intro W hW; go_simp; with_reducible rfl
  simp only [Act.put, List.setIfInBounds_toArray, List.set_cons_zero, List.set_cons_succ]
  refine ext_take (i := 11) (oi := ?oib11) (v := ?vb11) ?hib11 (by kernel_rfl) (by kernel_rfl) (by kernel_rfl) hQ ?hwb11 ?hyb11 ?restb11
  case hib11 => simp only [List.getElem?_toArray, List.getElem?_cons_zero, List.getElem?_cons_succ]; rfl
  case hwb11 => rfl
  case hyb11 => intro W hW; go_simp; with_reducible rfl
  simp only [Act.put, List.setIfInBounds_toArray, List.set_cons_zero, List.set_cons_succ]
  refine ext_take (i := 12) (oi := ?oib12) (v := ?vb12) ?hib12 (by kernel_rfl) (by kernel_rfl) (by kernel_rfl) hQ ?hwb12 ?hyb12 ?restb12
  case hib12 => simp only [List.getElem?_toArray, List.getElem?_cons_zero, List.getElem?_cons_succ]; rfl
  case hwb12 => rfl
  case hyb12 => intro W hW; go_simp; with_reducible rfl
  simp only [Act.put, List.setIfInBounds_toArray, List.set_cons_zero, List.set_cons_succ]
  refine ext_take (i := 13) (oi := ?oib13) (v := ?vb13) ?hib13 (by kernel_rfl) (by kernel_rfl) (by kernel_rfl) hQ ?hwb13 ?hyb13 ?restb13
  case hib13 => simp only [List.getElem?_toArray, List.getElem?_cons_zero, List.getElem?_cons_succ]; rfl
  case hwb13 => rfl
  case hyb13 => intro W hW; go_simp; with_reducible rfl
  simp only [Act.put, List.setIfInBounds_toArray, List.set_cons_zero, List.set_cons_succ]
  refine ext_take (i := 16) (oi := ?oib16) (v := ?vb16) ?hib16 (by kernel_rfl) (by kernel_rfl) (by kernel_rfl) hQ ?hwb16 ?hyb16 ?restb16
  case hib16 => simp only [List.getElem?_toArray, List.getElem?_cons_zero, List.getElem?_cons_succ]; rfl
  case hwb16 => rfl
  case hyb16 => intro W hW; go_simp; with_reducible rfl
  simp only [Act.put, List.setIfInBounds_toArray, List.set_cons_zero, List.set_cons_succ]
  refine ext_take (i := 17) (oi := ?oib17) (v := ?vb17) ?hib17 (by kernel_rfl) (by kernel_rfl) (by kernel_rfl) hQ ?hwb17 ?hyb17 ?restb17
  case hib17 => simp only [List.getElem?_toArray, List.getElem?_cons_zero, List.getElem?_cons_succ]; rfl
  case hwb17 => rfl
  case hyb17 => intro W hW; go_simp; with_reducible rfl
  simp only [Act.put, List.setIfInBounds_toArray, List.set_cons_zero, List.set_cons_succ]
  refine ext_take (i := 18) (oi := ?oib18) (v := ?vb18) ?hib18 (by kernel_rfl) (by kernel_rfl) (by kernel_rfl) hQ ?hwb18 ?hyb18 ?restb18
  case hib18 => simp only [List.getElem?_toArray, List.getElem?_cons_zero, List.getElem?_cons_succ]; rfl
  case hwb18 => rfl
  case hyb18 => intro W hW; go_simp; with_reducible rfl
  simp only [Act.put, List.setIfInBounds_toArray, List.set_cons_zero, List.set_cons_succ]
  refine ext_take (i := 19) (oi := ?oib19) (v := ?vb19) ?hib19 (by kernel_rfl) (by kernel_rfl) (by kernel_rfl) hQ ?hwb19 ?hyb19 ?restb19
  case hib19 => simp only [List.getElem?_toArray, List.getElem?_cons_zero, List.getElem?_cons_succ]; rfl
  case hwb19 => rfl
  case hyb19 => intro W hW; go_simp; with_reducible rfl
  simp only [Act.put, List.setIfInBounds_toArray, List.set_cons_zero, List.set_cons_succ]
  refine ext_take (i := 20) (oi := ?oib20) (v := ?vb20) ?hib20 (by kernel_rfl) (by kernel_rfl) (by kernel_rfl) hQ ?hwb20 ?hyb20 ?restb20
  case hib20 => simp only [List.getElem?_toArray, List.getElem?_cons_zero, List.getElem?_cons_succ]; rfl
  case hwb20 => rfl
  case hyb20 => intro W hW; go_simp; with_reducible rfl
  simp only [Act.put, List.setIfInBounds_toArray, List.set_cons_zero, List.set_cons_succ]
  refine ext_step (i := 14) (oi := ?oib14) (by kernel_rfl) ?hib14 ?hwb14 (fun K hK => ?_)
  case hib14 => simp only [List.getElem?_toArray, List.getElem?_cons_zero, List.getElem?_cons_succ]; rfl
  case hwb14 => rfl
  go_simp
  refine (HSG.out _).mono ?_; rintro e w10 ⟨A6, c6, rfl, o6, b⟩; have R6 := own_rd o6; clear o6; replace R0 := R0.below (b.mono hS); replace R1 := R1.below (b.mono hS); replace RS := RS.below (b.mono hS); replace h3 := h3.below b h3.lt; replace h5 := h5.below b h5.lt; replace h8 := h8.below b h8.lt; replace hB := hB.trans (b.mono hS); replace hS := Nat.le_trans hS b.size; have X16 : ∀ W, Ext w10 W → W.cell? ⟨p5, 0, none⟩ = some (.slice A1 n c1) := fun W h => ((h5.below h h5.lt).cell 0).trans rfl; have X17 : ∀ W, Ext w10 W → W.cell? ⟨p5, 1, none⟩ = some (.int .i64 ((kk : Int))) := fun W h => ((h5.below h h5.lt).cell 1).trans rfl; have X18 : ∀ W, Ext w10 W → W.cell? ⟨p8, 0, none⟩ = some (.slice A1 n c1) := fun W h => ((h8.below h h8.lt).cell 0).trans rfl; have X19 : ∀ W, Ext w10 W → W.cell? ⟨p8, 1, none⟩ = some (.int .i64 ((kk : Int))) := fun W h => ((h8.below h h8.lt).cell 1).trans rfl; have X20 : ∀ W, Ext w10 W → CvS (A) (kk) (c) (l.take kk) W := fun W h => cvS (c) (RS.below (Below.mono h hS)); have XR : ∀ W, Ext w10 W → CvS A6 kk c6 (l.take kk) W := fun W h => cvS c6 (R6.below h); refine hK _ _ b ?_
  try simp only [Act.put, List.setIfInBounds_toArray, List.set_cons_zero, List.set_cons_succ]
  refine ext_take (i := 15) (oi := ?oib15) (v := ?vb15) ?hib15 (by kernel_rfl) (by kernel_rfl) (by kernel_rfl) hQ ?hwb15 ?hyb15 ?restb15
  case hib15 => simp only [List.getElem?_toArray, List.getElem?_cons_zero, List.getElem?_cons_succ]; rfl
  case hwb15 => rfl
  case hyb15 => intro W hW; go_simp; with_reducible rfl
  simp only [Act.put, List.setIfInBounds_toArray, List.set_cons_zero, List.set_cons_succ]
  refine ext_take (i := 21) (oi := ?oib21) (v := ?vb21) ?hib21 (by kernel_rfl) (by kernel_rfl) (by kernel_rfl) hQ ?hwb21 ?hyb21 ?restb21
  case hib21 => simp only [List.getElem?_toArray, List.getElem?_cons_zero, List.getElem?_cons_succ]; rfl
  case hwb21 => rfl
  case hyb21 => intro W hW; go_simp; with_reducible rfl
  simp only [Act.put, List.setIfInBounds_toArray, List.set_cons_zero, List.set_cons_succ]
  refine ext_take (i := 22) (oi := ?oib22) (v := ?vb22) ?hib22 (by kernel_rfl) (by kernel_rfl) (by kernel_rfl) hQ ?hwb22 ?hyb22 ?restb22
  case hib22 => simp only [List.getElem?_toArray, List.getElem?_cons_zero, List.getElem?_cons_succ]; rfl
  case hwb22 => rfl
  case hyb22 => intro W hW; go_simp; with_reducible rfl
  simp only [Act.put, List.setIfInBounds_toArray, List.set_cons_zero, List.set_cons_succ]
  refine ext_take (i := 23) (oi := ?oib23) (v := ?vb23) ?hib23 (by kernel_rfl) (by kernel_rfl) (by kernel_rfl) hQ ?hwb23 ?hyb23 ?restb23
  case hib23 => simp only [List.getElem?_toArray, List.getElem?_cons_zero, List.getElem?_cons_succ]; rfl
  case hwb23 => rfl
  case hyb23 => intro W hW; go_simp; with_reducible rfl
  simp only [Act.put, List.setIfInBounds_toArray, List.set_cons_zero, List.set_cons_succ]
  refine ext_take (i := 24) (oi := ?oib24) (v := ?vb24) ?hib24 (by kernel_rfl) (by kernel_rfl) (by kernel_rfl) hQ ?hwb24 ?hyb24 ?restb24
  case hib24 => simp only [List.getElem?_toArray, List.getElem?_cons_zero, List.getElem?_cons_succ]; rfl
  case hwb24 => rfl
  case hyb24 => intro W hW; go_simp; with_reducible rfl
  simp only [Act.put, List.setIfInBounds_toArray, List.set_cons_zero, List.set_cons_succ]
  refine wpAnyH_done (by kernel_rfl) ?_ _
  clear X11 X12 X13 X14 X15 X16 X17 X18 X19 X20
  clear XR R6 RS
  clear hKn i0 i1 dd1 dd2 dd3
  have z21 : w10.cell? ⟨p3, 0, none⟩ = some (.slice A1 n c1) := (h3.cell 0).trans rfl
  have z22 : w10.cell? ⟨p3, 1, none⟩ = some (.int .i64 (0)) := (h3.cell 1).trans rfl
  go_wp2_with fail
  clear z21 z22
  refine (untext_any A1 n c1 l 0 ((200000 : Nat) : Int) _ (R1.more hS) (by omega) hc1.1 (by omega) (by omega)).mono ?_
  rintro e w10t ⟨rfl, b⟩
  replace R0 := R0.below (b.mono hS)
  replace R1 := R1.below (b.mono hS)
  replace h3 := h3.below b h3.lt
  replace h5 := h5.below b h5.lt
  replace h8 := h8.below b h8.lt
  replace hB := hB.trans (b.mono hS)
  replace hS := Nat.le_trans hS b.size
  clear b
  by_cases ht : utE l 0 ((200000 : Nat) : Int) = 0
  rotate_left
  · have HT := Lib.hid (ut_bad (l := l) (a := 0) (mo := ((200000 : Nat) : Int)) A1 n c1 rfl ht)
    rw [HT.out.1, HT.out.2]
    have dt : (utE l 0 ((200000 : Nat) : Int) == 0) = false := by rw [beq_eq_false_iff_ne]; exact ht
    have hne : utE l 0 ((200000 : Nat) : Int) ≠ 0 := ht
    clear ht HT
    generalize utE l 0 ((200000 : Nat) : Int) = t0 at *
    have b := Ext.al w10t (.cells #[.slice none 0 0, .int .i64 0] 33)
    have h11 := Blk.new w10t 33 #[.slice none 0 0, .int .i64 0]
    have o_h3_h11 := h3.lt
    have o_h5_h11 := h5.lt
    have o_h8_h11 := h8.lt
    replace R0 := R0.below (b.mono hS)
    replace R1 := R1.below (b.mono hS)
    replace h3 := h3.below b h3.lt
    replace h5 := h5.below b h5.lt
    replace h8 := h8.below b h8.lt
    replace hB := hB.trans (b.mono hS)
    replace hS := Nat.le_trans hS b.size
    clear b
    go_wp2_with fail
    generalize w10t.alloc (.cells #[.slice none 0 0, .int .i64 0] 33) = w10ta at *
    generalize w10t.heap.size = p11 at *
    refine (alive_any _).mono ?_
    rintro e w10taz ⟨rfl, b⟩
    replace R0 := R0.below (b.mono hS)
    replace R1 := R1.below (b.mono hS)
    replace h3 := h3.below b h3.lt
    replace h5 := h5.below b h5.lt
    replace h8 := h8.below b h8.lt
    replace h11 := h11.below b h11.lt
    replace hB := hB.trans (b.mono hS)
    replace hS := Nat.le_trans hS b.size
    clear b
    go_wp2_with fail
    go_ret
    exact ⟨rfl, hB0.trans (hB.mono hBZ)⟩
  obtain ⟨q1, q2, q3, q4, q5⟩ := one_text (by omega) ht
  have HT := Lib.hid (ut_ok A1 n c1 ht)
  have H5 := Lib.hid q5
  have HTX := Lib.hid (fun W => text_any (utS l 0 ((200000 : Nat) : Int)) (by omega) W)
  rw [show txE (utS l 0 ((200000 : Nat) : Int)) = 0 from if_pos q2, q5] at HTX
  have hCC : utC A1 n c1 l 0 ((200000 : Nat) : Int) = cur A1 n c1 (((uvR l 0).2.2 + (uvR l 0).2.1 : Nat) : Int) := by rw [HT.out.2]; congr 3; omega
  rw [hCC, ht]
  clear hCC HT q1 q5 q2 ht
  generalize utS l 0 ((200000 : Nat) : Int) = ss at *
  generalize (uvR l 0).2.2 + (uvR l 0).2.1 = K at *
  rw [show (l.take K).length = K from by rw [List.length_take]; omega] at HTX
  clear H5
  have b := Ext.al w10t (.cells #[.slice A1 n c1, .int .i64 ((K : Int))] 33)
  have h11 := Blk.new w10t 33 #[.slice A1 n c1, .int .i64 ((K : Int))]
  have o_h3_h11 := h3.lt
  have o_h5_h11 := h5.lt
  have o_h8_h11 := h8.lt
  replace R0 := R0.below (b.mono hS)
  replace R1 := R1.below (b.mono hS)
  replace h3 := h3.below b h3.lt
  replace h5 := h5.below b h5.lt
  replace h8 := h8.below b h8.lt
  replace hB := hB.trans (b.mono hS)
  replace hS := Nat.le_trans hS b.size
  clear b
  go_wp2_with fail
  generalize w10t.alloc (.cells #[.slice A1 n c1, .int .i64 ((K : Int))] 33) = w10tb at *
  generalize w10t.heap.size = p11 at *
  refine (HTX.out _).mono ?_
  rintro e w10tbx ⟨A9, c9, rfl, o9, b⟩
  have R9 := own_rd o9
  clear o9
  replace R0 := R0.below (b.mono hS)
  replace R1 := R1.below (b.mono hS)
  replace h3 := h3.below b h3.lt
  replace h5 := h5.below b h5.lt
  replace h8 := h8.below b h8.lt
  replace h11 := h11.below b h11.lt
  replace hB := hB.trans (b.mono hS)
  replace hS := Nat.le_trans hS b.size
  clear b
  replace R9 := R9.mv (Below.refl _ _)
  go_wp2_with fail
  refine ext_start (by kernel_rfl) (by repeat (first | exact calm_body | apply calm_then | apply calm_block)) (fun hQ => ?_)
  have b := (Ext.refl w10tbx).draw
  replace R9 := R9.mv b
  replace R0 := R0.below (b.mono hS)
  replace R1 := R1.below (b.mono hS)
  replace h3 := h3.below b h3.lt
  replace h5 := h5.below b h5.lt
  replace h8 := h8.below b h8.lt
  replace h11 := h11.below b h11.lt
  replace hB := hB.trans (b.mono hS)
  replace hS := Nat.le_trans hS b.size
  clear b
  generalize w10tbx.drew = w10tbxd at *
  have hKn : K ≤ n := by omega
  have RS := Reads.first R0 hKn
  rw [Nat.mul_one, ← List.map_take] at RS
  have i0 : (0 : Int) ≤ (K : Int) := by omega
  have i1 : (K : Int) ≤ (c : Int) := by omega
  have dd1 : decide ((1 : Int) ≤ (K : Int)) = true := by simp; omega
  have dd2 : decide ((K : Int) ≤ (n : Int)) = true := by simp; omega
  have X23 : ∀ W, Ext w10tbxd W → W.cell? ⟨p11, 0, none⟩ = some (.slice A1 n c1) := fun W h => ((h11.below h h11.lt).cell 0).trans rfl
  have X24 : ∀ W, Ext w10tbxd W → W.cell? ⟨p11, 1, none⟩ = some (.int .i64 ((K : Int))) := fun W h => ((h11.below h h11.lt).cell 1).trans rfl
  have X25 : ∀ W, Ext w10tbxd W → CvS (A) (K) (c) (l.take K) W := fun W h => cvS (c) (RS.below (Below.mono h hS))
  have XR : ∀ W, Ext w10tbxd W → CvS A9 K c9 (l.take K) W := fun W h => cvS c9 (R9.below h)
  refine ext_take (i := 0) (oi := ?oic0) (v := ?vc0) ?hic0 (by kernel_rfl) (by kernel_rfl) (by kernel_rfl) hQ ?hwc0 ?hyc0 ?restc0
  case hic0 => simp only [List.getElem?_toArray, List.getElem?_cons_zero]; rfl
  case hwc0 => rfl
  case hyc0 => intro W hW; go_simp; with_reducible rfl
  simp only [Act.put, List.setIfInBounds_toArray, List.set_cons_zero, List.set_cons_succ]
  refine ext_take (i := 1) (oi := ?oic1) (v := ?vc1) ?hic1 (by kernel_rfl) (by kernel_rfl) (by kernel_rfl) hQ ?hwc1 ?hyc1 ?restc1
  case hic1 => simp only [List.getElem?_toArray, List.getElem?_cons_zero, List.getElem?_cons_succ]; rfl
  case hwc1 => rfl
  case hyc1 => intro W hW; go_simp; with_reducible rfl
  simp only [Act.put, List.setIfInBounds_toArray, List.set_cons_zero, List.set_cons_succ]
  refine ext_take (i := 2) (oi := ?oic2) (v := ?vc2) ?hic2 (by kernel_rfl) (by kernel_rfl) (by kernel_rfl) hQ ?hwc2 ?hyc2 ?restc2
  case hic2 => simp only [List.getElem?_toArray, List.getElem?_cons_zero, List.getElem?_cons_succ]; rfl
  case hwc2 => rfl
  case hyc2 => intro W hW; go_simp; with_reducible rfl
  simp only [Act.put, List.setIfInBounds_toArray, List.set_cons_zero, List.set_cons_succ]
  refine ext_take (i := 3) (oi := ?oic3) (v := ?vc3) ?hic3 (by kernel_rfl) (by kernel_rfl) (by kernel_rfl) hQ ?hwc3 ?hyc3 ?restc3
  case hic3 => simp only [List.getElem?_toArray, List.getElem?_cons_zero, List.getElem?_cons_succ]; rfl
  case hwc3 => rfl
  case hyc3 => intro W hW; go_simp; with_reducible rfl
  simp only [Act.put, List.setIfInBounds_toArray, List.set_cons_zero, List.set_cons_succ]
  refine ext_take (i := 4) (oi := ?oic4) (v := ?vc4) ?hic4 (by kernel_rfl) (by kernel_rfl) (by kernel_rfl) hQ ?hwc4 ?hyc4 ?restc4
  case hic4 => simp only [List.getElem?_toArray, List.getElem?_cons_zero, List.getElem?_cons_succ]; rfl
  case hwc4 => rfl
  case hyc4 => intro W hW; go_simp; with_reducible rfl
  simp only [Act.put, List.setIfInBounds_toArray, List.set_cons_zero, List.set_cons_succ]
  refine ext_take (i := 5) (oi := ?oic5) (v := ?vc5) ?hic5 (by kernel_rfl) (by kernel_rfl) (by kernel_rfl) hQ ?hwc5 ?hyc5 ?restc5
  case hic5 => simp only [List.getElem?_toArray, List.getElem?_cons_zero, List.getElem?_cons_succ]; rfl
  case hwc5 => rfl
  case hyc5 => intro W hW; go_simp; with_reducible rfl
  simp only [Act.put, List.setIfInBounds_toArray, List.set_cons_zero, List.set_cons_succ]
  refine ext_take (i := 6) (oi := ?oic6) (v := ?vc6) ?hic6 (by kernel_rfl) (by kernel_rfl) (by kernel_rfl) hQ ?hwc6 ?hyc6 ?restc6
  case hic6 => simp only [List.getElem?_toArray, List.getElem?_cons_zero, List.getElem?_cons_succ]; rfl
  case hwc6 => rfl
  case hyc6 => intro W hW; go_simp; with_reducible rfl
  simp only [Act.put, List.setIfInBounds_toArray, List.set_cons_zero, List.set_cons_succ]
  refine ext_take (i := 7) (oi := ?oic7) (v := ?vc7) ?hic7 (by kernel_rfl) (by kernel_rfl) (by kernel_rfl) hQ ?hwc7 ?hyc7 ?restc7
  case hic7 => simp only [List.getElem?_toArray, List.getElem?_cons_zero, List.getElem?_cons_succ]; rfl
  case hwc7 => rfl
  case hyc7 => intro W hW; go_simp; with_reducible rfl
  simp only [Act.put, List.setIfInBounds_toArray, List.set_cons_zero, List.set_cons_succ]
  refine ext_take (i := 8) (oi := ?oic8) (v := ?vc8) ?hic8 (by kernel_rfl) (by kernel_rfl) (by kernel_rfl) hQ ?hwc8 ?hyc8 ?restc8
  case hic8 => simp only [List.getElem?_toArray, List.getElem?_cons_zero, List.getElem?_cons_succ]; rfl
  case hwc8 => rfl
  case hyc8 => intro W hW; go_simp; with_reducible rfl
  simp only [Act.put, List.setIfInBounds_toArray, List.set_cons_zero, List.set_cons_succ]
  refine ext_take (i := 9) (oi := ?oic9) (v := ?vc9) ?hic9 (by kernel_rfl) (by kernel_rfl) (by kernel_rfl) hQ ?hwc9 ?hyc9 ?restc9
  case hic9 => simp only [List.getElem?_toArray, List.getElem?_cons_zero, List.getElem?_cons_succ]; rfl
  case hwc9 => rfl
  case hyc9 => intro W hW; go_simp; with_reducible rfl
  simp only [Act.put, List.setIfInBounds_toArray, List.set_cons_zero, List.set_cons_succ]
  refine ext_take (i := 10) (oi := ?oic10) (v := ?vc10) ?hic10 (by kernel_rfl) (by kernel_rfl) (by kernel_rfl) hQ ?hwc10 ?hyc10 ?restc10
  case hic10 => simp only [List.getElem?_toArray, List.getElem?_cons_zero, List.getElem?_cons_succ]; rfl
  case hwc10 => rfl
  case hyc10 => intro W hW; go_simp; with_reducible rfl
  simp only [Act.put, List.setIfInBounds_toArray, List.set_cons_zero, List.set_cons_succ]
  refine ext_take (i := 11) (oi := ?oic11) (v := ?vc11) ?hic11 (by kernel_rfl) (by kernel_rfl) (by kernel_rfl) hQ ?hwc11 ?hyc11 ?restc11
  case hic11 => simp only [List.getElem?_toArray, List.getElem?_cons_zero, List.getElem?_cons_succ]; rfl
  case hwc11 => rfl
  case hyc11 => intro W hW; go_simp; with_reducible rfl
  simp only [Act.put, List.setIfInBounds_toArray, List.set_cons_zero, List.set_cons_succ]
  refine ext_take (i := 12) (oi := ?oic12) (v := ?vc12) ?hic12 (by kernel_rfl) (by kernel_rfl) (by kernel_rfl) hQ ?hwc12 ?hyc12 ?restc12
  case hic12 => simp only [List.getElem?_toArray, List.getElem?_cons_zero, List.getElem?_cons_succ]; rfl
  case hwc12 => rfl
  case hyc12 => intro W hW; go_simp; with_reducible rfl
  simp only [Act.put, List.setIfInBounds_toArray, List.set_cons_zero, List.set_cons_succ]
  refine ext_take (i := 13) (oi := ?oic13) (v := ?vc13) ?hic13 (by kernel_rfl) (by kernel_rfl) (by kernel_rfl) hQ ?hwc13 ?hyc13 ?restc13
  case hic13 => simp only [List.getElem?_toArray, List.getElem?_cons_zero, List.getElem?_cons_succ]; rfl
  case hwc13 => rfl
  case hyc13 => intro W hW; go_simp; with_reducible rfl
  simp only [Act.put, List.setIfInBounds_toArray, List.set_cons_zero, List.set_cons_succ]
  refine ext_take (i := 14) (oi := ?oic14) (v := ?vc14) ?hic14 (by kernel_rfl) (by kernel_rfl) (by kernel_rfl) hQ ?hwc14 ?hyc14 ?restc14
  case hic14 => simp only [List.getElem?_toArray, List.getElem?_cons_zero, List.getElem?_cons_succ]; rfl
  case hwc14 => rfl
  case hyc14 => intro W hW; go_simp; with_reducible rfl
  simp only [Act.put, List.setIfInBounds_toArray, List.set_cons_zero, List.set_cons_succ]
  refine ext_take (i := 15) (oi := ?oic15) (v := ?vc15) ?hic15 (by kernel_rfl) (by kernel_rfl) (by kernel_rfl) hQ ?hwc15 ?hyc15 ?restc15
  case hic15 => simp only [List.getElem?_toArray, List.getElem?_cons_zero, List.getElem?_cons_succ]; rfl
  case hwc15 => rfl
  case hyc15 => intro W hW; go_simp; with_reducible rfl
  simp only [Act.put, List.setIfInBounds_toArray, List.set_cons_zero, List.set_cons_succ]
  refine ext_take (i := 16) (oi := ?oic16) (v := ?vc16) ?hic16 (by kernel_rfl) (by kernel_rfl) (by kernel_rfl) hQ ?hwc16 ?hyc16 ?restc16
  case hic16 => simp only [List.getElem?_toArray, List.getElem?_cons_zero, List.getElem?_cons_succ]; rfl
  case hwc16 => rfl
  case hyc16 => intro W hW; go_simp; with_reducible rfl
  simp only [Act.put, List.setIfInBounds_toArray, List.set_cons_zero, List.set_cons_succ]
  refine ext_take (i := 17) (oi := ?oic17) (v := ?vc17) ?hic17 (by kernel_rfl) (by kernel_rfl) (by kernel_rfl) hQ ?hwc17 ?hyc17 ?restc17
  case hic17 => simp only [List.getElem?_toArray, List.getElem?_cons_zero, List.getElem?_cons_succ]; rfl
  case hwc17 => rfl
  case hyc17 => intro W hW; go_simp; with_reducible rfl
  simp only [Act.put, List.setIfInBounds_toArray, List.set_cons_zero, List.set_cons_succ]
  refine ext_take (i := 18) (oi := ?oic18) (v := ?vc18) ?hic18 (by kernel_rfl) (by kernel_rfl) (by kernel_rfl) hQ ?hwc18 ?hyc18 ?restc18
  case hic18 => simp only [List.getElem?_toArray, List.getElem?_cons_zero, List.getElem?_cons_succ]; rfl
  case hwc18 => rfl
  case hyc18 => intro W hW; go_simp; with_reducible rfl
  simp only [Act.put, List.setIfInBounds_toArray, List.set_cons_zero, List.set_cons_succ]
  refine ext_take (i := 19) (oi := ?oic19) (v := ?vc19) ?hic19 (by kernel_rfl) (by kernel_rfl) (by kernel_rfl) hQ ?hwc19 ?hyc19 ?restc19
  case hic19 => simp only [List.getElem?_toArray, List.getElem?_cons_zero, List.getElem?_cons_succ]; rfl
  case hwc19 => rfl
  case hyc19 => intro W hW; go_simp; with_reducible rfl
  simp only [Act.put, List.setIfInBounds_toArray, List.set_cons_zero, List.set_cons_succ]
  refine ext_take (i := 20) (oi := ?oic20) (v := ?vc20) ?hic20 (by kernel_rfl) (by kernel_rfl) (by kernel_rfl) hQ ?hwc20 ?hyc20 ?restc20
  case hic20 => simp only [List.getElem?_toArray, List.getElem?_cons_zero, List.getElem?_cons_succ]; rfl
  case hwc20 => rfl
  case hyc20 => intro W hW; go_simp; with_reducible rfl
  simp only [Act.put, List.setIfInBounds_toArray, List.set_cons_zero, List.set_cons_succ]
  refine ext_take (i := 21) (oi := ?oic21) (v := ?vc21) ?hic21 (by kernel_rfl) (by kernel_rfl) (by kernel_rfl) hQ ?hwc21 ?hyc21 ?restc21
  case hic21 => simp only [List.getElem?_toArray, List.getElem?_cons_zero, List.getElem?_cons_succ]; rfl
  case hwc21 => rfl
  case hyc21 => intro W hW; go_simp; with_reducible rfl
  simp only [Act.put, List.setIfInBounds_toArray, List.set_cons_zero, List.set_cons_succ]
  refine ext_take (i := 22) (oi := ?oic22) (v := ?vc22) ?hic22 (by kernel_rfl) (by kernel_rfl) (by kernel_rfl) hQ ?hwc22 ?hyc22 ?restc22
  case hic22 => simp only [List.getElem?_toArray, List.getElem?_cons_zero, List.getElem?_cons_succ]; rfl
  case hwc22 => rfl
  case hyc22 => intro W hW; go_simp; with_reducible rfl
  simp only [Act.put, List.setIfInBounds_toArray, List.set_cons_zero, List.set_cons_succ]
  refine ext_take (i := 23) (oi := ?oic23) (v := ?vc23) ?hic23 (by kernel_rfl) (by kernel_rfl) (by kernel_rfl) hQ ?hwc23 ?hyc23 ?restc23
  case hic23 => simp only [List.getElem?_toArray, List.getElem?_cons_zero, List.getElem?_cons_succ]; rfl
  case hwc23 => rfl
  case hyc23 => intro W hW; go_simp; with_reducible rfl
  simp only [Act.put, List.setIfInBounds_toArray, List.set_cons_zero, List.set_cons_succ]
  refine ext_take (i := 24) (oi := ?oic24) (v := ?vc24) ?hic24 (by kernel_rfl) (by kernel_rfl) (by kernel_rfl) hQ ?hwc24 ?hyc24 ?restc24
  case hic24 => simp only [List.getElem?_toArray, List.getElem?_cons_zero, List.getElem?_cons_succ]; rfl
  case hwc24 => rfl
  case hyc24 => intro W hW; go_simp; with_reducible rfl
  simp only [Act.put, List.setIfInBounds_toArray, List.set_cons_zero, List.set_cons_succ]
  refine ext_step (i := 25) (oi := ?oic25) (by kernel_rfl) ?hic25 ?hwc25 (fun K hK => ?_)
  case hic25 => simp only [List.getElem?_toArray, List.getElem?_cons_zero, List.getElem?_cons_succ]; rfl
  case hwc25 => rfl
  go_simp
  refine (alive_any _).mono ?_; rintro e w10tbxdz ⟨rfl, b⟩; replace hB := hB.trans (b.mono hS); replace hS := Nat.le_trans hS b.size; refine hK _ _ b ?_
  try simp only [Act.put, List.setIfInBounds_toArray, List.set_cons_zero, List.set_cons_succ]
  refine ext_take (i := 26) (oi := ?oic26) (v := ?vc26) ?hic26 (by kernel_rfl) (by kernel_rfl) (by kernel_rfl) hQ ?hwc26 ?hyc26 ?restc26
  case hic26 => simp only [List.getElem?_toArray, List.getElem?_cons_zero, List.getElem?_cons_succ]; rfl
  case hwc26 => rfl
  case hyc26 => intro W hW; go_simp; with_reducible rfl
  simp only [Act.put, List.setIfInBounds_toArray, List.set_cons_zero, List.set_cons_succ]
  refine ext_take (i := 27) (oi := ?oic27) (v := ?vc27) ?hic27 (by kernel_rfl) (by kernel_rfl) (by kernel_rfl) hQ ?hwc27 ?hyc27 ?restc27
  case hic27 => simp only [List.getElem?_toArray, List.getElem?_cons_zero, List.getElem?_cons_succ]; rfl
  case hwc27 => rfl
  case hyc27 => intro W hW; go_simp; with_reducible rfl
  simp only [Act.put, List.setIfInBounds_toArray, List.set_cons_zero, List.set_cons_succ]
  refine wpAnyH_done (by kernel_rfl) ?_ _
  clear X23 X24 X25
  clear XR
  go_wp2_with fail
  go_ret
  exact ⟨rfl, hB0.trans (hB.mono hBZ)⟩

theorem wireOne_walk (w : World) (A : Option Addr) (n c : Nat) (l : List UInt8) (hr : Rb w A n l) (hc : n ≤ c ∧ c ≤ 9223372036854775807) : Calls Try.prog 7 #[.slice A n c] w fun e w' => e = .returned (.bool true) ∧ Below w.heap.size w w' := by
  by_cases he : uvE l 0 18446744073709551615 = 0
  · exact wireOne_good w A n c l hr hc he
  · exact wireOne_bad w A n c l hr hc he

end Go.Proofs.Ytnonikeolpokkaa
