/- The walk of ScriptReads. -/
import Derived.Test.YtgobebiagpejkaaScr11
import Derived.Test.YtgobebiagpejkaaScriptCuts
namespace Go.Proofs.Ytgobebiagpejkaa
open Go.RowKit Wire
set_option linter.unusedVariables false

theorem dc_vals (l : List UInt8) (hl : l.length ≤ 200000) : ∃ (ps : List Int) (z1 z2 z3 z4 e0 : Int), ps.length ≤ 200000 ∧ ∀ w e w', DcPost w l e w' → ∃ A' c', e = .returned (.tuple #[scr A' ps.length c' z1 z2 z3 z4, .int .i64 e0]) ∧ RdI w' w'.heap.size A' ps.length ps ∧ Below w.heap.size w w' := by
  refine ⟨if dcE l = 0 then toI (r6 l).1 else [], if dcE l = 0 then ((r1 l).1 : Int) else 0, if dcE l = 0 then ((r2 l).1 : Int) else 0, if dcE l = 0 then ((r3 l).1 : Int) else 0, if dcE l = 0 then ((r4 l).1 : Int) else 0, dcE l, ?_, fun w e w' h => ?_⟩
  · split
    · have h1 : (toI (r6 l).1).length = (r5 l).1 := by rw [toI, List.length_map]; exact gsJ_len _ _ _ _
      have h2 := gs_bd l (r4 l).2 2000
      rw [h1]
      exact Nat.le_trans h2 (by omega)
    · simp
  · obtain ⟨A', c', h1, h2, h3⟩ := h
    exact ⟨A', c', h1, own_reads h2, h3⟩

set_option maxRecDepth 100000 in
set_option maxHeartbeats 8000000 in
theorem scriptReads_walk (w : World) (A : Option Addr) (n c : Nat) (l : List UInt8) (hr : Rb w A n l) (hc : n ≤ c ∧ c ≤ 9223372036854775807) :
    Calls Try.prog 6 #[.slice A n c] w fun e w' => e = .returned (.bool true) ∧ Below w.heap.size w w' := by
  have HL := Lib.hid hr.len8
  have R := hr
  clear hr
  by_cases h1 : 1000 < n ∧ n ≤ 6100
  · have d0 : decide ((1000 : Int) < (n : Int)) = true := by simp; omega
    have d1 : decide ((n : Int) ≤ 6100) = true := by simp; omega
    go_enter Try.func6, Try.ntmps6
    go_wp2_with fail
    go_ret
    exact ⟨rfl, Below.refl _ _⟩

  by_cases h2 : 6200 < n
  · have d0 : decide ((1000 : Int) < (n : Int)) = true := by simp; omega
    have d1 : decide ((n : Int) ≤ 6100) = false := by simp; omega
    have d2 : decide ((6200 : Int) < (n : Int)) = true := by simp; omega
    go_enter Try.func6, Try.ntmps6
    go_wp2_with fail
    go_ret
    exact ⟨rfl, Below.refl _ _⟩

  obtain ⟨ps, u1, u2, u3, u4, e0, hps, hv⟩ := dc_vals l (by rw [HL.out]; omega)
  have HA := Lib.hid (fun W (h : Rb W A n l) => (decode_any A n c l W h hc.1).mono fun e w' hp => hv W e w' hp)
  have HB2 := Lib.hid (fun W (h : Rb W A n l) => (redecode_any A n c l W h hc.1).mono fun e w' hp => hv W e w' hp)
  clear hv
  have hB := Below.refl w.heap.size w
  by_cases h3 : 1000 < n
  · have d0 : decide ((1000 : Int) < (n : Int)) = true := by simp; omega
    have d1 : decide ((n : Int) ≤ 6100) = false := by simp; omega
    have d2 : decide ((6200 : Int) < (n : Int)) = false := by simp; omega
    have K0 := cvS c R
    go_enter Try.func6, Try.ntmps6
    go_wp2_with fail
    refine (HA.out _ R).mono ?_
    rintro e w1 ⟨A1, c1, rfl, R1, b⟩
    replace R := R.mv b
    replace hB := hB.trans (b.mono hB.size)
    clear b
    have b := Ext.al w1 (.cells #[.slice A1 ps.length c1, .int .i64 u1, .int .i64 u2, .int .i64 u3, .int .i64 u4] 31)
    have h4 := Blk.new w1 31 #[.slice A1 ps.length c1, .int .i64 u1, .int .i64 u2, .int .i64 u3, .int .i64 u4]
    replace R := R.mv b
    replace R1 := R1.mv b
    replace hB := hB.trans (b.mono hB.size)
    clear b
    go_wp2_with fail
    generalize w1.alloc (.cells #[.slice A1 ps.length c1, .int .i64 u1, .int .i64 u2, .int .i64 u3, .int .i64 u4] 31) = w2 at *
    generalize w1.heap.size = p4 at *
    refine (HB2.out _ R).mono ?_
    rintro e w3 ⟨A2, c2, rfl, R2, b⟩
    replace R := R.mv b
    replace R1 := R1.mv b
    replace h4 := h4.below b h4.lt
    replace hB := hB.trans (b.mono hB.size)
    clear b
    have b := Ext.al w3 (.cells #[.slice A2 ps.length c2, .int .i64 u1, .int .i64 u2, .int .i64 u3, .int .i64 u4] 31)
    have h6 := Blk.new w3 31 #[.slice A2 ps.length c2, .int .i64 u1, .int .i64 u2, .int .i64 u3, .int .i64 u4]
    have o_h4_h6 := h4.lt
    replace R := R.mv b
    replace R1 := R1.mv b
    replace R2 := R2.mv b
    replace h4 := h4.below b h4.lt
    replace hB := hB.trans (b.mono hB.size)
    clear b
    have z1 : (w3.alloc (.cells #[.slice A2 ps.length c2, .int .i64 u1, .int .i64 u2, .int .i64 u3, .int .i64 u4] 31)).cell? ⟨p4, 0, none⟩ = some (.slice A1 ps.length c1) := (h4.cell 0).trans rfl
    have z2 : (w3.alloc (.cells #[.slice A2 ps.length c2, .int .i64 u1, .int .i64 u2, .int .i64 u3, .int .i64 u4] 31)).cell? ⟨p4, 1, none⟩ = some (.int .i64 u1) := (h4.cell 1).trans rfl
    have z3 : (w3.alloc (.cells #[.slice A2 ps.length c2, .int .i64 u1, .int .i64 u2, .int .i64 u3, .int .i64 u4] 31)).cell? ⟨p4, 2, none⟩ = some (.int .i64 u2) := (h4.cell 2).trans rfl
    have z4 : (w3.alloc (.cells #[.slice A2 ps.length c2, .int .i64 u1, .int .i64 u2, .int .i64 u3, .int .i64 u4] 31)).cell? ⟨p4, 3, none⟩ = some (.int .i64 u3) := (h4.cell 3).trans rfl
    have z5 : (w3.alloc (.cells #[.slice A2 ps.length c2, .int .i64 u1, .int .i64 u2, .int .i64 u3, .int .i64 u4] 31)).cell? ⟨p4, 4, none⟩ = some (.int .i64 u4) := (h4.cell 4).trans rfl
    have z6 : (w3.alloc (.cells #[.slice A2 ps.length c2, .int .i64 u1, .int .i64 u2, .int .i64 u3, .int .i64 u4] 31)).cell? ⟨w3.heap.size, 0, none⟩ = some (.slice A2 ps.length c2) := (h6.cell 0).trans rfl
    have z7 : (w3.alloc (.cells #[.slice A2 ps.length c2, .int .i64 u1, .int .i64 u2, .int .i64 u3, .int .i64 u4] 31)).cell? ⟨w3.heap.size, 1, none⟩ = some (.int .i64 u1) := (h6.cell 1).trans rfl
    have z8 : (w3.alloc (.cells #[.slice A2 ps.length c2, .int .i64 u1, .int .i64 u2, .int .i64 u3, .int .i64 u4] 31)).cell? ⟨w3.heap.size, 2, none⟩ = some (.int .i64 u2) := (h6.cell 2).trans rfl
    have z9 : (w3.alloc (.cells #[.slice A2 ps.length c2, .int .i64 u1, .int .i64 u2, .int .i64 u3, .int .i64 u4] 31)).cell? ⟨w3.heap.size, 3, none⟩ = some (.int .i64 u3) := (h6.cell 3).trans rfl
    have z10 : (w3.alloc (.cells #[.slice A2 ps.length c2, .int .i64 u1, .int .i64 u2, .int .i64 u3, .int .i64 u4] 31)).cell? ⟨w3.heap.size, 4, none⟩ = some (.int .i64 u4) := (h6.cell 4).trans rfl
    go_wp2_with fail
    clear z1 z2 z3 z4 z5 z6 z7 z8 z9 z10
    generalize w3.alloc (.cells #[.slice A2 ps.length c2, .int .i64 u1, .int .i64 u2, .int .i64 u3, .int .i64 u4] 31) = w4 at *
    generalize w3.heap.size = p6 at *
    refine (same11_any A1 ps.length c1 ps u1 u2 u3 u4 A2 ps.length c2 ps u1 u2 u3 u4 _ R1 R2 (by omega)).mono ?_
    rintro e w5 ⟨rfl, b⟩
    rw [sm_refl]
    replace R := R.mv b
    replace R1 := R1.mv b
    replace R2 := R2.mv b
    replace h4 := h4.below b h4.lt
    replace h6 := h6.below b h6.lt
    replace hB := hB.trans (b.mono hB.size)
    clear b
    have K5 := cvS c R
    go_wp2_with fail
    go_ret
    exact ⟨rfl, hB⟩
  · have d0 : decide ((1000 : Int) < (n : Int)) = false := by simp; omega
    have d2 : decide ((6200 : Int) < (n : Int)) = false := by simp; omega
    have K0 := cvS c R
    go_enter Try.func6, Try.ntmps6
    go_wp2_with fail
    refine (HA.out _ R).mono ?_
    rintro e w1 ⟨A1, c1, rfl, R1, b⟩
    replace R := R.mv b
    replace hB := hB.trans (b.mono hB.size)
    clear b
    have b := Ext.al w1 (.cells #[.slice A1 ps.length c1, .int .i64 u1, .int .i64 u2, .int .i64 u3, .int .i64 u4] 31)
    have h4 := Blk.new w1 31 #[.slice A1 ps.length c1, .int .i64 u1, .int .i64 u2, .int .i64 u3, .int .i64 u4]
    replace R := R.mv b
    replace R1 := R1.mv b
    replace hB := hB.trans (b.mono hB.size)
    clear b
    go_wp2_with fail
    generalize w1.alloc (.cells #[.slice A1 ps.length c1, .int .i64 u1, .int .i64 u2, .int .i64 u3, .int .i64 u4] 31) = w2 at *
    generalize w1.heap.size = p4 at *
    refine (HB2.out _ R).mono ?_
    rintro e w3 ⟨A2, c2, rfl, R2, b⟩
    replace R := R.mv b
    replace R1 := R1.mv b
    replace h4 := h4.below b h4.lt
    replace hB := hB.trans (b.mono hB.size)
    clear b
    have b := Ext.al w3 (.cells #[.slice A2 ps.length c2, .int .i64 u1, .int .i64 u2, .int .i64 u3, .int .i64 u4] 31)
    have h6 := Blk.new w3 31 #[.slice A2 ps.length c2, .int .i64 u1, .int .i64 u2, .int .i64 u3, .int .i64 u4]
    have o_h4_h6 := h4.lt
    replace R := R.mv b
    replace R1 := R1.mv b
    replace R2 := R2.mv b
    replace h4 := h4.below b h4.lt
    replace hB := hB.trans (b.mono hB.size)
    clear b
    have z1 : (w3.alloc (.cells #[.slice A2 ps.length c2, .int .i64 u1, .int .i64 u2, .int .i64 u3, .int .i64 u4] 31)).cell? ⟨p4, 0, none⟩ = some (.slice A1 ps.length c1) := (h4.cell 0).trans rfl
    have z2 : (w3.alloc (.cells #[.slice A2 ps.length c2, .int .i64 u1, .int .i64 u2, .int .i64 u3, .int .i64 u4] 31)).cell? ⟨p4, 1, none⟩ = some (.int .i64 u1) := (h4.cell 1).trans rfl
    have z3 : (w3.alloc (.cells #[.slice A2 ps.length c2, .int .i64 u1, .int .i64 u2, .int .i64 u3, .int .i64 u4] 31)).cell? ⟨p4, 2, none⟩ = some (.int .i64 u2) := (h4.cell 2).trans rfl
    have z4 : (w3.alloc (.cells #[.slice A2 ps.length c2, .int .i64 u1, .int .i64 u2, .int .i64 u3, .int .i64 u4] 31)).cell? ⟨p4, 3, none⟩ = some (.int .i64 u3) := (h4.cell 3).trans rfl
    have z5 : (w3.alloc (.cells #[.slice A2 ps.length c2, .int .i64 u1, .int .i64 u2, .int .i64 u3, .int .i64 u4] 31)).cell? ⟨p4, 4, none⟩ = some (.int .i64 u4) := (h4.cell 4).trans rfl
    have z6 : (w3.alloc (.cells #[.slice A2 ps.length c2, .int .i64 u1, .int .i64 u2, .int .i64 u3, .int .i64 u4] 31)).cell? ⟨w3.heap.size, 0, none⟩ = some (.slice A2 ps.length c2) := (h6.cell 0).trans rfl
    have z7 : (w3.alloc (.cells #[.slice A2 ps.length c2, .int .i64 u1, .int .i64 u2, .int .i64 u3, .int .i64 u4] 31)).cell? ⟨w3.heap.size, 1, none⟩ = some (.int .i64 u1) := (h6.cell 1).trans rfl
    have z8 : (w3.alloc (.cells #[.slice A2 ps.length c2, .int .i64 u1, .int .i64 u2, .int .i64 u3, .int .i64 u4] 31)).cell? ⟨w3.heap.size, 2, none⟩ = some (.int .i64 u2) := (h6.cell 2).trans rfl
    have z9 : (w3.alloc (.cells #[.slice A2 ps.length c2, .int .i64 u1, .int .i64 u2, .int .i64 u3, .int .i64 u4] 31)).cell? ⟨w3.heap.size, 3, none⟩ = some (.int .i64 u3) := (h6.cell 3).trans rfl
    have z10 : (w3.alloc (.cells #[.slice A2 ps.length c2, .int .i64 u1, .int .i64 u2, .int .i64 u3, .int .i64 u4] 31)).cell? ⟨w3.heap.size, 4, none⟩ = some (.int .i64 u4) := (h6.cell 4).trans rfl
    go_wp2_with fail
    clear z1 z2 z3 z4 z5 z6 z7 z8 z9 z10
    generalize w3.alloc (.cells #[.slice A2 ps.length c2, .int .i64 u1, .int .i64 u2, .int .i64 u3, .int .i64 u4] 31) = w4 at *
    generalize w3.heap.size = p6 at *
    refine (same11_any A1 ps.length c1 ps u1 u2 u3 u4 A2 ps.length c2 ps u1 u2 u3 u4 _ R1 R2 (by omega)).mono ?_
    rintro e w5 ⟨rfl, b⟩
    rw [sm_refl]
    replace R := R.mv b
    replace R1 := R1.mv b
    replace R2 := R2.mv b
    replace h4 := h4.below b h4.lt
    replace h6 := h6.below b h6.lt
    replace hB := hB.trans (b.mono hB.size)
    clear b
    have K5 := cvS c R
    go_wp2_with fail
    go_ret
    exact ⟨rfl, hB⟩

end Go.Proofs.Ytgobebiagpejkaa
