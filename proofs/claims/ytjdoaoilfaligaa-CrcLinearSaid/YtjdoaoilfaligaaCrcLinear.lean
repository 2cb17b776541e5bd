/- The walk of CrcLinear: it returns true for every two bytes, and writes nothing that was there. -/
import Derived.Test.YtjdoaoilfaligaaCrcLaw
namespace Go.Proofs.Ytjdoaoilfaligaa
open Go.RowKit Crc
set_option linter.unusedVariables false

set_option maxRecDepth 100000 in
set_option maxHeartbeats 1600000 in
theorem crcLinear_walk (w : World) (a : Nat) (ha : a < 256) (b : Nat) (hb : b < 256) :
    Calls Try.prog 5 #[.int .u8 (a : Int), .int .u8 (b : Int)] w fun e w' => e = .returned (.bool true) ∧ Below w.heap.size w w' := by
  have HZ := Lib.hid (zero_of_info tab_zero).1
  have hx := u8_xor_nat a b ha hb
  have hc : a ^^^ b < 256 := Nat.xor_lt_two_pow (n := 8) ha hb
  have hy := u32_xorc (el a) (el b) (el_lt (by omega)) (el_lt (by omega))
  have HE := Lib.hid (el_xor a b)
  go_enter Try.func5, Try.ntmps5
  go_wp2_with fail
  refine (table_any _).mono ?_
  rintro e w1 ⟨rfl, hb1⟩
  have h1 := (Blk.new w1 25 (arr .u32 256 el)).arr_cell ha
  have h2 := (Blk.new w1 25 (arr .u32 256 el)).arr_cell hb
  have h3 := (Blk.new w1 25 (arr .u32 256 el)).arr_cell hc
  rw [HE.out] at h3
  have B1 := Lib.hid (hb1.alloc hb1.size (.cells (arr .u32 256 el) 25))
  have hl := el_lt (x := a) (by omega)
  have hl2 := el_lt (x := b) (by omega)
  have n1 : ((a : Int) == (b : Int)) = decide (a = b) := by rw [Bool.eq_iff_iff]; simp; omega
  have n2 : ((el a : Int) == (el b : Int)) = decide (a = b) := by
    rw [Bool.eq_iff_iff]; simp
    exact ⟨fun h => el_inj ha hb (by omega), fun h => by rw [h]⟩
  have n3 : ((el a : Int) / 16777216 == (el b : Int) / 16777216) = decide (a = b) := by
    rw [Bool.eq_iff_iff]; simp
    exact ⟨fun h => top_inj ha hb (by omega), fun h => by rw [h]⟩
  generalize decide (a = b) = q at *
  have B1 := B1.out
  have ia : (0 : Int) ≤ (a : Int) ∧ (a : Int) < 256 := by omega
  have ib : (0 : Int) ≤ (b : Int) ∧ (b : Int) < 256 := by omega
  have ic : (0 : Int) ≤ ((a ^^^ b : Nat) : Int) ∧ ((a ^^^ b : Nat) : Int) < 256 := by omega
  obtain ⟨ia0, ia1⟩ := ia
  obtain ⟨ib0, ib1⟩ := ib
  obtain ⟨ic0, ic1⟩ := ic
  go_wp2_with (first
    | (refine wpList_alloc_big rfl 25 rfl _ HZ.out ?_)
    | (refine wpList_store_new rfl 25 _ _ rfl w1 rfl _ (arr .u32 256 el) rfl (tab_sized _) (by rw [arr_size, arr_size]) (arr_one _ _ _) ?_))
  go_region_held3 (fun w' => w'.cell? ⟨w1.heap.size, a ^^^ b, none⟩ = some (.int .u32 ((el a ^^^ el b : Nat) : Int)) ∧ w'.cell? ⟨w1.heap.size, a, none⟩ = some (.int .u32 (el a : Int)) ∧ w'.cell? ⟨w1.heap.size, b, none⟩ = some (.int .u32 (el b : Int)) ∧ Below w.heap.size w w') (first | exact ⟨h3, h1, h2, B1.drew⟩ | exact ⟨(hb2.cell (by simp)).trans h3, (hb2.cell (by simp)).trans h1, (hb2.cell (by simp)).trans h2, B1.drew.trans (hb2.mono (by have := B1.size; simpa using this))⟩) ((go_at_call 17; refine (alive_any _).mono ?_; rintro e w2 ⟨rfl, hb2⟩))
  all_goals
    obtain ⟨_, _, _, hB⟩ := ‹_ ∧ _›
    go_wp2
    go_ret
    exact ⟨rfl, hB⟩
end Go.Proofs.Ytjdoaoilfaligaa
