/- The walk of WireFirst: it returns true for every argument. -/
import Derived.Test.YtnonikeolpokkaaWireFirstLaw
import Derived.Test.YtnonikeolpokkaaWireAlive
namespace Go.Proofs.Ytnonikeolpokkaa
open Go.RowKit Wire
set_option linter.unusedVariables false

theorem ba_ne {s t : ByteArray} (h : ¬ s = t) : (s.toList == t.toList) = false := by
  rw [beq_eq_false_iff_ne, ByteArray.toList_eq, ByteArray.toList_eq]
  exact fun e => h (ByteArray.ext (Array.ext' e))

set_option maxRecDepth 100000 in
set_option maxHeartbeats 4000000 in
theorem wireFirst_walk (w : World) (n : Nat) (hn : n < 18446744073709551616) (m : Nat) (hm : m < 18446744073709551616) (s : ByteArray) (hs : s.size ≤ 9223372036854775807) (t : ByteArray) (ht : t.size ≤ 9223372036854775807) (a : Int) (ha : -9223372036854775808 ≤ a ∧ a ≤ 9223372036854775807) :
    Calls Try.prog 5 #[.int .u64 (n : Int), .int .u64 (m : Int), .string s, .string t, .int .i64 a] w fun e w' => e = .returned (.bool true) ∧ Below w.heap.size w w' := by
  have HX := Lib.hid (fun W => vary_any n hn W)
  have HY := Lib.hid (fun W => vary_any m hm W)
  have HU := Lib.hid (fun W => text_any s hs W)
  have HV := Lib.hid (fun W => text_any t ht W)
  have HB1 := Lib.hid (bg_vry hn hm)
  have HC1 := Lib.hid (fun k hk => uv_cut (n := n) (k := k) hn hk)
  clear hn hm
  by_cases h1 : 300 < s.size
  · have d1 : decide ((300 : Int) < (s.size : Int)) = true := by simp; omega
    go_enter Try.func5, Try.ntmps5
    go_wp2_with (go_at_call 23; refine (alive_any _).mono ?_; rintro e w7 ⟨rfl, hb7⟩)
    go_ret
    exact ⟨rfl, hb7⟩
  have d1 : decide ((300 : Int) < (s.size : Int)) = false := by simp; omega
  by_cases h2 : 300 < t.size
  · have d2 : decide ((300 : Int) < (t.size : Int)) = true := by simp; omega
    go_enter Try.func5, Try.ntmps5
    go_wp2_with (go_at_call 23; refine (alive_any _).mono ?_; rintro e w7 ⟨rfl, hb7⟩)
    go_ret
    exact ⟨rfl, hb7⟩
  have d2 : decide ((300 : Int) < (t.size : Int)) = false := by simp; omega
  have HB2 := Lib.hid (bg_tx (s := s) (t := t) (by omega) (by omega))
  have HC2 := Lib.hid (fun k hb hk => ut_cut (s := s) (k := k) (by omega) hb hk)
  have E1 := Lib.hid (show txE s = 0 from if_pos (by omega))
  have E2 := Lib.hid (show txE t = 0 from if_pos (by omega))
  have L1 := Lib.hid (vry_len n)
  have L2 := Lib.hid (show (txL s).length ≤ 310 from by
    have h3 := (vry_len s.size).2
    have h4 : s.data.toList.length = s.size := by simp
    rw [tx_of (by omega), List.length_append, h4]; omega)
  obtain ⟨b1, hb1⟩ : ∃ b : Bool, decide (n = m) = b := ⟨_, rfl⟩
  obtain ⟨b2, hb2⟩ : ∃ b : Bool, decide (s = t) = b := ⟨_, rfl⟩
  replace HB1 : Hid (bgB (vry m) (vry n) = b1) := Lib.hid (HB1.out.trans hb1)
  replace HB2 : Hid (bgB (txL t) (txL s) = b2) := Lib.hid (HB2.out.trans hb2)
  have k1 : (b1 = true ∧ n = m) ∨ (b1 = false ∧ ((n : Int) == (m : Int)) = false) := by
    by_cases h : n = m
    · exact .inl ⟨by rw [← hb1]; simpa using h, h⟩
    · exact .inr ⟨by rw [← hb1]; simpa using h, by rw [beq_eq_false_iff_ne]; omega⟩
  have k2 : (b2 = true ∧ s = t) ∨ (b2 = false ∧ (s.toList == t.toList) = false) := by
    by_cases h : s = t
    · exact .inl ⟨by rw [← hb2]; simpa using h, h⟩
    · exact .inr ⟨by rw [← hb2]; simpa using h, ba_ne h⟩
  have K1 := Lib.hid k1
  have K2 := Lib.hid k2
  clear hb1 hb2 k1 k2
  go_enter Try.func5, Try.ntmps5
  go_wp2_with fail
  refine (HX.out _).mono ?_
  rintro e w1 ⟨A1, c1, rfl, o1, hB⟩
  have R1 := own_reads o1
  have C1 := (own_cap o1).1
  clear o1
  go_wp2_with fail
  refine (HY.out _).mono ?_
  rintro e w2 ⟨A2, c2, rfl, o2, b⟩
  have R2 := own_reads o2
  have C2 := (own_cap o2).1
  replace R1 := R1.mv b
  replace hB := hB.trans (b.mono hB.size)
  clear o2 b
  go_wp2_with fail
  refine (HU.out _).mono ?_
  rintro e w3 ⟨A3, c3, rfl, o3, b⟩
  have R3 := own_reads o3
  have C3 := (own_cap o3).1
  replace R1 := R1.mv b
  replace R2 := R2.mv b
  replace hB := hB.trans (b.mono hB.size)
  clear o3 b
  go_wp2_with fail
  refine (HV.out _).mono ?_
  rintro e w4 ⟨A4, c4, rfl, o4, b⟩
  have R4 := own_reads o4
  have C4 := (own_cap o4).1
  replace R1 := R1.mv b
  replace R2 := R2.mv b
  replace R3 := R3.mv b
  replace hB := hB.trans (b.mono hB.size)
  clear o4 b HX HY HU HV
  rw [E1.out, E2.out] at *
  have LX := L1.out.2
  have LU := L2.out
  clear E1 E2 L1 L2
  generalize vry n = xs at *
  generalize txL s = us at *
  generalize vry m = ys at *
  generalize txL t = vs at *
  go_wp2_with fail
  refine (begins_any A2 A1 _ c2 _ c1 ys xs _ R2 R1 C2).mono ?_
  rintro e w5 ⟨rfl, b⟩
  rw [HB1.out]
  have k1 := K1.out
  clear K1 HB1
  rcases k1 with ⟨rfl, rfl⟩ | ⟨rfl, k1⟩
  all_goals
    replace R1 := R1.mv b
    replace R3 := R3.mv b
    replace R4 := R4.mv b
    replace hB := hB.trans (b.mono hB.size)
    clear b R2 C2
    go_wp2_with fail
    refine (begins_any A4 A3 _ c4 _ c3 vs us _ R4 R3 C4).mono ?_
    rintro e w6 ⟨rfl, b⟩
    rw [HB2.out]
    have k2 := K2.out
    clear K2 HB2
    rcases k2 with ⟨rfl, rfl⟩ | ⟨rfl, k2⟩
    all_goals
      replace R1 := R1.mv b
      replace R3 := R3.mv b
      replace hB := hB.trans (b.mono hB.size)
      clear b R4 C4
      have F1 := fun k (h : k < xs.length) => Reads.first R1 (Nat.le_of_lt h)
      have F3 := fun k (h : k < us.length) => Reads.first R3 (Nat.le_of_lt h)
      simp only [Nat.mul_one, ← List.map_take] at F1 F3
      have F1 := Lib.hid F1
      have F3 := Lib.hid F3
      clear R1 R3
      by_cases hneg : a < 0
      · have d3 : decide ((0 : Int) ≤ a) = false := by simp; omega
        go_wp2_with (go_at_call 23; refine (alive_any _).mono ?_; rintro e w7 ⟨rfl, hb7⟩)
        go_ret
        exact ⟨rfl, hB.trans (hb7.mono hB.size)⟩
      obtain ⟨k, rfl⟩ : ∃ k : Nat, a = (k : Int) := ⟨a.toNat, by omega⟩
      clear hneg
      have i0 : (0 : Int) ≤ (k : Int) := by omega
      by_cases hx : k < xs.length
      · have d4 : decide ((k : Int) < (xs.length : Int)) = true := by simp; omega
        have i1 : (k : Int) ≤ (c1 : Int) := by omega
        have hk := HC1.out k hx
        have HK := Lib.hid hk
        have HZ := Lib.hid (uv_bad (most := 18446744073709551615) A1 k c1 hk (by decide))
        clear hk
        have FX := Lib.hid (F1.out k hx)
        clear F1 HC1
        go_wp2_with fail
        refine (unvary_any A1 k c1 (xs.take k) 0 18446744073709551615 _ FX.out (by omega) (by omega) (by omega)).mono ?_
        rintro e w7 ⟨rfl, b⟩
        rw [HZ.out.1, HZ.out.2, HK.out]
        have hB2 := hB.trans (b.mono hB.size)
        have hB3 := hB2.alloc hB2.size (.cells #[.slice none 0 0, .int .i64 0] 33)
        by_cases hu : k < us.length
        · have d5 : decide ((k : Int) < (us.length : Int)) = true := by simp; omega
          have j1 : (k : Int) ≤ (c3 : Int) := by omega
          have hk := HC2.out k (by omega) hu
          have HK3 := Lib.hid hk
          have HZ3 := Lib.hid (ut_bad (mo := 200000) A3 k c3 hk (by decide))
          clear hk
          have FU := Lib.hid (((F3.out k hu).mv b).mv (Ext.al w7 (.cells #[.slice none 0 0, .int .i64 0] 33)))
          clear F3 HC2
          go_wp2_with fail
          refine (untext_any A3 k c3 (us.take k) 0 200000 _ FU.out (by omega) (by omega) (by omega) (by omega)).mono ?_
          rintro e w8 ⟨rfl, b8⟩
          rw [HZ3.out.1, HZ3.out.2, HK3.out]
          have hB4 := hB3.trans (b8.mono hB3.size)
          have hB5 := hB4.alloc hB4.size (.cells #[.slice none 0 0, .int .i64 0] 33)
          go_wp2_with (go_at_call 23; refine (alive_any _).mono ?_; rintro e w9 ⟨rfl, hb9⟩)
          go_ret
          exact ⟨rfl, hB5.trans (hb9.mono hB5.size)⟩
        · have d5 : decide ((k : Int) < (us.length : Int)) = false := by simp; omega
          go_wp2_with (go_at_call 23; refine (alive_any _).mono ?_; rintro e w9 ⟨rfl, hb9⟩)
          go_ret
          exact ⟨rfl, hB3.trans (hb9.mono hB3.size)⟩
      · have d4 : decide ((k : Int) < (xs.length : Int)) = false := by simp; omega
        by_cases hu : k < us.length
        · have d5 : decide ((k : Int) < (us.length : Int)) = true := by simp; omega
          have j1 : (k : Int) ≤ (c3 : Int) := by omega
          have hk := HC2.out k (by omega) hu
          have HK3 := Lib.hid hk
          have HZ3 := Lib.hid (ut_bad (mo := 200000) A3 k c3 hk (by decide))
          clear hk
          have FU := Lib.hid (F3.out k hu)
          clear F3 HC2
          go_wp2_with fail
          refine (untext_any A3 k c3 (us.take k) 0 200000 _ FU.out (by omega) (by omega) (by omega) (by omega)).mono ?_
          rintro e w8 ⟨rfl, b8⟩
          rw [HZ3.out.1, HZ3.out.2, HK3.out]
          have hB4 := hB.trans (b8.mono hB.size)
          have hB5 := hB4.alloc hB4.size (.cells #[.slice none 0 0, .int .i64 0] 33)
          go_wp2_with (go_at_call 23; refine (alive_any _).mono ?_; rintro e w9 ⟨rfl, hb9⟩)
          go_ret
          exact ⟨rfl, hB5.trans (hb9.mono hB5.size)⟩
        · have d5 : decide ((k : Int) < (us.length : Int)) = false := by simp; omega
          go_wp2_with (go_at_call 23; refine (alive_any _).mono ?_; rintro e w9 ⟨rfl, hb9⟩)
          go_ret
          exact ⟨rfl, hB.trans (hb9.mono hB.size)⟩
end Go.Proofs.Ytnonikeolpokkaa
