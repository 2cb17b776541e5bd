/- The walks of the examples of the chapter, of ScriptChooses and of ScriptTells. -/
import Derived.Test.YtgobebiagpejkaaScr5
namespace Go.Proofs.Ytgobebiagpejkaa
open Go.RowKit Wire
set_option linter.unusedVariables false

set_option maxRecDepth 100000 in
set_option maxHeartbeats 3200000 in
theorem alive11_any (w : World) :
    Calls Try.prog 11 #[] w fun e w' => e = .returned (.bool true) ∧ Below w.heap.size w w' := by
  have hB1 : Below w.heap.size w (w.alloc (.cells #[.int .i64 0, .int .i64 300] 3)) := Ext.al w _
  have RI : RdI (w.alloc (.cells #[.int .i64 0, .int .i64 300] 3)) (w.alloc (.cells #[.int .i64 0, .int .i64 300] 3)).heap.size (some ⟨w.heap.size, 0, none⟩) 2 [0, 300] := reads_ints w [0, 300] 3
  go_enter Try.func11, Try.ntmps11
  go_wp2_with fail
  refine (encode11_any _ 2 2 [0, 300] 9 128 0 1 _ RI (by omega)).mono ?_
  rintro e w2 ⟨A1, c1, rfl, o1, b⟩
  rw [show enL 9 128 0 1 [0, 300] = [9, 128, 1, 0, 1, 2, 0, 172, 2] from by decide] at *
  rw [show scE 9 128 0 1 [0, 300] = 0 from by decide]
  have R1 : Rb w2 A1 9 [9, 128, 1, 0, 1, 2, 0, 172, 2] := own_rd o1
  have K1 := cvS c1 R1
  have hB2 := hB1.trans (b.mono hB1.size)
  have hB3 := hB2.alloc hB2.size (.cells #[.int .u8 9, .int .u8 128, .int .u8 1, .int .u8 0, .int .u8 1, .int .u8 2, .int .u8 0, .int .u8 172, .int .u8 2] 5)
  have R2 : Rb (w2.alloc (.cells #[.int .u8 9, .int .u8 128, .int .u8 1, .int .u8 0, .int .u8 1, .int .u8 2, .int .u8 0, .int .u8 172, .int .u8 2] 5)) (some ⟨w2.heap.size, 0, none⟩) 9 [9, 128, 1, 0, 1, 2, 0, 172, 2] := reads_bytes w2 [9, 128, 1, 0, 1, 2, 0, 172, 2] 5
  have K2 := cvS 9 R2
  clear o1 b R1 R2 RI
  go_wp2_with (go_at_call 10; refine (pick_any _ _ _).mono ?_; rintro e wq ⟨rfl, rfl⟩; rw [show pkN 7 3 = 1 from by decide, show pkE 7 3 = 0 from by decide])
  go_ret
  exact ⟨rfl, hB3⟩

theorem pk_bad {p r : Int} (h : ¬ (0 ≤ p ∧ p ≤ 65535 ∧ 1 ≤ r ∧ r ≤ 16)) : (pkE p r != 0) = true := by
  rw [bne_iff_ne]; unfold pkE
  split
  · rename_i h1
    simp only [Bool.and_eq_true, inB_true] at h1
    split
    · omega
    · omega
  · omega
theorem pk_ok {p r : Int} (h : 0 ≤ p ∧ p ≤ 65535) (h2 : 1 ≤ r ∧ r ≤ 16) : pkE p r = 0 ∧ pkN p r = p % r := by
  have e : pkE p r = 0 := by
    unfold pkE
    rw [if_pos (by simp only [Bool.and_eq_true, inB_true]; omega), if_neg (by omega)]
  exact ⟨e, by unfold pkN; rw [if_pos e]⟩
theorem sub_mod (p r : Int) : (p - p % r) % r = 0 := by
  have h := Int.mul_ediv_add_emod p r
  rw [show p - p % r = r * (p / r) from by omega]
  exact Int.mul_emod_right r _

set_option maxRecDepth 100000 in
set_option maxHeartbeats 8000000 in
theorem scriptChooses_walk (w : World) (p : Int) (hp : -9223372036854775808 ≤ p ∧ p ≤ 9223372036854775807) (r : Int) (hr : -9223372036854775808 ≤ r ∧ r ≤ 9223372036854775807) (i : Int) (hi : -9223372036854775808 ≤ i ∧ i ≤ 9223372036854775807) :
    Calls Try.prog 3 #[.int .i64 p, .int .i64 r, .int .i64 i] w fun e w' => e = .returned (.bool true) ∧ Below w.heap.size w w' := by
  by_cases g0 : p < 0
  · have d0 : decide (p < 0) = true := by simpa using g0
    have HP := pk_bad (p := p) (r := r) (by omega)
    generalize hE : pkE p r = e0 at *
    generalize hN : pkN p r = n0 at *
    have HEE := Lib.hid (And.intro hE hN)
    clear hE hN
    go_enter Try.func3, Try.ntmps3
    go_wp2_with (first | (go_at_call 10; refine (pick_any _ _ _).mono ?_; rintro e wq ⟨rfl, rfl⟩; rw [HEE.out.1, HEE.out.2]) | (go_at_call 11; refine (alive11_any _).mono ?_; rintro e w7 ⟨rfl, hb7⟩))
    go_ret
    exact ⟨rfl, hb7⟩
  have d0 : decide (p < 0) = false := by simpa using g0
  by_cases g1 : (65535 : Int) < p
  · have d1 : decide ((65535 : Int) < p) = true := by simpa using g1
    have HP := pk_bad (p := p) (r := r) (by omega)
    generalize hE : pkE p r = e0 at *
    generalize hN : pkN p r = n0 at *
    have HEE := Lib.hid (And.intro hE hN)
    clear hE hN
    go_enter Try.func3, Try.ntmps3
    go_wp2_with (first | (go_at_call 10; refine (pick_any _ _ _).mono ?_; rintro e wq ⟨rfl, rfl⟩; rw [HEE.out.1, HEE.out.2]) | (go_at_call 11; refine (alive11_any _).mono ?_; rintro e w7 ⟨rfl, hb7⟩))
    go_ret
    exact ⟨rfl, hb7⟩
  have d1 : decide ((65535 : Int) < p) = false := by simpa using g1
  by_cases g2 : r < 1
  · have d2 : decide (r < 1) = true := by simpa using g2
    have HP := pk_bad (p := p) (r := r) (by omega)
    generalize hE : pkE p r = e0 at *
    generalize hN : pkN p r = n0 at *
    have HEE := Lib.hid (And.intro hE hN)
    clear hE hN
    go_enter Try.func3, Try.ntmps3
    go_wp2_with (first | (go_at_call 10; refine (pick_any _ _ _).mono ?_; rintro e wq ⟨rfl, rfl⟩; rw [HEE.out.1, HEE.out.2]) | (go_at_call 11; refine (alive11_any _).mono ?_; rintro e w7 ⟨rfl, hb7⟩))
    go_ret
    exact ⟨rfl, hb7⟩
  have d2 : decide (r < 1) = false := by simpa using g2
  by_cases g3 : (16 : Int) < r
  · have d3 : decide ((16 : Int) < r) = true := by simpa using g3
    have HP := pk_bad (p := p) (r := r) (by omega)
    generalize hE : pkE p r = e0 at *
    generalize hN : pkN p r = n0 at *
    have HEE := Lib.hid (And.intro hE hN)
    clear hE hN
    go_enter Try.func3, Try.ntmps3
    go_wp2_with (first | (go_at_call 10; refine (pick_any _ _ _).mono ?_; rintro e wq ⟨rfl, rfl⟩; rw [HEE.out.1, HEE.out.2]) | (go_at_call 11; refine (alive11_any _).mono ?_; rintro e w7 ⟨rfl, hb7⟩))
    go_ret
    exact ⟨rfl, hb7⟩
  have d3 : decide ((16 : Int) < r) = false := by simpa using g3
  obtain ⟨h1, h2⟩ := pk_ok (p := p) (r := r) (by omega) (by omega)
  have H1 := Lib.hid (And.intro h1 h2)
  have HS := Lib.hid (sub_mod p r)
  have m0 := Int.emod_nonneg p (show r ≠ 0 by omega)
  have m1 := Int.emod_lt_of_pos p (show 0 < r by omega)
  have m2 : p % r ≤ p := by
    have h := Int.mul_ediv_add_emod p r
    have h3 : 0 ≤ p / r := Int.ediv_nonneg (by omega) (by omega)
    have h4 := Int.mul_nonneg (show 0 ≤ r by omega) h3
    omega
  have H3 := Lib.hid (fun h : p + r ≤ 65535 => (pk_ok (p := p + r) (r := r) (by omega) (by omega)))
  have H4 := Lib.hid (show (p + r) % r = p % r from Int.add_emod_right p r)
  have H5 := Lib.hid (fun (h : 0 ≤ i) (h2 : i < r) => (pk_ok (p := i) (r := r) (by omega) (by omega)))
  have H6 := Lib.hid (fun (h : 0 ≤ i) (h2 : i < r) => Int.emod_eq_of_lt h h2)
  clear h1 h2
  generalize p % r = m at *
  have dm0 : decide (m < 0) = false := by simp; omega
  have dm1 : decide (r ≤ m) = false := by simp; omega
  have hs := HS.out
  have b0 : 0 ≤ p - m := by omega
  by_cases g4 : p + r ≤ 65535
  · have d4 : decide (p + r ≤ 65535) = true := by simpa using g4
    have HJ := Lib.hid (And.intro (H3.out g4).1 ((H3.out g4).2.trans H4.out))
    by_cases g5 : 0 ≤ i
    · have d5 : decide (0 ≤ i) = true := by simpa using g5
      by_cases g6 : i < r
      · have d6 : decide (i < r) = true := by simpa using g6
        have HI := Lib.hid (And.intro (H5.out g5 g6).1 ((H5.out g5 g6).2.trans (H6.out g5 g6)))
        go_enter Try.func3, Try.ntmps3
        go_wp2_with fail
        refine (pick_any p r _).mono ?_
        rintro e wq ⟨rfl, rfl⟩
        rw [H1.out.1, H1.out.2]
        go_wp2_with fail
        refine (pick_any (p + r) r _).mono ?_
        rintro e wq ⟨rfl, rfl⟩
        rw [HJ.out.1, HJ.out.2]

        go_wp2_with fail
        refine (pick_any i r _).mono ?_
        rintro e wq ⟨rfl, rfl⟩
        rw [HI.out.1, HI.out.2]

        go_wp2_with (go_at_call 11; refine (alive11_any _).mono ?_; rintro e w7 ⟨rfl, hb7⟩)
        go_ret
        exact ⟨rfl, hb7⟩
      · have d6 : decide (i < r) = false := by simpa using g6
        go_enter Try.func3, Try.ntmps3
        go_wp2_with fail
        refine (pick_any p r _).mono ?_
        rintro e wq ⟨rfl, rfl⟩
        rw [H1.out.1, H1.out.2]
        go_wp2_with fail
        refine (pick_any (p + r) r _).mono ?_
        rintro e wq ⟨rfl, rfl⟩
        rw [HJ.out.1, HJ.out.2]

        go_wp2_with (go_at_call 11; refine (alive11_any _).mono ?_; rintro e w7 ⟨rfl, hb7⟩)
        go_ret
        exact ⟨rfl, hb7⟩
    · have d5 : decide (0 ≤ i) = false := by simpa using g5
      go_enter Try.func3, Try.ntmps3
      go_wp2_with fail
      refine (pick_any p r _).mono ?_
      rintro e wq ⟨rfl, rfl⟩
      rw [H1.out.1, H1.out.2]
      go_wp2_with fail
      refine (pick_any (p + r) r _).mono ?_
      rintro e wq ⟨rfl, rfl⟩
      rw [HJ.out.1, HJ.out.2]

      go_wp2_with (go_at_call 11; refine (alive11_any _).mono ?_; rintro e w7 ⟨rfl, hb7⟩)
      go_ret
      exact ⟨rfl, hb7⟩

  · have d4 : decide (p + r ≤ 65535) = false := by simpa using g4
    by_cases g5 : 0 ≤ i
    · have d5 : decide (0 ≤ i) = true := by simpa using g5
      by_cases g6 : i < r
      · have d6 : decide (i < r) = true := by simpa using g6
        have HI := Lib.hid (And.intro (H5.out g5 g6).1 ((H5.out g5 g6).2.trans (H6.out g5 g6)))
        go_enter Try.func3, Try.ntmps3
        go_wp2_with fail
        refine (pick_any p r _).mono ?_
        rintro e wq ⟨rfl, rfl⟩
        rw [H1.out.1, H1.out.2]

        go_wp2_with fail
        refine (pick_any i r _).mono ?_
        rintro e wq ⟨rfl, rfl⟩
        rw [HI.out.1, HI.out.2]

        go_wp2_with (go_at_call 11; refine (alive11_any _).mono ?_; rintro e w7 ⟨rfl, hb7⟩)
        go_ret
        exact ⟨rfl, hb7⟩
      · have d6 : decide (i < r) = false := by simpa using g6
        go_enter Try.func3, Try.ntmps3
        go_wp2_with fail
        refine (pick_any p r _).mono ?_
        rintro e wq ⟨rfl, rfl⟩
        rw [H1.out.1, H1.out.2]

        go_wp2_with (go_at_call 11; refine (alive11_any _).mono ?_; rintro e w7 ⟨rfl, hb7⟩)
        go_ret
        exact ⟨rfl, hb7⟩
    · have d5 : decide (0 ≤ i) = false := by simpa using g5
      go_enter Try.func3, Try.ntmps3
      go_wp2_with fail
      refine (pick_any p r _).mono ?_
      rintro e wq ⟨rfl, rfl⟩
      rw [H1.out.1, H1.out.2]

      go_wp2_with (go_at_call 11; refine (alive11_any _).mono ?_; rintro e w7 ⟨rfl, hb7⟩)
      go_ret
      exact ⟨rfl, hb7⟩

end Go.Proofs.Ytgobebiagpejkaa
