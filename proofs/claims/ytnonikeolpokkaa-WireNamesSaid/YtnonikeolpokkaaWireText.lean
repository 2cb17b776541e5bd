/- The contracts of the reference's Fixed, Double, Said, Text and of wire.Signed, Text. -/
import Derived.Test.YtnonikeolpokkaaWireFix
import Derived.Lib.Zigzag
namespace Go.Proofs.Ytnonikeolpokkaa
open Go.RowKit Wire
set_option linter.unusedVariables false

theorem fx_unl {n k : Nat} (hk : k = 1 ∨ k = 2 ∨ k = 4 ∨ k = 8) : fxB n (k : Int) = (unl (ltl k n) == n) := by
  have hw : wdB (k : Int) = true := by rcases hk with rfl | rfl | rfl | rfl <;> rfl
  rw [unl_ltl, fxB, hw, Bool.true_and, Int.toNat_natCast]
  have h0 : 0 < 256 ^ k := Nat.pow_pos (by omega)
  by_cases h : n < 256 ^ k
  · rw [Nat.mod_eq_of_lt h]; simp [h]
  · have := Nat.mod_lt n h0
    have h2 : n % 256 ^ k ≠ n := by omega
    simp [h, h2]

set_option maxRecDepth 100000 in
set_option maxHeartbeats 1600000 in
theorem refixed_any (n : Nat) (a : Int) (ha : -9223372036854775808 ≤ a ∧ a ≤ 9223372036854775807) (hn : n < 18446744073709551616) (w : World) :
    Calls Try.prog 12 #[.int .u64 (n : Int), .int .i64 a] w fun e w' => ∃ A c, e = .returned (.tuple #[.slice A (fxL n a).length c, .int .i64 (fxE n a)]) ∧
      w'.ownsRow w.heap.size 5 1 (.slice A (fxL n a).length c) (fxL n a).length ((fxL n a).map b8) ∧ Below w.heap.size w w' := by
  cases hw : wdB a
  · obtain ⟨hL, hE⟩ := fx_no (n := n) (a := a) (by simp [fxB, hw])
    rw [hL, hE]
    have HW := Lib.hid hw
    clear hw hL hE
    go_enter Try.func12, Try.ntmps12
    go_wp2_with (go_at_call 22; refine (Wide_any _ _).mono ?_; rintro e w2 ⟨rfl, rfl⟩; rw [HW.out])
    go_ret2
    exact ⟨none, 0, rfl, World.ownsRow_nil _ _ _ _, Below.refl _ _⟩
  · have HW := Lib.hid hw
    obtain ⟨k, hk, rfl⟩ : ∃ k : Nat, (k = 1 ∨ k = 2 ∨ k = 4 ∨ k = 8) ∧ a = (k : Int) := by
      rcases wdB_of hw with rfl | rfl | rfl | rfl
      · exact ⟨1, by simp, rfl⟩
      · exact ⟨2, by simp, rfl⟩
      · exact ⟨4, by simp, rfl⟩
      · exact ⟨8, by simp, rfl⟩
    clear hw ha
    have hfx := fx_unl (n := n) hk
    have hk8 : 1 ≤ k ∧ k ≤ 8 := by omega
    cases hbig : (unl (ltl k n) == n)
    · obtain ⟨hL, hE⟩ := fx_no (hfx.trans hbig)
      rw [hL, hE]
      have hd : ((unl (ltl k n) : Int) != (n : Int)) = true := by
        rw [bne_iff_ne]; intro h; have : unl (ltl k n) = n := by omega
        simp [this] at hbig
      have HN := Lib.hid hn
      have HK := Lib.hid hk
      clear hL hE hfx hbig hn hk
      go_enter Try.func12, Try.ntmps12
      go_wp2_with (first
        | (go_at_call 22; refine (Wide_any _ _).mono ?_; rintro e w2 ⟨rfl, rfl⟩; rw [HW.out])
        | (go_at_call 39; refine (little_any n k HN.out (by omega) _).mono ?_; rintro e w3 ⟨A3, c3, rfl, hown3, hb3⟩)
        | (go_at_call 38; refine (unlittle_any A3 k c3 (ltl k n) _ (own_reads hown3) (by omega)).mono ?_; rintro e w4 ⟨rfl, rfl⟩))
      go_ret2
      exact ⟨none, 0, rfl, World.ownsRow_nil _ _ _ _, hb3⟩
    · obtain ⟨hL, hE⟩ := fx_yes (hfx.trans hbig)
      rw [hL, hE, Int.toNat_natCast, ltl_len]
      have hd : ((unl (ltl k n) : Int) != (n : Int)) = false := by
        have : unl (ltl k n) = n := by simpa using hbig
        rw [this]; simp
      have HN := Lib.hid hn
      have HK := Lib.hid hk
      clear hL hE hfx hbig hn hk
      go_enter Try.func12, Try.ntmps12
      go_wp2_with (first
        | (go_at_call 22; refine (Wide_any _ _).mono ?_; rintro e w2 ⟨rfl, rfl⟩; rw [HW.out])
        | (go_at_call 38; refine (unlittle_any A3 k c3 (ltl k n) _ (own_reads hown3) (by omega)).mono ?_; rintro e w4 ⟨rfl, rfl⟩)
        | (go_at_call 39; refine (little_any n k HN.out (by omega) w).mono ?_; rintro e w3 ⟨A3, c3, rfl, hown3, hb3⟩))
      refine (little_any n k HN.out (by omega) _).mono ?_
      rintro e w5 ⟨A5, c5, rfl, hown5, hb5⟩
      go_wp2_with fail
      go_ret2
      exact ⟨A5, c5, rfl, own_low hown5 hb3.size, hb3.trans (hb5.mono hb3.size)⟩

theorem double_any (a : Int) (ha : -9223372036854775808 ≤ a ∧ a ≤ 9223372036854775807) (w : World) :
    Calls Try.prog 21 #[.int .i64 a] w fun e w' => e = .returned (.int .u64 (dbl a : Nat)) ∧ w = w' := by
  by_cases h : 0 ≤ a
  · have HD := Lib.hid (show ((dbl a : Nat) : Int) = a * 2 from by simp only [dbl, if_pos h]; omega)
    rw [HD.out]
    go_enter Try.func21, Try.ntmps21
    go_wp2_with fail
    go_ret
    exact ⟨rfl, rfl⟩
  · have HD := Lib.hid (show ((dbl a : Nat) : Int) = -(a + 1) * 2 + 1 from by simp only [dbl, if_neg h]; omega)
    rw [HD.out]
    go_enter Try.func21, Try.ntmps21
    go_wp2_with fail
    go_ret
    exact ⟨rfl, rfl⟩

theorem sig_pos {a : Int} (ha : -9223372036854775808 ≤ a ∧ a ≤ 9223372036854775807) (h : 0 ≤ a) : bits .xor .u64 (a * 2) (a / 9223372036854775808) = ((dbl a : Nat) : Int) := by
  have e1 : a / 9223372036854775808 = ((0 : Nat) : Int) := by omega
  have e2 : a * 2 = ((a.toNat * 2 : Nat) : Int) := by omega
  rw [e1, e2, u64_xor_nat _ _ (by omega) (by omega), Nat.xor_zero]
  simp only [dbl, if_pos h]; omega
theorem sig_neg {a : Int} (ha : -9223372036854775808 ≤ a ∧ a ≤ 9223372036854775807) (h : ¬ 0 ≤ a) :
    bits .xor .u64 (IntKind.u64.wrap (IntKind.u64.wrap a * 2)) (IntKind.u64.wrap (a / 9223372036854775808)) = ((dbl a : Nat) : Int) := by
  have e1 : IntKind.u64.wrap (IntKind.u64.wrap a * 2) = (((2 * a + 18446744073709551616).toNat : Nat) : Int) := by
    rw [IntKind.wrap_u64, IntKind.wrap_u64]; omega
  have e2 : IntKind.u64.wrap (a / 9223372036854775808) = ((2 ^ 64 - 1 : Nat) : Int) := by
    rw [IntKind.wrap_u64]; omega
  rw [e1, e2, u64_xor_nat _ _ (by omega) (by decide), Nat.xor_comm, Lib.xor_ones64 _ (by omega)]
  simp only [dbl, if_neg h]; omega

theorem signed_any (a : Int) (ha : -9223372036854775808 ≤ a ∧ a ≤ 9223372036854775807) (w : World) :
    Calls Try.prog 20 #[.int .i64 a] w fun e w' => ∃ A c, e = .returned (.slice A (vry (dbl a)).length c) ∧ w'.ownsRow w.heap.size 5 1 (.slice A (vry (dbl a)).length c) (vry (dbl a)).length ((vry (dbl a)).map b8) ∧ Below w.heap.size w w' := by
  have HV := Lib.hid (vary_any (dbl a) (dbl_lt ha) w)
  by_cases h : 0 ≤ a
  · have HD := Lib.hid (sig_pos ha h)
    go_enter Try.func20, Try.ntmps20
    go_wp2_with fail
    rw [HD.out]
    refine HV.out.mono ?_
    rintro e w2 ⟨A2, c2, rfl, hown2, hb2⟩
    go_wp2_with fail
    go_ret
    exact ⟨A2, c2, rfl, hown2, hb2⟩
  · have HD := Lib.hid (sig_neg ha h)
    go_enter Try.func20, Try.ntmps20
    go_wp2_with fail
    rw [HD.out]
    refine HV.out.mono ?_
    rintro e w2 ⟨A2, c2, rfl, hown2, hb2⟩
    go_wp2_with fail
    go_ret
    exact ⟨A2, c2, rfl, hown2, hb2⟩

theorem said_any (s : ByteArray) (hs : s.size ≤ 200000) (w : World) :
    Calls Try.prog 40 #[.string s] w fun e w' => ∃ A c, e = .returned (.slice A (txL s).length c) ∧ w'.ownsRow w.heap.size 5 1 (.slice A (txL s).length c) (txL s).length ((txL s).map b8) ∧ Below w.heap.size w w' := by
  have HT := Lib.hid (show txL s = vry s.size ++ s.data.toList from if_pos hs)
  have HL := Lib.hid (show (txL s).length = (vry s.size).length + s.size from by rw [HT.out, List.length_append]; simp)
  have hv := (vry_len s.size).2
  rw [HL.out]
  generalize (txL s).length = N at *
  go_enter Try.func40, Try.ntmps40
  go_wp2_with fail
  refine (minimal_any s.size (by omega) w).mono ?_
  rintro e w2 ⟨A2, c2, rfl, hown2, hb2⟩
  go_wp2_with (at_builtin; refine wpList_app_str rfl (.tmp 6) (.tmp 7) _ _ rfl sl8 Try.underlying9 w.heap.size _ _ (vry s.size) rfl hown2 s rfl (by omega) hb2.size ?_; intro A3 c3 w3 hown3 hg3 hb3 hc3)
  go_ret
  exact ⟨A3, c3, rfl, by rw [HT.out]; exact hown3, hb2.trans hb3⟩

theorem text_any (s : ByteArray) (hs : s.size ≤ 9223372036854775807) (w : World) :
    Calls Try.prog 13 #[.string s] w fun e w' => ∃ A c, e = .returned (.tuple #[.slice A (txL s).length c, .int .i64 (txE s)]) ∧ w'.ownsRow w.heap.size 5 1 (.slice A (txL s).length c) (txL s).length ((txL s).map b8) ∧ Below w.heap.size w w' := by
  by_cases h2 : s.size ≤ 200000
  · have HT := Lib.hid (show txL s = vry s.size ++ s.data.toList from if_pos h2)
    have HL := Lib.hid (show (txL s).length = (vry s.size).length + s.size from by rw [HT.out, List.length_append]; simp)
    have HE := Lib.hid (show txE s = 0 from if_pos h2)
    have hv := (vry_len s.size).2
    rw [HL.out, HE.out]
    generalize (txL s).length = N at *
    go_enter Try.func13, Try.ntmps13
    go_wp2_with fail
    refine (vary_any s.size (by omega) w).mono ?_
    rintro e w2 ⟨A2, c2, rfl, hown2, hb2⟩
    go_wp2_with (at_builtin; refine wpList_app_str rfl (.tmp 10) (.tmp 11) _ _ rfl sl8 Try.underlying9 w.heap.size _ _ (vry s.size) rfl hown2 s rfl (by omega) hb2.size ?_; intro A3 c3 w3 hown3 hg3 hb3 hc3)
    go_ret2
    exact ⟨A3, c3, rfl, by rw [HT.out]; exact hown3, hb2.trans hb3⟩
  · rw [show txL s = [] from if_neg h2, show txE s = 4 from if_neg h2]
    go_enter Try.func13, Try.ntmps13
    go_wp2_with fail
    go_ret2
    exact ⟨none, 0, rfl, World.ownsRow_nil _ _ _ _, Below.refl _ _⟩

theorem retext_any (s : ByteArray) (hs : s.size ≤ 9223372036854775807) (w : World) :
    Calls Try.prog 14 #[.string s] w fun e w' => ∃ A c, e = .returned (.tuple #[.slice A (txL s).length c, .int .i64 (txE s)]) ∧ w'.ownsRow w.heap.size 5 1 (.slice A (txL s).length c) (txL s).length ((txL s).map b8) ∧ Below w.heap.size w w' := by
  by_cases h2 : s.size ≤ 200000
  · have HE := Lib.hid (show txE s = 0 from if_pos h2)
    have HS := Lib.hid (said_any s h2 w)
    rw [HE.out]
    go_enter Try.func14, Try.ntmps14
    go_wp2_with fail
    refine HS.out.mono ?_
    rintro e w2 ⟨A2, c2, rfl, hown2, hb2⟩
    go_wp2_with fail
    go_ret2
    exact ⟨A2, c2, rfl, hown2, hb2⟩
  · rw [show txL s = [] from if_neg h2, show txE s = 4 from if_neg h2]
    go_enter Try.func14, Try.ntmps14
    go_wp2_with fail
    go_ret2
    exact ⟨none, 0, rfl, World.ownsRow_nil _ _ _ _, Below.refl _ _⟩
end Go.Proofs.Ytnonikeolpokkaa
