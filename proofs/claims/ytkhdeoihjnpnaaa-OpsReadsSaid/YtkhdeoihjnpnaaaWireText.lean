/- Contracts and laws of another chapter that this one leans on. Each states its conditions. -/
import Derived.Test.YtkhdeoihjnpnaaaChecked
import Derived.Test.YtkhdeoihjnpnaaaMem
import Derived.Test.YtkhdeoihjnpnaaaSlice
import Derived.Test.YtkhdeoihjnpnaaaArr
import Derived.Test.YtkhdeoihjnpnaaaRegion
import Derived.Test.YtkhdeoihjnpnaaaRet
import Derived.Test.YtkhdeoihjnpnaaaRbb
import Derived.Lib.Zigzag
import Derived.Test.YtkhdeoihjnpnaaaWireVary
namespace Go.Proofs.Ytkhdeoihjnpnaaa
open Go.RowKit Wire
set_option linter.unusedVariables false

theorem sig_pos {a : Int} (ha : -9223372036854775808 ≤ a ∧ a ≤ 9223372036854775807) (h : 0 ≤ a) : bits .xor .u64 (a * 2) (a / 9223372036854775808) = ((dbl a : Nat) : Int) := by
  have e1 : a / 9223372036854775808 = ((0 : Nat) : Int) := by omega
  have e2 : a * 2 = ((a.toNat * 2 : Nat) : Int) := by omega
  rw [e1, e2, u64_xor_nat _ _ (by omega) (by omega), Nat.xor_zero]
  simp only [dbl, if_pos h]; omega
theorem sig_neg {a : Int} (ha : -9223372036854775808 ≤ a ∧ a ≤ 9223372036854775807) (h : ¬ 0 ≤ a) :
    bits .xor .u64 (IntKind.u64.wrap (IntKind.u64.wrap a * 2)) (IntKind.u64.wrap (a / 9223372036854775808)) = ((dbl a : Nat) : Int) := by
  have e1 : IntKind.u64.wrap (IntKind.u64.wrap a * 2) = (((2 * a + 18446744073709551616).toNat : Nat) : Int) := by
    rw [IntKind.wrap_u64, IntKind.wrap_u64]; omega
  have e2 : IntKind.u64.wrap (a / 9223372036854775808) = ((2 ^ 64 - 1 : Nat) : Int) := by
    rw [IntKind.wrap_u64]; omega
  rw [e1, e2, u64_xor_nat _ _ (by omega) (by decide), Nat.xor_comm, Lib.xor_ones64 _ (by omega)]
  simp only [dbl, if_neg h]; omega
theorem signed_any (a : Int) (ha : -9223372036854775808 ≤ a ∧ a ≤ 9223372036854775807) (w : World) :
    Calls Try.prog 32 #[.int .i64 a] w fun e w' => ∃ A c, e = .returned (.slice A (vry (dbl a)).length c) ∧ w'.ownsRow w.heap.size 5 1 (.slice A (vry (dbl a)).length c) (vry (dbl a)).length ((vry (dbl a)).map b8) ∧ Below w.heap.size w w' := by
  have HV := Lib.hid (vary_any (dbl a) (dbl_lt ha) w)
  by_cases h : 0 ≤ a
  · have HD := Lib.hid (sig_pos ha h)
    go_enter Try.func32, Try.ntmps32
    go_wp2_with fail
    rw [HD.out]
    refine HV.out.mono ?_
    rintro e w2 ⟨A2, c2, rfl, hown2, hb2⟩
    go_wp2_with fail
    go_ret
    exact ⟨A2, c2, rfl, hown2, hb2⟩
  · have HD := Lib.hid (sig_neg ha h)
    go_enter Try.func32, Try.ntmps32
    go_wp2_with fail
    rw [HD.out]
    refine HV.out.mono ?_
    rintro e w2 ⟨A2, c2, rfl, hown2, hb2⟩
    go_wp2_with fail
    go_ret
    exact ⟨A2, c2, rfl, hown2, hb2⟩
end Go.Proofs.Ytkhdeoihjnpnaaa
