/- Contracts and laws of another chapter that this one leans on. Each states its conditions. -/
import Derived.Test.YtkhdeoihjnpnaaaChecked
import Derived.Test.YtkhdeoihjnpnaaaMem
import Derived.Test.YtkhdeoihjnpnaaaSlice
import Derived.Test.YtkhdeoihjnpnaaaArr
import Derived.Test.YtkhdeoihjnpnaaaRegion
import Derived.Test.YtkhdeoihjnpnaaaRet
import Derived.Test.YtkhdeoihjnpnaaaRbb
import Derived.Test.YtkhdeoihjnpnaaaWireUntext
namespace Go.Proofs.Ytkhdeoihjnpnaaa
open Go.RowKit Wire
set_option linter.unusedVariables false

/-- What Left answers: how many, the error. -/
def lfN (n : Nat) (a : Int) : Int := if ckB n a then n - a else 0
set_option maxHeartbeats 800000 in
theorem left_any (A : Option Addr) (n c : Nat) (a : Int) (w : World) (ha : -9223372036854775808 ≤ a ∧ a ≤ 9223372036854775807) :
    Calls Try.prog 27 #[cur A n c a] w fun e w' => e = .returned (.tuple #[.int .i64 (lfN n a), .int .i64 (ckE n a)]) ∧ Below w.heap.size w w' := by
  have hB0 := (Below.refl w.heap.size w).alloc (Nat.le_refl _) (.cells #[.slice A n c, .int .i64 a] 39)
  have hk0 := Blk.new w 39 #[.slice A n c, .int .i64 a]
  cases hck : ckB n a
  · have HC := Lib.hid (show ckE n a = 8 from by simp [ckE, hck])
    have HN := Lib.hid (show lfN n a = 0 from by simp [lfN, hck])
    clear hck
    go_enter Try.func27, Try.ntmps27
    go_wp2_with fail
    refine (check_any A n c a _).mono ?_
    rintro e w1 ⟨rfl, hb1⟩
    rw [HC.out]
    go_wp2_with fail
    go_ret2
    exact ⟨by rw [HC.out, HN.out]; rfl, hB0.trans (hb1.mono hB0.size)⟩
  · have HC := Lib.hid (show ckE n a = 0 from by simp [ckE, hck])
    have HN := Lib.hid (show lfN n a = n - a from by simp [lfN, hck])
    obtain ⟨h1, h2, h3⟩ := ck_ok hck
    clear hck
    go_enter Try.func27, Try.ntmps27
    go_wp2_with fail
    refine (check_any A n c a _).mono ?_
    rintro e w1 ⟨rfl, hb1⟩
    rw [HC.out]
    have hk1 := hk0.below hb1 hk0.lt
    have ck0 : w1.cell? ⟨w.heap.size, 0, none⟩ = some (.slice A n c) := (hk1.cell 0).trans rfl
    have ck1 : w1.cell? ⟨w.heap.size, 1, none⟩ = some (.int .i64 a) := (hk1.cell 1).trans rfl
    go_wp2_with fail
    go_ret2
    exact ⟨by rw [HC.out, HN.out]; rfl, hB0.trans (hb1.mono hB0.size)⟩
/-- The signed number for which a number stands. -/
def hlf (n : Nat) : Int := if n % 2 = 0 then (n / 2 : Nat) else -((n / 2 : Nat) : Int) - 1
theorem hlf_dbl {i : Int} (h : -9223372036854775808 ≤ i ∧ i ≤ 9223372036854775807) : hlf (dbl i) = i := by
  unfold hlf dbl; split <;> split <;> omega
theorem dbl_hlf (n : Nat) : dbl (hlf n) = n := by
  unfold hlf dbl; split <;> split <;> omega
theorem half_any (n : Nat) (hn : n < 18446744073709551616) (w : World) :
    Calls Try.prog 43 #[.int .u64 (n : Int)] w fun e w' => e = .returned (.int .i64 (hlf n)) ∧ w = w' := by
  by_cases h : n % 2 = 0
  · have HH := Lib.hid (show hlf n = (n : Int) / 2 from by simp only [hlf, if_pos h]; omega)
    have d1 : ((n : Int) % 2 == 0) = true := by rw [beq_iff_eq]; omega
    go_enter Try.func43, Try.ntmps43
    go_wp2_with fail
    go_ret
    exact ⟨by rw [HH.out]; rfl, rfl⟩
  · have HH := Lib.hid (show hlf n = -((n : Int) / 2) - 1 from by simp only [hlf, if_neg h]; omega)
    have d1 : ((n : Int) % 2 == 0) = false := by rw [beq_eq_false_iff_ne]; omega
    go_enter Try.func43, Try.ntmps43
    go_wp2_with fail
    go_ret
    exact ⟨by rw [HH.out]; rfl, rfl⟩
end Go.Proofs.Ytkhdeoihjnpnaaa
