/- Contracts and laws of another chapter that this one leans on. Each states its conditions. -/
import Derived.Test.YtponceakelimeaaChecked
import Derived.Test.YtponceakelimeaaMem
import Derived.Test.YtponceakelimeaaSlice
import Derived.Test.YtponceakelimeaaArr
import Derived.Test.YtponceakelimeaaRegion
import Derived.Test.YtponceakelimeaaRet
import Derived.Test.YtponceakelimeaaRbb
import Derived.Test.YtponceakelimeaaWireVary
namespace Go.Proofs.Ytponceakelimeaa
open Go.RowKit Wire
set_option linter.unusedVariables false

theorem wide_any (a : Int) (w : World) : Calls Try.prog 53 #[.int .i64 a] w fun e w' => e = .returned (.int .i64 (if wdB a then 0 else 2)) ∧ w = w' := by
  cases h : wdB a
  · obtain ⟨h1, h2, h4, h8⟩ := wdB_not h
    clear h
    have d1 : decide (a = 1) = false := by simpa using h1
    have d2 : decide (a = 2) = false := by simpa using h2
    have d4 : decide (a = 4) = false := by simpa using h4
    have d8 : decide (a = 8) = false := by simpa using h8
    go_enter Try.func53, Try.ntmps53
    go_wp2_with fail
    go_ret
    exact ⟨rfl, rfl⟩
  · rcases wdB_of h with rfl | rfl | rfl | rfl
    all_goals
      clear h
      go_enter Try.func53, Try.ntmps53
      go_wp2_with fail
      go_ret
      exact ⟨rfl, rfl⟩
set_option maxRecDepth 100000 in
set_option maxHeartbeats 800000 in
theorem unlittle_any (A : Option Addr) (n c : Nat) (l : List UInt8) (w : World) (hr : Rb w A n l) (hn : n ≤ 8) :
    Calls Try.prog 39 #[.slice A n c] w fun e w' => e = .returned (.int .u64 (unl l : Nat)) ∧ w = w' := by
  have HL := Lib.hid hr.len8
  have HR := Lib.hid hr
  clear hr
  go_enter Try.func39, Try.ntmps39
  go_wp2_with fail
  go_loop [3, 4] (fun v i => ∃ (j : Nat), j ≤ n ∧ i = .int .i64 ((j : Int) - 1) ∧ v = .int .u64 (unl (l.drop j) : Nat)) (fun _ i => (intOf i + 1).toNat)
  case atStart => exact ⟨n, by omega, rfl, by rw [← HL.out]; simp; rfl⟩
  case round =>
    obtain ⟨j, hj, rfl, rfl⟩ := hrel
    rcases j with _ | j
    · go_wp2
      go_ret
      exact ⟨rfl, rfl⟩
    · obtain ⟨ad, x, rfl, hb, hx, hc⟩ := HR.out.byte (show j < n from by omega)
      have HS := Lib.hid (unl_drop hx)
      have hlt := unl_lt (l.drop (j + 1))
      have hlen : (l.drop (j + 1)).length ≤ 7 := by rw [List.length_drop, HL.out]; omega
      have h7 : unl (l.drop (j + 1)) < 256 ^ 7 := Nat.lt_of_lt_of_le hlt (Nat.pow_le_pow_right (by omega) hlen)
      have hx8 := x.toNat_lt
      rw [show (256 : Nat) ^ 7 = 72057594037927936 from rfl] at h7
      clear hlt hlen hx
      generalize unl (l.drop (j + 1)) = m at *
      generalize x.toNat = y at *
      go_wp2_with fail
      go_round
      case rel => exact ⟨j, by omega, by go_num, by rw [HS.out]; go_num⟩
      case measure => simp [intOf]
end Go.Proofs.Ytponceakelimeaa
