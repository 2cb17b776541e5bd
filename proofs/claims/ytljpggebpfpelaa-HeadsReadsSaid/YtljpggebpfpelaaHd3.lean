/- Small contracts: the bases, the reference's signed numbers. -/
import Derived.Test.YtljpggebpfpelaaHd2
namespace Go.Proofs.Ytljpggebpfpelaa
open Go.RowKit Wire
set_option linter.unusedVariables false

set_option maxHeartbeats 1600000 in
theorem base27_any (g : Nat) (w : World) (hg : g ≤ 1000000) :
    Calls Try.prog 38 #[.int .i64 (g : Int)] w fun e w' => e = .returned (.int .u64 ((16777216 * (g + 1) : Nat) : Int)) ∧ w = w' := by
  go_enter Try.func38, Try.ntmps38
  go_wp2_with fail
  go_ret
  exact ⟨by simp, rfl⟩

set_option maxHeartbeats 1600000 in
theorem rbase27_any (g : Nat) (w : World) (hg : g ≤ 1000000) :
    Calls Try.prog 27 #[.int .i64 (g : Int)] w fun e w' => e = .returned (.int .u64 ((16777216 * (g + 1) : Nat) : Int)) ∧ w = w' := by
  go_enter Try.func27, Try.ntmps27
  go_wp2_with fail
  go_ret
  exact ⟨by simp, rfl⟩

set_option maxRecDepth 100000 in
set_option maxHeartbeats 1600000 in
theorem rsigned_any (n : Int) (w : World) (hn : -9223372036854775808 ≤ n ∧ n ≤ 9223372036854775807) :
    Calls Try.prog 65 #[.int .i64 n] w fun e w' => ∃ A' c', e = .returned (.slice A' (vry (dbl n)).length c') ∧ w'.ownsRow w.heap.size 5 1 (.slice A' (vry (dbl n)).length c') (vry (dbl n)).length ((vry (dbl n)).map b8) ∧ Below w.heap.size w w' := by
  have hd := dbl_lt hn
  have HD := Lib.hid (fun W => double_any n hn W)
  obtain ⟨d, hdd⟩ : ∃ d, dbl n = d := ⟨_, rfl⟩
  rw [hdd] at HD hd ⊢
  clear hdd
  go_enter Try.func65, Try.ntmps65
  go_wp2_with fail
  refine (HD.out _).mono ?_
  rintro e wq ⟨rfl, rfl⟩
  go_wp2_with fail
  refine (minimal_any d hd _).mono ?_
  rintro e w1 ⟨A1, c1, rfl, o1, b1⟩
  go_wp2_with fail
  go_ret
  exact ⟨A1, c1, rfl, o1, b1⟩

end Go.Proofs.Ytljpggebpfpelaa
