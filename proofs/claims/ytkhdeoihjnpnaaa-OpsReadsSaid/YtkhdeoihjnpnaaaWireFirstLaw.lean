/- Contracts and laws of another chapter that this one leans on. Each states its conditions. -/
import Derived.Test.YtkhdeoihjnpnaaaChecked
import Derived.Test.YtkhdeoihjnpnaaaMem
import Derived.Test.YtkhdeoihjnpnaaaSlice
import Derived.Test.YtkhdeoihjnpnaaaArr
import Derived.Test.YtkhdeoihjnpnaaaRegion
import Derived.Test.YtkhdeoihjnpnaaaRet
import Derived.Test.YtkhdeoihjnpnaaaRbb
import Derived.Test.YtkhdeoihjnpnaaaWireBegins
namespace Go.Proofs.Ytkhdeoihjnpnaaa
open Wire
set_option linter.unusedVariables false

theorem bg_of {l m : List UInt8} (h : bgB l m = true) : ∃ r, l = m ++ r := by
  simp only [bgB, Bool.and_eq_true, decide_eq_true_eq, beq_iff_eq] at h
  exact ⟨l.drop m.length, by rw [← h.2, List.length_take, Nat.min_eq_left h.1, List.take_append_drop]⟩
theorem bg_self (l : List UInt8) : bgB l l = true := by simp [bgB]
theorem bg_vry {n m : Nat} (hn : n < 18446744073709551616) (hm : m < 18446744073709551616) : bgB (vry m) (vry n) = decide (n = m) := by
  by_cases h : n = m
  · subst h; simp [bg_self]
  · rw [decide_eq_false h]
    cases hb : bgB (vry m) (vry n)
    · rfl
    · obtain ⟨r, hr⟩ := bg_of hb
      have h1 := rd_vry hm []
      rw [List.append_nil, hr, rd_vry hn r] at h1
      injection h1 with _ h1
      injection h1 with h1 _
      exact absurd h1 h
theorem ck_zero {n : Nat} (h : n ≤ 200000) : ckB n 0 = true := by simp [ckB, h]
theorem uv_cut {n k : Nat} (hn : n < 18446744073709551616) (hk : k < (vry n).length) : uvE ((vry n).take k) 0 18446744073709551615 = 24 := by
  have hl := (vry_len n).2
  have h : uvR ((vry n).take k) 0 = (24, 0, 0) := rd_cut hn hk
  rw [uvE, if_pos (ck_zero (by rw [List.length_take]; omega)), h]
  rfl
end Go.Proofs.Ytkhdeoihjnpnaaa
