/- Contracts and laws of another chapter that this one leans on. Each states its conditions. -/
import Derived.Test.YtponceakelimeaaChecked
import Derived.Test.YtponceakelimeaaMem
import Derived.Test.YtponceakelimeaaSlice
import Derived.Test.YtponceakelimeaaArr
import Derived.Test.YtponceakelimeaaRegion
import Derived.Test.YtponceakelimeaaRet
import Derived.Test.YtponceakelimeaaRbb
import Derived.Test.YtponceakelimeaaWireFirstLaw
namespace Go.Proofs.Ytponceakelimeaa
open Wire
set_option linter.unusedVariables false

/-- A number that was read, written again. -/
theorem one_num {l : List UInt8} {most : Nat} (h : uvE l 0 most = 0) : 1 ≤ (uvR l 0).2.2 ∧ (uvR l 0).2.2 ≤ l.length ∧ vry (uvN l 0 most) = l.take (uvR l 0).2.2 := by
  obtain ⟨h1, h2, h3⟩ := uv_zero h
  obtain ⟨g1, g2, g3, g4⟩ := uvR_le h2
  refine ⟨g2, by simpa using g3, ?_⟩
  rw [show uvN l 0 most = (uvR l 0).2.1 from by simp [uvN, h]]
  simpa using g4.symm
/-- A text that was read, written again. -/
theorem one_text {l : List UInt8} {mo : Nat} (hm : mo ≤ 200000) (h : utE l 0 (mo : Int) = 0) :
    uvE l 0 mo = 0 ∧ (utS l 0 (mo : Int)).size ≤ 200000 ∧ 1 ≤ (uvR l 0).2.2 + (uvR l 0).2.1 ∧ (uvR l 0).2.2 + (uvR l 0).2.1 ≤ l.length ∧ txL (utS l 0 (mo : Int)) = l.take ((uvR l 0).2.2 + (uvR l 0).2.1) := by
  have hS := (ut_ok none 0 0 h).1
  have h0 := h
  unfold utE at h
  split at h
  · rename_i hc
    rw [if_neg (by omega), Int.toNat_natCast] at h
    split at h
    · rename_i h1; exact absurd h h1
    · rename_i h1
      have h1 : uvE l 0 mo = 0 := by simpa using h1
      split at h
      · cases h
      · rename_i h2
        obtain ⟨g1, g2, g3⟩ := one_num h1
        obtain ⟨_, hu, hle⟩ := uv_zero h1
        have hvn : uvN l 0 mo = (uvR l 0).2.1 := by simp [uvN, h1]
        rw [hvn] at g3
        rw [hS]
        generalize (uvR l 0).2.1 = v at *
        generalize (uvR l 0).2.2 = k at *
        have hkl : k + v ≤ l.length := by omega
        have hlen : ((l.drop k).take v).length = v := by rw [List.length_take, List.length_drop]; omega
        have hsz : (⟨((l.drop ((0 : Int).toNat + k)).take v).toArray⟩ : ByteArray).size = v := by
          show ((l.drop ((0 : Int).toNat + k)).take v).toArray.size = v
          rw [List.size_toArray, Int.toNat_zero, Nat.zero_add, hlen]
        refine ⟨h1, by rw [hsz]; omega, by omega, hkl, ?_⟩
        rw [tx_of (by rw [hsz]; omega), hsz, g3]
        show l.take k ++ ((l.drop ((0 : Int).toNat + k)).take v) = _
        rw [Int.toNat_zero, Nat.zero_add, List.take_add]
  · cases h
end Go.Proofs.Ytponceakelimeaa
