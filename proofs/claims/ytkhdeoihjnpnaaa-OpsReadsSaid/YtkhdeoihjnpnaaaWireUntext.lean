/- Contracts and laws of another chapter that this one leans on. Each states its conditions. -/
import Derived.Test.YtkhdeoihjnpnaaaChecked
import Derived.Test.YtkhdeoihjnpnaaaMem
import Derived.Test.YtkhdeoihjnpnaaaSlice
import Derived.Test.YtkhdeoihjnpnaaaArr
import Derived.Test.YtkhdeoihjnpnaaaRegion
import Derived.Test.YtkhdeoihjnpnaaaRet
import Derived.Test.YtkhdeoihjnpnaaaRbb
import Derived.Test.YtkhdeoihjnpnaaaWireUnvary
namespace Go.Proofs.Ytkhdeoihjnpnaaa
open Go.RowKit Wire
set_option linter.unusedVariables false

theorem uv_zero {l : List UInt8} {a : Int} {most : Nat} (h : uvE l a most = 0) : ckB l.length a = true ∧ (uvR l a).1 = 0 ∧ (uvR l a).2.1 ≤ most := by
  unfold uvE at h
  split at h
  · rename_i hc
    split at h
    · rename_i h1; exact absurd h h1
    · rename_i h1
      split at h
      · cases h
      · rename_i h2; exact ⟨hc, by simpa using h1, by omega⟩
  · cases h
theorem uvR_le {l : List UInt8} {a : Int} (h : (uvR l a).1 = 0) : (uvR l a).2.1 < 18446744073709551616 ∧ 0 < (uvR l a).2.2 ∧ a.toNat + (uvR l a).2.2 ≤ l.length ∧ (l.drop a.toNat).take (uvR l a).2.2 = vry (uvR l a).2.1 := by
  obtain ⟨h1, h2, h3, h4⟩ := rd_lt (l := l.drop a.toNat) h
  refine ⟨h1, h2, ?_, h4⟩
  have h5 : (uvR l a).2.2 ≤ (l.drop a.toNat).length := h3
  rw [List.length_drop] at h5
  have : 0 < (uvR l a).2.2 := h2
  omega
end Go.Proofs.Ytkhdeoihjnpnaaa
