/- Contracts and laws of another chapter that this one leans on. Each states its conditions. -/
import Derived.Test.YtkhdeoihjnpnaaaChecked
import Derived.Test.YtkhdeoihjnpnaaaMem
import Derived.Test.YtkhdeoihjnpnaaaSlice
import Derived.Test.YtkhdeoihjnpnaaaArr
import Derived.Test.YtkhdeoihjnpnaaaRegion
import Derived.Test.YtkhdeoihjnpnaaaRet
import Derived.Test.YtkhdeoihjnpnaaaRbb
import Derived.Test.YtkhdeoihjnpnaaaWireOneLaw
namespace Go.Proofs.Ytkhdeoihjnpnaaa
open Go.RowKit Wire
set_option linter.unusedVariables false

theorem ck_yes {n k : Nat} (h : k ≤ n) (h2 : n ≤ 200000) : ckB n (k : Int) = true := by simp [ckB]; omega
theorem uv_mk {l : List UInt8} {k v r most : Nat} (hk : k ≤ l.length) (hl : l.length ≤ 200000) (h : uvR l (k : Int) = (0, v, r)) (hm : v ≤ most) (A : Option Addr) (n c : Nat) :
    uvE l (k : Int) most = 0 ∧ uvN l (k : Int) most = v ∧ uvC A n c l (k : Int) most = cur A n c (((k + r : Nat)) : Int) := by
  have he : uvE l (k : Int) most = 0 := by
    unfold uvE; rw [if_pos (ck_yes hk hl), h]; simp; omega
  refine ⟨he, by simp [uvN, he, h], ?_⟩
  simp [uvC, he, h]
theorem uvR_at {l r : List UInt8} {k v : Nat} (hv : v < 18446744073709551616) (h : l.drop k = vry v ++ r) : uvR l (k : Int) = (0, v, (vry v).length) := by
  unfold uvR; rw [Int.toNat_natCast, h]; exact rd_vry hv r
theorem drop_len {α : Type} {l l1 l2 : List α} {k m : Nat} (h : l.drop k = l1 ++ l2) (hm : l1.length = m) : l.drop (k + m) = l2 := by
  rw [← List.drop_drop, h, ← hm, List.drop_left]
theorem take_len {α : Type} {l l1 l2 : List α} {k m : Nat} (h : l.drop k = l1 ++ l2) (hm : l1.length = m) : (l.drop k).take m = l1 := by
  rw [h, ← hm, List.take_left]
end Go.Proofs.Ytkhdeoihjnpnaaa
