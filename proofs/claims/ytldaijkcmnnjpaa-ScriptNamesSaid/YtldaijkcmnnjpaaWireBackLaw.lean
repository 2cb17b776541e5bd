/- Contracts and laws of a chapter that its statement of names leans on. Each states its conditions. -/
import Derived.Test.YtldaijkcmnnjpaaWireReads4
import Derived.Test.YtldaijkcmnnjpaaWireUntext
import Derived.Test.YtldaijkcmnnjpaaWireNew
import Derived.Test.YtldaijkcmnnjpaaRegion
import Derived.Test.YtldaijkcmnnjpaaWireUnsig
namespace Go.Proofs.Ytldaijkcmnnjpaa
open Go.RowKit Wire
set_option linter.unusedVariables false
theorem ck_yes {n k : Nat} (h : k ≤ n) (h2 : n ≤ 200000) : ckB n (k : Int) = true := by simp [ckB]; omega
theorem uv_mk {l : List UInt8} {k v r most : Nat} (hk : k ≤ l.length) (hl : l.length ≤ 200000) (h : uvR l (k : Int) = (0, v, r)) (hm : v ≤ most) (A : Option Addr) (n c : Nat) :
    uvE l (k : Int) most = 0 ∧ uvN l (k : Int) most = v ∧ uvC A n c l (k : Int) most = cur A n c (((k + r : Nat)) : Int) := by
  have he : uvE l (k : Int) most = 0 := by
    unfold uvE; rw [if_pos (ck_yes hk hl), h]; simp; omega
  refine ⟨he, by simp [uvN, he, h], ?_⟩
  simp [uvC, he, h]
theorem uf_mk {l : List UInt8} {k v : Nat} (hk : k + v ≤ l.length) (hl : l.length ≤ 200000) (hv : wdB (v : Int) = true) (A : Option Addr) (n c : Nat) :
    ufE l (k : Int) (v : Int) = 0 ∧ ufN l (k : Int) (v : Int) = unl ((l.drop k).take v) ∧ ufC A n c l (k : Int) (v : Int) = cur A n c (((k + v : Nat)) : Int) := by
  have he : ufE l (k : Int) (v : Int) = 0 := by
    unfold ufE; rw [if_pos (ck_yes (by omega) hl), hv, if_pos rfl, if_neg (by omega)]
  refine ⟨he, by simp [ufN, he], by simp [ufC, he]⟩
theorem uvR_at {l r : List UInt8} {k v : Nat} (hv : v < 18446744073709551616) (h : l.drop k = vry v ++ r) : uvR l (k : Int) = (0, v, (vry v).length) := by
  unfold uvR; rw [Int.toNat_natCast, h]; exact rd_vry hv r
theorem drop_len {α : Type} {l l1 l2 : List α} {k m : Nat} (h : l.drop k = l1 ++ l2) (hm : l1.length = m) : l.drop (k + m) = l2 := by
  rw [← List.drop_drop, h, ← hm, List.drop_left]

end Go.Proofs.Ytldaijkcmnnjpaa
