/- Plain laws behind WireBack: what was written is read, whatever stands behind it. Each states its conditions. -/
import Derived.Test.YtnonikeolpokkaaWireReads4
import Derived.Test.YtnonikeolpokkaaWireFirstLaw
import Derived.Test.YtnonikeolpokkaaWireOneLaw
namespace Go.Proofs.Ytnonikeolpokkaa
open Go.RowKit Wire
set_option linter.unusedVariables false

theorem ck_yes {n k : Nat} (h : k ≤ n) (h2 : n ≤ 200000) : ckB n (k : Int) = true := by simp [ckB]; omega
theorem uv_mk {l : List UInt8} {k v r most : Nat} (hk : k ≤ l.length) (hl : l.length ≤ 200000) (h : uvR l (k : Int) = (0, v, r)) (hm : v ≤ most) (A : Option Addr) (n c : Nat) :
    uvE l (k : Int) most = 0 ∧ uvN l (k : Int) most = v ∧ uvC A n c l (k : Int) most = cur A n c (((k + r : Nat)) : Int) := by
  have he : uvE l (k : Int) most = 0 := by
    unfold uvE; rw [if_pos (ck_yes hk hl), h]; simp; omega
  refine ⟨he, by simp [uvN, he, h], ?_⟩
  simp [uvC, he, h]
theorem ut_mk {l : List UInt8} {k v r mo : Nat} (hk : k + r + v ≤ l.length) (hl : l.length ≤ 200000) (h : uvR l (k : Int) = (0, v, r)) (hm : v ≤ mo) (hmo : mo ≤ 200000) (A : Option Addr) (n c : Nat) :
    utE l (k : Int) (mo : Int) = 0 ∧ utS l (k : Int) (mo : Int) = ⟨((l.drop (k + r)).take v).toArray⟩ ∧ utC A n c l (k : Int) (mo : Int) = cur A n c (((k + r + v : Nat)) : Int) := by
  have he : utE l (k : Int) (mo : Int) = 0 := by
    unfold utE
    rw [if_pos (ck_yes (by omega) hl), if_neg (by omega), Int.toNat_natCast, (uv_mk (by omega) hl h hm none 0 0).1, h]
    simp; omega
  obtain ⟨h1, h2⟩ := ut_ok A n c he
  refine ⟨he, by rw [h1, h, Int.toNat_natCast], ?_⟩
  rw [h2, h]; simp
theorem uf_mk {l : List UInt8} {k v : Nat} (hk : k + v ≤ l.length) (hl : l.length ≤ 200000) (hv : wdB (v : Int) = true) (A : Option Addr) (n c : Nat) :
    ufE l (k : Int) (v : Int) = 0 ∧ ufN l (k : Int) (v : Int) = unl ((l.drop k).take v) ∧ ufC A n c l (k : Int) (v : Int) = cur A n c (((k + v : Nat)) : Int) := by
  have he : ufE l (k : Int) (v : Int) = 0 := by
    unfold ufE; rw [if_pos (ck_yes (by omega) hl), hv, if_pos rfl, if_neg (by omega)]
  refine ⟨he, by simp [ufN, he], by simp [ufC, he]⟩
theorem uvR_at {l r : List UInt8} {k v : Nat} (hv : v < 18446744073709551616) (h : l.drop k = vry v ++ r) : uvR l (k : Int) = (0, v, (vry v).length) := by
  unfold uvR; rw [Int.toNat_natCast, h]; exact rd_vry hv r
theorem drop_len {α : Type} {l l1 l2 : List α} {k m : Nat} (h : l.drop k = l1 ++ l2) (hm : l1.length = m) : l.drop (k + m) = l2 := by
  rw [← List.drop_drop, h, ← hm, List.drop_left]
theorem take_len {α : Type} {l l1 l2 : List α} {k m : Nat} (h : l.drop k = l1 ++ l2) (hm : l1.length = m) : (l.drop k).take m = l1 := by
  rw [h, ← hm, List.take_left]

theorem bk_all (n : Nat) (hn : n < 18446744073709551616) (i : Int) (hi : -9223372036854775808 ≤ i ∧ i ≤ 9223372036854775807) (s : ByteArray) (hs : s.size ≤ 2000) (bl : List UInt8) (hb : bl.length ≤ 500) :
    ∃ (L : List UInt8) (J2 J3 J4 : Nat), (((([] ++ ltl 8 n) ++ vry n) ++ vry (dbl i)) ++ txL s) ++ bl = L ∧ L.length = J4 + bl.length ∧ J4 ≤ 3000 ∧ 8 + (vry n).length = J2 ∧ J2 + (vry (dbl i)).length = J3 ∧ J3 + (txL s).length = J4 ∧
      (∀ A N c, ufE L 0 8 = 0 ∧ ufN L 0 8 = n ∧ ufC A N c L 0 8 = cur A N c 8) ∧
      (∀ A N c, uvE L 8 n = 0 ∧ uvN L 8 n = n ∧ uvC A N c L 8 n = cur A N c (J2 : Int)) ∧
      (∀ A N c, uvE L (J2 : Int) 18446744073709551615 = 0 ∧ hlf (uvN L (J2 : Int) 18446744073709551615) = i ∧ uvC A N c L (J2 : Int) 18446744073709551615 = cur A N c (J3 : Int)) ∧
      (∀ A N c, utE L (J3 : Int) (s.size : Int) = 0 ∧ utS L (J3 : Int) (s.size : Int) = s ∧ utC A N c L (J3 : Int) (s.size : Int) = cur A N c (J4 : Int)) := by
  have hv1 := vry_len n
  have hv2 := vry_len (dbl i)
  have hv3 := vry_len s.size
  have htx : txL s = vry s.size ++ s.data.toList := if_pos (by omega)
  have hsl : s.data.toList.length = s.size := by simp
  have htl : (txL s).length = (vry s.size).length + s.size := by rw [htx, List.length_append, hsl]
  have h8 := ltl_len 8 n
  obtain ⟨L, hL⟩ : ∃ L, ltl 8 n ++ (vry n ++ (vry (dbl i) ++ (txL s ++ bl))) = L := ⟨_, rfl⟩
  have d0 : L.drop 0 = ltl 8 n ++ (vry n ++ (vry (dbl i) ++ (txL s ++ bl))) := hL.symm
  have d1 := drop_len d0 h8
  have d2 := drop_len d1 rfl
  have d3 := drop_len d2 rfl
  have hlen : L.length = 8 + (vry n).length + (vry (dbl i)).length + (txL s).length + bl.length := by
    rw [← hL]; simp only [List.length_append, h8]; omega
  rw [Nat.zero_add] at d1 d2 d3
  refine ⟨L, _, _, _, by rw [← hL]; simp, hlen, by omega, rfl, rfl, rfl, fun A N c => ?_, fun A N c => ?_, fun A N c => ?_, fun A N c => ?_⟩
  · obtain ⟨h1, h2, h3⟩ := uf_mk (l := L) (k := 0) (v := 8) (by omega) (by omega) rfl A N c
    refine ⟨h1, ?_, h3⟩
    refine h2.trans ?_
    rw [take_len d0 h8, unl_ltl]
    exact Nat.mod_eq_of_lt (by simpa using hn)
  · exact uv_mk (l := L) (k := 8) (by omega) (by omega) (uvR_at hn d1) (Nat.le_refl _) A N c
  · obtain ⟨h1, h2, h3⟩ := uv_mk (l := L) (k := 8 + (vry n).length) (most := 18446744073709551615) (by omega) (by omega) (uvR_at (dbl_lt hi) d2) (by have := dbl_lt hi; omega) A N c
    exact ⟨h1, by rw [h2, hlf_dbl hi], h3⟩
  · rw [htx, List.append_assoc] at d3
    obtain ⟨h1, h2, h3⟩ := ut_mk (l := L) (k := 8 + (vry n).length + (vry (dbl i)).length) (mo := s.size) (by omega) (by omega) (uvR_at (by omega) d3) (Nat.le_refl _) (by omega) A N c
    refine ⟨h1, ?_, by rw [h3, htl, ← Nat.add_assoc]⟩
    rw [h2, take_len (drop_len d3 rfl) hsl]
end Go.Proofs.Ytnonikeolpokkaa
