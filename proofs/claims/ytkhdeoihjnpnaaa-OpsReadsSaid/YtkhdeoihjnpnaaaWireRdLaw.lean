/- Contracts and laws of another chapter that this one leans on. Each states its conditions. -/
import Derived.Test.YtkhdeoihjnpnaaaChecked
import Derived.Test.YtkhdeoihjnpnaaaMem
import Derived.Test.YtkhdeoihjnpnaaaSlice
import Derived.Test.YtkhdeoihjnpnaaaArr
import Derived.Test.YtkhdeoihjnpnaaaRegion
import Derived.Test.YtkhdeoihjnpnaaaRet
import Derived.Test.YtkhdeoihjnpnaaaRbb
import Derived.Test.YtkhdeoihjnpnaaaWireRead0
namespace Go.Proofs.Ytkhdeoihjnpnaaa
open Wire
set_option linter.unusedVariables false

theorem ofNat_lo {m : Nat} (h : m < 128) : (UInt8.ofNat m).toNat = m := by rw [UInt8.toNat_ofNat']; omega
theorem ofNat_hi (m : Nat) : (UInt8.ofNat (m % 128 + 128)).toNat = m % 128 + 128 := by rw [UInt8.toNat_ofNat']; omega
/-- A number that still has to be written at place i. -/
def Fits (i m : Nat) : Prop := i ≤ 9 ∧ m < 2 ^ (64 - 7 * i) ∧ (0 < i → m ≠ 0)
theorem Fits.next {i m : Nat} (h : Fits i m) (hm : ¬ m < 128) : i < 9 ∧ Fits (i + 1) (m / 128) := by
  obtain ⟨h1, h2, h3⟩ := h
  have h9 := less9 h1 h2 hm
  exact ⟨h9, by omega, shrink h9 h2, fun _ => by omega⟩
theorem Fits.nine {m : Nat} (h : Fits 9 m) : m ≤ 1 := by
  have h2 := h.2.1
  rw [show (64 - 7 * 9 : Nat) = 1 from rfl] at h2
  omega
theorem rd_vry_at : ∀ (f i acc m : Nat) (r : List UInt8), f = 9 - i → Fits i m → rdV i acc (vryF f m ++ r) = (0, acc + m * 128 ^ i, i + (vryF f m).length) := by
  intro f
  induction f with
  | zero =>
    intro i acc m r hf hm
    obtain rfl : i = 9 := by have := hm.1; omega
    have h1 := hm.nine
    have h0 : m ≠ 0 := hm.2.2 (by omega)
    rw [show vryF 0 m = [UInt8.ofNat m] from rfl, List.singleton_append, rdV_done (by rw [ofNat_lo (by omega)]; omega) (by rw [ofNat_lo (by omega)]; omega), ofNat_lo (by omega)]
    rfl
  | succ f ih =>
    intro i acc m r hf hm
    by_cases h : m < 128
    · have h0 : 0 < i → m ≠ 0 := hm.2.2
      rw [vryF_small h, List.singleton_append, rdV_done (by rw [ofNat_lo h]; omega) (by rw [ofNat_lo h]; omega), ofNat_lo h]
      rfl
    · obtain ⟨h9, hn⟩ := hm.next h
      rw [vryF_more h, List.cons_append, rdV_more (by rw [ofNat_hi]; omega) (by rw [ofNat_hi]; omega), ofNat_hi, ih (i + 1) _ _ r (by omega) hn]
      rw [show m % 128 + 128 - 128 = m % 128 from by omega, List.length_cons]
      have e : acc + m % 128 * 128 ^ i + m / 128 * 128 ^ (i + 1) = acc + m * 128 ^ i := by
        rw [Nat.pow_succ, Nat.mul_comm (128 ^ i) 128, ← Nat.mul_assoc, Nat.add_assoc, ← Nat.add_mul]
        congr 2
        omega
      rw [e, show i + 1 + (vryF f (m / 128)).length = i + ((vryF f (m / 128)).length + 1) from by omega]
theorem rd_vry {n : Nat} (h : n < 18446744073709551616) (r : List UInt8) : rdV 0 0 (vry n ++ r) = (0, n, (vry n).length) := by
  rw [vry, rd_vry_at 9 0 0 n r rfl ⟨by omega, by simpa using h, by omega⟩]
  simp
theorem rd_cut_at : ∀ (f i acc m k : Nat), f = 9 - i → Fits i m → k < (vryF f m).length → rdV i acc ((vryF f m).take k) = (24, 0, 0) := by
  intro f
  induction f with
  | zero =>
    intro i acc m k hf hm hk
    obtain rfl : k = 0 := by simp [vryF] at hk; omega
    rfl
  | succ f ih =>
    intro i acc m k hf hm hk
    rcases k with _ | k
    · rfl
    by_cases h : m < 128
    · rw [vryF_small h] at hk; simp at hk
    · obtain ⟨h9, hn⟩ := hm.next h
      rw [vryF_more h] at hk ⊢
      rw [List.take_succ_cons, rdV_more (by rw [ofNat_hi]; omega) (by rw [ofNat_hi]; omega)]
      exact ih (i + 1) _ _ k (by omega) hn (by simpa using hk)
theorem rd_cut {n k : Nat} (h : n < 18446744073709551616) (hk : k < (vry n).length) : rdV 0 0 ((vry n).take k) = (24, 0, 0) :=
  rd_cut_at 9 0 0 n k rfl ⟨by omega, by simpa using h, by omega⟩ hk
theorem up_lt {m y P : Nat} (h : m < P) (hy : y < 256) : m * 128 + (y - 128) < 2 ^ 7 * P := by
  rw [show (2 : Nat) ^ 7 = 128 from rfl]; omega
theorem rd_one_at : ∀ (l : List UInt8) (i acc n k : Nat), i ≤ 9 → rdV i acc l = (0, n, k) → ∃ m, n = acc + m * 128 ^ i ∧ Fits i m ∧ i < k ∧ k - i ≤ l.length ∧ l.take (k - i) = vryF (9 - i) m := by
  intro l
  induction l with
  | nil => intro i acc n k _ h; cases h
  | cons b r ih =>
    intro i acc n k hi h
    have hb := b.toNat_lt
    by_cases hc : (i = 9 ∧ 1 < b.toNat) ∨ (0 < i ∧ b.toNat = 0)
    · rw [rdV_form hc] at h; cases h
    · by_cases h2 : b.toNat < 128
      · rw [rdV_done hc h2] at h
        injection h with _ h
        injection h with hn hk
        refine ⟨b.toNat, hn.symm, ⟨hi, ?_, fun h0 => by omega⟩, by omega, by simp; omega, ?_⟩
        · by_cases h9 : i = 9
          · subst h9
            have : b.toNat ≤ 1 := by omega
            rw [show (64 - 7 * 9 : Nat) = 1 from rfl]; omega
          · have : 2 ^ 8 ≤ 2 ^ (64 - 7 * i) := Nat.pow_le_pow_right (by omega) (by omega)
            omega
        · rw [← hk, show i + 1 - i = 1 from by omega, vryF_small h2]
          simp
      · rw [rdV_more hc h2] at h
        have h9 : i < 9 := by omega
        obtain ⟨m, e1, hf, e3, e4, e5⟩ := ih (i + 1) _ n k (by omega) h
        have hm0 : m ≠ 0 := hf.2.2 (by omega)
        have hmm : (m * 128 + (b.toNat - 128)) / 128 = m := by omega
        have hmr : (m * 128 + (b.toNat - 128)) % 128 = b.toNat - 128 := by omega
        refine ⟨m * 128 + (b.toNat - 128), ?_, ⟨hi, ?_, fun _ => by omega⟩, by omega, by simp; omega, ?_⟩
        · rw [e1, Nat.add_mul, Nat.pow_succ, Nat.mul_comm (128 ^ i) 128, Nat.mul_assoc]; omega
        · have hlt := hf.2.1
          rw [show 64 - 7 * i = 7 + (64 - 7 * (i + 1)) from by omega, Nat.pow_add]
          exact up_lt hlt hb
        · rw [show k - i = (k - (i + 1)) + 1 from by omega, List.take_succ_cons, e5, show 9 - i = (9 - (i + 1)) + 1 from by omega, vryF_more (by omega), hmm, hmr]
          rw [show b.toNat - 128 + 128 = b.toNat from by omega, UInt8.ofNat_toNat]
set_option maxRecDepth 100000 in
theorem rd_one {l : List UInt8} {n k : Nat} (h : rdV 0 0 l = (0, n, k)) : n < 18446744073709551616 ∧ 0 < k ∧ k ≤ l.length ∧ l.take k = vry n := by
  obtain ⟨m, e1, hf, e3, e4, e5⟩ := rd_one_at l 0 0 n k (by omega) h
  have : m = n := by simp at e1; omega
  subst this
  exact ⟨by simpa using hf.2.1, e3, by simpa using e4, e5⟩
theorem rd_lt {l : List UInt8} (h : (rdV 0 0 l).1 = 0) : (rdV 0 0 l).2.1 < 18446744073709551616 ∧ 0 < (rdV 0 0 l).2.2 ∧ (rdV 0 0 l).2.2 ≤ l.length ∧ l.take (rdV 0 0 l).2.2 = vry (rdV 0 0 l).2.1 :=
  rd_one (show rdV 0 0 l = (0, (rdV 0 0 l).2.1, (rdV 0 0 l).2.2) by rw [← h])
end Go.Proofs.Ytkhdeoihjnpnaaa
