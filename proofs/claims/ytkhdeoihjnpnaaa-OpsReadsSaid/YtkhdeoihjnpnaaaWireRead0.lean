/- Contracts and laws of another chapter that this one leans on. Each states its conditions. -/
import Derived.Test.YtkhdeoihjnpnaaaChecked
import Derived.Test.YtkhdeoihjnpnaaaMem
import Derived.Test.YtkhdeoihjnpnaaaSlice
import Derived.Test.YtkhdeoihjnpnaaaArr
import Derived.Test.YtkhdeoihjnpnaaaRegion
import Derived.Test.YtkhdeoihjnpnaaaRet
import Derived.Test.YtkhdeoihjnpnaaaRbb
import Derived.Test.YtkhdeoihjnpnaaaWireNew
namespace Go.Proofs.Ytkhdeoihjnpnaaa
open Go.RowKit Wire
set_option linter.unusedVariables false

/-- Reads a minimal number: the error, the number, how many bytes. -/
def rdV (i n : Nat) : List UInt8 → Int × Nat × Nat
  | [] => (24, 0, 0)
  | b :: r => if (i = 9 ∧ 1 < b.toNat) ∨ (0 < i ∧ b.toNat = 0) then (12, 0, 0) else if b.toNat < 128 then (0, n + b.toNat * 128 ^ i, i + 1) else rdV (i + 1) (n + (b.toNat - 128) * 128 ^ i) r
/-- Whether a cursor is one. -/
def ckB (n : Nat) (a : Int) : Bool := decide (n ≤ 200000) && (decide (0 ≤ a) && decide (a ≤ n))
def ckE (n : Nat) (a : Int) : Int := if ckB n a then 0 else 8
set_option maxHeartbeats 800000 in
theorem check_any (A : Option Addr) (n c : Nat) (a : Int) (w : World) :
    Calls Try.prog 39 #[cur A n c a] w fun e w' => e = .returned (.int .i64 (ckE n a)) ∧ Below w.heap.size w w' := by
  have hB := (Below.refl w.heap.size w).alloc (Nat.le_refl _) (.cells #[.slice A n c, .int .i64 a] 39)
  by_cases h1 : n ≤ 200000
  · by_cases h2 : a < 0
    · have HE := Lib.hid (show ckE n a = 8 from by simp [ckE, ckB]; omega)
      have d1 : decide ((200000 : Int) < (n : Int)) = false := by simp; omega
      have d2 : decide (a < 0) = true := by simp; omega
      go_enter Try.func39, Try.ntmps39
      go_wp2_with fail
      go_ret
      exact ⟨by rw [HE.out]; rfl, hB⟩
    · by_cases h3 : (n : Int) < a
      · have HE := Lib.hid (show ckE n a = 8 from by simp [ckE, ckB]; omega)
        have d1 : decide ((200000 : Int) < (n : Int)) = false := by simp; omega
        have d2 : decide (a < 0) = false := by simp; omega
        have d3 : decide ((n : Int) < a) = true := by simp; omega
        go_enter Try.func39, Try.ntmps39
        go_wp2_with fail
        go_ret
        exact ⟨by rw [HE.out]; rfl, hB⟩
      · have HE := Lib.hid (show ckE n a = 0 from by simp [ckE, ckB]; omega)
        have d1 : decide ((200000 : Int) < (n : Int)) = false := by simp; omega
        have d2 : decide (a < 0) = false := by simp; omega
        have d3 : decide ((n : Int) < a) = false := by simp; omega
        go_enter Try.func39, Try.ntmps39
        go_wp2_with fail
        go_ret
        exact ⟨by rw [HE.out]; rfl, hB⟩
  · have HE := Lib.hid (show ckE n a = 8 from by simp [ckE, ckB]; omega)
    have d1 : decide ((200000 : Int) < (n : Int)) = true := by simp; omega
    go_enter Try.func39, Try.ntmps39
    go_wp2_with fail
    go_ret
    exact ⟨by rw [HE.out]; rfl, hB⟩
set_option maxHeartbeats 800000 in
theorem recheck_any (A : Option Addr) (n c : Nat) (a : Int) (w : World) :
    Calls Try.prog 30 #[cur A n c a] w fun e w' => e = .returned (.int .i64 (ckE n a)) ∧ Below w.heap.size w w' := by
  have hB := (Below.refl w.heap.size w).alloc (Nat.le_refl _) (.cells #[.slice A n c, .int .i64 a] 39)
  by_cases h1 : n ≤ 200000
  · by_cases h2 : a < 0
    · have HE := Lib.hid (show ckE n a = 8 from by simp [ckE, ckB]; omega)
      have d1 : decide ((200000 : Int) < (n : Int)) = false := by simp; omega
      have d2 : decide (a < 0) = true := by simp; omega
      go_enter Try.func30, Try.ntmps30
      go_wp2_with fail
      go_ret
      exact ⟨by rw [HE.out]; rfl, hB⟩
    · by_cases h3 : (n : Int) < a
      · have HE := Lib.hid (show ckE n a = 8 from by simp [ckE, ckB]; omega)
        have d1 : decide ((200000 : Int) < (n : Int)) = false := by simp; omega
        have d2 : decide (a < 0) = false := by simp; omega
        have d3 : decide ((n : Int) < a) = true := by simp; omega
        go_enter Try.func30, Try.ntmps30
        go_wp2_with fail
        go_ret
        exact ⟨by rw [HE.out]; rfl, hB⟩
      · have HE := Lib.hid (show ckE n a = 0 from by simp [ckE, ckB]; omega)
        have d1 : decide ((200000 : Int) < (n : Int)) = false := by simp; omega
        have d2 : decide (a < 0) = false := by simp; omega
        have d3 : decide ((n : Int) < a) = false := by simp; omega
        go_enter Try.func30, Try.ntmps30
        go_wp2_with fail
        go_ret
        exact ⟨by rw [HE.out]; rfl, hB⟩
  · have HE := Lib.hid (show ckE n a = 8 from by simp [ckE, ckB]; omega)
    have d1 : decide ((200000 : Int) < (n : Int)) = true := by simp; omega
    go_enter Try.func30, Try.ntmps30
    go_wp2_with fail
    go_ret
    exact ⟨by rw [HE.out]; rfl, hB⟩
/-- What Unvary answers: the error, the number, the cursor. -/
def uvR (l : List UInt8) (a : Int) : Int × Nat × Nat := rdV 0 0 (l.drop a.toNat)
def uvE (l : List UInt8) (a : Int) (most : Nat) : Int := if ckB l.length a then (if (uvR l a).1 ≠ 0 then (uvR l a).1 else if most < (uvR l a).2.1 then 4 else 0) else 8
def uvN (l : List UInt8) (a : Int) (most : Nat) : Nat := if uvE l a most = 0 then (uvR l a).2.1 else 0
def uvC (A : Option Addr) (n c : Nat) (l : List UInt8) (a : Int) (most : Nat) : Value := if uvE l a most = 0 then cur A n c (a + (uvR l a).2.2) else cur none 0 0 0
theorem uv_bad {l : List UInt8} {a : Int} {most : Nat} {e : Int} (A : Option Addr) (n c : Nat) (h : uvE l a most = e) (he : e ≠ 0) : uvN l a most = 0 ∧ uvC A n c l a most = cur none 0 0 0 := by
  subst h; simp [uvN, uvC, he]
theorem uv_ok {l : List UInt8} {a : Int} {most : Nat} (A : Option Addr) (n c : Nat) (h : uvE l a most = 0) : uvN l a most = (uvR l a).2.1 ∧ uvC A n c l a most = cur A n c (a + (uvR l a).2.2) := by
  simp [uvN, uvC, h]
theorem ck_ok {n : Nat} {a : Int} (h : ckB n a = true) : n ≤ 200000 ∧ 0 ≤ a ∧ a ≤ n := by
  simp only [ckB, Bool.and_eq_true, decide_eq_true_eq] at h; exact h
theorem rdV_form {i n : Nat} {b : UInt8} {r : List UInt8} (h : (i = 9 ∧ 1 < b.toNat) ∨ (0 < i ∧ b.toNat = 0)) : rdV i n (b :: r) = (12, 0, 0) := by rw [rdV, if_pos h]
theorem rdV_done {i n : Nat} {b : UInt8} {r : List UInt8} (h : ¬ ((i = 9 ∧ 1 < b.toNat) ∨ (0 < i ∧ b.toNat = 0))) (h2 : b.toNat < 128) : rdV i n (b :: r) = (0, n + b.toNat * 128 ^ i, i + 1) := by rw [rdV, if_neg h, if_pos h2]
theorem rdV_more {i n : Nat} {b : UInt8} {r : List UInt8} (h : ¬ ((i = 9 ∧ 1 < b.toNat) ∨ (0 < i ∧ b.toNat = 0))) (h2 : ¬ b.toNat < 128) : rdV i n (b :: r) = rdV (i + 1) (n + (b.toNat - 128) * 128 ^ i) r := by rw [rdV, if_neg h, if_neg h2]
theorem drop_at {l : List UInt8} {k : Nat} {b : UInt8} (h : l[k]? = some b) : l.drop k = b :: l.drop (k + 1) := by
  have hk := (List.getElem?_eq_some_iff.1 h).1
  rw [List.drop_eq_getElem_cons hk, (List.getElem?_eq_some_iff.1 h).2]
theorem pow_le9 {j : Nat} (h : j ≤ 9) : 128 ^ j ≤ 9223372036854775808 := by
  have : 128 ^ j ≤ 128 ^ 9 := Nat.pow_le_pow_right (by omega) h
  simpa using this
theorem pow_le8 {j : Nat} (h : j ≤ 8) : 128 ^ j ≤ 72057594037927936 := by
  have : 128 ^ j ≤ 128 ^ 8 := Nat.pow_le_pow_right (by omega) h
  simpa using this
theorem put_lt {j x : Nat} (hj : j ≤ 9) (hx : x < 128) (h9 : j = 9 → x ≤ 1) : x * 128 ^ j ≤ 9223372036854775808 := by
  by_cases h : j ≤ 8
  · have := Nat.mul_le_mul (show x ≤ 128 by omega) (pow_le8 h)
    omega
  · have := Nat.mul_le_mul (h9 (by omega)) (pow_le9 hj)
    omega
set_option maxRecDepth 100000 in
theorem or_step {m y j : Nat} (hy : y < 256) (hj : j ≤ 9) (hm : m < 128 ^ j) (h9 : j = 9 → y ≤ 1) :
    bits .or .u64 (m : Int) (IntKind.u64.wrap (IntKind.u64.wrap (bits .and .u8 (y : Int) 127) * 2 ^ (7 * j))) = ((m + y % 128 * 128 ^ j : Nat) : Int) := by
  have e1 : bits .and .u8 (y : Int) 127 = ((y % 128 : Nat) : Int) := by
    rw [show (127 : Int) = ((127 : Nat) : Int) from rfl, u8_and_nat y 127 hy (by omega)]
    congr 1
    exact Nat.and_two_pow_sub_one_eq_mod y 7
  have e2 : (128 : Nat) ^ j = 2 ^ (7 * j) := by rw [Nat.pow_mul]
  have hp := put_lt (x := y % 128) hj (by omega) (fun h => by have := h9 h; omega)
  have hp9 := pow_le9 hj
  rw [e1]
  have e3 : IntKind.u64.wrap ((y % 128 : Nat) : Int) = ((y % 128 : Nat) : Int) := by rw [IntKind.wrap_u64]; omega
  have e4 : ((y % 128 : Nat) : Int) * 2 ^ (7 * j) = ((y % 128 * 128 ^ j : Nat) : Int) := by rw [e2]; simp
  rw [e3, e4]
  have e5 : IntKind.u64.wrap ((y % 128 * 128 ^ j : Nat) : Int) = ((y % 128 * 128 ^ j : Nat) : Int) := by rw [IntKind.wrap_u64]; omega
  rw [e5, u64_or_nat _ _ (by omega) (by omega)]
  congr 1
  rw [Nat.or_comm, nat_join (7 * j) (y % 128 * 128 ^ j) m (by rw [e2]; simp) (by rw [← e2]; exact hm), Nat.add_comm]
theorem acc_lt {m y j : Nat} (hm : m < 128 ^ j) : m + y % 128 * 128 ^ j < 128 ^ (j + 1) := by
  have h1 : y % 128 * 128 ^ j ≤ 127 * 128 ^ j := Nat.mul_le_mul_right _ (by omega)
  rw [Nat.pow_succ, Nat.mul_comm _ 128]
  omega
end Go.Proofs.Ytkhdeoihjnpnaaa
