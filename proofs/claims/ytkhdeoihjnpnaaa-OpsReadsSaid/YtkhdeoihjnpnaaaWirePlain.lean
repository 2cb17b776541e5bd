/- Contracts and laws of another chapter that this one leans on. Each states its conditions. -/
namespace Go.Proofs.Ytkhdeoihjnpnaaa.Wire

/-- The bytes of a minimal number, with a bound on their number. -/
def vryF : Nat → Nat → List UInt8
  | 0, n => [UInt8.ofNat n]
  | f + 1, n => if n < 128 then [UInt8.ofNat n] else UInt8.ofNat (n % 128 + 128) :: vryF f (n / 128)
/-- The bytes of a minimal number. -/
def vry (n : Nat) : List UInt8 := vryF 9 n
theorem vryF_small {f n : Nat} (h : n < 128) : vryF f n = [UInt8.ofNat n] := by cases f <;> simp [vryF, h]
theorem vryF_more {f n : Nat} (h : ¬ n < 128) : vryF (f + 1) n = UInt8.ofNat (n % 128 + 128) :: vryF f (n / 128) := by simp [vryF, h]
theorem vryF_len (f n : Nat) : 1 ≤ (vryF f n).length ∧ (vryF f n).length ≤ f + 1 := by
  induction f generalizing n with
  | zero => simp [vryF]
  | succ f ih =>
    by_cases h : n < 128
    · rw [vryF_small h]; simp
    · rw [vryF_more h]; have := ih (n / 128); simp; omega
theorem vry_len (n : Nat) : 1 ≤ (vry n).length ∧ (vry n).length ≤ 10 := vryF_len 9 n
/-- The number of a signed one. -/
def dbl (i : Int) : Nat := if 0 ≤ i then 2 * i.toNat else 2 * (-(i + 1)).toNat + 1
theorem dbl_lt {i : Int} (h : -9223372036854775808 ≤ i ∧ i ≤ 9223372036854775807) : dbl i < 18446744073709551616 := by
  unfold dbl; split <;> omega
/-- The bytes of a fixed number. -/
def ltl : Nat → Nat → List UInt8
  | 0, _ => []
  | w + 1, n => UInt8.ofNat (n % 256) :: ltl w (n / 256)
theorem ltl_len (w n : Nat) : (ltl w n).length = w := by
  induction w generalizing n with
  | zero => rfl
  | succ w ih => simp [ltl, ih]
theorem ltl_snoc (w n : Nat) : ltl (w + 1) n = ltl w n ++ [UInt8.ofNat (n / 256 ^ w % 256)] := by
  induction w generalizing n with
  | zero => simp [ltl]
  | succ w ih =>
    rw [show ltl (w + 1 + 1) n = UInt8.ofNat (n % 256) :: ltl (w + 1) (n / 256) from rfl, ih]
    rw [show ltl (w + 1) n = UInt8.ofNat (n % 256) :: ltl w (n / 256) from rfl]
    rw [Nat.div_div_eq_div_mul, ← Nat.pow_succ']
    rfl
/-- The number of some bytes, the lowest one first. -/
def unl : List UInt8 → Nat
  | [] => 0
  | c :: l => c.toNat + 256 * unl l
theorem unl_lt (l : List UInt8) : unl l < 256 ^ l.length := by
  induction l with
  | nil => simp [unl]
  | cons c l ih =>
    have := c.toNat_lt
    simp only [unl, List.length_cons, Nat.pow_succ]
    have h2 : 256 ^ l.length * 256 = 256 * 256 ^ l.length := Nat.mul_comm _ _
    omega
theorem unl_ltl (w n : Nat) : unl (ltl w n) = n % 256 ^ w := by
  induction w generalizing n with
  | zero => simp [ltl, unl, Nat.mod_one]
  | succ w ih =>
    have h1 : (UInt8.ofNat (n % 256)).toNat = n % 256 := by rw [UInt8.toNat_ofNat']; omega
    simp only [ltl, unl, h1, ih]
    rw [Nat.pow_succ', Nat.mod_mul]
theorem unl_append (l m : List UInt8) : unl (l ++ m) = unl l + 256 ^ l.length * unl m := by
  induction l with
  | nil => simp [unl]
  | cons c l ih =>
    simp only [List.cons_append, unl, ih, List.length_cons, Nat.pow_succ', Nat.mul_add, Nat.mul_assoc]
    omega
theorem ltl_unl (l : List UInt8) : ltl l.length (unl l) = l := by
  induction l with
  | nil => rfl
  | cons c l ih =>
    have := c.toNat_lt
    simp only [List.length_cons, ltl, unl]
    rw [show (c.toNat + 256 * unl l) / 256 = unl l from by omega, ih, show (c.toNat + 256 * unl l) % 256 = c.toNat from by omega]
    simp
theorem ltl_get {w n j : Nat} (h : j < w) : (ltl w n)[j]? = some (UInt8.ofNat (n / 256 ^ j % 256)) := by
  induction w generalizing n j with
  | zero => omega
  | succ w ih =>
    rcases j with _ | j
    · simp [ltl]
    · rw [ltl, List.getElem?_cons_succ, ih (by omega), Nat.div_div_eq_div_mul, ← Nat.pow_succ']
/-- A fixed number's widths. -/
def wdB (a : Int) : Bool := a == 1 || a == 2 || a == 4 || a == 8
theorem wdB_of {a : Int} (h : wdB a = true) : a = 1 ∨ a = 2 ∨ a = 4 ∨ a = 8 := by simpa [wdB, or_assoc] using h
theorem wdB_not {a : Int} (h : wdB a = false) : a ≠ 1 ∧ a ≠ 2 ∧ a ≠ 4 ∧ a ≠ 8 := by simpa [wdB, and_assoc] using h
/-- What Fixed returns: whether the number goes into its width, the bytes, the error. -/
def fxB (n : Nat) (a : Int) : Bool := wdB a && decide (n < 256 ^ a.toNat)
def fxL (n : Nat) (a : Int) : List UInt8 := if fxB n a then ltl a.toNat n else []
def fxE (n : Nat) (a : Int) : Int := if fxB n a then 0 else 2
theorem fx_no {n : Nat} {a : Int} (h : fxB n a = false) : fxL n a = [] ∧ fxE n a = 2 := by simp [fxL, fxE, h]
theorem fx_yes {n : Nat} {a : Int} (h : fxB n a = true) : fxL n a = ltl a.toNat n ∧ fxE n a = 0 := by simp [fxL, fxE, h]
theorem unl_drop {l : List UInt8} {k : Nat} {c : UInt8} (h : l[k]? = some c) : unl (l.drop k) = unl (l.drop (k + 1)) * 256 + c.toNat := by
  have hk := (List.getElem?_eq_some_iff.1 h).1
  have e : l[k] = c := (List.getElem?_eq_some_iff.1 h).2
  rw [List.drop_eq_getElem_cons hk, e]
  simp only [unl]
  omega
/-- What Text returns: the bytes, the error. -/
def txL (s : ByteArray) : List UInt8 := if s.size ≤ 200000 then vry s.size ++ s.data.toList else []
def txE (s : ByteArray) : Int := if s.size ≤ 200000 then 0 else 4
theorem txL_len (s : ByteArray) : (txL s).length ≤ 200010 := by
  unfold txL
  split
  · have := (vry_len s.size).2
    have h : s.data.toList.length = s.size := by simp
    simp only [List.length_append, h]; omega
  · simp
end Go.Proofs.Ytkhdeoihjnpnaaa.Wire
