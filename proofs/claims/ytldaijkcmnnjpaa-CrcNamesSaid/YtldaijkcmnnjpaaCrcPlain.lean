/- Contracts and laws of a chapter that its statement of names leans on. Each states its conditions. -/
namespace Go.Proofs.Ytldaijkcmnnjpaa.Crc
/-- A turn of a number. -/
def tn (x : Nat) : Nat := if x % 2 = 0 then x / 2 else (x / 2) ^^^ 3988292384
/-- Some turns. -/
def tns : Nat → Nat → Nat
  | 0, x => x
  | k + 1, x => tn (tns k x)
/-- The table's element. -/
def el (x : Nat) : Nat := tns 8 x
/-- The state after some bytes, by a table f. -/
def stf (f : Nat → Nat) (x c : Nat) : Nat := (x / 256) ^^^ f ((x ^^^ c) % 256)
def stsf (f : Nat → Nat) (x : Nat) (l : List UInt8) : Nat := l.foldl (fun x c => stf f x c.toNat) x
def sts (x : Nat) (l : List UInt8) : Nat := stsf el x l
/-- The complement. -/
def cpl (x : Nat) : Nat := 4294967295 - x
def nxt (s : Nat) (l : List UInt8) : Nat := cpl (sts (cpl s) l)
theorem xor_lt32 {a b : Nat} (ha : a < 4294967296) (hb : b < 4294967296) : a ^^^ b < 4294967296 := Nat.xor_lt_two_pow (n := 32) ha hb
theorem tn_lt {x : Nat} (h : x < 4294967296) : tn x < 4294967296 := by
  unfold tn
  split
  · omega
  · exact xor_lt32 (by omega) (by omega)
theorem tns_lt (k : Nat) {x : Nat} (h : x < 4294967296) : tns k x < 4294967296 := by
  induction k with
  | zero => exact h
  | succ k ih => exact tn_lt ih
theorem el_lt {x : Nat} (h : x < 4294967296) : el x < 4294967296 := tns_lt 8 h
theorem xor_modp (x y k : Nat) : (x ^^^ y) % 2 ^ k = (x % 2 ^ k) ^^^ (y % 2 ^ k) := Nat.xor_mod_two_pow
theorem xor_mod256 (x y : Nat) : (x ^^^ y) % 256 = (x % 256) ^^^ (y % 256) := xor_modp x y 8
theorem stf_lt {f : Nat → Nat} (hf : ∀ i, i < 256 → f i < 4294967296) {x c : Nat} (hx : x < 4294967296) : stf f x c < 4294967296 := xor_lt32 (by omega) (hf _ (by omega))
theorem stsf_lt {f : Nat → Nat} (hf : ∀ i, i < 256 → f i < 4294967296) {x : Nat} (l : List UInt8) (hx : x < 4294967296) : stsf f x l < 4294967296 := by
  induction l generalizing x with
  | nil => exact hx
  | cons c l ih => exact ih (stf_lt hf hx)
theorem sts_lt {x : Nat} (l : List UInt8) (hx : x < 4294967296) : sts x l < 4294967296 := stsf_lt (fun _ h => el_lt (by omega)) l hx
theorem stsf_append (f : Nat → Nat) (x : Nat) (l m : List UInt8) : stsf f x (l ++ m) = stsf f (stsf f x l) m := by simp [stsf]
theorem sts_append (x : Nat) (l m : List UInt8) : sts x (l ++ m) = sts (sts x l) m := stsf_append _ _ _ _
theorem stsf_congr {f g : Nat → Nat} (h : ∀ i, i < 256 → f i = g i) (x : Nat) (l : List UInt8) : stsf f x l = stsf g x l := by
  induction l generalizing x with
  | nil => rfl
  | cons c l ih =>
    show stsf f (stf f x c.toNat) l = stsf g (stf g x c.toNat) l
    rw [ih, show stf f x c.toNat = stf g x c.toNat from by unfold stf; rw [h _ (by omega)]]
theorem cpl_lt (x : Nat) : cpl x < 4294967296 := by unfold cpl; omega
/-- The complement is the exclusive or with ones (the reference's way). -/
theorem cpl_xor {x : Nat} (h : x < 4294967296) : x ^^^ 4294967295 = cpl x := by
  have h1 : x ^^^ (2 ^ 32 - 1) = 2 ^ 32 - 1 - x := by
    apply Nat.eq_of_testBit_eq
    intro i
    rw [Nat.testBit_xor, Nat.testBit_two_pow_sub_one, show 2 ^ 32 - 1 - x = 2 ^ 32 - (x + 1) from by omega, Nat.testBit_two_pow_sub_succ (by omega)]
    by_cases hi : i < 32
    · simp [hi]
    · have : x.testBit i = false := Nat.testBit_lt_two_pow (Nat.lt_of_lt_of_le h (by
        have : 2 ^ 32 ≤ 2 ^ i := Nat.pow_le_pow_right (by omega) (by omega)
        simpa using this))
      simp [hi, this]
  exact h1

/-! The indexes of the table that the steps use; equal states in their high bytes have equal last indexes. -/

end Go.Proofs.Ytldaijkcmnnjpaa.Crc
