/- Plain facts on the checksum's table and states: numbers and lists alone, no program in sight. No conditions beyond those that each fact states. -/
namespace Go.Proofs.Ytjdoaoilfaligaa.Crc

/-- A turn of a number. -/
def tn (x : Nat) : Nat := if x % 2 = 0 then x / 2 else (x / 2) ^^^ 3988292384
/-- Some turns. -/
def tns : Nat → Nat → Nat
  | 0, x => x
  | k + 1, x => tn (tns k x)
/-- The table's element. -/
def el (x : Nat) : Nat := tns 8 x
/-- The state after a byte. -/
def st (x c : Nat) : Nat := (x / 256) ^^^ el ((x ^^^ c) % 256)
/-- The state after some bytes, by a table f. -/
def stf (f : Nat → Nat) (x c : Nat) : Nat := (x / 256) ^^^ f ((x ^^^ c) % 256)
def stsf (f : Nat → Nat) (x : Nat) (l : List UInt8) : Nat := l.foldl (fun x c => stf f x c.toNat) x
def sts (x : Nat) (l : List UInt8) : Nat := stsf el x l
/-- The complement. -/
def cpl (x : Nat) : Nat := 4294967295 - x
def nxt (s : Nat) (l : List UInt8) : Nat := cpl (sts (cpl s) l)

theorem xor_lt32 {a b : Nat} (ha : a < 4294967296) (hb : b < 4294967296) : a ^^^ b < 4294967296 := Nat.xor_lt_two_pow (n := 32) ha hb
theorem tn_lt {x : Nat} (h : x < 4294967296) : tn x < 4294967296 := by
  unfold tn
  split
  · omega
  · exact xor_lt32 (by omega) (by omega)
theorem tns_lt (k : Nat) {x : Nat} (h : x < 4294967296) : tns k x < 4294967296 := by
  induction k with
  | zero => exact h
  | succ k ih => exact tn_lt ih
theorem el_lt {x : Nat} (h : x < 4294967296) : el x < 4294967296 := tns_lt 8 h

theorem xor_div2 (x y : Nat) : (x ^^^ y) / 2 = (x / 2) ^^^ (y / 2) := by
  have := Nat.shiftRight_xor_distrib (a := x) (b := y) (i := 1)
  simpa [Nat.shiftRight_eq_div_pow] using this
theorem xor_div256 (x y : Nat) : (x ^^^ y) / 256 = (x / 256) ^^^ (y / 256) := by
  have := Nat.shiftRight_xor_distrib (a := x) (b := y) (i := 8)
  simpa [Nat.shiftRight_eq_div_pow] using this
theorem xor_divp (x y k : Nat) : (x ^^^ y) / 2 ^ k = (x / 2 ^ k) ^^^ (y / 2 ^ k) := by
  have := Nat.shiftRight_xor_distrib (a := x) (b := y) (i := k)
  simpa [Nat.shiftRight_eq_div_pow] using this
theorem xor_modp (x y k : Nat) : (x ^^^ y) % 2 ^ k = (x % 2 ^ k) ^^^ (y % 2 ^ k) := Nat.xor_mod_two_pow
theorem xor_mod256 (x y : Nat) : (x ^^^ y) % 256 = (x % 256) ^^^ (y % 256) := xor_modp x y 8
theorem xor_mod2 (x y : Nat) : (x ^^^ y) % 2 = (x % 2 + y % 2) % 2 := by
  have h := xor_modp x y 1
  simp only [Nat.pow_one] at h
  rw [h]
  rcases Nat.mod_two_eq_zero_or_one x with hx | hx <;> rcases Nat.mod_two_eq_zero_or_one y with hy | hy <;> simp [hx, hy]
theorem xor_cancel_left {a b c : Nat} (h : a ^^^ b = a ^^^ c) : b = c := by
  have : a ^^^ (a ^^^ b) = a ^^^ (a ^^^ c) := by rw [h]
  simpa [← Nat.xor_assoc] using this
theorem xor_cancel_right {a b c : Nat} (h : b ^^^ a = c ^^^ a) : b = c := by
  rw [Nat.xor_comm b, Nat.xor_comm c] at h; exact xor_cancel_left h

theorem tn_xor (x y : Nat) : tn (x ^^^ y) = tn x ^^^ tn y := by
  unfold tn
  rw [xor_mod2, xor_div2]
  rcases Nat.mod_two_eq_zero_or_one x with hx | hx <;> rcases Nat.mod_two_eq_zero_or_one y with hy | hy <;> simp [hx, hy]
  · rw [Nat.xor_assoc]
  · rw [Nat.xor_assoc, Nat.xor_assoc, Nat.xor_comm 3988292384]
  · rw [Nat.xor_assoc, ← Nat.xor_assoc 3988292384, Nat.xor_comm 3988292384, Nat.xor_assoc (y / 2), Nat.xor_self, Nat.xor_zero]
theorem tns_xor (k x y : Nat) : tns k (x ^^^ y) = tns k x ^^^ tns k y := by
  induction k with
  | zero => rfl
  | succ k ih => simp only [tns, ih, tn_xor]
theorem el_xor (x y : Nat) : el (x ^^^ y) = el x ^^^ el y := tns_xor 8 x y

/-- The index of the element with some highest byte. -/
def inv (c : Nat) : Nat := ((List.range 256).find? fun i => el i / 16777216 == c).getD 0
theorem inv_all : (List.range 256).all (fun i => inv (el i / 16777216) == i && el (inv i) / 16777216 == i && decide (inv i < 256)) = true := by decide +kernel
theorem inv_el {i : Nat} (h : i < 256) : inv (el i / 16777216) = i := by
  have := (List.all_eq_true.1 inv_all) i (List.mem_range.2 h)
  simp at this; exact this.1.1
theorem el_inv {i : Nat} (h : i < 256) : el (inv i) / 16777216 = i := by
  have := (List.all_eq_true.1 inv_all) i (List.mem_range.2 h)
  simp at this; exact this.1.2
theorem inv_lt {i : Nat} (h : i < 256) : inv i < 256 := by
  have := (List.all_eq_true.1 inv_all) i (List.mem_range.2 h)
  simp at this; exact this.2
theorem top_inj {i j : Nat} (hi : i < 256) (hj : j < 256) (h : el i / 16777216 = el j / 16777216) : i = j := by
  rw [← inv_el hi, ← inv_el hj, h]
theorem el_inj {i j : Nat} (hi : i < 256) (hj : j < 256) (h : el i = el j) : i = j := top_inj hi hj (by rw [h])

theorem st_lt {x c : Nat} (hx : x < 4294967296) : st x c < 4294967296 := xor_lt32 (by omega) (el_lt (by omega))
theorem stf_lt {f : Nat → Nat} (hf : ∀ i, i < 256 → f i < 4294967296) {x c : Nat} (hx : x < 4294967296) : stf f x c < 4294967296 := xor_lt32 (by omega) (hf _ (by omega))
theorem stsf_lt {f : Nat → Nat} (hf : ∀ i, i < 256 → f i < 4294967296) {x : Nat} (l : List UInt8) (hx : x < 4294967296) : stsf f x l < 4294967296 := by
  induction l generalizing x with
  | nil => exact hx
  | cons c l ih => exact ih (stf_lt hf hx)
theorem sts_lt {x : Nat} (l : List UInt8) (hx : x < 4294967296) : sts x l < 4294967296 := stsf_lt (fun _ h => el_lt (by omega)) l hx
theorem stsf_append (f : Nat → Nat) (x : Nat) (l m : List UInt8) : stsf f x (l ++ m) = stsf f (stsf f x l) m := by simp [stsf]
theorem sts_append (x : Nat) (l m : List UInt8) : sts x (l ++ m) = sts (sts x l) m := stsf_append _ _ _ _
theorem stsf_congr {f g : Nat → Nat} (h : ∀ i, i < 256 → f i = g i) (x : Nat) (l : List UInt8) : stsf f x l = stsf g x l := by
  induction l generalizing x with
  | nil => rfl
  | cons c l ih =>
    show stsf f (stf f x c.toNat) l = stsf g (stf g x c.toNat) l
    rw [ih, show stf f x c.toNat = stf g x c.toNat from by unfold stf; rw [h _ (by omega)]]
theorem cpl_lt (x : Nat) : cpl x < 4294967296 := by unfold cpl; omega
theorem cpl_cpl {x : Nat} (h : x < 4294967296) : cpl (cpl x) = x := by unfold cpl; omega
theorem cpl_inj {x y : Nat} (hx : x < 4294967296) (hy : y < 4294967296) (h : cpl x = cpl y) : x = y := by unfold cpl at h; omega
theorem nxt_lt (s : Nat) (l : List UInt8) : nxt s l < 4294967296 := cpl_lt _
theorem nxt_append {s : Nat} (l m : List UInt8) : nxt s (l ++ m) = nxt (nxt s l) m := by
  unfold nxt; rw [sts_append, cpl_cpl (sts_lt l (cpl_lt s))]
/-- The complement is the exclusive or with ones (the reference's way). -/
theorem cpl_xor {x : Nat} (h : x < 4294967296) : x ^^^ 4294967295 = cpl x := by
  have h1 : x ^^^ (2 ^ 32 - 1) = 2 ^ 32 - 1 - x := by
    apply Nat.eq_of_testBit_eq
    intro i
    rw [Nat.testBit_xor, Nat.testBit_two_pow_sub_one, show 2 ^ 32 - 1 - x = 2 ^ 32 - (x + 1) from by omega, Nat.testBit_two_pow_sub_succ (by omega)]
    by_cases hi : i < 32
    · simp [hi]
    · have : x.testBit i = false := Nat.testBit_lt_two_pow (Nat.lt_of_lt_of_le h (by
        have : 2 ^ 32 ≤ 2 ^ i := Nat.pow_le_pow_right (by omega) (by omega)
        simpa using this))
      simp [hi, this]
  exact h1

/-! The indexes of the table that the steps use; equal states in their high bytes have equal last indexes. -/
theorem st_top {x c : Nat} (hx : x < 4294967296) : st x c / 16777216 = el ((x ^^^ c) % 256) / 16777216 := by
  have h := xor_divp (x / 256) (el ((x ^^^ c) % 256)) 24
  simp only [show (2 : Nat) ^ 24 = 16777216 from rfl] at h
  unfold st
  rw [h, show x / 256 / 16777216 = 0 from by omega, Nat.zero_xor]
theorem st_idx {x y c d : Nat} (hx : x < 4294967296) (hy : y < 4294967296) (h : st x c / 16777216 = st y d / 16777216) : (x ^^^ c) % 256 = (y ^^^ d) % 256 := by
  rw [st_top hx, st_top hy] at h
  exact top_inj (by omega) (by omega) h
theorem st_step {x y c d : Nat} (k : Nat) (hk : k ≤ 24) (hx : x < 4294967296) (hy : y < 4294967296) (h : st x c / 2 ^ k = st y d / 2 ^ k) :
    (x ^^^ c) % 256 = (y ^^^ d) % 256 ∧ x / 2 ^ (k + 8) = y / 2 ^ (k + 8) := by
  have h24 : st x c / 16777216 = st y d / 16777216 := by
    have e : (16777216 : Nat) = 2 ^ k * 2 ^ (24 - k) := by rw [← Nat.pow_add, show k + (24 - k) = 24 from by omega]
    rw [e, ← Nat.div_div_eq_div_mul, ← Nat.div_div_eq_div_mul, h]
  have hi := st_idx hx hy h24
  refine ⟨hi, ?_⟩
  unfold st at h
  rw [xor_divp, xor_divp, hi] at h
  have h := xor_cancel_right h
  rw [Nat.pow_add, Nat.mul_comm, ← Nat.div_div_eq_div_mul, ← Nat.div_div_eq_div_mul]
  exact h
theorem xor_mod_cancel {x c d : Nat} (hc : c < 256) (hd : d < 256) (h : (x ^^^ c) % 256 = (x ^^^ d) % 256) : c = d := by
  rw [xor_mod256, xor_mod256] at h
  have := xor_cancel_left h
  omega
theorem st_inj_x {x y c : Nat} (hx : x < 4294967296) (hy : y < 4294967296) (h : st x c = st y c) : x = y := by
  obtain ⟨h1, h2⟩ := st_step 0 (by omega) hx hy (by rw [h])
  rw [xor_mod256, xor_mod256 y] at h1
  have h1 := xor_cancel_right h1
  simp only [Nat.zero_add, show (2 : Nat) ^ 8 = 256 from rfl] at h2
  omega
theorem sts_inj_x {x y : Nat} (l : List UInt8) (hx : x < 4294967296) (hy : y < 4294967296) (h : sts x l = sts y l) : x = y := by
  induction l generalizing x y with
  | nil => exact h
  | cons c l ih => exact st_inj_x hx hy (ih (st_lt hx) (st_lt hy) h)
theorem sts_snoc (x : Nat) (l : List UInt8) (c : UInt8) : sts x (l ++ [c]) = st (sts x l) c.toNat := by rw [sts_append]; rfl

/-- At most four bytes, from one state, are told by the state behind them. -/
theorem sts_inj4 {x : Nat} (hx : x < 4294967296) : ∀ (n : Nat) (k : Nat) (u v : List UInt8), u.length = n → v.length = n → k + 8 * n ≤ 32 →
    sts x u / 2 ^ k = sts x v / 2 ^ k → u = v
  | 0, _, u, v, hu, hv, _, _ => by rw [List.eq_nil_of_length_eq_zero hu, List.eq_nil_of_length_eq_zero hv]
  | n + 1, k, u, v, hu, hv, hk, h => by
    rcases List.eq_nil_or_concat u with rfl | ⟨u', c, rfl⟩
    · simp at hu
    rcases List.eq_nil_or_concat v with rfl | ⟨v', d, rfl⟩
    · simp at hv
    simp only [List.concat_eq_append] at *
    rw [sts_snoc, sts_snoc] at h
    obtain ⟨h1, h2⟩ := st_step k (by omega) (sts_lt u' hx) (sts_lt v' hx) h
    have e := sts_inj4 hx n (k + 8) u' v' (by simpa using hu) (by simpa using hv) (by omega) h2
    subst e
    have := xor_mod_cancel c.toNat_lt d.toNat_lt h1
    rw [UInt8.toNat.inj this]
theorem sts_four {x : Nat} (hx : x < 4294967296) (u v s : List UInt8) (h : u.length = v.length) (h4 : u.length ≤ 4) (he : sts x (u ++ s) = sts x (v ++ s)) : u = v := by
  rw [sts_append, sts_append] at he
  have := sts_inj_x s (sts_lt u hx) (sts_lt v hx) he
  exact sts_inj4 hx u.length 0 u v rfl h.symm (by omega) (by rw [this])
theorem nxt_inj {s : Nat} {l m : List UInt8} (h : nxt s l = nxt s m) : sts (cpl s) l = sts (cpl s) m :=
  cpl_inj (sts_lt _ (cpl_lt _)) (sts_lt _ (cpl_lt _)) h
/-- Strings that differ within four bytes have different checksums. -/
theorem nxt_four (s : Nat) (p u v r : List UInt8) (h : u.length = v.length) (h4 : u.length ≤ 4) (he : nxt s (p ++ u ++ r) = nxt s (p ++ v ++ r)) : u = v := by
  have := nxt_inj he
  rw [List.append_assoc, List.append_assoc, sts_append, sts_append (cpl s) p] at this
  exact sts_four (sts_lt p (cpl_lt s)) u v r h h4 this
end Go.Proofs.Ytjdoaoilfaligaa.Crc
