/- Contracts and laws of another chapter that this one leans on. Each states its conditions. -/
namespace Go.Proofs.Yteaaiacgebikpaa.Crc

/-- A turn of a number. -/
def tn (x : Nat) : Nat := if x % 2 = 0 then x / 2 else (x / 2) ^^^ 3988292384
/-- Some turns. -/
def tns : Nat → Nat → Nat
  | 0, x => x
  | k + 1, x => tn (tns k x)
/-- The table's element. -/
def el (x : Nat) : Nat := tns 8 x
/-- The state after a byte. -/
def st (x c : Nat) : Nat := (x / 256) ^^^ el ((x ^^^ c) % 256)
/-- The state after some bytes, by a table f. -/
def stf (f : Nat → Nat) (x c : Nat) : Nat := (x / 256) ^^^ f ((x ^^^ c) % 256)
def stsf (f : Nat → Nat) (x : Nat) (l : List UInt8) : Nat := l.foldl (fun x c => stf f x c.toNat) x
def sts (x : Nat) (l : List UInt8) : Nat := stsf el x l
/-- The complement. -/
def cpl (x : Nat) : Nat := 4294967295 - x
def nxt (s : Nat) (l : List UInt8) : Nat := cpl (sts (cpl s) l)
theorem xor_lt32 {a b : Nat} (ha : a < 4294967296) (hb : b < 4294967296) : a ^^^ b < 4294967296 := Nat.xor_lt_two_pow (n := 32) ha hb
theorem tn_lt {x : Nat} (h : x < 4294967296) : tn x < 4294967296 := by
  unfold tn
  split
  · omega
  · exact xor_lt32 (by omega) (by omega)
theorem tns_lt (k : Nat) {x : Nat} (h : x < 4294967296) : tns k x < 4294967296 := by
  induction k with
  | zero => exact h
  | succ k ih => exact tn_lt ih
theorem el_lt {x : Nat} (h : x < 4294967296) : el x < 4294967296 := tns_lt 8 h
theorem xor_div2 (x y : Nat) : (x ^^^ y) / 2 = (x / 2) ^^^ (y / 2) := by
  have := Nat.shiftRight_xor_distrib (a := x) (b := y) (i := 1)
  simpa [Nat.shiftRight_eq_div_pow] using this
theorem xor_div256 (x y : Nat) : (x ^^^ y) / 256 = (x / 256) ^^^ (y / 256) := by
  have := Nat.shiftRight_xor_distrib (a := x) (b := y) (i := 8)
  simpa [Nat.shiftRight_eq_div_pow] using this
theorem xor_divp (x y k : Nat) : (x ^^^ y) / 2 ^ k = (x / 2 ^ k) ^^^ (y / 2 ^ k) := by
  have := Nat.shiftRight_xor_distrib (a := x) (b := y) (i := k)
  simpa [Nat.shiftRight_eq_div_pow] using this
theorem xor_modp (x y k : Nat) : (x ^^^ y) % 2 ^ k = (x % 2 ^ k) ^^^ (y % 2 ^ k) := Nat.xor_mod_two_pow
theorem xor_mod256 (x y : Nat) : (x ^^^ y) % 256 = (x % 256) ^^^ (y % 256) := xor_modp x y 8
theorem xor_mod2 (x y : Nat) : (x ^^^ y) % 2 = (x % 2 + y % 2) % 2 := by
  have h := xor_modp x y 1
  simp only [Nat.pow_one] at h
  rw [h]
  rcases Nat.mod_two_eq_zero_or_one x with hx | hx <;> rcases Nat.mod_two_eq_zero_or_one y with hy | hy <;> simp [hx, hy]
theorem xor_cancel_left {a b c : Nat} (h : a ^^^ b = a ^^^ c) : b = c := by
  have : a ^^^ (a ^^^ b) = a ^^^ (a ^^^ c) := by rw [h]
  simpa [← Nat.xor_assoc] using this
theorem xor_cancel_right {a b c : Nat} (h : b ^^^ a = c ^^^ a) : b = c := by
  rw [Nat.xor_comm b, Nat.xor_comm c] at h; exact xor_cancel_left h
theorem tn_xor (x y : Nat) : tn (x ^^^ y) = tn x ^^^ tn y := by
  unfold tn
  rw [xor_mod2, xor_div2]
  rcases Nat.mod_two_eq_zero_or_one x with hx | hx <;> rcases Nat.mod_two_eq_zero_or_one y with hy | hy <;> simp [hx, hy]
  · rw [Nat.xor_assoc]
  · rw [Nat.xor_assoc, Nat.xor_assoc, Nat.xor_comm 3988292384]
  · rw [Nat.xor_assoc, ← Nat.xor_assoc 3988292384, Nat.xor_comm 3988292384, Nat.xor_assoc (y / 2), Nat.xor_self, Nat.xor_zero]
theorem tns_xor (k x y : Nat) : tns k (x ^^^ y) = tns k x ^^^ tns k y := by
  induction k with
  | zero => rfl
  | succ k ih => simp only [tns, ih, tn_xor]
theorem el_xor (x y : Nat) : el (x ^^^ y) = el x ^^^ el y := tns_xor 8 x y
/-- The index of the element with some highest byte. -/
def inv (c : Nat) : Nat := ((List.range 256).find? fun i => el i / 16777216 == c).getD 0
theorem inv_all : (List.range 256).all (fun i => inv (el i / 16777216) == i && el (inv i) / 16777216 == i && decide (inv i < 256)) = true := by decide +kernel
theorem inv_el {i : Nat} (h : i < 256) : inv (el i / 16777216) = i := by
  have := (List.all_eq_true.1 inv_all) i (List.mem_range.2 h)
  simp at this; exact this.1.1
theorem el_inv {i : Nat} (h : i < 256) : el (inv i) / 16777216 = i := by
  have := (List.all_eq_true.1 inv_all) i (List.mem_range.2 h)
  simp at this; exact this.1.2
theorem inv_lt {i : Nat} (h : i < 256) : inv i < 256 := by
  have := (List.all_eq_true.1 inv_all) i (List.mem_range.2 h)
  simp at this; exact this.2
theorem top_inj {i j : Nat} (hi : i < 256) (hj : j < 256) (h : el i / 16777216 = el j / 16777216) : i = j := by
  rw [← inv_el hi, ← inv_el hj, h]
theorem el_inj {i j : Nat} (hi : i < 256) (hj : j < 256) (h : el i = el j) : i = j := top_inj hi hj (by rw [h])
theorem st_lt {x c : Nat} (hx : x < 4294967296) : st x c < 4294967296 := xor_lt32 (by omega) (el_lt (by omega))
theorem stf_lt {f : Nat → Nat} (hf : ∀ i, i < 256 → f i < 4294967296) {x c : Nat} (hx : x < 4294967296) : stf f x c < 4294967296 := xor_lt32 (by omega) (hf _ (by omega))
theorem stsf_lt {f : Nat → Nat} (hf : ∀ i, i < 256 → f i < 4294967296) {x : Nat} (l : List UInt8) (hx : x < 4294967296) : stsf f x l < 4294967296 := by
  induction l generalizing x with
  | nil => exact hx
  | cons c l ih => exact ih (stf_lt hf hx)
theorem sts_lt {x : Nat} (l : List UInt8) (hx : x < 4294967296) : sts x l < 4294967296 := stsf_lt (fun _ h => el_lt (by omega)) l hx
theorem stsf_append (f : Nat → Nat) (x : Nat) (l m : List UInt8) : stsf f x (l ++ m) = stsf f (stsf f x l) m := by simp [stsf]
theorem sts_append (x : Nat) (l m : List UInt8) : sts x (l ++ m) = sts (sts x l) m := stsf_append _ _ _ _
theorem stsf_congr {f g : Nat → Nat} (h : ∀ i, i < 256 → f i = g i) (x : Nat) (l : List UInt8) : stsf f x l = stsf g x l := by
  induction l generalizing x with
  | nil => rfl
  | cons c l ih =>
    show stsf f (stf f x c.toNat) l = stsf g (stf g x c.toNat) l
    rw [ih, show stf f x c.toNat = stf g x c.toNat from by unfold stf; rw [h _ (by omega)]]
theorem cpl_lt (x : Nat) : cpl x < 4294967296 := by unfold cpl; omega
theorem cpl_cpl {x : Nat} (h : x < 4294967296) : cpl (cpl x) = x := by unfold cpl; omega
theorem cpl_inj {x y : Nat} (hx : x < 4294967296) (hy : y < 4294967296) (h : cpl x = cpl y) : x = y := by unfold cpl at h; omega
theorem nxt_lt (s : Nat) (l : List UInt8) : nxt s l < 4294967296 := cpl_lt _
theorem nxt_append {s : Nat} (l m : List UInt8) : nxt s (l ++ m) = nxt (nxt s l) m := by
  unfold nxt; rw [sts_append, cpl_cpl (sts_lt l (cpl_lt s))]
/-- The complement is the exclusive or with ones (the reference's way). -/
theorem cpl_xor {x : Nat} (h : x < 4294967296) : x ^^^ 4294967295 = cpl x := by
  have h1 : x ^^^ (2 ^ 32 - 1) = 2 ^ 32 - 1 - x := by
    apply Nat.eq_of_testBit_eq
    intro i
    rw [Nat.testBit_xor, Nat.testBit_two_pow_sub_one, show 2 ^ 32 - 1 - x = 2 ^ 32 - (x + 1) from by omega, Nat.testBit_two_pow_sub_succ (by omega)]
    by_cases hi : i < 32
    · simp [hi]
    · have : x.testBit i = false := Nat.testBit_lt_two_pow (Nat.lt_of_lt_of_le h (by
        have : 2 ^ 32 ≤ 2 ^ i := Nat.pow_le_pow_right (by omega) (by omega)
        simpa using this))
      simp [hi, this]
  exact h1

/-! The indexes of the table that the steps use; equal states in their high bytes have equal last indexes. -/
theorem st_top {x c : Nat} (hx : x < 4294967296) : st x c / 16777216 = el ((x ^^^ c) % 256) / 16777216 := by
  have h := xor_divp (x / 256) (el ((x ^^^ c) % 256)) 24
  simp only [show (2 : Nat) ^ 24 = 16777216 from rfl] at h
  unfold st
  rw [h, show x / 256 / 16777216 = 0 from by omega, Nat.zero_xor]
theorem st_idx {x y c d : Nat} (hx : x < 4294967296) (hy : y < 4294967296) (h : st x c / 16777216 = st y d / 16777216) : (x ^^^ c) % 256 = (y ^^^ d) % 256 := by
  rw [st_top hx, st_top hy] at h
  exact top_inj (by omega) (by omega) h
theorem st_step {x y c d : Nat} (k : Nat) (hk : k ≤ 24) (hx : x < 4294967296) (hy : y < 4294967296) (h : st x c / 2 ^ k = st y d / 2 ^ k) :
    (x ^^^ c) % 256 = (y ^^^ d) % 256 ∧ x / 2 ^ (k + 8) = y / 2 ^ (k + 8) := by
  have h24 : st x c / 16777216 = st y d / 16777216 := by
    have e : (16777216 : Nat) = 2 ^ k * 2 ^ (24 - k) := by rw [← Nat.pow_add, show k + (24 - k) = 24 from by omega]
    rw [e, ← Nat.div_div_eq_div_mul, ← Nat.div_div_eq_div_mul, h]
  have hi := st_idx hx hy h24
  refine ⟨hi, ?_⟩
  unfold st at h
  rw [xor_divp, xor_divp, hi] at h
  have h := xor_cancel_right h
  rw [Nat.pow_add, Nat.mul_comm, ← Nat.div_div_eq_div_mul, ← Nat.div_div_eq_div_mul]
  exact h
theorem xor_mod_cancel {x c d : Nat} (hc : c < 256) (hd : d < 256) (h : (x ^^^ c) % 256 = (x ^^^ d) % 256) : c = d := by
  rw [xor_mod256, xor_mod256] at h
  have := xor_cancel_left h
  omega
theorem st_inj_x {x y c : Nat} (hx : x < 4294967296) (hy : y < 4294967296) (h : st x c = st y c) : x = y := by
  obtain ⟨h1, h2⟩ := st_step 0 (by omega) hx hy (by rw [h])
  rw [xor_mod256, xor_mod256 y] at h1
  have h1 := xor_cancel_right h1
  simp only [Nat.zero_add, show (2 : Nat) ^ 8 = 256 from rfl] at h2
  omega
theorem sts_inj_x {x y : Nat} (l : List UInt8) (hx : x < 4294967296) (hy : y < 4294967296) (h : sts x l = sts y l) : x = y := by
  induction l generalizing x y with
  | nil => exact h
  | cons c l ih => exact st_inj_x hx hy (ih (st_lt hx) (st_lt hy) h)
theorem sts_snoc (x : Nat) (l : List UInt8) (c : UInt8) : sts x (l ++ [c]) = st (sts x l) c.toNat := by rw [sts_append]; rfl
/-- At most four bytes, from one state, are told by the state behind them. -/
theorem sts_inj4 {x : Nat} (hx : x < 4294967296) : ∀ (n : Nat) (k : Nat) (u v : List UInt8), u.length = n → v.length = n → k + 8 * n ≤ 32 →
    sts x u / 2 ^ k = sts x v / 2 ^ k → u = v
  | 0, _, u, v, hu, hv, _, _ => by rw [List.eq_nil_of_length_eq_zero hu, List.eq_nil_of_length_eq_zero hv]
  | n + 1, k, u, v, hu, hv, hk, h => by
    rcases List.eq_nil_or_concat u with rfl | ⟨u', c, rfl⟩
    · simp at hu
    rcases List.eq_nil_or_concat v with rfl | ⟨v', d, rfl⟩
    · simp at hv
    simp only [List.concat_eq_append] at *
    rw [sts_snoc, sts_snoc] at h
    obtain ⟨h1, h2⟩ := st_step k (by omega) (sts_lt u' hx) (sts_lt v' hx) h
    have e := sts_inj4 hx n (k + 8) u' v' (by simpa using hu) (by simpa using hv) (by omega) h2
    subst e
    have := xor_mod_cancel c.toNat_lt d.toNat_lt h1
    rw [UInt8.toNat.inj this]
theorem sts_four {x : Nat} (hx : x < 4294967296) (u v s : List UInt8) (h : u.length = v.length) (h4 : u.length ≤ 4) (he : sts x (u ++ s) = sts x (v ++ s)) : u = v := by
  rw [sts_append, sts_append] at he
  have := sts_inj_x s (sts_lt u hx) (sts_lt v hx) he
  exact sts_inj4 hx u.length 0 u v rfl h.symm (by omega) (by rw [this])
theorem nxt_inj {s : Nat} {l m : List UInt8} (h : nxt s l = nxt s m) : sts (cpl s) l = sts (cpl s) m :=
  cpl_inj (sts_lt _ (cpl_lt _)) (sts_lt _ (cpl_lt _)) h
/-- Strings that differ within four bytes have different checksums. -/
theorem nxt_four (s : Nat) (p u v r : List UInt8) (h : u.length = v.length) (h4 : u.length ≤ 4) (he : nxt s (p ++ u ++ r) = nxt s (p ++ v ++ r)) : u = v := by
  have := nxt_inj he
  rw [List.append_assoc, List.append_assoc, sts_append, sts_append (cpl s) p] at this
  exact sts_four (sts_lt p (cpl_lt s)) u v r h h4 this

/-! Four bytes make any checksum. -/
/-- The states backwards from a wanted checksum. -/
def wst (q : Nat) : Nat → Nat
  | 0 => cpl q
  | m + 1 => (wst q m ^^^ el (inv (wst q m / 16777216))) * 256 % 4294967296
/-- The index of the table that step j uses. -/
def kk (q j : Nat) : Nat := inv (wst q (3 - j) / 16777216)
/-- The states forwards from a checksum. -/
def xst (s q : Nat) : Nat → Nat
  | 0 => cpl s
  | m + 1 => (xst s q m / 256) ^^^ el (kk q m)
def pat (s q j : Nat) : Nat := kk q j ^^^ (xst s q j % 256)
theorem wst_lt (q m : Nat) : wst q m < 4294967296 := by
  cases m with
  | zero => exact cpl_lt q
  | succ m => unfold wst; omega
theorem kk_lt (q j : Nat) : kk q j < 256 := inv_lt (by have := wst_lt q (3 - j); omega)
theorem xst_lt (s q m : Nat) : xst s q m < 4294967296 := by
  induction m with
  | zero => exact cpl_lt s
  | succ m ih => exact xor_lt32 (by omega) (el_lt (by have := kk_lt q m; omega))
theorem pat_lt (s q j : Nat) : pat s q j < 256 := Nat.xor_lt_two_pow (n := 8) (kk_lt q j) (by omega)
theorem wst_back (q m : Nat) : wst q m = wst q (m + 1) / 256 ^^^ el (inv (wst q m / 16777216)) := by
  have h1 := wst_lt q m
  have h2 : (wst q m ^^^ el (inv (wst q m / 16777216))) / 16777216 = 0 := by
    have h := xor_divp (wst q m) (el (inv (wst q m / 16777216))) 24
    simp only [show (2 : Nat) ^ 24 = 16777216 from rfl] at h
    rw [h, el_inv (by omega), Nat.xor_self]
  have h3 : wst q (m + 1) / 256 = wst q m ^^^ el (inv (wst q m / 16777216)) := by
    show (wst q m ^^^ el (inv (wst q m / 16777216))) * 256 % 4294967296 / 256 = _
    omega
  rw [h3, Nat.xor_assoc, Nat.xor_self, Nat.xor_zero]
theorem meet_at (s q : Nat) : ∀ j, j ≤ 4 → xst s q j / 2 ^ (32 - 8 * j) = wst q (4 - j) / 2 ^ (32 - 8 * j)
  | 0, _ => by
    have h1 := xst_lt s q 0
    have h2 := wst_lt q 4
    show xst s q 0 / 4294967296 = wst q 4 / 4294967296
    omega
  | j + 1, h => by
    have ih := meet_at s q j (by omega)
    have hb := wst_back q (3 - j)
    rw [show 3 - j + 1 = 4 - j from by omega] at hb
    rw [show 4 - (j + 1) = 3 - j from by omega, hb]
    show (xst s q j / 256 ^^^ el (kk q j)) / 2 ^ (32 - 8 * (j + 1)) = _
    rw [xor_divp, xor_divp]
    have e : ∀ z : Nat, z / 256 / 2 ^ (32 - 8 * (j + 1)) = z / 2 ^ (32 - 8 * j) := fun z => by
      rw [Nat.div_div_eq_div_mul, show 32 - 8 * j = 8 + (32 - 8 * (j + 1)) from by omega, Nat.pow_add]
    rw [e, e, ih]
    rfl
theorem st_pat (s q j : Nat) : st (xst s q j) (pat s q j) = xst s q (j + 1) := by
  show _ = (xst s q j / 256) ^^^ el (kk q j)
  unfold st
  congr 2
  unfold pat
  rw [xor_mod256, xor_mod256 (kk q j), Nat.mod_eq_of_lt (kk_lt q j), Nat.mod_mod, Nat.xor_comm (kk q j), ← Nat.xor_assoc, Nat.xor_self, Nat.zero_xor]
/-- The bytes of an array. -/
def bys (n : Nat) (f : Nat → Nat) : List UInt8 := (List.range n).map fun j => UInt8.ofNat (f j)
theorem ofNat_toNat {x : Nat} (h : x < 256) : (UInt8.ofNat x).toNat = x := by rw [UInt8.toNat_ofNat']; omega
theorem patch_right (s q : Nat) (hq : q < 4294967296) : nxt s (bys 4 (pat s q)) = q := by
  have h : sts (cpl s) (bys 4 (pat s q)) = xst s q 4 := by
    show st (st (st (st (xst s q 0) (UInt8.ofNat (pat s q 0)).toNat) (UInt8.ofNat (pat s q 1)).toNat) (UInt8.ofNat (pat s q 2)).toNat) (UInt8.ofNat (pat s q 3)).toNat = _
    rw [ofNat_toNat (pat_lt s q 0), st_pat, ofNat_toNat (pat_lt s q 1), st_pat, ofNat_toNat (pat_lt s q 2), st_pat, ofNat_toNat (pat_lt s q 3), st_pat]
  have hm := meet_at s q 4 (by omega)
  simp only [show 32 - 8 * 4 = 0 from rfl, Nat.pow_zero, Nat.div_one] at hm
  unfold nxt
  rw [h, hm]
  exact cpl_cpl hq
theorem bys_inj {n : Nat} {f g : Nat → Nat} (hf : ∀ i, i < n → f i < 256) (hg : ∀ i, i < n → g i < 256) (h : bys n f = bys n g) : ∀ i, i < n → f i = g i := fun i hi => by
  have h1 : (bys n f)[i]? = (bys n g)[i]? := by rw [h]
  simp [bys, hi] at h1
  have h2 := congrArg UInt8.toNat h1
  rwa [ofNat_toNat (hf i hi), ofNat_toNat (hg i hi)] at h2
theorem patch_only (s q : Nat) (hq : q < 4294967296) (f : Nat → Nat) (hf : ∀ i, i < 4 → f i < 256) : nxt s (bys 4 f) = q ↔ ∀ i, i < 4 → f i = pat s q i := by
  constructor
  · intro h
    have h2 := patch_right s q hq
    have h3 := nxt_four s [] (bys 4 f) (bys 4 (pat s q)) [] (by simp [bys]) (by simp [bys]) (by simpa using h.trans h2.symm)
    exact bys_inj hf (fun i _ => pat_lt s q i) h3
  · intro h
    have : bys 4 f = bys 4 (pat s q) := List.map_congr_left fun i hi => by rw [h i (List.mem_range.1 hi)]
    rw [this]; exact patch_right s q hq
end Go.Proofs.Yteaaiacgebikpaa.Crc
