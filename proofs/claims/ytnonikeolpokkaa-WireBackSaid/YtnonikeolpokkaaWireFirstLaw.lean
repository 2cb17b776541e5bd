/- Plain laws behind WireFirst: no encoding begins another one; no first part of one is read. -/
import Derived.Test.YtnonikeolpokkaaWireUntext
import Derived.Test.YtnonikeolpokkaaWireBegins
namespace Go.Proofs.Ytnonikeolpokkaa
open Wire
set_option linter.unusedVariables false

theorem bg_of {l m : List UInt8} (h : bgB l m = true) : ∃ r, l = m ++ r := by
  simp only [bgB, Bool.and_eq_true, decide_eq_true_eq, beq_iff_eq] at h
  exact ⟨l.drop m.length, by rw [← h.2, List.length_take, Nat.min_eq_left h.1, List.take_append_drop]⟩
theorem bg_self (l : List UInt8) : bgB l l = true := by simp [bgB]
theorem bg_vry {n m : Nat} (hn : n < 18446744073709551616) (hm : m < 18446744073709551616) : bgB (vry m) (vry n) = decide (n = m) := by
  by_cases h : n = m
  · subst h; simp [bg_self]
  · rw [decide_eq_false h]
    cases hb : bgB (vry m) (vry n)
    · rfl
    · obtain ⟨r, hr⟩ := bg_of hb
      have h1 := rd_vry hm []
      rw [List.append_nil, hr, rd_vry hn r] at h1
      injection h1 with _ h1
      injection h1 with h1 _
      exact absurd h1 h
theorem tx_of {s : ByteArray} (h : s.size ≤ 200000) : txL s = vry s.size ++ s.data.toList := if_pos h
theorem bg_tx {s t : ByteArray} (hs : s.size ≤ 200000) (ht : t.size ≤ 200000) : bgB (txL t) (txL s) = decide (s = t) := by
  by_cases h : s = t
  · subst h; simp [bg_self]
  · rw [decide_eq_false h]
    cases hb : bgB (txL t) (txL s)
    · rfl
    · obtain ⟨r, hr⟩ := bg_of hb
      rw [tx_of hs, tx_of ht] at hr
      have h1 := rd_vry (n := t.size) (by omega) t.data.toList
      rw [hr, List.append_assoc, rd_vry (by omega)] at h1
      injection h1 with _ h1
      injection h1 with h1 _
      rw [h1, List.append_assoc] at hr
      have h2 := List.append_cancel_left hr
      have h3 : s.data.toList = t.data.toList := by
        have l1 : s.data.toList.length = s.size := by simp
        have l2 : t.data.toList.length = t.size := by simp
        have l3 := congrArg List.length h2
        rw [List.length_append, l1, l2] at l3
        have : r = [] := List.eq_nil_of_length_eq_zero (by omega)
        rw [this, List.append_nil] at h2
        exact h2.symm
      exact absurd (ByteArray.ext (Array.ext' h3)) h
theorem ck_zero {n : Nat} (h : n ≤ 200000) : ckB n 0 = true := by simp [ckB, h]
theorem uv_cut {n k : Nat} (hn : n < 18446744073709551616) (hk : k < (vry n).length) : uvE ((vry n).take k) 0 18446744073709551615 = 24 := by
  have hl := (vry_len n).2
  have h : uvR ((vry n).take k) 0 = (24, 0, 0) := rd_cut hn hk
  rw [uvE, if_pos (ck_zero (by rw [List.length_take]; omega)), h]
  rfl
theorem ut_cut {s : ByteArray} {k : Nat} (hs : s.size ≤ 200000) (hb : k ≤ 200000) (hk : k < (txL s).length) : utE ((txL s).take k) 0 200000 = 24 := by
  have hck : ckB ((txL s).take k).length 0 = true := ck_zero (by rw [List.length_take]; omega)
  rw [utE, if_pos hck, if_neg (by omega)]
  have hvl := (vry_len s.size).2
  have hsl : s.data.toList.length = s.size := by simp
  rw [tx_of hs, List.length_append, hsl] at hk
  by_cases h : k < (vry s.size).length
  · have h1 : (txL s).take k = (vry s.size).take k := by rw [tx_of hs, List.take_append_of_le_length (by omega)]
    have h2 : uvR ((txL s).take k) 0 = (24, 0, 0) := by rw [h1]; exact rd_cut (by omega) h
    have h3 : uvE ((txL s).take k) 0 (200000 : Int).toNat = 24 := by rw [uvE, if_pos hck, h2]; rfl
    rw [h3]; rfl
  · have h1 : (txL s).take k = vry s.size ++ s.data.toList.take (k - (vry s.size).length) := by
      rw [tx_of hs, List.take_append, List.take_of_length_le (by omega)]
    have h2 : uvR ((txL s).take k) 0 = (0, s.size, (vry s.size).length) := by
      rw [h1]; exact rd_vry (by omega) _
    have h3 : uvE ((txL s).take k) 0 (200000 : Int).toNat = 0 := by
      rw [uvE, if_pos hck, h2, if_neg (by simp)]
      exact if_neg (by show ¬ (200000 : Nat) < s.size; omega)
    rw [h3, if_neg (by simp), h2]
    exact if_pos (by rw [h1, List.length_append, List.length_take, hsl]; show ((((vry s.size).length + min (k - (vry s.size).length) s.size : Nat) : Int) - (0 + ((vry s.size).length : Int)) < (s.size : Int)); omega)
end Go.Proofs.Ytnonikeolpokkaa
