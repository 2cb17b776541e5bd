/- A container of which a byte is changed, left out or added is none. Plain Lean, no program. -/
import Derived.Test.YteaaiacgebikpaaSecLaw
namespace Go.Proofs.Yteaaiacgebikpaa
open Go.RowKit Wire Crc
set_option linter.unusedVariables false

/-- Strings of one length that differ at one place at most. -/
def Chg (l m : List UInt8) : Prop := ∃ k, l.take k = m.take k ∧ l.drop (k + 1) = m.drop (k + 1) ∧ l.length = m.length
theorem chg_crc {l m : List UInt8} (h : Chg l m) (e : nxt 0 l = nxt 0 m) : l = m := by
  obtain ⟨k, h1, h2, h3⟩ := h
  have e1 : l = l.take k ++ (l.drop k).take 1 ++ l.drop (k + 1) := by
    rw [List.append_assoc, ← List.drop_drop, List.take_append_drop, List.take_append_drop]
  have e2 : m = m.take k ++ (m.drop k).take 1 ++ m.drop (k + 1) := by
    rw [List.append_assoc, ← List.drop_drop, List.take_append_drop, List.take_append_drop]
  rw [← h1, ← h2] at e2
  rw [e1, e2] at e
  have := nxt_four 0 (l.take k) ((l.drop k).take 1) ((m.drop k).take 1) (l.drop (k + 1)) (by simp [h3]) (by simp; omega) e
  rw [e1, e2, this]
theorem chg_split {x x' y y' : List UInt8} (h : Chg (x ++ y) (x' ++ y')) (hl : x.length = x'.length) : (x = x' ∧ Chg y y') ∨ (Chg x x' ∧ y = y') := by
  obtain ⟨k, h1, h2, h3⟩ := h
  rw [List.length_append, List.length_append] at h3
  by_cases hk : k < x.length
  · rw [List.take_append_of_le_length (by omega), List.take_append_of_le_length (by omega)] at h1
    rw [List.drop_append_of_le_length (by omega), List.drop_append_of_le_length (by omega)] at h2
    obtain ⟨e1, e2⟩ := List.append_inj h2 (by rw [List.length_drop, List.length_drop, hl])
    exact .inr ⟨⟨k, h1, e1, hl⟩, e2⟩
  · rw [List.take_append, List.take_append, List.take_of_length_le (by omega), List.take_of_length_le (l := x') (by omega)] at h1
    obtain ⟨e1, e2⟩ := List.append_inj h1 hl
    rw [List.drop_append, List.drop_append, List.drop_of_length_le (by omega), List.drop_of_length_le (l := x') (by omega), List.nil_append, List.nil_append, ← hl] at h2
    refine .inl ⟨e1, k - x.length, ?_, ?_, by omega⟩
    · rw [← hl] at e2; exact e2
    · rw [show k - x.length + 1 = k + 1 - x.length from by omega]; exact h2
theorem dir_head {a a' : Nat} {p p' : Nat × List UInt8} {D D' : List UInt8} (ha : a < 4294967296) (hl : p.2.length < 4294967296) (hk : p.1 < 256) (ha' : a' < 4294967296) (hl' : p'.2.length < 4294967296) (hk' : p'.1 < 256)
    (h : entL a p ++ D = entL a' p' ++ D') : a = a' ∧ p.2.length = p'.2.length ∧ nxt 0 p.2 = nxt 0 p'.2 ∧ D = D' := by
  obtain ⟨e1, e5, e9, e0, e13⟩ := entL_num D ha hl hk
  obtain ⟨f1, f5, f9, f0, f13⟩ := entL_num D' ha' hl' hk'
  rw [h] at e1 e5 e9 e13
  exact ⟨e1.symm.trans f1, e5.symm.trans f5, e9.symm.trans f9, e13.symm.trans f13⟩
theorem sumL_cons (p : Nat × List UInt8) (L : List (Nat × List UInt8)) : sumL (p :: L) = p.2.length + sumL L := by simp [sumL, lens]
theorem dir_sum {L : List (Nat × List UInt8)} : ∀ {L' : List (Nat × List UInt8)} {a : Nat}, L.length = L'.length → (∀ p ∈ L, p.1 < 256) → (∀ p ∈ L', p.1 < 256) → a + sumL L < 4294967296 → a + sumL L' < 4294967296 → dirL a L = dirL a L' → sumL L = sumL L' := by
  induction L with
  | nil => intro L' a hl _ _ _ _ _; obtain rfl : L' = [] := List.length_eq_zero_iff.1 hl.symm; rfl
  | cons p L ih =>
    intro L' a hl hk hk' hs hs' h
    cases L' with
    | nil => simp at hl
    | cons p' L' =>
      rw [sumL_cons] at hs ⊢
      rw [sumL_cons] at hs' ⊢
      obtain ⟨_, e2, _, e4⟩ := dir_head (by omega) (by omega) (hk p (by simp)) (by omega) (by omega) (hk' p' (by simp)) h
      rw [← e2] at e4
      have := ih (by simpa using hl) (fun q hq => hk q (by simp [hq])) (fun q hq => hk' q (by simp [hq])) (by omega) (by omega) e4
      omega
theorem dat_chg {L : List (Nat × List UInt8)} : ∀ {L' : List (Nat × List UInt8)} {a : Nat}, L.length = L'.length → (∀ p ∈ L, p.1 < 256) → (∀ p ∈ L', p.1 < 256) → a + sumL L < 4294967296 → a + sumL L' < 4294967296 → dirL a L = dirL a L' → Chg (datL L) (datL L') → datL L = datL L' := by
  induction L with
  | nil => intro L' a hl _ _ _ _ _ _; obtain rfl : L' = [] := List.length_eq_zero_iff.1 hl.symm; rfl
  | cons p L ih =>
    intro L' a hl hk hk' hs hs' h hc
    cases L' with
    | nil => simp at hl
    | cons p' L' =>
      rw [sumL_cons] at hs hs'
      have hd : ∀ (q : Nat × List UInt8) M, datL (q :: M) = q.2 ++ datL M := fun q M => by simp [datL]
      rw [hd, hd] at hc ⊢
      obtain ⟨_, e2, e3, e4⟩ := dir_head (by omega) (by omega) (hk p (by simp)) (by omega) (by omega) (hk' p' (by simp)) h
      rw [← e2] at e4
      rcases chg_split hc e2 with ⟨g1, g2⟩ | ⟨g1, g2⟩
      · rw [g1, ih (by simpa using hl) (fun q hq => hk q (by simp [hq])) (fun q hq => hk' q (by simp [hq])) (by omega) (by omega) e4 g2]
      · rw [chg_crc g1 e3, g2]
theorem ofNat_inj {n m : Nat} (hn : n ≤ 7) (hm : m ≤ 7) (h : UInt8.ofNat n = UInt8.ofNat m) : n = m := by
  have := congrArg UInt8.toNat h
  rw [UInt8.toNat_ofNat', UInt8.toNat_ofNat'] at this
  omega
theorem ltl4_inj {x y : Nat} (hx : x < 4294967296) (hy : y < 4294967296) {r s : List UInt8} (h : ltl 4 x ++ r = ltl 4 y ++ s) : x = y := by
  have := congrArg num4 h
  rwa [num4_ltl hx, num4_ltl hy] at this
theorem sec_six (L : List (Nat × List UInt8)) : secL L = [87, 82, 67, 75, 1, UInt8.ofNat L.length] ++ (dirL (10 + 13 * L.length) L ++ (ltl 4 (nxt 0 (hedL L)) ++ datL L)) := by
  rw [secL, hedL, List.append_assoc]
theorem six_inj {n m : Nat} (hn : n ≤ 7) (hm : m ≤ 7) (h : ([87, 82, 67, 75, 1, UInt8.ofNat n] : List UInt8) = [87, 82, 67, 75, 1, UInt8.ofNat m]) : n = m := by
  refine ofNat_inj hn hm ?_
  simpa using h
theorem sec_chg {L L' : List (Nat × List UInt8)} (h : ckS L = 0) (h' : ckS L' = 0) (hc : Chg (secL L) (secL L')) : secL L = secL L' := by
  obtain ⟨n7, ho, hs⟩ := ckS_ok h
  obtain ⟨n7', ho', hs'⟩ := ckS_ok h'
  have hk := ord_kinds ho
  have hk' := ord_kinds ho'
  have hlen : L.length = L'.length := by
    have hc2 := hc
    rw [sec_six L, sec_six L'] at hc2
    rcases chg_split hc2 rfl with ⟨g1, _⟩ | ⟨_, g2⟩
    · exact six_inj n7 n7' g1
    · have hll := congrArg List.length g2
      simp only [List.length_append, dirL_len, ltl_len, datL_len] at hll
      have htot : (secL L).length = (secL L').length := by obtain ⟨_, _, _, h3⟩ := hc; exact h3
      rw [secL_len, secL_len] at htot
      cases L with
      | nil =>
        cases L' with
        | nil => rfl
        | cons p' L' =>
          have h0 : sumL ([] : List (Nat × List UInt8)) = 0 := rfl
          simp only [List.length_nil, List.length_cons, h0] at hll
          omega
      | cons p L =>
        cases L' with
        | nil =>
          have h0 : sumL ([] : List (Nat × List UInt8)) = 0 := rfl
          simp only [List.length_nil, List.length_cons, h0] at hll
          omega
        | cons p' L' =>
          simp only [dirL, List.append_assoc] at g2
          have h1 := sumL_cons p L
          have h2 := sumL_cons p' L'
          have := (dir_head (by simp only [List.length_cons] at *; omega) (by omega) (hk p (by simp)) (by simp only [List.length_cons] at *; omega) (by omega) (hk' p' (by simp)) g2).1
          omega
  have hhl : (hedL L).length = (hedL L').length := by rw [hedL_len, hedL_len, hlen]
  have hc2 := hc
  rw [secL, secL] at hc2
  have hcn : ∀ m : List UInt8, nxt 0 m < 4294967296 := nxt_lt
  rcases chg_split hc2 hhl with ⟨g1, g2⟩ | ⟨g1, g2⟩
  · rw [secL, secL, g1]
    rw [g1] at g2
    rcases chg_split g2 rfl with ⟨_, g3⟩ | ⟨_, g3⟩
    · have hd : dirL (10 + 13 * L.length) L = dirL (10 + 13 * L.length) L' := by
        rw [hedL, hedL, ← hlen] at g1
        exact (List.append_inj g1 rfl).2
      rw [dat_chg hlen hk hk' (by omega) (by omega) hd g3]
    · rw [g3]
  · have e := ltl4_inj (hcn _) (hcn _) g2
    rw [secL, secL, g2, chg_crc g1 e]
theorem sec_pre {L L' : List (Nat × List UInt8)} (h : ckS L = 0) (h' : ckS L' = 0) {r : List UInt8} (hc : secL L ++ r = secL L') : r = [] := by
  obtain ⟨n7, ho, hs⟩ := ckS_ok h
  obtain ⟨n7', ho', hs'⟩ := ckS_ok h'
  have hc2 := hc
  rw [sec_six L, sec_six L', List.append_assoc] at hc2
  obtain ⟨g1, _⟩ := List.append_inj hc2 rfl
  have hlen := six_inj n7 n7' g1
  have hc3 := hc
  rw [secL, secL, List.append_assoc] at hc3
  obtain ⟨g3, _⟩ := List.append_inj hc3 (by rw [hedL_len, hedL_len, hlen])
  rw [hedL, hedL, ← hlen] at g3
  have hd := (List.append_inj g3 rfl).2
  have hsum := dir_sum hlen (ord_kinds ho) (ord_kinds ho') (by omega) (by omega) hd
  have := congrArg List.length hc
  rw [List.length_append, secL_len, secL_len] at this
  exact List.length_eq_zero_iff.1 (by omega)
theorem chg_none {L : List (Nat × List UInt8)} {b : List UInt8} (h : ckS L = 0) (hc : Chg (secL L) b) (hb : b ≠ secL L) : (redS b).2 ≠ 0 := by
  intro he
  obtain ⟨h1, h2⟩ := sec_red he
  rw [← h2] at hc hb
  exact hb (sec_chg h h1 hc).symm
theorem cut_none {L : List (Nat × List UInt8)} {k : Nat} (h : ckS L = 0) (hk : k < (secL L).length) : (redS ((secL L).take k)).2 ≠ 0 := by
  intro he
  obtain ⟨h1, h2⟩ := sec_red he
  have := sec_pre h1 h (r := (secL L).drop k) (by rw [h2, List.take_append_drop])
  have h3 := congrArg List.length this
  rw [List.length_drop] at h3
  simp at h3
  omega
theorem more_none {L : List (Nat × List UInt8)} (x : UInt8) (h : ckS L = 0) : (redS (secL L ++ [x])).2 ≠ 0 := by
  intro he
  obtain ⟨h1, h2⟩ := sec_red he
  have := sec_pre h h1 (r := [x]) h2.symm
  cases this
end Go.Proofs.Yteaaiacgebikpaa
