/- What is written is read, and back; a container of which a byte is changed is none. Plain Lean, no program. -/
import Derived.Test.YteaaiacgebikpaaSec11
namespace Go.Proofs.Yteaaiacgebikpaa
open Go.RowKit Wire Crc
set_option linter.unusedVariables false

theorem entL_num {a : Nat} {p : Nat × List UInt8} (D : List UInt8) (ha : a < 4294967296) (hl : p.2.length < 4294967296) (hk : p.1 < 256) :
    num4 ((entL a p ++ D).drop 1) = a ∧ num4 ((entL a p ++ D).drop 5) = p.2.length ∧ num4 ((entL a p ++ D).drop 9) = nxt 0 p.2 ∧ ((entL a p ++ D).getD 0 0).toNat = p.1 ∧ (entL a p ++ D).drop 13 = D := by
  have h1 : ∀ x y, (ltl 4 x ++ y : List UInt8).drop 4 = y := fun x y => by
    rw [List.drop_append_of_le_length (by rw [ltl_len]; omega), List.drop_of_length_le (by rw [ltl_len]; omega)]; rfl
  have hd1 : (entL a p ++ D).drop 1 = ltl 4 a ++ (ltl 4 p.2.length ++ (ltl 4 (nxt 0 p.2) ++ D)) := by simp [entL]
  have hd5 : (entL a p ++ D).drop 5 = ltl 4 p.2.length ++ (ltl 4 (nxt 0 p.2) ++ D) := by
    rw [show (5 : Nat) = 1 + 4 from rfl, ← List.drop_drop, hd1, h1]
  have hd9 : (entL a p ++ D).drop 9 = ltl 4 (nxt 0 p.2) ++ D := by
    rw [show (9 : Nat) = 5 + 4 from rfl, ← List.drop_drop, hd5, h1]
  have hd13 : (entL a p ++ D).drop 13 = D := by
    rw [show (13 : Nat) = 9 + 4 from rfl, ← List.drop_drop, hd9, h1]
  refine ⟨?_, ?_, ?_, ?_, hd13⟩
  · rw [hd1, num4_ltl ha]
  · rw [hd5, num4_ltl hl]
  · rw [hd9, num4_ltl (nxt_lt _)]
  · show (UInt8.ofNat p.1).toNat = p.1
    rw [UInt8.toNat_ofNat']; omega
theorem rdD_dir (M : List (Nat × List UInt8)) : ∀ (a : Nat) (r : List UInt8) (L0 : List (Nat × List UInt8)) (S0 : List Nat), (∀ p ∈ M, p.1 < 256) → a + sumL M < 4294967296 →
    rdD M.length a (dirL a M) (datL M ++ r) L0 S0 = some (L0 ++ M, S0 ++ M.map (fun p => nxt 0 p.2), r) := by
  induction M with
  | nil => intro a r L0 S0 _ _; simp [rdD, datL]
  | cons p M ih =>
    intro a r L0 S0 hk hs
    have hsum : sumL (p :: M) = p.2.length + sumL M := by simp [sumL, lens]
    have hdat : datL (p :: M) ++ r = p.2 ++ (datL M ++ r) := by simp [datL]
    obtain ⟨e1, e5, e9, e0, e13⟩ := entL_num (a := a) (p := p) (dirL (a + p.2.length) M) (by omega) (by omega) (hk p (by simp))
    rw [List.length_cons, dirL, rdD_yes (by rw [e1, e5, hdat, List.length_append]; omega), e5, e9, e0, e13, hdat, List.drop_left, List.take_left]
    rw [ih _ _ _ _ (fun q hq => hk q (by simp [hq])) (by omega)]
    simp
theorem ord_kinds {L : List (Nat × List UInt8)} : ∀ {last : Nat}, ordB last L = true → ∀ p ∈ L, p.1 < 256 := by
  induction L with
  | nil => intro last _ p hp; simp at hp
  | cons q L ih =>
    intro last h p hp
    simp only [ordB, Bool.and_eq_true, decide_eq_true_eq] at h
    rcases List.mem_cons.1 hp with rfl | hp
    · omega
    · exact ih h.2 p hp
theorem hedL_len (L : List (Nat × List UInt8)) : (hedL L).length = 6 + 13 * L.length := by
  simp only [hedL, List.length_append, dirL_len]; rfl
theorem secL_len (L : List (Nat × List UInt8)) : (secL L).length = 10 + 13 * L.length + sumL L := by
  simp only [secL, List.length_append, hedL_len, ltl_len, datL_len]; omega
/-- Read of Write. -/
theorem red_sec {L : List (Nat × List UInt8)} (h : ckS L = 0) : redS (secL L) = (L, 0) := by
  obtain ⟨h7, ho, hs⟩ := ckS_ok h
  have hlen := secL_len L
  have hhl := hedL_len L
  have hb : ∀ i, i ≤ 6 → (secL L).take i = ([87, 82, 67, 75, 1, UInt8.ofNat L.length] : List UInt8).take i := fun i hi => by
    rw [secL, hedL, List.append_assoc, List.take_append_of_le_length (by simp; omega)]
  have h5 : ((secL L).getD 5 0).toNat = L.length := by
    show (UInt8.ofNat L.length).toNat = L.length
    rw [UInt8.toNat_ofNat']; omega
  have hE : (secL L).take (6 + 13 * L.length) = hedL L := by rw [secL, List.take_append_of_le_length (by omega), List.take_of_length_le (by omega)]
  have hD : (secL L).drop (6 + 13 * L.length) = ltl 4 (nxt 0 (hedL L)) ++ datL L := by
    rw [secL, List.drop_append_of_le_length (by omega), List.drop_of_length_le (by omega)]; rfl
  have hD4 : (secL L).drop (10 + 13 * L.length) = datL L := by
    rw [show 10 + 13 * L.length = (6 + 13 * L.length) + 4 from by omega, ← List.drop_drop, hD, List.drop_append_of_le_length (by rw [ltl_len]; omega), List.drop_of_length_le (by rw [ltl_len]; omega)]; rfl
  have hH : (hedL L).drop 6 = dirL (10 + 13 * L.length) L := by simp [hedL]
  rw [redS, if_neg (by omega), if_neg (by omega), if_neg (by rw [hb 5 (by omega)]; simp), if_neg (by rw [h5]; omega), h5, bodS, if_neg (by omega), if_neg (by rw [hD, hE, num4_ltl (nxt_lt _)]; simp), hE, hD4, hH]
  have hr := rdD_dir L (10 + 13 * L.length) [] [] [] (ord_kinds ho) (by omega)
  rw [List.append_nil] at hr
  rw [hr, endS, if_neg (by rw [List.nil_append, ho]; simp), List.nil_append, List.nil_append, if_pos rfl]
theorem ltl_num4 {l : List UInt8} (h : 4 ≤ l.length) : ltl 4 (num4 l) = l.take 4 := by
  have := ltl_unl (l.take 4)
  rwa [List.length_take, Nat.min_eq_left h] at this
theorem rdD_inv (k : Nat) : ∀ (a : Nat) (d r : List UInt8) (L0 : List (Nat × List UInt8)) (S0 : List Nat) (L : List (Nat × List UInt8)) (S : List Nat) (r' : List UInt8), rdD k a d r L0 S0 = some (L, S, r') → d.length = 13 * k →
    ∃ M T, L = L0 ++ M ∧ S = S0 ++ T ∧ M.length = k ∧ T.length = k ∧ r = datL M ++ r' ∧ (T = M.map (fun p => nxt 0 p.2) → dirL a M = d) := by
  induction k with
  | zero =>
    intro a d r L0 S0 L S r' h hd
    rw [rdD] at h
    injection h with h
    injection h with h1 h
    injection h with h2 h3
    subst h1 h2 h3
    obtain rfl : d = [] := List.length_eq_zero_iff.1 (by omega)
    exact ⟨[], [], by simp, by simp, rfl, rfl, by simp [datL], fun _ => rfl⟩
  | succ k ih =>
    intro a d r L0 S0 L S r' h hd
    by_cases hc : num4 (d.drop 1) ≠ a ∨ r.length < num4 (d.drop 5)
    · rw [rdD_no hc] at h; cases h
    rw [rdD_yes hc] at h
    obtain ⟨M, T, h1, h2, h3, h4, h5, h6⟩ := ih _ _ _ _ _ _ _ _ h (by rw [List.length_drop]; omega)
    have hc1 : num4 (d.drop 1) = a := by omega
    have hlt : (r.take (num4 (d.drop 5))).length = num4 (d.drop 5) := by rw [List.length_take]; omega
    refine ⟨((d.getD 0 0).toNat, r.take (num4 (d.drop 5))) :: M, num4 (d.drop 9) :: T, by rw [h1]; simp, by rw [h2]; simp, by simp [h3], by simp [h4], ?_, fun hT => ?_⟩
    · have := List.take_append_drop (num4 (d.drop 5)) r
      have hdat : datL (((d.getD 0 0).toNat, r.take (num4 (d.drop 5))) :: M) = r.take (num4 (d.drop 5)) ++ datL M := by simp [datL]
      rw [hdat, List.append_assoc, ← h5]
      exact this.symm
    · rw [List.map_cons] at hT
      injection hT with hT1 hT2
      have hd13 := h6 hT2
      obtain ⟨y, d', rfl⟩ : ∃ y d', d = y :: d' := by
        cases d with
        | nil => simp at hd
        | cons y d' => exact ⟨y, d', rfl⟩
      rw [dirL, hlt, hd13, entL]
      have hy : UInt8.ofNat ((y :: d').getD 0 0).toNat = y := by simp
      rw [hlt]
      rw [show nxt 0 (r.take (num4 ((y :: d').drop 5))) = num4 ((y :: d').drop 9) from hT1.symm]
      have hl' : d'.length = 13 * k + 12 := by simp at hd; omega
      have g1 : ltl 4 a = d'.take 4 := by rw [← hc1]; exact ltl_num4 (by simp; omega)
      have g2 : ltl 4 (num4 ((y :: d').drop 5)) = (d'.drop 4).take 4 := ltl_num4 (by simp; omega)
      have g3 : ltl 4 (num4 ((y :: d').drop 9)) = (d'.drop 8).take 4 := ltl_num4 (by simp; omega)
      rw [g1, g2, g3]
      have hy' : UInt8.ofNat (((y :: d').getD 0 0).toNat) = y := hy
      simp only [] 
      rw [hy', List.cons_append]
      congr 1
      rw [List.append_assoc, List.append_assoc]
      have e1 := List.take_append_drop 4 d'
      have e2 := List.take_append_drop 4 (d'.drop 4)
      have e3 := List.take_append_drop 4 (d'.drop 8)
      rw [List.drop_drop] at e2 e3
      show d'.take 4 ++ ((d'.drop 4).take 4 ++ ((d'.drop 8).take 4 ++ d'.drop 12)) = d'
      rw [e3, e2, e1]
theorem lenR_some {l : List Nat} : ∀ {n : Nat}, n + l.sum ≤ 200000 → (lenR n l).isSome = true := by
  induction l with
  | nil => intro n _; rfl
  | cons s r ih =>
    intro n h
    rw [List.sum_cons] at h
    rw [lenR, if_neg (by omega)]
    exact ih (by omega)
theorem ckS_of {L : List (Nat × List UInt8)} (ho : ordB 0 L = true) (h : 10 + 13 * L.length + sumL L ≤ 200000) : ckS L = 0 := by
  have hs := lenR_some (l := lens L) (n := 10 + 13 * (lens L).length) (by rw [show (lens L).length = L.length from by simp [lens]]; exact h)
  rw [ckS_yes ho, lnB, lnR, hs]; rfl
/-- Write of Read. -/
theorem sec_red {b : List UInt8} (h : (redS b).2 = 0) : ckS (redS b).1 = 0 ∧ secL (redS b).1 = b := by
  have hx : ∃ L, redS b = (L, 0) := ⟨(redS b).1, by rw [← h]⟩
  obtain ⟨L, hL⟩ := hx
  rw [hL]
  rw [redS] at hL
  by_cases h1 : 200000 < b.length
  · rw [if_pos h1] at hL; injection hL with _ e; cases e
  rw [if_neg h1] at hL
  by_cases h2 : b.length < 10
  · rw [if_pos h2] at hL; injection hL with _ e; cases e
  rw [if_neg h2] at hL
  by_cases h3 : b.take 5 ≠ [87, 82, 67, 75, 1]
  · rw [if_pos h3] at hL; injection hL with _ e; cases e
  rw [if_neg h3] at hL
  by_cases h4 : 7 < (b.getD 5 0).toNat
  · rw [if_pos h4] at hL; injection hL with _ e; cases e
  rw [if_neg h4, bodS] at hL
  obtain ⟨x, hxx⟩ : ∃ x, b.getD 5 0 = x := ⟨_, rfl⟩
  have hx5 : b[5]? = some x := by rw [← hxx, List.getD_eq_getElem?_getD, List.getElem?_eq_getElem (by omega)]; rfl
  rw [hxx] at hL h4
  obtain ⟨k, hk⟩ : ∃ k, x.toNat = k := ⟨_, rfl⟩
  rw [hk] at hL h4
  by_cases h5 : b.length < 10 + 13 * k
  · rw [if_pos h5] at hL; injection hL with _ e; cases e
  rw [if_neg h5] at hL
  by_cases h6 : num4 (b.drop (6 + 13 * k)) ≠ nxt 0 (b.take (6 + 13 * k))
  · rw [if_pos h6] at hL; injection hL with _ e; cases e
  rw [if_neg h6] at hL
  cases hr : rdD k (10 + 13 * k) ((b.take (6 + 13 * k)).drop 6) (b.drop (10 + 13 * k)) [] [] with
  | none => rw [hr] at hL; injection hL with _ e; cases e
  | some t =>
    obtain ⟨M, T, r'⟩ := t
    rw [hr, endS] at hL
    by_cases h7 : ordB 0 M = false ∨ r' ≠ []
    · rw [if_pos h7] at hL; injection hL with _ e; cases e
    rw [if_neg h7] at hL
    by_cases h8 : M.map (fun p => nxt 0 p.2) = T
    rotate_left
    · rw [if_neg h8] at hL; injection hL with _ e; cases e
    rw [if_pos h8] at hL
    injection hL with hL _
    subst hL
    obtain ⟨M', T', e1, e2, e3, e4, e5, e6⟩ := rdD_inv _ _ _ _ _ _ _ _ _ hr (by rw [List.length_drop, List.length_take]; omega)
    rw [List.nil_append] at e1 e2
    subst e1 e2
    have hdir := e6 h8.symm
    have ho : ordB 0 M = true := by
      cases hb : ordB 0 M
      · exact absurd (.inl hb) h7
      · rfl
    have hr' : r' = [] := by
      by_cases hb : r' = []
      · exact hb
      · exact absurd (.inr hb) h7
    subst hr'
    rw [List.append_nil] at e5
    have hs : sumL M = b.length - (10 + 13 * k) := by rw [← datL_len, ← e5, List.length_drop]
    have hsum : 10 + 13 * M.length + sumL M ≤ 200000 := by rw [e3, hs]; omega
    refine ⟨ckS_of ho hsum, ?_⟩
    have hk5 : UInt8.ofNat M.length = x := by rw [e3, ← hk]; simp
    have hhed : hedL M = b.take (6 + 13 * k) := by
      rw [hedL, e3, hdir, ← e3, hk5, e3]
      have ht : (b.take (6 + 13 * k)).take 6 = [87, 82, 67, 75, 1, x] := by
        rw [List.take_take, Nat.min_eq_left (by omega), show (6 : Nat) = 5 + 1 from rfl, List.take_add_one, hx5, Classical.not_not.1 h3]; rfl
      have := List.take_append_drop 6 (b.take (6 + 13 * k))
      rw [ht] at this
      exact this
    rw [secL, hhed, ← Classical.not_not.1 h6, ltl_num4 (by rw [List.length_drop]; omega), ← e5]
    have e7 := List.take_append_drop (6 + 13 * k) b
    have e8 := List.take_append_drop 4 (b.drop (6 + 13 * k))
    rw [List.drop_drop, show 6 + 13 * k + 4 = 10 + 13 * k from by omega] at e8
    rw [e8, e7]
end Go.Proofs.Yteaaiacgebikpaa
