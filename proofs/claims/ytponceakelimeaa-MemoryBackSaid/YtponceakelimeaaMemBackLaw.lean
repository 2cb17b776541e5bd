/- What was written is read, and back: plain laws. No conditions beyond those that each one states. -/
import Derived.Test.YtponceakelimeaaMem14
namespace Go.Proofs.Ytponceakelimeaa
open Go.RowKit Wire
set_option linter.unusedVariables false

theorem hp_cases {b n : Nat} (h : hpB b n = true) : b = 65536 ∧ n ≤ 16384 := by
  simp only [hpB, fitB, Bool.and_eq_true, decide_eq_true_eq] at h
  exact ⟨h.1, h.2.1⟩
theorem heap_back {b : Nat} {l : List UInt8} (h : hpB b l.length = true) : whE b l = 0 ∧ rhN (whL b l) = b ∧ rhL (whL b l) = l ∧ rhE (whL b l) = 0 ∧ (whL b l).length ≤ 200000 := by
  obtain ⟨rfl, hn⟩ := hp_cases h
  have hv := vry_len l.length
  have e : whL 65536 l = vry l.length ++ l := by rw [whL, if_pos h]
  have hu : uvR (vry l.length ++ l) 0 = (0, l.length, (vry l.length).length) := uvR_at (k := 0) (r := l) (by omega) (by rw [List.drop_zero])
  have hb : rhB (vry l.length ++ l) = true := by rw [rhB, hu, List.length_append]; simp [h]
  obtain ⟨h1, h2, h3⟩ := rh_yes hb
  rw [e]
  exact ⟨by rw [whE, if_pos h], h1, by rw [h2, hu]; exact List.drop_left, h3, by rw [List.length_append]; omega⟩
theorem heap_again {l : List UInt8} (h : rhE l = 0) : whL (rhN l) (rhL l) = l ∧ whE (rhN l) (rhL l) = 0 := by
  have hb : rhB l = true := by
    cases hb : rhB l
    · rw [(rh_no hb).2.2] at h; omega
    · rfl
  obtain ⟨h1, h2, _⟩ := rh_yes hb
  simp only [rhB, Bool.and_eq_true, decide_eq_true_eq] at hb
  obtain ⟨g1, g2, g3⟩ := hb
  have hle := uvR_le g1
  have hk : (l.drop (uvR l 0).2.2).length = (uvR l 0).2.1 := by rw [List.length_drop]; omega
  have ht := hle.2.2.2
  simp only [Int.toNat_zero, List.drop_zero] at ht
  rw [h1, h2]
  refine ⟨?_, by rw [whE, hk, if_pos g3]⟩
  rw [whL, hk, if_pos g3, ← ht, List.take_append_drop]
theorem rgs_cons (p : Nat × List UInt8) (r : List (Nat × List UInt8)) : rgs (p :: r) = vry p.2.length ++ (p.2 ++ rgs r) := by simp [rgs]
theorem stacks_at {l : List UInt8} (hl : l.length ≤ 200000) : ∀ (L : List (Nat × List UInt8)) (g a : Nat) (r : List UInt8), l.drop a = rgs L ++ r → stkB g L = true → a ≤ l.length → rsR l L.length g a = (true, L, a + (rgs L).length)
  | [], g, a, r, _, _, _ => by simp [rsR, rgs]
  | p :: L, g, a, r, hd, hs, ha => by
    simp only [stkB, Bool.and_eq_true] at hs
    obtain ⟨hf, hs⟩ := hs
    have hf2 : p.1 = 16777216 * (g + 1) ∧ p.2.length ≤ 4096 := by
      simp only [fitB, Bool.and_eq_true, decide_eq_true_eq] at hf
      exact ⟨hf.1, hf.2.1⟩
    rw [rgs_cons, List.append_assoc, List.append_assoc] at hd
    have hu := uvR_at (by omega : p.2.length < 18446744073709551616) hd
    have hd2 := drop_len hd rfl
    have hd3 := drop_len hd2 rfl
    have hlen : a + (vry p.2.length).length + p.2.length ≤ l.length := by
      have h1 := congrArg List.length hd
      simp only [List.length_drop, List.length_append] at h1
      omega
    have hut := (ut_mk (mo := 4096) hlen hl hu hf2.2 (by omega) none 0 0).1
    rw [List.length_cons, rs_yes hut (by rw [hu]) (by rw [hu]), stacks_at hl L (g + 1) _ r hd3 hs hlen, ← hf2.1, take_len hd2 rfl, rgs_cons]
    refine Prod.ext rfl (Prod.ext rfl ?_)
    show a + (vry p.2.length).length + p.2.length + (rgs L).length = a + (vry p.2.length ++ (p.2 ++ rgs L)).length
    simp only [List.length_append]
    omega
theorem rgs_len {L : List (Nat × List UInt8)} (h : ∀ p ∈ L, p.2.length ≤ 4096) : (rgs L).length ≤ 4106 * L.length := by
  induction L with
  | nil => simp [rgs]
  | cons p L ih =>
    have h1 := h p (by simp)
    have h2 := ih (fun q hq => h q (by simp [hq]))
    have h3 := (vry_len p.2.length).2
    rw [rgs_cons]
    simp only [List.length_append, List.length_cons]
    omega
theorem stacks_back {L : List (Nat × List UInt8)} (h : stB L = true) : whSE L = 0 ∧ rsL (whS L) = L ∧ rsE (whS L) = 0 ∧ (whS L).length ≤ 200000 := by
  obtain ⟨h1, h2⟩ := stB_bd h
  have h3 := rgs_len h2
  have hv := vry_len L.length
  have e : whS L = stL L := by rw [whS, if_pos h]
  have hl : (stL L).length ≤ 200000 := by rw [stL, List.length_append]; omega
  have hu : uvR (stL L) 0 = (0, L.length, (vry L.length).length) := uvR_at (k := 0) (by omega) (by rw [List.drop_zero, stL])
  have hx : uvE (stL L) 0 16 = 0 := (uv_mk (k := 0) (by omega) hl hu h1 none 0 0).1
  have hk : stkB 0 L = true := by
    simp only [stB, Bool.and_eq_true] at h
    exact h.1
  have hr := stacks_at hl L 0 (vry L.length).length [] (by rw [stL, List.drop_left, List.append_nil]) hk (by rw [stL, List.length_append]; omega)
  have hb : rsB (stL L) = true := by
    rw [rsB, hx, hu, hr]
    simp [h, stL]
  obtain ⟨g1, g2⟩ := rsb_yes hb
  rw [e]
  exact ⟨by rw [whSE, if_pos h], by rw [g1, hu, hr], g2, hl⟩
theorem rs_bytes {l : List UInt8} : ∀ (k g a : Nat), a ≤ l.length → (rsR l k g a).1 = true → a ≤ (rsR l k g a).2.2 ∧ (rsR l k g a).2.2 ≤ l.length ∧ (rsR l k g a).2.1.length = k ∧ (l.drop a).take ((rsR l k g a).2.2 - a) = rgs (rsR l k g a).2.1
  | 0, g, a, ha, _ => by simp [rsR, rgs, ha]
  | k + 1, g, a, ha, h => by
    by_cases hut : utE l (a : Int) 4096 = 0
    · obtain ⟨z1, z2, z3, _, _⟩ := ut_zero hut
      have hle := uvR_le z1
      rw [rs_yes hut rfl rfl] at h ⊢
      obtain ⟨i1, i2, i3, i4⟩ := rs_bytes k (g + 1) (a + (uvR l (a : Int)).2.2 + (uvR l (a : Int)).2.1) (by omega) h
      have hT : ((l.drop (a + (uvR l (a : Int)).2.2)).take (uvR l (a : Int)).2.1).length = (uvR l (a : Int)).2.1 := by rw [List.length_take, List.length_drop]; omega
      refine ⟨Nat.le_trans (by omega) i1, i2, by simp [i3], ?_⟩
      show (l.drop a).take (_ - a) = _
      have ht := hle.2.2.2
      rw [Int.toNat_natCast] at ht
      rw [rgs_cons, hT, ← i4, ← ht]
      generalize (uvR l (a : Int)).2.2 = u at *
      generalize (uvR l (a : Int)).2.1 = y at *
      generalize (rsR l k (g + 1) (a + u + y)).2.2 = q at *
      rw [show q - a = u + (y + (q - (a + u + y))) from by omega, List.take_add, List.take_add, List.drop_drop, List.drop_drop]
    · rw [rs_no hut] at h; cases h
theorem stacks_again {l : List UInt8} (h : rsE l = 0) : whS (rsL l) = l ∧ whSE (rsL l) = 0 := by
  have hb : rsB l = true := by
    cases hb : rsB l
    · rw [(rsb_no hb).2] at h; omega
    · rfl
  obtain ⟨h1, _⟩ := rsb_yes hb
  simp only [rsB, Bool.and_eq_true, decide_eq_true_eq] at hb
  obtain ⟨g1, g2, g3, g4⟩ := hb
  have hz := uv_zero g1
  have hle := uvR_le hz.2.1
  have hu : (uvR l 0).2.2 ≤ l.length := by have := hle.2.2.1; simp at this; omega
  obtain ⟨i1, i2, i3, i4⟩ := rs_bytes (uvR l 0).2.1 0 (uvR l 0).2.2 hu g2
  have ht := hle.2.2.2
  simp only [Int.toNat_zero, List.drop_zero] at ht
  rw [h1]
  refine ⟨?_, by rw [whSE, if_pos g4]⟩
  rw [whS, if_pos g4, stL, i3, ← i4, g3, List.take_of_length_le (by rw [List.length_drop]; omega), ← ht, List.take_append_drop]

end Go.Proofs.Ytponceakelimeaa
