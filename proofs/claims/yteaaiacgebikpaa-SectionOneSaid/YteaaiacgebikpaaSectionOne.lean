/- The walk of SectionOne. -/
import Derived.Test.YteaaiacgebikpaaSecLaw2
import Derived.Test.YteaaiacgebikpaaSectionReads
import Derived.Test.YteaaiacgebikpaaSec5
import Derived.Test.YteaaiacgebikpaaSec6
import Derived.Test.YteaaiacgebikpaaSec8
namespace Go.Proofs.Yteaaiacgebikpaa
open Go.RowKit Wire Crc
set_option linter.unusedVariables false

theorem RdY.of {w : World} {A : Option Addr} {n : Nat} {l : List Nat} (h : RdZ w A n l) : RdY w A n (l.map Int.ofNat) := by
  refine ⟨by rw [List.map_map]; exact h.1, fun x hx => ?_⟩
  obtain ⟨y, hy, rfl⟩ := List.mem_map.1 hx
  have := h.2 y hy
  simp only [Int.ofNat_eq_natCast]
  omega
theorem lg_sec {L : List (Nat × List UInt8)} (h : ckS L = 0) : lgE ((lens L).map Int.ofNat) = 0 ∧ lgV ((lens L).map Int.ofNat) = ((secL L).length : Int) := by
  obtain ⟨h7, ho, hs⟩ := ckS_ok h
  have hm : ((lens L).map Int.ofNat).map Int.toNat = lens L := by rw [List.map_map, show (Int.toNat ∘ Int.ofNat) = id from rfl, List.map_id]
  have hany : (((lens L).map Int.ofNat).any fun x => decide (x < 0)) = false := by
    rw [List.any_eq_false]
    intro x hx
    obtain ⟨y, _, rfl⟩ := List.mem_map.1 hx
    simp only [Int.ofNat_eq_natCast, decide_eq_true_eq]
    omega
  have hll : (lens L).length = L.length := by simp [lens]
  have hb := lenR_some (l := lens L) (n := 10 + 13 * (lens L).length) (by rw [hll]; exact hs)
  obtain ⟨m, hm2⟩ := Option.isSome_iff_exists.1 hb
  have hE : lgE ((lens L).map Int.ofNat) = 0 := by
    rw [lgE, hany, if_neg (by simp), if_neg (by rw [List.length_map, hll]; omega), hm, lnB, lnR, hb]; rfl
  refine ⟨hE, ?_⟩
  have := (lenR_sum hm2).1
  rw [lgV, if_pos hE, hm, lnV, lnR, hm2, secL_len, ← hll, this]
  rfl
theorem red_bad {b : List UInt8} (h : (redS b).2 ≠ 0) : (redS b).1 = [] := by
  have he : ∀ x, (endS x).2 ≠ 0 → (endS x).1 = [] := by
    intro x hx
    rcases x with _ | ⟨L, S, r⟩
    · rfl
    · simp only [endS] at hx ⊢
      by_cases h : ordB 0 L = false ∨ r ≠ []
      · rw [if_pos h]
      · rw [if_neg h] at hx ⊢
        by_cases h2 : L.map (fun p => nxt 0 p.2) = S
        · rw [if_pos h2] at hx; exact absurd rfl hx
        · rw [if_neg h2]
  unfold redS at h ⊢
  by_cases h1 : 200000 < b.length
  · rw [if_pos h1]
  rw [if_neg h1] at h ⊢
  by_cases h2 : b.length < 10
  · rw [if_pos h2]
  rw [if_neg h2] at h ⊢
  by_cases h3 : b.take 5 ≠ [87, 82, 67, 75, 1]
  · rw [if_pos h3]
  rw [if_neg h3] at h ⊢
  by_cases h4 : 7 < (b.getD 5 0).toNat
  · rw [if_pos h4]
  rw [if_neg h4] at h ⊢
  generalize (b.getD 5 0).toNat = k at h ⊢
  unfold bodS at h ⊢
  by_cases h5 : b.length < 10 + 13 * k
  · rw [if_pos h5]
  rw [if_neg h5] at h ⊢
  by_cases h6 : num4 (b.drop (6 + 13 * k)) ≠ nxt 0 (b.take (6 + 13 * k))
  · rw [if_pos h6]
  rw [if_neg h6] at h ⊢
  exact he _ h

set_option maxRecDepth 100000 in
set_option maxHeartbeats 6400000 in
theorem sectionOne_walk (w : World) (A : Option Addr) (n c : Nat) (L : List (Nat × List UInt8)) (hr : RdS w A n L) (hc : n ≤ c ∧ c ≤ 9223372036854775807) (A2 : Option Addr) (m2 c2 : Nat) (b : List UInt8) (hr2 : Rb w A2 m2 b) (hc2 : m2 ≤ c2 ∧ c2 ≤ 9223372036854775807) :
    Calls Try.prog 7 #[.slice A n c, .slice A2 m2 c2] w fun e w' => e = .returned (.bool true) ∧ Below w.heap.size w w' := by
  have HS := Lib.hid hr
  have hbl := hr2.len8
  obtain ⟨P2, hP2⟩ : ∃ P, (redS b).1 = P := ⟨_, rfl⟩
  obtain ⟨E2, hE2⟩ : ∃ P, (redS b).2 = P := ⟨_, rfl⟩
  have H5 := Lib.hid (fun (A : Option Addr) (n c : Nat) W (h : Rb W A n b) (hc : n ≤ c ∧ c ≤ 9223372036854775807) => read25_any A n c b W h hc)
  have HLEN := Lib.hid (redS_len b)
  have HBAD := Lib.hid (red_bad (b := b))
  have HGOOD := Lib.hid (show (redS b).2 = 0 → ckS (redS b).1 = 0 ∧ wrL (redS b).1 = b from fun h => by
    obtain ⟨h1, h2⟩ := sec_red h
    exact ⟨h1, by rw [wrL, if_pos h1, h2]⟩)
  rw [hP2, hE2] at H5 HBAD HGOOD
  rw [hP2] at HLEN
  subst hbl
  have HB2 := Lib.hid hr2
  obtain ⟨n2, hn2⟩ : ∃ n2, b.length = n2 := ⟨_, rfl⟩
  have HN2 := Lib.hid hn2
  rw [hn2] at hc2 HB2 ⊢
  clear hr hr2 hP2 hE2 hn2
  go_enter Try.func7, Try.ntmps7
  go_wp2_with fail
  refine (alive25_any _).mono ?_
  rintro e w1 ⟨rfl, hB⟩
  go_wp2_with fail
  refine (great25_any A n c L _ (HS.out.mv hB) (by omega)).mono ?_
  rintro e wq hG
  unfold GrP at hG
  obtain ⟨gb, rfl, hg, rfl⟩ := hG
  cases gb
  rotate_left
  · go_wp2_with fail
    go_ret
    exact ⟨rfl, hB⟩
  obtain ⟨hn20, hle⟩ := hg rfl
  clear hg hle
  by_cases hb3 : 3000 < n2
  · have d0 : decide ((n2 : Int) > 3000) = true := by simp; omega
    go_wp2_with fail
    go_ret
    exact ⟨rfl, hB⟩
  have d0 : decide ((n2 : Int) > 3000) = false := by simp; omega
  go_wp2_with fail
  refine (rcheck25_any A n c L _ (HS.out.mv hB) (by omega)).mono ?_
  rintro e w2 ⟨rfl, b2⟩
  replace hB := hB.trans (b2.mono hB.size)
  clear b2
  by_cases hck : ckS L = 0
  rotate_left
  · obtain ⟨E1, hE1⟩ : ∃ P, ckS L = P := ⟨_, rfl⟩
    rw [hE1] at hck ⊢
    have e1 : (E1 == 0) = false := by rw [beq_eq_false_iff_ne]; exact hck
    clear hck hE1
    go_wp2_with fail
    refine (H5.out A2 n2 c2 _ (HB2.out.mv hB) hc2).mono ?_
    rintro e wa ⟨Aa, ca, rfl, oa, ba⟩
    replace hB := hB.trans (ba.mono hB.size)
    clear ba
    by_cases hE2 : E2 = 0
    rotate_left
    · have e0 : (E2 != 0) = true := by rw [bne_iff_ne]; exact hE2
      have hP := HBAD.out hE2
      subst hP
      clear hE2
      go_wp2_with fail
      go_ret
      exact ⟨rfl, hB⟩
    obtain ⟨hw1, hw2⟩ := HGOOD.out hE2
    have hLm := HLEN.out
    subst hE2
    go_wp2_with fail
    refine (write25_any Aa P2.length ca P2 _ oa.rd (by omega)).mono ?_
    rintro e wb ⟨Ab, cb, rfl, ob, bb⟩
    have hB9 := hB.trans (bb.mono hB.size)
    rw [hw1, hw2] at *
    have K1 := cvS25 cb (own_rd ob)
    have K2 := cvS25 c2 (HB2.out.mv hB9)
    clear hw1 hw2 oa bb ob hB
    go_wp2_with fail
    go_ret
    exact ⟨rfl, hB9⟩
  have HW := Lib.hid (show wrL L = secL L from by rw [wrL, if_pos hck])
  have HRS := Lib.hid (red_sec hck)
  have HLG := Lib.hid (lg_sec hck)
  have HSL := Lib.hid (show (secL L).length ≤ 200000 from by rw [secL_len]; exact (ckS_ok hck).2.2)
  have HCK := Lib.hid hck
  rw [hck]
  clear hck
  go_wp2_with fail
  refine (write25_any A n c L _ (HS.out.mv hB) (by omega)).mono ?_
  rintro e w3 ⟨A3, c3, rfl, o3, b3⟩
  rw [HW.out, HCK.out] at *
  replace hB := hB.trans (b3.mono hB.size)
  have hcap := own_cap o3
  have R3 := own_rd o3
  obtain ⟨SL, hSL⟩ : ∃ SL, secL L = SL := ⟨_, rfl⟩
  rw [hSL] at HRS HLG HSL hcap R3 ⊢
  have hsl := HSL.out
  clear b3 o3 hSL
  go_wp2_with fail
  refine (read25_any A3 SL.length c3 SL _ R3 (by obtain ⟨h1, h2⟩ := hcap; unfold maxLen at h2; omega)).mono ?_
  rintro e w4 ⟨A4, c4, rfl, o4, b4⟩
  rw [HRS.out] at o4 ⊢
  replace hB := hB.trans (b4.mono hB.size)
  clear b4 R3
  go_wp2_with fail
  refine (sizes25_any A n c L _ (HS.out.mv hB) (by omega)).mono ?_
  rintro e w5 ⟨A5, c5, rfl, o5, b5⟩
  have o4b := o4.call b5
  replace hB := hB.trans (b5.mono hB.size)
  clear b5 o4
  go_wp2_with fail
  refine (lengthy25_any A5 n c5 _ _ (RdY.of o5) (by omega)).mono ?_
  rintro e w6 ⟨rfl, rfl⟩
  rw [HLG.out.1, HLG.out.2]
  have hLn : L.length = n := HS.out.1
  go_wp2_with fail
  with_reducible refine (same25_any A n c L A4 n c4 L _ (HS.out.mv hB) (hLn ▸ o4b.rd) (by omega)).mono ?_
  rintro e w7 ⟨rfl, b7⟩
  rw [decide_eq_true (rfl : L = L)]
  replace hB := hB.trans (b7.mono hB.size)
  clear b7 o4b o5
  have e2 : ((SL.length : Int) != (SL.length : Int)) = false := by simp
  go_wp2_with fail
  refine (H5.out A2 n2 c2 _ (HB2.out.mv hB) hc2).mono ?_
  rintro e wa ⟨Aa, ca, rfl, oa, ba⟩
  replace hB := hB.trans (ba.mono hB.size)
  clear ba
  by_cases hE2 : E2 = 0
  rotate_left
  · have e0 : (E2 != 0) = true := by rw [bne_iff_ne]; exact hE2
    have hP := HBAD.out hE2
    subst hP
    clear hE2
    go_wp2_with fail
    go_ret
    exact ⟨rfl, hB⟩
  obtain ⟨hw1, hw2⟩ := HGOOD.out hE2
  have hLm := HLEN.out
  subst hE2
  go_wp2_with fail
  refine (write25_any Aa P2.length ca P2 _ oa.rd (by omega)).mono ?_
  rintro e wb ⟨Ab, cb, rfl, ob, bb⟩
  have hB9 := hB.trans (bb.mono hB.size)
  rw [hw1, hw2] at *
  have K1 := cvS25 cb (own_rd ob)
  have K2 := cvS25 c2 (HB2.out.mv hB9)
  clear hw1 hw2 oa bb ob hB
  go_wp2_with fail
  go_ret
  exact ⟨rfl, hB9⟩

end Go.Proofs.Yteaaiacgebikpaa
