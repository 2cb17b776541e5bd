/- The contract of the reference's Great. -/
import Derived.Test.YtponceakelimeaaMem6
namespace Go.Proofs.Ytponceakelimeaa
open Go.RowKit Wire
set_option linter.unusedVariables false

/-- The regions' lengths, summed. -/
def sumL (L : List (Nat × List UInt8)) : Nat := (L.map fun p => p.2.length).sum
def grB (L : List (Nat × List UInt8)) : Bool := decide (20 < L.length) || ((L.any fun p => decide (20000 < p.2.length)) || decide (40000 < sumL L))
theorem sumL_take {L : List (Nat × List UInt8)} {j b : Nat} {l : List UInt8} (h : L[j]? = some (b, l)) : sumL (L.take (j + 1)) = sumL (L.take j) + l.length := by
  rw [List.take_add_one, h]
  simp [sumL]
theorem grB_bd {L : List (Nat × List UInt8)} (h : grB L = false) : L.length ≤ 20 ∧ (∀ p ∈ L, p.2.length ≤ 20000) ∧ sumL L ≤ 40000 := by
  simp only [grB, Bool.or_eq_false_iff, decide_eq_false_iff_not, List.any_eq_false, decide_eq_true_eq] at h
  exact ⟨by omega, fun p hp => by have := h.2.1 p hp; omega, by omega⟩

set_option maxRecDepth 100000 in
set_option maxHeartbeats 3200000 in
theorem great26_any (A : Option Addr) (n c : Nat) (L : List (Nat × List UInt8)) (w : World) (hr : RdR w A n L) (hn : n ≤ 9223372036854775807) :
    Calls Try.prog 10 #[.slice A n c] w fun e w' => e = .returned (.bool (grB L)) ∧ w = w' := by
  have HL := Lib.hid hr.1
  go_enter Try.func10, Try.ntmps10
  go_wp2_with fail
  go_loopw [3, 4] (fun v i wr => ∃ j s : Nat, j ≤ n ∧ j ≤ 21 ∧ i = .int .i64 (j : Int) ∧ v = .int .i64 (s : Int) ∧ s ≤ 20000 * j ∧ sumL (L.take j) = s ∧ (∀ p ∈ L.take j, p.2.length ≤ 20000) ∧ w = wr) (fun _ i _ => n - (intOf i).toNat)
  case atStart => exact ⟨0, 0, by omega, by omega, rfl, rfl, by omega, by simp [sumL], by simp, rfl⟩
  case round =>
    obtain ⟨j, s, hj, hj21, rfl, rfl, hs20, hs, hq, rfl⟩ := hrel
    by_cases hlt : j < n
    · have e1 : decide ((j : Int) < (n : Int)) = true := by simp; omega
      by_cases hlt2 : j ≤ 20
      · have e2 : decide ((j : Int) ≤ 20) = true := by simp; omega
        obtain ⟨ad, b, l, Ai, ci, hA, hab, hz, c0, c1, _, rl, hb⟩ := hr.at_ hlt
        have HT := Lib.hid (sumL_take hz)
        subst hA
        have c2 : w.cell? { block := (ad.add (j * 2)).block, off := (ad.add (j * 2)).off + 1 } = some (.slice Ai l.length ci) := by
          have e : ({ block := (ad.add (j * 2)).block, off := (ad.add (j * 2)).off + 1 } : Addr) = ad.add (j * 2 + 1) := by simp [Addr.add]; split <;> simp <;> omega
          rw [e]; exact c1

        by_cases hbig : 20000 < l.length
        · have d3 : decide ((l.length : Int) > 20000) = true := by simp; omega
          have HE := Lib.hid (show grB L = true from by
            have : (L.any fun p => decide (20000 < p.2.length)) = true := by
              rw [List.any_eq_true]
              exact ⟨(b, l), List.mem_of_getElem? hz, by simpa using hbig⟩
            rw [grB, this]; simp)
          clear hz hq hs
          go_wp2_with fail
          go_ret
          exact ⟨by rw [HE.out]; rfl, rfl⟩
        · have d3 : decide ((l.length : Int) > 20000) = false := by simp; omega
          have HQ := Lib.hid (show ∀ p ∈ L.take (j + 1), p.2.length ≤ 20000 from by
            intro p hp
            rw [List.take_add_one, hz] at hp
            rcases List.mem_append.1 hp with h | h
            · exact hq p h
            · simp at h; subst h; exact Nat.le_of_not_lt hbig)
          have HSS := Lib.hid hs
          clear hz hq hs
          go_wp2_with fail
          go_roundw
          case rel => exact ⟨j + 1, s + l.length, by omega, by omega, by go_num, by go_num, by omega, by rw [HT.out, HSS.out], HQ.out, trivial⟩
          case measure => simp [intOf]; omega
      · have e2 : decide ((j : Int) ≤ 20) = false := by simp; omega
        have HG := Lib.hid (show grB L = (decide (20 < n) || decide (40000 < sumL (L.take j))) from by
          by_cases hn : 20 < n
          · simp [grB, HL.out, hn]
          · have hall : (L.any fun p => decide (20000 < p.2.length)) = false := by
              rw [List.any_eq_false]
              intro p hp
              have := hq p (by rw [List.take_of_length_le (by rw [HL.out]; omega)]; exact hp)
              simp; omega
            rw [grB, hall, List.take_of_length_le (by rw [HL.out]; omega), HL.out]
            simp)
        clear hq
        rw [hs] at HG
        by_cases h0 : 20 < n
        · have d1 : decide ((n : Int) > 20) = true := by simp; omega
          have HE := Lib.hid (show grB L = true from by rw [HG.out]; simp; omega)
          go_wp2_with fail
          go_ret
          exact ⟨by rw [HE.out]; rfl, rfl⟩
        · have d1 : decide ((n : Int) > 20) = false := by simp; omega
          by_cases h1 : 40000 < s
          · have d2 : decide ((s : Int) > 40000) = true := by simp; omega
            have HE := Lib.hid (show grB L = true from by rw [HG.out]; simp; omega)
            go_wp2_with fail
            go_ret
            exact ⟨by rw [HE.out]; rfl, rfl⟩
          · have d2 : decide ((s : Int) > 40000) = false := by simp; omega
            have HE := Lib.hid (show grB L = false from by rw [HG.out]; simp; omega)
            go_wp2_with fail
            go_ret
            exact ⟨by rw [HE.out]; rfl, rfl⟩

    · have e1 : decide ((j : Int) < (n : Int)) = false := by simp; omega
      have HG := Lib.hid (show grB L = (decide (20 < n) || decide (40000 < sumL (L.take j))) from by
        by_cases hn : 20 < n
        · simp [grB, HL.out, hn]
        · have hall : (L.any fun p => decide (20000 < p.2.length)) = false := by
            rw [List.any_eq_false]
            intro p hp
            have := hq p (by rw [List.take_of_length_le (by rw [HL.out]; omega)]; exact hp)
            simp; omega
          rw [grB, hall, List.take_of_length_le (by rw [HL.out]; omega), HL.out]
          simp)
      clear hq
      rw [hs] at HG
      by_cases h0 : 20 < n
      · have d1 : decide ((n : Int) > 20) = true := by simp; omega
        have HE := Lib.hid (show grB L = true from by rw [HG.out]; simp; omega)
        go_wp2_with fail
        go_ret
        exact ⟨by rw [HE.out]; rfl, rfl⟩
      · have d1 : decide ((n : Int) > 20) = false := by simp; omega
        by_cases h1 : 40000 < s
        · have d2 : decide ((s : Int) > 40000) = true := by simp; omega
          have HE := Lib.hid (show grB L = true from by rw [HG.out]; simp; omega)
          go_wp2_with fail
          go_ret
          exact ⟨by rw [HE.out]; rfl, rfl⟩
        · have d2 : decide ((s : Int) > 40000) = false := by simp; omega
          have HE := Lib.hid (show grB L = false from by rw [HG.out]; simp; omega)
          go_wp2_with fail
          go_ret
          exact ⟨by rw [HE.out]; rfl, rfl⟩

end Go.Proofs.Ytponceakelimeaa
