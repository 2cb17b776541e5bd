/- The contract of the reference's check of stacks. -/
import Derived.Test.YtponceakelimeaaMem2
namespace Go.Proofs.Ytponceakelimeaa
open Go.RowKit Wire
set_option linter.unusedVariables false

set_option maxRecDepth 100000 in
set_option maxHeartbeats 3200000 in
theorem stacks26_any (A : Option Addr) (n c : Nat) (L : List (Nat × List UInt8)) (w : World) (hr : RdR w A n L) :
    Calls Try.prog 28 #[.slice A n c] w fun e w' => e = .returned (.bool (stB L)) ∧ w = w' := by
  have HL := Lib.hid hr.1
  go_enter Try.func28, Try.ntmps28
  by_cases h0 : n < 1
  · have d0 : decide ((n : Int) < 1) = true := by simp; omega
    have HE := Lib.hid (show stB L = false from by simp [stB, HL.out]; omega)
    go_wp2_with fail
    go_ret
    exact ⟨by rw [HE.out]; rfl, rfl⟩
  have d0 : decide ((n : Int) < 1) = false := by simp; omega
  by_cases h1 : 16 < n
  · have d1 : decide ((n : Int) > 16) = true := by simp; omega
    have HE := Lib.hid (show stB L = false from by simp [stB, HL.out]; omega)
    go_wp2_with fail
    go_ret
    exact ⟨by rw [HE.out]; rfl, rfl⟩
  have d1 : decide ((n : Int) > 16) = false := by simp; omega
  go_wp2_with fail
  clear d0 d1
  go_loopw [3] (fun i wr => ∃ j : Nat, j ≤ n ∧ i = .int .i64 (j : Int) ∧ stkB j (L.drop j) = stkB 0 L ∧ w = wr) (fun i _ => n - (intOf i).toNat)
  case atStart => exact ⟨0, by omega, rfl, rfl, rfl⟩
  case round =>
    obtain ⟨j, hj, rfl, ht, rfl⟩ := hrel
    by_cases hlt : j < n
    · obtain ⟨ad, b, l, Ai, ci, hA, hab, hz, c0, c1, _, rl, hb⟩ := hr.at_ hlt
      have hdr := drop_get hz
      rw [hdr] at ht
      have HT := Lib.hid ht
      clear ht hz hdr
      subst hA
      have c2 : w.cell? { block := (ad.add (j * 2)).block, off := (ad.add (j * 2)).off + 1 } = some (.slice Ai l.length ci) := by
        have e : ({ block := (ad.add (j * 2)).block, off := (ad.add (j * 2)).off + 1 } : Addr) = ad.add (j * 2 + 1) := by simp [Addr.add]; split <;> simp <;> omega
        rw [e]; exact c1

      by_cases g1 : b = 16777216 * (j + 1)
      rotate_left
      · have q1 : ((b : Int) != 16777216 * ((j : Int) + 1)) = true := by rw [bne_iff_ne]; omega
        have hf : fitB b (16777216 * (j + 1)) l.length 4096 = false := by simp [fitB]; omega
        have HE := Lib.hid (show stB L = false from by
          have h := HT.out
          simp only [stkB, hf, Bool.false_and] at h
          simp [stB, ← h])
        clear hf
        go_wp2_with fail
        go_ret
        exact ⟨by rw [HE.out]; rfl, rfl⟩
      have q1 : ((b : Int) != 16777216 * ((j : Int) + 1)) = false := by simp; omega
      by_cases g2 : l.length ≤ 4096
      rotate_left
      · have q2 : decide ((l.length : Int) > 4096) = true := by simp; omega
        have q2' : (4096 : Int) < (l.length : Int) := by omega
        have hf : fitB b (16777216 * (j + 1)) l.length 4096 = false := by simp [fitB]; omega
        clear g1
        have HE := Lib.hid (show stB L = false from by
          have h := HT.out
          simp only [stkB, hf, Bool.false_and] at h
          simp [stB, ← h])
        clear hf
        go_wp2_with fail
        go_ret
        exact ⟨by rw [HE.out]; rfl, rfl⟩
      have q2 : decide ((l.length : Int) > 4096) = false := by simp; omega
      have q2' : ¬ (4096 : Int) < (l.length : Int) := by omega
      by_cases g3 : l.length % 8 = 0
      rotate_left
      · have q3 : ((l.length : Int) % 8 != 0) = true := by rw [bne_iff_ne]; omega
        have hf : fitB b (16777216 * (j + 1)) l.length 4096 = false := by simp [fitB]; omega
        clear g1
        have HE := Lib.hid (show stB L = false from by
          have h := HT.out
          simp only [stkB, hf, Bool.false_and] at h
          simp [stB, ← h])
        clear hf
        go_wp2_with fail
        go_ret
        exact ⟨by rw [HE.out]; rfl, rfl⟩
      have q3 : ((l.length : Int) % 8 != 0) = false := by simp; omega
      have hf : fitB b (16777216 * (j + 1)) l.length 4096 = true := by simp [fitB]; omega
      have HN := Lib.hid (show stkB (j + 1) (L.drop (j + 1)) = stkB 0 L from by
        have h := HT.out
        simpa only [stkB, hf, Bool.true_and] using h)
      clear hf g1 g3
      go_wp2_with fail
      go_roundw
      case rel => exact ⟨j + 1, by omega, by go_num, HN.out, trivial⟩
      case measure => simp [intOf]; omega
    · have HE := Lib.hid (show stB L = true from by
        have hJ : stkB 0 L = true := by rw [← ht, List.drop_of_length_le (by rw [HL.out]; omega)]; rfl
        simp [stB, hJ, HL.out]; omega)
      clear ht
      go_wp2_with fail
      go_ret
      exact ⟨by rw [HE.out]; rfl, rfl⟩

end Go.Proofs.Ytponceakelimeaa
