/- The chapter's examples hold. No conditions. -/
import Derived.Test.YteaaiacgebikpaaSec4
namespace Go.Proofs.Yteaaiacgebikpaa
open Go.RowKit Wire Crc
set_option linter.unusedVariables false

theorem cvS25 {A : Option Addr} {n : Nat} {l : List UInt8} {w : World} {B : Nat} (c : Nat) (h : RdB w B A n l) : (convert 22 9 (.slice A n c)).run Try.prog w = .ok (.string ⟨l.toArray⟩) w := conv_to_str _ _ _ Try.underlying22 Try.underlying5 Try.underlying9 c h
theorem rdS_nil (w : World) (A : Option Addr) : RdS w A 0 [] := ⟨rfl, [], rfl, by simp, Reads.none_, by simp⟩
theorem rdS_one {w : World} {g : Nat} {A : Option Addr} {c b : Nat} {l : List UInt8} (h : Blk w g 32 #[.int .u8 (b : Int), .slice A l.length c]) (hc : l.length ≤ c ∧ c ≤ 9223372036854775807) (hr : Rb w A l.length l) (hb : b < 256) : RdS w (some ⟨g, 0, none⟩) 1 [(b, l)] := by
  refine ⟨rfl, [[.int .u8 (b : Int), .slice A l.length c]], rfl, by simp, reads_blk2 h 2 1 rfl, fun k p hp => ?_⟩
  rcases k with _ | k
  · simp at hp
    subst hp
    exact ⟨A, c, rfl, hc, hr, hb⟩
  · simp at hp
theorem wr_none : wrL [] = [87, 82, 67, 75, 1, 0, 244, 161, 239, 14] := by decide +kernel
theorem wr_one : wrL [(3, [7])] = [87, 82, 67, 75, 1, 1, 3, 23, 0, 0, 0, 1, 0, 0, 0, 46, 122, 102, 76, 102, 151, 173, 93, 7] := by decide +kernel
theorem ck_none : ckS [] = 0 := by decide +kernel
theorem ck_one : ckS [(3, [7])] = 0 := by decide +kernel
theorem crc_six : nxt 0 [87, 82, 67, 75, 1, 0] = 250585588 := by decide +kernel

set_option maxRecDepth 100000 in
set_option maxHeartbeats 4000000 in
theorem alive25_any (w : World) :
    Calls Try.prog 13 #[] w fun e w' => e = .returned (.bool true) ∧ Below w.heap.size w w' := by
  have hB := Below.refl w.heap.size w
  go_enter Try.func13, Try.ntmps13
  go_wp2_with fail
  have HW0 := write25_any none 0 0 [] w (rdS_nil w none) (by omega)
  rw [wr_none, ck_none] at HW0
  refine (HW0).mono ?_
  rintro e w1 ⟨A1, c1, rfl, o1, bB⟩
  replace o1 := own_low o1 (show w.heap.size ≤ _ from by have hs_ := hB.size; simp <;> omega)
  replace hB := Below.via (w := w) (by have hs_ := hB.size; repeat (first | with_reducible exact hB | with_reducible (refine Below.setCell ?_ (by simp <;> omega) _) | with_reducible (refine Below.alloc ?_ (by first | exact hs_ | (simp <;> omega)) _) | with_reducible (refine Below.drew ?_))) bB
  clear bB
  clear HW0
  go_wp2_with fail
  refine (rtable_any _).mono ?_
  rintro e w2 ⟨rfl, bB⟩
  replace o1 := own_call (by repeat (first | with_reducible exact o1 | (with_reducible apply own_set_; case hne => first | skip) | with_reducible (apply own_alloc_) | with_reducible (apply own_drew_))) bB
  replace hB := Below.via (w := w) (by have hs_ := hB.size; repeat (first | with_reducible exact hB | with_reducible (refine Below.setCell ?_ (by simp <;> omega) _) | with_reducible (refine Below.alloc ?_ (by first | exact hs_ | (simp <;> omega)) _) | with_reducible (refine Below.drew ?_))) bB
  clear bB
  go_wp2_with fail
  have R6 : Rb (w2.alloc (.cells #[.int .u8 87, .int .u8 82, .int .u8 67, .int .u8 75, .int .u8 1, .int .u8 0] 5)) (some ⟨w2.heap.size, 0, none⟩) 6 [87, 82, 67, 75, 1, 0] := reads_bytes w2 [87, 82, 67, 75, 1, 0] 5
  have HS := sum_all el true (eqn_refl _ _) (some ⟨w2.heap.size, 0, none⟩) 6 6 [87, 82, 67, 75, 1, 0] _ R6 (by omega)
  rw [show nxtV true 6 0 [87, 82, 67, 75, 1, 0] = 250585588 from crc_six, show nxtE true 6 = 0 from rfl] at HS
  refine (HS).mono ?_
  rintro e w3 ⟨rfl, bB⟩
  replace o1 := own_call (by repeat (first | with_reducible exact o1 | (with_reducible apply own_set_; case hne => first | skip) | with_reducible (apply own_alloc_) | with_reducible (apply own_drew_))) bB
  replace hB := Below.via (w := w) (by have hs_ := hB.size; repeat (first | with_reducible exact hB | with_reducible (refine Below.setCell ?_ (by simp <;> omega) _) | with_reducible (refine Below.alloc ?_ (by first | exact hs_ | (simp <;> omega)) _) | with_reducible (refine Below.drew ?_))) bB
  clear bB
  clear HS R6
  go_wp2_with fail
  have hq := Blk.new (w3.alloc (.cells #[.int .u8 7] 5)) 32 #[.int .u8 3, .slice (some ⟨w3.heap.size, 0, none⟩) 1 1]
  rw [alloc_size] at hq
  have R7 : Rb ((w3.alloc (.cells #[.int .u8 7] 5)).alloc (.cells #[.int .u8 3, .slice (some ⟨w3.heap.size, 0, none⟩) 1 1] 32)) (some ⟨w3.heap.size, 0, none⟩) 1 [7] := Reads.al (reads_bytes w3 [7] 5) (.cells #[.int .u8 3, .slice (some ⟨w3.heap.size, 0, none⟩) 1 1] 32)
  have HW1 := write25_any (some ⟨w3.heap.size + 1, 0, none⟩) 1 1 [(3, [7])] _ (rdS_one (l := [7]) hq (by simp) R7 (by omega)) (by omega)
  rw [wr_one, ck_one] at HW1
  refine (HW1).mono ?_
  rintro e w4 ⟨A4, c4, rfl, o4, bB⟩
  replace o4 := own_low o4 (show w.heap.size ≤ _ from by have hs_ := hB.size; simp <;> omega)
  replace o1 := own_call (by repeat (first | with_reducible exact o1 | (with_reducible apply own_set_; case hne => first | skip) | with_reducible (apply own_alloc_) | with_reducible (apply own_drew_))) bB
  replace hB := Below.via (w := w) (by have hs_ := hB.size; repeat (first | with_reducible exact hB | with_reducible (refine Below.setCell ?_ (by simp <;> omega) _) | with_reducible (refine Below.alloc ?_ (by first | exact hs_ | (simp <;> omega)) _) | with_reducible (refine Below.drew ?_))) bB
  clear bB
  clear HW1 R7 hq
  replace o1 : w4.ownsRow w.heap.size 5 1 (.slice A1 10 c1) 10 (([87, 82, 67, 75, 1, 0, 244, 161, 239, 14] : List UInt8).map b8) := o1
  replace o4 : w4.ownsRow w.heap.size 5 1 (.slice A4 24 c4) 24 (([87, 82, 67, 75, 1, 1, 3, 23, 0, 0, 0, 1, 0, 0, 0, 46, 122, 102, 76, 102, 151, 173, 93, 7] : List UInt8).map b8) := o4
  have K1 := cvS25 (l := [87, 82, 67, 75, 1, 0, 244, 161, 239, 14]) c1 (own_rd o1)
  have K2 : (convert 22 9 (.slice (some ⟨w4.heap.size, 0, none⟩) 10 10)).run Try.prog (w4.alloc (.cells #[.int .u8 87, .int .u8 82, .int .u8 67, .int .u8 75, .int .u8 1, .int .u8 0, .int .u8 244, .int .u8 161, .int .u8 239, .int .u8 14] 5)) = .ok (.string ⟨([87, 82, 67, 75, 1, 0, 244, 161, 239, 14] : List UInt8).toArray⟩) (w4.alloc (.cells #[.int .u8 87, .int .u8 82, .int .u8 67, .int .u8 75, .int .u8 1, .int .u8 0, .int .u8 244, .int .u8 161, .int .u8 239, .int .u8 14] 5)) := cvS25 10 (reads_bytes w4 [87, 82, 67, 75, 1, 0, 244, 161, 239, 14] 5)
  obtain ⟨g4, rfl, _⟩ := own_head o4 (by omega)
  have R4 := own_rd (l := [87, 82, 67, 75, 1, 1, 3, 23, 0, 0, 0, 1, 0, 0, 0, 46, 122, 102, 76, 102, 151, 173, 93, 7]) (own_alloc_ o4 (.cells #[.int .u8 87, .int .u8 82, .int .u8 67, .int .u8 75, .int .u8 1, .int .u8 0, .int .u8 244, .int .u8 161, .int .u8 239, .int .u8 14] 5))
  have q4 : (w4.alloc (.cells #[.int .u8 87, .int .u8 82, .int .u8 67, .int .u8 75, .int .u8 1, .int .u8 0, .int .u8 244, .int .u8 161, .int .u8 239, .int .u8 14] 5)).cell? ⟨g4, 7, none⟩ = some (.int .u8 23) := reads_cell R4 (by omega) 7 rfl
  clear R4
  go_wp2_with fail
  go_ret
  exact ⟨rfl, (by have hs_ := hB.size; repeat (first | with_reducible exact hB | with_reducible (refine Below.setCell ?_ (by simp <;> omega) _) | with_reducible (refine Below.alloc ?_ (by first | exact hs_ | (simp <;> omega)) _) | with_reducible (refine Below.drew ?_)))⟩

end Go.Proofs.Yteaaiacgebikpaa
