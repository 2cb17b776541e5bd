/- The walk of SectionWrites. -/
import Derived.Test.YteaaiacgebikpaaSec5
import Derived.Test.YteaaiacgebikpaaSec6
import Derived.Test.YteaaiacgebikpaaSec8
namespace Go.Proofs.Yteaaiacgebikpaa
open Go.RowKit Wire Crc
set_option linter.unusedVariables false

set_option maxRecDepth 100000 in
set_option maxHeartbeats 6400000 in
theorem sectionWrites_walk (w : World) (A : Option Addr) (n c : Nat) (L : List (Nat × List UInt8)) (hr : RdS w A n L) (hc : n ≤ c ∧ c ≤ 9223372036854775807) (kd : Nat) (hkd : kd < 256) (A2 : Option Addr) (n2 c2 : Nat) (z : List Int) (hz : RdY w A2 n2 z) (hc2 : n2 ≤ c2 ∧ c2 ≤ 9223372036854775807) :
    Calls Try.prog 5 #[.slice A n c, .int .u8 (kd : Int), .slice A2 n2 c2] w fun e w' => e = .returned (.bool true) ∧ Below w.heap.size w w' := by
  have hB := Below.refl w.heap.size w
  have HL := Lib.hid hr.1
  have HS := Lib.hid hr
  have HY := Lib.hid hz
  clear hr hz
  go_enter Try.func5, Try.ntmps5
  go_wp2_with fail
  refine (great25_any A n c L _ HS.out (by omega)).mono ?_
  rintro e wq hG
  unfold GrP at hG
  obtain ⟨gb, rfl, hg, rfl⟩ := hG
  cases gb
  rotate_left
  · go_wp2_with fail
    go_ret
    exact ⟨rfl, hB⟩
  obtain ⟨hn20, hle⟩ := hg rfl
  have HLE := Lib.hid (fun p hp => (by have := hle p hp; omega : p.2.length ≤ 1000000) : ∀ p ∈ L, p.2.length ≤ 1000000)
  clear hg hle
  by_cases g2 : 20 < n2
  · go_wp2_with fail
    go_ret
    exact ⟨rfl, hB⟩
  obtain ⟨P1, hP1⟩ : ∃ P, wrL L = P := ⟨_, rfl⟩
  obtain ⟨E1, hE1⟩ : ∃ P, ckS L = P := ⟨_, rfl⟩
  obtain ⟨P2, hP2⟩ : ∃ P, fnL L kd = P := ⟨_, rfl⟩
  obtain ⟨E2, hE2⟩ : ∃ P, fnE25 L kd = P := ⟨_, rfl⟩
  obtain ⟨V3, hV3⟩ : ∃ P, lgV z = P := ⟨_, rfl⟩
  obtain ⟨E3, hE3⟩ : ∃ P, lgE z = P := ⟨_, rfl⟩
  have H1 := Lib.hid (fun (A : Option Addr) (c : Nat) W (h : RdS W A n L) => write25_any A n c L W h (by omega))
  have H2 := Lib.hid (fun (A : Option Addr) (c : Nat) W (h : RdS W A n L) => rwrite25_any A n c L W h (by omega))
  have H3 := Lib.hid (fun (A : Option Addr) (c : Nat) W (h : RdS W A n L) => find25_any A n c L kd W h (by omega) hkd HLE.out)
  have H4 := Lib.hid (fun (A : Option Addr) (c : Nat) W (h : RdS W A n L) => rfind25_any A n c L kd W h (by omega) hkd HLE.out)
  have H5 := Lib.hid (fun W (h : RdY W A2 n2 z) => lengthy25_any A2 n2 c2 z W h (by omega))
  have H6 := Lib.hid (fun W (h : RdY W A2 n2 z) => rlengthy25_any A2 n2 c2 z W h (by omega))
  have H7 := Lib.hid (fun (A : Option Addr) (c : Nat) W (h : RdS W A n L) => check25_any A n c L W h (by omega))
  have H8 := Lib.hid (fun (A : Option Addr) (c : Nat) W (h : RdS W A n L) => rcheck25_any A n c L W h (by omega))
  rw [hP1, hE1] at H1 H2
  rw [hP2, hE2] at H3 H4
  rw [hV3, hE3] at H5 H6
  rw [hE1] at H7 H8
  clear hP1 hE1 hP2 hE2 hV3 hE3
  go_wp2_with fail
  refine (twin25_any A n c L _ (HS.out.mv (by have hs_ := hB.size; repeat (first | with_reducible exact hB | with_reducible (refine Below.setCell ?_ (by simp <;> omega) _) | with_reducible (refine Below.alloc ?_ (by first | exact hs_ | (simp <;> omega)) _) | with_reducible (refine Below.drew ?_)))) (by omega) HLE.out).mono ?_
  rintro e w1 ⟨A4, c4, rfl, hw4, bB⟩
  replace hB := Below.via (w := w) (by have hs_ := hB.size; repeat (first | with_reducible exact hB | with_reducible (refine Below.setCell ?_ (by simp <;> omega) _) | with_reducible (refine Below.alloc ?_ (by first | exact hs_ | (simp <;> omega)) _) | with_reducible (refine Below.drew ?_))) bB
  clear bB
  have HT := Lib.hid hw4.rd
  clear hw4
  have hC := Below.refl w1.heap.size w1
  go_wp2_with fail
  refine (H1.out _ _ _ (HS.out.mv (by have hs_ := hB.size; repeat (first | with_reducible exact hB | with_reducible (refine Below.setCell ?_ (by simp <;> omega) _) | with_reducible (refine Below.alloc ?_ (by first | exact hs_ | (simp <;> omega)) _) | with_reducible (refine Below.drew ?_))))).mono ?_
  rintro e w2 ⟨At1, ct1, rfl, t1, bB⟩
  replace t1 := own_low t1 (show w.heap.size ≤ _ from by have hs_ := hB.size; simp <;> omega)
  replace hC := Below.via (w := w1) (by have hs_ := hC.size; repeat (first | with_reducible exact hC | with_reducible (refine Below.setCell ?_ (by simp <;> omega) _) | with_reducible (refine Below.alloc ?_ (by first | exact hs_ | (simp <;> omega)) _) | with_reducible (refine Below.drew ?_))) bB
  replace hB := Below.via (w := w) (by have hs_ := hB.size; repeat (first | with_reducible exact hB | with_reducible (refine Below.setCell ?_ (by simp <;> omega) _) | with_reducible (refine Below.alloc ?_ (by first | exact hs_ | (simp <;> omega)) _) | with_reducible (refine Below.drew ?_))) bB
  clear bB
  go_wp2_with fail
  refine (H2.out _ _ _ (HT.out.mv (by have hs_ := hC.size; repeat (first | with_reducible exact hC | with_reducible (refine Below.setCell ?_ (by simp <;> omega) _) | with_reducible (refine Below.alloc ?_ (by first | exact hs_ | (simp <;> omega)) _) | with_reducible (refine Below.drew ?_))))).mono ?_
  rintro e w3 ⟨At2, ct2, rfl, t2, bB⟩
  replace t2 := own_low t2 (show w.heap.size ≤ _ from by have hs_ := hB.size; simp <;> omega)
  replace t1 := own_call (by repeat (first | with_reducible exact t1 | (with_reducible apply own_set_; case hne => first | skip) | with_reducible (apply own_alloc_) | with_reducible (apply own_drew_))) bB
  replace hC := Below.via (w := w1) (by have hs_ := hC.size; repeat (first | with_reducible exact hC | with_reducible (refine Below.setCell ?_ (by simp <;> omega) _) | with_reducible (refine Below.alloc ?_ (by first | exact hs_ | (simp <;> omega)) _) | with_reducible (refine Below.drew ?_))) bB
  replace hB := Below.via (w := w) (by have hs_ := hB.size; repeat (first | with_reducible exact hB | with_reducible (refine Below.setCell ?_ (by simp <;> omega) _) | with_reducible (refine Below.alloc ?_ (by first | exact hs_ | (simp <;> omega)) _) | with_reducible (refine Below.drew ?_))) bB
  clear bB
  go_wp2_with fail
  refine (H3.out _ _ _ (HS.out.mv (by have hs_ := hB.size; repeat (first | with_reducible exact hB | with_reducible (refine Below.setCell ?_ (by simp <;> omega) _) | with_reducible (refine Below.alloc ?_ (by first | exact hs_ | (simp <;> omega)) _) | with_reducible (refine Below.drew ?_))))).mono ?_
  rintro e w4 ⟨At3, ct3, rfl, t3, bB⟩
  replace t3 := own_low t3 (show w.heap.size ≤ _ from by have hs_ := hB.size; simp <;> omega)
  replace t1 := own_call (by repeat (first | with_reducible exact t1 | (with_reducible apply own_set_; case hne => first | skip) | with_reducible (apply own_alloc_) | with_reducible (apply own_drew_))) bB
  replace t2 := own_call (by repeat (first | with_reducible exact t2 | (with_reducible apply own_set_; case hne => first | skip) | with_reducible (apply own_alloc_) | with_reducible (apply own_drew_))) bB
  replace hC := Below.via (w := w1) (by have hs_ := hC.size; repeat (first | with_reducible exact hC | with_reducible (refine Below.setCell ?_ (by simp <;> omega) _) | with_reducible (refine Below.alloc ?_ (by first | exact hs_ | (simp <;> omega)) _) | with_reducible (refine Below.drew ?_))) bB
  replace hB := Below.via (w := w) (by have hs_ := hB.size; repeat (first | with_reducible exact hB | with_reducible (refine Below.setCell ?_ (by simp <;> omega) _) | with_reducible (refine Below.alloc ?_ (by first | exact hs_ | (simp <;> omega)) _) | with_reducible (refine Below.drew ?_))) bB
  clear bB
  go_wp2_with fail
  refine (H4.out _ _ _ (HT.out.mv (by have hs_ := hC.size; repeat (first | with_reducible exact hC | with_reducible (refine Below.setCell ?_ (by simp <;> omega) _) | with_reducible (refine Below.alloc ?_ (by first | exact hs_ | (simp <;> omega)) _) | with_reducible (refine Below.drew ?_))))).mono ?_
  rintro e w5 ⟨At4, ct4, rfl, t4, bB⟩
  replace t4 := own_low t4 (show w.heap.size ≤ _ from by have hs_ := hB.size; simp <;> omega)
  replace t1 := own_call (by repeat (first | with_reducible exact t1 | (with_reducible apply own_set_; case hne => first | skip) | with_reducible (apply own_alloc_) | with_reducible (apply own_drew_))) bB
  replace t2 := own_call (by repeat (first | with_reducible exact t2 | (with_reducible apply own_set_; case hne => first | skip) | with_reducible (apply own_alloc_) | with_reducible (apply own_drew_))) bB
  replace t3 := own_call (by repeat (first | with_reducible exact t3 | (with_reducible apply own_set_; case hne => first | skip) | with_reducible (apply own_alloc_) | with_reducible (apply own_drew_))) bB
  replace hC := Below.via (w := w1) (by have hs_ := hC.size; repeat (first | with_reducible exact hC | with_reducible (refine Below.setCell ?_ (by simp <;> omega) _) | with_reducible (refine Below.alloc ?_ (by first | exact hs_ | (simp <;> omega)) _) | with_reducible (refine Below.drew ?_))) bB
  replace hB := Below.via (w := w) (by have hs_ := hB.size; repeat (first | with_reducible exact hB | with_reducible (refine Below.setCell ?_ (by simp <;> omega) _) | with_reducible (refine Below.alloc ?_ (by first | exact hs_ | (simp <;> omega)) _) | with_reducible (refine Below.drew ?_))) bB
  clear bB
  go_wp2_with fail
  refine (H5.out _ (HY.out.mv (by have hs_ := hB.size; repeat (first | with_reducible exact hB | with_reducible (refine Below.setCell ?_ (by simp <;> omega) _) | with_reducible (refine Below.alloc ?_ (by first | exact hs_ | (simp <;> omega)) _) | with_reducible (refine Below.drew ?_))))).mono ?_
  rintro e wq ⟨rfl, rfl⟩
  go_wp2_with fail
  refine (H6.out _ (HY.out.mv (by have hs_ := hB.size; repeat (first | with_reducible exact hB | with_reducible (refine Below.setCell ?_ (by simp <;> omega) _) | with_reducible (refine Below.alloc ?_ (by first | exact hs_ | (simp <;> omega)) _) | with_reducible (refine Below.drew ?_))))).mono ?_
  rintro e wq ⟨rfl, rfl⟩
  go_wp2_with fail
  refine (H7.out _ _ _ (HS.out.mv (by have hs_ := hB.size; repeat (first | with_reducible exact hB | with_reducible (refine Below.setCell ?_ (by simp <;> omega) _) | with_reducible (refine Below.alloc ?_ (by first | exact hs_ | (simp <;> omega)) _) | with_reducible (refine Below.drew ?_))))).mono ?_
  rintro e w6 ⟨rfl, bB⟩
  replace t1 := own_call (by repeat (first | with_reducible exact t1 | (with_reducible apply own_set_; case hne => first | skip) | with_reducible (apply own_alloc_) | with_reducible (apply own_drew_))) bB
  replace t2 := own_call (by repeat (first | with_reducible exact t2 | (with_reducible apply own_set_; case hne => first | skip) | with_reducible (apply own_alloc_) | with_reducible (apply own_drew_))) bB
  replace t3 := own_call (by repeat (first | with_reducible exact t3 | (with_reducible apply own_set_; case hne => first | skip) | with_reducible (apply own_alloc_) | with_reducible (apply own_drew_))) bB
  replace t4 := own_call (by repeat (first | with_reducible exact t4 | (with_reducible apply own_set_; case hne => first | skip) | with_reducible (apply own_alloc_) | with_reducible (apply own_drew_))) bB
  replace hC := Below.via (w := w1) (by have hs_ := hC.size; repeat (first | with_reducible exact hC | with_reducible (refine Below.setCell ?_ (by simp <;> omega) _) | with_reducible (refine Below.alloc ?_ (by first | exact hs_ | (simp <;> omega)) _) | with_reducible (refine Below.drew ?_))) bB
  replace hB := Below.via (w := w) (by have hs_ := hB.size; repeat (first | with_reducible exact hB | with_reducible (refine Below.setCell ?_ (by simp <;> omega) _) | with_reducible (refine Below.alloc ?_ (by first | exact hs_ | (simp <;> omega)) _) | with_reducible (refine Below.drew ?_))) bB
  clear bB
  go_wp2_with fail
  refine (H8.out _ _ _ (HT.out.mv (by have hs_ := hC.size; repeat (first | with_reducible exact hC | with_reducible (refine Below.setCell ?_ (by simp <;> omega) _) | with_reducible (refine Below.alloc ?_ (by first | exact hs_ | (simp <;> omega)) _) | with_reducible (refine Below.drew ?_))))).mono ?_
  rintro e w7 ⟨rfl, bB⟩
  replace t1 := own_call (by repeat (first | with_reducible exact t1 | (with_reducible apply own_set_; case hne => first | skip) | with_reducible (apply own_alloc_) | with_reducible (apply own_drew_))) bB
  replace t2 := own_call (by repeat (first | with_reducible exact t2 | (with_reducible apply own_set_; case hne => first | skip) | with_reducible (apply own_alloc_) | with_reducible (apply own_drew_))) bB
  replace t3 := own_call (by repeat (first | with_reducible exact t3 | (with_reducible apply own_set_; case hne => first | skip) | with_reducible (apply own_alloc_) | with_reducible (apply own_drew_))) bB
  replace t4 := own_call (by repeat (first | with_reducible exact t4 | (with_reducible apply own_set_; case hne => first | skip) | with_reducible (apply own_alloc_) | with_reducible (apply own_drew_))) bB
  replace hC := Below.via (w := w1) (by have hs_ := hC.size; repeat (first | with_reducible exact hC | with_reducible (refine Below.setCell ?_ (by simp <;> omega) _) | with_reducible (refine Below.alloc ?_ (by first | exact hs_ | (simp <;> omega)) _) | with_reducible (refine Below.drew ?_))) bB
  replace hB := Below.via (w := w) (by have hs_ := hB.size; repeat (first | with_reducible exact hB | with_reducible (refine Below.setCell ?_ (by simp <;> omega) _) | with_reducible (refine Below.alloc ?_ (by first | exact hs_ | (simp <;> omega)) _) | with_reducible (refine Below.drew ?_))) bB
  clear bB
  have K1 := cvS25 ct1 (own_rd t1)
  have K2 := cvS25 ct2 (own_rd t2)
  have K3 := cvS25 ct3 (own_rd t3)
  have K4 := cvS25 ct4 (own_rd t4)
  go_wp2_with fail
  refine (same25_any A n c L A4 n c4 L _ (HS.out.mv (by have hs_ := hB.size; repeat (first | with_reducible exact hB | with_reducible (refine Below.setCell ?_ (by simp <;> omega) _) | with_reducible (refine Below.alloc ?_ (by first | exact hs_ | (simp <;> omega)) _) | with_reducible (refine Below.drew ?_)))) (HT.out.mv (by have hs_ := hC.size; repeat (first | with_reducible exact hC | with_reducible (refine Below.setCell ?_ (by simp <;> omega) _) | with_reducible (refine Below.alloc ?_ (by first | exact hs_ | (simp <;> omega)) _) | with_reducible (refine Below.drew ?_)))) (by omega)).mono ?_
  rintro e w8 ⟨rfl, bB⟩
  rw [decide_eq_true (rfl : L = L)]
  replace t1 := own_call (by repeat (first | with_reducible exact t1 | (with_reducible apply own_set_; case hne => first | skip) | with_reducible (apply own_alloc_) | with_reducible (apply own_drew_))) bB
  replace t2 := own_call (by repeat (first | with_reducible exact t2 | (with_reducible apply own_set_; case hne => first | skip) | with_reducible (apply own_alloc_) | with_reducible (apply own_drew_))) bB
  replace t3 := own_call (by repeat (first | with_reducible exact t3 | (with_reducible apply own_set_; case hne => first | skip) | with_reducible (apply own_alloc_) | with_reducible (apply own_drew_))) bB
  replace t4 := own_call (by repeat (first | with_reducible exact t4 | (with_reducible apply own_set_; case hne => first | skip) | with_reducible (apply own_alloc_) | with_reducible (apply own_drew_))) bB
  replace hC := Below.via (w := w1) (by have hs_ := hC.size; repeat (first | with_reducible exact hC | with_reducible (refine Below.setCell ?_ (by simp <;> omega) _) | with_reducible (refine Below.alloc ?_ (by first | exact hs_ | (simp <;> omega)) _) | with_reducible (refine Below.drew ?_))) bB
  replace hB := Below.via (w := w) (by have hs_ := hB.size; repeat (first | with_reducible exact hB | with_reducible (refine Below.setCell ?_ (by simp <;> omega) _) | with_reducible (refine Below.alloc ?_ (by first | exact hs_ | (simp <;> omega)) _) | with_reducible (refine Below.drew ?_))) bB
  clear bB
  go_wp2_with fail
  go_ret
  exact ⟨rfl, (by have hs_ := hB.size; repeat (first | with_reducible exact hB | with_reducible (refine Below.setCell ?_ (by simp <;> omega) _) | with_reducible (refine Below.alloc ?_ (by first | exact hs_ | (simp <;> omega)) _) | with_reducible (refine Below.drew ?_)))⟩

end Go.Proofs.Yteaaiacgebikpaa
