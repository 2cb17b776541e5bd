/- Contracts and laws of a chapter that its statement of names leans on. Each states its conditions. -/
import Derived.Test.YtldaijkcmnnjpaaMem24
import Derived.Test.YtldaijkcmnnjpaaMem8
namespace Go.Proofs.Ytldaijkcmnnjpaa
open Go.RowKit Wire
set_option linter.unusedVariables false
/-- The chapter's stacks. -/
def twL : List (Nat × List UInt8) := [(16777216, []), (33554432, [1, 2, 3, 4, 5, 6, 7, 8])]
theorem reads_blk {w : World} {g : Nat} {t : TypeId} {cs : Array Value} (h : Blk w g t cs) (size n : Nat) (hn : cs.size = n * size) : Reads w w.heap.size size (some ⟨g, 0, none⟩) n cs.toList := by
  refine ⟨by simpa using hn, fun _ => ⟨_, rfl, h.lt, fun j u hu => ?_⟩⟩
  have hadd : (⟨g, 0, none⟩ : Addr).add j = ⟨g, j, none⟩ := by unfold Addr.add; split <;> simp_all
  rw [hadd, h.cell j]
  simpa using hu
theorem regT2 : AggT Try.prog 75 2 := ⟨⟨_, Try.underlying75, rfl⟩, by kernel_rfl⟩
theorem rb_nil (w : World) (A : Option Addr) : Rb w A 0 [] := ⟨rfl, fun h => absurd h (by omega)⟩
set_option maxRecDepth 100000 in
set_option maxHeartbeats 3200000 in
theorem two_any (w : World) :
    Calls Try.prog 32 #[] w fun e w' => ∃ A', e = .returned (.tuple #[rgn 65536 none 0 0, .slice A' 2 2]) ∧ RdR w' A' 2 twL ∧ Below w.heap.size w w' := by
  have hB : Below w.heap.size w (((w.alloc (.cells #[.int .u64 65536, .slice none 0 0] 75)).alloc (.cells #[.int .u8 1, .int .u8 2, .int .u8 3, .int .u8 4, .int .u8 5, .int .u8 6, .int .u8 7, .int .u8 8] 5)).alloc (.cells #[.int .u64 16777216, .slice none 0 0, .int .u64 33554432, .slice (some ⟨w.heap.size + 1, 0, none⟩) 8 8] 75)) := (Below.alloc (Below.alloc (Below.alloc (Below.refl w.heap.size w) (by simp <;> omega) (.cells #[.int .u64 65536, .slice none 0 0] 75)) (by simp <;> omega) (.cells #[.int .u8 1, .int .u8 2, .int .u8 3, .int .u8 4, .int .u8 5, .int .u8 6, .int .u8 7, .int .u8 8] 5)) (by simp <;> omega) (.cells #[.int .u64 16777216, .slice none 0 0, .int .u64 33554432, .slice (some ⟨w.heap.size + 1, 0, none⟩) 8 8] 75))
  have hr := Blk.new w 75 #[.int .u64 65536, .slice none 0 0]
  replace hr := hr.alloc (.cells #[.int .u8 1, .int .u8 2, .int .u8 3, .int .u8 4, .int .u8 5, .int .u8 6, .int .u8 7, .int .u8 8] 5)
  replace hr := hr.alloc (.cells #[.int .u64 16777216, .slice none 0 0, .int .u64 33554432, .slice (some ⟨w.heap.size + 1, 0, none⟩) 8 8] 75)
  have h8 := Blk.new (w.alloc (.cells #[.int .u64 65536, .slice none 0 0] 75)) 5 #[.int .u8 1, .int .u8 2, .int .u8 3, .int .u8 4, .int .u8 5, .int .u8 6, .int .u8 7, .int .u8 8]
  rw [show (w.alloc (.cells #[.int .u64 65536, .slice none 0 0] 75)).heap.size = w.heap.size + 1 from by simp] at h8
  replace h8 := h8.alloc (.cells #[.int .u64 16777216, .slice none 0 0, .int .u64 33554432, .slice (some ⟨w.heap.size + 1, 0, none⟩) 8 8] 75)
  have h4 := Blk.new ((w.alloc (.cells #[.int .u64 65536, .slice none 0 0] 75)).alloc (.cells #[.int .u8 1, .int .u8 2, .int .u8 3, .int .u8 4, .int .u8 5, .int .u8 6, .int .u8 7, .int .u8 8] 5)) 75 #[.int .u64 16777216, .slice none 0 0, .int .u64 33554432, .slice (some ⟨w.heap.size + 1, 0, none⟩) 8 8]
  rw [show ((w.alloc (.cells #[.int .u64 65536, .slice none 0 0] 75)).alloc (.cells #[.int .u8 1, .int .u8 2, .int .u8 3, .int .u8 4, .int .u8 5, .int .u8 6, .int .u8 7, .int .u8 8] 5)).heap.size = w.heap.size + 2 from by simp] at h4
  go_enter Try.func32, Try.ntmps32
  go_wp2_with fail
  refine ret_c1 rfl regT2 rfl (by repeat (first | with_reducible exact hr | with_reducible (apply Blk.set_) | with_reducible (apply Blk.far; case hp => (simp <;> omega)) | with_reducible (apply Blk.alloc) | with_reducible (apply Blk.drew))) (by rfl) ?_
  have g4 := h4
  have g8 := h8
  refine ⟨_, rfl, ⟨rfl, [[.int .u64 16777216, .slice none 0 0], [.int .u64 33554432, .slice (some ⟨w.heap.size + 1, 0, none⟩) 8 8]], rfl, by simp, reads_blk g4 2 2 rfl, fun k p hp => ?_⟩, (by have hs_ := hB.size; repeat (first | with_reducible exact hB | with_reducible (refine Below.setCell ?_ (by simp <;> omega) _) | with_reducible (refine Below.alloc ?_ (by first | exact hs_ | (simp <;> omega)) _) | with_reducible (refine Below.drew ?_)))⟩
  rcases k with _ | _ | k
  · simp [twL] at hp
    subst hp
    exact ⟨none, 0, rfl, by simp, rb_nil _ _, by simp⟩
  · simp [twL] at hp
    subst hp
    exact ⟨some ⟨w.heap.size + 1, 0, none⟩, 8, rfl, by simp, reads_blk g8 1 8 rfl, by simp⟩
  · simp [twL] at hp
set_option maxRecDepth 100000 in
set_option maxHeartbeats 4000000 in
theorem alive26_any (w : World) :
    Calls Try.prog 39 #[] w fun e w' => e = .returned (.bool true) ∧ Below w.heap.size w w' := by
  have HW := Lib.hid (fun W => writeHeap_any 65536 none 0 0 [] W (rb_nil W none))
  have HS := Lib.hid (fun A W (h : RdR W A 2 twL) => writeStacks_any A 2 2 twL W h (by omega))
  have HD := Lib.hid (fun A W (h : RdR W A 2 twL) => word_any 65536 none 0 0 [] A 2 2 twL 33554432 W (rb_nil W none) (by omega) (by omega) h (by omega) (by omega))
  have HB0 := Lib.hid (fun A W (h : RdR W A 2 twL) => bytes_any 65536 none 0 0 [] A 2 2 twL 65536 0 W (rb_nil W none) (by omega) (by omega) h (by omega) (by omega))
  have HB1 := Lib.hid (fun A W (h : RdR W A 2 twL) => bytes_any 65536 none 0 0 [] A 2 2 twL 65536 1 W (rb_nil W none) (by omega) (by omega) h (by omega) (by omega))
  unfold ByP at HB0 HB1
  rw [show whL 65536 [] = [0] from by decide +kernel, show whE 65536 [] = 0 from by decide +kernel] at HW
  rw [show whS twL = [2, 0, 8, 1, 2, 3, 4, 5, 6, 7, 8] from by decide +kernel, show whSE twL = 0 from by decide +kernel] at HS
  rw [show woN 65536 [] twL 33554432 = 578437695752307201 from by decide +kernel, show woE 65536 [] twL 33554432 = 0 from by decide +kernel] at HD
  rw [show byL 65536 [] twL 65536 0 = [] from by decide +kernel, show byE 65536 [] twL 65536 0 = 0 from by decide +kernel] at HB0
  rw [show byL 65536 [] twL 65536 1 = [] from by decide +kernel, show byE 65536 [] twL 65536 1 = 16 from by decide +kernel] at HB1
  have hB := Below.refl w.heap.size w
  go_enter Try.func39, Try.ntmps39
  go_wp2_with fail
  with_reducible refine (two_any w).mono ?_
  rintro e w1 ⟨A, rfl, hL0, bB⟩
  replace hB := Below.via (w := w) (by have hs_ := hB.size; repeat (first | with_reducible exact hB | with_reducible (refine Below.setCell ?_ (by simp <;> omega) _) | with_reducible (refine Below.alloc ?_ (by first | exact hs_ | (simp <;> omega)) _) | with_reducible (refine Below.drew ?_))) bB
  clear bB
  have HL := Lib.hid hL0
  clear hL0
  go_wp2_with fail
  refine (HW.out _).mono ?_
  rintro e w2 ⟨A2, c2, rfl, o2, bB⟩
  have ne_o2_hk : (Value.slice A2 1 c2).ownBlock ≠ some w1.heap.size := own_not_lt o2 (by first | omega | (simp <;> omega))
  replace o2 := own_low o2 (show w.heap.size ≤ _ from by have hs_ := hB.size; simp <;> omega)
  have ow_hk : w.heap.size ≤ w1.heap.size := (by have := hB.size; omega)
  have hk := Blk.via0 (g := w1.heap.size) (t := 75) bB (by repeat (first | with_reducible exact Blk.newAt (by simp) _ _ | with_reducible (apply Blk.set_) | with_reducible (apply Blk.far; case hp => (simp <;> omega)) | with_reducible (apply Blk.alloc) | with_reducible (apply Blk.drew)))
  replace hk : Blk w2 w1.heap.size 75 #[.int .u64 65536, .slice none 0 0] := hk
  replace HL := Lib.hid (HL.out.mv (Below.via (w := w1) (by have hs_ := (Below.refl w1.heap.size w1).size; repeat (first | with_reducible exact (Below.refl w1.heap.size w1) | with_reducible (refine Below.setCell ?_ (by simp <;> omega) _) | with_reducible (refine Below.alloc ?_ (by first | exact hs_ | (simp <;> omega)) _) | with_reducible (refine Below.drew ?_))) bB))
  replace hB := Below.via (w := w) (by have hs_ := hB.size; repeat (first | with_reducible exact hB | with_reducible (refine Below.setCell ?_ (by simp <;> omega) _) | with_reducible (refine Below.alloc ?_ (by first | exact hs_ | (simp <;> omega)) _) | with_reducible (refine Below.drew ?_))) bB
  clear bB
  generalize w1.heap.size = pk at *
  have z1 : w2.cell? ⟨pk, 0, none⟩ = some (.int .u64 65536) := (hk.cell 0).trans rfl
  have z2 := hk.frozen 0
  have z3 : w2.cell? ⟨pk, 1, none⟩ = some (.slice none 0 0) := (hk.cell 1).trans rfl
  have z4 := hk.frozen 1
  have z5 := hk.lt
  go_wp2_with fail
  refine (HS.out _ _ HL.out).mono ?_
  rintro e w3 ⟨A3, c3, rfl, o3, bB⟩
  have ne_o3_hk : (Value.slice A3 11 c3).ownBlock ≠ some pk := own_not_lt o3 (by first | omega | (simp <;> omega))
  replace o3 := own_low o3 (show w.heap.size ≤ _ from by have hs_ := hB.size; simp <;> omega)
  replace hk := Blk.via0 (g := pk) (t := 75) bB (by repeat (first | with_reducible exact hk | with_reducible (apply Blk.set_) | with_reducible (apply Blk.far; case hp => (simp <;> omega)) | with_reducible (apply Blk.alloc) | with_reducible (apply Blk.drew)))
  replace hk : Blk w3 pk 75 #[.int .u64 65536, .slice none 0 0] := hk
  replace o2 := own_call (by repeat (first | with_reducible exact o2 | (with_reducible apply own_set_; case hne => first | exact ne_o2_hk) | with_reducible (apply own_alloc_) | with_reducible (apply own_drew_))) bB
  replace HL := Lib.hid (HL.out.mv (Below.via (w := w2) (by have hs_ := (Below.refl w2.heap.size w2).size; repeat (first | with_reducible exact (Below.refl w2.heap.size w2) | with_reducible (refine Below.setCell ?_ (by simp <;> omega) _) | with_reducible (refine Below.alloc ?_ (by first | exact hs_ | (simp <;> omega)) _) | with_reducible (refine Below.drew ?_))) bB))
  replace hB := Below.via (w := w) (by have hs_ := hB.size; repeat (first | with_reducible exact hB | with_reducible (refine Below.setCell ?_ (by simp <;> omega) _) | with_reducible (refine Below.alloc ?_ (by first | exact hs_ | (simp <;> omega)) _) | with_reducible (refine Below.drew ?_))) bB
  clear z1 z2 z3 z4 z5
  clear bB
  have z6 : w3.cell? ⟨pk, 0, none⟩ = some (.int .u64 65536) := (hk.cell 0).trans rfl
  have z7 := hk.frozen 0
  have z8 : w3.cell? ⟨pk, 1, none⟩ = some (.slice none 0 0) := (hk.cell 1).trans rfl
  have z9 := hk.frozen 1
  have z10 := hk.lt
  go_wp2_with fail
  refine (HD.out _ _ HL.out).mono ?_
  rintro e w4 ⟨rfl, bB⟩
  replace hk := Blk.via0 (g := pk) (t := 75) bB (by repeat (first | with_reducible exact hk | with_reducible (apply Blk.set_) | with_reducible (apply Blk.far; case hp => (simp <;> omega)) | with_reducible (apply Blk.alloc) | with_reducible (apply Blk.drew)))
  replace hk : Blk w4 pk 75 #[.int .u64 65536, .slice none 0 0] := hk
  replace o2 := own_call (by repeat (first | with_reducible exact o2 | (with_reducible apply own_set_; case hne => first | exact ne_o2_hk) | with_reducible (apply own_alloc_) | with_reducible (apply own_drew_))) bB
  replace o3 := own_call (by repeat (first | with_reducible exact o3 | (with_reducible apply own_set_; case hne => first | exact ne_o3_hk) | with_reducible (apply own_alloc_) | with_reducible (apply own_drew_))) bB
  replace HL := Lib.hid (HL.out.mv (Below.via (w := w3) (by have hs_ := (Below.refl w3.heap.size w3).size; repeat (first | with_reducible exact (Below.refl w3.heap.size w3) | with_reducible (refine Below.setCell ?_ (by simp <;> omega) _) | with_reducible (refine Below.alloc ?_ (by first | exact hs_ | (simp <;> omega)) _) | with_reducible (refine Below.drew ?_))) bB))
  replace hB := Below.via (w := w) (by have hs_ := hB.size; repeat (first | with_reducible exact hB | with_reducible (refine Below.setCell ?_ (by simp <;> omega) _) | with_reducible (refine Below.alloc ?_ (by first | exact hs_ | (simp <;> omega)) _) | with_reducible (refine Below.drew ?_))) bB
  clear z6 z7 z8 z9 z10
  clear bB
  have z11 : w4.cell? ⟨pk, 0, none⟩ = some (.int .u64 65536) := (hk.cell 0).trans rfl
  have z12 := hk.frozen 0
  have z13 : w4.cell? ⟨pk, 1, none⟩ = some (.slice none 0 0) := (hk.cell 1).trans rfl
  have z14 := hk.frozen 1
  have z15 := hk.lt
  go_wp2_with fail
  refine (HB0.out _ _ HL.out).mono ?_
  rintro e w5 ⟨A5, c5, rfl, o5, bB⟩
  have ne_o5_hk : (Value.slice A5 0 c5).ownBlock ≠ some pk := own_not_lt o5 (by first | omega | (simp <;> omega))
  replace o5 := own_low o5 (show w.heap.size ≤ _ from by have hs_ := hB.size; simp <;> omega)
  replace hk := Blk.via0 (g := pk) (t := 75) bB (by repeat (first | with_reducible exact hk | with_reducible (apply Blk.set_) | with_reducible (apply Blk.far; case hp => (simp <;> omega)) | with_reducible (apply Blk.alloc) | with_reducible (apply Blk.drew)))
  replace hk : Blk w5 pk 75 #[.int .u64 65536, .slice none 0 0] := hk
  replace o2 := own_call (by repeat (first | with_reducible exact o2 | (with_reducible apply own_set_; case hne => first | exact ne_o2_hk) | with_reducible (apply own_alloc_) | with_reducible (apply own_drew_))) bB
  replace o3 := own_call (by repeat (first | with_reducible exact o3 | (with_reducible apply own_set_; case hne => first | exact ne_o3_hk) | with_reducible (apply own_alloc_) | with_reducible (apply own_drew_))) bB
  replace HL := Lib.hid (HL.out.mv (Below.via (w := w4) (by have hs_ := (Below.refl w4.heap.size w4).size; repeat (first | with_reducible exact (Below.refl w4.heap.size w4) | with_reducible (refine Below.setCell ?_ (by simp <;> omega) _) | with_reducible (refine Below.alloc ?_ (by first | exact hs_ | (simp <;> omega)) _) | with_reducible (refine Below.drew ?_))) bB))
  replace hB := Below.via (w := w) (by have hs_ := hB.size; repeat (first | with_reducible exact hB | with_reducible (refine Below.setCell ?_ (by simp <;> omega) _) | with_reducible (refine Below.alloc ?_ (by first | exact hs_ | (simp <;> omega)) _) | with_reducible (refine Below.drew ?_))) bB
  clear z11 z12 z13 z14 z15
  clear bB
  have z16 : w5.cell? ⟨pk, 0, none⟩ = some (.int .u64 65536) := (hk.cell 0).trans rfl
  have z17 := hk.frozen 0
  have z18 : w5.cell? ⟨pk, 1, none⟩ = some (.slice none 0 0) := (hk.cell 1).trans rfl
  have z19 := hk.frozen 1
  have z20 := hk.lt
  go_wp2_with fail
  refine (HB1.out _ _ HL.out).mono ?_
  rintro e w6 ⟨A6, c6, rfl, o6, bB⟩
  replace hk := Blk.via0 (g := pk) (t := 75) bB (by repeat (first | with_reducible exact hk | with_reducible (apply Blk.set_) | with_reducible (apply Blk.far; case hp => (simp <;> omega)) | with_reducible (apply Blk.alloc) | with_reducible (apply Blk.drew)))
  replace hk : Blk w6 pk 75 #[.int .u64 65536, .slice none 0 0] := hk
  replace o2 := own_call (by repeat (first | with_reducible exact o2 | (with_reducible apply own_set_; case hne => first | exact ne_o2_hk) | with_reducible (apply own_alloc_) | with_reducible (apply own_drew_))) bB
  replace o3 := own_call (by repeat (first | with_reducible exact o3 | (with_reducible apply own_set_; case hne => first | exact ne_o3_hk) | with_reducible (apply own_alloc_) | with_reducible (apply own_drew_))) bB
  replace o5 := own_call (by repeat (first | with_reducible exact o5 | (with_reducible apply own_set_; case hne => first | exact ne_o5_hk) | with_reducible (apply own_alloc_) | with_reducible (apply own_drew_))) bB
  replace HL := Lib.hid (HL.out.mv (Below.via (w := w5) (by have hs_ := (Below.refl w5.heap.size w5).size; repeat (first | with_reducible exact (Below.refl w5.heap.size w5) | with_reducible (refine Below.setCell ?_ (by simp <;> omega) _) | with_reducible (refine Below.alloc ?_ (by first | exact hs_ | (simp <;> omega)) _) | with_reducible (refine Below.drew ?_))) bB))
  replace hB := Below.via (w := w) (by have hs_ := hB.size; repeat (first | with_reducible exact hB | with_reducible (refine Below.setCell ?_ (by simp <;> omega) _) | with_reducible (refine Below.alloc ?_ (by first | exact hs_ | (simp <;> omega)) _) | with_reducible (refine Below.drew ?_))) bB
  clear z16 z17 z18 z19 z20
  clear bB
  have K2 : CvS A2 1 c2 [0] w6 := cvS c2 (own_rd (l := [0]) o2)
  have K3 : CvS A3 11 c3 [2, 0, 8, 1, 2, 3, 4, 5, 6, 7, 8] w6 := cvS c3 (own_rd (l := [2, 0, 8, 1, 2, 3, 4, 5, 6, 7, 8]) o3)
  have K4 : CvS (some ⟨w6.heap.size, 0, none⟩) 11 11 [2, 0, 8, 1, 2, 3, 4, 5, 6, 7, 8] (w6.alloc (.cells #[.int .u8 2, .int .u8 0, .int .u8 8, .int .u8 1, .int .u8 2, .int .u8 3, .int .u8 4, .int .u8 5, .int .u8 6, .int .u8 7, .int .u8 8] 5)) := cvS 11 (reads_bytes w6 [2, 0, 8, 1, 2, 3, 4, 5, 6, 7, 8] 5)
  go_wp2_with fail
  go_ret
  exact ⟨rfl, (by have hs_ := hB.size; repeat (first | with_reducible exact hB | with_reducible (refine Below.setCell ?_ (by simp <;> omega) _) | with_reducible (refine Below.alloc ?_ (by first | exact hs_ | (simp <;> omega)) _) | with_reducible (refine Below.drew ?_)))⟩

end Go.Proofs.Ytldaijkcmnnjpaa
