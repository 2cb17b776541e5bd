/- The walk of MemoryBack. -/
import Derived.Test.YtponceakelimeaaMem26
import Derived.Test.YtponceakelimeaaMemBackLaw
import Derived.Test.YtponceakelimeaaMemOpen
import Derived.Test.YtponceakelimeaaMemoryWrites
import Derived.Test.YtponceakelimeaaMemoryReads
namespace Go.Proofs.Ytponceakelimeaa
open Go.RowKit Wire
set_option linter.unusedVariables false

set_option maxRecDepth 100000 in
set_option maxHeartbeats 8000000 in
theorem memoryBack_walk (w : World) (b : Nat) (A0 : Option Addr) (n0 c0 : Nat) (l0 : List UInt8) (hr0 : Rb w A0 n0 l0) (hc0 : n0 ≤ c0 ∧ c0 ≤ 9223372036854775807) (hb : b < 18446744073709551616) (A : Option Addr) (m c : Nat) (L : List (Nat × List UInt8)) (hr : RdR w A m L) (hc : m ≤ c ∧ c ≤ 9223372036854775807) (A2 : Option Addr) (n2 c2 : Nat) (l2 : List UInt8) (hr2 : Rb w A2 n2 l2) (hc2 : n2 ≤ c2 ∧ c2 ≤ 9223372036854775807) :
    Calls Try.prog 9 #[rgn b A0 n0 c0, .slice A m c, .slice A2 n2 c2] w fun e w' => e = .returned (.bool true) ∧ Below w.heap.size w w' := by
  have hl := hr0.len8
  subst hl
  have hl2 := hr2.len8
  subst hl2
  have HR0 := Lib.hid hr0
  have HRS := Lib.hid hr
  have HRB := Lib.hid hr2
  have HLn := Lib.hid hr.1
  clear hr0 hr hr2
  obtain ⟨g1, hg1⟩ : ∃ g1, grB [(b, l0)] = g1 := ⟨_, rfl⟩
  obtain ⟨g2, hg2⟩ : ∃ g2, grB L = g2 := ⟨_, rfl⟩
  have HG := Lib.hid (And.intro hg1 hg2)
  clear hg1 hg2
  have h1 := fun h => heap_again (l := l2) h
  have h2 := fun h => stacks_again (l := l2) h
  have h16 := rsL_len l2
  obtain ⟨bz, hbz⟩ : ∃ bz, rhN l2 = bz := ⟨_, rfl⟩
  obtain ⟨H, hH⟩ : ∃ H, rhL l2 = H := ⟨_, rfl⟩
  obtain ⟨ee, hee⟩ : ∃ ee, rhE l2 = ee := ⟨_, rfl⟩
  obtain ⟨L9, hL9⟩ : ∃ L9, rsL l2 = L9 := ⟨_, rfl⟩
  obtain ⟨es, hes⟩ : ∃ es, rsE l2 = es := ⟨_, rfl⟩
  rw [hbz, hH, hee] at h1
  rw [hL9, hes] at h2
  rw [hL9] at h16
  have HHA := Lib.hid h1
  have HSA := Lib.hid h2
  have HH := Lib.hid (And.intro hbz (And.intro hH hee))
  have HS := Lib.hid (And.intro hL9 hes)
  clear h1 h2 hbz hH hee hL9 hes
  have hB : Below w.heap.size w (w.alloc (.cells #[.int .u64 (b : Int), .slice A0 l0.length c0] 25)) := (Below.alloc (Below.refl w.heap.size w) (by simp <;> omega) (.cells #[.int .u64 (b : Int), .slice A0 l0.length c0] 25))
  have hk := Blk.new w 25 #[.int .u64 (b : Int), .slice A0 l0.length c0]
  go_enter Try.func9, Try.ntmps9
  have z1 : (w.alloc (.cells #[.int .u64 (b : Int), .slice A0 l0.length c0] 25)).cell? ⟨w.heap.size, 0, none⟩ = some (.int .u64 (b : Int)) := (hk.cell 0).trans rfl
  have z2 := hk.frozen 0
  have z3 : (w.alloc (.cells #[.int .u64 (b : Int), .slice A0 l0.length c0] 25)).cell? ⟨w.heap.size, 1, none⟩ = some (.slice A0 l0.length c0) := (hk.cell 1).trans rfl
  have z4 := hk.frozen 1
  have z5 := hk.lt
  go_wp2_with fail
  with_reducible refine (alive26_any _).mono ?_
  rintro e w1 ⟨rfl, bB⟩
  replace hk := Blk.via0 (g := w.heap.size) (t := 25) bB (by repeat (first | with_reducible exact hk | with_reducible (apply Blk.set_) | with_reducible (apply Blk.far; case hp => (simp <;> omega)) | with_reducible (apply Blk.alloc) | with_reducible (apply Blk.drew)))
  replace hk : Blk w1 w.heap.size 25 #[.int .u64 (b : Int), .slice A0 l0.length c0] := hk
  replace hB := Below.via (w := w) (by have hs_ := hB.size; repeat (first | with_reducible exact hB | with_reducible (refine Below.setCell ?_ (by simp <;> omega) _) | with_reducible (refine Below.alloc ?_ (by first | exact hs_ | (simp <;> omega)) _) | with_reducible (refine Below.drew ?_))) bB
  clear z1 z2 z3 z4 z5
  clear bB
  have z6 : w1.cell? ⟨w.heap.size, 0, none⟩ = some (.int .u64 (b : Int)) := (hk.cell 0).trans rfl
  have z7 := hk.frozen 0
  have z8 : w1.cell? ⟨w.heap.size, 1, none⟩ = some (.slice A0 l0.length c0) := (hk.cell 1).trans rfl
  have z9 := hk.frozen 1
  have z10 := hk.lt
  have S1 := rdR_one (HR0.out.mv hB) hc0 hb
  go_wp2_with fail
  refine (great26_any _ 1 1 [(b, l0)] _ S1 (by omega)).mono ?_
  rintro e wq ⟨rfl, rfl⟩
  rw [HG.out.1]
  clear S1
  cases g1
  rotate_left
  · go_wp2_with fail
    go_ret
    exact ⟨rfl, (by have hs_ := hB.size; repeat (first | with_reducible exact hB | with_reducible (refine Below.setCell ?_ (by simp <;> omega) _) | with_reducible (refine Below.alloc ?_ (by first | exact hs_ | (simp <;> omega)) _) | with_reducible (refine Below.drew ?_)))⟩
  go_wp2_with fail
  refine (great26_any A m c L _ (HRS.out.mv (by have hs_ := hB.size; repeat (first | with_reducible exact hB | with_reducible (refine Below.setCell ?_ (by simp <;> omega) _) | with_reducible (refine Below.alloc ?_ (by first | exact hs_ | (simp <;> omega)) _) | with_reducible (refine Below.drew ?_)))) (by omega)).mono ?_
  rintro e wq ⟨rfl, rfl⟩
  rw [HG.out.2]
  cases g2
  rotate_left
  · go_wp2_with fail
    go_ret
    exact ⟨rfl, (by have hs_ := hB.size; repeat (first | with_reducible exact hB | with_reducible (refine Below.setCell ?_ (by simp <;> omega) _) | with_reducible (refine Below.alloc ?_ (by first | exact hs_ | (simp <;> omega)) _) | with_reducible (refine Below.drew ?_)))⟩
  have hm : m ≤ 1000000 := by have := (grB_bd HG.out.2).1; have := HLn.out; omega
  by_cases hlb : 20000 < l2.length
  · have d0 : decide ((l2.length : Int) > 20000) = true := by rw [decide_eq_true_eq]; omega
    go_wp2_with fail
    go_ret
    exact ⟨rfl, (by have hs_ := hB.size; repeat (first | with_reducible exact hB | with_reducible (refine Below.setCell ?_ (by simp <;> omega) _) | with_reducible (refine Below.alloc ?_ (by first | exact hs_ | (simp <;> omega)) _) | with_reducible (refine Below.drew ?_)))⟩
  have d0 : decide ((l2.length : Int) > 20000) = false := by rw [decide_eq_false_iff_not]; omega
  go_wp2_with fail
  with_reducible refine (heap26_any b A0 l0.length c0 _).mono ?_
  rintro e w2 ⟨rfl, bB⟩
  replace hk := Blk.via0 (g := w.heap.size) (t := 25) bB (by repeat (first | with_reducible exact hk | with_reducible (apply Blk.set_) | with_reducible (apply Blk.far; case hp => (simp <;> omega)) | with_reducible (apply Blk.alloc) | with_reducible (apply Blk.drew)))
  replace hk : Blk w2 w.heap.size 25 #[.int .u64 (b : Int), .slice A0 l0.length c0] := hk
  replace hB := Below.via (w := w) (by have hs_ := hB.size; repeat (first | with_reducible exact hB | with_reducible (refine Below.setCell ?_ (by simp <;> omega) _) | with_reducible (refine Below.alloc ?_ (by first | exact hs_ | (simp <;> omega)) _) | with_reducible (refine Below.drew ?_))) bB
  clear z6 z7 z8 z9 z10
  clear bB
  cases hhp : hpB b l0.length
  · clear hhp
    have z11 : w2.cell? ⟨w.heap.size, 0, none⟩ = some (.int .u64 (b : Int)) := (hk.cell 0).trans rfl
    have z12 := hk.frozen 0
    have z13 : w2.cell? ⟨w.heap.size, 1, none⟩ = some (.slice A0 l0.length c0) := (hk.cell 1).trans rfl
    have z14 := hk.frozen 1
    have z15 := hk.lt
    go_wp2_with fail
    refine (stacks26_any A m c L _ (HRS.out.mv (by have hs_ := hB.size; repeat (first | with_reducible exact hB | with_reducible (refine Below.setCell ?_ (by simp <;> omega) _) | with_reducible (refine Below.alloc ?_ (by first | exact hs_ | (simp <;> omega)) _) | with_reducible (refine Below.drew ?_))))).mono ?_
    rintro e wq ⟨rfl, rfl⟩
    cases hst : stB L
    · clear hst
      go_wp2_with fail
      with_reducible refine (readHeap_any A2 l2.length c2 l2 _ (HRB.out.mv (by have hs_ := hB.size; repeat (first | with_reducible exact hB | with_reducible (refine Below.setCell ?_ (by simp <;> omega) _) | with_reducible (refine Below.alloc ?_ (by first | exact hs_ | (simp <;> omega)) _) | with_reducible (refine Below.drew ?_)))) (by omega)).mono ?_
      rintro e w7 ⟨A7, c7, rfl, o7, hc7, bB⟩
      rw [HH.out.2.1] at o7 hc7 ⊢
      rw [HH.out.1, HH.out.2.2]
      have ne_o7_hk : (Value.slice A7 H.length c7).ownBlock ≠ some w.heap.size := OwU.not_lt o7 (by first | omega | (simp <;> omega))
      replace o7 := OwU.low o7 (show w.heap.size ≤ _ from by have hs_ := hB.size; simp <;> omega)
      replace hk := Blk.via0 (g := w.heap.size) (t := 25) bB (by repeat (first | with_reducible exact hk | with_reducible (apply Blk.set_) | with_reducible (apply Blk.far; case hp => (simp <;> omega)) | with_reducible (apply Blk.alloc) | with_reducible (apply Blk.drew)))
      replace hk : Blk w7 w.heap.size 25 #[.int .u64 (b : Int), .slice A0 l0.length c0] := hk
      replace hB := Below.via (w := w) (by have hs_ := hB.size; repeat (first | with_reducible exact hB | with_reducible (refine Below.setCell ?_ (by simp <;> omega) _) | with_reducible (refine Below.alloc ?_ (by first | exact hs_ | (simp <;> omega)) _) | with_reducible (refine Below.drew ?_))) bB
      clear z11 z12 z13 z14 z15
      clear bB
      cases hee : ee == 0
      · have d7 : (ee == 0) = false := hee
        clear hee
        have z16 : w7.cell? ⟨w.heap.size, 0, none⟩ = some (.int .u64 (b : Int)) := (hk.cell 0).trans rfl
        have z17 := hk.frozen 0
        have z18 : ∀ ob_, (w7.alloc ob_).cell? ⟨w.heap.size, 0, none⟩ = some (.int .u64 (b : Int)) := fun ob_ => ((Blk.alloc hk ob_).cell 0).trans rfl
        have z19 : ∀ ob_, (w7.alloc ob_).frozen? ⟨w.heap.size, 0, none⟩ = false := fun ob_ => (Blk.alloc hk ob_).frozen 0
        have z20 : w7.cell? ⟨w.heap.size, 1, none⟩ = some (.slice A0 l0.length c0) := (hk.cell 1).trans rfl
        have z21 := hk.frozen 1
        have z22 : ∀ ob_, (w7.alloc ob_).cell? ⟨w.heap.size, 1, none⟩ = some (.slice A0 l0.length c0) := fun ob_ => ((Blk.alloc hk ob_).cell 1).trans rfl
        have z23 : ∀ ob_, (w7.alloc ob_).frozen? ⟨w.heap.size, 1, none⟩ = false := fun ob_ => (Blk.alloc hk ob_).frozen 1
        have z24 := hk.lt
        go_wp2_with fail
        clear o7
        with_reducible refine (readStacks_any A2 l2.length c2 l2 _ (HRB.out.mv (by have hs_ := hB.size; repeat (first | with_reducible exact hB | with_reducible (refine Below.setCell ?_ (by simp <;> omega) _) | with_reducible (refine Below.alloc ?_ (by first | exact hs_ | (simp <;> omega)) _) | with_reducible (refine Below.drew ?_)))) (by omega)).mono ?_
        rintro e w9 ⟨A9, c9, rfl, o9, bB⟩
        rw [HS.out.1] at o9 ⊢
        rw [HS.out.2]
        replace o9 := (o9.low (show w.heap.size ≤ _ from by have hs_ := hB.size; simp <;> omega)).top
        replace hk := Blk.via0 (g := w.heap.size) (t := 25) bB (by repeat (first | with_reducible exact hk | with_reducible (apply Blk.set_) | with_reducible (apply Blk.far; case hp => (simp <;> omega)) | with_reducible (apply Blk.alloc) | with_reducible (apply Blk.drew)))
        replace hk : Blk w9 w.heap.size 25 #[.int .u64 (b : Int), .slice A0 l0.length c0] := hk
        replace hB := Below.via (w := w) (by have hs_ := hB.size; repeat (first | with_reducible exact hB | with_reducible (refine Below.setCell ?_ (by simp <;> omega) _) | with_reducible (refine Below.alloc ?_ (by first | exact hs_ | (simp <;> omega)) _) | with_reducible (refine Below.drew ?_))) bB
        clear z16 z17 z18 z19 z20 z21 z22 z23 z24
        clear bB
        cases hse : es == 0
        · have d9 : (es == 0) = false := hse
          clear hse
          have z25 : w9.cell? ⟨w.heap.size, 0, none⟩ = some (.int .u64 (b : Int)) := (hk.cell 0).trans rfl
          have z26 := hk.frozen 0
          have z27 : w9.cell? ⟨w.heap.size, 1, none⟩ = some (.slice A0 l0.length c0) := (hk.cell 1).trans rfl
          have z28 := hk.frozen 1
          have z29 := hk.lt
          go_wp2_with fail
          go_ret
          exact ⟨rfl, (by have hs_ := hB.size; repeat (first | with_reducible exact hB | with_reducible (refine Below.setCell ?_ (by simp <;> omega) _) | with_reducible (refine Below.alloc ?_ (by first | exact hs_ | (simp <;> omega)) _) | with_reducible (refine Below.drew ?_)))⟩
        · have d9 : (es == 0) = true := hse
          have HQ := Lib.hid (HSA.out (by simpa using hse))
          clear hse
          have z25 : w9.cell? ⟨w.heap.size, 0, none⟩ = some (.int .u64 (b : Int)) := (hk.cell 0).trans rfl
          have z26 := hk.frozen 0
          have z27 : w9.cell? ⟨w.heap.size, 1, none⟩ = some (.slice A0 l0.length c0) := (hk.cell 1).trans rfl
          have z28 := hk.frozen 1
          have z29 := hk.lt
          go_wp2_with fail
          with_reducible refine (writeStacks_any A9 L9.length c9 L9 _ o9.rd (by omega)).mono ?_
          rintro e w10 ⟨A10, c10, rfl, o10, bB⟩
          rw [HQ.out.1] at o10 ⊢
          rw [HQ.out.2]
          replace hk := Blk.via0 (g := w.heap.size) (t := 25) bB (by repeat (first | with_reducible exact hk | with_reducible (apply Blk.set_) | with_reducible (apply Blk.far; case hp => (simp <;> omega)) | with_reducible (apply Blk.alloc) | with_reducible (apply Blk.drew)))
          replace hk : Blk w10 w.heap.size 25 #[.int .u64 (b : Int), .slice A0 l0.length c0] := hk
          replace hB := Below.via (w := w) (by have hs_ := hB.size; repeat (first | with_reducible exact hB | with_reducible (refine Below.setCell ?_ (by simp <;> omega) _) | with_reducible (refine Below.alloc ?_ (by first | exact hs_ | (simp <;> omega)) _) | with_reducible (refine Below.drew ?_))) bB
          clear z25 z26 z27 z28 z29
          clear bB
          have K1 := cvS c10 (own_rd o10)
          have K2 := cvS c2 (HRB.out.mv hB)
          have z30 : w10.cell? ⟨w.heap.size, 0, none⟩ = some (.int .u64 (b : Int)) := (hk.cell 0).trans rfl
          have z31 := hk.frozen 0
          have z32 : w10.cell? ⟨w.heap.size, 1, none⟩ = some (.slice A0 l0.length c0) := (hk.cell 1).trans rfl
          have z33 := hk.frozen 1
          have z34 := hk.lt
          go_wp2_with fail
          go_ret
          exact ⟨rfl, (by have hs_ := hB.size; repeat (first | with_reducible exact hB | with_reducible (refine Below.setCell ?_ (by simp <;> omega) _) | with_reducible (refine Below.alloc ?_ (by first | exact hs_ | (simp <;> omega)) _) | with_reducible (refine Below.drew ?_)))⟩
      · have d7 : (ee == 0) = true := hee
        have HP := Lib.hid (HHA.out (by simpa using hee))
        clear hee
        have z16 : w7.cell? ⟨w.heap.size, 0, none⟩ = some (.int .u64 (b : Int)) := (hk.cell 0).trans rfl
        have z17 := hk.frozen 0
        have z18 : ∀ ob_, (w7.alloc ob_).cell? ⟨w.heap.size, 0, none⟩ = some (.int .u64 (b : Int)) := fun ob_ => ((Blk.alloc hk ob_).cell 0).trans rfl
        have z19 : ∀ ob_, (w7.alloc ob_).frozen? ⟨w.heap.size, 0, none⟩ = false := fun ob_ => (Blk.alloc hk ob_).frozen 0
        have z20 : w7.cell? ⟨w.heap.size, 1, none⟩ = some (.slice A0 l0.length c0) := (hk.cell 1).trans rfl
        have z21 := hk.frozen 1
        have z22 : ∀ ob_, (w7.alloc ob_).cell? ⟨w.heap.size, 1, none⟩ = some (.slice A0 l0.length c0) := fun ob_ => ((Blk.alloc hk ob_).cell 1).trans rfl
        have z23 : ∀ ob_, (w7.alloc ob_).frozen? ⟨w.heap.size, 1, none⟩ = false := fun ob_ => (Blk.alloc hk ob_).frozen 1
        have z24 := hk.lt
        go_wp2_with fail
        with_reducible refine (writeHeap_any bz A7 H.length c7 H _ ((by repeat (first | with_reducible exact o7 | (with_reducible apply OwU.setOther; case hne => first | exact ne_o7_hk) | with_reducible (apply OwU.al) | with_reducible (apply OwU.drew))) : OwU _ w.heap.size A7 H.length H).rd).mono ?_
        rintro e w8 ⟨A8, c8, rfl, o8, bB⟩
        rw [HP.out.1] at o8 ⊢
        rw [HP.out.2]
        replace hk := Blk.via0 (g := w.heap.size) (t := 25) bB (by repeat (first | with_reducible exact hk | with_reducible (apply Blk.set_) | with_reducible (apply Blk.far; case hp => (simp <;> omega)) | with_reducible (apply Blk.alloc) | with_reducible (apply Blk.drew)))
        replace hk : Blk w8 w.heap.size 25 #[.int .u64 (b : Int), .slice A0 l0.length c0] := hk
        replace o7 := OwU.call (by repeat (first | with_reducible exact o7 | (with_reducible apply OwU.setOther; case hne => first | exact ne_o7_hk) | with_reducible (apply OwU.al) | with_reducible (apply OwU.drew))) bB
        replace hB := Below.via (w := w) (by have hs_ := hB.size; repeat (first | with_reducible exact hB | with_reducible (refine Below.setCell ?_ (by simp <;> omega) _) | with_reducible (refine Below.alloc ?_ (by first | exact hs_ | (simp <;> omega)) _) | with_reducible (refine Below.drew ?_))) bB
        clear z16 z17 z18 z19 z20 z21 z22 z23 z24
        clear bB
        have K1 := cvS c8 (own_rd o8)
        have K2 := cvS c2 (HRB.out.mv (by have hs_ := hB.size; repeat (first | with_reducible exact hB | with_reducible (refine Below.setCell ?_ (by simp <;> omega) _) | with_reducible (refine Below.alloc ?_ (by first | exact hs_ | (simp <;> omega)) _) | with_reducible (refine Below.drew ?_))))
        have z25 : w8.cell? ⟨w.heap.size, 0, none⟩ = some (.int .u64 (b : Int)) := (hk.cell 0).trans rfl
        have z26 := hk.frozen 0
        have z27 : w8.cell? ⟨w.heap.size, 1, none⟩ = some (.slice A0 l0.length c0) := (hk.cell 1).trans rfl
        have z28 := hk.frozen 1
        have z29 := hk.lt
        go_wp2_with fail
        clear K1 K2 o8
        clear o7
        with_reducible refine (readStacks_any A2 l2.length c2 l2 _ (HRB.out.mv (by have hs_ := hB.size; repeat (first | with_reducible exact hB | with_reducible (refine Below.setCell ?_ (by simp <;> omega) _) | with_reducible (refine Below.alloc ?_ (by first | exact hs_ | (simp <;> omega)) _) | with_reducible (refine Below.drew ?_)))) (by omega)).mono ?_
        rintro e w9 ⟨A9, c9, rfl, o9, bB⟩
        rw [HS.out.1] at o9 ⊢
        rw [HS.out.2]
        replace o9 := (o9.low (show w.heap.size ≤ _ from by have hs_ := hB.size; simp <;> omega)).top
        replace hk := Blk.via0 (g := w.heap.size) (t := 25) bB (by repeat (first | with_reducible exact hk | with_reducible (apply Blk.set_) | with_reducible (apply Blk.far; case hp => (simp <;> omega)) | with_reducible (apply Blk.alloc) | with_reducible (apply Blk.drew)))
        replace hk : Blk w9 w.heap.size 25 #[.int .u64 (b : Int), .slice A0 l0.length c0] := hk
        replace hB := Below.via (w := w) (by have hs_ := hB.size; repeat (first | with_reducible exact hB | with_reducible (refine Below.setCell ?_ (by simp <;> omega) _) | with_reducible (refine Below.alloc ?_ (by first | exact hs_ | (simp <;> omega)) _) | with_reducible (refine Below.drew ?_))) bB
        clear z25 z26 z27 z28 z29
        clear bB
        cases hse : es == 0
        · have d9 : (es == 0) = false := hse
          clear hse
          have z30 : w9.cell? ⟨w.heap.size, 0, none⟩ = some (.int .u64 (b : Int)) := (hk.cell 0).trans rfl
          have z31 := hk.frozen 0
          have z32 : w9.cell? ⟨w.heap.size, 1, none⟩ = some (.slice A0 l0.length c0) := (hk.cell 1).trans rfl
          have z33 := hk.frozen 1
          have z34 := hk.lt
          go_wp2_with fail
          go_ret
          exact ⟨rfl, (by have hs_ := hB.size; repeat (first | with_reducible exact hB | with_reducible (refine Below.setCell ?_ (by simp <;> omega) _) | with_reducible (refine Below.alloc ?_ (by first | exact hs_ | (simp <;> omega)) _) | with_reducible (refine Below.drew ?_)))⟩
        · have d9 : (es == 0) = true := hse
          have HQ := Lib.hid (HSA.out (by simpa using hse))
          clear hse
          have z30 : w9.cell? ⟨w.heap.size, 0, none⟩ = some (.int .u64 (b : Int)) := (hk.cell 0).trans rfl
          have z31 := hk.frozen 0
          have z32 : w9.cell? ⟨w.heap.size, 1, none⟩ = some (.slice A0 l0.length c0) := (hk.cell 1).trans rfl
          have z33 := hk.frozen 1
          have z34 := hk.lt
          go_wp2_with fail
          with_reducible refine (writeStacks_any A9 L9.length c9 L9 _ o9.rd (by omega)).mono ?_
          rintro e w10 ⟨A10, c10, rfl, o10, bB⟩
          rw [HQ.out.1] at o10 ⊢
          rw [HQ.out.2]
          replace hk := Blk.via0 (g := w.heap.size) (t := 25) bB (by repeat (first | with_reducible exact hk | with_reducible (apply Blk.set_) | with_reducible (apply Blk.far; case hp => (simp <;> omega)) | with_reducible (apply Blk.alloc) | with_reducible (apply Blk.drew)))
          replace hk : Blk w10 w.heap.size 25 #[.int .u64 (b : Int), .slice A0 l0.length c0] := hk
          replace hB := Below.via (w := w) (by have hs_ := hB.size; repeat (first | with_reducible exact hB | with_reducible (refine Below.setCell ?_ (by simp <;> omega) _) | with_reducible (refine Below.alloc ?_ (by first | exact hs_ | (simp <;> omega)) _) | with_reducible (refine Below.drew ?_))) bB
          clear z30 z31 z32 z33 z34
          clear bB
          have K1 := cvS c10 (own_rd o10)
          have K2 := cvS c2 (HRB.out.mv hB)
          have z35 : w10.cell? ⟨w.heap.size, 0, none⟩ = some (.int .u64 (b : Int)) := (hk.cell 0).trans rfl
          have z36 := hk.frozen 0
          have z37 : w10.cell? ⟨w.heap.size, 1, none⟩ = some (.slice A0 l0.length c0) := (hk.cell 1).trans rfl
          have z38 := hk.frozen 1
          have z39 := hk.lt
          go_wp2_with fail
          go_ret
          exact ⟨rfl, (by have hs_ := hB.size; repeat (first | with_reducible exact hB | with_reducible (refine Below.setCell ?_ (by simp <;> omega) _) | with_reducible (refine Below.alloc ?_ (by first | exact hs_ | (simp <;> omega)) _) | with_reducible (refine Below.drew ?_)))⟩
    · have HT := Lib.hid (stacks_back hst)
      obtain ⟨W5, hW5⟩ : ∃ W5, whS L = W5 := ⟨_, rfl⟩
      rw [hW5] at HT
      have HW5 := Lib.hid hW5
      clear hst hW5
      go_wp2_with fail
      with_reducible refine (writeStacks_any A m c L _ (HRS.out.mv (by have hs_ := hB.size; repeat (first | with_reducible exact hB | with_reducible (refine Below.setCell ?_ (by simp <;> omega) _) | with_reducible (refine Below.alloc ?_ (by first | exact hs_ | (simp <;> omega)) _) | with_reducible (refine Below.drew ?_)))) hm).mono ?_
      rintro e w5 ⟨A5, c5, rfl, o5, bB⟩
      rw [HW5.out] at o5 ⊢
      rw [HT.out.1]
      have ne_o5_hk : (Value.slice A5 W5.length c5).ownBlock ≠ some w.heap.size := own_not_lt o5 (by first | omega | (simp <;> omega))
      replace o5 := own_low o5 (show w.heap.size ≤ _ from by have hs_ := hB.size; simp <;> omega)
      replace hk := Blk.via0 (g := w.heap.size) (t := 25) bB (by repeat (first | with_reducible exact hk | with_reducible (apply Blk.set_) | with_reducible (apply Blk.far; case hp => (simp <;> omega)) | with_reducible (apply Blk.alloc) | with_reducible (apply Blk.drew)))
      replace hk : Blk w5 w.heap.size 25 #[.int .u64 (b : Int), .slice A0 l0.length c0] := hk
      replace hB := Below.via (w := w) (by have hs_ := hB.size; repeat (first | with_reducible exact hB | with_reducible (refine Below.setCell ?_ (by simp <;> omega) _) | with_reducible (refine Below.alloc ?_ (by first | exact hs_ | (simp <;> omega)) _) | with_reducible (refine Below.drew ?_))) bB
      clear z11 z12 z13 z14 z15
      clear bB
      have z16 : w5.cell? ⟨w.heap.size, 0, none⟩ = some (.int .u64 (b : Int)) := (hk.cell 0).trans rfl
      have z17 := hk.frozen 0
      have z18 : w5.cell? ⟨w.heap.size, 1, none⟩ = some (.slice A0 l0.length c0) := (hk.cell 1).trans rfl
      have z19 := hk.frozen 1
      have z20 := hk.lt
      go_wp2_with fail
      have hW5l := HT.out.2.2.2
      with_reducible refine (readStacks_any A5 W5.length c5 W5 _ (own_rd o5) (by omega)).mono ?_
      rintro e w6 ⟨A6, c6, rfl, o6, bB⟩
      rw [HT.out.2.1] at o6 ⊢
      rw [HT.out.2.2.1]
      replace o6 := (o6.low (show w.heap.size ≤ _ from by have hs_ := hB.size; simp <;> omega)).top
      replace hk := Blk.via0 (g := w.heap.size) (t := 25) bB (by repeat (first | with_reducible exact hk | with_reducible (apply Blk.set_) | with_reducible (apply Blk.far; case hp => (simp <;> omega)) | with_reducible (apply Blk.alloc) | with_reducible (apply Blk.drew)))
      replace hk : Blk w6 w.heap.size 25 #[.int .u64 (b : Int), .slice A0 l0.length c0] := hk
      replace o5 := own_call (by repeat (first | with_reducible exact o5 | (with_reducible apply own_set_; case hne => first | exact ne_o5_hk) | with_reducible (apply own_alloc_) | with_reducible (apply own_drew_))) bB
      replace hB := Below.via (w := w) (by have hs_ := hB.size; repeat (first | with_reducible exact hB | with_reducible (refine Below.setCell ?_ (by simp <;> omega) _) | with_reducible (refine Below.alloc ?_ (by first | exact hs_ | (simp <;> omega)) _) | with_reducible (refine Below.drew ?_))) bB
      clear z16 z17 z18 z19 z20
      clear bB
      have z21 : w6.cell? ⟨w.heap.size, 0, none⟩ = some (.int .u64 (b : Int)) := (hk.cell 0).trans rfl
      have z22 := hk.frozen 0
      have z23 : w6.cell? ⟨w.heap.size, 1, none⟩ = some (.slice A0 l0.length c0) := (hk.cell 1).trans rfl
      have z24 := hk.frozen 1
      have z25 := hk.lt
      go_wp2_with fail
      with_reducible refine (sameRegions_any A6 L.length c6 L A m c L _ o6.rd (HRS.out.mv (by have hs_ := hB.size; repeat (first | with_reducible exact hB | with_reducible (refine Below.setCell ?_ (by simp <;> omega) _) | with_reducible (refine Below.alloc ?_ (by first | exact hs_ | (simp <;> omega)) _) | with_reducible (refine Below.drew ?_)))) (by have := HLn.out; omega)).mono ?_
      rintro e w6b ⟨rfl, bB⟩
      rw [decide_eq_true (rfl : L = L)]
      replace hk := Blk.via0 (g := w.heap.size) (t := 25) bB (by repeat (first | with_reducible exact hk | with_reducible (apply Blk.set_) | with_reducible (apply Blk.far; case hp => (simp <;> omega)) | with_reducible (apply Blk.alloc) | with_reducible (apply Blk.drew)))
      replace hk : Blk w6b w.heap.size 25 #[.int .u64 (b : Int), .slice A0 l0.length c0] := hk
      replace o5 := own_call (by repeat (first | with_reducible exact o5 | (with_reducible apply own_set_; case hne => first | exact ne_o5_hk) | with_reducible (apply own_alloc_) | with_reducible (apply own_drew_))) bB
      replace hB := Below.via (w := w) (by have hs_ := hB.size; repeat (first | with_reducible exact hB | with_reducible (refine Below.setCell ?_ (by simp <;> omega) _) | with_reducible (refine Below.alloc ?_ (by first | exact hs_ | (simp <;> omega)) _) | with_reducible (refine Below.drew ?_))) bB
      clear z21 z22 z23 z24 z25
      clear bB
      clear o6 hW5l
      clear o5
      have z26 : w6b.cell? ⟨w.heap.size, 0, none⟩ = some (.int .u64 (b : Int)) := (hk.cell 0).trans rfl
      have z27 := hk.frozen 0
      have z28 : w6b.cell? ⟨w.heap.size, 1, none⟩ = some (.slice A0 l0.length c0) := (hk.cell 1).trans rfl
      have z29 := hk.frozen 1
      have z30 := hk.lt
      go_wp2_with fail
      with_reducible refine (readHeap_any A2 l2.length c2 l2 _ (HRB.out.mv (by have hs_ := hB.size; repeat (first | with_reducible exact hB | with_reducible (refine Below.setCell ?_ (by simp <;> omega) _) | with_reducible (refine Below.alloc ?_ (by first | exact hs_ | (simp <;> omega)) _) | with_reducible (refine Below.drew ?_)))) (by omega)).mono ?_
      rintro e w7 ⟨A7, c7, rfl, o7, hc7, bB⟩
      rw [HH.out.2.1] at o7 hc7 ⊢
      rw [HH.out.1, HH.out.2.2]
      have ne_o7_hk : (Value.slice A7 H.length c7).ownBlock ≠ some w.heap.size := OwU.not_lt o7 (by first | omega | (simp <;> omega))
      replace o7 := OwU.low o7 (show w.heap.size ≤ _ from by have hs_ := hB.size; simp <;> omega)
      replace hk := Blk.via0 (g := w.heap.size) (t := 25) bB (by repeat (first | with_reducible exact hk | with_reducible (apply Blk.set_) | with_reducible (apply Blk.far; case hp => (simp <;> omega)) | with_reducible (apply Blk.alloc) | with_reducible (apply Blk.drew)))
      replace hk : Blk w7 w.heap.size 25 #[.int .u64 (b : Int), .slice A0 l0.length c0] := hk
      replace hB := Below.via (w := w) (by have hs_ := hB.size; repeat (first | with_reducible exact hB | with_reducible (refine Below.setCell ?_ (by simp <;> omega) _) | with_reducible (refine Below.alloc ?_ (by first | exact hs_ | (simp <;> omega)) _) | with_reducible (refine Below.drew ?_))) bB
      clear z26 z27 z28 z29 z30
      clear bB
      cases hee : ee == 0
      · have d7 : (ee == 0) = false := hee
        clear hee
        have z31 : w7.cell? ⟨w.heap.size, 0, none⟩ = some (.int .u64 (b : Int)) := (hk.cell 0).trans rfl
        have z32 := hk.frozen 0
        have z33 : ∀ ob_, (w7.alloc ob_).cell? ⟨w.heap.size, 0, none⟩ = some (.int .u64 (b : Int)) := fun ob_ => ((Blk.alloc hk ob_).cell 0).trans rfl
        have z34 : ∀ ob_, (w7.alloc ob_).frozen? ⟨w.heap.size, 0, none⟩ = false := fun ob_ => (Blk.alloc hk ob_).frozen 0
        have z35 : w7.cell? ⟨w.heap.size, 1, none⟩ = some (.slice A0 l0.length c0) := (hk.cell 1).trans rfl
        have z36 := hk.frozen 1
        have z37 : ∀ ob_, (w7.alloc ob_).cell? ⟨w.heap.size, 1, none⟩ = some (.slice A0 l0.length c0) := fun ob_ => ((Blk.alloc hk ob_).cell 1).trans rfl
        have z38 : ∀ ob_, (w7.alloc ob_).frozen? ⟨w.heap.size, 1, none⟩ = false := fun ob_ => (Blk.alloc hk ob_).frozen 1
        have z39 := hk.lt
        go_wp2_with fail
        clear o7
        with_reducible refine (readStacks_any A2 l2.length c2 l2 _ (HRB.out.mv (by have hs_ := hB.size; repeat (first | with_reducible exact hB | with_reducible (refine Below.setCell ?_ (by simp <;> omega) _) | with_reducible (refine Below.alloc ?_ (by first | exact hs_ | (simp <;> omega)) _) | with_reducible (refine Below.drew ?_)))) (by omega)).mono ?_
        rintro e w9 ⟨A9, c9, rfl, o9, bB⟩
        rw [HS.out.1] at o9 ⊢
        rw [HS.out.2]
        replace o9 := (o9.low (show w.heap.size ≤ _ from by have hs_ := hB.size; simp <;> omega)).top
        replace hk := Blk.via0 (g := w.heap.size) (t := 25) bB (by repeat (first | with_reducible exact hk | with_reducible (apply Blk.set_) | with_reducible (apply Blk.far; case hp => (simp <;> omega)) | with_reducible (apply Blk.alloc) | with_reducible (apply Blk.drew)))
        replace hk : Blk w9 w.heap.size 25 #[.int .u64 (b : Int), .slice A0 l0.length c0] := hk
        replace hB := Below.via (w := w) (by have hs_ := hB.size; repeat (first | with_reducible exact hB | with_reducible (refine Below.setCell ?_ (by simp <;> omega) _) | with_reducible (refine Below.alloc ?_ (by first | exact hs_ | (simp <;> omega)) _) | with_reducible (refine Below.drew ?_))) bB
        clear z31 z32 z33 z34 z35 z36 z37 z38 z39
        clear bB
        cases hse : es == 0
        · have d9 : (es == 0) = false := hse
          clear hse
          have z40 : w9.cell? ⟨w.heap.size, 0, none⟩ = some (.int .u64 (b : Int)) := (hk.cell 0).trans rfl
          have z41 := hk.frozen 0
          have z42 : w9.cell? ⟨w.heap.size, 1, none⟩ = some (.slice A0 l0.length c0) := (hk.cell 1).trans rfl
          have z43 := hk.frozen 1
          have z44 := hk.lt
          go_wp2_with fail
          go_ret
          exact ⟨rfl, (by have hs_ := hB.size; repeat (first | with_reducible exact hB | with_reducible (refine Below.setCell ?_ (by simp <;> omega) _) | with_reducible (refine Below.alloc ?_ (by first | exact hs_ | (simp <;> omega)) _) | with_reducible (refine Below.drew ?_)))⟩
        · have d9 : (es == 0) = true := hse
          have HQ := Lib.hid (HSA.out (by simpa using hse))
          clear hse
          have z40 : w9.cell? ⟨w.heap.size, 0, none⟩ = some (.int .u64 (b : Int)) := (hk.cell 0).trans rfl
          have z41 := hk.frozen 0
          have z42 : w9.cell? ⟨w.heap.size, 1, none⟩ = some (.slice A0 l0.length c0) := (hk.cell 1).trans rfl
          have z43 := hk.frozen 1
          have z44 := hk.lt
          go_wp2_with fail
          with_reducible refine (writeStacks_any A9 L9.length c9 L9 _ o9.rd (by omega)).mono ?_
          rintro e w10 ⟨A10, c10, rfl, o10, bB⟩
          rw [HQ.out.1] at o10 ⊢
          rw [HQ.out.2]
          replace hk := Blk.via0 (g := w.heap.size) (t := 25) bB (by repeat (first | with_reducible exact hk | with_reducible (apply Blk.set_) | with_reducible (apply Blk.far; case hp => (simp <;> omega)) | with_reducible (apply Blk.alloc) | with_reducible (apply Blk.drew)))
          replace hk : Blk w10 w.heap.size 25 #[.int .u64 (b : Int), .slice A0 l0.length c0] := hk
          replace hB := Below.via (w := w) (by have hs_ := hB.size; repeat (first | with_reducible exact hB | with_reducible (refine Below.setCell ?_ (by simp <;> omega) _) | with_reducible (refine Below.alloc ?_ (by first | exact hs_ | (simp <;> omega)) _) | with_reducible (refine Below.drew ?_))) bB
          clear z40 z41 z42 z43 z44
          clear bB
          have K1 := cvS c10 (own_rd o10)
          have K2 := cvS c2 (HRB.out.mv hB)
          have z45 : w10.cell? ⟨w.heap.size, 0, none⟩ = some (.int .u64 (b : Int)) := (hk.cell 0).trans rfl
          have z46 := hk.frozen 0
          have z47 : w10.cell? ⟨w.heap.size, 1, none⟩ = some (.slice A0 l0.length c0) := (hk.cell 1).trans rfl
          have z48 := hk.frozen 1
          have z49 := hk.lt
          go_wp2_with fail
          go_ret
          exact ⟨rfl, (by have hs_ := hB.size; repeat (first | with_reducible exact hB | with_reducible (refine Below.setCell ?_ (by simp <;> omega) _) | with_reducible (refine Below.alloc ?_ (by first | exact hs_ | (simp <;> omega)) _) | with_reducible (refine Below.drew ?_)))⟩
      · have d7 : (ee == 0) = true := hee
        have HP := Lib.hid (HHA.out (by simpa using hee))
        clear hee
        have z31 : w7.cell? ⟨w.heap.size, 0, none⟩ = some (.int .u64 (b : Int)) := (hk.cell 0).trans rfl
        have z32 := hk.frozen 0
        have z33 : ∀ ob_, (w7.alloc ob_).cell? ⟨w.heap.size, 0, none⟩ = some (.int .u64 (b : Int)) := fun ob_ => ((Blk.alloc hk ob_).cell 0).trans rfl
        have z34 : ∀ ob_, (w7.alloc ob_).frozen? ⟨w.heap.size, 0, none⟩ = false := fun ob_ => (Blk.alloc hk ob_).frozen 0
        have z35 : w7.cell? ⟨w.heap.size, 1, none⟩ = some (.slice A0 l0.length c0) := (hk.cell 1).trans rfl
        have z36 := hk.frozen 1
        have z37 : ∀ ob_, (w7.alloc ob_).cell? ⟨w.heap.size, 1, none⟩ = some (.slice A0 l0.length c0) := fun ob_ => ((Blk.alloc hk ob_).cell 1).trans rfl
        have z38 : ∀ ob_, (w7.alloc ob_).frozen? ⟨w.heap.size, 1, none⟩ = false := fun ob_ => (Blk.alloc hk ob_).frozen 1
        have z39 := hk.lt
        go_wp2_with fail
        with_reducible refine (writeHeap_any bz A7 H.length c7 H _ ((by repeat (first | with_reducible exact o7 | (with_reducible apply OwU.setOther; case hne => first | exact ne_o7_hk) | with_reducible (apply OwU.al) | with_reducible (apply OwU.drew))) : OwU _ w.heap.size A7 H.length H).rd).mono ?_
        rintro e w8 ⟨A8, c8, rfl, o8, bB⟩
        rw [HP.out.1] at o8 ⊢
        rw [HP.out.2]
        replace hk := Blk.via0 (g := w.heap.size) (t := 25) bB (by repeat (first | with_reducible exact hk | with_reducible (apply Blk.set_) | with_reducible (apply Blk.far; case hp => (simp <;> omega)) | with_reducible (apply Blk.alloc) | with_reducible (apply Blk.drew)))
        replace hk : Blk w8 w.heap.size 25 #[.int .u64 (b : Int), .slice A0 l0.length c0] := hk
        replace o7 := OwU.call (by repeat (first | with_reducible exact o7 | (with_reducible apply OwU.setOther; case hne => first | exact ne_o7_hk) | with_reducible (apply OwU.al) | with_reducible (apply OwU.drew))) bB
        replace hB := Below.via (w := w) (by have hs_ := hB.size; repeat (first | with_reducible exact hB | with_reducible (refine Below.setCell ?_ (by simp <;> omega) _) | with_reducible (refine Below.alloc ?_ (by first | exact hs_ | (simp <;> omega)) _) | with_reducible (refine Below.drew ?_))) bB
        clear z31 z32 z33 z34 z35 z36 z37 z38 z39
        clear bB
        have K1 := cvS c8 (own_rd o8)
        have K2 := cvS c2 (HRB.out.mv (by have hs_ := hB.size; repeat (first | with_reducible exact hB | with_reducible (refine Below.setCell ?_ (by simp <;> omega) _) | with_reducible (refine Below.alloc ?_ (by first | exact hs_ | (simp <;> omega)) _) | with_reducible (refine Below.drew ?_))))
        have z40 : w8.cell? ⟨w.heap.size, 0, none⟩ = some (.int .u64 (b : Int)) := (hk.cell 0).trans rfl
        have z41 := hk.frozen 0
        have z42 : w8.cell? ⟨w.heap.size, 1, none⟩ = some (.slice A0 l0.length c0) := (hk.cell 1).trans rfl
        have z43 := hk.frozen 1
        have z44 := hk.lt
        go_wp2_with fail
        clear K1 K2 o8
        clear o7
        with_reducible refine (readStacks_any A2 l2.length c2 l2 _ (HRB.out.mv (by have hs_ := hB.size; repeat (first | with_reducible exact hB | with_reducible (refine Below.setCell ?_ (by simp <;> omega) _) | with_reducible (refine Below.alloc ?_ (by first | exact hs_ | (simp <;> omega)) _) | with_reducible (refine Below.drew ?_)))) (by omega)).mono ?_
        rintro e w9 ⟨A9, c9, rfl, o9, bB⟩
        rw [HS.out.1] at o9 ⊢
        rw [HS.out.2]
        replace o9 := (o9.low (show w.heap.size ≤ _ from by have hs_ := hB.size; simp <;> omega)).top
        replace hk := Blk.via0 (g := w.heap.size) (t := 25) bB (by repeat (first | with_reducible exact hk | with_reducible (apply Blk.set_) | with_reducible (apply Blk.far; case hp => (simp <;> omega)) | with_reducible (apply Blk.alloc) | with_reducible (apply Blk.drew)))
        replace hk : Blk w9 w.heap.size 25 #[.int .u64 (b : Int), .slice A0 l0.length c0] := hk
        replace hB := Below.via (w := w) (by have hs_ := hB.size; repeat (first | with_reducible exact hB | with_reducible (refine Below.setCell ?_ (by simp <;> omega) _) | with_reducible (refine Below.alloc ?_ (by first | exact hs_ | (simp <;> omega)) _) | with_reducible (refine Below.drew ?_))) bB
        clear z40 z41 z42 z43 z44
        clear bB
        cases hse : es == 0
        · have d9 : (es == 0) = false := hse
          clear hse
          have z45 : w9.cell? ⟨w.heap.size, 0, none⟩ = some (.int .u64 (b : Int)) := (hk.cell 0).trans rfl
          have z46 := hk.frozen 0
          have z47 : w9.cell? ⟨w.heap.size, 1, none⟩ = some (.slice A0 l0.length c0) := (hk.cell 1).trans rfl
          have z48 := hk.frozen 1
          have z49 := hk.lt
          go_wp2_with fail
          go_ret
          exact ⟨rfl, (by have hs_ := hB.size; repeat (first | with_reducible exact hB | with_reducible (refine Below.setCell ?_ (by simp <;> omega) _) | with_reducible (refine Below.alloc ?_ (by first | exact hs_ | (simp <;> omega)) _) | with_reducible (refine Below.drew ?_)))⟩
        · have d9 : (es == 0) = true := hse
          have HQ := Lib.hid (HSA.out (by simpa using hse))
          clear hse
          have z45 : w9.cell? ⟨w.heap.size, 0, none⟩ = some (.int .u64 (b : Int)) := (hk.cell 0).trans rfl
          have z46 := hk.frozen 0
          have z47 : w9.cell? ⟨w.heap.size, 1, none⟩ = some (.slice A0 l0.length c0) := (hk.cell 1).trans rfl
          have z48 := hk.frozen 1
          have z49 := hk.lt
          go_wp2_with fail
          with_reducible refine (writeStacks_any A9 L9.length c9 L9 _ o9.rd (by omega)).mono ?_
          rintro e w10 ⟨A10, c10, rfl, o10, bB⟩
          rw [HQ.out.1] at o10 ⊢
          rw [HQ.out.2]
          replace hk := Blk.via0 (g := w.heap.size) (t := 25) bB (by repeat (first | with_reducible exact hk | with_reducible (apply Blk.set_) | with_reducible (apply Blk.far; case hp => (simp <;> omega)) | with_reducible (apply Blk.alloc) | with_reducible (apply Blk.drew)))
          replace hk : Blk w10 w.heap.size 25 #[.int .u64 (b : Int), .slice A0 l0.length c0] := hk
          replace hB := Below.via (w := w) (by have hs_ := hB.size; repeat (first | with_reducible exact hB | with_reducible (refine Below.setCell ?_ (by simp <;> omega) _) | with_reducible (refine Below.alloc ?_ (by first | exact hs_ | (simp <;> omega)) _) | with_reducible (refine Below.drew ?_))) bB
          clear z45 z46 z47 z48 z49
          clear bB
          have K1 := cvS c10 (own_rd o10)
          have K2 := cvS c2 (HRB.out.mv hB)
          have z50 : w10.cell? ⟨w.heap.size, 0, none⟩ = some (.int .u64 (b : Int)) := (hk.cell 0).trans rfl
          have z51 := hk.frozen 0
          have z52 : w10.cell? ⟨w.heap.size, 1, none⟩ = some (.slice A0 l0.length c0) := (hk.cell 1).trans rfl
          have z53 := hk.frozen 1
          have z54 := hk.lt
          go_wp2_with fail
          go_ret
          exact ⟨rfl, (by have hs_ := hB.size; repeat (first | with_reducible exact hB | with_reducible (refine Below.setCell ?_ (by simp <;> omega) _) | with_reducible (refine Below.alloc ?_ (by first | exact hs_ | (simp <;> omega)) _) | with_reducible (refine Below.drew ?_)))⟩
  · have HT := Lib.hid (heap_back hhp)
    obtain ⟨W3, hW3⟩ : ∃ W3, whL b l0 = W3 := ⟨_, rfl⟩
    rw [hW3] at HT
    have HW3 := Lib.hid hW3
    have hW3l := HT.out.2.2.2.2
    clear hhp hW3
    have z11 : w2.cell? ⟨w.heap.size, 0, none⟩ = some (.int .u64 (b : Int)) := (hk.cell 0).trans rfl
    have z12 := hk.frozen 0
    have z13 : w2.cell? ⟨w.heap.size, 1, none⟩ = some (.slice A0 l0.length c0) := (hk.cell 1).trans rfl
    have z14 := hk.frozen 1
    have z15 := hk.lt
    go_wp2_with fail
    with_reducible refine (writeHeap_any b A0 l0.length c0 l0 _ (HR0.out.mv (by have hs_ := hB.size; repeat (first | with_reducible exact hB | with_reducible (refine Below.setCell ?_ (by simp <;> omega) _) | with_reducible (refine Below.alloc ?_ (by first | exact hs_ | (simp <;> omega)) _) | with_reducible (refine Below.drew ?_))))).mono ?_
    rintro e w3 ⟨A3, c3, rfl, o3, bB⟩
    rw [HW3.out] at o3 ⊢
    rw [HT.out.1]
    have ne_o3_hk : (Value.slice A3 W3.length c3).ownBlock ≠ some w.heap.size := own_not_lt o3 (by first | omega | (simp <;> omega))
    replace o3 := own_low o3 (show w.heap.size ≤ _ from by have hs_ := hB.size; simp <;> omega)
    replace hk := Blk.via0 (g := w.heap.size) (t := 25) bB (by repeat (first | with_reducible exact hk | with_reducible (apply Blk.set_) | with_reducible (apply Blk.far; case hp => (simp <;> omega)) | with_reducible (apply Blk.alloc) | with_reducible (apply Blk.drew)))
    replace hk : Blk w3 w.heap.size 25 #[.int .u64 (b : Int), .slice A0 l0.length c0] := hk
    replace hB := Below.via (w := w) (by have hs_ := hB.size; repeat (first | with_reducible exact hB | with_reducible (refine Below.setCell ?_ (by simp <;> omega) _) | with_reducible (refine Below.alloc ?_ (by first | exact hs_ | (simp <;> omega)) _) | with_reducible (refine Below.drew ?_))) bB
    clear z11 z12 z13 z14 z15
    clear bB
    have z16 : w3.cell? ⟨w.heap.size, 0, none⟩ = some (.int .u64 (b : Int)) := (hk.cell 0).trans rfl
    have z17 := hk.frozen 0
    have z18 : w3.cell? ⟨w.heap.size, 1, none⟩ = some (.slice A0 l0.length c0) := (hk.cell 1).trans rfl
    have z19 := hk.frozen 1
    have z20 := hk.lt
    go_wp2_with fail
    with_reducible refine (readHeap_any A3 W3.length c3 W3 _ (own_rd o3) (by omega)).mono ?_
    rintro e w4 ⟨A4, c4, rfl, o4, hc4, bB⟩
    rw [HT.out.2.2.1] at o4 hc4 ⊢
    rw [HT.out.2.1, HT.out.2.2.2.1]
    have ne_o4_hk : (Value.slice A4 l0.length c4).ownBlock ≠ some w.heap.size := OwU.not_lt o4 (by first | omega | (simp <;> omega))
    replace o4 := OwU.low o4 (show w.heap.size ≤ _ from by have hs_ := hB.size; simp <;> omega)
    replace hk := Blk.via0 (g := w.heap.size) (t := 25) bB (by repeat (first | with_reducible exact hk | with_reducible (apply Blk.set_) | with_reducible (apply Blk.far; case hp => (simp <;> omega)) | with_reducible (apply Blk.alloc) | with_reducible (apply Blk.drew)))
    replace hk : Blk w4 w.heap.size 25 #[.int .u64 (b : Int), .slice A0 l0.length c0] := hk
    replace o3 := own_call (by repeat (first | with_reducible exact o3 | (with_reducible apply own_set_; case hne => first | exact ne_o3_hk) | with_reducible (apply own_alloc_) | with_reducible (apply own_drew_))) bB
    replace hB := Below.via (w := w) (by have hs_ := hB.size; repeat (first | with_reducible exact hB | with_reducible (refine Below.setCell ?_ (by simp <;> omega) _) | with_reducible (refine Below.alloc ?_ (by first | exact hs_ | (simp <;> omega)) _) | with_reducible (refine Below.drew ?_))) bB
    clear z16 z17 z18 z19 z20
    clear bB
    have z21 : w4.cell? ⟨w.heap.size, 0, none⟩ = some (.int .u64 (b : Int)) := (hk.cell 0).trans rfl
    have z22 := hk.frozen 0
    have z23 : ∀ ob_, (w4.alloc ob_).cell? ⟨w.heap.size, 0, none⟩ = some (.int .u64 (b : Int)) := fun ob_ => ((Blk.alloc hk ob_).cell 0).trans rfl
    have z24 : ∀ ob_, (w4.alloc ob_).frozen? ⟨w.heap.size, 0, none⟩ = false := fun ob_ => (Blk.alloc hk ob_).frozen 0
    have z25 : w4.cell? ⟨w.heap.size, 1, none⟩ = some (.slice A0 l0.length c0) := (hk.cell 1).trans rfl
    have z26 := hk.frozen 1
    have z27 : ∀ ob_, (w4.alloc ob_).cell? ⟨w.heap.size, 1, none⟩ = some (.slice A0 l0.length c0) := fun ob_ => ((Blk.alloc hk ob_).cell 1).trans rfl
    have z28 : ∀ ob_, (w4.alloc ob_).frozen? ⟨w.heap.size, 1, none⟩ = false := fun ob_ => (Blk.alloc hk ob_).frozen 1
    have z29 := hk.lt
    go_wp2_with fail
    with_reducible refine (sameRegion_any b A4 l0.length c4 l0 b A0 l0.length c0 l0 _ ((by repeat (first | with_reducible exact o4 | (with_reducible apply OwU.setOther; case hne => first | exact ne_o4_hk) | with_reducible (apply OwU.al) | with_reducible (apply OwU.drew))) : OwU _ w.heap.size A4 l0.length l0).rd (HR0.out.mv (by have hs_ := hB.size; repeat (first | with_reducible exact hB | with_reducible (refine Below.setCell ?_ (by simp <;> omega) _) | with_reducible (refine Below.alloc ?_ (by first | exact hs_ | (simp <;> omega)) _) | with_reducible (refine Below.drew ?_))))).mono ?_
    rintro e w4b ⟨rfl, bB⟩
    rw [show smR (b, l0) (b, l0) = true from smR_iff.2 rfl]
    have ne_o3_hn : (Value.slice A3 W3.length c3).ownBlock ≠ some w4.heap.size := own_not_ge o3 (by omega)
    have ne_o4_hn : (Value.slice A4 l0.length c4).ownBlock ≠ some w4.heap.size := OwU.not_ge o4 (by omega)
    have o_hk_hn : w.heap.size < w4.heap.size := (by omega)
    have ow_hn : w.heap.size ≤ w4.heap.size := (by have := hB.size; omega)
    replace hk := Blk.via0 (g := w.heap.size) (t := 25) bB (by repeat (first | with_reducible exact hk | with_reducible (apply Blk.set_) | with_reducible (apply Blk.far; case hp => (simp <;> omega)) | with_reducible (apply Blk.alloc) | with_reducible (apply Blk.drew)))
    replace hk : Blk w4b w.heap.size 25 #[.int .u64 (b : Int), .slice A0 l0.length c0] := hk
    replace o3 := own_call (by repeat (first | with_reducible exact o3 | (with_reducible apply own_set_; case hne => first | exact ne_o3_hk) | with_reducible (apply own_alloc_) | with_reducible (apply own_drew_))) bB
    replace o4 := OwU.call (by repeat (first | with_reducible exact o4 | (with_reducible apply OwU.setOther; case hne => first | exact ne_o4_hk) | with_reducible (apply OwU.al) | with_reducible (apply OwU.drew))) bB
    have hn := Blk.via0 (g := w4.heap.size) (t := 25) bB (by repeat (first | with_reducible exact Blk.newAt (by simp) _ _ | with_reducible (apply Blk.set_) | with_reducible (apply Blk.far; case hp => (simp <;> omega)) | with_reducible (apply Blk.alloc) | with_reducible (apply Blk.drew)))
    replace hn : Blk w4b w4.heap.size 25 #[.int .u64 (b : Int), .slice A4 l0.length c4] := hn
    replace hB := Below.via (w := w) (by have hs_ := hB.size; repeat (first | with_reducible exact hB | with_reducible (refine Below.setCell ?_ (by simp <;> omega) _) | with_reducible (refine Below.alloc ?_ (by first | exact hs_ | (simp <;> omega)) _) | with_reducible (refine Below.drew ?_))) bB
    clear z21 z22 z23 z24 z25 z26 z27 z28 z29
    clear bB
    generalize w4.heap.size = pn at *
    clear hW3l hc4
    clear o3 o4
    have z30 : w4b.cell? ⟨w.heap.size, 0, none⟩ = some (.int .u64 (b : Int)) := (hk.cell 0).trans rfl
    have z31 := hk.frozen 0
    have z32 : w4b.cell? ⟨w.heap.size, 1, none⟩ = some (.slice A0 l0.length c0) := (hk.cell 1).trans rfl
    have z33 := hk.frozen 1
    have z34 : w4b.cell? ⟨pn, 0, none⟩ = some (.int .u64 (b : Int)) := (hn.cell 0).trans rfl
    have z35 := hn.frozen 0
    have z36 : w4b.cell? ⟨pn, 1, none⟩ = some (.slice A4 l0.length c4) := (hn.cell 1).trans rfl
    have z37 := hn.frozen 1
    have z38 := hk.lt
    have z39 := hn.lt
    go_wp2_with fail
    clear z30 z31 z32 z33 z34 z35 z36 z37 z38 z39
    clear hn
    have z40 : w4b.cell? ⟨w.heap.size, 0, none⟩ = some (.int .u64 (b : Int)) := (hk.cell 0).trans rfl
    have z41 := hk.frozen 0
    have z42 : w4b.cell? ⟨w.heap.size, 1, none⟩ = some (.slice A0 l0.length c0) := (hk.cell 1).trans rfl
    have z43 := hk.frozen 1
    have z44 := hk.lt
    refine (stacks26_any A m c L _ (HRS.out.mv (by have hs_ := hB.size; repeat (first | with_reducible exact hB | with_reducible (refine Below.setCell ?_ (by simp <;> omega) _) | with_reducible (refine Below.alloc ?_ (by first | exact hs_ | (simp <;> omega)) _) | with_reducible (refine Below.drew ?_))))).mono ?_
    rintro e wq ⟨rfl, rfl⟩
    cases hst : stB L
    · clear hst
      go_wp2_with fail
      with_reducible refine (readHeap_any A2 l2.length c2 l2 _ (HRB.out.mv (by have hs_ := hB.size; repeat (first | with_reducible exact hB | with_reducible (refine Below.setCell ?_ (by simp <;> omega) _) | with_reducible (refine Below.alloc ?_ (by first | exact hs_ | (simp <;> omega)) _) | with_reducible (refine Below.drew ?_)))) (by omega)).mono ?_
      rintro e w7 ⟨A7, c7, rfl, o7, hc7, bB⟩
      rw [HH.out.2.1] at o7 hc7 ⊢
      rw [HH.out.1, HH.out.2.2]
      have ne_o7_hk : (Value.slice A7 H.length c7).ownBlock ≠ some w.heap.size := OwU.not_lt o7 (by first | omega | (simp <;> omega))
      replace o7 := OwU.low o7 (show w.heap.size ≤ _ from by have hs_ := hB.size; simp <;> omega)
      replace hk := Blk.via0 (g := w.heap.size) (t := 25) bB (by repeat (first | with_reducible exact hk | with_reducible (apply Blk.set_) | with_reducible (apply Blk.far; case hp => (simp <;> omega)) | with_reducible (apply Blk.alloc) | with_reducible (apply Blk.drew)))
      replace hk : Blk w7 w.heap.size 25 #[.int .u64 (b : Int), .slice A0 l0.length c0] := hk
      replace hB := Below.via (w := w) (by have hs_ := hB.size; repeat (first | with_reducible exact hB | with_reducible (refine Below.setCell ?_ (by simp <;> omega) _) | with_reducible (refine Below.alloc ?_ (by first | exact hs_ | (simp <;> omega)) _) | with_reducible (refine Below.drew ?_))) bB
      clear z40 z41 z42 z43 z44
      clear bB
      cases hee : ee == 0
      · have d7 : (ee == 0) = false := hee
        clear hee
        have z45 : w7.cell? ⟨w.heap.size, 0, none⟩ = some (.int .u64 (b : Int)) := (hk.cell 0).trans rfl
        have z46 := hk.frozen 0
        have z47 : ∀ ob_, (w7.alloc ob_).cell? ⟨w.heap.size, 0, none⟩ = some (.int .u64 (b : Int)) := fun ob_ => ((Blk.alloc hk ob_).cell 0).trans rfl
        have z48 : ∀ ob_, (w7.alloc ob_).frozen? ⟨w.heap.size, 0, none⟩ = false := fun ob_ => (Blk.alloc hk ob_).frozen 0
        have z49 : w7.cell? ⟨w.heap.size, 1, none⟩ = some (.slice A0 l0.length c0) := (hk.cell 1).trans rfl
        have z50 := hk.frozen 1
        have z51 : ∀ ob_, (w7.alloc ob_).cell? ⟨w.heap.size, 1, none⟩ = some (.slice A0 l0.length c0) := fun ob_ => ((Blk.alloc hk ob_).cell 1).trans rfl
        have z52 : ∀ ob_, (w7.alloc ob_).frozen? ⟨w.heap.size, 1, none⟩ = false := fun ob_ => (Blk.alloc hk ob_).frozen 1
        have z53 := hk.lt
        go_wp2_with fail
        clear o7
        with_reducible refine (readStacks_any A2 l2.length c2 l2 _ (HRB.out.mv (by have hs_ := hB.size; repeat (first | with_reducible exact hB | with_reducible (refine Below.setCell ?_ (by simp <;> omega) _) | with_reducible (refine Below.alloc ?_ (by first | exact hs_ | (simp <;> omega)) _) | with_reducible (refine Below.drew ?_)))) (by omega)).mono ?_
        rintro e w9 ⟨A9, c9, rfl, o9, bB⟩
        rw [HS.out.1] at o9 ⊢
        rw [HS.out.2]
        replace o9 := (o9.low (show w.heap.size ≤ _ from by have hs_ := hB.size; simp <;> omega)).top
        replace hk := Blk.via0 (g := w.heap.size) (t := 25) bB (by repeat (first | with_reducible exact hk | with_reducible (apply Blk.set_) | with_reducible (apply Blk.far; case hp => (simp <;> omega)) | with_reducible (apply Blk.alloc) | with_reducible (apply Blk.drew)))
        replace hk : Blk w9 w.heap.size 25 #[.int .u64 (b : Int), .slice A0 l0.length c0] := hk
        replace hB := Below.via (w := w) (by have hs_ := hB.size; repeat (first | with_reducible exact hB | with_reducible (refine Below.setCell ?_ (by simp <;> omega) _) | with_reducible (refine Below.alloc ?_ (by first | exact hs_ | (simp <;> omega)) _) | with_reducible (refine Below.drew ?_))) bB
        clear z45 z46 z47 z48 z49 z50 z51 z52 z53
        clear bB
        cases hse : es == 0
        · have d9 : (es == 0) = false := hse
          clear hse
          have z54 : w9.cell? ⟨w.heap.size, 0, none⟩ = some (.int .u64 (b : Int)) := (hk.cell 0).trans rfl
          have z55 := hk.frozen 0
          have z56 : w9.cell? ⟨w.heap.size, 1, none⟩ = some (.slice A0 l0.length c0) := (hk.cell 1).trans rfl
          have z57 := hk.frozen 1
          have z58 := hk.lt
          go_wp2_with fail
          go_ret
          exact ⟨rfl, (by have hs_ := hB.size; repeat (first | with_reducible exact hB | with_reducible (refine Below.setCell ?_ (by simp <;> omega) _) | with_reducible (refine Below.alloc ?_ (by first | exact hs_ | (simp <;> omega)) _) | with_reducible (refine Below.drew ?_)))⟩
        · have d9 : (es == 0) = true := hse
          have HQ := Lib.hid (HSA.out (by simpa using hse))
          clear hse
          have z54 : w9.cell? ⟨w.heap.size, 0, none⟩ = some (.int .u64 (b : Int)) := (hk.cell 0).trans rfl
          have z55 := hk.frozen 0
          have z56 : w9.cell? ⟨w.heap.size, 1, none⟩ = some (.slice A0 l0.length c0) := (hk.cell 1).trans rfl
          have z57 := hk.frozen 1
          have z58 := hk.lt
          go_wp2_with fail
          with_reducible refine (writeStacks_any A9 L9.length c9 L9 _ o9.rd (by omega)).mono ?_
          rintro e w10 ⟨A10, c10, rfl, o10, bB⟩
          rw [HQ.out.1] at o10 ⊢
          rw [HQ.out.2]
          replace hk := Blk.via0 (g := w.heap.size) (t := 25) bB (by repeat (first | with_reducible exact hk | with_reducible (apply Blk.set_) | with_reducible (apply Blk.far; case hp => (simp <;> omega)) | with_reducible (apply Blk.alloc) | with_reducible (apply Blk.drew)))
          replace hk : Blk w10 w.heap.size 25 #[.int .u64 (b : Int), .slice A0 l0.length c0] := hk
          replace hB := Below.via (w := w) (by have hs_ := hB.size; repeat (first | with_reducible exact hB | with_reducible (refine Below.setCell ?_ (by simp <;> omega) _) | with_reducible (refine Below.alloc ?_ (by first | exact hs_ | (simp <;> omega)) _) | with_reducible (refine Below.drew ?_))) bB
          clear z54 z55 z56 z57 z58
          clear bB
          have K1 := cvS c10 (own_rd o10)
          have K2 := cvS c2 (HRB.out.mv hB)
          have z59 : w10.cell? ⟨w.heap.size, 0, none⟩ = some (.int .u64 (b : Int)) := (hk.cell 0).trans rfl
          have z60 := hk.frozen 0
          have z61 : w10.cell? ⟨w.heap.size, 1, none⟩ = some (.slice A0 l0.length c0) := (hk.cell 1).trans rfl
          have z62 := hk.frozen 1
          have z63 := hk.lt
          go_wp2_with fail
          go_ret
          exact ⟨rfl, (by have hs_ := hB.size; repeat (first | with_reducible exact hB | with_reducible (refine Below.setCell ?_ (by simp <;> omega) _) | with_reducible (refine Below.alloc ?_ (by first | exact hs_ | (simp <;> omega)) _) | with_reducible (refine Below.drew ?_)))⟩
      · have d7 : (ee == 0) = true := hee
        have HP := Lib.hid (HHA.out (by simpa using hee))
        clear hee
        have z45 : w7.cell? ⟨w.heap.size, 0, none⟩ = some (.int .u64 (b : Int)) := (hk.cell 0).trans rfl
        have z46 := hk.frozen 0
        have z47 : ∀ ob_, (w7.alloc ob_).cell? ⟨w.heap.size, 0, none⟩ = some (.int .u64 (b : Int)) := fun ob_ => ((Blk.alloc hk ob_).cell 0).trans rfl
        have z48 : ∀ ob_, (w7.alloc ob_).frozen? ⟨w.heap.size, 0, none⟩ = false := fun ob_ => (Blk.alloc hk ob_).frozen 0
        have z49 : w7.cell? ⟨w.heap.size, 1, none⟩ = some (.slice A0 l0.length c0) := (hk.cell 1).trans rfl
        have z50 := hk.frozen 1
        have z51 : ∀ ob_, (w7.alloc ob_).cell? ⟨w.heap.size, 1, none⟩ = some (.slice A0 l0.length c0) := fun ob_ => ((Blk.alloc hk ob_).cell 1).trans rfl
        have z52 : ∀ ob_, (w7.alloc ob_).frozen? ⟨w.heap.size, 1, none⟩ = false := fun ob_ => (Blk.alloc hk ob_).frozen 1
        have z53 := hk.lt
        go_wp2_with fail
        with_reducible refine (writeHeap_any bz A7 H.length c7 H _ ((by repeat (first | with_reducible exact o7 | (with_reducible apply OwU.setOther; case hne => first | exact ne_o7_hk) | with_reducible (apply OwU.al) | with_reducible (apply OwU.drew))) : OwU _ w.heap.size A7 H.length H).rd).mono ?_
        rintro e w8 ⟨A8, c8, rfl, o8, bB⟩
        rw [HP.out.1] at o8 ⊢
        rw [HP.out.2]
        replace hk := Blk.via0 (g := w.heap.size) (t := 25) bB (by repeat (first | with_reducible exact hk | with_reducible (apply Blk.set_) | with_reducible (apply Blk.far; case hp => (simp <;> omega)) | with_reducible (apply Blk.alloc) | with_reducible (apply Blk.drew)))
        replace hk : Blk w8 w.heap.size 25 #[.int .u64 (b : Int), .slice A0 l0.length c0] := hk
        replace o7 := OwU.call (by repeat (first | with_reducible exact o7 | (with_reducible apply OwU.setOther; case hne => first | exact ne_o7_hk) | with_reducible (apply OwU.al) | with_reducible (apply OwU.drew))) bB
        replace hB := Below.via (w := w) (by have hs_ := hB.size; repeat (first | with_reducible exact hB | with_reducible (refine Below.setCell ?_ (by simp <;> omega) _) | with_reducible (refine Below.alloc ?_ (by first | exact hs_ | (simp <;> omega)) _) | with_reducible (refine Below.drew ?_))) bB
        clear z45 z46 z47 z48 z49 z50 z51 z52 z53
        clear bB
        have K1 := cvS c8 (own_rd o8)
        have K2 := cvS c2 (HRB.out.mv (by have hs_ := hB.size; repeat (first | with_reducible exact hB | with_reducible (refine Below.setCell ?_ (by simp <;> omega) _) | with_reducible (refine Below.alloc ?_ (by first | exact hs_ | (simp <;> omega)) _) | with_reducible (refine Below.drew ?_))))
        have z54 : w8.cell? ⟨w.heap.size, 0, none⟩ = some (.int .u64 (b : Int)) := (hk.cell 0).trans rfl
        have z55 := hk.frozen 0
        have z56 : w8.cell? ⟨w.heap.size, 1, none⟩ = some (.slice A0 l0.length c0) := (hk.cell 1).trans rfl
        have z57 := hk.frozen 1
        have z58 := hk.lt
        go_wp2_with fail
        clear K1 K2 o8
        clear o7
        with_reducible refine (readStacks_any A2 l2.length c2 l2 _ (HRB.out.mv (by have hs_ := hB.size; repeat (first | with_reducible exact hB | with_reducible (refine Below.setCell ?_ (by simp <;> omega) _) | with_reducible (refine Below.alloc ?_ (by first | exact hs_ | (simp <;> omega)) _) | with_reducible (refine Below.drew ?_)))) (by omega)).mono ?_
        rintro e w9 ⟨A9, c9, rfl, o9, bB⟩
        rw [HS.out.1] at o9 ⊢
        rw [HS.out.2]
        replace o9 := (o9.low (show w.heap.size ≤ _ from by have hs_ := hB.size; simp <;> omega)).top
        replace hk := Blk.via0 (g := w.heap.size) (t := 25) bB (by repeat (first | with_reducible exact hk | with_reducible (apply Blk.set_) | with_reducible (apply Blk.far; case hp => (simp <;> omega)) | with_reducible (apply Blk.alloc) | with_reducible (apply Blk.drew)))
        replace hk : Blk w9 w.heap.size 25 #[.int .u64 (b : Int), .slice A0 l0.length c0] := hk
        replace hB := Below.via (w := w) (by have hs_ := hB.size; repeat (first | with_reducible exact hB | with_reducible (refine Below.setCell ?_ (by simp <;> omega) _) | with_reducible (refine Below.alloc ?_ (by first | exact hs_ | (simp <;> omega)) _) | with_reducible (refine Below.drew ?_))) bB
        clear z54 z55 z56 z57 z58
        clear bB
        cases hse : es == 0
        · have d9 : (es == 0) = false := hse
          clear hse
          have z59 : w9.cell? ⟨w.heap.size, 0, none⟩ = some (.int .u64 (b : Int)) := (hk.cell 0).trans rfl
          have z60 := hk.frozen 0
          have z61 : w9.cell? ⟨w.heap.size, 1, none⟩ = some (.slice A0 l0.length c0) := (hk.cell 1).trans rfl
          have z62 := hk.frozen 1
          have z63 := hk.lt
          go_wp2_with fail
          go_ret
          exact ⟨rfl, (by have hs_ := hB.size; repeat (first | with_reducible exact hB | with_reducible (refine Below.setCell ?_ (by simp <;> omega) _) | with_reducible (refine Below.alloc ?_ (by first | exact hs_ | (simp <;> omega)) _) | with_reducible (refine Below.drew ?_)))⟩
        · have d9 : (es == 0) = true := hse
          have HQ := Lib.hid (HSA.out (by simpa using hse))
          clear hse
          have z59 : w9.cell? ⟨w.heap.size, 0, none⟩ = some (.int .u64 (b : Int)) := (hk.cell 0).trans rfl
          have z60 := hk.frozen 0
          have z61 : w9.cell? ⟨w.heap.size, 1, none⟩ = some (.slice A0 l0.length c0) := (hk.cell 1).trans rfl
          have z62 := hk.frozen 1
          have z63 := hk.lt
          go_wp2_with fail
          with_reducible refine (writeStacks_any A9 L9.length c9 L9 _ o9.rd (by omega)).mono ?_
          rintro e w10 ⟨A10, c10, rfl, o10, bB⟩
          rw [HQ.out.1] at o10 ⊢
          rw [HQ.out.2]
          replace hk := Blk.via0 (g := w.heap.size) (t := 25) bB (by repeat (first | with_reducible exact hk | with_reducible (apply Blk.set_) | with_reducible (apply Blk.far; case hp => (simp <;> omega)) | with_reducible (apply Blk.alloc) | with_reducible (apply Blk.drew)))
          replace hk : Blk w10 w.heap.size 25 #[.int .u64 (b : Int), .slice A0 l0.length c0] := hk
          replace hB := Below.via (w := w) (by have hs_ := hB.size; repeat (first | with_reducible exact hB | with_reducible (refine Below.setCell ?_ (by simp <;> omega) _) | with_reducible (refine Below.alloc ?_ (by first | exact hs_ | (simp <;> omega)) _) | with_reducible (refine Below.drew ?_))) bB
          clear z59 z60 z61 z62 z63
          clear bB
          have K1 := cvS c10 (own_rd o10)
          have K2 := cvS c2 (HRB.out.mv hB)
          have z64 : w10.cell? ⟨w.heap.size, 0, none⟩ = some (.int .u64 (b : Int)) := (hk.cell 0).trans rfl
          have z65 := hk.frozen 0
          have z66 : w10.cell? ⟨w.heap.size, 1, none⟩ = some (.slice A0 l0.length c0) := (hk.cell 1).trans rfl
          have z67 := hk.frozen 1
          have z68 := hk.lt
          go_wp2_with fail
          go_ret
          exact ⟨rfl, (by have hs_ := hB.size; repeat (first | with_reducible exact hB | with_reducible (refine Below.setCell ?_ (by simp <;> omega) _) | with_reducible (refine Below.alloc ?_ (by first | exact hs_ | (simp <;> omega)) _) | with_reducible (refine Below.drew ?_)))⟩
    · have HT := Lib.hid (stacks_back hst)
      obtain ⟨W5, hW5⟩ : ∃ W5, whS L = W5 := ⟨_, rfl⟩
      rw [hW5] at HT
      have HW5 := Lib.hid hW5
      clear hst hW5
      go_wp2_with fail
      with_reducible refine (writeStacks_any A m c L _ (HRS.out.mv (by have hs_ := hB.size; repeat (first | with_reducible exact hB | with_reducible (refine Below.setCell ?_ (by simp <;> omega) _) | with_reducible (refine Below.alloc ?_ (by first | exact hs_ | (simp <;> omega)) _) | with_reducible (refine Below.drew ?_)))) hm).mono ?_
      rintro e w5 ⟨A5, c5, rfl, o5, bB⟩
      rw [HW5.out] at o5 ⊢
      rw [HT.out.1]
      have ne_o5_hk : (Value.slice A5 W5.length c5).ownBlock ≠ some w.heap.size := own_not_lt o5 (by first | omega | (simp <;> omega))
      replace o5 := own_low o5 (show w.heap.size ≤ _ from by have hs_ := hB.size; simp <;> omega)
      replace hk := Blk.via0 (g := w.heap.size) (t := 25) bB (by repeat (first | with_reducible exact hk | with_reducible (apply Blk.set_) | with_reducible (apply Blk.far; case hp => (simp <;> omega)) | with_reducible (apply Blk.alloc) | with_reducible (apply Blk.drew)))
      replace hk : Blk w5 w.heap.size 25 #[.int .u64 (b : Int), .slice A0 l0.length c0] := hk
      replace hB := Below.via (w := w) (by have hs_ := hB.size; repeat (first | with_reducible exact hB | with_reducible (refine Below.setCell ?_ (by simp <;> omega) _) | with_reducible (refine Below.alloc ?_ (by first | exact hs_ | (simp <;> omega)) _) | with_reducible (refine Below.drew ?_))) bB
      clear z40 z41 z42 z43 z44
      clear bB
      have z45 : w5.cell? ⟨w.heap.size, 0, none⟩ = some (.int .u64 (b : Int)) := (hk.cell 0).trans rfl
      have z46 := hk.frozen 0
      have z47 : w5.cell? ⟨w.heap.size, 1, none⟩ = some (.slice A0 l0.length c0) := (hk.cell 1).trans rfl
      have z48 := hk.frozen 1
      have z49 := hk.lt
      go_wp2_with fail
      have hW5l := HT.out.2.2.2
      with_reducible refine (readStacks_any A5 W5.length c5 W5 _ (own_rd o5) (by omega)).mono ?_
      rintro e w6 ⟨A6, c6, rfl, o6, bB⟩
      rw [HT.out.2.1] at o6 ⊢
      rw [HT.out.2.2.1]
      replace o6 := (o6.low (show w.heap.size ≤ _ from by have hs_ := hB.size; simp <;> omega)).top
      replace hk := Blk.via0 (g := w.heap.size) (t := 25) bB (by repeat (first | with_reducible exact hk | with_reducible (apply Blk.set_) | with_reducible (apply Blk.far; case hp => (simp <;> omega)) | with_reducible (apply Blk.alloc) | with_reducible (apply Blk.drew)))
      replace hk : Blk w6 w.heap.size 25 #[.int .u64 (b : Int), .slice A0 l0.length c0] := hk
      replace o5 := own_call (by repeat (first | with_reducible exact o5 | (with_reducible apply own_set_; case hne => first | exact ne_o5_hk) | with_reducible (apply own_alloc_) | with_reducible (apply own_drew_))) bB
      replace hB := Below.via (w := w) (by have hs_ := hB.size; repeat (first | with_reducible exact hB | with_reducible (refine Below.setCell ?_ (by simp <;> omega) _) | with_reducible (refine Below.alloc ?_ (by first | exact hs_ | (simp <;> omega)) _) | with_reducible (refine Below.drew ?_))) bB
      clear z45 z46 z47 z48 z49
      clear bB
      have z50 : w6.cell? ⟨w.heap.size, 0, none⟩ = some (.int .u64 (b : Int)) := (hk.cell 0).trans rfl
      have z51 := hk.frozen 0
      have z52 : w6.cell? ⟨w.heap.size, 1, none⟩ = some (.slice A0 l0.length c0) := (hk.cell 1).trans rfl
      have z53 := hk.frozen 1
      have z54 := hk.lt
      go_wp2_with fail
      with_reducible refine (sameRegions_any A6 L.length c6 L A m c L _ o6.rd (HRS.out.mv (by have hs_ := hB.size; repeat (first | with_reducible exact hB | with_reducible (refine Below.setCell ?_ (by simp <;> omega) _) | with_reducible (refine Below.alloc ?_ (by first | exact hs_ | (simp <;> omega)) _) | with_reducible (refine Below.drew ?_)))) (by have := HLn.out; omega)).mono ?_
      rintro e w6b ⟨rfl, bB⟩
      rw [decide_eq_true (rfl : L = L)]
      replace hk := Blk.via0 (g := w.heap.size) (t := 25) bB (by repeat (first | with_reducible exact hk | with_reducible (apply Blk.set_) | with_reducible (apply Blk.far; case hp => (simp <;> omega)) | with_reducible (apply Blk.alloc) | with_reducible (apply Blk.drew)))
      replace hk : Blk w6b w.heap.size 25 #[.int .u64 (b : Int), .slice A0 l0.length c0] := hk
      replace o5 := own_call (by repeat (first | with_reducible exact o5 | (with_reducible apply own_set_; case hne => first | exact ne_o5_hk) | with_reducible (apply own_alloc_) | with_reducible (apply own_drew_))) bB
      replace hB := Below.via (w := w) (by have hs_ := hB.size; repeat (first | with_reducible exact hB | with_reducible (refine Below.setCell ?_ (by simp <;> omega) _) | with_reducible (refine Below.alloc ?_ (by first | exact hs_ | (simp <;> omega)) _) | with_reducible (refine Below.drew ?_))) bB
      clear z50 z51 z52 z53 z54
      clear bB
      clear o6 hW5l
      clear o5
      have z55 : w6b.cell? ⟨w.heap.size, 0, none⟩ = some (.int .u64 (b : Int)) := (hk.cell 0).trans rfl
      have z56 := hk.frozen 0
      have z57 : w6b.cell? ⟨w.heap.size, 1, none⟩ = some (.slice A0 l0.length c0) := (hk.cell 1).trans rfl
      have z58 := hk.frozen 1
      have z59 := hk.lt
      go_wp2_with fail
      with_reducible refine (readHeap_any A2 l2.length c2 l2 _ (HRB.out.mv (by have hs_ := hB.size; repeat (first | with_reducible exact hB | with_reducible (refine Below.setCell ?_ (by simp <;> omega) _) | with_reducible (refine Below.alloc ?_ (by first | exact hs_ | (simp <;> omega)) _) | with_reducible (refine Below.drew ?_)))) (by omega)).mono ?_
      rintro e w7 ⟨A7, c7, rfl, o7, hc7, bB⟩
      rw [HH.out.2.1] at o7 hc7 ⊢
      rw [HH.out.1, HH.out.2.2]
      have ne_o7_hk : (Value.slice A7 H.length c7).ownBlock ≠ some w.heap.size := OwU.not_lt o7 (by first | omega | (simp <;> omega))
      replace o7 := OwU.low o7 (show w.heap.size ≤ _ from by have hs_ := hB.size; simp <;> omega)
      replace hk := Blk.via0 (g := w.heap.size) (t := 25) bB (by repeat (first | with_reducible exact hk | with_reducible (apply Blk.set_) | with_reducible (apply Blk.far; case hp => (simp <;> omega)) | with_reducible (apply Blk.alloc) | with_reducible (apply Blk.drew)))
      replace hk : Blk w7 w.heap.size 25 #[.int .u64 (b : Int), .slice A0 l0.length c0] := hk
      replace hB := Below.via (w := w) (by have hs_ := hB.size; repeat (first | with_reducible exact hB | with_reducible (refine Below.setCell ?_ (by simp <;> omega) _) | with_reducible (refine Below.alloc ?_ (by first | exact hs_ | (simp <;> omega)) _) | with_reducible (refine Below.drew ?_))) bB
      clear z55 z56 z57 z58 z59
      clear bB
      cases hee : ee == 0
      · have d7 : (ee == 0) = false := hee
        clear hee
        have z60 : w7.cell? ⟨w.heap.size, 0, none⟩ = some (.int .u64 (b : Int)) := (hk.cell 0).trans rfl
        have z61 := hk.frozen 0
        have z62 : ∀ ob_, (w7.alloc ob_).cell? ⟨w.heap.size, 0, none⟩ = some (.int .u64 (b : Int)) := fun ob_ => ((Blk.alloc hk ob_).cell 0).trans rfl
        have z63 : ∀ ob_, (w7.alloc ob_).frozen? ⟨w.heap.size, 0, none⟩ = false := fun ob_ => (Blk.alloc hk ob_).frozen 0
        have z64 : w7.cell? ⟨w.heap.size, 1, none⟩ = some (.slice A0 l0.length c0) := (hk.cell 1).trans rfl
        have z65 := hk.frozen 1
        have z66 : ∀ ob_, (w7.alloc ob_).cell? ⟨w.heap.size, 1, none⟩ = some (.slice A0 l0.length c0) := fun ob_ => ((Blk.alloc hk ob_).cell 1).trans rfl
        have z67 : ∀ ob_, (w7.alloc ob_).frozen? ⟨w.heap.size, 1, none⟩ = false := fun ob_ => (Blk.alloc hk ob_).frozen 1
        have z68 := hk.lt
        go_wp2_with fail
        clear o7
        with_reducible refine (readStacks_any A2 l2.length c2 l2 _ (HRB.out.mv (by have hs_ := hB.size; repeat (first | with_reducible exact hB | with_reducible (refine Below.setCell ?_ (by simp <;> omega) _) | with_reducible (refine Below.alloc ?_ (by first | exact hs_ | (simp <;> omega)) _) | with_reducible (refine Below.drew ?_)))) (by omega)).mono ?_
        rintro e w9 ⟨A9, c9, rfl, o9, bB⟩
        rw [HS.out.1] at o9 ⊢
        rw [HS.out.2]
        replace o9 := (o9.low (show w.heap.size ≤ _ from by have hs_ := hB.size; simp <;> omega)).top
        replace hk := Blk.via0 (g := w.heap.size) (t := 25) bB (by repeat (first | with_reducible exact hk | with_reducible (apply Blk.set_) | with_reducible (apply Blk.far; case hp => (simp <;> omega)) | with_reducible (apply Blk.alloc) | with_reducible (apply Blk.drew)))
        replace hk : Blk w9 w.heap.size 25 #[.int .u64 (b : Int), .slice A0 l0.length c0] := hk
        replace hB := Below.via (w := w) (by have hs_ := hB.size; repeat (first | with_reducible exact hB | with_reducible (refine Below.setCell ?_ (by simp <;> omega) _) | with_reducible (refine Below.alloc ?_ (by first | exact hs_ | (simp <;> omega)) _) | with_reducible (refine Below.drew ?_))) bB
        clear z60 z61 z62 z63 z64 z65 z66 z67 z68
        clear bB
        cases hse : es == 0
        · have d9 : (es == 0) = false := hse
          clear hse
          have z69 : w9.cell? ⟨w.heap.size, 0, none⟩ = some (.int .u64 (b : Int)) := (hk.cell 0).trans rfl
          have z70 := hk.frozen 0
          have z71 : w9.cell? ⟨w.heap.size, 1, none⟩ = some (.slice A0 l0.length c0) := (hk.cell 1).trans rfl
          have z72 := hk.frozen 1
          have z73 := hk.lt
          go_wp2_with fail
          go_ret
          exact ⟨rfl, (by have hs_ := hB.size; repeat (first | with_reducible exact hB | with_reducible (refine Below.setCell ?_ (by simp <;> omega) _) | with_reducible (refine Below.alloc ?_ (by first | exact hs_ | (simp <;> omega)) _) | with_reducible (refine Below.drew ?_)))⟩
        · have d9 : (es == 0) = true := hse
          have HQ := Lib.hid (HSA.out (by simpa using hse))
          clear hse
          have z69 : w9.cell? ⟨w.heap.size, 0, none⟩ = some (.int .u64 (b : Int)) := (hk.cell 0).trans rfl
          have z70 := hk.frozen 0
          have z71 : w9.cell? ⟨w.heap.size, 1, none⟩ = some (.slice A0 l0.length c0) := (hk.cell 1).trans rfl
          have z72 := hk.frozen 1
          have z73 := hk.lt
          go_wp2_with fail
          with_reducible refine (writeStacks_any A9 L9.length c9 L9 _ o9.rd (by omega)).mono ?_
          rintro e w10 ⟨A10, c10, rfl, o10, bB⟩
          rw [HQ.out.1] at o10 ⊢
          rw [HQ.out.2]
          replace hk := Blk.via0 (g := w.heap.size) (t := 25) bB (by repeat (first | with_reducible exact hk | with_reducible (apply Blk.set_) | with_reducible (apply Blk.far; case hp => (simp <;> omega)) | with_reducible (apply Blk.alloc) | with_reducible (apply Blk.drew)))
          replace hk : Blk w10 w.heap.size 25 #[.int .u64 (b : Int), .slice A0 l0.length c0] := hk
          replace hB := Below.via (w := w) (by have hs_ := hB.size; repeat (first | with_reducible exact hB | with_reducible (refine Below.setCell ?_ (by simp <;> omega) _) | with_reducible (refine Below.alloc ?_ (by first | exact hs_ | (simp <;> omega)) _) | with_reducible (refine Below.drew ?_))) bB
          clear z69 z70 z71 z72 z73
          clear bB
          have K1 := cvS c10 (own_rd o10)
          have K2 := cvS c2 (HRB.out.mv hB)
          have z74 : w10.cell? ⟨w.heap.size, 0, none⟩ = some (.int .u64 (b : Int)) := (hk.cell 0).trans rfl
          have z75 := hk.frozen 0
          have z76 : w10.cell? ⟨w.heap.size, 1, none⟩ = some (.slice A0 l0.length c0) := (hk.cell 1).trans rfl
          have z77 := hk.frozen 1
          have z78 := hk.lt
          go_wp2_with fail
          go_ret
          exact ⟨rfl, (by have hs_ := hB.size; repeat (first | with_reducible exact hB | with_reducible (refine Below.setCell ?_ (by simp <;> omega) _) | with_reducible (refine Below.alloc ?_ (by first | exact hs_ | (simp <;> omega)) _) | with_reducible (refine Below.drew ?_)))⟩
      · have d7 : (ee == 0) = true := hee
        have HP := Lib.hid (HHA.out (by simpa using hee))
        clear hee
        have z60 : w7.cell? ⟨w.heap.size, 0, none⟩ = some (.int .u64 (b : Int)) := (hk.cell 0).trans rfl
        have z61 := hk.frozen 0
        have z62 : ∀ ob_, (w7.alloc ob_).cell? ⟨w.heap.size, 0, none⟩ = some (.int .u64 (b : Int)) := fun ob_ => ((Blk.alloc hk ob_).cell 0).trans rfl
        have z63 : ∀ ob_, (w7.alloc ob_).frozen? ⟨w.heap.size, 0, none⟩ = false := fun ob_ => (Blk.alloc hk ob_).frozen 0
        have z64 : w7.cell? ⟨w.heap.size, 1, none⟩ = some (.slice A0 l0.length c0) := (hk.cell 1).trans rfl
        have z65 := hk.frozen 1
        have z66 : ∀ ob_, (w7.alloc ob_).cell? ⟨w.heap.size, 1, none⟩ = some (.slice A0 l0.length c0) := fun ob_ => ((Blk.alloc hk ob_).cell 1).trans rfl
        have z67 : ∀ ob_, (w7.alloc ob_).frozen? ⟨w.heap.size, 1, none⟩ = false := fun ob_ => (Blk.alloc hk ob_).frozen 1
        have z68 := hk.lt
        go_wp2_with fail
        with_reducible refine (writeHeap_any bz A7 H.length c7 H _ ((by repeat (first | with_reducible exact o7 | (with_reducible apply OwU.setOther; case hne => first | exact ne_o7_hk) | with_reducible (apply OwU.al) | with_reducible (apply OwU.drew))) : OwU _ w.heap.size A7 H.length H).rd).mono ?_
        rintro e w8 ⟨A8, c8, rfl, o8, bB⟩
        rw [HP.out.1] at o8 ⊢
        rw [HP.out.2]
        replace hk := Blk.via0 (g := w.heap.size) (t := 25) bB (by repeat (first | with_reducible exact hk | with_reducible (apply Blk.set_) | with_reducible (apply Blk.far; case hp => (simp <;> omega)) | with_reducible (apply Blk.alloc) | with_reducible (apply Blk.drew)))
        replace hk : Blk w8 w.heap.size 25 #[.int .u64 (b : Int), .slice A0 l0.length c0] := hk
        replace o7 := OwU.call (by repeat (first | with_reducible exact o7 | (with_reducible apply OwU.setOther; case hne => first | exact ne_o7_hk) | with_reducible (apply OwU.al) | with_reducible (apply OwU.drew))) bB
        replace hB := Below.via (w := w) (by have hs_ := hB.size; repeat (first | with_reducible exact hB | with_reducible (refine Below.setCell ?_ (by simp <;> omega) _) | with_reducible (refine Below.alloc ?_ (by first | exact hs_ | (simp <;> omega)) _) | with_reducible (refine Below.drew ?_))) bB
        clear z60 z61 z62 z63 z64 z65 z66 z67 z68
        clear bB
        have K1 := cvS c8 (own_rd o8)
        have K2 := cvS c2 (HRB.out.mv (by have hs_ := hB.size; repeat (first | with_reducible exact hB | with_reducible (refine Below.setCell ?_ (by simp <;> omega) _) | with_reducible (refine Below.alloc ?_ (by first | exact hs_ | (simp <;> omega)) _) | with_reducible (refine Below.drew ?_))))
        have z69 : w8.cell? ⟨w.heap.size, 0, none⟩ = some (.int .u64 (b : Int)) := (hk.cell 0).trans rfl
        have z70 := hk.frozen 0
        have z71 : w8.cell? ⟨w.heap.size, 1, none⟩ = some (.slice A0 l0.length c0) := (hk.cell 1).trans rfl
        have z72 := hk.frozen 1
        have z73 := hk.lt
        go_wp2_with fail
        clear K1 K2 o8
        clear o7
        with_reducible refine (readStacks_any A2 l2.length c2 l2 _ (HRB.out.mv (by have hs_ := hB.size; repeat (first | with_reducible exact hB | with_reducible (refine Below.setCell ?_ (by simp <;> omega) _) | with_reducible (refine Below.alloc ?_ (by first | exact hs_ | (simp <;> omega)) _) | with_reducible (refine Below.drew ?_)))) (by omega)).mono ?_
        rintro e w9 ⟨A9, c9, rfl, o9, bB⟩
        rw [HS.out.1] at o9 ⊢
        rw [HS.out.2]
        replace o9 := (o9.low (show w.heap.size ≤ _ from by have hs_ := hB.size; simp <;> omega)).top
        replace hk := Blk.via0 (g := w.heap.size) (t := 25) bB (by repeat (first | with_reducible exact hk | with_reducible (apply Blk.set_) | with_reducible (apply Blk.far; case hp => (simp <;> omega)) | with_reducible (apply Blk.alloc) | with_reducible (apply Blk.drew)))
        replace hk : Blk w9 w.heap.size 25 #[.int .u64 (b : Int), .slice A0 l0.length c0] := hk
        replace hB := Below.via (w := w) (by have hs_ := hB.size; repeat (first | with_reducible exact hB | with_reducible (refine Below.setCell ?_ (by simp <;> omega) _) | with_reducible (refine Below.alloc ?_ (by first | exact hs_ | (simp <;> omega)) _) | with_reducible (refine Below.drew ?_))) bB
        clear z69 z70 z71 z72 z73
        clear bB
        cases hse : es == 0
        · have d9 : (es == 0) = false := hse
          clear hse
          have z74 : w9.cell? ⟨w.heap.size, 0, none⟩ = some (.int .u64 (b : Int)) := (hk.cell 0).trans rfl
          have z75 := hk.frozen 0
          have z76 : w9.cell? ⟨w.heap.size, 1, none⟩ = some (.slice A0 l0.length c0) := (hk.cell 1).trans rfl
          have z77 := hk.frozen 1
          have z78 := hk.lt
          go_wp2_with fail
          go_ret
          exact ⟨rfl, (by have hs_ := hB.size; repeat (first | with_reducible exact hB | with_reducible (refine Below.setCell ?_ (by simp <;> omega) _) | with_reducible (refine Below.alloc ?_ (by first | exact hs_ | (simp <;> omega)) _) | with_reducible (refine Below.drew ?_)))⟩
        · have d9 : (es == 0) = true := hse
          have HQ := Lib.hid (HSA.out (by simpa using hse))
          clear hse
          have z74 : w9.cell? ⟨w.heap.size, 0, none⟩ = some (.int .u64 (b : Int)) := (hk.cell 0).trans rfl
          have z75 := hk.frozen 0
          have z76 : w9.cell? ⟨w.heap.size, 1, none⟩ = some (.slice A0 l0.length c0) := (hk.cell 1).trans rfl
          have z77 := hk.frozen 1
          have z78 := hk.lt
          go_wp2_with fail
          with_reducible refine (writeStacks_any A9 L9.length c9 L9 _ o9.rd (by omega)).mono ?_
          rintro e w10 ⟨A10, c10, rfl, o10, bB⟩
          rw [HQ.out.1] at o10 ⊢
          rw [HQ.out.2]
          replace hk := Blk.via0 (g := w.heap.size) (t := 25) bB (by repeat (first | with_reducible exact hk | with_reducible (apply Blk.set_) | with_reducible (apply Blk.far; case hp => (simp <;> omega)) | with_reducible (apply Blk.alloc) | with_reducible (apply Blk.drew)))
          replace hk : Blk w10 w.heap.size 25 #[.int .u64 (b : Int), .slice A0 l0.length c0] := hk
          replace hB := Below.via (w := w) (by have hs_ := hB.size; repeat (first | with_reducible exact hB | with_reducible (refine Below.setCell ?_ (by simp <;> omega) _) | with_reducible (refine Below.alloc ?_ (by first | exact hs_ | (simp <;> omega)) _) | with_reducible (refine Below.drew ?_))) bB
          clear z74 z75 z76 z77 z78
          clear bB
          have K1 := cvS c10 (own_rd o10)
          have K2 := cvS c2 (HRB.out.mv hB)
          have z79 : w10.cell? ⟨w.heap.size, 0, none⟩ = some (.int .u64 (b : Int)) := (hk.cell 0).trans rfl
          have z80 := hk.frozen 0
          have z81 : w10.cell? ⟨w.heap.size, 1, none⟩ = some (.slice A0 l0.length c0) := (hk.cell 1).trans rfl
          have z82 := hk.frozen 1
          have z83 := hk.lt
          go_wp2_with fail
          go_ret
          exact ⟨rfl, (by have hs_ := hB.size; repeat (first | with_reducible exact hB | with_reducible (refine Below.setCell ?_ (by simp <;> omega) _) | with_reducible (refine Below.alloc ?_ (by first | exact hs_ | (simp <;> omega)) _) | with_reducible (refine Below.drew ?_)))⟩

end Go.Proofs.Ytponceakelimeaa
