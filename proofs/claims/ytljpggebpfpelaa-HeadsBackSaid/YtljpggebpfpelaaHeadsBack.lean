/- The walk of HeadsBack. -/
import Derived.Test.YtljpggebpfpelaaHd21
namespace Go.Proofs.Ytljpggebpfpelaa
open Go.RowKit Wire
set_option linter.unusedVariables false

set_option maxRecDepth 100000 in
set_option maxHeartbeats 8000000 in
theorem headsBack_walk (w : World) (x : Nat) (f s : Int) (hx : x < 256) (hf : -9223372036854775808 ≤ f ∧ f ≤ 9223372036854775807) (hs : -9223372036854775808 ≤ s ∧ s ≤ 9223372036854775807) (A : Option Addr) (n c : Nat) (L : List Rtn) (hr : RdT w A n L) (hc0 : n ≤ c ∧ c ≤ 9223372036854775807) (A2 : Option Addr) (n2 c2 : Nat) (LL : List (List Nat)) (hc : RdC w A2 n2 LL) (hc2 : n2 ≤ c2 ∧ c2 ≤ 9223372036854775807) (A3 : Option Addr) (n3 c3 : Nat) (l3 : List UInt8) (hrb : Rb w A3 n3 l3) (hc3 : n3 ≤ c3 ∧ c3 ≤ 9223372036854775807) :
    Calls Try.prog 3 #[endV x f s, .slice A n c, .slice A2 n2 c2, .slice A3 n3 c3] w fun e w' => e = .returned (.bool true) ∧ Below w.heap.size w w' := by
  have HT := Lib.hid hr
  have HN := Lib.hid hr.1
  have HOK := Lib.hid hr.2.2
  have HC := Lib.hid hc
  have HN2 := Lib.hid hc.1
  have HR := Lib.hid hrb
  have HL := Lib.hid hrb.len8
  clear hr hc hrb
  have hB : Below w.heap.size w (w.alloc (.cells #[.int .u8 (x : Int), .int .i64 f, .int .i64 s] 23)) := (Below.alloc (Below.refl w.heap.size w) (by simp <;> omega) (.cells #[.int .u8 (x : Int), .int .i64 f, .int .i64 s] 23))
  have hk := Blk.new w 23 #[.int .u8 (x : Int), .int .i64 f, .int .i64 s]
  go_enter Try.func3, Try.ntmps3
  have z1 : (w.alloc (.cells #[.int .u8 (x : Int), .int .i64 f, .int .i64 s] 23)).cell? ⟨w.heap.size, 0, none⟩ = some (.int .u8 (x : Int)) := (hk.cell 0).trans rfl
  have z2 := hk.frozen 0
  have z3 : (w.alloc (.cells #[.int .u8 (x : Int), .int .i64 f, .int .i64 s] 23)).cell? ⟨w.heap.size, 1, none⟩ = some (.int .i64 f) := (hk.cell 1).trans rfl
  have z4 := hk.frozen 1
  have z5 : (w.alloc (.cells #[.int .u8 (x : Int), .int .i64 f, .int .i64 s] 23)).cell? ⟨w.heap.size, 2, none⟩ = some (.int .i64 s) := (hk.cell 2).trans rfl
  have z6 := hk.frozen 2
  have z7 := hk.lt
  go_wp2_with fail
  refine (alive27_any _).mono ?_
  rintro e w1 ⟨rfl, bB⟩
  replace hk := Blk.via0 (g := w.heap.size) (t := 23) bB (by repeat (first | with_reducible exact hk | with_reducible (apply Blk.set_) | with_reducible (apply Blk.far; case hp => (simp <;> omega)) | with_reducible (apply Blk.alloc) | with_reducible (apply Blk.drew)))
  replace hk : Blk w1 w.heap.size 23 #[.int .u8 (x : Int), .int .i64 f, .int .i64 s] := hk
  replace hB := Below.via (w := w) (by have hs_ := hB.size; repeat (first | with_reducible exact hB | with_reducible (refine Below.setCell ?_ (by simp <;> omega) _) | with_reducible (refine Below.alloc ?_ (by first | exact hs_ | (simp <;> omega)) _) | with_reducible (refine Below.drew ?_))) bB
  clear z1 z2 z3 z4 z5 z6 z7
  clear bB
  have z8 : w1.cell? ⟨w.heap.size, 0, none⟩ = some (.int .u8 (x : Int)) := (hk.cell 0).trans rfl
  have z9 := hk.frozen 0
  have z10 : w1.cell? ⟨w.heap.size, 1, none⟩ = some (.int .i64 f) := (hk.cell 1).trans rfl
  have z11 := hk.frozen 1
  have z12 : w1.cell? ⟨w.heap.size, 2, none⟩ = some (.int .i64 s) := (hk.cell 2).trans rfl
  have z13 := hk.frozen 2
  have z14 := hk.lt
  by_cases g1 : 20 < n
  · go_wp2_with fail
    go_ret
    exact ⟨rfl, hB⟩
  go_wp2_with fail
  refine (great27_any A2 n2 c2 LL _ (HC.out.mv (by have hs_ := hB.size; repeat (first | with_reducible exact hB | with_reducible (refine Below.setCell ?_ (by simp <;> omega) _) | with_reducible (refine Below.alloc ?_ (by first | exact hs_ | (simp <;> omega)) _) | with_reducible (refine Below.drew ?_)))) (by omega)).mono ?_
  rintro e wq ⟨gg, rfl, hg, rfl⟩
  cases gg
  rotate_left
  · go_wp2_with fail
    go_ret
    exact ⟨rfl, hB⟩
  have hn20 : n2 ≤ 1000000 := by have := hg rfl; omega
  clear hg
  by_cases g2 : 3000 < n3
  · go_wp2_with fail
    go_ret
    exact ⟨rfl, hB⟩
  have hl := HL.out
  have HA := Lib.hid (fun W (h : Rb W A3 n3 l3) => again_any A3 n3 c3 l3 W h (by omega))
  clear hl
  go_wp2_with fail
  cases hh : enB x f s
  · have HW := Lib.hid (fun W  => writeEnded_any x f s W hx hf)
    rw [show weL x f s = [] from by simp [weL, hh], show weE x f s = 8 from by simp [weE, hh]] at HW
    clear hh
    refine (HW.out _).mono ?_
    rintro e u0 ⟨B0, d0, rfl, t0, bB⟩
    replace hk := Blk.via0 (g := w.heap.size) (t := 23) bB (by repeat (first | with_reducible exact hk | with_reducible (apply Blk.set_) | with_reducible (apply Blk.far; case hp => (simp <;> omega)) | with_reducible (apply Blk.alloc) | with_reducible (apply Blk.drew)))
    replace hk : Blk u0 w.heap.size 23 #[.int .u8 (x : Int), .int .i64 f, .int .i64 s] := hk
    replace hB := Below.via (w := w) (by have hs_ := hB.size; repeat (first | with_reducible exact hB | with_reducible (refine Below.setCell ?_ (by simp <;> omega) _) | with_reducible (refine Below.alloc ?_ (by first | exact hs_ | (simp <;> omega)) _) | with_reducible (refine Below.drew ?_))) bB
    clear z8 z9 z10 z11 z12 z13 z14
    clear bB
    clear HW t0
    have z15 : u0.cell? ⟨w.heap.size, 0, none⟩ = some (.int .u8 (x : Int)) := (hk.cell 0).trans rfl
    have z16 := hk.frozen 0
    have z17 : u0.cell? ⟨w.heap.size, 1, none⟩ = some (.int .i64 f) := (hk.cell 1).trans rfl
    have z18 := hk.frozen 1
    have z19 : u0.cell? ⟨w.heap.size, 2, none⟩ = some (.int .i64 s) := (hk.cell 2).trans rfl
    have z20 := hk.frozen 2
    have z21 := hk.lt
    go_wp2_with fail
    cases hh : hsB L
    · have HW := Lib.hid (fun W (h : RdT W A n L) => writeHeads_any A n c L W h (by omega))
      rw [show whsL L = [] from by simp [whsL, hh], show whsE L = 8 from by simp [whsE, hh]] at HW
      clear hh
      refine (HW.out _ (HT.out.mv (by have hs_ := hB.size; repeat (first | with_reducible exact hB | with_reducible (refine Below.setCell ?_ (by simp <;> omega) _) | with_reducible (refine Below.alloc ?_ (by first | exact hs_ | (simp <;> omega)) _) | with_reducible (refine Below.drew ?_))))).mono ?_
      rintro e u1 ⟨B1, d1, rfl, t1, bB⟩
      replace hk := Blk.via0 (g := w.heap.size) (t := 23) bB (by repeat (first | with_reducible exact hk | with_reducible (apply Blk.set_) | with_reducible (apply Blk.far; case hp => (simp <;> omega)) | with_reducible (apply Blk.alloc) | with_reducible (apply Blk.drew)))
      replace hk : Blk u1 w.heap.size 23 #[.int .u8 (x : Int), .int .i64 f, .int .i64 s] := hk
      replace hB := Below.via (w := w) (by have hs_ := hB.size; repeat (first | with_reducible exact hB | with_reducible (refine Below.setCell ?_ (by simp <;> omega) _) | with_reducible (refine Below.alloc ?_ (by first | exact hs_ | (simp <;> omega)) _) | with_reducible (refine Below.drew ?_))) bB
      clear z15 z16 z17 z18 z19 z20 z21
      clear bB
      clear HW t1
      have z22 : u1.cell? ⟨w.heap.size, 0, none⟩ = some (.int .u8 (x : Int)) := (hk.cell 0).trans rfl
      have z23 := hk.frozen 0
      have z24 : u1.cell? ⟨w.heap.size, 1, none⟩ = some (.int .i64 f) := (hk.cell 1).trans rfl
      have z25 := hk.frozen 1
      have z26 : u1.cell? ⟨w.heap.size, 2, none⟩ = some (.int .i64 s) := (hk.cell 2).trans rfl
      have z27 := hk.frozen 2
      have z28 := hk.lt
      go_wp2_with fail
      cases hh : csB LL
      · have HW := Lib.hid (fun W (h : RdC W A2 n2 LL) => writeChains_any A2 n2 c2 LL W h hn20)
        rw [show wcsL LL = [] from by simp [wcsL, hh], show wcsE LL = 8 from by simp [wcsE, hh]] at HW
        clear hh
        refine (HW.out _ (HC.out.mv (by have hs_ := hB.size; repeat (first | with_reducible exact hB | with_reducible (refine Below.setCell ?_ (by simp <;> omega) _) | with_reducible (refine Below.alloc ?_ (by first | exact hs_ | (simp <;> omega)) _) | with_reducible (refine Below.drew ?_))))).mono ?_
        rintro e u2 ⟨B2, d2, rfl, t2, bB⟩
        replace hk := Blk.via0 (g := w.heap.size) (t := 23) bB (by repeat (first | with_reducible exact hk | with_reducible (apply Blk.set_) | with_reducible (apply Blk.far; case hp => (simp <;> omega)) | with_reducible (apply Blk.alloc) | with_reducible (apply Blk.drew)))
        replace hk : Blk u2 w.heap.size 23 #[.int .u8 (x : Int), .int .i64 f, .int .i64 s] := hk
        replace hB := Below.via (w := w) (by have hs_ := hB.size; repeat (first | with_reducible exact hB | with_reducible (refine Below.setCell ?_ (by simp <;> omega) _) | with_reducible (refine Below.alloc ?_ (by first | exact hs_ | (simp <;> omega)) _) | with_reducible (refine Below.drew ?_))) bB
        clear z22 z23 z24 z25 z26 z27 z28
        clear bB
        clear HW t2
        have z29 : u2.cell? ⟨w.heap.size, 0, none⟩ = some (.int .u8 (x : Int)) := (hk.cell 0).trans rfl
        have z30 := hk.frozen 0
        have z31 : u2.cell? ⟨w.heap.size, 1, none⟩ = some (.int .i64 f) := (hk.cell 1).trans rfl
        have z32 := hk.frozen 1
        have z33 : u2.cell? ⟨w.heap.size, 2, none⟩ = some (.int .i64 s) := (hk.cell 2).trans rfl
        have z34 := hk.frozen 2
        have z35 := hk.lt
        go_wp2_with fail
        refine (HA.out _ (HR.out.mv (by have hs_ := hB.size; repeat (first | with_reducible exact hB | with_reducible (refine Below.setCell ?_ (by simp <;> omega) _) | with_reducible (refine Below.alloc ?_ (by first | exact hs_ | (simp <;> omega)) _) | with_reducible (refine Below.drew ?_))))).mono ?_
        rintro e z1 ⟨rfl, bB⟩
        replace hk := Blk.via0 (g := w.heap.size) (t := 23) bB (by repeat (first | with_reducible exact hk | with_reducible (apply Blk.set_) | with_reducible (apply Blk.far; case hp => (simp <;> omega)) | with_reducible (apply Blk.alloc) | with_reducible (apply Blk.drew)))
        replace hk : Blk z1 w.heap.size 23 #[.int .u8 (x : Int), .int .i64 f, .int .i64 s] := hk
        replace hB := Below.via (w := w) (by have hs_ := hB.size; repeat (first | with_reducible exact hB | with_reducible (refine Below.setCell ?_ (by simp <;> omega) _) | with_reducible (refine Below.alloc ?_ (by first | exact hs_ | (simp <;> omega)) _) | with_reducible (refine Below.drew ?_))) bB
        clear z29 z30 z31 z32 z33 z34 z35
        clear bB
        have z36 : z1.cell? ⟨w.heap.size, 0, none⟩ = some (.int .u8 (x : Int)) := (hk.cell 0).trans rfl
        have z37 := hk.frozen 0
        have z38 : z1.cell? ⟨w.heap.size, 1, none⟩ = some (.int .i64 f) := (hk.cell 1).trans rfl
        have z39 := hk.frozen 1
        have z40 : z1.cell? ⟨w.heap.size, 2, none⟩ = some (.int .i64 s) := (hk.cell 2).trans rfl
        have z41 := hk.frozen 2
        have z42 := hk.lt
        go_wp2_with fail
        go_ret
        exact ⟨rfl, (by have hs_ := hB.size; repeat (first | with_reducible exact hB | with_reducible (refine Below.setCell ?_ (by simp <;> omega) _) | with_reducible (refine Below.alloc ?_ (by first | exact hs_ | (simp <;> omega)) _) | with_reducible (refine Below.drew ?_)))⟩
      · have HW := Lib.hid (fun W (h : RdC W A2 n2 LL) => writeChains_any A2 n2 c2 LL W h hn20)
        rw [show wcsL LL = csL LL from by simp [wcsL, hh], show wcsE LL = 0 from by simp [wcsE, hh]] at HW
        have hLb : ∀ l ∈ LL, l.length ≤ 1000000 := fun l hl => by have := (csB_n hh).2.2 l hl; omega
        have HLB := Lib.hid hLb
        clear hLb
        have HRD := Lib.hid (fun (A : Option Addr) (c : Nat) W (h : Rb W A (csL LL).length (csL LL)) => readChainsBack LL A c hh W h)
        obtain ⟨P, hP⟩ : ∃ P, csL LL = P := ⟨_, rfl⟩
        rw [hP] at HW HRD
        clear hP hh
        refine (HW.out _ (HC.out.mv (by have hs_ := hB.size; repeat (first | with_reducible exact hB | with_reducible (refine Below.setCell ?_ (by simp <;> omega) _) | with_reducible (refine Below.alloc ?_ (by first | exact hs_ | (simp <;> omega)) _) | with_reducible (refine Below.drew ?_))))).mono ?_
        rintro e u2 ⟨B2, d2, rfl, t2, bB⟩
        have ne_t2_hk : (Value.slice B2 P.length d2).ownBlock ≠ some w.heap.size := own_not_lt t2 (by first | omega | (simp <;> omega))
        replace t2 := own_low t2 (show w.heap.size ≤ _ from by have hs_ := hB.size; simp <;> omega)
        replace hk := Blk.via0 (g := w.heap.size) (t := 23) bB (by repeat (first | with_reducible exact hk | with_reducible (apply Blk.set_) | with_reducible (apply Blk.far; case hp => (simp <;> omega)) | with_reducible (apply Blk.alloc) | with_reducible (apply Blk.drew)))
        replace hk : Blk u2 w.heap.size 23 #[.int .u8 (x : Int), .int .i64 f, .int .i64 s] := hk
        replace hB := Below.via (w := w) (by have hs_ := hB.size; repeat (first | with_reducible exact hB | with_reducible (refine Below.setCell ?_ (by simp <;> omega) _) | with_reducible (refine Below.alloc ?_ (by first | exact hs_ | (simp <;> omega)) _) | with_reducible (refine Below.drew ?_))) bB
        clear z22 z23 z24 z25 z26 z27 z28
        clear bB
        have z29 : u2.cell? ⟨w.heap.size, 0, none⟩ = some (.int .u8 (x : Int)) := (hk.cell 0).trans rfl
        have z30 := hk.frozen 0
        have z31 : u2.cell? ⟨w.heap.size, 1, none⟩ = some (.int .i64 f) := (hk.cell 1).trans rfl
        have z32 := hk.frozen 1
        have z33 : u2.cell? ⟨w.heap.size, 2, none⟩ = some (.int .i64 s) := (hk.cell 2).trans rfl
        have z34 := hk.frozen 2
        have z35 := hk.lt
        go_wp2_with fail
        refine (HRD.out _ _ _ (own_rd (by repeat (first | with_reducible exact t2 | (with_reducible apply own_set_; case hne => first | exact ne_t2_hk) | with_reducible (apply own_alloc_) | with_reducible (apply own_drew_))))).mono ?_
        rintro e v2 ⟨E2, g2, rfl, hy, bB⟩
        replace hk := Blk.via0 (g := w.heap.size) (t := 23) bB (by repeat (first | with_reducible exact hk | with_reducible (apply Blk.set_) | with_reducible (apply Blk.far; case hp => (simp <;> omega)) | with_reducible (apply Blk.alloc) | with_reducible (apply Blk.drew)))
        replace hk : Blk v2 w.heap.size 23 #[.int .u8 (x : Int), .int .i64 f, .int .i64 s] := hk
        replace t2 := own_call (by repeat (first | with_reducible exact t2 | (with_reducible apply own_set_; case hne => first | exact ne_t2_hk) | with_reducible (apply own_alloc_) | with_reducible (apply own_drew_))) bB
        replace hB := Below.via (w := w) (by have hs_ := hB.size; repeat (first | with_reducible exact hB | with_reducible (refine Below.setCell ?_ (by simp <;> omega) _) | with_reducible (refine Below.alloc ?_ (by first | exact hs_ | (simp <;> omega)) _) | with_reducible (refine Below.drew ?_))) bB
        clear z29 z30 z31 z32 z33 z34 z35
        clear bB
        clear HW HRD t2
        have HY := Lib.hid hy
        clear hy
        have z36 : v2.cell? ⟨w.heap.size, 0, none⟩ = some (.int .u8 (x : Int)) := (hk.cell 0).trans rfl
        have z37 := hk.frozen 0
        have z38 : v2.cell? ⟨w.heap.size, 1, none⟩ = some (.int .i64 f) := (hk.cell 1).trans rfl
        have z39 := hk.frozen 1
        have z40 : v2.cell? ⟨w.heap.size, 2, none⟩ = some (.int .i64 s) := (hk.cell 2).trans rfl
        have z41 := hk.frozen 2
        have z42 := hk.lt
        go_wp2_with fail
        refine (sameChains_any E2 LL.length g2 LL A2 n2 c2 LL _ HY.out (HC.out.mv (by have hs_ := hB.size; repeat (first | with_reducible exact hB | with_reducible (refine Below.setCell ?_ (by simp <;> omega) _) | with_reducible (refine Below.alloc ?_ (by first | exact hs_ | (simp <;> omega)) _) | with_reducible (refine Below.drew ?_)))) (by rw [HN2.out]; omega) HLB.out).mono ?_
        rintro e y2 ⟨rfl, bB⟩
        rw [decide_eq_true (rfl : LL = LL)]
        replace hk := Blk.via0 (g := w.heap.size) (t := 23) bB (by repeat (first | with_reducible exact hk | with_reducible (apply Blk.set_) | with_reducible (apply Blk.far; case hp => (simp <;> omega)) | with_reducible (apply Blk.alloc) | with_reducible (apply Blk.drew)))
        replace hk : Blk y2 w.heap.size 23 #[.int .u8 (x : Int), .int .i64 f, .int .i64 s] := hk
        replace hB := Below.via (w := w) (by have hs_ := hB.size; repeat (first | with_reducible exact hB | with_reducible (refine Below.setCell ?_ (by simp <;> omega) _) | with_reducible (refine Below.alloc ?_ (by first | exact hs_ | (simp <;> omega)) _) | with_reducible (refine Below.drew ?_))) bB
        clear z36 z37 z38 z39 z40 z41 z42
        clear bB
        clear HY
        have z43 : y2.cell? ⟨w.heap.size, 0, none⟩ = some (.int .u8 (x : Int)) := (hk.cell 0).trans rfl
        have z44 := hk.frozen 0
        have z45 : y2.cell? ⟨w.heap.size, 1, none⟩ = some (.int .i64 f) := (hk.cell 1).trans rfl
        have z46 := hk.frozen 1
        have z47 : y2.cell? ⟨w.heap.size, 2, none⟩ = some (.int .i64 s) := (hk.cell 2).trans rfl
        have z48 := hk.frozen 2
        have z49 := hk.lt
        go_wp2_with fail
        refine (HA.out _ (HR.out.mv (by have hs_ := hB.size; repeat (first | with_reducible exact hB | with_reducible (refine Below.setCell ?_ (by simp <;> omega) _) | with_reducible (refine Below.alloc ?_ (by first | exact hs_ | (simp <;> omega)) _) | with_reducible (refine Below.drew ?_))))).mono ?_
        rintro e z1 ⟨rfl, bB⟩
        replace hk := Blk.via0 (g := w.heap.size) (t := 23) bB (by repeat (first | with_reducible exact hk | with_reducible (apply Blk.set_) | with_reducible (apply Blk.far; case hp => (simp <;> omega)) | with_reducible (apply Blk.alloc) | with_reducible (apply Blk.drew)))
        replace hk : Blk z1 w.heap.size 23 #[.int .u8 (x : Int), .int .i64 f, .int .i64 s] := hk
        replace hB := Below.via (w := w) (by have hs_ := hB.size; repeat (first | with_reducible exact hB | with_reducible (refine Below.setCell ?_ (by simp <;> omega) _) | with_reducible (refine Below.alloc ?_ (by first | exact hs_ | (simp <;> omega)) _) | with_reducible (refine Below.drew ?_))) bB
        clear z43 z44 z45 z46 z47 z48 z49
        clear bB
        have z50 : z1.cell? ⟨w.heap.size, 0, none⟩ = some (.int .u8 (x : Int)) := (hk.cell 0).trans rfl
        have z51 := hk.frozen 0
        have z52 : z1.cell? ⟨w.heap.size, 1, none⟩ = some (.int .i64 f) := (hk.cell 1).trans rfl
        have z53 := hk.frozen 1
        have z54 : z1.cell? ⟨w.heap.size, 2, none⟩ = some (.int .i64 s) := (hk.cell 2).trans rfl
        have z55 := hk.frozen 2
        have z56 := hk.lt
        go_wp2_with fail
        go_ret
        exact ⟨rfl, (by have hs_ := hB.size; repeat (first | with_reducible exact hB | with_reducible (refine Below.setCell ?_ (by simp <;> omega) _) | with_reducible (refine Below.alloc ?_ (by first | exact hs_ | (simp <;> omega)) _) | with_reducible (refine Below.drew ?_)))⟩
    · have HW := Lib.hid (fun W (h : RdT W A n L) => writeHeads_any A n c L W h (by omega))
      rw [show whsL L = hsL L from by simp [whsL, hh], show whsE L = 0 from by simp [whsE, hh]] at HW
      have HRD := Lib.hid (fun (A : Option Addr) (c : Nat) W (h : Rb W A (hsL L).length (hsL L)) => readHeadsBack L A c hh HOK.out W h)
      obtain ⟨P, hP⟩ : ∃ P, hsL L = P := ⟨_, rfl⟩
      rw [hP] at HW HRD
      clear hP hh
      refine (HW.out _ (HT.out.mv (by have hs_ := hB.size; repeat (first | with_reducible exact hB | with_reducible (refine Below.setCell ?_ (by simp <;> omega) _) | with_reducible (refine Below.alloc ?_ (by first | exact hs_ | (simp <;> omega)) _) | with_reducible (refine Below.drew ?_))))).mono ?_
      rintro e u1 ⟨B1, d1, rfl, t1, bB⟩
      have ne_t1_hk : (Value.slice B1 P.length d1).ownBlock ≠ some w.heap.size := own_not_lt t1 (by first | omega | (simp <;> omega))
      replace t1 := own_low t1 (show w.heap.size ≤ _ from by have hs_ := hB.size; simp <;> omega)
      replace hk := Blk.via0 (g := w.heap.size) (t := 23) bB (by repeat (first | with_reducible exact hk | with_reducible (apply Blk.set_) | with_reducible (apply Blk.far; case hp => (simp <;> omega)) | with_reducible (apply Blk.alloc) | with_reducible (apply Blk.drew)))
      replace hk : Blk u1 w.heap.size 23 #[.int .u8 (x : Int), .int .i64 f, .int .i64 s] := hk
      replace hB := Below.via (w := w) (by have hs_ := hB.size; repeat (first | with_reducible exact hB | with_reducible (refine Below.setCell ?_ (by simp <;> omega) _) | with_reducible (refine Below.alloc ?_ (by first | exact hs_ | (simp <;> omega)) _) | with_reducible (refine Below.drew ?_))) bB
      clear z15 z16 z17 z18 z19 z20 z21
      clear bB
      have z22 : u1.cell? ⟨w.heap.size, 0, none⟩ = some (.int .u8 (x : Int)) := (hk.cell 0).trans rfl
      have z23 := hk.frozen 0
      have z24 : u1.cell? ⟨w.heap.size, 1, none⟩ = some (.int .i64 f) := (hk.cell 1).trans rfl
      have z25 := hk.frozen 1
      have z26 : u1.cell? ⟨w.heap.size, 2, none⟩ = some (.int .i64 s) := (hk.cell 2).trans rfl
      have z27 := hk.frozen 2
      have z28 := hk.lt
      go_wp2_with fail
      refine (HRD.out _ _ _ (own_rd (by repeat (first | with_reducible exact t1 | (with_reducible apply own_set_; case hne => first | exact ne_t1_hk) | with_reducible (apply own_alloc_) | with_reducible (apply own_drew_))))).mono ?_
      rintro e v1 ⟨E1, g1, rfl, hy, bB⟩
      replace hk := Blk.via0 (g := w.heap.size) (t := 23) bB (by repeat (first | with_reducible exact hk | with_reducible (apply Blk.set_) | with_reducible (apply Blk.far; case hp => (simp <;> omega)) | with_reducible (apply Blk.alloc) | with_reducible (apply Blk.drew)))
      replace hk : Blk v1 w.heap.size 23 #[.int .u8 (x : Int), .int .i64 f, .int .i64 s] := hk
      replace t1 := own_call (by repeat (first | with_reducible exact t1 | (with_reducible apply own_set_; case hne => first | exact ne_t1_hk) | with_reducible (apply own_alloc_) | with_reducible (apply own_drew_))) bB
      replace hB := Below.via (w := w) (by have hs_ := hB.size; repeat (first | with_reducible exact hB | with_reducible (refine Below.setCell ?_ (by simp <;> omega) _) | with_reducible (refine Below.alloc ?_ (by first | exact hs_ | (simp <;> omega)) _) | with_reducible (refine Below.drew ?_))) bB
      clear z22 z23 z24 z25 z26 z27 z28
      clear bB
      clear HW HRD t1
      have HY := Lib.hid hy
      clear hy
      have z29 : v1.cell? ⟨w.heap.size, 0, none⟩ = some (.int .u8 (x : Int)) := (hk.cell 0).trans rfl
      have z30 := hk.frozen 0
      have z31 : v1.cell? ⟨w.heap.size, 1, none⟩ = some (.int .i64 f) := (hk.cell 1).trans rfl
      have z32 := hk.frozen 1
      have z33 : v1.cell? ⟨w.heap.size, 2, none⟩ = some (.int .i64 s) := (hk.cell 2).trans rfl
      have z34 := hk.frozen 2
      have z35 := hk.lt
      go_wp2_with fail
      refine (sameHeads_any E1 L.length g1 L A n c L _ HY.out (HT.out.mv (by have hs_ := hB.size; repeat (first | with_reducible exact hB | with_reducible (refine Below.setCell ?_ (by simp <;> omega) _) | with_reducible (refine Below.alloc ?_ (by first | exact hs_ | (simp <;> omega)) _) | with_reducible (refine Below.drew ?_)))) (by rw [HN.out]; omega)).mono ?_
      rintro e y1 ⟨rfl, bB⟩
      rw [decide_eq_true (rfl : L = L)]
      replace hk := Blk.via0 (g := w.heap.size) (t := 23) bB (by repeat (first | with_reducible exact hk | with_reducible (apply Blk.set_) | with_reducible (apply Blk.far; case hp => (simp <;> omega)) | with_reducible (apply Blk.alloc) | with_reducible (apply Blk.drew)))
      replace hk : Blk y1 w.heap.size 23 #[.int .u8 (x : Int), .int .i64 f, .int .i64 s] := hk
      replace hB := Below.via (w := w) (by have hs_ := hB.size; repeat (first | with_reducible exact hB | with_reducible (refine Below.setCell ?_ (by simp <;> omega) _) | with_reducible (refine Below.alloc ?_ (by first | exact hs_ | (simp <;> omega)) _) | with_reducible (refine Below.drew ?_))) bB
      clear z29 z30 z31 z32 z33 z34 z35
      clear bB
      clear HY
      have z36 : y1.cell? ⟨w.heap.size, 0, none⟩ = some (.int .u8 (x : Int)) := (hk.cell 0).trans rfl
      have z37 := hk.frozen 0
      have z38 : y1.cell? ⟨w.heap.size, 1, none⟩ = some (.int .i64 f) := (hk.cell 1).trans rfl
      have z39 := hk.frozen 1
      have z40 : y1.cell? ⟨w.heap.size, 2, none⟩ = some (.int .i64 s) := (hk.cell 2).trans rfl
      have z41 := hk.frozen 2
      have z42 := hk.lt
      go_wp2_with fail
      cases hh : csB LL
      · have HW := Lib.hid (fun W (h : RdC W A2 n2 LL) => writeChains_any A2 n2 c2 LL W h hn20)
        rw [show wcsL LL = [] from by simp [wcsL, hh], show wcsE LL = 8 from by simp [wcsE, hh]] at HW
        clear hh
        refine (HW.out _ (HC.out.mv (by have hs_ := hB.size; repeat (first | with_reducible exact hB | with_reducible (refine Below.setCell ?_ (by simp <;> omega) _) | with_reducible (refine Below.alloc ?_ (by first | exact hs_ | (simp <;> omega)) _) | with_reducible (refine Below.drew ?_))))).mono ?_
        rintro e u2 ⟨B2, d2, rfl, t2, bB⟩
        replace hk := Blk.via0 (g := w.heap.size) (t := 23) bB (by repeat (first | with_reducible exact hk | with_reducible (apply Blk.set_) | with_reducible (apply Blk.far; case hp => (simp <;> omega)) | with_reducible (apply Blk.alloc) | with_reducible (apply Blk.drew)))
        replace hk : Blk u2 w.heap.size 23 #[.int .u8 (x : Int), .int .i64 f, .int .i64 s] := hk
        replace hB := Below.via (w := w) (by have hs_ := hB.size; repeat (first | with_reducible exact hB | with_reducible (refine Below.setCell ?_ (by simp <;> omega) _) | with_reducible (refine Below.alloc ?_ (by first | exact hs_ | (simp <;> omega)) _) | with_reducible (refine Below.drew ?_))) bB
        clear z36 z37 z38 z39 z40 z41 z42
        clear bB
        clear HW t2
        have z43 : u2.cell? ⟨w.heap.size, 0, none⟩ = some (.int .u8 (x : Int)) := (hk.cell 0).trans rfl
        have z44 := hk.frozen 0
        have z45 : u2.cell? ⟨w.heap.size, 1, none⟩ = some (.int .i64 f) := (hk.cell 1).trans rfl
        have z46 := hk.frozen 1
        have z47 : u2.cell? ⟨w.heap.size, 2, none⟩ = some (.int .i64 s) := (hk.cell 2).trans rfl
        have z48 := hk.frozen 2
        have z49 := hk.lt
        go_wp2_with fail
        refine (HA.out _ (HR.out.mv (by have hs_ := hB.size; repeat (first | with_reducible exact hB | with_reducible (refine Below.setCell ?_ (by simp <;> omega) _) | with_reducible (refine Below.alloc ?_ (by first | exact hs_ | (simp <;> omega)) _) | with_reducible (refine Below.drew ?_))))).mono ?_
        rintro e z1 ⟨rfl, bB⟩
        replace hk := Blk.via0 (g := w.heap.size) (t := 23) bB (by repeat (first | with_reducible exact hk | with_reducible (apply Blk.set_) | with_reducible (apply Blk.far; case hp => (simp <;> omega)) | with_reducible (apply Blk.alloc) | with_reducible (apply Blk.drew)))
        replace hk : Blk z1 w.heap.size 23 #[.int .u8 (x : Int), .int .i64 f, .int .i64 s] := hk
        replace hB := Below.via (w := w) (by have hs_ := hB.size; repeat (first | with_reducible exact hB | with_reducible (refine Below.setCell ?_ (by simp <;> omega) _) | with_reducible (refine Below.alloc ?_ (by first | exact hs_ | (simp <;> omega)) _) | with_reducible (refine Below.drew ?_))) bB
        clear z43 z44 z45 z46 z47 z48 z49
        clear bB
        have z50 : z1.cell? ⟨w.heap.size, 0, none⟩ = some (.int .u8 (x : Int)) := (hk.cell 0).trans rfl
        have z51 := hk.frozen 0
        have z52 : z1.cell? ⟨w.heap.size, 1, none⟩ = some (.int .i64 f) := (hk.cell 1).trans rfl
        have z53 := hk.frozen 1
        have z54 : z1.cell? ⟨w.heap.size, 2, none⟩ = some (.int .i64 s) := (hk.cell 2).trans rfl
        have z55 := hk.frozen 2
        have z56 := hk.lt
        go_wp2_with fail
        go_ret
        exact ⟨rfl, (by have hs_ := hB.size; repeat (first | with_reducible exact hB | with_reducible (refine Below.setCell ?_ (by simp <;> omega) _) | with_reducible (refine Below.alloc ?_ (by first | exact hs_ | (simp <;> omega)) _) | with_reducible (refine Below.drew ?_)))⟩
      · have HW := Lib.hid (fun W (h : RdC W A2 n2 LL) => writeChains_any A2 n2 c2 LL W h hn20)
        rw [show wcsL LL = csL LL from by simp [wcsL, hh], show wcsE LL = 0 from by simp [wcsE, hh]] at HW
        have hLb : ∀ l ∈ LL, l.length ≤ 1000000 := fun l hl => by have := (csB_n hh).2.2 l hl; omega
        have HLB := Lib.hid hLb
        clear hLb
        have HRD := Lib.hid (fun (A : Option Addr) (c : Nat) W (h : Rb W A (csL LL).length (csL LL)) => readChainsBack LL A c hh W h)
        obtain ⟨P, hP⟩ : ∃ P, csL LL = P := ⟨_, rfl⟩
        rw [hP] at HW HRD
        clear hP hh
        refine (HW.out _ (HC.out.mv (by have hs_ := hB.size; repeat (first | with_reducible exact hB | with_reducible (refine Below.setCell ?_ (by simp <;> omega) _) | with_reducible (refine Below.alloc ?_ (by first | exact hs_ | (simp <;> omega)) _) | with_reducible (refine Below.drew ?_))))).mono ?_
        rintro e u2 ⟨B2, d2, rfl, t2, bB⟩
        have ne_t2_hk : (Value.slice B2 P.length d2).ownBlock ≠ some w.heap.size := own_not_lt t2 (by first | omega | (simp <;> omega))
        replace t2 := own_low t2 (show w.heap.size ≤ _ from by have hs_ := hB.size; simp <;> omega)
        replace hk := Blk.via0 (g := w.heap.size) (t := 23) bB (by repeat (first | with_reducible exact hk | with_reducible (apply Blk.set_) | with_reducible (apply Blk.far; case hp => (simp <;> omega)) | with_reducible (apply Blk.alloc) | with_reducible (apply Blk.drew)))
        replace hk : Blk u2 w.heap.size 23 #[.int .u8 (x : Int), .int .i64 f, .int .i64 s] := hk
        replace hB := Below.via (w := w) (by have hs_ := hB.size; repeat (first | with_reducible exact hB | with_reducible (refine Below.setCell ?_ (by simp <;> omega) _) | with_reducible (refine Below.alloc ?_ (by first | exact hs_ | (simp <;> omega)) _) | with_reducible (refine Below.drew ?_))) bB
        clear z36 z37 z38 z39 z40 z41 z42
        clear bB
        have z43 : u2.cell? ⟨w.heap.size, 0, none⟩ = some (.int .u8 (x : Int)) := (hk.cell 0).trans rfl
        have z44 := hk.frozen 0
        have z45 : u2.cell? ⟨w.heap.size, 1, none⟩ = some (.int .i64 f) := (hk.cell 1).trans rfl
        have z46 := hk.frozen 1
        have z47 : u2.cell? ⟨w.heap.size, 2, none⟩ = some (.int .i64 s) := (hk.cell 2).trans rfl
        have z48 := hk.frozen 2
        have z49 := hk.lt
        go_wp2_with fail
        refine (HRD.out _ _ _ (own_rd (by repeat (first | with_reducible exact t2 | (with_reducible apply own_set_; case hne => first | exact ne_t2_hk) | with_reducible (apply own_alloc_) | with_reducible (apply own_drew_))))).mono ?_
        rintro e v2 ⟨E2, g2, rfl, hy, bB⟩
        replace hk := Blk.via0 (g := w.heap.size) (t := 23) bB (by repeat (first | with_reducible exact hk | with_reducible (apply Blk.set_) | with_reducible (apply Blk.far; case hp => (simp <;> omega)) | with_reducible (apply Blk.alloc) | with_reducible (apply Blk.drew)))
        replace hk : Blk v2 w.heap.size 23 #[.int .u8 (x : Int), .int .i64 f, .int .i64 s] := hk
        replace t2 := own_call (by repeat (first | with_reducible exact t2 | (with_reducible apply own_set_; case hne => first | exact ne_t2_hk) | with_reducible (apply own_alloc_) | with_reducible (apply own_drew_))) bB
        replace hB := Below.via (w := w) (by have hs_ := hB.size; repeat (first | with_reducible exact hB | with_reducible (refine Below.setCell ?_ (by simp <;> omega) _) | with_reducible (refine Below.alloc ?_ (by first | exact hs_ | (simp <;> omega)) _) | with_reducible (refine Below.drew ?_))) bB
        clear z43 z44 z45 z46 z47 z48 z49
        clear bB
        clear HW HRD t2
        have HY := Lib.hid hy
        clear hy
        have z50 : v2.cell? ⟨w.heap.size, 0, none⟩ = some (.int .u8 (x : Int)) := (hk.cell 0).trans rfl
        have z51 := hk.frozen 0
        have z52 : v2.cell? ⟨w.heap.size, 1, none⟩ = some (.int .i64 f) := (hk.cell 1).trans rfl
        have z53 := hk.frozen 1
        have z54 : v2.cell? ⟨w.heap.size, 2, none⟩ = some (.int .i64 s) := (hk.cell 2).trans rfl
        have z55 := hk.frozen 2
        have z56 := hk.lt
        go_wp2_with fail
        refine (sameChains_any E2 LL.length g2 LL A2 n2 c2 LL _ HY.out (HC.out.mv (by have hs_ := hB.size; repeat (first | with_reducible exact hB | with_reducible (refine Below.setCell ?_ (by simp <;> omega) _) | with_reducible (refine Below.alloc ?_ (by first | exact hs_ | (simp <;> omega)) _) | with_reducible (refine Below.drew ?_)))) (by rw [HN2.out]; omega) HLB.out).mono ?_
        rintro e y2 ⟨rfl, bB⟩
        rw [decide_eq_true (rfl : LL = LL)]
        replace hk := Blk.via0 (g := w.heap.size) (t := 23) bB (by repeat (first | with_reducible exact hk | with_reducible (apply Blk.set_) | with_reducible (apply Blk.far; case hp => (simp <;> omega)) | with_reducible (apply Blk.alloc) | with_reducible (apply Blk.drew)))
        replace hk : Blk y2 w.heap.size 23 #[.int .u8 (x : Int), .int .i64 f, .int .i64 s] := hk
        replace hB := Below.via (w := w) (by have hs_ := hB.size; repeat (first | with_reducible exact hB | with_reducible (refine Below.setCell ?_ (by simp <;> omega) _) | with_reducible (refine Below.alloc ?_ (by first | exact hs_ | (simp <;> omega)) _) | with_reducible (refine Below.drew ?_))) bB
        clear z50 z51 z52 z53 z54 z55 z56
        clear bB
        clear HY
        have z57 : y2.cell? ⟨w.heap.size, 0, none⟩ = some (.int .u8 (x : Int)) := (hk.cell 0).trans rfl
        have z58 := hk.frozen 0
        have z59 : y2.cell? ⟨w.heap.size, 1, none⟩ = some (.int .i64 f) := (hk.cell 1).trans rfl
        have z60 := hk.frozen 1
        have z61 : y2.cell? ⟨w.heap.size, 2, none⟩ = some (.int .i64 s) := (hk.cell 2).trans rfl
        have z62 := hk.frozen 2
        have z63 := hk.lt
        go_wp2_with fail
        refine (HA.out _ (HR.out.mv (by have hs_ := hB.size; repeat (first | with_reducible exact hB | with_reducible (refine Below.setCell ?_ (by simp <;> omega) _) | with_reducible (refine Below.alloc ?_ (by first | exact hs_ | (simp <;> omega)) _) | with_reducible (refine Below.drew ?_))))).mono ?_
        rintro e z1 ⟨rfl, bB⟩
        replace hk := Blk.via0 (g := w.heap.size) (t := 23) bB (by repeat (first | with_reducible exact hk | with_reducible (apply Blk.set_) | with_reducible (apply Blk.far; case hp => (simp <;> omega)) | with_reducible (apply Blk.alloc) | with_reducible (apply Blk.drew)))
        replace hk : Blk z1 w.heap.size 23 #[.int .u8 (x : Int), .int .i64 f, .int .i64 s] := hk
        replace hB := Below.via (w := w) (by have hs_ := hB.size; repeat (first | with_reducible exact hB | with_reducible (refine Below.setCell ?_ (by simp <;> omega) _) | with_reducible (refine Below.alloc ?_ (by first | exact hs_ | (simp <;> omega)) _) | with_reducible (refine Below.drew ?_))) bB
        clear z57 z58 z59 z60 z61 z62 z63
        clear bB
        have z64 : z1.cell? ⟨w.heap.size, 0, none⟩ = some (.int .u8 (x : Int)) := (hk.cell 0).trans rfl
        have z65 := hk.frozen 0
        have z66 : z1.cell? ⟨w.heap.size, 1, none⟩ = some (.int .i64 f) := (hk.cell 1).trans rfl
        have z67 := hk.frozen 1
        have z68 : z1.cell? ⟨w.heap.size, 2, none⟩ = some (.int .i64 s) := (hk.cell 2).trans rfl
        have z69 := hk.frozen 2
        have z70 := hk.lt
        go_wp2_with fail
        go_ret
        exact ⟨rfl, (by have hs_ := hB.size; repeat (first | with_reducible exact hB | with_reducible (refine Below.setCell ?_ (by simp <;> omega) _) | with_reducible (refine Below.alloc ?_ (by first | exact hs_ | (simp <;> omega)) _) | with_reducible (refine Below.drew ?_)))⟩
  · have HW := Lib.hid (fun W  => writeEnded_any x f s W hx hf)
    rw [show weL x f s = endL x f s from by simp [weL, hh], show weE x f s = 0 from by simp [weE, hh]] at HW
    have HRD := Lib.hid (fun (A : Option Addr) (c : Nat) W (h : Rb W A (endL x f s).length (endL x f s)) => readEndedBack x f s A c hh W h)
    obtain ⟨P, hP⟩ : ∃ P, endL x f s = P := ⟨_, rfl⟩
    rw [hP] at HW HRD
    clear hP hh
    refine (HW.out _).mono ?_
    rintro e u0 ⟨B0, d0, rfl, t0, bB⟩
    have ne_t0_hk : (Value.slice B0 P.length d0).ownBlock ≠ some w.heap.size := own_not_lt t0 (by first | omega | (simp <;> omega))
    replace t0 := own_low t0 (show w.heap.size ≤ _ from by have hs_ := hB.size; simp <;> omega)
    replace hk := Blk.via0 (g := w.heap.size) (t := 23) bB (by repeat (first | with_reducible exact hk | with_reducible (apply Blk.set_) | with_reducible (apply Blk.far; case hp => (simp <;> omega)) | with_reducible (apply Blk.alloc) | with_reducible (apply Blk.drew)))
    replace hk : Blk u0 w.heap.size 23 #[.int .u8 (x : Int), .int .i64 f, .int .i64 s] := hk
    replace hB := Below.via (w := w) (by have hs_ := hB.size; repeat (first | with_reducible exact hB | with_reducible (refine Below.setCell ?_ (by simp <;> omega) _) | with_reducible (refine Below.alloc ?_ (by first | exact hs_ | (simp <;> omega)) _) | with_reducible (refine Below.drew ?_))) bB
    clear z8 z9 z10 z11 z12 z13 z14
    clear bB
    have z15 : u0.cell? ⟨w.heap.size, 0, none⟩ = some (.int .u8 (x : Int)) := (hk.cell 0).trans rfl
    have z16 := hk.frozen 0
    have z17 : u0.cell? ⟨w.heap.size, 1, none⟩ = some (.int .i64 f) := (hk.cell 1).trans rfl
    have z18 := hk.frozen 1
    have z19 : u0.cell? ⟨w.heap.size, 2, none⟩ = some (.int .i64 s) := (hk.cell 2).trans rfl
    have z20 := hk.frozen 2
    have z21 := hk.lt
    go_wp2_with fail
    refine (HRD.out _ _ _ (own_rd (by repeat (first | with_reducible exact t0 | (with_reducible apply own_set_; case hne => first | exact ne_t0_hk) | with_reducible (apply own_alloc_) | with_reducible (apply own_drew_))))).mono ?_
    rintro e v0 ⟨rfl, bB⟩
    replace hk := Blk.via0 (g := w.heap.size) (t := 23) bB (by repeat (first | with_reducible exact hk | with_reducible (apply Blk.set_) | with_reducible (apply Blk.far; case hp => (simp <;> omega)) | with_reducible (apply Blk.alloc) | with_reducible (apply Blk.drew)))
    replace hk : Blk v0 w.heap.size 23 #[.int .u8 (x : Int), .int .i64 f, .int .i64 s] := hk
    replace t0 := own_call (by repeat (first | with_reducible exact t0 | (with_reducible apply own_set_; case hne => first | exact ne_t0_hk) | with_reducible (apply own_alloc_) | with_reducible (apply own_drew_))) bB
    replace hB := Below.via (w := w) (by have hs_ := hB.size; repeat (first | with_reducible exact hB | with_reducible (refine Below.setCell ?_ (by simp <;> omega) _) | with_reducible (refine Below.alloc ?_ (by first | exact hs_ | (simp <;> omega)) _) | with_reducible (refine Below.drew ?_))) bB
    clear z15 z16 z17 z18 z19 z20 z21
    clear bB
    clear HW HRD t0
    have z22 : v0.cell? ⟨w.heap.size, 0, none⟩ = some (.int .u8 (x : Int)) := (hk.cell 0).trans rfl
    have z23 := hk.frozen 0
    have z24 : ∀ ob_, (v0.alloc ob_).cell? ⟨w.heap.size, 0, none⟩ = some (.int .u8 (x : Int)) := fun ob_ => ((Blk.alloc hk ob_).cell 0).trans rfl
    have z25 : ∀ ob_, (v0.alloc ob_).frozen? ⟨w.heap.size, 0, none⟩ = false := fun ob_ => (Blk.alloc hk ob_).frozen 0
    have z26 : v0.cell? ⟨w.heap.size, 1, none⟩ = some (.int .i64 f) := (hk.cell 1).trans rfl
    have z27 := hk.frozen 1
    have z28 : ∀ ob_, (v0.alloc ob_).cell? ⟨w.heap.size, 1, none⟩ = some (.int .i64 f) := fun ob_ => ((Blk.alloc hk ob_).cell 1).trans rfl
    have z29 : ∀ ob_, (v0.alloc ob_).frozen? ⟨w.heap.size, 1, none⟩ = false := fun ob_ => (Blk.alloc hk ob_).frozen 1
    have z30 : v0.cell? ⟨w.heap.size, 2, none⟩ = some (.int .i64 s) := (hk.cell 2).trans rfl
    have z31 := hk.frozen 2
    have z32 : ∀ ob_, (v0.alloc ob_).cell? ⟨w.heap.size, 2, none⟩ = some (.int .i64 s) := fun ob_ => ((Blk.alloc hk ob_).cell 2).trans rfl
    have z33 : ∀ ob_, (v0.alloc ob_).frozen? ⟨w.heap.size, 2, none⟩ = false := fun ob_ => (Blk.alloc hk ob_).frozen 2
    have z34 := hk.lt
    go_wp2_with fail
    cases hh : hsB L
    · have HW := Lib.hid (fun W (h : RdT W A n L) => writeHeads_any A n c L W h (by omega))
      rw [show whsL L = [] from by simp [whsL, hh], show whsE L = 8 from by simp [whsE, hh]] at HW
      clear hh
      refine (HW.out _ (HT.out.mv (by have hs_ := hB.size; repeat (first | with_reducible exact hB | with_reducible (refine Below.setCell ?_ (by simp <;> omega) _) | with_reducible (refine Below.alloc ?_ (by first | exact hs_ | (simp <;> omega)) _) | with_reducible (refine Below.drew ?_))))).mono ?_
      rintro e u1 ⟨B1, d1, rfl, t1, bB⟩
      replace hk := Blk.via0 (g := w.heap.size) (t := 23) bB (by repeat (first | with_reducible exact hk | with_reducible (apply Blk.set_) | with_reducible (apply Blk.far; case hp => (simp <;> omega)) | with_reducible (apply Blk.alloc) | with_reducible (apply Blk.drew)))
      replace hk : Blk u1 w.heap.size 23 #[.int .u8 (x : Int), .int .i64 f, .int .i64 s] := hk
      replace hB := Below.via (w := w) (by have hs_ := hB.size; repeat (first | with_reducible exact hB | with_reducible (refine Below.setCell ?_ (by simp <;> omega) _) | with_reducible (refine Below.alloc ?_ (by first | exact hs_ | (simp <;> omega)) _) | with_reducible (refine Below.drew ?_))) bB
      clear z22 z23 z24 z25 z26 z27 z28 z29 z30 z31 z32 z33 z34
      clear bB
      clear HW t1
      have z35 : u1.cell? ⟨w.heap.size, 0, none⟩ = some (.int .u8 (x : Int)) := (hk.cell 0).trans rfl
      have z36 := hk.frozen 0
      have z37 : u1.cell? ⟨w.heap.size, 1, none⟩ = some (.int .i64 f) := (hk.cell 1).trans rfl
      have z38 := hk.frozen 1
      have z39 : u1.cell? ⟨w.heap.size, 2, none⟩ = some (.int .i64 s) := (hk.cell 2).trans rfl
      have z40 := hk.frozen 2
      have z41 := hk.lt
      go_wp2_with fail
      cases hh : csB LL
      · have HW := Lib.hid (fun W (h : RdC W A2 n2 LL) => writeChains_any A2 n2 c2 LL W h hn20)
        rw [show wcsL LL = [] from by simp [wcsL, hh], show wcsE LL = 8 from by simp [wcsE, hh]] at HW
        clear hh
        refine (HW.out _ (HC.out.mv (by have hs_ := hB.size; repeat (first | with_reducible exact hB | with_reducible (refine Below.setCell ?_ (by simp <;> omega) _) | with_reducible (refine Below.alloc ?_ (by first | exact hs_ | (simp <;> omega)) _) | with_reducible (refine Below.drew ?_))))).mono ?_
        rintro e u2 ⟨B2, d2, rfl, t2, bB⟩
        replace hk := Blk.via0 (g := w.heap.size) (t := 23) bB (by repeat (first | with_reducible exact hk | with_reducible (apply Blk.set_) | with_reducible (apply Blk.far; case hp => (simp <;> omega)) | with_reducible (apply Blk.alloc) | with_reducible (apply Blk.drew)))
        replace hk : Blk u2 w.heap.size 23 #[.int .u8 (x : Int), .int .i64 f, .int .i64 s] := hk
        replace hB := Below.via (w := w) (by have hs_ := hB.size; repeat (first | with_reducible exact hB | with_reducible (refine Below.setCell ?_ (by simp <;> omega) _) | with_reducible (refine Below.alloc ?_ (by first | exact hs_ | (simp <;> omega)) _) | with_reducible (refine Below.drew ?_))) bB
        clear z35 z36 z37 z38 z39 z40 z41
        clear bB
        clear HW t2
        have z42 : u2.cell? ⟨w.heap.size, 0, none⟩ = some (.int .u8 (x : Int)) := (hk.cell 0).trans rfl
        have z43 := hk.frozen 0
        have z44 : u2.cell? ⟨w.heap.size, 1, none⟩ = some (.int .i64 f) := (hk.cell 1).trans rfl
        have z45 := hk.frozen 1
        have z46 : u2.cell? ⟨w.heap.size, 2, none⟩ = some (.int .i64 s) := (hk.cell 2).trans rfl
        have z47 := hk.frozen 2
        have z48 := hk.lt
        go_wp2_with fail
        refine (HA.out _ (HR.out.mv (by have hs_ := hB.size; repeat (first | with_reducible exact hB | with_reducible (refine Below.setCell ?_ (by simp <;> omega) _) | with_reducible (refine Below.alloc ?_ (by first | exact hs_ | (simp <;> omega)) _) | with_reducible (refine Below.drew ?_))))).mono ?_
        rintro e z1 ⟨rfl, bB⟩
        replace hk := Blk.via0 (g := w.heap.size) (t := 23) bB (by repeat (first | with_reducible exact hk | with_reducible (apply Blk.set_) | with_reducible (apply Blk.far; case hp => (simp <;> omega)) | with_reducible (apply Blk.alloc) | with_reducible (apply Blk.drew)))
        replace hk : Blk z1 w.heap.size 23 #[.int .u8 (x : Int), .int .i64 f, .int .i64 s] := hk
        replace hB := Below.via (w := w) (by have hs_ := hB.size; repeat (first | with_reducible exact hB | with_reducible (refine Below.setCell ?_ (by simp <;> omega) _) | with_reducible (refine Below.alloc ?_ (by first | exact hs_ | (simp <;> omega)) _) | with_reducible (refine Below.drew ?_))) bB
        clear z42 z43 z44 z45 z46 z47 z48
        clear bB
        have z49 : z1.cell? ⟨w.heap.size, 0, none⟩ = some (.int .u8 (x : Int)) := (hk.cell 0).trans rfl
        have z50 := hk.frozen 0
        have z51 : z1.cell? ⟨w.heap.size, 1, none⟩ = some (.int .i64 f) := (hk.cell 1).trans rfl
        have z52 := hk.frozen 1
        have z53 : z1.cell? ⟨w.heap.size, 2, none⟩ = some (.int .i64 s) := (hk.cell 2).trans rfl
        have z54 := hk.frozen 2
        have z55 := hk.lt
        go_wp2_with fail
        go_ret
        exact ⟨rfl, (by have hs_ := hB.size; repeat (first | with_reducible exact hB | with_reducible (refine Below.setCell ?_ (by simp <;> omega) _) | with_reducible (refine Below.alloc ?_ (by first | exact hs_ | (simp <;> omega)) _) | with_reducible (refine Below.drew ?_)))⟩
      · have HW := Lib.hid (fun W (h : RdC W A2 n2 LL) => writeChains_any A2 n2 c2 LL W h hn20)
        rw [show wcsL LL = csL LL from by simp [wcsL, hh], show wcsE LL = 0 from by simp [wcsE, hh]] at HW
        have hLb : ∀ l ∈ LL, l.length ≤ 1000000 := fun l hl => by have := (csB_n hh).2.2 l hl; omega
        have HLB := Lib.hid hLb
        clear hLb
        have HRD := Lib.hid (fun (A : Option Addr) (c : Nat) W (h : Rb W A (csL LL).length (csL LL)) => readChainsBack LL A c hh W h)
        obtain ⟨P, hP⟩ : ∃ P, csL LL = P := ⟨_, rfl⟩
        rw [hP] at HW HRD
        clear hP hh
        refine (HW.out _ (HC.out.mv (by have hs_ := hB.size; repeat (first | with_reducible exact hB | with_reducible (refine Below.setCell ?_ (by simp <;> omega) _) | with_reducible (refine Below.alloc ?_ (by first | exact hs_ | (simp <;> omega)) _) | with_reducible (refine Below.drew ?_))))).mono ?_
        rintro e u2 ⟨B2, d2, rfl, t2, bB⟩
        have ne_t2_hk : (Value.slice B2 P.length d2).ownBlock ≠ some w.heap.size := own_not_lt t2 (by first | omega | (simp <;> omega))
        replace t2 := own_low t2 (show w.heap.size ≤ _ from by have hs_ := hB.size; simp <;> omega)
        replace hk := Blk.via0 (g := w.heap.size) (t := 23) bB (by repeat (first | with_reducible exact hk | with_reducible (apply Blk.set_) | with_reducible (apply Blk.far; case hp => (simp <;> omega)) | with_reducible (apply Blk.alloc) | with_reducible (apply Blk.drew)))
        replace hk : Blk u2 w.heap.size 23 #[.int .u8 (x : Int), .int .i64 f, .int .i64 s] := hk
        replace hB := Below.via (w := w) (by have hs_ := hB.size; repeat (first | with_reducible exact hB | with_reducible (refine Below.setCell ?_ (by simp <;> omega) _) | with_reducible (refine Below.alloc ?_ (by first | exact hs_ | (simp <;> omega)) _) | with_reducible (refine Below.drew ?_))) bB
        clear z35 z36 z37 z38 z39 z40 z41
        clear bB
        have z42 : u2.cell? ⟨w.heap.size, 0, none⟩ = some (.int .u8 (x : Int)) := (hk.cell 0).trans rfl
        have z43 := hk.frozen 0
        have z44 : u2.cell? ⟨w.heap.size, 1, none⟩ = some (.int .i64 f) := (hk.cell 1).trans rfl
        have z45 := hk.frozen 1
        have z46 : u2.cell? ⟨w.heap.size, 2, none⟩ = some (.int .i64 s) := (hk.cell 2).trans rfl
        have z47 := hk.frozen 2
        have z48 := hk.lt
        go_wp2_with fail
        refine (HRD.out _ _ _ (own_rd (by repeat (first | with_reducible exact t2 | (with_reducible apply own_set_; case hne => first | exact ne_t2_hk) | with_reducible (apply own_alloc_) | with_reducible (apply own_drew_))))).mono ?_
        rintro e v2 ⟨E2, g2, rfl, hy, bB⟩
        replace hk := Blk.via0 (g := w.heap.size) (t := 23) bB (by repeat (first | with_reducible exact hk | with_reducible (apply Blk.set_) | with_reducible (apply Blk.far; case hp => (simp <;> omega)) | with_reducible (apply Blk.alloc) | with_reducible (apply Blk.drew)))
        replace hk : Blk v2 w.heap.size 23 #[.int .u8 (x : Int), .int .i64 f, .int .i64 s] := hk
        replace t2 := own_call (by repeat (first | with_reducible exact t2 | (with_reducible apply own_set_; case hne => first | exact ne_t2_hk) | with_reducible (apply own_alloc_) | with_reducible (apply own_drew_))) bB
        replace hB := Below.via (w := w) (by have hs_ := hB.size; repeat (first | with_reducible exact hB | with_reducible (refine Below.setCell ?_ (by simp <;> omega) _) | with_reducible (refine Below.alloc ?_ (by first | exact hs_ | (simp <;> omega)) _) | with_reducible (refine Below.drew ?_))) bB
        clear z42 z43 z44 z45 z46 z47 z48
        clear bB
        clear HW HRD t2
        have HY := Lib.hid hy
        clear hy
        have z49 : v2.cell? ⟨w.heap.size, 0, none⟩ = some (.int .u8 (x : Int)) := (hk.cell 0).trans rfl
        have z50 := hk.frozen 0
        have z51 : v2.cell? ⟨w.heap.size, 1, none⟩ = some (.int .i64 f) := (hk.cell 1).trans rfl
        have z52 := hk.frozen 1
        have z53 : v2.cell? ⟨w.heap.size, 2, none⟩ = some (.int .i64 s) := (hk.cell 2).trans rfl
        have z54 := hk.frozen 2
        have z55 := hk.lt
        go_wp2_with fail
        refine (sameChains_any E2 LL.length g2 LL A2 n2 c2 LL _ HY.out (HC.out.mv (by have hs_ := hB.size; repeat (first | with_reducible exact hB | with_reducible (refine Below.setCell ?_ (by simp <;> omega) _) | with_reducible (refine Below.alloc ?_ (by first | exact hs_ | (simp <;> omega)) _) | with_reducible (refine Below.drew ?_)))) (by rw [HN2.out]; omega) HLB.out).mono ?_
        rintro e y2 ⟨rfl, bB⟩
        rw [decide_eq_true (rfl : LL = LL)]
        replace hk := Blk.via0 (g := w.heap.size) (t := 23) bB (by repeat (first | with_reducible exact hk | with_reducible (apply Blk.set_) | with_reducible (apply Blk.far; case hp => (simp <;> omega)) | with_reducible (apply Blk.alloc) | with_reducible (apply Blk.drew)))
        replace hk : Blk y2 w.heap.size 23 #[.int .u8 (x : Int), .int .i64 f, .int .i64 s] := hk
        replace hB := Below.via (w := w) (by have hs_ := hB.size; repeat (first | with_reducible exact hB | with_reducible (refine Below.setCell ?_ (by simp <;> omega) _) | with_reducible (refine Below.alloc ?_ (by first | exact hs_ | (simp <;> omega)) _) | with_reducible (refine Below.drew ?_))) bB
        clear z49 z50 z51 z52 z53 z54 z55
        clear bB
        clear HY
        have z56 : y2.cell? ⟨w.heap.size, 0, none⟩ = some (.int .u8 (x : Int)) := (hk.cell 0).trans rfl
        have z57 := hk.frozen 0
        have z58 : y2.cell? ⟨w.heap.size, 1, none⟩ = some (.int .i64 f) := (hk.cell 1).trans rfl
        have z59 := hk.frozen 1
        have z60 : y2.cell? ⟨w.heap.size, 2, none⟩ = some (.int .i64 s) := (hk.cell 2).trans rfl
        have z61 := hk.frozen 2
        have z62 := hk.lt
        go_wp2_with fail
        refine (HA.out _ (HR.out.mv (by have hs_ := hB.size; repeat (first | with_reducible exact hB | with_reducible (refine Below.setCell ?_ (by simp <;> omega) _) | with_reducible (refine Below.alloc ?_ (by first | exact hs_ | (simp <;> omega)) _) | with_reducible (refine Below.drew ?_))))).mono ?_
        rintro e z1 ⟨rfl, bB⟩
        replace hk := Blk.via0 (g := w.heap.size) (t := 23) bB (by repeat (first | with_reducible exact hk | with_reducible (apply Blk.set_) | with_reducible (apply Blk.far; case hp => (simp <;> omega)) | with_reducible (apply Blk.alloc) | with_reducible (apply Blk.drew)))
        replace hk : Blk z1 w.heap.size 23 #[.int .u8 (x : Int), .int .i64 f, .int .i64 s] := hk
        replace hB := Below.via (w := w) (by have hs_ := hB.size; repeat (first | with_reducible exact hB | with_reducible (refine Below.setCell ?_ (by simp <;> omega) _) | with_reducible (refine Below.alloc ?_ (by first | exact hs_ | (simp <;> omega)) _) | with_reducible (refine Below.drew ?_))) bB
        clear z56 z57 z58 z59 z60 z61 z62
        clear bB
        have z63 : z1.cell? ⟨w.heap.size, 0, none⟩ = some (.int .u8 (x : Int)) := (hk.cell 0).trans rfl
        have z64 := hk.frozen 0
        have z65 : z1.cell? ⟨w.heap.size, 1, none⟩ = some (.int .i64 f) := (hk.cell 1).trans rfl
        have z66 := hk.frozen 1
        have z67 : z1.cell? ⟨w.heap.size, 2, none⟩ = some (.int .i64 s) := (hk.cell 2).trans rfl
        have z68 := hk.frozen 2
        have z69 := hk.lt
        go_wp2_with fail
        go_ret
        exact ⟨rfl, (by have hs_ := hB.size; repeat (first | with_reducible exact hB | with_reducible (refine Below.setCell ?_ (by simp <;> omega) _) | with_reducible (refine Below.alloc ?_ (by first | exact hs_ | (simp <;> omega)) _) | with_reducible (refine Below.drew ?_)))⟩
    · have HW := Lib.hid (fun W (h : RdT W A n L) => writeHeads_any A n c L W h (by omega))
      rw [show whsL L = hsL L from by simp [whsL, hh], show whsE L = 0 from by simp [whsE, hh]] at HW
      have HRD := Lib.hid (fun (A : Option Addr) (c : Nat) W (h : Rb W A (hsL L).length (hsL L)) => readHeadsBack L A c hh HOK.out W h)
      obtain ⟨P, hP⟩ : ∃ P, hsL L = P := ⟨_, rfl⟩
      rw [hP] at HW HRD
      clear hP hh
      refine (HW.out _ (HT.out.mv (by have hs_ := hB.size; repeat (first | with_reducible exact hB | with_reducible (refine Below.setCell ?_ (by simp <;> omega) _) | with_reducible (refine Below.alloc ?_ (by first | exact hs_ | (simp <;> omega)) _) | with_reducible (refine Below.drew ?_))))).mono ?_
      rintro e u1 ⟨B1, d1, rfl, t1, bB⟩
      have ne_t1_hk : (Value.slice B1 P.length d1).ownBlock ≠ some w.heap.size := own_not_lt t1 (by first | omega | (simp <;> omega))
      replace t1 := own_low t1 (show w.heap.size ≤ _ from by have hs_ := hB.size; simp <;> omega)
      replace hk := Blk.via0 (g := w.heap.size) (t := 23) bB (by repeat (first | with_reducible exact hk | with_reducible (apply Blk.set_) | with_reducible (apply Blk.far; case hp => (simp <;> omega)) | with_reducible (apply Blk.alloc) | with_reducible (apply Blk.drew)))
      replace hk : Blk u1 w.heap.size 23 #[.int .u8 (x : Int), .int .i64 f, .int .i64 s] := hk
      replace hB := Below.via (w := w) (by have hs_ := hB.size; repeat (first | with_reducible exact hB | with_reducible (refine Below.setCell ?_ (by simp <;> omega) _) | with_reducible (refine Below.alloc ?_ (by first | exact hs_ | (simp <;> omega)) _) | with_reducible (refine Below.drew ?_))) bB
      clear z22 z23 z24 z25 z26 z27 z28 z29 z30 z31 z32 z33 z34
      clear bB
      have z35 : u1.cell? ⟨w.heap.size, 0, none⟩ = some (.int .u8 (x : Int)) := (hk.cell 0).trans rfl
      have z36 := hk.frozen 0
      have z37 : u1.cell? ⟨w.heap.size, 1, none⟩ = some (.int .i64 f) := (hk.cell 1).trans rfl
      have z38 := hk.frozen 1
      have z39 : u1.cell? ⟨w.heap.size, 2, none⟩ = some (.int .i64 s) := (hk.cell 2).trans rfl
      have z40 := hk.frozen 2
      have z41 := hk.lt
      go_wp2_with fail
      refine (HRD.out _ _ _ (own_rd (by repeat (first | with_reducible exact t1 | (with_reducible apply own_set_; case hne => first | exact ne_t1_hk) | with_reducible (apply own_alloc_) | with_reducible (apply own_drew_))))).mono ?_
      rintro e v1 ⟨E1, g1, rfl, hy, bB⟩
      replace hk := Blk.via0 (g := w.heap.size) (t := 23) bB (by repeat (first | with_reducible exact hk | with_reducible (apply Blk.set_) | with_reducible (apply Blk.far; case hp => (simp <;> omega)) | with_reducible (apply Blk.alloc) | with_reducible (apply Blk.drew)))
      replace hk : Blk v1 w.heap.size 23 #[.int .u8 (x : Int), .int .i64 f, .int .i64 s] := hk
      replace t1 := own_call (by repeat (first | with_reducible exact t1 | (with_reducible apply own_set_; case hne => first | exact ne_t1_hk) | with_reducible (apply own_alloc_) | with_reducible (apply own_drew_))) bB
      replace hB := Below.via (w := w) (by have hs_ := hB.size; repeat (first | with_reducible exact hB | with_reducible (refine Below.setCell ?_ (by simp <;> omega) _) | with_reducible (refine Below.alloc ?_ (by first | exact hs_ | (simp <;> omega)) _) | with_reducible (refine Below.drew ?_))) bB
      clear z35 z36 z37 z38 z39 z40 z41
      clear bB
      clear HW HRD t1
      have HY := Lib.hid hy
      clear hy
      have z42 : v1.cell? ⟨w.heap.size, 0, none⟩ = some (.int .u8 (x : Int)) := (hk.cell 0).trans rfl
      have z43 := hk.frozen 0
      have z44 : v1.cell? ⟨w.heap.size, 1, none⟩ = some (.int .i64 f) := (hk.cell 1).trans rfl
      have z45 := hk.frozen 1
      have z46 : v1.cell? ⟨w.heap.size, 2, none⟩ = some (.int .i64 s) := (hk.cell 2).trans rfl
      have z47 := hk.frozen 2
      have z48 := hk.lt
      go_wp2_with fail
      refine (sameHeads_any E1 L.length g1 L A n c L _ HY.out (HT.out.mv (by have hs_ := hB.size; repeat (first | with_reducible exact hB | with_reducible (refine Below.setCell ?_ (by simp <;> omega) _) | with_reducible (refine Below.alloc ?_ (by first | exact hs_ | (simp <;> omega)) _) | with_reducible (refine Below.drew ?_)))) (by rw [HN.out]; omega)).mono ?_
      rintro e y1 ⟨rfl, bB⟩
      rw [decide_eq_true (rfl : L = L)]
      replace hk := Blk.via0 (g := w.heap.size) (t := 23) bB (by repeat (first | with_reducible exact hk | with_reducible (apply Blk.set_) | with_reducible (apply Blk.far; case hp => (simp <;> omega)) | with_reducible (apply Blk.alloc) | with_reducible (apply Blk.drew)))
      replace hk : Blk y1 w.heap.size 23 #[.int .u8 (x : Int), .int .i64 f, .int .i64 s] := hk
      replace hB := Below.via (w := w) (by have hs_ := hB.size; repeat (first | with_reducible exact hB | with_reducible (refine Below.setCell ?_ (by simp <;> omega) _) | with_reducible (refine Below.alloc ?_ (by first | exact hs_ | (simp <;> omega)) _) | with_reducible (refine Below.drew ?_))) bB
      clear z42 z43 z44 z45 z46 z47 z48
      clear bB
      clear HY
      have z49 : y1.cell? ⟨w.heap.size, 0, none⟩ = some (.int .u8 (x : Int)) := (hk.cell 0).trans rfl
      have z50 := hk.frozen 0
      have z51 : y1.cell? ⟨w.heap.size, 1, none⟩ = some (.int .i64 f) := (hk.cell 1).trans rfl
      have z52 := hk.frozen 1
      have z53 : y1.cell? ⟨w.heap.size, 2, none⟩ = some (.int .i64 s) := (hk.cell 2).trans rfl
      have z54 := hk.frozen 2
      have z55 := hk.lt
      go_wp2_with fail
      cases hh : csB LL
      · have HW := Lib.hid (fun W (h : RdC W A2 n2 LL) => writeChains_any A2 n2 c2 LL W h hn20)
        rw [show wcsL LL = [] from by simp [wcsL, hh], show wcsE LL = 8 from by simp [wcsE, hh]] at HW
        clear hh
        refine (HW.out _ (HC.out.mv (by have hs_ := hB.size; repeat (first | with_reducible exact hB | with_reducible (refine Below.setCell ?_ (by simp <;> omega) _) | with_reducible (refine Below.alloc ?_ (by first | exact hs_ | (simp <;> omega)) _) | with_reducible (refine Below.drew ?_))))).mono ?_
        rintro e u2 ⟨B2, d2, rfl, t2, bB⟩
        replace hk := Blk.via0 (g := w.heap.size) (t := 23) bB (by repeat (first | with_reducible exact hk | with_reducible (apply Blk.set_) | with_reducible (apply Blk.far; case hp => (simp <;> omega)) | with_reducible (apply Blk.alloc) | with_reducible (apply Blk.drew)))
        replace hk : Blk u2 w.heap.size 23 #[.int .u8 (x : Int), .int .i64 f, .int .i64 s] := hk
        replace hB := Below.via (w := w) (by have hs_ := hB.size; repeat (first | with_reducible exact hB | with_reducible (refine Below.setCell ?_ (by simp <;> omega) _) | with_reducible (refine Below.alloc ?_ (by first | exact hs_ | (simp <;> omega)) _) | with_reducible (refine Below.drew ?_))) bB
        clear z49 z50 z51 z52 z53 z54 z55
        clear bB
        clear HW t2
        have z56 : u2.cell? ⟨w.heap.size, 0, none⟩ = some (.int .u8 (x : Int)) := (hk.cell 0).trans rfl
        have z57 := hk.frozen 0
        have z58 : u2.cell? ⟨w.heap.size, 1, none⟩ = some (.int .i64 f) := (hk.cell 1).trans rfl
        have z59 := hk.frozen 1
        have z60 : u2.cell? ⟨w.heap.size, 2, none⟩ = some (.int .i64 s) := (hk.cell 2).trans rfl
        have z61 := hk.frozen 2
        have z62 := hk.lt
        go_wp2_with fail
        refine (HA.out _ (HR.out.mv (by have hs_ := hB.size; repeat (first | with_reducible exact hB | with_reducible (refine Below.setCell ?_ (by simp <;> omega) _) | with_reducible (refine Below.alloc ?_ (by first | exact hs_ | (simp <;> omega)) _) | with_reducible (refine Below.drew ?_))))).mono ?_
        rintro e z1 ⟨rfl, bB⟩
        replace hk := Blk.via0 (g := w.heap.size) (t := 23) bB (by repeat (first | with_reducible exact hk | with_reducible (apply Blk.set_) | with_reducible (apply Blk.far; case hp => (simp <;> omega)) | with_reducible (apply Blk.alloc) | with_reducible (apply Blk.drew)))
        replace hk : Blk z1 w.heap.size 23 #[.int .u8 (x : Int), .int .i64 f, .int .i64 s] := hk
        replace hB := Below.via (w := w) (by have hs_ := hB.size; repeat (first | with_reducible exact hB | with_reducible (refine Below.setCell ?_ (by simp <;> omega) _) | with_reducible (refine Below.alloc ?_ (by first | exact hs_ | (simp <;> omega)) _) | with_reducible (refine Below.drew ?_))) bB
        clear z56 z57 z58 z59 z60 z61 z62
        clear bB
        have z63 : z1.cell? ⟨w.heap.size, 0, none⟩ = some (.int .u8 (x : Int)) := (hk.cell 0).trans rfl
        have z64 := hk.frozen 0
        have z65 : z1.cell? ⟨w.heap.size, 1, none⟩ = some (.int .i64 f) := (hk.cell 1).trans rfl
        have z66 := hk.frozen 1
        have z67 : z1.cell? ⟨w.heap.size, 2, none⟩ = some (.int .i64 s) := (hk.cell 2).trans rfl
        have z68 := hk.frozen 2
        have z69 := hk.lt
        go_wp2_with fail
        go_ret
        exact ⟨rfl, (by have hs_ := hB.size; repeat (first | with_reducible exact hB | with_reducible (refine Below.setCell ?_ (by simp <;> omega) _) | with_reducible (refine Below.alloc ?_ (by first | exact hs_ | (simp <;> omega)) _) | with_reducible (refine Below.drew ?_)))⟩
      · have HW := Lib.hid (fun W (h : RdC W A2 n2 LL) => writeChains_any A2 n2 c2 LL W h hn20)
        rw [show wcsL LL = csL LL from by simp [wcsL, hh], show wcsE LL = 0 from by simp [wcsE, hh]] at HW
        have hLb : ∀ l ∈ LL, l.length ≤ 1000000 := fun l hl => by have := (csB_n hh).2.2 l hl; omega
        have HLB := Lib.hid hLb
        clear hLb
        have HRD := Lib.hid (fun (A : Option Addr) (c : Nat) W (h : Rb W A (csL LL).length (csL LL)) => readChainsBack LL A c hh W h)
        obtain ⟨P, hP⟩ : ∃ P, csL LL = P := ⟨_, rfl⟩
        rw [hP] at HW HRD
        clear hP hh
        refine (HW.out _ (HC.out.mv (by have hs_ := hB.size; repeat (first | with_reducible exact hB | with_reducible (refine Below.setCell ?_ (by simp <;> omega) _) | with_reducible (refine Below.alloc ?_ (by first | exact hs_ | (simp <;> omega)) _) | with_reducible (refine Below.drew ?_))))).mono ?_
        rintro e u2 ⟨B2, d2, rfl, t2, bB⟩
        have ne_t2_hk : (Value.slice B2 P.length d2).ownBlock ≠ some w.heap.size := own_not_lt t2 (by first | omega | (simp <;> omega))
        replace t2 := own_low t2 (show w.heap.size ≤ _ from by have hs_ := hB.size; simp <;> omega)
        replace hk := Blk.via0 (g := w.heap.size) (t := 23) bB (by repeat (first | with_reducible exact hk | with_reducible (apply Blk.set_) | with_reducible (apply Blk.far; case hp => (simp <;> omega)) | with_reducible (apply Blk.alloc) | with_reducible (apply Blk.drew)))
        replace hk : Blk u2 w.heap.size 23 #[.int .u8 (x : Int), .int .i64 f, .int .i64 s] := hk
        replace hB := Below.via (w := w) (by have hs_ := hB.size; repeat (first | with_reducible exact hB | with_reducible (refine Below.setCell ?_ (by simp <;> omega) _) | with_reducible (refine Below.alloc ?_ (by first | exact hs_ | (simp <;> omega)) _) | with_reducible (refine Below.drew ?_))) bB
        clear z49 z50 z51 z52 z53 z54 z55
        clear bB
        have z56 : u2.cell? ⟨w.heap.size, 0, none⟩ = some (.int .u8 (x : Int)) := (hk.cell 0).trans rfl
        have z57 := hk.frozen 0
        have z58 : u2.cell? ⟨w.heap.size, 1, none⟩ = some (.int .i64 f) := (hk.cell 1).trans rfl
        have z59 := hk.frozen 1
        have z60 : u2.cell? ⟨w.heap.size, 2, none⟩ = some (.int .i64 s) := (hk.cell 2).trans rfl
        have z61 := hk.frozen 2
        have z62 := hk.lt
        go_wp2_with fail
        refine (HRD.out _ _ _ (own_rd (by repeat (first | with_reducible exact t2 | (with_reducible apply own_set_; case hne => first | exact ne_t2_hk) | with_reducible (apply own_alloc_) | with_reducible (apply own_drew_))))).mono ?_
        rintro e v2 ⟨E2, g2, rfl, hy, bB⟩
        replace hk := Blk.via0 (g := w.heap.size) (t := 23) bB (by repeat (first | with_reducible exact hk | with_reducible (apply Blk.set_) | with_reducible (apply Blk.far; case hp => (simp <;> omega)) | with_reducible (apply Blk.alloc) | with_reducible (apply Blk.drew)))
        replace hk : Blk v2 w.heap.size 23 #[.int .u8 (x : Int), .int .i64 f, .int .i64 s] := hk
        replace t2 := own_call (by repeat (first | with_reducible exact t2 | (with_reducible apply own_set_; case hne => first | exact ne_t2_hk) | with_reducible (apply own_alloc_) | with_reducible (apply own_drew_))) bB
        replace hB := Below.via (w := w) (by have hs_ := hB.size; repeat (first | with_reducible exact hB | with_reducible (refine Below.setCell ?_ (by simp <;> omega) _) | with_reducible (refine Below.alloc ?_ (by first | exact hs_ | (simp <;> omega)) _) | with_reducible (refine Below.drew ?_))) bB
        clear z56 z57 z58 z59 z60 z61 z62
        clear bB
        clear HW HRD t2
        have HY := Lib.hid hy
        clear hy
        have z63 : v2.cell? ⟨w.heap.size, 0, none⟩ = some (.int .u8 (x : Int)) := (hk.cell 0).trans rfl
        have z64 := hk.frozen 0
        have z65 : v2.cell? ⟨w.heap.size, 1, none⟩ = some (.int .i64 f) := (hk.cell 1).trans rfl
        have z66 := hk.frozen 1
        have z67 : v2.cell? ⟨w.heap.size, 2, none⟩ = some (.int .i64 s) := (hk.cell 2).trans rfl
        have z68 := hk.frozen 2
        have z69 := hk.lt
        go_wp2_with fail
        refine (sameChains_any E2 LL.length g2 LL A2 n2 c2 LL _ HY.out (HC.out.mv (by have hs_ := hB.size; repeat (first | with_reducible exact hB | with_reducible (refine Below.setCell ?_ (by simp <;> omega) _) | with_reducible (refine Below.alloc ?_ (by first | exact hs_ | (simp <;> omega)) _) | with_reducible (refine Below.drew ?_)))) (by rw [HN2.out]; omega) HLB.out).mono ?_
        rintro e y2 ⟨rfl, bB⟩
        rw [decide_eq_true (rfl : LL = LL)]
        replace hk := Blk.via0 (g := w.heap.size) (t := 23) bB (by repeat (first | with_reducible exact hk | with_reducible (apply Blk.set_) | with_reducible (apply Blk.far; case hp => (simp <;> omega)) | with_reducible (apply Blk.alloc) | with_reducible (apply Blk.drew)))
        replace hk : Blk y2 w.heap.size 23 #[.int .u8 (x : Int), .int .i64 f, .int .i64 s] := hk
        replace hB := Below.via (w := w) (by have hs_ := hB.size; repeat (first | with_reducible exact hB | with_reducible (refine Below.setCell ?_ (by simp <;> omega) _) | with_reducible (refine Below.alloc ?_ (by first | exact hs_ | (simp <;> omega)) _) | with_reducible (refine Below.drew ?_))) bB
        clear z63 z64 z65 z66 z67 z68 z69
        clear bB
        clear HY
        have z70 : y2.cell? ⟨w.heap.size, 0, none⟩ = some (.int .u8 (x : Int)) := (hk.cell 0).trans rfl
        have z71 := hk.frozen 0
        have z72 : y2.cell? ⟨w.heap.size, 1, none⟩ = some (.int .i64 f) := (hk.cell 1).trans rfl
        have z73 := hk.frozen 1
        have z74 : y2.cell? ⟨w.heap.size, 2, none⟩ = some (.int .i64 s) := (hk.cell 2).trans rfl
        have z75 := hk.frozen 2
        have z76 := hk.lt
        go_wp2_with fail
        refine (HA.out _ (HR.out.mv (by have hs_ := hB.size; repeat (first | with_reducible exact hB | with_reducible (refine Below.setCell ?_ (by simp <;> omega) _) | with_reducible (refine Below.alloc ?_ (by first | exact hs_ | (simp <;> omega)) _) | with_reducible (refine Below.drew ?_))))).mono ?_
        rintro e z1 ⟨rfl, bB⟩
        replace hk := Blk.via0 (g := w.heap.size) (t := 23) bB (by repeat (first | with_reducible exact hk | with_reducible (apply Blk.set_) | with_reducible (apply Blk.far; case hp => (simp <;> omega)) | with_reducible (apply Blk.alloc) | with_reducible (apply Blk.drew)))
        replace hk : Blk z1 w.heap.size 23 #[.int .u8 (x : Int), .int .i64 f, .int .i64 s] := hk
        replace hB := Below.via (w := w) (by have hs_ := hB.size; repeat (first | with_reducible exact hB | with_reducible (refine Below.setCell ?_ (by simp <;> omega) _) | with_reducible (refine Below.alloc ?_ (by first | exact hs_ | (simp <;> omega)) _) | with_reducible (refine Below.drew ?_))) bB
        clear z70 z71 z72 z73 z74 z75 z76
        clear bB
        have z77 : z1.cell? ⟨w.heap.size, 0, none⟩ = some (.int .u8 (x : Int)) := (hk.cell 0).trans rfl
        have z78 := hk.frozen 0
        have z79 : z1.cell? ⟨w.heap.size, 1, none⟩ = some (.int .i64 f) := (hk.cell 1).trans rfl
        have z80 := hk.frozen 1
        have z81 : z1.cell? ⟨w.heap.size, 2, none⟩ = some (.int .i64 s) := (hk.cell 2).trans rfl
        have z82 := hk.frozen 2
        have z83 := hk.lt
        go_wp2_with fail
        go_ret
        exact ⟨rfl, (by have hs_ := hB.size; repeat (first | with_reducible exact hB | with_reducible (refine Below.setCell ?_ (by simp <;> omega) _) | with_reducible (refine Below.alloc ?_ (by first | exact hs_ | (simp <;> omega)) _) | with_reducible (refine Below.drew ?_)))⟩

end Go.Proofs.Ytljpggebpfpelaa
