/- The walk of HeadsWrites. -/
import Derived.Test.YtljpggebpfpelaaHdOpen
namespace Go.Proofs.Ytljpggebpfpelaa
open Go.RowKit Wire
set_option linter.unusedVariables false

set_option maxRecDepth 100000 in
set_option maxHeartbeats 8000000 in
theorem headsWrites_walk (w : World) (x : Nat) (f s : Int) (hx : x < 256) (hf : -9223372036854775808 ≤ f ∧ f ≤ 9223372036854775807) (hs : -9223372036854775808 ≤ s ∧ s ≤ 9223372036854775807) (A : Option Addr) (n c : Nat) (L : List Rtn) (hr : RdT w A n L) (hc0 : n ≤ c ∧ c ≤ 9223372036854775807) (A2 : Option Addr) (n2 c2 : Nat) (LL : List (List Nat)) (hc : RdC w A2 n2 LL) (hc2 : n2 ≤ c2 ∧ c2 ≤ 9223372036854775807) :
    Calls Try.prog 5 #[endV x f s, .slice A n c, .slice A2 n2 c2] w fun e w' => e = .returned (.bool true) ∧ Below w.heap.size w w' := by
  have HT := Lib.hid hr
  have HC := Lib.hid hc
  clear hr hc
  by_cases hn : 20 < n
  · have d0 : decide ((n : Int) > 20) = true := by simp; omega
    have d1 : (20 : Int) < n := by omega
    have hB : Below w.heap.size w (w.alloc (.cells #[.int .u8 (x : Int), .int .i64 f, .int .i64 s] 23)) := (Below.alloc (Below.refl w.heap.size w) (by simp <;> omega) (.cells #[.int .u8 (x : Int), .int .i64 f, .int .i64 s] 23))
    have hk := Blk.new w 23 #[.int .u8 (x : Int), .int .i64 f, .int .i64 s]
    go_enter Try.func5, Try.ntmps5
    have z1 : (w.alloc (.cells #[.int .u8 (x : Int), .int .i64 f, .int .i64 s] 23)).cell? ⟨w.heap.size, 0, none⟩ = some (.int .u8 (x : Int)) := (hk.cell 0).trans rfl
    have z2 := hk.frozen 0
    have z3 : (w.alloc (.cells #[.int .u8 (x : Int), .int .i64 f, .int .i64 s] 23)).cell? ⟨w.heap.size, 1, none⟩ = some (.int .i64 f) := (hk.cell 1).trans rfl
    have z4 := hk.frozen 1
    have z5 : (w.alloc (.cells #[.int .u8 (x : Int), .int .i64 f, .int .i64 s] 23)).cell? ⟨w.heap.size, 2, none⟩ = some (.int .i64 s) := (hk.cell 2).trans rfl
    have z6 := hk.frozen 2
    have z7 := hk.lt
    go_wp2_with fail
    go_ret
    exact ⟨rfl, (by have hs_ := hB.size; repeat (first | with_reducible exact hB | with_reducible (refine Below.setCell ?_ (by simp <;> omega) _) | with_reducible (refine Below.alloc ?_ (by first | exact hs_ | (simp <;> omega)) _) | with_reducible (refine Below.drew ?_)))⟩
  have d0 : decide ((n : Int) > 20) = false := by simp; omega
  have d1 : ¬ (20 : Int) < n := by omega
  obtain ⟨P1, hP1⟩ : ∃ P, weL x f s = P := ⟨_, rfl⟩
  obtain ⟨Q1, hQ1⟩ : ∃ P, weE x f s = P := ⟨_, rfl⟩
  obtain ⟨P2, hP2⟩ : ∃ P, whsL L = P := ⟨_, rfl⟩
  obtain ⟨Q2, hQ2⟩ : ∃ P, whsE L = P := ⟨_, rfl⟩
  obtain ⟨P3, hP3⟩ : ∃ P, wcsL LL = P := ⟨_, rfl⟩
  obtain ⟨Q3, hQ3⟩ : ∃ P, wcsE LL = P := ⟨_, rfl⟩
  have H1 := Lib.hid (fun W => writeEnded_any x f s W hx hf)
  have H2 := Lib.hid (fun W => rewriteEnded_any x f s W hx hf)
  rw [hP1, hQ1] at H1 H2
  have H3 := Lib.hid (fun W (h : RdT W A n L) => writeHeads_any A n c L W h (by omega))
  have H4 := Lib.hid (fun (A' : Option Addr) (c' : Nat) W (h : RdT W A' n L) => rewriteHeads_any A' n c' L W h)
  rw [hP2, hQ2] at H3 H4
  have H5 := Lib.hid (fun W (h : RdC W A2 n2 LL) (hn2 : n2 ≤ 20) => writeChains_any A2 n2 c2 LL W h (by omega))
  have H6 := Lib.hid (fun W (h : RdC W A2 n2 LL) => rewriteChains_any A2 n2 c2 LL W h)
  rw [hP3, hQ3] at H5 H6
  clear hP1 hQ1 hP2 hQ2 hP3 hQ3
  have hB : Below w.heap.size w (w.alloc (.cells #[.int .u8 (x : Int), .int .i64 f, .int .i64 s] 23)) := (Below.alloc (Below.refl w.heap.size w) (by simp <;> omega) (.cells #[.int .u8 (x : Int), .int .i64 f, .int .i64 s] 23))
  have hk := Blk.new w 23 #[.int .u8 (x : Int), .int .i64 f, .int .i64 s]
  go_enter Try.func5, Try.ntmps5
  have z1 : (w.alloc (.cells #[.int .u8 (x : Int), .int .i64 f, .int .i64 s] 23)).cell? ⟨w.heap.size, 0, none⟩ = some (.int .u8 (x : Int)) := (hk.cell 0).trans rfl
  have z2 := hk.frozen 0
  have z3 : (w.alloc (.cells #[.int .u8 (x : Int), .int .i64 f, .int .i64 s] 23)).cell? ⟨w.heap.size, 1, none⟩ = some (.int .i64 f) := (hk.cell 1).trans rfl
  have z4 := hk.frozen 1
  have z5 : (w.alloc (.cells #[.int .u8 (x : Int), .int .i64 f, .int .i64 s] 23)).cell? ⟨w.heap.size, 2, none⟩ = some (.int .i64 s) := (hk.cell 2).trans rfl
  have z6 := hk.frozen 2
  have z7 := hk.lt
  go_wp2_with fail
  refine (great27_any A2 n2 c2 LL _ (HC.out.mv hB) (by omega)).mono ?_
  rintro e wq ⟨g, rfl, hg, rfl⟩
  cases g
  rotate_left
  · go_wp2_with fail
    go_ret
    exact ⟨rfl, (by have hs_ := hB.size; repeat (first | with_reducible exact hB | with_reducible (refine Below.setCell ?_ (by simp <;> omega) _) | with_reducible (refine Below.alloc ?_ (by first | exact hs_ | (simp <;> omega)) _) | with_reducible (refine Below.drew ?_)))⟩
  have hn2 := hg rfl
  clear hg
  have oe := own_empty (w.alloc (.cells #[.int .u8 (x : Int), .int .i64 f, .int .i64 s] 23)) (Nat.le_refl _) 53 6
  have hke := hk.alloc (.cells #[] 53)
  have RE := HT.out.2.1.mv (hB.alloc hB.size (.cells #[] 53))
  have hBe := hB.alloc hB.size (.cells #[] 53)
  rw [alloc_size] at oe
  go_wp2_with (at_builtin; refine wpList_app rfl (.tmp 27) (.tmp 28) _ rfl slRT (w.heap.size + 1) _ 0 [] rfl oe _ A n c (L.map rtC).flatten rfl RE (rtC_one L) (by omega) (by simp) ?_; intro A9 c9 w1 o9 hg9 b9 hc9; rw [Nat.zero_add, List.nil_append] at *; have hk1 := hke.below b9 (by simp); have q0 : w1.cell? ⟨w.heap.size, 0, none⟩ = some (.int .u8 (x : Int)) := (hk1.cell 0).trans rfl; have q1 : w1.cell? ⟨w.heap.size, 1, none⟩ = some (.int .i64 f) := (hk1.cell 1).trans rfl; have q2 : w1.cell? ⟨w.heap.size, 2, none⟩ = some (.int .i64 s) := (hk1.cell 2).trans rfl)
  have hB1 := hBe.trans (b9.mono (by omega))
  have R9 := own_rdT o9 HT.out.1 HT.out.2.2
  clear hk hke hB hBe RE oe o9 hg9 b9 q0 q1 q2
  have hk2 := hk1
  have hB := hB1
  clear hB1 hk2
  have HR9 := Lib.hid R9
  clear R9
  have HB1 := Lib.hid hB
  have z1 : w1.cell? ⟨w.heap.size, 0, none⟩ = some (.int .u8 (x : Int)) := (hk1.cell 0).trans rfl
  have z2 := hk1.frozen 0
  have z3 : w1.cell? ⟨w.heap.size, 1, none⟩ = some (.int .i64 f) := (hk1.cell 1).trans rfl
  have z4 := hk1.frozen 1
  have z5 : w1.cell? ⟨w.heap.size, 2, none⟩ = some (.int .i64 s) := (hk1.cell 2).trans rfl
  have z6 := hk1.frozen 2
  have z7 := hk1.lt
  clear z1 z2 z3 z4 z5 z6 z7
  have RR := HR9.out
  have z8 := hk1.lt
  with_reducible refine (H1.out _).mono ?_
  rintro e v0 ⟨B0, e0, rfl, t0, b⟩
  replace RR := RR.mv b
  have ne_t0_hk1 : (Value.slice B0 P1.length e0).ownBlock ≠ some w.heap.size := own_not_lt t0 (by omega)
  replace t0 := own_low t0 (show w.heap.size ≤ _ from hB.size)
  replace hk1 := Blk.via0 (g := w.heap.size) (t := 23) b (by repeat (first | with_reducible exact hk1 | with_reducible (apply Blk.set_) | with_reducible (apply Blk.far; case hp => (simp <;> omega)) | with_reducible (apply Blk.alloc) | with_reducible (apply Blk.drew)))
  replace hk1 : Blk v0 w.heap.size 23 #[.int .u8 (x : Int), .int .i64 f, .int .i64 s] := hk1
  replace hB := Below.via (w := w) (by have hs_ := hB.size; repeat (first | with_reducible exact hB | with_reducible (refine Below.setCell ?_ (by simp <;> omega) _) | with_reducible (refine Below.alloc ?_ (by first | exact hs_ | (simp <;> omega)) _) | with_reducible (refine Below.drew ?_))) b
  clear z8
  clear b
  have z9 : v0.cell? ⟨w.heap.size, 0, none⟩ = some (.int .u8 (x : Int)) := (hk1.cell 0).trans rfl
  have z10 := hk1.frozen 0
  have z11 : v0.cell? ⟨w.heap.size, 1, none⟩ = some (.int .i64 f) := (hk1.cell 1).trans rfl
  have z12 := hk1.frozen 1
  have z13 : v0.cell? ⟨w.heap.size, 2, none⟩ = some (.int .i64 s) := (hk1.cell 2).trans rfl
  have z14 := hk1.frozen 2
  have z15 := hk1.lt
  go_wp2_with fail
  have z16 := hk1.lt
  with_reducible refine (H2.out _).mono ?_
  rintro e v1 ⟨B1, e1, rfl, t1, b⟩
  replace RR := RR.mv b
  have ne_t1_hk1 : (Value.slice B1 P1.length e1).ownBlock ≠ some w.heap.size := own_not_lt t1 (by omega)
  replace t1 := own_low t1 (show w.heap.size ≤ _ from hB.size)
  replace hk1 := Blk.via0 (g := w.heap.size) (t := 23) b (by repeat (first | with_reducible exact hk1 | with_reducible (apply Blk.set_) | with_reducible (apply Blk.far; case hp => (simp <;> omega)) | with_reducible (apply Blk.alloc) | with_reducible (apply Blk.drew)))
  replace hk1 : Blk v1 w.heap.size 23 #[.int .u8 (x : Int), .int .i64 f, .int .i64 s] := hk1
  replace t0 := own_call (by repeat (first | with_reducible exact t0 | (with_reducible apply own_set_; case hne => first | exact ne_t0_hk1) | with_reducible (apply own_alloc_) | with_reducible (apply own_drew_))) b
  replace hB := Below.via (w := w) (by have hs_ := hB.size; repeat (first | with_reducible exact hB | with_reducible (refine Below.setCell ?_ (by simp <;> omega) _) | with_reducible (refine Below.alloc ?_ (by first | exact hs_ | (simp <;> omega)) _) | with_reducible (refine Below.drew ?_))) b
  clear z9 z10 z11 z12 z13 z14 z15 z16
  clear b
  have z17 : v1.cell? ⟨w.heap.size, 0, none⟩ = some (.int .u8 (x : Int)) := (hk1.cell 0).trans rfl
  have z18 := hk1.frozen 0
  have z19 : v1.cell? ⟨w.heap.size, 1, none⟩ = some (.int .i64 f) := (hk1.cell 1).trans rfl
  have z20 := hk1.frozen 1
  have z21 : v1.cell? ⟨w.heap.size, 2, none⟩ = some (.int .i64 s) := (hk1.cell 2).trans rfl
  have z22 := hk1.frozen 2
  have z23 := hk1.lt
  go_wp2_with fail
  have z24 := hk1.lt
  with_reducible refine (H3.out _ (HT.out.mv (by have hs_ := hB.size; repeat (first | with_reducible exact hB | with_reducible (refine Below.setCell ?_ (by simp <;> omega) _) | with_reducible (refine Below.alloc ?_ (by first | exact hs_ | (simp <;> omega)) _) | with_reducible (refine Below.drew ?_))))).mono ?_
  rintro e v2 ⟨B2, e2, rfl, t2, b⟩
  replace RR := RR.mv b
  have ne_t2_hk1 : (Value.slice B2 P2.length e2).ownBlock ≠ some w.heap.size := own_not_lt t2 (by omega)
  replace t2 := own_low t2 (show w.heap.size ≤ _ from hB.size)
  replace hk1 := Blk.via0 (g := w.heap.size) (t := 23) b (by repeat (first | with_reducible exact hk1 | with_reducible (apply Blk.set_) | with_reducible (apply Blk.far; case hp => (simp <;> omega)) | with_reducible (apply Blk.alloc) | with_reducible (apply Blk.drew)))
  replace hk1 : Blk v2 w.heap.size 23 #[.int .u8 (x : Int), .int .i64 f, .int .i64 s] := hk1
  replace t0 := own_call (by repeat (first | with_reducible exact t0 | (with_reducible apply own_set_; case hne => first | exact ne_t0_hk1) | with_reducible (apply own_alloc_) | with_reducible (apply own_drew_))) b
  replace t1 := own_call (by repeat (first | with_reducible exact t1 | (with_reducible apply own_set_; case hne => first | exact ne_t1_hk1) | with_reducible (apply own_alloc_) | with_reducible (apply own_drew_))) b
  replace hB := Below.via (w := w) (by have hs_ := hB.size; repeat (first | with_reducible exact hB | with_reducible (refine Below.setCell ?_ (by simp <;> omega) _) | with_reducible (refine Below.alloc ?_ (by first | exact hs_ | (simp <;> omega)) _) | with_reducible (refine Below.drew ?_))) b
  clear z17 z18 z19 z20 z21 z22 z23 z24
  clear b
  have z25 : v2.cell? ⟨w.heap.size, 0, none⟩ = some (.int .u8 (x : Int)) := (hk1.cell 0).trans rfl
  have z26 := hk1.frozen 0
  have z27 : v2.cell? ⟨w.heap.size, 1, none⟩ = some (.int .i64 f) := (hk1.cell 1).trans rfl
  have z28 := hk1.frozen 1
  have z29 : v2.cell? ⟨w.heap.size, 2, none⟩ = some (.int .i64 s) := (hk1.cell 2).trans rfl
  have z30 := hk1.frozen 2
  have z31 := hk1.lt
  go_wp2_with fail
  have z32 := hk1.lt
  with_reducible refine (H4.out A9 c9 _ RR).mono ?_
  rintro e v3 ⟨B3, e3, rfl, t3, b⟩
  replace RR := RR.mv b
  have ne_t3_hk1 : (Value.slice B3 P2.length e3).ownBlock ≠ some w.heap.size := own_not_lt t3 (by omega)
  replace t3 := own_low t3 (show w.heap.size ≤ _ from hB.size)
  replace hk1 := Blk.via0 (g := w.heap.size) (t := 23) b (by repeat (first | with_reducible exact hk1 | with_reducible (apply Blk.set_) | with_reducible (apply Blk.far; case hp => (simp <;> omega)) | with_reducible (apply Blk.alloc) | with_reducible (apply Blk.drew)))
  replace hk1 : Blk v3 w.heap.size 23 #[.int .u8 (x : Int), .int .i64 f, .int .i64 s] := hk1
  replace t0 := own_call (by repeat (first | with_reducible exact t0 | (with_reducible apply own_set_; case hne => first | exact ne_t0_hk1) | with_reducible (apply own_alloc_) | with_reducible (apply own_drew_))) b
  replace t1 := own_call (by repeat (first | with_reducible exact t1 | (with_reducible apply own_set_; case hne => first | exact ne_t1_hk1) | with_reducible (apply own_alloc_) | with_reducible (apply own_drew_))) b
  replace t2 := own_call (by repeat (first | with_reducible exact t2 | (with_reducible apply own_set_; case hne => first | exact ne_t2_hk1) | with_reducible (apply own_alloc_) | with_reducible (apply own_drew_))) b
  replace hB := Below.via (w := w) (by have hs_ := hB.size; repeat (first | with_reducible exact hB | with_reducible (refine Below.setCell ?_ (by simp <;> omega) _) | with_reducible (refine Below.alloc ?_ (by first | exact hs_ | (simp <;> omega)) _) | with_reducible (refine Below.drew ?_))) b
  clear z25 z26 z27 z28 z29 z30 z31 z32
  clear b
  have z33 : v3.cell? ⟨w.heap.size, 0, none⟩ = some (.int .u8 (x : Int)) := (hk1.cell 0).trans rfl
  have z34 := hk1.frozen 0
  have z35 : v3.cell? ⟨w.heap.size, 1, none⟩ = some (.int .i64 f) := (hk1.cell 1).trans rfl
  have z36 := hk1.frozen 1
  have z37 : v3.cell? ⟨w.heap.size, 2, none⟩ = some (.int .i64 s) := (hk1.cell 2).trans rfl
  have z38 := hk1.frozen 2
  have z39 := hk1.lt
  go_wp2_with fail
  have z40 := hk1.lt
  with_reducible refine (H5.out _ (HC.out.mv (by have hs_ := hB.size; repeat (first | with_reducible exact hB | with_reducible (refine Below.setCell ?_ (by simp <;> omega) _) | with_reducible (refine Below.alloc ?_ (by first | exact hs_ | (simp <;> omega)) _) | with_reducible (refine Below.drew ?_)))) hn2).mono ?_
  rintro e v4 ⟨B4, e4, rfl, t4, b⟩
  replace RR := RR.mv b
  have ne_t4_hk1 : (Value.slice B4 P3.length e4).ownBlock ≠ some w.heap.size := own_not_lt t4 (by omega)
  replace t4 := own_low t4 (show w.heap.size ≤ _ from hB.size)
  replace hk1 := Blk.via0 (g := w.heap.size) (t := 23) b (by repeat (first | with_reducible exact hk1 | with_reducible (apply Blk.set_) | with_reducible (apply Blk.far; case hp => (simp <;> omega)) | with_reducible (apply Blk.alloc) | with_reducible (apply Blk.drew)))
  replace hk1 : Blk v4 w.heap.size 23 #[.int .u8 (x : Int), .int .i64 f, .int .i64 s] := hk1
  replace t0 := own_call (by repeat (first | with_reducible exact t0 | (with_reducible apply own_set_; case hne => first | exact ne_t0_hk1) | with_reducible (apply own_alloc_) | with_reducible (apply own_drew_))) b
  replace t1 := own_call (by repeat (first | with_reducible exact t1 | (with_reducible apply own_set_; case hne => first | exact ne_t1_hk1) | with_reducible (apply own_alloc_) | with_reducible (apply own_drew_))) b
  replace t2 := own_call (by repeat (first | with_reducible exact t2 | (with_reducible apply own_set_; case hne => first | exact ne_t2_hk1) | with_reducible (apply own_alloc_) | with_reducible (apply own_drew_))) b
  replace t3 := own_call (by repeat (first | with_reducible exact t3 | (with_reducible apply own_set_; case hne => first | exact ne_t3_hk1) | with_reducible (apply own_alloc_) | with_reducible (apply own_drew_))) b
  replace hB := Below.via (w := w) (by have hs_ := hB.size; repeat (first | with_reducible exact hB | with_reducible (refine Below.setCell ?_ (by simp <;> omega) _) | with_reducible (refine Below.alloc ?_ (by first | exact hs_ | (simp <;> omega)) _) | with_reducible (refine Below.drew ?_))) b
  clear z33 z34 z35 z36 z37 z38 z39 z40
  clear b
  have z41 : v4.cell? ⟨w.heap.size, 0, none⟩ = some (.int .u8 (x : Int)) := (hk1.cell 0).trans rfl
  have z42 := hk1.frozen 0
  have z43 : v4.cell? ⟨w.heap.size, 1, none⟩ = some (.int .i64 f) := (hk1.cell 1).trans rfl
  have z44 := hk1.frozen 1
  have z45 : v4.cell? ⟨w.heap.size, 2, none⟩ = some (.int .i64 s) := (hk1.cell 2).trans rfl
  have z46 := hk1.frozen 2
  have z47 := hk1.lt
  go_wp2_with fail
  have z48 := hk1.lt
  with_reducible refine (H6.out _ (HC.out.mv (by have hs_ := hB.size; repeat (first | with_reducible exact hB | with_reducible (refine Below.setCell ?_ (by simp <;> omega) _) | with_reducible (refine Below.alloc ?_ (by first | exact hs_ | (simp <;> omega)) _) | with_reducible (refine Below.drew ?_))))).mono ?_
  rintro e v5 ⟨B5, e5, rfl, t5, b⟩
  replace RR := RR.mv b
  have ne_t5_hk1 : (Value.slice B5 P3.length e5).ownBlock ≠ some w.heap.size := own_not_lt t5 (by omega)
  replace t5 := own_low t5 (show w.heap.size ≤ _ from hB.size)
  replace hk1 := Blk.via0 (g := w.heap.size) (t := 23) b (by repeat (first | with_reducible exact hk1 | with_reducible (apply Blk.set_) | with_reducible (apply Blk.far; case hp => (simp <;> omega)) | with_reducible (apply Blk.alloc) | with_reducible (apply Blk.drew)))
  replace hk1 : Blk v5 w.heap.size 23 #[.int .u8 (x : Int), .int .i64 f, .int .i64 s] := hk1
  replace t0 := own_call (by repeat (first | with_reducible exact t0 | (with_reducible apply own_set_; case hne => first | exact ne_t0_hk1) | with_reducible (apply own_alloc_) | with_reducible (apply own_drew_))) b
  replace t1 := own_call (by repeat (first | with_reducible exact t1 | (with_reducible apply own_set_; case hne => first | exact ne_t1_hk1) | with_reducible (apply own_alloc_) | with_reducible (apply own_drew_))) b
  replace t2 := own_call (by repeat (first | with_reducible exact t2 | (with_reducible apply own_set_; case hne => first | exact ne_t2_hk1) | with_reducible (apply own_alloc_) | with_reducible (apply own_drew_))) b
  replace t3 := own_call (by repeat (first | with_reducible exact t3 | (with_reducible apply own_set_; case hne => first | exact ne_t3_hk1) | with_reducible (apply own_alloc_) | with_reducible (apply own_drew_))) b
  replace t4 := own_call (by repeat (first | with_reducible exact t4 | (with_reducible apply own_set_; case hne => first | exact ne_t4_hk1) | with_reducible (apply own_alloc_) | with_reducible (apply own_drew_))) b
  replace hB := Below.via (w := w) (by have hs_ := hB.size; repeat (first | with_reducible exact hB | with_reducible (refine Below.setCell ?_ (by simp <;> omega) _) | with_reducible (refine Below.alloc ?_ (by first | exact hs_ | (simp <;> omega)) _) | with_reducible (refine Below.drew ?_))) b
  clear z41 z42 z43 z44 z45 z46 z47 z48
  clear b
  have K0 := cvS e0 (own_rd t0)
  have K1 := cvS e1 (own_rd t1)
  have K2 := cvS e2 (own_rd t2)
  have K3 := cvS e3 (own_rd t3)
  have K4 := cvS e4 (own_rd t4)
  have K5 := cvS e5 (own_rd t5)
  have z49 : v5.cell? ⟨w.heap.size, 0, none⟩ = some (.int .u8 (x : Int)) := (hk1.cell 0).trans rfl
  have z50 := hk1.frozen 0
  have z51 : v5.cell? ⟨w.heap.size, 1, none⟩ = some (.int .i64 f) := (hk1.cell 1).trans rfl
  have z52 := hk1.frozen 1
  have z53 : v5.cell? ⟨w.heap.size, 2, none⟩ = some (.int .i64 s) := (hk1.cell 2).trans rfl
  have z54 := hk1.frozen 2
  have z55 := hk1.lt
  go_wp2_with fail
  refine (sameHeads_any A n c L A9 n c9 L _ (HT.out.mv (by have hs_ := hB.size; repeat (first | with_reducible exact hB | with_reducible (refine Below.setCell ?_ (by simp <;> omega) _) | with_reducible (refine Below.alloc ?_ (by first | exact hs_ | (simp <;> omega)) _) | with_reducible (refine Below.drew ?_)))) RR  (by omega)).mono ?_
  rintro e v9 ⟨rfl, b⟩
  rw [decide_eq_true (rfl : L = L)]
  have hB9 := hB.trans (b.mono hB.size)
  go_wp2_with fail
  go_ret
  exact ⟨rfl, hB9⟩

end Go.Proofs.Ytljpggebpfpelaa
