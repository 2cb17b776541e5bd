/- The walk of HeadsReads. -/
import Derived.Test.YtljpggebpfpelaaHd19
import Derived.Test.YtljpggebpfpelaaHd20
import Derived.Test.YtljpggebpfpelaaHd23
import Derived.Test.YtljpggebpfpelaaHd24
import Derived.Test.YtljpggebpfpelaaHd25
namespace Go.Proofs.Ytljpggebpfpelaa
open Go.RowKit Wire
set_option linter.unusedVariables false

def reV (l : List UInt8) : Nat × Int × Int := (red l).getD (0, 0, 0)
def reX (l : List UInt8) : Int := if (red l).isSome then 0 else 12
def rhV (l : List UInt8) : List Rtn := (rhd l).getD []
def rhX (l : List UInt8) : Int := if (rhd l).isSome then 0 else 12
def rcV (l : List UInt8) : List (List Nat) := (rch l).getD []
def rcX (l : List UInt8) : Int := if (rch l).isSome then 0 else 12
theorem rdT_nil (w : World) : RdT w none 0 [] := ⟨rfl, Reads.none_, by simp⟩
theorem rdC_nil (w : World) : RdC w none 0 [] := ⟨rfl, [], Reads.none_, by simp⟩
theorem rhV_len (l : List UInt8) : (rhV l).length ≤ 16 := by
  unfold rhV
  cases h : rhd l with
  | none => simp
  | some L => exact (rhd_ok h).2.2.2.1
theorem rcV_len (l : List UInt8) : (rcV l).length ≤ 16 ∧ ∀ m ∈ rcV l, m.length ≤ 1000000 := by
  unfold rcV
  cases h : rch l with
  | none => simp
  | some L =>
    have := csB_n (rch_ok h).2.1
    exact ⟨this.2.1, fun m hm => by have := this.2.2 m hm; omega⟩

set_option maxHeartbeats 1600000 in
theorem readEndedU (A : Option Addr) (n c : Nat) (l : List UInt8) (w : World) (hr : Rb w A n l) (hn : l.length ≤ 200000) :
    Calls Try.prog 12 #[.slice A n c] w fun e w' => e = .returned (.tuple #[endV (reV l).1 (reV l).2.1 (reV l).2.2, .int .i64 (reX l)]) ∧ Below w.heap.size w w' := by
  refine (readEnded_any A n c l w hr hn).mono ?_
  rintro e w1 ⟨hq, b⟩
  rcases hq with ⟨h1, rfl⟩ | ⟨x, f, s, h1, rfl⟩
  · refine ⟨?_, b⟩
    rw [show reV l = (0, 0, 0) from by simp [reV, h1], show reX l = 12 from by simp [reX, h1]]
  · refine ⟨?_, b⟩
    rw [show reV l = (x, f, s) from by simp [reV, h1], show reX l = 0 from by simp [reX, h1]]

set_option maxHeartbeats 1600000 in
theorem readHeadsU (A : Option Addr) (n c : Nat) (l : List UInt8) (w : World) (hr : Rb w A n l) (hn : l.length ≤ 200000) :
    Calls Try.prog 14 #[.slice A n c] w fun e w' => ∃ A' c', e = .returned (.tuple #[.slice A' (rhV l).length c', .int .i64 (rhX l)]) ∧ RdT w' A' (rhV l).length (rhV l) ∧ Below w.heap.size w w' := by
  refine (readHeads_any A n c l w hr hn).mono ?_
  rintro e w1 ⟨hq, b⟩
  rcases hq with ⟨h1, rfl⟩ | ⟨L, A', c', h1, rfl, hL⟩
  · refine ⟨none, 0, ?_, ?_, b⟩
    · rw [show rhV l = [] from by simp [rhV, h1], show rhX l = 12 from by simp [rhX, h1]]; rfl
    · rw [show rhV l = [] from by simp [rhV, h1]]; exact rdT_nil _
  · refine ⟨A', c', ?_, ?_, b⟩
    · rw [show rhV l = L from by simp [rhV, h1], show rhX l = 0 from by simp [rhX, h1]]
    · rw [show rhV l = L from by simp [rhV, h1]]; exact hL

set_option maxHeartbeats 1600000 in
theorem readChainsU (A : Option Addr) (n c : Nat) (l : List UInt8) (w : World) (hr : Rb w A n l) (hn : l.length ≤ 200000) :
    Calls Try.prog 17 #[.slice A n c] w fun e w' => ∃ A' c', e = .returned (.tuple #[.slice A' (rcV l).length c', .int .i64 (rcX l)]) ∧ RdC w' A' (rcV l).length (rcV l) ∧ Below w.heap.size w w' := by
  refine (readChains_any A n c l w hr hn).mono ?_
  rintro e w1 ⟨hq, b⟩
  rcases hq with ⟨h1, rfl⟩ | ⟨L, A', c', h1, rfl, hL⟩
  · refine ⟨none, 0, ?_, ?_, b⟩
    · rw [show rcV l = [] from by simp [rcV, h1], show rcX l = 12 from by simp [rcX, h1]]; rfl
    · rw [show rcV l = [] from by simp [rcV, h1]]; exact rdC_nil _
  · refine ⟨A', c', ?_, ?_, b⟩
    · rw [show rcV l = L from by simp [rcV, h1], show rcX l = 0 from by simp [rcX, h1]]
    · rw [show rcV l = L from by simp [rcV, h1]]; exact hL

set_option maxHeartbeats 1600000 in
theorem rreadEndedU (A : Option Addr) (n c : Nat) (l : List UInt8) (w : World) (hr : Rb w A n l) (hn : l.length ≤ 200000) :
    Calls Try.prog 24 #[.slice A n c] w fun e w' => e = .returned (.tuple #[endV (reV l).1 (reV l).2.1 (reV l).2.2, .int .i64 (reX l)]) ∧ Below w.heap.size w w' := by
  refine (rreadEnded_any A n c l w hr hn).mono ?_
  rintro e w1 ⟨hq, b⟩
  rcases hq with ⟨h1, rfl⟩ | ⟨x, f, s, h1, rfl⟩
  · refine ⟨?_, b⟩
    rw [show reV l = (0, 0, 0) from by simp [reV, h1], show reX l = 12 from by simp [reX, h1]]
  · refine ⟨?_, b⟩
    rw [show reV l = (x, f, s) from by simp [reV, h1], show reX l = 0 from by simp [reX, h1]]

set_option maxHeartbeats 1600000 in
theorem rreadHeadsU (A : Option Addr) (n c : Nat) (l : List UInt8) (w : World) (hr : Rb w A n l) (hn : l.length ≤ 200000) :
    Calls Try.prog 25 #[.slice A n c] w fun e w' => ∃ A' c', e = .returned (.tuple #[.slice A' (rhV l).length c', .int .i64 (rhX l)]) ∧ RdT w' A' (rhV l).length (rhV l) ∧ Below w.heap.size w w' := by
  refine (rreadHeads_any A n c l w hr hn).mono ?_
  rintro e w1 ⟨hq, b⟩
  rcases hq with ⟨h1, rfl⟩ | ⟨L, A', c', h1, rfl, hL⟩
  · refine ⟨none, 0, ?_, ?_, b⟩
    · rw [show rhV l = [] from by simp [rhV, h1], show rhX l = 12 from by simp [rhX, h1]]; rfl
    · rw [show rhV l = [] from by simp [rhV, h1]]; exact rdT_nil _
  · refine ⟨A', c', ?_, ?_, b⟩
    · rw [show rhV l = L from by simp [rhV, h1], show rhX l = 0 from by simp [rhX, h1]]
    · rw [show rhV l = L from by simp [rhV, h1]]; exact hL

set_option maxHeartbeats 1600000 in
theorem rreadChainsU (A : Option Addr) (n c : Nat) (l : List UInt8) (w : World) (hr : Rb w A n l) (hn : l.length ≤ 200000) :
    Calls Try.prog 26 #[.slice A n c] w fun e w' => ∃ A' c', e = .returned (.tuple #[.slice A' (rcV l).length c', .int .i64 (rcX l)]) ∧ RdC w' A' (rcV l).length (rcV l) ∧ Below w.heap.size w w' := by
  refine (rreadChains_any A n c l w hr hn).mono ?_
  rintro e w1 ⟨hq, b⟩
  rcases hq with ⟨h1, rfl⟩ | ⟨L, A', c', h1, rfl, hL⟩
  · refine ⟨none, 0, ?_, ?_, b⟩
    · rw [show rcV l = [] from by simp [rcV, h1], show rcX l = 12 from by simp [rcX, h1]]; rfl
    · rw [show rcV l = [] from by simp [rcV, h1]]; exact rdC_nil _
  · refine ⟨A', c', ?_, ?_, b⟩
    · rw [show rcV l = L from by simp [rcV, h1], show rcX l = 0 from by simp [rcX, h1]]
    · rw [show rcV l = L from by simp [rcV, h1]]; exact hL

set_option maxRecDepth 100000 in
set_option maxHeartbeats 8000000 in
theorem headsReads_walk (w : World) (A : Option Addr) (n c : Nat) (l : List UInt8) (hr : Rb w A n l) (hc : n ≤ c ∧ c ≤ 9223372036854775807) :
    Calls Try.prog 7 #[.slice A n c] w fun e w' => e = .returned (.bool true) ∧ Below w.heap.size w w' := by
  have hl := hr.len8
  subst hl
  by_cases hn : 3000 < l.length
  · go_enter Try.func7, Try.ntmps7
    go_wp2_with fail
    go_ret
    exact ⟨rfl, Below.refl _ _⟩
  have d0 : decide ((l.length : Int) > 3000) = false := by rw [decide_eq_false_iff_not]; omega
  have hn2 : l.length ≤ 200000 := by omega
  have HR := Lib.hid hr
  obtain ⟨S, hS⟩ : ∃ S : ByteArray, S = ⟨l.toArray⟩ := ⟨_, rfl⟩
  have hSl : S.data.toList = l := by rw [hS]
  have hSs : S.size = l.length := by rw [← hSl]; simp
  have HS1 := Lib.hid (show ∀ W B A, OwU W B A S.size S.data.toList → Rb W A S.size l from fun W B A h => by rw [hSl] at h; exact h.rd)
  have HS := Lib.hid hS
  have HE1 := Lib.hid (fun (A : Option Addr) (n c : Nat) W (h : Rb W A n l) => readEndedU A n c l W h hn2)
  have HE2 := Lib.hid (fun (A : Option Addr) (n c : Nat) W (h : Rb W A n l) => rreadEndedU A n c l W h hn2)
  have HH1 := Lib.hid (fun (A : Option Addr) (n c : Nat) W (h : Rb W A n l) => readHeadsU A n c l W h hn2)
  have HH2 := Lib.hid (fun (A : Option Addr) (n c : Nat) W (h : Rb W A n l) => rreadHeadsU A n c l W h hn2)
  have HC1 := Lib.hid (fun (A : Option Addr) (n c : Nat) W (h : Rb W A n l) => readChainsU A n c l W h hn2)
  have HC2 := Lib.hid (fun (A : Option Addr) (n c : Nat) W (h : Rb W A n l) => rreadChainsU A n c l W h hn2)
  have hb1 := rhV_len l
  have hb2 := rcV_len l
  obtain ⟨⟨x, f, s⟩, hv⟩ : ∃ p, reV l = p := ⟨_, rfl⟩
  obtain ⟨ex, hex⟩ : ∃ p, reX l = p := ⟨_, rfl⟩
  obtain ⟨L, hL⟩ : ∃ p, rhV l = p := ⟨_, rfl⟩
  obtain ⟨eh, heh⟩ : ∃ p, rhX l = p := ⟨_, rfl⟩
  obtain ⟨LL, hLL⟩ : ∃ p, rcV l = p := ⟨_, rfl⟩
  obtain ⟨ec, hec⟩ : ∃ p, rcX l = p := ⟨_, rfl⟩
  rw [hv, hex] at HE1 HE2
  rw [hL, heh] at HH1 HH2
  rw [hLL, hec] at HC1 HC2
  rw [hL] at hb1
  rw [hLL] at hb2
  have HB1 := Lib.hid hb1
  have HB2 := Lib.hid hb2
  clear hv hex hL heh hLL hec hSl hS hb1 hb2
  have hSn : S.size ≤ 200000 := by omega
  have HSs := Lib.hid hSs
  clear hSs
  have hB := Below.refl w.heap.size w
  go_enter Try.func7, Try.ntmps7
  have K1 : (convert 26 9 (.slice A l.length c)).run Try.prog w = .ok (.string S) w := by rw [HS.out]; exact cvS c hr
  go_wp2_with (refine wpList_to_own rfl (.tmp 22) rfl S rfl (by unfold maxLen; omega) ?_; intro B1 d1 v1 p1 b hc_p1; replace p1 := OwU.low p1 (show w.heap.size ≤ _ from (by have hs_ := hB.size; simp <;> omega)); replace hB := Below.via (w := w) (by have hs_ := hB.size; repeat (first | with_reducible exact hB | with_reducible (refine Below.setCell ?_ (by simp <;> omega) _) | with_reducible (refine Below.alloc ?_ (by first | exact hs_ | (simp <;> omega)) _) | with_reducible (refine Below.drew ?_))) b; clear b)
  clear K1
  refine (HE1.out _ _ _ _ (HR.out.mv (by have hs_ := hB.size; repeat (first | with_reducible exact hB | with_reducible (refine Below.setCell ?_ (by simp <;> omega) _) | with_reducible (refine Below.alloc ?_ (by first | exact hs_ | (simp <;> omega)) _) | with_reducible (refine Below.drew ?_))))).mono ?_
  rintro e w1 ⟨rfl, bB⟩
  replace p1 := OwU.call (by repeat (first | with_reducible exact p1 | (with_reducible apply OwU.setOther; case hne => first | skip) | with_reducible (apply OwU.al) | with_reducible (apply OwU.drew))) bB
  replace hB := Below.via (w := w) (by have hs_ := hB.size; repeat (first | with_reducible exact hB | with_reducible (refine Below.setCell ?_ (by simp <;> omega) _) | with_reducible (refine Below.alloc ?_ (by first | exact hs_ | (simp <;> omega)) _) | with_reducible (refine Below.drew ?_))) bB
  clear bB
  go_wp2_with fail
  refine (HE2.out _ _ _ _ (HS1.out _ _ _ (by repeat (first | with_reducible exact p1 | (with_reducible apply OwU.setOther; case hne => first | skip) | with_reducible (apply OwU.al) | with_reducible (apply OwU.drew))))).mono ?_
  rintro e w2 ⟨rfl, bB⟩
  have ne_p1_k5 : (Value.slice B1 S.size d1).ownBlock ≠ some w1.heap.size := OwU.not_ge p1 (by omega)
  have ow_k5 : w.heap.size ≤ w1.heap.size := (by have := hB.size; omega)
  replace p1 := OwU.call (by repeat (first | with_reducible exact p1 | (with_reducible apply OwU.setOther; case hne => first | skip) | with_reducible (apply OwU.al) | with_reducible (apply OwU.drew))) bB
  have k5 := Blk.via0 (g := w1.heap.size) (t := 23) bB (by repeat (first | with_reducible exact Blk.newAt (by simp) _ _ | with_reducible (apply Blk.set_) | with_reducible (apply Blk.far; case hp => (simp <;> omega)) | with_reducible (apply Blk.alloc) | with_reducible (apply Blk.drew)))
  replace k5 : Blk w2 w1.heap.size 23 #[.int .u8 (x : Int), .int .i64 f, .int .i64 s] := k5
  replace hB := Below.via (w := w) (by have hs_ := hB.size; repeat (first | with_reducible exact hB | with_reducible (refine Below.setCell ?_ (by simp <;> omega) _) | with_reducible (refine Below.alloc ?_ (by first | exact hs_ | (simp <;> omega)) _) | with_reducible (refine Below.drew ?_))) bB
  clear bB
  generalize w1.heap.size = q5 at *
  have z1 : w2.cell? ⟨q5, 0, none⟩ = some (.int .u8 (x : Int)) := (k5.cell 0).trans rfl
  have z2 := k5.frozen 0
  have z3 : w2.cell? ⟨q5, 1, none⟩ = some (.int .i64 f) := (k5.cell 1).trans rfl
  have z4 := k5.frozen 1
  have z5 : w2.cell? ⟨q5, 2, none⟩ = some (.int .i64 s) := (k5.cell 2).trans rfl
  have z6 := k5.frozen 2
  have z7 := k5.lt
  go_wp2_with fail
  refine (HH1.out _ _ _ _ (HR.out.mv (by have hs_ := hB.size; repeat (first | with_reducible exact hB | with_reducible (refine Below.setCell ?_ (by simp <;> omega) _) | with_reducible (refine Below.alloc ?_ (by first | exact hs_ | (simp <;> omega)) _) | with_reducible (refine Below.drew ?_))))).mono ?_
  rintro e w3 ⟨A3, c3, rfl, t3, bB⟩
  have ne_p1_k7 : (Value.slice B1 S.size d1).ownBlock ≠ some w2.heap.size := OwU.not_ge p1 (by omega)
  have o_k5_k7 : q5 < w2.heap.size := (by omega)
  have ow_k7 : w.heap.size ≤ w2.heap.size := (by have := hB.size; omega)
  replace k5 := Blk.via0 (g := q5) (t := 23) bB (by repeat (first | with_reducible exact k5 | with_reducible (apply Blk.set_) | with_reducible (apply Blk.far; case hp => (simp <;> omega)) | with_reducible (apply Blk.alloc) | with_reducible (apply Blk.drew)))
  replace k5 : Blk w3 q5 23 #[.int .u8 (x : Int), .int .i64 f, .int .i64 s] := k5
  replace p1 := OwU.call (by repeat (first | with_reducible exact p1 | (with_reducible apply OwU.setOther; case hne => first | exact ne_p1_k5) | with_reducible (apply OwU.al) | with_reducible (apply OwU.drew))) bB
  have k7 := Blk.via0 (g := w2.heap.size) (t := 23) bB (by repeat (first | with_reducible exact Blk.newAt (by simp) _ _ | with_reducible (apply Blk.set_) | with_reducible (apply Blk.far; case hp => (simp <;> omega)) | with_reducible (apply Blk.alloc) | with_reducible (apply Blk.drew)))
  replace k7 : Blk w3 w2.heap.size 23 #[.int .u8 (x : Int), .int .i64 f, .int .i64 s] := k7
  replace hB := Below.via (w := w) (by have hs_ := hB.size; repeat (first | with_reducible exact hB | with_reducible (refine Below.setCell ?_ (by simp <;> omega) _) | with_reducible (refine Below.alloc ?_ (by first | exact hs_ | (simp <;> omega)) _) | with_reducible (refine Below.drew ?_))) bB
  clear z1 z2 z3 z4 z5 z6 z7
  clear bB
  generalize w2.heap.size = q7 at *
  have T3 := Lib.hid t3
  clear t3
  have hC3 := Below.refl w3.heap.size w3
  have z8 : w3.cell? ⟨q5, 0, none⟩ = some (.int .u8 (x : Int)) := (k5.cell 0).trans rfl
  have z9 := k5.frozen 0
  have z10 : w3.cell? ⟨q5, 1, none⟩ = some (.int .i64 f) := (k5.cell 1).trans rfl
  have z11 := k5.frozen 1
  have z12 : w3.cell? ⟨q5, 2, none⟩ = some (.int .i64 s) := (k5.cell 2).trans rfl
  have z13 := k5.frozen 2
  have z14 : w3.cell? ⟨q7, 0, none⟩ = some (.int .u8 (x : Int)) := (k7.cell 0).trans rfl
  have z15 := k7.frozen 0
  have z16 : w3.cell? ⟨q7, 1, none⟩ = some (.int .i64 f) := (k7.cell 1).trans rfl
  have z17 := k7.frozen 1
  have z18 : w3.cell? ⟨q7, 2, none⟩ = some (.int .i64 s) := (k7.cell 2).trans rfl
  have z19 := k7.frozen 2
  have z20 := k5.lt
  have z21 := k7.lt
  go_wp2_with fail
  refine (HH2.out _ _ _ _ (HS1.out _ _ _ (by repeat (first | with_reducible exact p1 | (with_reducible apply OwU.setOther; case hne => first | exact ne_p1_k5 | exact ne_p1_k7) | with_reducible (apply OwU.al) | with_reducible (apply OwU.drew))))).mono ?_
  rintro e w4 ⟨A4, c4, rfl, t4, bB⟩
  replace k5 := Blk.via0 (g := q5) (t := 23) bB (by repeat (first | with_reducible exact k5 | with_reducible (apply Blk.set_) | with_reducible (apply Blk.far; case hp => (simp <;> omega)) | with_reducible (apply Blk.alloc) | with_reducible (apply Blk.drew)))
  replace k5 : Blk w4 q5 23 #[.int .u8 (x : Int), .int .i64 f, .int .i64 s] := k5
  replace k7 := Blk.via0 (g := q7) (t := 23) bB (by repeat (first | with_reducible exact k7 | with_reducible (apply Blk.set_) | with_reducible (apply Blk.far; case hp => (simp <;> omega)) | with_reducible (apply Blk.alloc) | with_reducible (apply Blk.drew)))
  replace k7 : Blk w4 q7 23 #[.int .u8 (x : Int), .int .i64 f, .int .i64 s] := k7
  replace p1 := OwU.call (by repeat (first | with_reducible exact p1 | (with_reducible apply OwU.setOther; case hne => first | exact ne_p1_k5 | exact ne_p1_k7) | with_reducible (apply OwU.al) | with_reducible (apply OwU.drew))) bB
  replace hC3 := Below.via (w := w3) (by have hs_ := hC3.size; repeat (first | with_reducible exact hC3 | with_reducible (refine Below.setCell ?_ (by simp <;> omega) _) | with_reducible (refine Below.alloc ?_ (by first | exact hs_ | (simp <;> omega)) _) | with_reducible (refine Below.drew ?_))) bB
  replace hB := Below.via (w := w) (by have hs_ := hB.size; repeat (first | with_reducible exact hB | with_reducible (refine Below.setCell ?_ (by simp <;> omega) _) | with_reducible (refine Below.alloc ?_ (by first | exact hs_ | (simp <;> omega)) _) | with_reducible (refine Below.drew ?_))) bB
  clear z8 z9 z10 z11 z12 z13 z14 z15 z16 z17 z18 z19 z20 z21
  clear bB
  have T4 := Lib.hid t4
  clear t4
  have hC4 := Below.refl w4.heap.size w4
  have z22 : w4.cell? ⟨q5, 0, none⟩ = some (.int .u8 (x : Int)) := (k5.cell 0).trans rfl
  have z23 := k5.frozen 0
  have z24 : w4.cell? ⟨q5, 1, none⟩ = some (.int .i64 f) := (k5.cell 1).trans rfl
  have z25 := k5.frozen 1
  have z26 : w4.cell? ⟨q5, 2, none⟩ = some (.int .i64 s) := (k5.cell 2).trans rfl
  have z27 := k5.frozen 2
  have z28 : w4.cell? ⟨q7, 0, none⟩ = some (.int .u8 (x : Int)) := (k7.cell 0).trans rfl
  have z29 := k7.frozen 0
  have z30 : w4.cell? ⟨q7, 1, none⟩ = some (.int .i64 f) := (k7.cell 1).trans rfl
  have z31 := k7.frozen 1
  have z32 : w4.cell? ⟨q7, 2, none⟩ = some (.int .i64 s) := (k7.cell 2).trans rfl
  have z33 := k7.frozen 2
  have z34 := k5.lt
  have z35 := k7.lt
  go_wp2_with fail
  refine (HC1.out _ _ _ _ (HR.out.mv (by have hs_ := hB.size; repeat (first | with_reducible exact hB | with_reducible (refine Below.setCell ?_ (by simp <;> omega) _) | with_reducible (refine Below.alloc ?_ (by first | exact hs_ | (simp <;> omega)) _) | with_reducible (refine Below.drew ?_))))).mono ?_
  rintro e w5 ⟨A5, c5, rfl, t5, bB⟩
  replace k5 := Blk.via0 (g := q5) (t := 23) bB (by repeat (first | with_reducible exact k5 | with_reducible (apply Blk.set_) | with_reducible (apply Blk.far; case hp => (simp <;> omega)) | with_reducible (apply Blk.alloc) | with_reducible (apply Blk.drew)))
  replace k5 : Blk w5 q5 23 #[.int .u8 (x : Int), .int .i64 f, .int .i64 s] := k5
  replace k7 := Blk.via0 (g := q7) (t := 23) bB (by repeat (first | with_reducible exact k7 | with_reducible (apply Blk.set_) | with_reducible (apply Blk.far; case hp => (simp <;> omega)) | with_reducible (apply Blk.alloc) | with_reducible (apply Blk.drew)))
  replace k7 : Blk w5 q7 23 #[.int .u8 (x : Int), .int .i64 f, .int .i64 s] := k7
  replace p1 := OwU.call (by repeat (first | with_reducible exact p1 | (with_reducible apply OwU.setOther; case hne => first | exact ne_p1_k5 | exact ne_p1_k7) | with_reducible (apply OwU.al) | with_reducible (apply OwU.drew))) bB
  replace hC3 := Below.via (w := w3) (by have hs_ := hC3.size; repeat (first | with_reducible exact hC3 | with_reducible (refine Below.setCell ?_ (by simp <;> omega) _) | with_reducible (refine Below.alloc ?_ (by first | exact hs_ | (simp <;> omega)) _) | with_reducible (refine Below.drew ?_))) bB
  replace hC4 := Below.via (w := w4) (by have hs_ := hC4.size; repeat (first | with_reducible exact hC4 | with_reducible (refine Below.setCell ?_ (by simp <;> omega) _) | with_reducible (refine Below.alloc ?_ (by first | exact hs_ | (simp <;> omega)) _) | with_reducible (refine Below.drew ?_))) bB
  replace hB := Below.via (w := w) (by have hs_ := hB.size; repeat (first | with_reducible exact hB | with_reducible (refine Below.setCell ?_ (by simp <;> omega) _) | with_reducible (refine Below.alloc ?_ (by first | exact hs_ | (simp <;> omega)) _) | with_reducible (refine Below.drew ?_))) bB
  clear z22 z23 z24 z25 z26 z27 z28 z29 z30 z31 z32 z33 z34 z35
  clear bB
  have T5 := Lib.hid t5
  clear t5
  have hC5 := Below.refl w5.heap.size w5
  have z36 : w5.cell? ⟨q5, 0, none⟩ = some (.int .u8 (x : Int)) := (k5.cell 0).trans rfl
  have z37 := k5.frozen 0
  have z38 : w5.cell? ⟨q5, 1, none⟩ = some (.int .i64 f) := (k5.cell 1).trans rfl
  have z39 := k5.frozen 1
  have z40 : w5.cell? ⟨q5, 2, none⟩ = some (.int .i64 s) := (k5.cell 2).trans rfl
  have z41 := k5.frozen 2
  have z42 : w5.cell? ⟨q7, 0, none⟩ = some (.int .u8 (x : Int)) := (k7.cell 0).trans rfl
  have z43 := k7.frozen 0
  have z44 : w5.cell? ⟨q7, 1, none⟩ = some (.int .i64 f) := (k7.cell 1).trans rfl
  have z45 := k7.frozen 1
  have z46 : w5.cell? ⟨q7, 2, none⟩ = some (.int .i64 s) := (k7.cell 2).trans rfl
  have z47 := k7.frozen 2
  have z48 := k5.lt
  have z49 := k7.lt
  go_wp2_with fail
  refine (HC2.out _ _ _ _ (HS1.out _ _ _ (by repeat (first | with_reducible exact p1 | (with_reducible apply OwU.setOther; case hne => first | exact ne_p1_k5 | exact ne_p1_k7) | with_reducible (apply OwU.al) | with_reducible (apply OwU.drew))))).mono ?_
  rintro e w6 ⟨A6, c6, rfl, t6, bB⟩
  replace k5 := Blk.via0 (g := q5) (t := 23) bB (by repeat (first | with_reducible exact k5 | with_reducible (apply Blk.set_) | with_reducible (apply Blk.far; case hp => (simp <;> omega)) | with_reducible (apply Blk.alloc) | with_reducible (apply Blk.drew)))
  replace k5 : Blk w6 q5 23 #[.int .u8 (x : Int), .int .i64 f, .int .i64 s] := k5
  replace k7 := Blk.via0 (g := q7) (t := 23) bB (by repeat (first | with_reducible exact k7 | with_reducible (apply Blk.set_) | with_reducible (apply Blk.far; case hp => (simp <;> omega)) | with_reducible (apply Blk.alloc) | with_reducible (apply Blk.drew)))
  replace k7 : Blk w6 q7 23 #[.int .u8 (x : Int), .int .i64 f, .int .i64 s] := k7
  replace p1 := OwU.call (by repeat (first | with_reducible exact p1 | (with_reducible apply OwU.setOther; case hne => first | exact ne_p1_k5 | exact ne_p1_k7) | with_reducible (apply OwU.al) | with_reducible (apply OwU.drew))) bB
  replace hC3 := Below.via (w := w3) (by have hs_ := hC3.size; repeat (first | with_reducible exact hC3 | with_reducible (refine Below.setCell ?_ (by simp <;> omega) _) | with_reducible (refine Below.alloc ?_ (by first | exact hs_ | (simp <;> omega)) _) | with_reducible (refine Below.drew ?_))) bB
  replace hC4 := Below.via (w := w4) (by have hs_ := hC4.size; repeat (first | with_reducible exact hC4 | with_reducible (refine Below.setCell ?_ (by simp <;> omega) _) | with_reducible (refine Below.alloc ?_ (by first | exact hs_ | (simp <;> omega)) _) | with_reducible (refine Below.drew ?_))) bB
  replace hC5 := Below.via (w := w5) (by have hs_ := hC5.size; repeat (first | with_reducible exact hC5 | with_reducible (refine Below.setCell ?_ (by simp <;> omega) _) | with_reducible (refine Below.alloc ?_ (by first | exact hs_ | (simp <;> omega)) _) | with_reducible (refine Below.drew ?_))) bB
  replace hB := Below.via (w := w) (by have hs_ := hB.size; repeat (first | with_reducible exact hB | with_reducible (refine Below.setCell ?_ (by simp <;> omega) _) | with_reducible (refine Below.alloc ?_ (by first | exact hs_ | (simp <;> omega)) _) | with_reducible (refine Below.drew ?_))) bB
  clear z36 z37 z38 z39 z40 z41 z42 z43 z44 z45 z46 z47 z48 z49
  clear bB
  have T6 := Lib.hid t6
  clear t6
  have hC6 := Below.refl w6.heap.size w6
  have z50 : w6.cell? ⟨q5, 0, none⟩ = some (.int .u8 (x : Int)) := (k5.cell 0).trans rfl
  have z51 := k5.frozen 0
  have z52 : w6.cell? ⟨q5, 1, none⟩ = some (.int .i64 f) := (k5.cell 1).trans rfl
  have z53 := k5.frozen 1
  have z54 : w6.cell? ⟨q5, 2, none⟩ = some (.int .i64 s) := (k5.cell 2).trans rfl
  have z55 := k5.frozen 2
  have z56 : w6.cell? ⟨q7, 0, none⟩ = some (.int .u8 (x : Int)) := (k7.cell 0).trans rfl
  have z57 := k7.frozen 0
  have z58 : w6.cell? ⟨q7, 1, none⟩ = some (.int .i64 f) := (k7.cell 1).trans rfl
  have z59 := k7.frozen 1
  have z60 : w6.cell? ⟨q7, 2, none⟩ = some (.int .i64 s) := (k7.cell 2).trans rfl
  have z61 := k7.frozen 2
  have z62 := k5.lt
  have z63 := k7.lt
  go_wp2_with fail
  refine (sameHeads_any A3 L.length c3 L A4 L.length c4 L _ (T3.out.mv (by have hs_ := hC3.size; repeat (first | with_reducible exact hC3 | with_reducible (refine Below.setCell ?_ (by simp <;> omega) _) | with_reducible (refine Below.alloc ?_ (by first | exact hs_ | (simp <;> omega)) _) | with_reducible (refine Below.drew ?_)))) (T4.out.mv (by have hs_ := hC4.size; repeat (first | with_reducible exact hC4 | with_reducible (refine Below.setCell ?_ (by simp <;> omega) _) | with_reducible (refine Below.alloc ?_ (by first | exact hs_ | (simp <;> omega)) _) | with_reducible (refine Below.drew ?_)))) (by have := HB1.out; omega)).mono ?_
  rintro e w7 ⟨rfl, bB⟩
  rw [decide_eq_true (rfl : L = L)]
  replace k5 := Blk.via0 (g := q5) (t := 23) bB (by repeat (first | with_reducible exact k5 | with_reducible (apply Blk.set_) | with_reducible (apply Blk.far; case hp => (simp <;> omega)) | with_reducible (apply Blk.alloc) | with_reducible (apply Blk.drew)))
  replace k5 : Blk w7 q5 23 #[.int .u8 (x : Int), .int .i64 f, .int .i64 s] := k5
  replace k7 := Blk.via0 (g := q7) (t := 23) bB (by repeat (first | with_reducible exact k7 | with_reducible (apply Blk.set_) | with_reducible (apply Blk.far; case hp => (simp <;> omega)) | with_reducible (apply Blk.alloc) | with_reducible (apply Blk.drew)))
  replace k7 : Blk w7 q7 23 #[.int .u8 (x : Int), .int .i64 f, .int .i64 s] := k7
  replace p1 := OwU.call (by repeat (first | with_reducible exact p1 | (with_reducible apply OwU.setOther; case hne => first | exact ne_p1_k5 | exact ne_p1_k7) | with_reducible (apply OwU.al) | with_reducible (apply OwU.drew))) bB
  replace hC3 := Below.via (w := w3) (by have hs_ := hC3.size; repeat (first | with_reducible exact hC3 | with_reducible (refine Below.setCell ?_ (by simp <;> omega) _) | with_reducible (refine Below.alloc ?_ (by first | exact hs_ | (simp <;> omega)) _) | with_reducible (refine Below.drew ?_))) bB
  replace hC4 := Below.via (w := w4) (by have hs_ := hC4.size; repeat (first | with_reducible exact hC4 | with_reducible (refine Below.setCell ?_ (by simp <;> omega) _) | with_reducible (refine Below.alloc ?_ (by first | exact hs_ | (simp <;> omega)) _) | with_reducible (refine Below.drew ?_))) bB
  replace hC5 := Below.via (w := w5) (by have hs_ := hC5.size; repeat (first | with_reducible exact hC5 | with_reducible (refine Below.setCell ?_ (by simp <;> omega) _) | with_reducible (refine Below.alloc ?_ (by first | exact hs_ | (simp <;> omega)) _) | with_reducible (refine Below.drew ?_))) bB
  replace hC6 := Below.via (w := w6) (by have hs_ := hC6.size; repeat (first | with_reducible exact hC6 | with_reducible (refine Below.setCell ?_ (by simp <;> omega) _) | with_reducible (refine Below.alloc ?_ (by first | exact hs_ | (simp <;> omega)) _) | with_reducible (refine Below.drew ?_))) bB
  replace hB := Below.via (w := w) (by have hs_ := hB.size; repeat (first | with_reducible exact hB | with_reducible (refine Below.setCell ?_ (by simp <;> omega) _) | with_reducible (refine Below.alloc ?_ (by first | exact hs_ | (simp <;> omega)) _) | with_reducible (refine Below.drew ?_))) bB
  clear z50 z51 z52 z53 z54 z55 z56 z57 z58 z59 z60 z61 z62 z63
  clear bB
  have z64 : w7.cell? ⟨q5, 0, none⟩ = some (.int .u8 (x : Int)) := (k5.cell 0).trans rfl
  have z65 := k5.frozen 0
  have z66 : w7.cell? ⟨q5, 1, none⟩ = some (.int .i64 f) := (k5.cell 1).trans rfl
  have z67 := k5.frozen 1
  have z68 : w7.cell? ⟨q5, 2, none⟩ = some (.int .i64 s) := (k5.cell 2).trans rfl
  have z69 := k5.frozen 2
  have z70 : w7.cell? ⟨q7, 0, none⟩ = some (.int .u8 (x : Int)) := (k7.cell 0).trans rfl
  have z71 := k7.frozen 0
  have z72 : w7.cell? ⟨q7, 1, none⟩ = some (.int .i64 f) := (k7.cell 1).trans rfl
  have z73 := k7.frozen 1
  have z74 : w7.cell? ⟨q7, 2, none⟩ = some (.int .i64 s) := (k7.cell 2).trans rfl
  have z75 := k7.frozen 2
  have z76 := k5.lt
  have z77 := k7.lt
  go_wp2_with fail
  refine (sameChains_any A5 LL.length c5 LL A6 LL.length c6 LL _ (T5.out.mv (by have hs_ := hC5.size; repeat (first | with_reducible exact hC5 | with_reducible (refine Below.setCell ?_ (by simp <;> omega) _) | with_reducible (refine Below.alloc ?_ (by first | exact hs_ | (simp <;> omega)) _) | with_reducible (refine Below.drew ?_)))) (T6.out.mv (by have hs_ := hC6.size; repeat (first | with_reducible exact hC6 | with_reducible (refine Below.setCell ?_ (by simp <;> omega) _) | with_reducible (refine Below.alloc ?_ (by first | exact hs_ | (simp <;> omega)) _) | with_reducible (refine Below.drew ?_)))) (by have := HB2.out.1; omega) HB2.out.2).mono ?_
  rintro e w8 ⟨rfl, bB⟩
  rw [decide_eq_true (rfl : LL = LL)]
  replace k5 := Blk.via0 (g := q5) (t := 23) bB (by repeat (first | with_reducible exact k5 | with_reducible (apply Blk.set_) | with_reducible (apply Blk.far; case hp => (simp <;> omega)) | with_reducible (apply Blk.alloc) | with_reducible (apply Blk.drew)))
  replace k5 : Blk w8 q5 23 #[.int .u8 (x : Int), .int .i64 f, .int .i64 s] := k5
  replace k7 := Blk.via0 (g := q7) (t := 23) bB (by repeat (first | with_reducible exact k7 | with_reducible (apply Blk.set_) | with_reducible (apply Blk.far; case hp => (simp <;> omega)) | with_reducible (apply Blk.alloc) | with_reducible (apply Blk.drew)))
  replace k7 : Blk w8 q7 23 #[.int .u8 (x : Int), .int .i64 f, .int .i64 s] := k7
  replace p1 := OwU.call (by repeat (first | with_reducible exact p1 | (with_reducible apply OwU.setOther; case hne => first | exact ne_p1_k5 | exact ne_p1_k7) | with_reducible (apply OwU.al) | with_reducible (apply OwU.drew))) bB
  replace hC3 := Below.via (w := w3) (by have hs_ := hC3.size; repeat (first | with_reducible exact hC3 | with_reducible (refine Below.setCell ?_ (by simp <;> omega) _) | with_reducible (refine Below.alloc ?_ (by first | exact hs_ | (simp <;> omega)) _) | with_reducible (refine Below.drew ?_))) bB
  replace hC4 := Below.via (w := w4) (by have hs_ := hC4.size; repeat (first | with_reducible exact hC4 | with_reducible (refine Below.setCell ?_ (by simp <;> omega) _) | with_reducible (refine Below.alloc ?_ (by first | exact hs_ | (simp <;> omega)) _) | with_reducible (refine Below.drew ?_))) bB
  replace hC5 := Below.via (w := w5) (by have hs_ := hC5.size; repeat (first | with_reducible exact hC5 | with_reducible (refine Below.setCell ?_ (by simp <;> omega) _) | with_reducible (refine Below.alloc ?_ (by first | exact hs_ | (simp <;> omega)) _) | with_reducible (refine Below.drew ?_))) bB
  replace hC6 := Below.via (w := w6) (by have hs_ := hC6.size; repeat (first | with_reducible exact hC6 | with_reducible (refine Below.setCell ?_ (by simp <;> omega) _) | with_reducible (refine Below.alloc ?_ (by first | exact hs_ | (simp <;> omega)) _) | with_reducible (refine Below.drew ?_))) bB
  replace hB := Below.via (w := w) (by have hs_ := hB.size; repeat (first | with_reducible exact hB | with_reducible (refine Below.setCell ?_ (by simp <;> omega) _) | with_reducible (refine Below.alloc ?_ (by first | exact hs_ | (simp <;> omega)) _) | with_reducible (refine Below.drew ?_))) bB
  clear z64 z65 z66 z67 z68 z69 z70 z71 z72 z73 z74 z75 z76 z77
  clear bB
  have z78 : w8.cell? ⟨q5, 0, none⟩ = some (.int .u8 (x : Int)) := (k5.cell 0).trans rfl
  have z79 := k5.frozen 0
  have z80 : w8.cell? ⟨q5, 1, none⟩ = some (.int .i64 f) := (k5.cell 1).trans rfl
  have z81 := k5.frozen 1
  have z82 : w8.cell? ⟨q5, 2, none⟩ = some (.int .i64 s) := (k5.cell 2).trans rfl
  have z83 := k5.frozen 2
  have z84 : w8.cell? ⟨q7, 0, none⟩ = some (.int .u8 (x : Int)) := (k7.cell 0).trans rfl
  have z85 := k7.frozen 0
  have z86 : w8.cell? ⟨q7, 1, none⟩ = some (.int .i64 f) := (k7.cell 1).trans rfl
  have z87 := k7.frozen 1
  have z88 : w8.cell? ⟨q7, 2, none⟩ = some (.int .i64 s) := (k7.cell 2).trans rfl
  have z89 := k7.frozen 2
  have z90 := k5.lt
  have z91 := k7.lt
  have K1 : (convert 26 9 (.slice A l.length c)).run Try.prog w8 = .ok (.string S) w8 := by rw [HS.out]; exact cvS c (HR.out.mv hB)
  go_wp2_with fail
  go_ret
  exact ⟨by simp, (by have hs_ := hB.size; repeat (first | with_reducible exact hB | with_reducible (refine Below.setCell ?_ (by simp <;> omega) _) | with_reducible (refine Below.alloc ?_ (by first | exact hs_ | (simp <;> omega)) _) | with_reducible (refine Below.drew ?_)))⟩

end Go.Proofs.Ytljpggebpfpelaa
