/- Contracts and laws of a chapter that its statement of names leans on. Each states its conditions. -/
import Derived.Test.YtldaijkcmnnjpaaMem8
import Derived.Test.YtldaijkcmnnjpaaWk
namespace Go.Proofs.Ytldaijkcmnnjpaa
open Go.RowKit Wire
set_option linter.unusedVariables false
theorem curT26 : AggT Try.prog 70 2 := ⟨⟨_, Try.underlying70, rfl⟩, by kernel_rfl⟩
theorem regT : AggT Try.prog 75 2 := ⟨⟨_, Try.underlying75, rfl⟩, by kernel_rfl⟩
theorem utS_le (l : List UInt8) (a mo : Int) : (utS l a mo).size ≤ l.length := by
  unfold utS
  split
  · show ((List.take _ (l.drop _)).toArray).size ≤ _
    simp
    omega
  · exact Nat.zero_le _
/-- What read does. -/
def RdP (w : World) (A : Option Addr) (n c : Nat) (l : List UInt8) (a mo : Int) (b : Nat) (e : Ending) (w' : World) : Prop :=
  ∃ A' c', e = .returned (.tuple #[utC A n c l a mo, rgn b A' (utS l a mo).size c', .bool (decide (utE l a mo = 0))]) ∧ OwU w' w.heap.size A' (utS l a mo).size (utS l a mo).data.toList ∧ ((utS l a mo).size ≤ c' ∧ c' ≤ 9223372036854775807) ∧ Below w.heap.size w w'
theorem utC_cur (A : Option Addr) (n c : Nat) (l : List UInt8) (a mo : Int) : ∃ A' n' c' a', utC A n c l a mo = cur A' n' c' a' := by
  unfold utC; split <;> exact ⟨_, _, _, _, rfl⟩
set_option maxRecDepth 100000 in
set_option maxHeartbeats 3200000 in
theorem read26p_any (A : Option Addr) (n c : Nat) (l : List UInt8) (a mo : Int) (b : Nat) (w : World) (hr : Rb w A n l) (hn : n ≤ 9223372036854775807) (hnc : n ≤ c) (ha : -9223372036854775808 ≤ a ∧ a ≤ 9223372036854775807) (hmo : -9223372036854775808 ≤ mo ∧ mo ≤ 9223372036854775807) :
    Calls Try.prog 78 #[cur A n c a, .int .u64 (b : Int), .int .i64 mo] w fun e w' => RdP w A n c l a mo b e w' := by
  have HL := Lib.hid hr.len8
  have HR := Lib.hid hr
  have HSL := Lib.hid (utS_le l a mo)
  clear hr
  obtain ⟨A1, n1, c1, a1, hcc⟩ := utC_cur A n c l a mo
  have HC := Lib.hid hcc
  obtain ⟨s, hss⟩ : ∃ s, utS l a mo = s := ⟨_, rfl⟩
  have HS := Lib.hid hss
  have hsl : s.size ≤ n := by rw [← hss, ← HL.out]; exact HSL.out
  obtain ⟨f, hff⟩ : ∃ f, utE l a mo = f := ⟨_, rfl⟩
  have HD := Lib.hid (show decide (utE l a mo = 0) = (f == 0) from by rw [hff]; rfl)
  have HU := Lib.hid (fun W (h : Rb W A n l) => untext_any A n c l a mo W h hn hnc ha hmo)
  rw [hcc, hss, hff] at HU
  clear hcc hss hff
  have hB : Below w.heap.size w (((w.alloc (.cells #[.slice A n c, .int .i64 a] 70)).alloc (.cells #[.slice none 0 0, .int .i64 0] 70)).alloc (.cells #[.int .u64 0, .slice none 0 0] 75)) := (Below.alloc (Below.alloc (Below.alloc (Below.refl w.heap.size w) (by simp <;> omega) (.cells #[.slice A n c, .int .i64 a] 70)) (by simp <;> omega) (.cells #[.slice none 0 0, .int .i64 0] 70)) (by simp <;> omega) (.cells #[.int .u64 0, .slice none 0 0] 75))
  have hc := Blk.new w 70 #[.slice A n c, .int .i64 a]
  replace hc := hc.alloc (.cells #[.slice none 0 0, .int .i64 0] 70)
  replace hc := hc.alloc (.cells #[.int .u64 0, .slice none 0 0] 75)
  have hz := Blk.new (w.alloc (.cells #[.slice A n c, .int .i64 a] 70)) 70 #[.slice none 0 0, .int .i64 0]
  rw [show (w.alloc (.cells #[.slice A n c, .int .i64 a] 70)).heap.size = w.heap.size + 1 from by simp] at hz
  replace hz := hz.alloc (.cells #[.int .u64 0, .slice none 0 0] 75)
  have hr := Blk.new ((w.alloc (.cells #[.slice A n c, .int .i64 a] 70)).alloc (.cells #[.slice none 0 0, .int .i64 0] 70)) 75 #[.int .u64 0, .slice none 0 0]
  rw [show ((w.alloc (.cells #[.slice A n c, .int .i64 a] 70)).alloc (.cells #[.slice none 0 0, .int .i64 0] 70)).heap.size = w.heap.size + 2 from by simp] at hr
  go_enter Try.func78, Try.ntmps78
  have z1 : (((w.alloc (.cells #[.slice A n c, .int .i64 a] 70)).alloc (.cells #[.slice none 0 0, .int .i64 0] 70)).alloc (.cells #[.int .u64 0, .slice none 0 0] 75)).cell? ⟨w.heap.size, 0, none⟩ = some (.slice A n c) := (hc.cell 0).trans rfl
  have z2 := hc.frozen 0
  have z3 : (((w.alloc (.cells #[.slice A n c, .int .i64 a] 70)).alloc (.cells #[.slice none 0 0, .int .i64 0] 70)).alloc (.cells #[.int .u64 0, .slice none 0 0] 75)).cell? ⟨w.heap.size, 1, none⟩ = some (.int .i64 a) := (hc.cell 1).trans rfl
  have z4 := hc.frozen 1
  have z5 : (((w.alloc (.cells #[.slice A n c, .int .i64 a] 70)).alloc (.cells #[.slice none 0 0, .int .i64 0] 70)).alloc (.cells #[.int .u64 0, .slice none 0 0] 75)).cell? ⟨(w.heap.size + 1), 0, none⟩ = some (.slice none 0 0) := (hz.cell 0).trans rfl
  have z6 := hz.frozen 0
  have z7 : (((w.alloc (.cells #[.slice A n c, .int .i64 a] 70)).alloc (.cells #[.slice none 0 0, .int .i64 0] 70)).alloc (.cells #[.int .u64 0, .slice none 0 0] 75)).cell? ⟨(w.heap.size + 1), 1, none⟩ = some (.int .i64 0) := (hz.cell 1).trans rfl
  have z8 := hz.frozen 1
  have z9 : (((w.alloc (.cells #[.slice A n c, .int .i64 a] 70)).alloc (.cells #[.slice none 0 0, .int .i64 0] 70)).alloc (.cells #[.int .u64 0, .slice none 0 0] 75)).cell? ⟨(w.heap.size + 2), 0, none⟩ = some (.int .u64 0) := (hr.cell 0).trans rfl
  have z10 := hr.frozen 0
  have z11 : (((w.alloc (.cells #[.slice A n c, .int .i64 a] 70)).alloc (.cells #[.slice none 0 0, .int .i64 0] 70)).alloc (.cells #[.int .u64 0, .slice none 0 0] 75)).cell? ⟨(w.heap.size + 2), 1, none⟩ = some (.slice none 0 0) := (hr.cell 1).trans rfl
  have z12 := hr.frozen 1
  have z13 := hc.lt
  have z14 := hz.lt
  have z15 := hr.lt
  go_wp2_with fail
  refine (HU.out _ (HR.out.mv hB)).mono ?_
  rintro e w3 ⟨rfl, b⟩
  replace hc := Blk.via0 (g := w.heap.size) (t := 70) b (by repeat (first | with_reducible exact hc | with_reducible (apply Blk.set_) | with_reducible (apply Blk.far; case hp => (simp <;> omega)) | with_reducible (apply Blk.alloc) | with_reducible (apply Blk.drew)))
  replace hc : Blk w3 w.heap.size 70 #[.slice A n c, .int .i64 a] := hc
  replace hz := Blk.via0 (g := (w.heap.size + 1)) (t := 70) b (by repeat (first | with_reducible exact hz | with_reducible (apply Blk.set_) | with_reducible (apply Blk.far; case hp => (simp <;> omega)) | with_reducible (apply Blk.alloc) | with_reducible (apply Blk.drew)))
  replace hz : Blk w3 (w.heap.size + 1) 70 #[.slice none 0 0, .int .i64 0] := hz
  replace hr := Blk.via0 (g := (w.heap.size + 2)) (t := 75) b (by repeat (first | with_reducible exact hr | with_reducible (apply Blk.set_) | with_reducible (apply Blk.far; case hp => (simp <;> omega)) | with_reducible (apply Blk.alloc) | with_reducible (apply Blk.drew)))
  replace hr : Blk w3 (w.heap.size + 2) 75 #[.int .u64 0, .slice none 0 0] := hr
  replace hB := Below.via (w := w) (by have hs_ := hB.size; repeat (first | with_reducible exact hB | with_reducible (refine Below.setCell ?_ (by simp <;> omega) _) | with_reducible (refine Below.alloc ?_ (by first | exact hs_ | (simp <;> omega)) _) | with_reducible (refine Below.drew ?_))) b
  clear z1 z2 z3 z4 z5 z6 z7 z8 z9 z10 z11 z12 z13 z14 z15
  clear b
  have z16 : w3.cell? ⟨w.heap.size, 0, none⟩ = some (.slice A n c) := (hc.cell 0).trans rfl
  have z17 := hc.frozen 0
  have z18 : w3.cell? ⟨w.heap.size, 1, none⟩ = some (.int .i64 a) := (hc.cell 1).trans rfl
  have z19 := hc.frozen 1
  have z20 : w3.cell? ⟨(w.heap.size + 1), 0, none⟩ = some (.slice none 0 0) := (hz.cell 0).trans rfl
  have z21 := hz.frozen 0
  have z22 : w3.cell? ⟨(w.heap.size + 1), 1, none⟩ = some (.int .i64 0) := (hz.cell 1).trans rfl
  have z23 := hz.frozen 1
  have z24 : w3.cell? ⟨(w.heap.size + 2), 0, none⟩ = some (.int .u64 0) := (hr.cell 0).trans rfl
  have z25 := hr.frozen 0
  have z26 : w3.cell? ⟨(w.heap.size + 2), 1, none⟩ = some (.slice none 0 0) := (hr.cell 1).trans rfl
  have z27 := hr.frozen 1
  have z28 := hc.lt
  have z29 := hz.lt
  have z30 := hr.lt
  have X1 := hB
  go_wp2_with (refine wpList_to_own rfl (.tmp 20) rfl s rfl (by unfold maxLen; omega) ?_; intro A5 c5 w5 ho b hc5; replace hc := Blk.via0 (g := w.heap.size) (t := 70) b (by repeat (first | with_reducible exact hc | with_reducible (apply Blk.set_) | with_reducible (apply Blk.far; case hp => (simp <;> omega)) | with_reducible (apply Blk.alloc) | with_reducible (apply Blk.drew))); replace hc : Blk w5 w.heap.size 70 #[.slice A1 n1 c1, .int .i64 a1] := hc; replace hz := Blk.via0 (g := (w.heap.size + 1)) (t := 70) b (by repeat (first | with_reducible exact hz | with_reducible (apply Blk.set_) | with_reducible (apply Blk.far; case hp => (simp <;> omega)) | with_reducible (apply Blk.alloc) | with_reducible (apply Blk.drew))); replace hz : Blk w5 (w.heap.size + 1) 70 #[.slice none 0 0, .int .i64 0] := hz; replace hr := Blk.via0 (g := (w.heap.size + 2)) (t := 75) b (by repeat (first | with_reducible exact hr | with_reducible (apply Blk.set_) | with_reducible (apply Blk.far; case hp => (simp <;> omega)) | with_reducible (apply Blk.alloc) | with_reducible (apply Blk.drew))); replace hr : Blk w5 (w.heap.size + 2) 75 #[.int .u64 0, .slice none 0 0] := hr; replace hB := Below.via (w := w) (by have hs_ := hB.size; repeat (first | with_reducible exact hB | with_reducible (refine Below.setCell ?_ (by simp <;> omega) _) | with_reducible (refine Below.alloc ?_ (by first | exact hs_ | (simp <;> omega)) _) | with_reducible (refine Below.drew ?_))) b; clear b; have z31 : w5.cell? ⟨(w.heap.size + 1), 0, none⟩ = some (.slice none 0 0) := (hz.cell 0).trans rfl; have z32 := hz.frozen 0; have z33 : w5.cell? ⟨(w.heap.size + 1), 1, none⟩ = some (.int .i64 0) := (hz.cell 1).trans rfl; have z34 := hz.frozen 1; have z35 : w5.cell? ⟨(w.heap.size + 2), 0, none⟩ = some (.int .u64 0) := (hr.cell 0).trans rfl; have z36 := hr.frozen 0; have z37 : w5.cell? ⟨(w.heap.size + 2), 1, none⟩ = some (.slice none 0 0) := (hr.cell 1).trans rfl; have z38 := hr.frozen 1; have z39 := hc.lt; have z40 := hz.lt; have z41 := hr.lt)
  refine ret_cc1 rfl curT26 regT rfl (by repeat (first | with_reducible exact hz | with_reducible (apply Blk.set_) | with_reducible (apply Blk.far; case hp => (simp <;> omega)) | with_reducible (apply Blk.alloc) | with_reducible (apply Blk.drew))) (by rfl) rfl (by repeat (first | with_reducible exact hr | with_reducible (apply Blk.set_) | with_reducible (apply Blk.far; case hp => (simp <;> omega)) | with_reducible (apply Blk.alloc) | with_reducible (apply Blk.drew))) (by rfl) ?_
  unfold RdP
  unfold maxLen at hc5
  exact ⟨A5, c5, by rw [HC.out, HS.out, HD.out]; rfl, by rw [HS.out]; exact ((((ho.setLow (by have := X1.size; simp at this ⊢; omega) _).setLow (by have := X1.size; simp at this ⊢; omega) _).setLow (by have := hr.lt; simp at this ⊢; omega) _).setLow (by have := hr.lt; simp at this ⊢; omega) _).low (by have := X1.size; simp at this ⊢; omega), by rw [HS.out]; exact hc5, (by have hs_ := hB.size; repeat (first | with_reducible exact hB | with_reducible (refine Below.setCell ?_ (by simp <;> omega) _) | with_reducible (refine Below.alloc ?_ (by first | exact hs_ | (simp <;> omega)) _) | with_reducible (refine Below.drew ?_)))⟩
set_option maxRecDepth 100000 in
set_option maxHeartbeats 1600000 in
theorem ended26_any (A : Option Addr) (n c q : Nat) (w : World) (hn : n ≤ 200000) (hq : q ≤ n) :
    Calls Try.prog 79 #[cur A n c (q : Int)] w fun e w' => e = .returned (.bool (decide (q = n))) ∧ Below w.heap.size w w' := by
  have HC := Lib.hid (show ckE n (q : Int) = 0 from by
    have : ckB n (q : Int) = true := by simp only [ckB, Bool.and_eq_true, decide_eq_true_eq]; omega
    simp [ckE, this])
  have HLF : lfN n (q : Int) = (n : Int) - (q : Int) := by
    have : ckB n (q : Int) = true := by simp only [ckB, Bool.and_eq_true, decide_eq_true_eq]; omega
    simp [lfN, this]
  obtain ⟨z, hz⟩ : ∃ z, lfN n (q : Int) = z := ⟨_, rfl⟩
  have HF := Lib.hid hz
  by_cases hqn : q = n
  · have d1 : (z == 0) = true := by rw [beq_iff_eq]; omega
    have HD := Lib.hid (show decide (q = n) = true from by rw [decide_eq_true_eq]; exact hqn)
    clear hz HLF hqn
    have hB : Below w.heap.size w (w.alloc (.cells #[.slice A n c, .int .i64 (q : Int)] 70)) := (Below.alloc (Below.refl w.heap.size w) (by simp <;> omega) (.cells #[.slice A n c, .int .i64 (q : Int)] 70))
    have hc := Blk.new w 70 #[.slice A n c, .int .i64 (q : Int)]
    go_enter Try.func79, Try.ntmps79
    have z1 : (w.alloc (.cells #[.slice A n c, .int .i64 (q : Int)] 70)).cell? ⟨w.heap.size, 0, none⟩ = some (.slice A n c) := (hc.cell 0).trans rfl
    have z2 := hc.frozen 0
    have z3 : (w.alloc (.cells #[.slice A n c, .int .i64 (q : Int)] 70)).cell? ⟨w.heap.size, 1, none⟩ = some (.int .i64 (q : Int)) := (hc.cell 1).trans rfl
    have z4 := hc.frozen 1
    have z5 := hc.lt
    go_wp2_with fail
    refine (left_any A n c (q : Int) _ (by omega)).mono ?_
    rintro e w3 ⟨rfl, b⟩
    rw [HF.out, HC.out]
    replace hc := Blk.via0 (g := w.heap.size) (t := 70) b (by repeat (first | with_reducible exact hc | with_reducible (apply Blk.set_) | with_reducible (apply Blk.far; case hp => (simp <;> omega)) | with_reducible (apply Blk.alloc) | with_reducible (apply Blk.drew)))
    replace hc : Blk w3 w.heap.size 70 #[.slice A n c, .int .i64 (q : Int)] := hc
    replace hB := Below.via (w := w) (by have hs_ := hB.size; repeat (first | with_reducible exact hB | with_reducible (refine Below.setCell ?_ (by simp <;> omega) _) | with_reducible (refine Below.alloc ?_ (by first | exact hs_ | (simp <;> omega)) _) | with_reducible (refine Below.drew ?_))) b
    clear z1 z2 z3 z4 z5
    clear b
    go_wp2_with fail
    go_ret
    exact ⟨by rw [HD.out]; rfl, (by have hs_ := hB.size; repeat (first | with_reducible exact hB | with_reducible (refine Below.setCell ?_ (by simp <;> omega) _) | with_reducible (refine Below.alloc ?_ (by first | exact hs_ | (simp <;> omega)) _) | with_reducible (refine Below.drew ?_)))⟩
  have d1 : (z == 0) = false := by rw [beq_eq_false_iff_ne]; omega
  have HD := Lib.hid (show decide (q = n) = false from by rw [decide_eq_false_iff_not]; exact hqn)
  clear hz HLF hqn
  have hB : Below w.heap.size w (w.alloc (.cells #[.slice A n c, .int .i64 (q : Int)] 70)) := (Below.alloc (Below.refl w.heap.size w) (by simp <;> omega) (.cells #[.slice A n c, .int .i64 (q : Int)] 70))
  have hc := Blk.new w 70 #[.slice A n c, .int .i64 (q : Int)]
  go_enter Try.func79, Try.ntmps79
  have z1 : (w.alloc (.cells #[.slice A n c, .int .i64 (q : Int)] 70)).cell? ⟨w.heap.size, 0, none⟩ = some (.slice A n c) := (hc.cell 0).trans rfl
  have z2 := hc.frozen 0
  have z3 : (w.alloc (.cells #[.slice A n c, .int .i64 (q : Int)] 70)).cell? ⟨w.heap.size, 1, none⟩ = some (.int .i64 (q : Int)) := (hc.cell 1).trans rfl
  have z4 := hc.frozen 1
  have z5 := hc.lt
  go_wp2_with fail
  refine (left_any A n c (q : Int) _ (by omega)).mono ?_
  rintro e w3 ⟨rfl, b⟩
  rw [HF.out, HC.out]
  replace hc := Blk.via0 (g := w.heap.size) (t := 70) b (by repeat (first | with_reducible exact hc | with_reducible (apply Blk.set_) | with_reducible (apply Blk.far; case hp => (simp <;> omega)) | with_reducible (apply Blk.alloc) | with_reducible (apply Blk.drew)))
  replace hc : Blk w3 w.heap.size 70 #[.slice A n c, .int .i64 (q : Int)] := hc
  replace hB := Below.via (w := w) (by have hs_ := hB.size; repeat (first | with_reducible exact hB | with_reducible (refine Below.setCell ?_ (by simp <;> omega) _) | with_reducible (refine Below.alloc ?_ (by first | exact hs_ | (simp <;> omega)) _) | with_reducible (refine Below.drew ?_))) b
  clear z1 z2 z3 z4 z5
  clear b
  go_wp2_with fail
  go_ret
  exact ⟨by rw [HD.out]; rfl, (by have hs_ := hB.size; repeat (first | with_reducible exact hB | with_reducible (refine Below.setCell ?_ (by simp <;> omega) _) | with_reducible (refine Below.alloc ?_ (by first | exact hs_ | (simp <;> omega)) _) | with_reducible (refine Below.drew ?_)))⟩

end Go.Proofs.Ytldaijkcmnnjpaa
