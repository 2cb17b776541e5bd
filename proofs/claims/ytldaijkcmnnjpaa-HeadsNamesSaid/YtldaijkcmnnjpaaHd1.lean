/- Contracts and laws of a chapter that its statement of names leans on. Each states its conditions. -/
import Derived.Test.YtldaijkcmnnjpaaWireBackLaw
import Derived.Test.YtldaijkcmnnjpaaWk
namespace Go.Proofs.Ytldaijkcmnnjpaa
open Go.RowKit Wire
set_option linter.unusedVariables false
/-- An end as a value. -/
abbrev endV (x : Nat) (f s : Int) : Value := .agg #[.int .u8 (x : Int), .int .i64 f, .int .i64 s]
/-- Whether an end is valid. -/
def enB (x : Nat) (f s : Int) : Bool := decide (2 ≤ x ∧ x ≤ 6) && (decide (0 ≤ s ∧ s ≤ 5000) && (if x = 3 then decide (f = -1) else decide (0 ≤ f ∧ f < 16)))
set_option maxRecDepth 100000 in
set_option maxHeartbeats 1600000 in
theorem isEnded_any (x : Nat) (f s : Int) (w : World) (hx : x < 256) :
    Calls Try.prog 81 #[endV x f s] w fun e w' => e = .returned (.bool (enB x f s)) ∧ Below w.heap.size w w' := by
  by_cases h : x < 2
  · have HE := Lib.hid (show enB x f s = false from by unfold enB; split <;> (rw [← Bool.not_eq_true]; simp only [Bool.and_eq_true, decide_eq_true_eq]; omega))
    have d : (x : Int) < 2 := by omega
    have hB : Below w.heap.size w (w.alloc (.cells #[.int .u8 (x : Int), .int .i64 f, .int .i64 s] 89)) := (Below.alloc (Below.refl w.heap.size w) (by simp <;> omega) (.cells #[.int .u8 (x : Int), .int .i64 f, .int .i64 s] 89))
    have hk := Blk.new w 89 #[.int .u8 (x : Int), .int .i64 f, .int .i64 s]
    go_enter Try.func81, Try.ntmps81
    have z1 : (w.alloc (.cells #[.int .u8 (x : Int), .int .i64 f, .int .i64 s] 89)).cell? ⟨w.heap.size, 0, none⟩ = some (.int .u8 (x : Int)) := (hk.cell 0).trans rfl
    have z2 := hk.frozen 0
    have z3 : (w.alloc (.cells #[.int .u8 (x : Int), .int .i64 f, .int .i64 s] 89)).cell? ⟨w.heap.size, 1, none⟩ = some (.int .i64 f) := (hk.cell 1).trans rfl
    have z4 := hk.frozen 1
    have z5 : (w.alloc (.cells #[.int .u8 (x : Int), .int .i64 f, .int .i64 s] 89)).cell? ⟨w.heap.size, 2, none⟩ = some (.int .i64 s) := (hk.cell 2).trans rfl
    have z6 := hk.frozen 2
    have z7 := hk.lt
    go_wp2_with fail
    go_ret
    exact ⟨by rw [HE.out]; rfl, (by have hs_ := hB.size; repeat (first | with_reducible exact hB | with_reducible (refine Below.setCell ?_ (by simp <;> omega) _) | with_reducible (refine Below.alloc ?_ (by first | exact hs_ | (simp <;> omega)) _) | with_reducible (refine Below.drew ?_)))⟩
  have hn1613 := h
  clear h
  by_cases h : 6 < x
  · have HE := Lib.hid (show enB x f s = false from by unfold enB; split <;> (rw [← Bool.not_eq_true]; simp only [Bool.and_eq_true, decide_eq_true_eq]; omega))
    have d : (6 : Int) < (x : Int) := by omega
    have hB : Below w.heap.size w (w.alloc (.cells #[.int .u8 (x : Int), .int .i64 f, .int .i64 s] 89)) := (Below.alloc (Below.refl w.heap.size w) (by simp <;> omega) (.cells #[.int .u8 (x : Int), .int .i64 f, .int .i64 s] 89))
    have hk := Blk.new w 89 #[.int .u8 (x : Int), .int .i64 f, .int .i64 s]
    go_enter Try.func81, Try.ntmps81
    have z1 : (w.alloc (.cells #[.int .u8 (x : Int), .int .i64 f, .int .i64 s] 89)).cell? ⟨w.heap.size, 0, none⟩ = some (.int .u8 (x : Int)) := (hk.cell 0).trans rfl
    have z2 := hk.frozen 0
    have z3 : (w.alloc (.cells #[.int .u8 (x : Int), .int .i64 f, .int .i64 s] 89)).cell? ⟨w.heap.size, 1, none⟩ = some (.int .i64 f) := (hk.cell 1).trans rfl
    have z4 := hk.frozen 1
    have z5 : (w.alloc (.cells #[.int .u8 (x : Int), .int .i64 f, .int .i64 s] 89)).cell? ⟨w.heap.size, 2, none⟩ = some (.int .i64 s) := (hk.cell 2).trans rfl
    have z6 := hk.frozen 2
    have z7 := hk.lt
    go_wp2_with fail
    go_ret
    exact ⟨by rw [HE.out]; rfl, (by have hs_ := hB.size; repeat (first | with_reducible exact hB | with_reducible (refine Below.setCell ?_ (by simp <;> omega) _) | with_reducible (refine Below.alloc ?_ (by first | exact hs_ | (simp <;> omega)) _) | with_reducible (refine Below.drew ?_)))⟩
  have hn3259 := h
  clear h
  by_cases h : s < 0
  · have HE := Lib.hid (show enB x f s = false from by unfold enB; split <;> (rw [← Bool.not_eq_true]; simp only [Bool.and_eq_true, decide_eq_true_eq]; omega))
    have hB : Below w.heap.size w (w.alloc (.cells #[.int .u8 (x : Int), .int .i64 f, .int .i64 s] 89)) := (Below.alloc (Below.refl w.heap.size w) (by simp <;> omega) (.cells #[.int .u8 (x : Int), .int .i64 f, .int .i64 s] 89))
    have hk := Blk.new w 89 #[.int .u8 (x : Int), .int .i64 f, .int .i64 s]
    go_enter Try.func81, Try.ntmps81
    have z1 : (w.alloc (.cells #[.int .u8 (x : Int), .int .i64 f, .int .i64 s] 89)).cell? ⟨w.heap.size, 0, none⟩ = some (.int .u8 (x : Int)) := (hk.cell 0).trans rfl
    have z2 := hk.frozen 0
    have z3 : (w.alloc (.cells #[.int .u8 (x : Int), .int .i64 f, .int .i64 s] 89)).cell? ⟨w.heap.size, 1, none⟩ = some (.int .i64 f) := (hk.cell 1).trans rfl
    have z4 := hk.frozen 1
    have z5 : (w.alloc (.cells #[.int .u8 (x : Int), .int .i64 f, .int .i64 s] 89)).cell? ⟨w.heap.size, 2, none⟩ = some (.int .i64 s) := (hk.cell 2).trans rfl
    have z6 := hk.frozen 2
    have z7 := hk.lt
    go_wp2_with fail
    go_ret
    exact ⟨by rw [HE.out]; rfl, (by have hs_ := hB.size; repeat (first | with_reducible exact hB | with_reducible (refine Below.setCell ?_ (by simp <;> omega) _) | with_reducible (refine Below.alloc ?_ (by first | exact hs_ | (simp <;> omega)) _) | with_reducible (refine Below.drew ?_)))⟩
  have hn4860 := h
  clear h
  by_cases h : 5000 < s
  · have HE := Lib.hid (show enB x f s = false from by unfold enB; split <;> (rw [← Bool.not_eq_true]; simp only [Bool.and_eq_true, decide_eq_true_eq]; omega))
    have hB : Below w.heap.size w (w.alloc (.cells #[.int .u8 (x : Int), .int .i64 f, .int .i64 s] 89)) := (Below.alloc (Below.refl w.heap.size w) (by simp <;> omega) (.cells #[.int .u8 (x : Int), .int .i64 f, .int .i64 s] 89))
    have hk := Blk.new w 89 #[.int .u8 (x : Int), .int .i64 f, .int .i64 s]
    go_enter Try.func81, Try.ntmps81
    have z1 : (w.alloc (.cells #[.int .u8 (x : Int), .int .i64 f, .int .i64 s] 89)).cell? ⟨w.heap.size, 0, none⟩ = some (.int .u8 (x : Int)) := (hk.cell 0).trans rfl
    have z2 := hk.frozen 0
    have z3 : (w.alloc (.cells #[.int .u8 (x : Int), .int .i64 f, .int .i64 s] 89)).cell? ⟨w.heap.size, 1, none⟩ = some (.int .i64 f) := (hk.cell 1).trans rfl
    have z4 := hk.frozen 1
    have z5 : (w.alloc (.cells #[.int .u8 (x : Int), .int .i64 f, .int .i64 s] 89)).cell? ⟨w.heap.size, 2, none⟩ = some (.int .i64 s) := (hk.cell 2).trans rfl
    have z6 := hk.frozen 2
    have z7 := hk.lt
    go_wp2_with fail
    go_ret
    exact ⟨by rw [HE.out]; rfl, (by have hs_ := hB.size; repeat (first | with_reducible exact hB | with_reducible (refine Below.setCell ?_ (by simp <;> omega) _) | with_reducible (refine Below.alloc ?_ (by first | exact hs_ | (simp <;> omega)) _) | with_reducible (refine Below.drew ?_)))⟩
  have hn6464 := h
  clear h
  by_cases h3 : x = 3
  · have d3 : ((x : Int) == 3) = true := by rw [beq_iff_eq]; omega
    by_cases h : f = -1
    · have HE := Lib.hid (show enB x f s = true from by unfold enB; split <;> (simp only [Bool.and_eq_true, decide_eq_true_eq]; omega))
      have d : (f == -1) = true := by rw [beq_iff_eq]; exact h
      clear h3 h
      have hB : Below w.heap.size w (w.alloc (.cells #[.int .u8 (x : Int), .int .i64 f, .int .i64 s] 89)) := (Below.alloc (Below.refl w.heap.size w) (by simp <;> omega) (.cells #[.int .u8 (x : Int), .int .i64 f, .int .i64 s] 89))
      have hk := Blk.new w 89 #[.int .u8 (x : Int), .int .i64 f, .int .i64 s]
      go_enter Try.func81, Try.ntmps81
      have z1 : (w.alloc (.cells #[.int .u8 (x : Int), .int .i64 f, .int .i64 s] 89)).cell? ⟨w.heap.size, 0, none⟩ = some (.int .u8 (x : Int)) := (hk.cell 0).trans rfl
      have z2 := hk.frozen 0
      have z3 : (w.alloc (.cells #[.int .u8 (x : Int), .int .i64 f, .int .i64 s] 89)).cell? ⟨w.heap.size, 1, none⟩ = some (.int .i64 f) := (hk.cell 1).trans rfl
      have z4 := hk.frozen 1
      have z5 : (w.alloc (.cells #[.int .u8 (x : Int), .int .i64 f, .int .i64 s] 89)).cell? ⟨w.heap.size, 2, none⟩ = some (.int .i64 s) := (hk.cell 2).trans rfl
      have z6 := hk.frozen 2
      have z7 := hk.lt
      go_wp2_with fail
      go_ret
      exact ⟨by rw [HE.out]; rfl, (by have hs_ := hB.size; repeat (first | with_reducible exact hB | with_reducible (refine Below.setCell ?_ (by simp <;> omega) _) | with_reducible (refine Below.alloc ?_ (by first | exact hs_ | (simp <;> omega)) _) | with_reducible (refine Below.drew ?_)))⟩
    have d : (f == -1) = false := by rw [beq_eq_false_iff_ne]; exact h
    have HE := Lib.hid (show enB x f s = false from by unfold enB; split <;> (rw [← Bool.not_eq_true]; simp only [Bool.and_eq_true, decide_eq_true_eq]; omega))
    clear h3
    have hB : Below w.heap.size w (w.alloc (.cells #[.int .u8 (x : Int), .int .i64 f, .int .i64 s] 89)) := (Below.alloc (Below.refl w.heap.size w) (by simp <;> omega) (.cells #[.int .u8 (x : Int), .int .i64 f, .int .i64 s] 89))
    have hk := Blk.new w 89 #[.int .u8 (x : Int), .int .i64 f, .int .i64 s]
    go_enter Try.func81, Try.ntmps81
    have z1 : (w.alloc (.cells #[.int .u8 (x : Int), .int .i64 f, .int .i64 s] 89)).cell? ⟨w.heap.size, 0, none⟩ = some (.int .u8 (x : Int)) := (hk.cell 0).trans rfl
    have z2 := hk.frozen 0
    have z3 : (w.alloc (.cells #[.int .u8 (x : Int), .int .i64 f, .int .i64 s] 89)).cell? ⟨w.heap.size, 1, none⟩ = some (.int .i64 f) := (hk.cell 1).trans rfl
    have z4 := hk.frozen 1
    have z5 : (w.alloc (.cells #[.int .u8 (x : Int), .int .i64 f, .int .i64 s] 89)).cell? ⟨w.heap.size, 2, none⟩ = some (.int .i64 s) := (hk.cell 2).trans rfl
    have z6 := hk.frozen 2
    have z7 := hk.lt
    go_wp2_with fail
    go_ret
    exact ⟨by rw [HE.out]; rfl, (by have hs_ := hB.size; repeat (first | with_reducible exact hB | with_reducible (refine Below.setCell ?_ (by simp <;> omega) _) | with_reducible (refine Below.alloc ?_ (by first | exact hs_ | (simp <;> omega)) _) | with_reducible (refine Below.drew ?_)))⟩
  have d3 : ((x : Int) == 3) = false := by rw [beq_eq_false_iff_ne]; omega
  by_cases h : f < 0
  · have HE := Lib.hid (show enB x f s = false from by unfold enB; split <;> (rw [← Bool.not_eq_true]; simp only [Bool.and_eq_true, decide_eq_true_eq]; omega))
    have hB : Below w.heap.size w (w.alloc (.cells #[.int .u8 (x : Int), .int .i64 f, .int .i64 s] 89)) := (Below.alloc (Below.refl w.heap.size w) (by simp <;> omega) (.cells #[.int .u8 (x : Int), .int .i64 f, .int .i64 s] 89))
    have hk := Blk.new w 89 #[.int .u8 (x : Int), .int .i64 f, .int .i64 s]
    go_enter Try.func81, Try.ntmps81
    have z1 : (w.alloc (.cells #[.int .u8 (x : Int), .int .i64 f, .int .i64 s] 89)).cell? ⟨w.heap.size, 0, none⟩ = some (.int .u8 (x : Int)) := (hk.cell 0).trans rfl
    have z2 := hk.frozen 0
    have z3 : (w.alloc (.cells #[.int .u8 (x : Int), .int .i64 f, .int .i64 s] 89)).cell? ⟨w.heap.size, 1, none⟩ = some (.int .i64 f) := (hk.cell 1).trans rfl
    have z4 := hk.frozen 1
    have z5 : (w.alloc (.cells #[.int .u8 (x : Int), .int .i64 f, .int .i64 s] 89)).cell? ⟨w.heap.size, 2, none⟩ = some (.int .i64 s) := (hk.cell 2).trans rfl
    have z6 := hk.frozen 2
    have z7 := hk.lt
    go_wp2_with fail
    go_ret
    exact ⟨by rw [HE.out]; rfl, (by have hs_ := hB.size; repeat (first | with_reducible exact hB | with_reducible (refine Below.setCell ?_ (by simp <;> omega) _) | with_reducible (refine Below.alloc ?_ (by first | exact hs_ | (simp <;> omega)) _) | with_reducible (refine Below.drew ?_)))⟩
  have g9941 := h
  clear h
  by_cases h : 16 ≤ f
  · have HE := Lib.hid (show enB x f s = false from by unfold enB; split <;> (rw [← Bool.not_eq_true]; simp only [Bool.and_eq_true, decide_eq_true_eq]; omega))
    have d : decide (f < 16) = false := by rw [decide_eq_false_iff_not]; omega
    have hB : Below w.heap.size w (w.alloc (.cells #[.int .u8 (x : Int), .int .i64 f, .int .i64 s] 89)) := (Below.alloc (Below.refl w.heap.size w) (by simp <;> omega) (.cells #[.int .u8 (x : Int), .int .i64 f, .int .i64 s] 89))
    have hk := Blk.new w 89 #[.int .u8 (x : Int), .int .i64 f, .int .i64 s]
    go_enter Try.func81, Try.ntmps81
    have z1 : (w.alloc (.cells #[.int .u8 (x : Int), .int .i64 f, .int .i64 s] 89)).cell? ⟨w.heap.size, 0, none⟩ = some (.int .u8 (x : Int)) := (hk.cell 0).trans rfl
    have z2 := hk.frozen 0
    have z3 : (w.alloc (.cells #[.int .u8 (x : Int), .int .i64 f, .int .i64 s] 89)).cell? ⟨w.heap.size, 1, none⟩ = some (.int .i64 f) := (hk.cell 1).trans rfl
    have z4 := hk.frozen 1
    have z5 : (w.alloc (.cells #[.int .u8 (x : Int), .int .i64 f, .int .i64 s] 89)).cell? ⟨w.heap.size, 2, none⟩ = some (.int .i64 s) := (hk.cell 2).trans rfl
    have z6 := hk.frozen 2
    have z7 := hk.lt
    go_wp2_with fail
    go_ret
    exact ⟨by rw [HE.out]; rfl, (by have hs_ := hB.size; repeat (first | with_reducible exact hB | with_reducible (refine Below.setCell ?_ (by simp <;> omega) _) | with_reducible (refine Below.alloc ?_ (by first | exact hs_ | (simp <;> omega)) _) | with_reducible (refine Below.drew ?_)))⟩
  have g11541 := h
  clear h
  have HE := Lib.hid (show enB x f s = true from by unfold enB; split <;> (simp only [Bool.and_eq_true, decide_eq_true_eq]; omega))
  have d : decide (f < 16) = true := by rw [decide_eq_true_eq]; omega
  have hB : Below w.heap.size w (w.alloc (.cells #[.int .u8 (x : Int), .int .i64 f, .int .i64 s] 89)) := (Below.alloc (Below.refl w.heap.size w) (by simp <;> omega) (.cells #[.int .u8 (x : Int), .int .i64 f, .int .i64 s] 89))
  have hk := Blk.new w 89 #[.int .u8 (x : Int), .int .i64 f, .int .i64 s]
  go_enter Try.func81, Try.ntmps81
  have z1 : (w.alloc (.cells #[.int .u8 (x : Int), .int .i64 f, .int .i64 s] 89)).cell? ⟨w.heap.size, 0, none⟩ = some (.int .u8 (x : Int)) := (hk.cell 0).trans rfl
  have z2 := hk.frozen 0
  have z3 : (w.alloc (.cells #[.int .u8 (x : Int), .int .i64 f, .int .i64 s] 89)).cell? ⟨w.heap.size, 1, none⟩ = some (.int .i64 f) := (hk.cell 1).trans rfl
  have z4 := hk.frozen 1
  have z5 : (w.alloc (.cells #[.int .u8 (x : Int), .int .i64 f, .int .i64 s] 89)).cell? ⟨w.heap.size, 2, none⟩ = some (.int .i64 s) := (hk.cell 2).trans rfl
  have z6 := hk.frozen 2
  have z7 := hk.lt
  go_wp2_with fail
  go_ret
  exact ⟨by rw [HE.out]; rfl, (by have hs_ := hB.size; repeat (first | with_reducible exact hB | with_reducible (refine Below.setCell ?_ (by simp <;> omega) _) | with_reducible (refine Below.alloc ?_ (by first | exact hs_ | (simp <;> omega)) _) | with_reducible (refine Below.drew ?_)))⟩

end Go.Proofs.Ytldaijkcmnnjpaa
