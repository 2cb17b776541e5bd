/- The contract of the reference's Head. It states its conditions. -/
import Derived.Test.YtljpggebpfpelaaHd5
namespace Go.Proofs.Ytljpggebpfpelaa
open Go.RowKit Wire
set_option linter.unusedVariables false

set_option maxRecDepth 100000 in
set_option maxHeartbeats 3200000 in
theorem head27_any (g st co sp df pn : Nat) (ky : Int) (w : World) (hg : g ≤ 1000000) (hst : st < 256) (hsp : sp < 18446744073709551616) (hdf : df < 18446744073709551616) (hpn : pn < 18446744073709551616) (hco : co < 18446744073709551616) :
    Calls Try.prog 51 #[.int .i64 (g : Int), rtV st co sp df pn ky] w fun e w' => e = .returned (.bool (hdB g st co sp df pn ky)) ∧ Below w.heap.size w w' := by
  obtain ⟨bs, hbs⟩ : ∃ bs, 16777216 * (g + 1) = bs := ⟨_, rfl⟩
  have HBC := Lib.hid (fun W => rbase27_any g W hg)
  rw [hbs] at HBC
  have hbs2 : bs ≤ 16777216000000000 := by omega
  have hw0 : IntKind.u64.wrap ((bs : Int) + 4096) = (bs : Int) + 4096 := by rw [IntKind.wrap_u64]; omega
  have hB : Below w.heap.size w (w.alloc (.cells #[.int .u8 (st : Int), .int .u64 (co : Int), .int .u64 (sp : Int), .int .u64 (df : Int), .int .u64 (pn : Int), .int .i64 ky] 53)) := (Below.alloc (Below.refl w.heap.size w) (by simp <;> omega) (.cells #[.int .u8 (st : Int), .int .u64 (co : Int), .int .u64 (sp : Int), .int .u64 (df : Int), .int .u64 (pn : Int), .int .i64 ky] 53))
  have hk := Blk.new w 53 #[.int .u8 (st : Int), .int .u64 (co : Int), .int .u64 (sp : Int), .int .u64 (df : Int), .int .u64 (pn : Int), .int .i64 ky]
  go_enter Try.func51, Try.ntmps51
  have z1 : (w.alloc (.cells #[.int .u8 (st : Int), .int .u64 (co : Int), .int .u64 (sp : Int), .int .u64 (df : Int), .int .u64 (pn : Int), .int .i64 ky] 53)).cell? ⟨w.heap.size, 0, none⟩ = some (.int .u8 (st : Int)) := (hk.cell 0).trans rfl
  have z2 := hk.frozen 0
  have z3 : (w.alloc (.cells #[.int .u8 (st : Int), .int .u64 (co : Int), .int .u64 (sp : Int), .int .u64 (df : Int), .int .u64 (pn : Int), .int .i64 ky] 53)).cell? ⟨w.heap.size, 1, none⟩ = some (.int .u64 (co : Int)) := (hk.cell 1).trans rfl
  have z4 := hk.frozen 1
  have z5 : (w.alloc (.cells #[.int .u8 (st : Int), .int .u64 (co : Int), .int .u64 (sp : Int), .int .u64 (df : Int), .int .u64 (pn : Int), .int .i64 ky] 53)).cell? ⟨w.heap.size, 2, none⟩ = some (.int .u64 (sp : Int)) := (hk.cell 2).trans rfl
  have z6 := hk.frozen 2
  have z7 : (w.alloc (.cells #[.int .u8 (st : Int), .int .u64 (co : Int), .int .u64 (sp : Int), .int .u64 (df : Int), .int .u64 (pn : Int), .int .i64 ky] 53)).cell? ⟨w.heap.size, 3, none⟩ = some (.int .u64 (df : Int)) := (hk.cell 3).trans rfl
  have z8 := hk.frozen 3
  have z9 : (w.alloc (.cells #[.int .u8 (st : Int), .int .u64 (co : Int), .int .u64 (sp : Int), .int .u64 (df : Int), .int .u64 (pn : Int), .int .i64 ky] 53)).cell? ⟨w.heap.size, 4, none⟩ = some (.int .u64 (pn : Int)) := (hk.cell 4).trans rfl
  have z10 := hk.frozen 4
  have z11 : (w.alloc (.cells #[.int .u8 (st : Int), .int .u64 (co : Int), .int .u64 (sp : Int), .int .u64 (df : Int), .int .u64 (pn : Int), .int .i64 ky] 53)).cell? ⟨w.heap.size, 5, none⟩ = some (.int .i64 ky) := (hk.cell 5).trans rfl
  have z12 := hk.frozen 5
  have z13 := hk.lt
  go_wp2_with fail
  refine (HBC.out _).mono ?_
  rintro e wq ⟨rfl, rfl⟩
  clear z1 z2 z3 z4 z5 z6 z7 z8 z9 z10 z11 z12 z13
  generalize (w.alloc (.cells #[.int .u8 (st : Int), .int .u64 (co : Int), .int .u64 (sp : Int), .int .u64 (df : Int), .int .u64 (pn : Int), .int .i64 ky] 53)) = x1 at *
  by_cases h1 : st = 0
  · have d1 : decide ((st : Int) < 1) = true := by simp; omega
    have e1 : (st : Int) < 1 := by omega
    have HE := Lib.hid (show hdB g st co sp df pn ky = false from by unfold hdB; rw [← Bool.not_eq_true]; simp only [Bool.and_eq_true, decide_eq_true_eq]; rw [hbs]; omega)
    clear h1
    have z14 : x1.cell? ⟨w.heap.size, 0, none⟩ = some (.int .u8 (st : Int)) := (hk.cell 0).trans rfl
    have z15 := hk.frozen 0
    have z16 : x1.cell? ⟨w.heap.size, 1, none⟩ = some (.int .u64 (co : Int)) := (hk.cell 1).trans rfl
    have z17 := hk.frozen 1
    have z18 : x1.cell? ⟨w.heap.size, 2, none⟩ = some (.int .u64 (sp : Int)) := (hk.cell 2).trans rfl
    have z19 := hk.frozen 2
    have z20 : x1.cell? ⟨w.heap.size, 3, none⟩ = some (.int .u64 (df : Int)) := (hk.cell 3).trans rfl
    have z21 := hk.frozen 3
    have z22 : x1.cell? ⟨w.heap.size, 4, none⟩ = some (.int .u64 (pn : Int)) := (hk.cell 4).trans rfl
    have z23 := hk.frozen 4
    have z24 : x1.cell? ⟨w.heap.size, 5, none⟩ = some (.int .i64 ky) := (hk.cell 5).trans rfl
    have z25 := hk.frozen 5
    have z26 := hk.lt
    go_wp2_with fail
    go_ret
    exact ⟨by rw [HE.out]; rfl, (by have hs_ := hB.size; repeat (first | with_reducible exact hB | with_reducible (refine Below.setCell ?_ (by simp <;> omega) _) | with_reducible (refine Below.alloc ?_ (by first | exact hs_ | (simp <;> omega)) _) | with_reducible (refine Below.drew ?_)))⟩
  have d1 : decide ((st : Int) < 1) = false := by simp; omega
  by_cases h2 : 3 < st
  · have d2 : decide ((st : Int) > 3) = true := by simp; omega
    have e2 : (3 : Int) < st := by omega
    have HE := Lib.hid (show hdB g st co sp df pn ky = false from by unfold hdB; rw [← Bool.not_eq_true]; simp only [Bool.and_eq_true, decide_eq_true_eq]; rw [hbs]; omega)
    clear h2
    have z14 : x1.cell? ⟨w.heap.size, 0, none⟩ = some (.int .u8 (st : Int)) := (hk.cell 0).trans rfl
    have z15 := hk.frozen 0
    have z16 : x1.cell? ⟨w.heap.size, 1, none⟩ = some (.int .u64 (co : Int)) := (hk.cell 1).trans rfl
    have z17 := hk.frozen 1
    have z18 : x1.cell? ⟨w.heap.size, 2, none⟩ = some (.int .u64 (sp : Int)) := (hk.cell 2).trans rfl
    have z19 := hk.frozen 2
    have z20 : x1.cell? ⟨w.heap.size, 3, none⟩ = some (.int .u64 (df : Int)) := (hk.cell 3).trans rfl
    have z21 := hk.frozen 3
    have z22 : x1.cell? ⟨w.heap.size, 4, none⟩ = some (.int .u64 (pn : Int)) := (hk.cell 4).trans rfl
    have z23 := hk.frozen 4
    have z24 : x1.cell? ⟨w.heap.size, 5, none⟩ = some (.int .i64 ky) := (hk.cell 5).trans rfl
    have z25 := hk.frozen 5
    have z26 := hk.lt
    go_wp2_with fail
    go_ret
    exact ⟨by rw [HE.out]; rfl, (by have hs_ := hB.size; repeat (first | with_reducible exact hB | with_reducible (refine Below.setCell ?_ (by simp <;> omega) _) | with_reducible (refine Below.alloc ?_ (by first | exact hs_ | (simp <;> omega)) _) | with_reducible (refine Below.drew ?_)))⟩
  have d2 : decide ((st : Int) > 3) = false := by simp; omega
  by_cases h3 : sp < bs
  · have d3 : decide ((sp : Int) < (bs : Int)) = true := by simp; omega
    have e3 : (sp : Int) < bs := by omega
    have HE := Lib.hid (show hdB g st co sp df pn ky = false from by unfold hdB; rw [← Bool.not_eq_true]; simp only [Bool.and_eq_true, decide_eq_true_eq]; rw [hbs]; omega)
    clear h3
    have z14 : x1.cell? ⟨w.heap.size, 0, none⟩ = some (.int .u8 (st : Int)) := (hk.cell 0).trans rfl
    have z15 := hk.frozen 0
    have z16 : x1.cell? ⟨w.heap.size, 1, none⟩ = some (.int .u64 (co : Int)) := (hk.cell 1).trans rfl
    have z17 := hk.frozen 1
    have z18 : x1.cell? ⟨w.heap.size, 2, none⟩ = some (.int .u64 (sp : Int)) := (hk.cell 2).trans rfl
    have z19 := hk.frozen 2
    have z20 : x1.cell? ⟨w.heap.size, 3, none⟩ = some (.int .u64 (df : Int)) := (hk.cell 3).trans rfl
    have z21 := hk.frozen 3
    have z22 : x1.cell? ⟨w.heap.size, 4, none⟩ = some (.int .u64 (pn : Int)) := (hk.cell 4).trans rfl
    have z23 := hk.frozen 4
    have z24 : x1.cell? ⟨w.heap.size, 5, none⟩ = some (.int .i64 ky) := (hk.cell 5).trans rfl
    have z25 := hk.frozen 5
    have z26 := hk.lt
    go_wp2_with fail
    go_ret
    exact ⟨by rw [HE.out]; rfl, (by have hs_ := hB.size; repeat (first | with_reducible exact hB | with_reducible (refine Below.setCell ?_ (by simp <;> omega) _) | with_reducible (refine Below.alloc ?_ (by first | exact hs_ | (simp <;> omega)) _) | with_reducible (refine Below.drew ?_)))⟩
  have d3 : decide ((sp : Int) < (bs : Int)) = false := by simp; omega
  by_cases h4 : bs + 4096 < sp
  · have d4 : decide ((sp : Int) > (bs : Int) + 4096) = true := by simp; omega
    have e4 : (bs : Int) + 4096 < sp := by omega
    have HE := Lib.hid (show hdB g st co sp df pn ky = false from by unfold hdB; rw [← Bool.not_eq_true]; simp only [Bool.and_eq_true, decide_eq_true_eq]; rw [hbs]; omega)
    clear h4
    have z14 : x1.cell? ⟨w.heap.size, 0, none⟩ = some (.int .u8 (st : Int)) := (hk.cell 0).trans rfl
    have z15 := hk.frozen 0
    have z16 : x1.cell? ⟨w.heap.size, 1, none⟩ = some (.int .u64 (co : Int)) := (hk.cell 1).trans rfl
    have z17 := hk.frozen 1
    have z18 : x1.cell? ⟨w.heap.size, 2, none⟩ = some (.int .u64 (sp : Int)) := (hk.cell 2).trans rfl
    have z19 := hk.frozen 2
    have z20 : x1.cell? ⟨w.heap.size, 3, none⟩ = some (.int .u64 (df : Int)) := (hk.cell 3).trans rfl
    have z21 := hk.frozen 3
    have z22 : x1.cell? ⟨w.heap.size, 4, none⟩ = some (.int .u64 (pn : Int)) := (hk.cell 4).trans rfl
    have z23 := hk.frozen 4
    have z24 : x1.cell? ⟨w.heap.size, 5, none⟩ = some (.int .i64 ky) := (hk.cell 5).trans rfl
    have z25 := hk.frozen 5
    have z26 := hk.lt
    go_wp2_with fail
    go_ret
    exact ⟨by rw [HE.out]; rfl, (by have hs_ := hB.size; repeat (first | with_reducible exact hB | with_reducible (refine Below.setCell ?_ (by simp <;> omega) _) | with_reducible (refine Below.alloc ?_ (by first | exact hs_ | (simp <;> omega)) _) | with_reducible (refine Below.drew ?_)))⟩
  have d4 : decide ((sp : Int) > (bs : Int) + 4096) = false := by simp; omega
  by_cases h5 : sp % 8 ≠ 0
  · have d5 : ((sp : Int) % 8 != 0) = true := by rw [bne_iff_ne]; omega
    have HE := Lib.hid (show hdB g st co sp df pn ky = false from by unfold hdB; rw [← Bool.not_eq_true]; simp only [Bool.and_eq_true, decide_eq_true_eq]; rw [hbs]; omega)
    clear h5
    have z14 : x1.cell? ⟨w.heap.size, 0, none⟩ = some (.int .u8 (st : Int)) := (hk.cell 0).trans rfl
    have z15 := hk.frozen 0
    have z16 : x1.cell? ⟨w.heap.size, 1, none⟩ = some (.int .u64 (co : Int)) := (hk.cell 1).trans rfl
    have z17 := hk.frozen 1
    have z18 : x1.cell? ⟨w.heap.size, 2, none⟩ = some (.int .u64 (sp : Int)) := (hk.cell 2).trans rfl
    have z19 := hk.frozen 2
    have z20 : x1.cell? ⟨w.heap.size, 3, none⟩ = some (.int .u64 (df : Int)) := (hk.cell 3).trans rfl
    have z21 := hk.frozen 3
    have z22 : x1.cell? ⟨w.heap.size, 4, none⟩ = some (.int .u64 (pn : Int)) := (hk.cell 4).trans rfl
    have z23 := hk.frozen 4
    have z24 : x1.cell? ⟨w.heap.size, 5, none⟩ = some (.int .i64 ky) := (hk.cell 5).trans rfl
    have z25 := hk.frozen 5
    have z26 := hk.lt
    go_wp2_with fail
    go_ret
    exact ⟨by rw [HE.out]; rfl, (by have hs_ := hB.size; repeat (first | with_reducible exact hB | with_reducible (refine Below.setCell ?_ (by simp <;> omega) _) | with_reducible (refine Below.alloc ?_ (by first | exact hs_ | (simp <;> omega)) _) | with_reducible (refine Below.drew ?_)))⟩
  have d5 : ((sp : Int) % 8 != 0) = false := by simp; omega
  by_cases h6 : df % 8 ≠ 0
  · have d6 : ((df : Int) % 8 != 0) = true := by rw [bne_iff_ne]; omega
    have HE := Lib.hid (show hdB g st co sp df pn ky = false from by unfold hdB; rw [← Bool.not_eq_true]; simp only [Bool.and_eq_true, decide_eq_true_eq]; rw [hbs]; omega)
    clear h6
    have z14 : x1.cell? ⟨w.heap.size, 0, none⟩ = some (.int .u8 (st : Int)) := (hk.cell 0).trans rfl
    have z15 := hk.frozen 0
    have z16 : x1.cell? ⟨w.heap.size, 1, none⟩ = some (.int .u64 (co : Int)) := (hk.cell 1).trans rfl
    have z17 := hk.frozen 1
    have z18 : x1.cell? ⟨w.heap.size, 2, none⟩ = some (.int .u64 (sp : Int)) := (hk.cell 2).trans rfl
    have z19 := hk.frozen 2
    have z20 : x1.cell? ⟨w.heap.size, 3, none⟩ = some (.int .u64 (df : Int)) := (hk.cell 3).trans rfl
    have z21 := hk.frozen 3
    have z22 : x1.cell? ⟨w.heap.size, 4, none⟩ = some (.int .u64 (pn : Int)) := (hk.cell 4).trans rfl
    have z23 := hk.frozen 4
    have z24 : x1.cell? ⟨w.heap.size, 5, none⟩ = some (.int .i64 ky) := (hk.cell 5).trans rfl
    have z25 := hk.frozen 5
    have z26 := hk.lt
    go_wp2_with fail
    go_ret
    exact ⟨by rw [HE.out]; rfl, (by have hs_ := hB.size; repeat (first | with_reducible exact hB | with_reducible (refine Below.setCell ?_ (by simp <;> omega) _) | with_reducible (refine Below.alloc ?_ (by first | exact hs_ | (simp <;> omega)) _) | with_reducible (refine Below.drew ?_)))⟩
  have d6 : ((df : Int) % 8 != 0) = false := by simp; omega
  by_cases h7 : pn % 8 ≠ 0
  · have d7 : ((pn : Int) % 8 != 0) = true := by rw [bne_iff_ne]; omega
    have HE := Lib.hid (show hdB g st co sp df pn ky = false from by unfold hdB; rw [← Bool.not_eq_true]; simp only [Bool.and_eq_true, decide_eq_true_eq]; rw [hbs]; omega)
    clear h7
    have z14 : x1.cell? ⟨w.heap.size, 0, none⟩ = some (.int .u8 (st : Int)) := (hk.cell 0).trans rfl
    have z15 := hk.frozen 0
    have z16 : x1.cell? ⟨w.heap.size, 1, none⟩ = some (.int .u64 (co : Int)) := (hk.cell 1).trans rfl
    have z17 := hk.frozen 1
    have z18 : x1.cell? ⟨w.heap.size, 2, none⟩ = some (.int .u64 (sp : Int)) := (hk.cell 2).trans rfl
    have z19 := hk.frozen 2
    have z20 : x1.cell? ⟨w.heap.size, 3, none⟩ = some (.int .u64 (df : Int)) := (hk.cell 3).trans rfl
    have z21 := hk.frozen 3
    have z22 : x1.cell? ⟨w.heap.size, 4, none⟩ = some (.int .u64 (pn : Int)) := (hk.cell 4).trans rfl
    have z23 := hk.frozen 4
    have z24 : x1.cell? ⟨w.heap.size, 5, none⟩ = some (.int .i64 ky) := (hk.cell 5).trans rfl
    have z25 := hk.frozen 5
    have z26 := hk.lt
    go_wp2_with fail
    go_ret
    exact ⟨by rw [HE.out]; rfl, (by have hs_ := hB.size; repeat (first | with_reducible exact hB | with_reducible (refine Below.setCell ?_ (by simp <;> omega) _) | with_reducible (refine Below.alloc ?_ (by first | exact hs_ | (simp <;> omega)) _) | with_reducible (refine Below.drew ?_)))⟩
  have d7 : ((pn : Int) % 8 != 0) = false := by simp; omega
  by_cases e8 : ky = 0
  rotate_left
  · by_cases e9 : st = 2
    rotate_left
    · have d8 : (ky != 0) = true := by rw [bne_iff_ne]; exact e8
      have d9 : ((st : Int) != 2) = true := by rw [bne_iff_ne]; omega
      have HE := Lib.hid (show hdB g st co sp df pn ky = false from by unfold hdB; rw [← Bool.not_eq_true]; simp only [Bool.and_eq_true, decide_eq_true_eq]; rw [hbs]; first | omega | (split <;> simp only [decide_eq_true_eq] <;> omega))
      clear e9
      have z14 : x1.cell? ⟨w.heap.size, 0, none⟩ = some (.int .u8 (st : Int)) := (hk.cell 0).trans rfl
      have z15 := hk.frozen 0
      have z16 : x1.cell? ⟨w.heap.size, 1, none⟩ = some (.int .u64 (co : Int)) := (hk.cell 1).trans rfl
      have z17 := hk.frozen 1
      have z18 : x1.cell? ⟨w.heap.size, 2, none⟩ = some (.int .u64 (sp : Int)) := (hk.cell 2).trans rfl
      have z19 := hk.frozen 2
      have z20 : x1.cell? ⟨w.heap.size, 3, none⟩ = some (.int .u64 (df : Int)) := (hk.cell 3).trans rfl
      have z21 := hk.frozen 3
      have z22 : x1.cell? ⟨w.heap.size, 4, none⟩ = some (.int .u64 (pn : Int)) := (hk.cell 4).trans rfl
      have z23 := hk.frozen 4
      have z24 : x1.cell? ⟨w.heap.size, 5, none⟩ = some (.int .i64 ky) := (hk.cell 5).trans rfl
      have z25 := hk.frozen 5
      have z26 := hk.lt
      go_wp2_with fail
      go_ret
      exact ⟨by rw [HE.out]; rfl, (by have hs_ := hB.size; repeat (first | with_reducible exact hB | with_reducible (refine Below.setCell ?_ (by simp <;> omega) _) | with_reducible (refine Below.alloc ?_ (by first | exact hs_ | (simp <;> omega)) _) | with_reducible (refine Below.drew ?_)))⟩
    have d8 : (ky != 0) = true := by rw [bne_iff_ne]; exact e8
    have d9 : ((st : Int) != 2) = false := by simp; omega
    have d10 : ((st : Int) != 3) = true := by rw [bne_iff_ne]; omega
    have HE := Lib.hid (show hdB g st co sp df pn ky = true from by unfold hdB; simp only [Bool.and_eq_true, decide_eq_true_eq]; rw [hbs]; split <;> simp only [decide_eq_true_eq] <;> omega)
    clear e9
    have z14 : x1.cell? ⟨w.heap.size, 0, none⟩ = some (.int .u8 (st : Int)) := (hk.cell 0).trans rfl
    have z15 := hk.frozen 0
    have z16 : x1.cell? ⟨w.heap.size, 1, none⟩ = some (.int .u64 (co : Int)) := (hk.cell 1).trans rfl
    have z17 := hk.frozen 1
    have z18 : x1.cell? ⟨w.heap.size, 2, none⟩ = some (.int .u64 (sp : Int)) := (hk.cell 2).trans rfl
    have z19 := hk.frozen 2
    have z20 : x1.cell? ⟨w.heap.size, 3, none⟩ = some (.int .u64 (df : Int)) := (hk.cell 3).trans rfl
    have z21 := hk.frozen 3
    have z22 : x1.cell? ⟨w.heap.size, 4, none⟩ = some (.int .u64 (pn : Int)) := (hk.cell 4).trans rfl
    have z23 := hk.frozen 4
    have z24 : x1.cell? ⟨w.heap.size, 5, none⟩ = some (.int .i64 ky) := (hk.cell 5).trans rfl
    have z25 := hk.frozen 5
    have z26 := hk.lt
    go_wp2_with fail
    go_ret
    exact ⟨by rw [HE.out]; rfl, (by have hs_ := hB.size; repeat (first | with_reducible exact hB | with_reducible (refine Below.setCell ?_ (by simp <;> omega) _) | with_reducible (refine Below.alloc ?_ (by first | exact hs_ | (simp <;> omega)) _) | with_reducible (refine Below.drew ?_)))⟩
  have d8 : (ky != 0) = false := by rw [bne_eq_false_iff_eq]; exact e8
  by_cases e9 : st = 3
  rotate_left
  · have d10 : ((st : Int) != 3) = true := by rw [bne_iff_ne]; omega
    have HE := Lib.hid (show hdB g st co sp df pn ky = true from by unfold hdB; simp only [Bool.and_eq_true, decide_eq_true_eq]; rw [hbs]; split <;> simp only [decide_eq_true_eq] <;> omega)
    clear e9
    have z14 : x1.cell? ⟨w.heap.size, 0, none⟩ = some (.int .u8 (st : Int)) := (hk.cell 0).trans rfl
    have z15 := hk.frozen 0
    have z16 : x1.cell? ⟨w.heap.size, 1, none⟩ = some (.int .u64 (co : Int)) := (hk.cell 1).trans rfl
    have z17 := hk.frozen 1
    have z18 : x1.cell? ⟨w.heap.size, 2, none⟩ = some (.int .u64 (sp : Int)) := (hk.cell 2).trans rfl
    have z19 := hk.frozen 2
    have z20 : x1.cell? ⟨w.heap.size, 3, none⟩ = some (.int .u64 (df : Int)) := (hk.cell 3).trans rfl
    have z21 := hk.frozen 3
    have z22 : x1.cell? ⟨w.heap.size, 4, none⟩ = some (.int .u64 (pn : Int)) := (hk.cell 4).trans rfl
    have z23 := hk.frozen 4
    have z24 : x1.cell? ⟨w.heap.size, 5, none⟩ = some (.int .i64 ky) := (hk.cell 5).trans rfl
    have z25 := hk.frozen 5
    have z26 := hk.lt
    go_wp2_with fail
    go_ret
    exact ⟨by rw [HE.out]; rfl, (by have hs_ := hB.size; repeat (first | with_reducible exact hB | with_reducible (refine Below.setCell ?_ (by simp <;> omega) _) | with_reducible (refine Below.alloc ?_ (by first | exact hs_ | (simp <;> omega)) _) | with_reducible (refine Below.drew ?_)))⟩
  have d10 : ((st : Int) != 3) = false := by simp; omega
  have H9 := Lib.hid e9
  clear e9
  by_cases f0 : (sp : Int) = (bs : Int)
  rotate_left
  · have g0 : ((sp : Int) == (bs : Int)) = false := by rw [beq_eq_false_iff_ne]; omega
    have HE := Lib.hid (show hdB g st co sp df pn ky = false from by have e9 := H9.out; unfold hdB; rw [← Bool.not_eq_true]; simp only [Bool.and_eq_true, decide_eq_true_eq]; rw [hbs]; first | omega | (split <;> simp only [decide_eq_true_eq] <;> omega))
    have z14 : x1.cell? ⟨w.heap.size, 0, none⟩ = some (.int .u8 (st : Int)) := (hk.cell 0).trans rfl
    have z15 := hk.frozen 0
    have z16 : x1.cell? ⟨w.heap.size, 1, none⟩ = some (.int .u64 (co : Int)) := (hk.cell 1).trans rfl
    have z17 := hk.frozen 1
    have z18 : x1.cell? ⟨w.heap.size, 2, none⟩ = some (.int .u64 (sp : Int)) := (hk.cell 2).trans rfl
    have z19 := hk.frozen 2
    have z20 : x1.cell? ⟨w.heap.size, 3, none⟩ = some (.int .u64 (df : Int)) := (hk.cell 3).trans rfl
    have z21 := hk.frozen 3
    have z22 : x1.cell? ⟨w.heap.size, 4, none⟩ = some (.int .u64 (pn : Int)) := (hk.cell 4).trans rfl
    have z23 := hk.frozen 4
    have z24 : x1.cell? ⟨w.heap.size, 5, none⟩ = some (.int .i64 ky) := (hk.cell 5).trans rfl
    have z25 := hk.frozen 5
    have z26 := hk.lt
    go_wp2_with fail
    go_ret
    exact ⟨by rw [HE.out]; rfl, (by have hs_ := hB.size; repeat (first | with_reducible exact hB | with_reducible (refine Below.setCell ?_ (by simp <;> omega) _) | with_reducible (refine Below.alloc ?_ (by first | exact hs_ | (simp <;> omega)) _) | with_reducible (refine Below.drew ?_)))⟩
  have g0 : ((sp : Int) == (bs : Int)) = true := by rw [beq_iff_eq]; omega
  by_cases f1 : co = 0
  rotate_left
  · have g1 : ((co : Int) == 0) = false := by rw [beq_eq_false_iff_ne]; omega
    have HE := Lib.hid (show hdB g st co sp df pn ky = false from by have e9 := H9.out; unfold hdB; rw [← Bool.not_eq_true]; simp only [Bool.and_eq_true, decide_eq_true_eq]; rw [hbs]; first | omega | (split <;> simp only [decide_eq_true_eq] <;> omega))
    have z14 : x1.cell? ⟨w.heap.size, 0, none⟩ = some (.int .u8 (st : Int)) := (hk.cell 0).trans rfl
    have z15 := hk.frozen 0
    have z16 : x1.cell? ⟨w.heap.size, 1, none⟩ = some (.int .u64 (co : Int)) := (hk.cell 1).trans rfl
    have z17 := hk.frozen 1
    have z18 : x1.cell? ⟨w.heap.size, 2, none⟩ = some (.int .u64 (sp : Int)) := (hk.cell 2).trans rfl
    have z19 := hk.frozen 2
    have z20 : x1.cell? ⟨w.heap.size, 3, none⟩ = some (.int .u64 (df : Int)) := (hk.cell 3).trans rfl
    have z21 := hk.frozen 3
    have z22 : x1.cell? ⟨w.heap.size, 4, none⟩ = some (.int .u64 (pn : Int)) := (hk.cell 4).trans rfl
    have z23 := hk.frozen 4
    have z24 : x1.cell? ⟨w.heap.size, 5, none⟩ = some (.int .i64 ky) := (hk.cell 5).trans rfl
    have z25 := hk.frozen 5
    have z26 := hk.lt
    go_wp2_with fail
    go_ret
    exact ⟨by rw [HE.out]; rfl, (by have hs_ := hB.size; repeat (first | with_reducible exact hB | with_reducible (refine Below.setCell ?_ (by simp <;> omega) _) | with_reducible (refine Below.alloc ?_ (by first | exact hs_ | (simp <;> omega)) _) | with_reducible (refine Below.drew ?_)))⟩
  have g1 : ((co : Int) == 0) = true := by rw [beq_iff_eq]; omega
  by_cases f2 : df = 0
  rotate_left
  · have g2 : ((df : Int) == 0) = false := by rw [beq_eq_false_iff_ne]; omega
    have HE := Lib.hid (show hdB g st co sp df pn ky = false from by have e9 := H9.out; unfold hdB; rw [← Bool.not_eq_true]; simp only [Bool.and_eq_true, decide_eq_true_eq]; rw [hbs]; first | omega | (split <;> simp only [decide_eq_true_eq] <;> omega))
    have z14 : x1.cell? ⟨w.heap.size, 0, none⟩ = some (.int .u8 (st : Int)) := (hk.cell 0).trans rfl
    have z15 := hk.frozen 0
    have z16 : x1.cell? ⟨w.heap.size, 1, none⟩ = some (.int .u64 (co : Int)) := (hk.cell 1).trans rfl
    have z17 := hk.frozen 1
    have z18 : x1.cell? ⟨w.heap.size, 2, none⟩ = some (.int .u64 (sp : Int)) := (hk.cell 2).trans rfl
    have z19 := hk.frozen 2
    have z20 : x1.cell? ⟨w.heap.size, 3, none⟩ = some (.int .u64 (df : Int)) := (hk.cell 3).trans rfl
    have z21 := hk.frozen 3
    have z22 : x1.cell? ⟨w.heap.size, 4, none⟩ = some (.int .u64 (pn : Int)) := (hk.cell 4).trans rfl
    have z23 := hk.frozen 4
    have z24 : x1.cell? ⟨w.heap.size, 5, none⟩ = some (.int .i64 ky) := (hk.cell 5).trans rfl
    have z25 := hk.frozen 5
    have z26 := hk.lt
    go_wp2_with fail
    go_ret
    exact ⟨by rw [HE.out]; rfl, (by have hs_ := hB.size; repeat (first | with_reducible exact hB | with_reducible (refine Below.setCell ?_ (by simp <;> omega) _) | with_reducible (refine Below.alloc ?_ (by first | exact hs_ | (simp <;> omega)) _) | with_reducible (refine Below.drew ?_)))⟩
  have g2 : ((df : Int) == 0) = true := by rw [beq_iff_eq]; omega
  by_cases f3 : pn = 0
  rotate_left
  · have g3 : ((pn : Int) == 0) = false := by rw [beq_eq_false_iff_ne]; omega
    have HE := Lib.hid (show hdB g st co sp df pn ky = false from by have e9 := H9.out; unfold hdB; rw [← Bool.not_eq_true]; simp only [Bool.and_eq_true, decide_eq_true_eq]; rw [hbs]; first | omega | (split <;> simp only [decide_eq_true_eq] <;> omega))
    have z14 : x1.cell? ⟨w.heap.size, 0, none⟩ = some (.int .u8 (st : Int)) := (hk.cell 0).trans rfl
    have z15 := hk.frozen 0
    have z16 : x1.cell? ⟨w.heap.size, 1, none⟩ = some (.int .u64 (co : Int)) := (hk.cell 1).trans rfl
    have z17 := hk.frozen 1
    have z18 : x1.cell? ⟨w.heap.size, 2, none⟩ = some (.int .u64 (sp : Int)) := (hk.cell 2).trans rfl
    have z19 := hk.frozen 2
    have z20 : x1.cell? ⟨w.heap.size, 3, none⟩ = some (.int .u64 (df : Int)) := (hk.cell 3).trans rfl
    have z21 := hk.frozen 3
    have z22 : x1.cell? ⟨w.heap.size, 4, none⟩ = some (.int .u64 (pn : Int)) := (hk.cell 4).trans rfl
    have z23 := hk.frozen 4
    have z24 : x1.cell? ⟨w.heap.size, 5, none⟩ = some (.int .i64 ky) := (hk.cell 5).trans rfl
    have z25 := hk.frozen 5
    have z26 := hk.lt
    go_wp2_with fail
    go_ret
    exact ⟨by rw [HE.out]; rfl, (by have hs_ := hB.size; repeat (first | with_reducible exact hB | with_reducible (refine Below.setCell ?_ (by simp <;> omega) _) | with_reducible (refine Below.alloc ?_ (by first | exact hs_ | (simp <;> omega)) _) | with_reducible (refine Below.drew ?_)))⟩
  have g3 : ((pn : Int) == 0) = true := by rw [beq_iff_eq]; omega
  have HE := Lib.hid (show hdB g st co sp df pn ky = true from by have e9 := H9.out; unfold hdB; simp only [Bool.and_eq_true, decide_eq_true_eq]; rw [hbs]; split <;> simp only [decide_eq_true_eq] <;> omega)
  have z14 : x1.cell? ⟨w.heap.size, 0, none⟩ = some (.int .u8 (st : Int)) := (hk.cell 0).trans rfl
  have z15 := hk.frozen 0
  have z16 : x1.cell? ⟨w.heap.size, 1, none⟩ = some (.int .u64 (co : Int)) := (hk.cell 1).trans rfl
  have z17 := hk.frozen 1
  have z18 : x1.cell? ⟨w.heap.size, 2, none⟩ = some (.int .u64 (sp : Int)) := (hk.cell 2).trans rfl
  have z19 := hk.frozen 2
  have z20 : x1.cell? ⟨w.heap.size, 3, none⟩ = some (.int .u64 (df : Int)) := (hk.cell 3).trans rfl
  have z21 := hk.frozen 3
  have z22 : x1.cell? ⟨w.heap.size, 4, none⟩ = some (.int .u64 (pn : Int)) := (hk.cell 4).trans rfl
  have z23 := hk.frozen 4
  have z24 : x1.cell? ⟨w.heap.size, 5, none⟩ = some (.int .i64 ky) := (hk.cell 5).trans rfl
  have z25 := hk.frozen 5
  have z26 := hk.lt
  go_wp2_with fail
  go_ret
  exact ⟨by rw [HE.out]; rfl, (by have hs_ := hB.size; repeat (first | with_reducible exact hB | with_reducible (refine Below.setCell ?_ (by simp <;> omega) _) | with_reducible (refine Below.alloc ?_ (by first | exact hs_ | (simp <;> omega)) _) | with_reducible (refine Below.drew ?_)))⟩

end Go.Proofs.Ytljpggebpfpelaa
