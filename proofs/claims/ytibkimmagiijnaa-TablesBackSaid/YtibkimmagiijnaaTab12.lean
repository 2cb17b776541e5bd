/- The contract of the reference's Decode. -/
import Derived.Test.YtibkimmagiijnaaTab11
namespace Go.Proofs.Ytibkimmagiijnaa
open Go.RowKit Wire
set_option linter.unusedVariables false

set_option maxRecDepth 100000 in
set_option maxHeartbeats 8000000 in
theorem redecode8_any (A : Option Addr) (n c : Nat) (l : List UInt8) (a k : Int) (w : World) (hr : Rb w A n l) (hc : n ≤ c ∧ c ≤ 9223372036854775807) (ha : -9223372036854775808 ≤ a ∧ a ≤ 9223372036854775807) (hk : -9223372036854775808 ≤ k ∧ k ≤ 9223372036854775807) :
    Calls Try.prog 24 #[cur A n c a, .int .i64 k] w fun e w' => DcP w A n c l a k e w' := by
  have HL := Lib.hid hr.len8
  cases hck : ckB n a
  · have HC := Lib.hid (show ckE n a = 8 from by simp [ckE, hck])
    have HE := Lib.hid (show dcE l a k = 8 from by unfold dcE; rw [HL.out, hck]; rfl)
    have HV := Lib.hid (dc_bad A n c HE.out (by decide))
    clear hck
    have hB : Below w.heap.size w ((w.alloc (.cells #[.slice A n c, .int .i64 a] 49)).alloc (.cells #[.slice none 0 0, .int .i64 0] 49)) := Below.alloc (Below.alloc (Below.refl w.heap.size w) (Nat.le_refl _) (.cells #[.slice A n c, .int .i64 a] 49)) (by simp) (.cells #[.slice none 0 0, .int .i64 0] 49)
    have hc0 := (Blk.new w 49 #[.slice A n c, .int .i64 a]).alloc (.cells #[.slice none 0 0, .int .i64 0] 49)
    have hz := Blk.new (w.alloc (.cells #[.slice A n c, .int .i64 a] 49)) 49 #[.slice none 0 0, .int .i64 0]
    rw [alloc_size] at hz
    go_enter Try.func24, Try.ntmps24
    have z1 : ((w.alloc (.cells #[.slice A n c, .int .i64 a] 49)).alloc (.cells #[.slice none 0 0, .int .i64 0] 49)).cell? ⟨w.heap.size, 0, none⟩ = some (.slice A n c) := (hc0.cell 0).trans rfl
    have z2 : ((w.alloc (.cells #[.slice A n c, .int .i64 a] 49)).alloc (.cells #[.slice none 0 0, .int .i64 0] 49)).cell? ⟨w.heap.size, 1, none⟩ = some (.int .i64 a) := (hc0.cell 1).trans rfl
    have z3 : ((w.alloc (.cells #[.slice A n c, .int .i64 a] 49)).alloc (.cells #[.slice none 0 0, .int .i64 0] 49)).cell? ⟨(w.heap.size + 1), 0, none⟩ = some (.slice none 0 0) := (hz.cell 0).trans rfl
    have z4 : ((w.alloc (.cells #[.slice A n c, .int .i64 a] 49)).alloc (.cells #[.slice none 0 0, .int .i64 0] 49)).cell? ⟨(w.heap.size + 1), 1, none⟩ = some (.int .i64 0) := (hz.cell 1).trans rfl
    go_wp2_with fail
    clear z1 z2 z3 z4
    refine (recheck_any A n c a _).mono ?_
    rintro e w1 ⟨rfl, b⟩
    rw [HC.out]
    replace hc0 := hc0.below b hc0.lt
    replace hz := hz.below b hz.lt
    replace hB := hB.trans (b.mono hB.size)
    clear b
    have z5 : w1.cell? ⟨(w.heap.size + 1), 0, none⟩ = some (.slice none 0 0) := (hz.cell 0).trans rfl
    have z6 := hz.frozen 0
    have z7 : w1.cell? ⟨(w.heap.size + 1), 1, none⟩ = some (.int .i64 0) := (hz.cell 1).trans rfl
    have z8 := hz.frozen 1
    go_wp2_with fail
    refine ret_c2 rfl curT8 rfl (by repeat (first | with_reducible exact hz | with_reducible (apply Blk.set_) | with_reducible (apply Blk.far; case hp => (simp <;> omega)) | with_reducible (apply Blk.alloc) | with_reducible (apply Blk.drew))) (by rfl) ?_
    unfold DcP
    exact ⟨none, 0, by rw [HV.out.1, HV.out.2, HE.out]; rfl, by rw [HV.out.1]; exact World.ownsRow_nil _ _ _ _, (by have hs_ := hB.size; repeat (first | with_reducible exact hB | with_reducible (refine Below.setCell ?_ (by simp <;> omega) _) | with_reducible (refine Below.alloc ?_ (by first | exact hs_ | (simp <;> omega)) _) | with_reducible (refine Below.drew ?_)))⟩
  obtain ⟨g1, g2, g3⟩ := ck_ok hck
  have HC := Lib.hid (show ckE n a = 0 from by simp [ckE, hck])
  have HCK := Lib.hid (show ckB l.length a = true from by rw [HL.out]; exact hck)
  clear hck
  by_cases hk2 : 1 ≤ k ∧ k ≤ 200
  rotate_left
  · have HE := Lib.hid (show dcE l a k = 2 from by unfold dcE; rw [if_pos HCK.out, if_neg hk2])
    have HV := Lib.hid (dc_bad A n c HE.out (by decide))
    have hB : Below w.heap.size w ((w.alloc (.cells #[.slice A n c, .int .i64 a] 49)).alloc (.cells #[.slice none 0 0, .int .i64 0] 49)) := Below.alloc (Below.alloc (Below.refl w.heap.size w) (Nat.le_refl _) (.cells #[.slice A n c, .int .i64 a] 49)) (by simp) (.cells #[.slice none 0 0, .int .i64 0] 49)
    have hc0 := (Blk.new w 49 #[.slice A n c, .int .i64 a]).alloc (.cells #[.slice none 0 0, .int .i64 0] 49)
    have hz := Blk.new (w.alloc (.cells #[.slice A n c, .int .i64 a] 49)) 49 #[.slice none 0 0, .int .i64 0]
    rw [alloc_size] at hz
    go_enter Try.func24, Try.ntmps24
    have z1 : ((w.alloc (.cells #[.slice A n c, .int .i64 a] 49)).alloc (.cells #[.slice none 0 0, .int .i64 0] 49)).cell? ⟨w.heap.size, 0, none⟩ = some (.slice A n c) := (hc0.cell 0).trans rfl
    have z2 : ((w.alloc (.cells #[.slice A n c, .int .i64 a] 49)).alloc (.cells #[.slice none 0 0, .int .i64 0] 49)).cell? ⟨w.heap.size, 1, none⟩ = some (.int .i64 a) := (hc0.cell 1).trans rfl
    have z3 : ((w.alloc (.cells #[.slice A n c, .int .i64 a] 49)).alloc (.cells #[.slice none 0 0, .int .i64 0] 49)).cell? ⟨(w.heap.size + 1), 0, none⟩ = some (.slice none 0 0) := (hz.cell 0).trans rfl
    have z4 : ((w.alloc (.cells #[.slice A n c, .int .i64 a] 49)).alloc (.cells #[.slice none 0 0, .int .i64 0] 49)).cell? ⟨(w.heap.size + 1), 1, none⟩ = some (.int .i64 0) := (hz.cell 1).trans rfl
    go_wp2_with fail
    clear z1 z2 z3 z4
    refine (recheck_any A n c a _).mono ?_
    rintro e w1 ⟨rfl, b⟩
    rw [HC.out]
    replace hc0 := hc0.below b hc0.lt
    replace hz := hz.below b hz.lt
    replace hB := hB.trans (b.mono hB.size)
    clear b
    have z5 : w1.cell? ⟨(w.heap.size + 1), 0, none⟩ = some (.slice none 0 0) := (hz.cell 0).trans rfl
    have z6 := hz.frozen 0
    have z7 : w1.cell? ⟨(w.heap.size + 1), 1, none⟩ = some (.int .i64 0) := (hz.cell 1).trans rfl
    have z8 := hz.frozen 1
    go_wp2_with fail
    all_goals first
      | (exfalso; omega)
      | (refine ret_c2 rfl curT8 rfl (by repeat (first | with_reducible exact hz | with_reducible (apply Blk.set_) | with_reducible (apply Blk.far; case hp => (simp <;> omega)) | with_reducible (apply Blk.alloc) | with_reducible (apply Blk.drew))) (by rfl) ?_
         unfold DcP
         exact ⟨none, 0, by rw [HV.out.1, HV.out.2, HE.out]; rfl, by rw [HV.out.1]; exact World.ownsRow_nil _ _ _ _, (by have hs_ := hB.size; repeat (first | with_reducible exact hB | with_reducible (refine Below.setCell ?_ (by simp <;> omega) _) | with_reducible (refine Below.alloc ?_ (by first | exact hs_ | (simp <;> omega)) _) | with_reducible (refine Below.drew ?_)))⟩)
  obtain ⟨K, rfl⟩ : ∃ K : Nat, k = (K : Int) := ⟨k.toNat, by omega⟩
  obtain ⟨p, rfl⟩ : ∃ p : Nat, a = (p : Int) := ⟨a.toNat, by omega⟩
  have HRD := Lib.hid (fun W (h : Rb W A n l) => reRead8_any A n c l p K W h hc g1 (by omega) (by omega))
  have d1 : decide ((K : Int) < 1) = false := by rw [decide_eq_false_iff_not]; omega
  have d2 : decide ((K : Int) > 200) = false := by rw [decide_eq_false_iff_not]; omega
  by_cases hE : dcE l (p : Int) (K : Int) = 0
  · have HVC := Lib.hid (show dcC A n c l (p : Int) (K : Int) = cur A n c ((dcW l (p : Int)).2.2 : Nat) from by rw [dcC, if_pos hE])
    clear hE
    generalize (dcW l (p : Int)).2.2 = z at *
    have hB : Below w.heap.size w ((w.alloc (.cells #[.slice A n c, .int .i64 (p : Int)] 49)).alloc (.cells #[.slice none 0 0, .int .i64 0] 49)) := Below.alloc (Below.alloc (Below.refl w.heap.size w) (Nat.le_refl _) (.cells #[.slice A n c, .int .i64 (p : Int)] 49)) (by simp) (.cells #[.slice none 0 0, .int .i64 0] 49)
    have hc0 := (Blk.new w 49 #[.slice A n c, .int .i64 (p : Int)]).alloc (.cells #[.slice none 0 0, .int .i64 0] 49)
    have hz := Blk.new (w.alloc (.cells #[.slice A n c, .int .i64 (p : Int)] 49)) 49 #[.slice none 0 0, .int .i64 0]
    rw [alloc_size] at hz
    go_enter Try.func24, Try.ntmps24
    have z1 : ((w.alloc (.cells #[.slice A n c, .int .i64 (p : Int)] 49)).alloc (.cells #[.slice none 0 0, .int .i64 0] 49)).cell? ⟨w.heap.size, 0, none⟩ = some (.slice A n c) := (hc0.cell 0).trans rfl
    have z2 : ((w.alloc (.cells #[.slice A n c, .int .i64 (p : Int)] 49)).alloc (.cells #[.slice none 0 0, .int .i64 0] 49)).cell? ⟨w.heap.size, 1, none⟩ = some (.int .i64 (p : Int)) := (hc0.cell 1).trans rfl
    have z3 : ((w.alloc (.cells #[.slice A n c, .int .i64 (p : Int)] 49)).alloc (.cells #[.slice none 0 0, .int .i64 0] 49)).cell? ⟨(w.heap.size + 1), 0, none⟩ = some (.slice none 0 0) := (hz.cell 0).trans rfl
    have z4 : ((w.alloc (.cells #[.slice A n c, .int .i64 (p : Int)] 49)).alloc (.cells #[.slice none 0 0, .int .i64 0] 49)).cell? ⟨(w.heap.size + 1), 1, none⟩ = some (.int .i64 0) := (hz.cell 1).trans rfl
    go_wp2_with fail
    clear z1 z2 z3 z4
    refine (recheck_any A n c (p : Int) _).mono ?_
    rintro e w1 ⟨rfl, b⟩
    rw [HC.out]
    replace hc0 := hc0.below b hc0.lt
    replace hz := hz.below b hz.lt
    replace hB := hB.trans (b.mono hB.size)
    clear b
    have z5 : w1.cell? ⟨w.heap.size, 0, none⟩ = some (.slice A n c) := (hc0.cell 0).trans rfl
    have z6 : w1.cell? ⟨w.heap.size, 1, none⟩ = some (.int .i64 (p : Int)) := (hc0.cell 1).trans rfl
    go_wp2_with fail
    have H3 := HRD.out _ (hr.mv hB)
    refine H3.mono ?_
    rintro e w4 hq
    unfold DcP at hq
    obtain ⟨A4, c4, rfl, o4, b⟩ := hq
    rw [HVC.out]
    replace hc0 := hc0.below b hc0.lt
    replace hz := hz.below b hz.lt
    have o5 := own_low o4 hB.size
    replace hB := hB.trans (b.mono hB.size)
    clear b H3
    have z7 : w4.cell? ⟨(w.heap.size + 1), 0, none⟩ = some (.slice none 0 0) := (hz.cell 0).trans rfl
    have z8 := hz.frozen 0
    have z9 : w4.cell? ⟨(w.heap.size + 1), 1, none⟩ = some (.int .i64 0) := (hz.cell 1).trans rfl
    have z10 := hz.frozen 1
    go_wp2_with fail
    refine ret_c2 rfl curT8 rfl (by repeat (first | with_reducible exact hz | with_reducible (apply Blk.set_) | with_reducible (apply Blk.far; case hp => (simp <;> omega)) | with_reducible (apply Blk.alloc) | with_reducible (apply Blk.drew))) (by rfl) ?_
    unfold DcP
    exact ⟨A4, c4, by rw [HVC.out]; rfl, own_setNe (own_setNe o5 hz (by decide) 0 _) (hz.set_ 0 _) (by decide) 1 _, (by have hs_ := hB.size; repeat (first | with_reducible exact hB | with_reducible (refine Below.setCell ?_ (by simp <;> omega) _) | with_reducible (refine Below.alloc ?_ (by first | exact hs_ | (simp <;> omega)) _) | with_reducible (refine Below.drew ?_)))⟩
  · have HVC := Lib.hid (show dcC A n c l (p : Int) (K : Int) = cur none 0 0 0 from by rw [dcC, if_neg hE])
    clear hE
    have hB : Below w.heap.size w ((w.alloc (.cells #[.slice A n c, .int .i64 (p : Int)] 49)).alloc (.cells #[.slice none 0 0, .int .i64 0] 49)) := Below.alloc (Below.alloc (Below.refl w.heap.size w) (Nat.le_refl _) (.cells #[.slice A n c, .int .i64 (p : Int)] 49)) (by simp) (.cells #[.slice none 0 0, .int .i64 0] 49)
    have hc0 := (Blk.new w 49 #[.slice A n c, .int .i64 (p : Int)]).alloc (.cells #[.slice none 0 0, .int .i64 0] 49)
    have hz := Blk.new (w.alloc (.cells #[.slice A n c, .int .i64 (p : Int)] 49)) 49 #[.slice none 0 0, .int .i64 0]
    rw [alloc_size] at hz
    go_enter Try.func24, Try.ntmps24
    have z1 : ((w.alloc (.cells #[.slice A n c, .int .i64 (p : Int)] 49)).alloc (.cells #[.slice none 0 0, .int .i64 0] 49)).cell? ⟨w.heap.size, 0, none⟩ = some (.slice A n c) := (hc0.cell 0).trans rfl
    have z2 : ((w.alloc (.cells #[.slice A n c, .int .i64 (p : Int)] 49)).alloc (.cells #[.slice none 0 0, .int .i64 0] 49)).cell? ⟨w.heap.size, 1, none⟩ = some (.int .i64 (p : Int)) := (hc0.cell 1).trans rfl
    have z3 : ((w.alloc (.cells #[.slice A n c, .int .i64 (p : Int)] 49)).alloc (.cells #[.slice none 0 0, .int .i64 0] 49)).cell? ⟨(w.heap.size + 1), 0, none⟩ = some (.slice none 0 0) := (hz.cell 0).trans rfl
    have z4 : ((w.alloc (.cells #[.slice A n c, .int .i64 (p : Int)] 49)).alloc (.cells #[.slice none 0 0, .int .i64 0] 49)).cell? ⟨(w.heap.size + 1), 1, none⟩ = some (.int .i64 0) := (hz.cell 1).trans rfl
    go_wp2_with fail
    clear z1 z2 z3 z4
    refine (recheck_any A n c (p : Int) _).mono ?_
    rintro e w1 ⟨rfl, b⟩
    rw [HC.out]
    replace hc0 := hc0.below b hc0.lt
    replace hz := hz.below b hz.lt
    replace hB := hB.trans (b.mono hB.size)
    clear b
    have z5 : w1.cell? ⟨w.heap.size, 0, none⟩ = some (.slice A n c) := (hc0.cell 0).trans rfl
    have z6 : w1.cell? ⟨w.heap.size, 1, none⟩ = some (.int .i64 (p : Int)) := (hc0.cell 1).trans rfl
    go_wp2_with fail
    have H3 := HRD.out _ (hr.mv hB)
    refine H3.mono ?_
    rintro e w4 hq
    unfold DcP at hq
    obtain ⟨A4, c4, rfl, o4, b⟩ := hq
    rw [HVC.out]
    replace hc0 := hc0.below b hc0.lt
    replace hz := hz.below b hz.lt
    have o5 := own_low o4 hB.size
    replace hB := hB.trans (b.mono hB.size)
    clear b H3
    have z7 : w4.cell? ⟨(w.heap.size + 1), 0, none⟩ = some (.slice none 0 0) := (hz.cell 0).trans rfl
    have z8 := hz.frozen 0
    have z9 : w4.cell? ⟨(w.heap.size + 1), 1, none⟩ = some (.int .i64 0) := (hz.cell 1).trans rfl
    have z10 := hz.frozen 1
    go_wp2_with fail
    refine ret_c2 rfl curT8 rfl (by repeat (first | with_reducible exact hz | with_reducible (apply Blk.set_) | with_reducible (apply Blk.far; case hp => (simp <;> omega)) | with_reducible (apply Blk.alloc) | with_reducible (apply Blk.drew))) (by rfl) ?_
    unfold DcP
    exact ⟨A4, c4, by rw [HVC.out]; rfl, own_setNe (own_setNe o5 hz (by decide) 0 _) (hz.set_ 0 _) (by decide) 1 _, (by have hs_ := hB.size; repeat (first | with_reducible exact hB | with_reducible (refine Below.setCell ?_ (by simp <;> omega) _) | with_reducible (refine Below.alloc ?_ (by first | exact hs_ | (simp <;> omega)) _) | with_reducible (refine Below.drew ?_)))⟩

end Go.Proofs.Ytibkimmagiijnaa
