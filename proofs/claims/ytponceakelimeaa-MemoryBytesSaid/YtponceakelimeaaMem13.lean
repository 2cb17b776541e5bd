/- The contract of the reference's ReadHeap. -/
import Derived.Test.YtponceakelimeaaMem12
namespace Go.Proofs.Ytponceakelimeaa
open Go.RowKit Wire
set_option linter.unusedVariables false

set_option maxRecDepth 100000 in
set_option maxHeartbeats 3200000 in
theorem rreadHeap_any (A : Option Addr) (n c : Nat) (l : List UInt8) (w : World) (hr : Rb w A n l) (hcc : l.length ≤ c) (hn : l.length ≤ 200000) :
    Calls Try.prog 23 #[.slice A n c] w fun e w' => RhP w l e w' := by
  have hl := hr.len8
  subst hl
  have HR := Lib.hid hr
  clear hr
  obtain ⟨N, hN⟩ : ∃ N, rrN 65536 l = N := ⟨_, rfl⟩
  obtain ⟨L, hL⟩ : ∃ L, rrL l = L := ⟨_, rfl⟩
  obtain ⟨q, hq⟩ : ∃ q, rrK l = q := ⟨_, rfl⟩
  have HT := Lib.hid (And.intro hN (And.intro hL hq))
  clear hN hL hq
  cases hb : rrB l
  · have h := rr_no (b := 65536) hb
    have hq0 : q = 0 := HT.out.2.2.symm.trans h.2.2
    have HV := Lib.hid (rh_no (l := l) (by
      cases hh : rhB l
      · rfl
      · simp only [rhB, Bool.and_eq_true, decide_eq_true_eq] at hh
        have h9 : rrB l = true := by simp only [rrB, Bool.and_eq_true, decide_eq_true_eq]; exact ⟨hh.1, by omega⟩
        rw [hb] at h9; cases h9))
    clear hb h
    have hB : Below w.heap.size w (w.alloc (.cells #[.int .u64 0, .slice none 0 0] 25)) := (Below.alloc (Below.refl w.heap.size w) (by simp <;> omega) (.cells #[.int .u64 0, .slice none 0 0] 25))
    have hr := Blk.new w 25 #[.int .u64 0, .slice none 0 0]
    go_enter Try.func23, Try.ntmps23
    have z1 : (w.alloc (.cells #[.int .u64 0, .slice none 0 0] 25)).cell? ⟨w.heap.size, 0, none⟩ = some (.int .u64 0) := (hr.cell 0).trans rfl
    have z2 := hr.frozen 0
    have z3 : (w.alloc (.cells #[.int .u64 0, .slice none 0 0] 25)).cell? ⟨w.heap.size, 1, none⟩ = some (.slice none 0 0) := (hr.cell 1).trans rfl
    have z4 := hr.frozen 1
    have z5 := hr.lt
    go_wp2_with fail
    refine (rread26_any A l.length c l 65536 _ (HR.out.mv hB) (by omega) (by omega)).mono ?_
    rintro e w3 ⟨A1, c1, rfl, o1, b⟩
    rw [HT.out.2.1] at o1 ⊢
    rw [HT.out.1, HT.out.2.2]
    have ne_o1_hr : (Value.slice A1 L.length c1).ownBlock ≠ some w.heap.size := own_not_lt o1 (by simp <;> omega)
    replace o1 := own_low o1 (show w.heap.size ≤ _ from by have hs_ := hB.size; simp <;> omega)
    replace hr := Blk.via0 (g := w.heap.size) (t := 25) b (by repeat (first | with_reducible exact hr | with_reducible (apply Blk.set_) | with_reducible (apply Blk.far; case hp => (simp <;> omega)) | with_reducible (apply Blk.alloc) | with_reducible (apply Blk.drew)))
    replace hr : Blk w3 w.heap.size 25 #[.int .u64 0, .slice none 0 0] := hr
    replace hB := Below.via (w := w) (by have hs_ := hB.size; repeat (first | with_reducible exact hB | with_reducible (refine Below.setCell ?_ (by simp <;> omega) _) | with_reducible (refine Below.alloc ?_ (by first | exact hs_ | (simp <;> omega)) _) | with_reducible (refine Below.drew ?_))) b
    clear z1 z2 z3 z4 z5
    clear b
    have z6 : w3.cell? ⟨w.heap.size, 0, none⟩ = some (.int .u64 0) := (hr.cell 0).trans rfl
    have z7 := hr.frozen 0
    have z8 : ∀ ob_, (w3.alloc ob_).cell? ⟨w.heap.size, 0, none⟩ = some (.int .u64 0) := fun ob_ => ((Blk.alloc hr ob_).cell 0).trans rfl
    have z9 : ∀ ob_, (w3.alloc ob_).frozen? ⟨w.heap.size, 0, none⟩ = false := fun ob_ => (Blk.alloc hr ob_).frozen 0
    have z10 : w3.cell? ⟨w.heap.size, 1, none⟩ = some (.slice none 0 0) := (hr.cell 1).trans rfl
    have z11 := hr.frozen 1
    have z12 : ∀ ob_, (w3.alloc ob_).cell? ⟨w.heap.size, 1, none⟩ = some (.slice none 0 0) := fun ob_ => ((Blk.alloc hr ob_).cell 1).trans rfl
    have z13 : ∀ ob_, (w3.alloc ob_).frozen? ⟨w.heap.size, 1, none⟩ = false := fun ob_ => (Blk.alloc hr ob_).frozen 1
    have z14 := hr.lt
    go_wp2_with fail
    refine ret_c1 rfl regT rfl (by repeat (first | with_reducible exact hr | with_reducible (apply Blk.set_) | with_reducible (apply Blk.far; case hp => (simp <;> omega)) | with_reducible (apply Blk.alloc) | with_reducible (apply Blk.drew))) (by rfl) ?_
    unfold RhP
    exact ⟨none, 0, by rw [HV.out.1, HV.out.2.1, HV.out.2.2]; rfl, by rw [HV.out.2.1]; exact OwU.nil _ _, by rw [HV.out.2.1]; simp, (by have hs_ := hB.size; repeat (first | with_reducible exact hB | with_reducible (refine Below.setCell ?_ (by simp <;> omega) _) | with_reducible (refine Below.alloc ?_ (by first | exact hs_ | (simp <;> omega)) _) | with_reducible (refine Below.drew ?_)))⟩
  have h := rr_yes (b := 65536) hb
  have hq1 : (uvR l 0).2.2 + (uvR l 0).2.1 = q := h.2.2.symm.trans HT.out.2.2
  have hN1 : N = 65536 := HT.out.1.symm.trans h.1
  subst hN1
  have hb2 : (uvR l 0).1 = 0 ∧ (uvR l 0).2.2 + (uvR l 0).2.1 ≤ l.length := by simpa [rrB] using hb
  have hlt := uvR_le hb2.1
  have hq0 : ¬ q = 0 := by omega
  have hLl : L.length = (uvR l 0).2.1 := by rw [← HT.out.2.1, h.2.1, List.length_take, List.length_drop]; omega
  have HLD := Lib.hid (show q = l.length → L = l.drop (uvR l 0).2.2 from fun e => by rw [← HT.out.2.1, h.2.1, List.take_of_length_le (by rw [List.length_drop]; omega)])
  have hrh : rhB l = (decide (q = l.length) && hpB 65536 L.length) := by rw [rhB, hb2.1, hq1, hLl]; simp
  have d0 : ((q : Int) == 0) = false := by rw [beq_eq_false_iff_ne]; omega
  have HRH := Lib.hid hrh
  clear h hb hq1 hb2 hlt hLl hrh
  by_cases hql : q = l.length
  rotate_left
  · have HV := Lib.hid (rh_no (l := l) (by rw [HRH.out, decide_eq_false hql]; rfl))
    have d1 : ((q : Int) != (l.length : Int)) = true := by rw [bne_iff_ne]; omega
    have hB : Below w.heap.size w (w.alloc (.cells #[.int .u64 0, .slice none 0 0] 25)) := (Below.alloc (Below.refl w.heap.size w) (by simp <;> omega) (.cells #[.int .u64 0, .slice none 0 0] 25))
    have hr := Blk.new w 25 #[.int .u64 0, .slice none 0 0]
    go_enter Try.func23, Try.ntmps23
    have z1 : (w.alloc (.cells #[.int .u64 0, .slice none 0 0] 25)).cell? ⟨w.heap.size, 0, none⟩ = some (.int .u64 0) := (hr.cell 0).trans rfl
    have z2 := hr.frozen 0
    have z3 : (w.alloc (.cells #[.int .u64 0, .slice none 0 0] 25)).cell? ⟨w.heap.size, 1, none⟩ = some (.slice none 0 0) := (hr.cell 1).trans rfl
    have z4 := hr.frozen 1
    have z5 := hr.lt
    go_wp2_with fail
    refine (rread26_any A l.length c l 65536 _ (HR.out.mv hB) (by omega) (by omega)).mono ?_
    rintro e w3 ⟨A1, c1, rfl, o1, b⟩
    rw [HT.out.2.1] at o1 ⊢
    rw [HT.out.1, HT.out.2.2]
    have ne_o1_hr : (Value.slice A1 L.length c1).ownBlock ≠ some w.heap.size := own_not_lt o1 (by simp <;> omega)
    replace o1 := own_low o1 (show w.heap.size ≤ _ from by have hs_ := hB.size; simp <;> omega)
    replace hr := Blk.via0 (g := w.heap.size) (t := 25) b (by repeat (first | with_reducible exact hr | with_reducible (apply Blk.set_) | with_reducible (apply Blk.far; case hp => (simp <;> omega)) | with_reducible (apply Blk.alloc) | with_reducible (apply Blk.drew)))
    replace hr : Blk w3 w.heap.size 25 #[.int .u64 0, .slice none 0 0] := hr
    replace hB := Below.via (w := w) (by have hs_ := hB.size; repeat (first | with_reducible exact hB | with_reducible (refine Below.setCell ?_ (by simp <;> omega) _) | with_reducible (refine Below.alloc ?_ (by first | exact hs_ | (simp <;> omega)) _) | with_reducible (refine Below.drew ?_))) b
    clear z1 z2 z3 z4 z5
    clear b
    have z6 : w3.cell? ⟨w.heap.size, 0, none⟩ = some (.int .u64 0) := (hr.cell 0).trans rfl
    have z7 := hr.frozen 0
    have z8 : ∀ ob_, (w3.alloc ob_).cell? ⟨w.heap.size, 0, none⟩ = some (.int .u64 0) := fun ob_ => ((Blk.alloc hr ob_).cell 0).trans rfl
    have z9 : ∀ ob_, (w3.alloc ob_).frozen? ⟨w.heap.size, 0, none⟩ = false := fun ob_ => (Blk.alloc hr ob_).frozen 0
    have z10 : w3.cell? ⟨w.heap.size, 1, none⟩ = some (.slice none 0 0) := (hr.cell 1).trans rfl
    have z11 := hr.frozen 1
    have z12 : ∀ ob_, (w3.alloc ob_).cell? ⟨w.heap.size, 1, none⟩ = some (.slice none 0 0) := fun ob_ => ((Blk.alloc hr ob_).cell 1).trans rfl
    have z13 : ∀ ob_, (w3.alloc ob_).frozen? ⟨w.heap.size, 1, none⟩ = false := fun ob_ => (Blk.alloc hr ob_).frozen 1
    have z14 := hr.lt
    go_wp2_with fail
    refine ret_c1 rfl regT rfl (by repeat (first | with_reducible exact hr | with_reducible (apply Blk.set_) | with_reducible (apply Blk.far; case hp => (simp <;> omega)) | with_reducible (apply Blk.alloc) | with_reducible (apply Blk.drew))) (by rfl) ?_
    unfold RhP
    exact ⟨none, 0, by rw [HV.out.1, HV.out.2.1, HV.out.2.2]; rfl, by rw [HV.out.2.1]; exact OwU.nil _ _, by rw [HV.out.2.1]; simp, (by have hs_ := hB.size; repeat (first | with_reducible exact hB | with_reducible (refine Below.setCell ?_ (by simp <;> omega) _) | with_reducible (refine Below.alloc ?_ (by first | exact hs_ | (simp <;> omega)) _) | with_reducible (refine Below.drew ?_)))⟩
  have d1 : ((q : Int) != (l.length : Int)) = false := by rw [bne_eq_false_iff_eq]; omega
  cases hh : hpB 65536 L.length
  · have HH := Lib.hid hh
    have HV := Lib.hid (rh_no (l := l) (by rw [HRH.out, hh, Bool.and_false]))
    have HQ := Lib.hid hql
    clear hh hql
    have hB : Below w.heap.size w (w.alloc (.cells #[.int .u64 0, .slice none 0 0] 25)) := (Below.alloc (Below.refl w.heap.size w) (by simp <;> omega) (.cells #[.int .u64 0, .slice none 0 0] 25))
    have hr := Blk.new w 25 #[.int .u64 0, .slice none 0 0]
    go_enter Try.func23, Try.ntmps23
    have z1 : (w.alloc (.cells #[.int .u64 0, .slice none 0 0] 25)).cell? ⟨w.heap.size, 0, none⟩ = some (.int .u64 0) := (hr.cell 0).trans rfl
    have z2 := hr.frozen 0
    have z3 : (w.alloc (.cells #[.int .u64 0, .slice none 0 0] 25)).cell? ⟨w.heap.size, 1, none⟩ = some (.slice none 0 0) := (hr.cell 1).trans rfl
    have z4 := hr.frozen 1
    have z5 := hr.lt
    go_wp2_with fail
    refine (rread26_any A l.length c l 65536 _ (HR.out.mv hB) (by omega) (by omega)).mono ?_
    rintro e w3 ⟨A1, c1, rfl, o1, b⟩
    rw [HT.out.2.1] at o1 ⊢
    rw [HT.out.1, HT.out.2.2]
    have ne_o1_hr : (Value.slice A1 L.length c1).ownBlock ≠ some w.heap.size := own_not_lt o1 (by simp <;> omega)
    replace o1 := own_low o1 (show w.heap.size ≤ _ from by have hs_ := hB.size; simp <;> omega)
    replace hr := Blk.via0 (g := w.heap.size) (t := 25) b (by repeat (first | with_reducible exact hr | with_reducible (apply Blk.set_) | with_reducible (apply Blk.far; case hp => (simp <;> omega)) | with_reducible (apply Blk.alloc) | with_reducible (apply Blk.drew)))
    replace hr : Blk w3 w.heap.size 25 #[.int .u64 0, .slice none 0 0] := hr
    replace hB := Below.via (w := w) (by have hs_ := hB.size; repeat (first | with_reducible exact hB | with_reducible (refine Below.setCell ?_ (by simp <;> omega) _) | with_reducible (refine Below.alloc ?_ (by first | exact hs_ | (simp <;> omega)) _) | with_reducible (refine Below.drew ?_))) b
    clear z1 z2 z3 z4 z5
    clear b
    have z6 : w3.cell? ⟨w.heap.size, 0, none⟩ = some (.int .u64 0) := (hr.cell 0).trans rfl
    have z7 := hr.frozen 0
    have z8 : ∀ ob_, (w3.alloc ob_).cell? ⟨w.heap.size, 0, none⟩ = some (.int .u64 0) := fun ob_ => ((Blk.alloc hr ob_).cell 0).trans rfl
    have z9 : ∀ ob_, (w3.alloc ob_).frozen? ⟨w.heap.size, 0, none⟩ = false := fun ob_ => (Blk.alloc hr ob_).frozen 0
    have z10 : w3.cell? ⟨w.heap.size, 1, none⟩ = some (.slice none 0 0) := (hr.cell 1).trans rfl
    have z11 := hr.frozen 1
    have z12 : ∀ ob_, (w3.alloc ob_).cell? ⟨w.heap.size, 1, none⟩ = some (.slice none 0 0) := fun ob_ => ((Blk.alloc hr ob_).cell 1).trans rfl
    have z13 : ∀ ob_, (w3.alloc ob_).frozen? ⟨w.heap.size, 1, none⟩ = false := fun ob_ => (Blk.alloc hr ob_).frozen 1
    have z14 := hr.lt
    go_wp2_with fail
    refine (heap26_any 65536 A1 L.length c1 _).mono ?_
    rintro e w5 ⟨rfl, b⟩
    rw [HH.out]
    have ne_o1_hg : (Value.slice A1 L.length c1).ownBlock ≠ some w3.heap.size := own_not_ge o1 (by omega)
    have o_hr_hg : w.heap.size < w3.heap.size := (by omega)
    replace hr := Blk.via0 (g := w.heap.size) (t := 25) b (by repeat (first | with_reducible exact hr | with_reducible (apply Blk.set_) | with_reducible (apply Blk.far; case hp => (simp <;> omega)) | with_reducible (apply Blk.alloc) | with_reducible (apply Blk.drew)))
    replace hr : Blk w5 w.heap.size 25 #[.int .u64 0, .slice none 0 0] := hr
    replace o1 := own_call (by repeat (first | with_reducible exact o1 | (with_reducible apply own_set_; case hne => first | exact ne_o1_hr) | with_reducible (apply own_alloc_) | with_reducible (apply own_drew_))) b
    have hg := Blk.via0 (g := w3.heap.size) (t := 25) b (by repeat (first | with_reducible exact Blk.newAt (by simp) _ _ | with_reducible (apply Blk.set_) | with_reducible (apply Blk.far; case hp => (simp <;> omega)) | with_reducible (apply Blk.alloc) | with_reducible (apply Blk.drew)))
    replace hg : Blk w5 w3.heap.size 25 #[.int .u64 65536, .slice A1 L.length c1] := hg
    replace hB := Below.via (w := w) (by have hs_ := hB.size; repeat (first | with_reducible exact hB | with_reducible (refine Below.setCell ?_ (by simp <;> omega) _) | with_reducible (refine Below.alloc ?_ (by first | exact hs_ | (simp <;> omega)) _) | with_reducible (refine Below.drew ?_))) b
    clear z6 z7 z8 z9 z10 z11 z12 z13 z14
    clear b
    generalize w3.heap.size = pg at *
    have z15 : w5.cell? ⟨w.heap.size, 0, none⟩ = some (.int .u64 0) := (hr.cell 0).trans rfl
    have z16 := hr.frozen 0
    have z17 : w5.cell? ⟨w.heap.size, 1, none⟩ = some (.slice none 0 0) := (hr.cell 1).trans rfl
    have z18 := hr.frozen 1
    have z19 : w5.cell? ⟨pg, 0, none⟩ = some (.int .u64 65536) := (hg.cell 0).trans rfl
    have z20 := hg.frozen 0
    have z21 : w5.cell? ⟨pg, 1, none⟩ = some (.slice A1 L.length c1) := (hg.cell 1).trans rfl
    have z22 := hg.frozen 1
    have z23 := hr.lt
    have z24 := hg.lt
    go_wp2_with fail
    refine ret_c1 rfl regT rfl (by repeat (first | with_reducible exact hr | with_reducible (apply Blk.set_) | with_reducible (apply Blk.far; case hp => (simp <;> omega)) | with_reducible (apply Blk.alloc) | with_reducible (apply Blk.drew))) (by rfl) ?_
    unfold RhP
    exact ⟨none, 0, by rw [HV.out.1, HV.out.2.1, HV.out.2.2]; rfl, by rw [HV.out.2.1]; exact OwU.nil _ _, by rw [HV.out.2.1]; simp, (by have hs_ := hB.size; repeat (first | with_reducible exact hB | with_reducible (refine Below.setCell ?_ (by simp <;> omega) _) | with_reducible (refine Below.alloc ?_ (by first | exact hs_ | (simp <;> omega)) _) | with_reducible (refine Below.drew ?_)))⟩
  have HH := Lib.hid hh
  have hv := (rh_yes (l := l) (by rw [HRH.out, hh, decide_eq_true hql]; rfl))
  rw [← HLD.out hql] at hv
  have HV := Lib.hid hv
  have HQ := Lib.hid hql
  clear hh hv hql
  have hB : Below w.heap.size w (w.alloc (.cells #[.int .u64 0, .slice none 0 0] 25)) := (Below.alloc (Below.refl w.heap.size w) (by simp <;> omega) (.cells #[.int .u64 0, .slice none 0 0] 25))
  have hr := Blk.new w 25 #[.int .u64 0, .slice none 0 0]
  go_enter Try.func23, Try.ntmps23
  have z1 : (w.alloc (.cells #[.int .u64 0, .slice none 0 0] 25)).cell? ⟨w.heap.size, 0, none⟩ = some (.int .u64 0) := (hr.cell 0).trans rfl
  have z2 := hr.frozen 0
  have z3 : (w.alloc (.cells #[.int .u64 0, .slice none 0 0] 25)).cell? ⟨w.heap.size, 1, none⟩ = some (.slice none 0 0) := (hr.cell 1).trans rfl
  have z4 := hr.frozen 1
  have z5 := hr.lt
  go_wp2_with fail
  refine (rread26_any A l.length c l 65536 _ (HR.out.mv hB) (by omega) (by omega)).mono ?_
  rintro e w3 ⟨A1, c1, rfl, o1, b⟩
  rw [HT.out.2.1] at o1 ⊢
  rw [HT.out.1, HT.out.2.2]
  have ne_o1_hr : (Value.slice A1 L.length c1).ownBlock ≠ some w.heap.size := own_not_lt o1 (by simp <;> omega)
  replace o1 := own_low o1 (show w.heap.size ≤ _ from by have hs_ := hB.size; simp <;> omega)
  replace hr := Blk.via0 (g := w.heap.size) (t := 25) b (by repeat (first | with_reducible exact hr | with_reducible (apply Blk.set_) | with_reducible (apply Blk.far; case hp => (simp <;> omega)) | with_reducible (apply Blk.alloc) | with_reducible (apply Blk.drew)))
  replace hr : Blk w3 w.heap.size 25 #[.int .u64 0, .slice none 0 0] := hr
  replace hB := Below.via (w := w) (by have hs_ := hB.size; repeat (first | with_reducible exact hB | with_reducible (refine Below.setCell ?_ (by simp <;> omega) _) | with_reducible (refine Below.alloc ?_ (by first | exact hs_ | (simp <;> omega)) _) | with_reducible (refine Below.drew ?_))) b
  clear z1 z2 z3 z4 z5
  clear b
  have z6 : w3.cell? ⟨w.heap.size, 0, none⟩ = some (.int .u64 0) := (hr.cell 0).trans rfl
  have z7 := hr.frozen 0
  have z8 : ∀ ob_, (w3.alloc ob_).cell? ⟨w.heap.size, 0, none⟩ = some (.int .u64 0) := fun ob_ => ((Blk.alloc hr ob_).cell 0).trans rfl
  have z9 : ∀ ob_, (w3.alloc ob_).frozen? ⟨w.heap.size, 0, none⟩ = false := fun ob_ => (Blk.alloc hr ob_).frozen 0
  have z10 : w3.cell? ⟨w.heap.size, 1, none⟩ = some (.slice none 0 0) := (hr.cell 1).trans rfl
  have z11 := hr.frozen 1
  have z12 : ∀ ob_, (w3.alloc ob_).cell? ⟨w.heap.size, 1, none⟩ = some (.slice none 0 0) := fun ob_ => ((Blk.alloc hr ob_).cell 1).trans rfl
  have z13 : ∀ ob_, (w3.alloc ob_).frozen? ⟨w.heap.size, 1, none⟩ = false := fun ob_ => (Blk.alloc hr ob_).frozen 1
  have z14 := hr.lt
  go_wp2_with fail
  refine (heap26_any 65536 A1 L.length c1 _).mono ?_
  rintro e w5 ⟨rfl, b⟩
  rw [HH.out]
  have ne_o1_hg : (Value.slice A1 L.length c1).ownBlock ≠ some w3.heap.size := own_not_ge o1 (by omega)
  have o_hr_hg : w.heap.size < w3.heap.size := (by omega)
  replace hr := Blk.via0 (g := w.heap.size) (t := 25) b (by repeat (first | with_reducible exact hr | with_reducible (apply Blk.set_) | with_reducible (apply Blk.far; case hp => (simp <;> omega)) | with_reducible (apply Blk.alloc) | with_reducible (apply Blk.drew)))
  replace hr : Blk w5 w.heap.size 25 #[.int .u64 0, .slice none 0 0] := hr
  replace o1 := own_call (by repeat (first | with_reducible exact o1 | (with_reducible apply own_set_; case hne => first | exact ne_o1_hr) | with_reducible (apply own_alloc_) | with_reducible (apply own_drew_))) b
  have hg := Blk.via0 (g := w3.heap.size) (t := 25) b (by repeat (first | with_reducible exact Blk.newAt (by simp) _ _ | with_reducible (apply Blk.set_) | with_reducible (apply Blk.far; case hp => (simp <;> omega)) | with_reducible (apply Blk.alloc) | with_reducible (apply Blk.drew)))
  replace hg : Blk w5 w3.heap.size 25 #[.int .u64 65536, .slice A1 L.length c1] := hg
  replace hB := Below.via (w := w) (by have hs_ := hB.size; repeat (first | with_reducible exact hB | with_reducible (refine Below.setCell ?_ (by simp <;> omega) _) | with_reducible (refine Below.alloc ?_ (by first | exact hs_ | (simp <;> omega)) _) | with_reducible (refine Below.drew ?_))) b
  clear z6 z7 z8 z9 z10 z11 z12 z13 z14
  clear b
  generalize w3.heap.size = pg at *
  have z15 : w5.cell? ⟨w.heap.size, 0, none⟩ = some (.int .u64 0) := (hr.cell 0).trans rfl
  have z16 := hr.frozen 0
  have z17 : w5.cell? ⟨w.heap.size, 1, none⟩ = some (.slice none 0 0) := (hr.cell 1).trans rfl
  have z18 := hr.frozen 1
  have z19 : w5.cell? ⟨pg, 0, none⟩ = some (.int .u64 65536) := (hg.cell 0).trans rfl
  have z20 := hg.frozen 0
  have z21 : w5.cell? ⟨pg, 1, none⟩ = some (.slice A1 L.length c1) := (hg.cell 1).trans rfl
  have z22 := hg.frozen 1
  have z23 := hr.lt
  have z24 := hg.lt
  go_wp2_with fail
  refine ret_c1 rfl regT rfl (by repeat (first | with_reducible exact hr | with_reducible (apply Blk.set_) | with_reducible (apply Blk.far; case hp => (simp <;> omega)) | with_reducible (apply Blk.alloc) | with_reducible (apply Blk.drew))) (by rfl) ?_
  unfold RhP
  have hcp := own_cap o1
  unfold maxLen at hcp
  exact ⟨A1, c1, by rw [HV.out.1, HV.out.2.1, HV.out.2.2]; rfl, by rw [HV.out.2.1]; exact OwU.of_own (by repeat (first | with_reducible exact o1 | (with_reducible apply own_set_; case hne => first | exact ne_o1_hr | exact ne_o1_hg) | with_reducible (apply own_alloc_) | with_reducible (apply own_drew_))), by rw [HV.out.2.1]; exact hcp, (by have hs_ := hB.size; repeat (first | with_reducible exact hB | with_reducible (refine Below.setCell ?_ (by simp <;> omega) _) | with_reducible (refine Below.alloc ?_ (by first | exact hs_ | (simp <;> omega)) _) | with_reducible (refine Below.drew ?_)))⟩

end Go.Proofs.Ytponceakelimeaa
