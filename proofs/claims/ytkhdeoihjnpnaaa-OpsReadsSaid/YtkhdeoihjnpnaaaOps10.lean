/- The contract of Decode. It states its conditions. -/
import Derived.Test.YtkhdeoihjnpnaaaOps9
import Derived.BigQuiet
namespace Go.Proofs.Ytkhdeoihjnpnaaa
open Go.RowKit Wire
set_option linter.unusedVariables false

set_option maxRecDepth 100000 in
set_option maxHeartbeats 6400000 in
theorem decode6_any (A : Option Addr) (n c : Nat) (l : List UInt8) (a : Int) (ha : -9223372036854775808 ≤ a ∧ a ≤ 9223372036854775807) (w : World) (hr : Rb w A n l) (hnc : n ≤ c ∧ n ≤ 9223372036854775807) :
    Calls Try.prog 15 #[cur A n c a] w fun e w' => DeP w A n c l a e w' := by
  have HR := Lib.hid hr
  have HL := Lib.hid hr.len8
  clear hr
  have hB : Below w.heap.size w (((w.alloc (.cells #[.slice A n c, .int .i64 (a)] 39)).alloc (.cells #[.slice none 0 0, .int .i64 0] 39)).alloc (.cells #[.int .u8 0, .int .i64 0, .int .i64 0, .int .i64 0] 23)) := (Below.alloc (Below.alloc (Below.alloc (Below.refl w.heap.size w) (by simp <;> omega) (.cells #[.slice A n c, .int .i64 (a)] 39)) (by simp <;> omega) (.cells #[.slice none 0 0, .int .i64 0] 39)) (by simp <;> omega) (.cells #[.int .u8 0, .int .i64 0, .int .i64 0, .int .i64 0] 23))
  have hc := Blk.new w 39 #[.slice A n c, .int .i64 (a)]
  replace hc := hc.alloc (.cells #[.slice none 0 0, .int .i64 0] 39)
  replace hc := hc.alloc (.cells #[.int .u8 0, .int .i64 0, .int .i64 0, .int .i64 0] 23)
  have h2 := Blk.new (w.alloc (.cells #[.slice A n c, .int .i64 (a)] 39)) 39 #[.slice none 0 0, .int .i64 0]
  rw [show (w.alloc (.cells #[.slice A n c, .int .i64 (a)] 39)).heap.size = w.heap.size + 1 from by simp] at h2
  replace h2 := h2.alloc (.cells #[.int .u8 0, .int .i64 0, .int .i64 0, .int .i64 0] 23)
  have h3 := Blk.new ((w.alloc (.cells #[.slice A n c, .int .i64 (a)] 39)).alloc (.cells #[.slice none 0 0, .int .i64 0] 39)) 23 #[.int .u8 0, .int .i64 0, .int .i64 0, .int .i64 0]
  rw [show ((w.alloc (.cells #[.slice A n c, .int .i64 (a)] 39)).alloc (.cells #[.slice none 0 0, .int .i64 0] 39)).heap.size = w.heap.size + 2 from by simp] at h3
  go_enter Try.func15, Try.ntmps15
  have z1 : (((w.alloc (.cells #[.slice A n c, .int .i64 (a)] 39)).alloc (.cells #[.slice none 0 0, .int .i64 0] 39)).alloc (.cells #[.int .u8 0, .int .i64 0, .int .i64 0, .int .i64 0] 23)).cell? ⟨w.heap.size, 0, none⟩ = some (.slice A n c) := (hc.cell 0).trans rfl
  have z2 := hc.frozen 0
  have z3 : (((w.alloc (.cells #[.slice A n c, .int .i64 (a)] 39)).alloc (.cells #[.slice none 0 0, .int .i64 0] 39)).alloc (.cells #[.int .u8 0, .int .i64 0, .int .i64 0, .int .i64 0] 23)).cell? ⟨w.heap.size, 1, none⟩ = some (.int .i64 (a)) := (hc.cell 1).trans rfl
  have z4 := hc.frozen 1
  have z5 : (((w.alloc (.cells #[.slice A n c, .int .i64 (a)] 39)).alloc (.cells #[.slice none 0 0, .int .i64 0] 39)).alloc (.cells #[.int .u8 0, .int .i64 0, .int .i64 0, .int .i64 0] 23)).cell? ⟨(w.heap.size + 1), 0, none⟩ = some (.slice none 0 0) := (h2.cell 0).trans rfl
  have z6 := h2.frozen 0
  have z7 : (((w.alloc (.cells #[.slice A n c, .int .i64 (a)] 39)).alloc (.cells #[.slice none 0 0, .int .i64 0] 39)).alloc (.cells #[.int .u8 0, .int .i64 0, .int .i64 0, .int .i64 0] 23)).cell? ⟨(w.heap.size + 1), 1, none⟩ = some (.int .i64 0) := (h2.cell 1).trans rfl
  have z8 := h2.frozen 1
  have z9 : (((w.alloc (.cells #[.slice A n c, .int .i64 (a)] 39)).alloc (.cells #[.slice none 0 0, .int .i64 0] 39)).alloc (.cells #[.int .u8 0, .int .i64 0, .int .i64 0, .int .i64 0] 23)).cell? ⟨(w.heap.size + 2), 0, none⟩ = some (.int .u8 0) := (h3.cell 0).trans rfl
  have z10 := h3.frozen 0
  have z11 : (((w.alloc (.cells #[.slice A n c, .int .i64 (a)] 39)).alloc (.cells #[.slice none 0 0, .int .i64 0] 39)).alloc (.cells #[.int .u8 0, .int .i64 0, .int .i64 0, .int .i64 0] 23)).cell? ⟨(w.heap.size + 2), 1, none⟩ = some (.int .i64 0) := (h3.cell 1).trans rfl
  have z12 := h3.frozen 1
  have z13 : (((w.alloc (.cells #[.slice A n c, .int .i64 (a)] 39)).alloc (.cells #[.slice none 0 0, .int .i64 0] 39)).alloc (.cells #[.int .u8 0, .int .i64 0, .int .i64 0, .int .i64 0] 23)).cell? ⟨(w.heap.size + 2), 2, none⟩ = some (.int .i64 0) := (h3.cell 2).trans rfl
  have z14 := h3.frozen 2
  have z15 : (((w.alloc (.cells #[.slice A n c, .int .i64 (a)] 39)).alloc (.cells #[.slice none 0 0, .int .i64 0] 39)).alloc (.cells #[.int .u8 0, .int .i64 0, .int .i64 0, .int .i64 0] 23)).cell? ⟨(w.heap.size + 2), 3, none⟩ = some (.int .i64 0) := (h3.cell 3).trans rfl
  have z16 := h3.frozen 3
  have z17 := hc.lt
  have z18 := h2.lt
  have z19 := h3.lt
  go_wp2_with fail
  refine (left_any A n c a _ ha).mono ?_
  rintro e w1 ⟨rfl, bB⟩
  replace hc := Blk.via0 (g := w.heap.size) (t := 39) bB (by repeat (first | with_reducible exact hc | with_reducible (apply Blk.set_) | with_reducible (apply Blk.far; case hp => (simp <;> omega)) | with_reducible (apply Blk.alloc) | with_reducible (apply Blk.drew)))
  replace hc : Blk w1 w.heap.size 39 #[.slice A n c, .int .i64 (a)] := hc
  replace h2 := Blk.via0 (g := (w.heap.size + 1)) (t := 39) bB (by repeat (first | with_reducible exact h2 | with_reducible (apply Blk.set_) | with_reducible (apply Blk.far; case hp => (simp <;> omega)) | with_reducible (apply Blk.alloc) | with_reducible (apply Blk.drew)))
  replace h2 : Blk w1 (w.heap.size + 1) 39 #[.slice none 0 0, .int .i64 0] := h2
  replace h3 := Blk.via0 (g := (w.heap.size + 2)) (t := 23) bB (by repeat (first | with_reducible exact h3 | with_reducible (apply Blk.set_) | with_reducible (apply Blk.far; case hp => (simp <;> omega)) | with_reducible (apply Blk.alloc) | with_reducible (apply Blk.drew)))
  replace h3 : Blk w1 (w.heap.size + 2) 23 #[.int .u8 0, .int .i64 0, .int .i64 0, .int .i64 0] := h3
  replace hB := Below.via (w := w) (by have hs_ := hB.size; repeat (first | with_reducible exact hB | with_reducible (refine Below.setCell ?_ (by simp <;> omega) _) | with_reducible (refine Below.alloc ?_ (by first | exact hs_ | (simp <;> omega)) _) | with_reducible (refine Below.drew ?_))) bB
  clear z1 z2 z3 z4 z5 z6 z7 z8 z9 z10 z11 z12 z13 z14 z15 z16 z17 z18 z19
  clear bB
  cases hck : ckB n a
  · have HE := Lib.hid (show dcE l a = 8 from by rw [dcE, HL.out, if_pos hck])
    have HN0 := Lib.hid (show (8 : Int) ≠ 0 by decide)
    rw [show ckE n a = 8 from by simp [ckE, hck], show lfN n a = 0 from by simp [lfN, hck]]
    clear hck
    have z20 : w1.cell? ⟨w.heap.size, 0, none⟩ = some (.slice A n c) := (hc.cell 0).trans rfl
    have z21 := hc.frozen 0
    have z22 : w1.cell? ⟨w.heap.size, 1, none⟩ = some (.int .i64 (a)) := (hc.cell 1).trans rfl
    have z23 := hc.frozen 1
    have z24 : w1.cell? ⟨(w.heap.size + 1), 0, none⟩ = some (.slice none 0 0) := (h2.cell 0).trans rfl
    have z25 := h2.frozen 0
    have z26 : w1.cell? ⟨(w.heap.size + 1), 1, none⟩ = some (.int .i64 0) := (h2.cell 1).trans rfl
    have z27 := h2.frozen 1
    have z28 : w1.cell? ⟨(w.heap.size + 2), 0, none⟩ = some (.int .u8 0) := (h3.cell 0).trans rfl
    have z29 := h3.frozen 0
    have z30 : w1.cell? ⟨(w.heap.size + 2), 1, none⟩ = some (.int .i64 0) := (h3.cell 1).trans rfl
    have z31 := h3.frozen 1
    have z32 : w1.cell? ⟨(w.heap.size + 2), 2, none⟩ = some (.int .i64 0) := (h3.cell 2).trans rfl
    have z33 := h3.frozen 2
    have z34 : w1.cell? ⟨(w.heap.size + 2), 3, none⟩ = some (.int .i64 0) := (h3.cell 3).trans rfl
    have z35 := h3.frozen 3
    have z36 := hc.lt
    have z37 := h2.lt
    have z38 := h3.lt
    go_wp2_with fail
    refine (fail6_any 8 _).mono ?_
    rintro e f1 ⟨rfl, bB⟩
    replace hc := Blk.via0 (g := w.heap.size) (t := 39) bB (by repeat (first | with_reducible exact hc | with_reducible (apply Blk.set_) | with_reducible (apply Blk.far; case hp => (simp <;> omega)) | with_reducible (apply Blk.alloc) | with_reducible (apply Blk.drew)))
    replace hc : Blk f1 w.heap.size 39 #[.slice A n c, .int .i64 (a)] := hc
    replace h2 := Blk.via0 (g := (w.heap.size + 1)) (t := 39) bB (by repeat (first | with_reducible exact h2 | with_reducible (apply Blk.set_) | with_reducible (apply Blk.far; case hp => (simp <;> omega)) | with_reducible (apply Blk.alloc) | with_reducible (apply Blk.drew)))
    replace h2 : Blk f1 (w.heap.size + 1) 39 #[.slice none 0 0, .int .i64 0] := h2
    replace h3 := Blk.via0 (g := (w.heap.size + 2)) (t := 23) bB (by repeat (first | with_reducible exact h3 | with_reducible (apply Blk.set_) | with_reducible (apply Blk.far; case hp => (simp <;> omega)) | with_reducible (apply Blk.alloc) | with_reducible (apply Blk.drew)))
    replace h3 : Blk f1 (w.heap.size + 2) 23 #[.int .u8 0, .int .i64 0, .int .i64 0, .int .i64 0] := h3
    replace hB := Below.via (w := w) (by have hs_ := hB.size; repeat (first | with_reducible exact hB | with_reducible (refine Below.setCell ?_ (by simp <;> omega) _) | with_reducible (refine Below.alloc ?_ (by first | exact hs_ | (simp <;> omega)) _) | with_reducible (refine Below.drew ?_))) bB
    clear z20 z21 z22 z23 z24 z25 z26 z27 z28 z29 z30 z31 z32 z33 z34 z35 z36 z37 z38
    clear bB
    have z39 : f1.cell? ⟨(w.heap.size + 1), 0, none⟩ = some (.slice none 0 0) := (h2.cell 0).trans rfl
    have z40 := h2.frozen 0
    have z41 : f1.cell? ⟨(w.heap.size + 1), 1, none⟩ = some (.int .i64 0) := (h2.cell 1).trans rfl
    have z42 := h2.frozen 1
    have z43 : f1.cell? ⟨(w.heap.size + 2), 0, none⟩ = some (.int .u8 0) := (h3.cell 0).trans rfl
    have z44 := h3.frozen 0
    have z45 : f1.cell? ⟨(w.heap.size + 2), 1, none⟩ = some (.int .i64 0) := (h3.cell 1).trans rfl
    have z46 := h3.frozen 1
    have z47 : f1.cell? ⟨(w.heap.size + 2), 2, none⟩ = some (.int .i64 0) := (h3.cell 2).trans rfl
    have z48 := h3.frozen 2
    have z49 : f1.cell? ⟨(w.heap.size + 2), 3, none⟩ = some (.int .i64 0) := (h3.cell 3).trans rfl
    have z50 := h3.frozen 3
    have z51 := hc.lt
    have z52 := h2.lt
    have z53 := h3.lt
    go_wp2_with fail
    refine ret_cc1 rfl curT insT rfl (by repeat (first | with_reducible exact h2 | with_reducible (apply Blk.set_) | with_reducible (apply Blk.far; case hp => (simp <;> omega)) | with_reducible (apply Blk.alloc) | with_reducible (apply Blk.drew))) (by rfl) rfl (by repeat (first | with_reducible exact h3 | with_reducible (apply Blk.set_) | with_reducible (apply Blk.far; case hp => (simp <;> omega)) | with_reducible (apply Blk.alloc) | with_reducible (apply Blk.drew))) (by rfl) ?_
    exact ⟨.inr ⟨by rw [HE.out]; exact HN0.out, by rw [HE.out]; rfl⟩, (by have hs_ := hB.size; repeat (first | with_reducible exact hB | with_reducible (refine Below.setCell ?_ (by simp <;> omega) _) | with_reducible (refine Below.alloc ?_ (by first | exact hs_ | (simp <;> omega)) _) | with_reducible (refine Below.drew ?_)))⟩
  obtain ⟨hn2, ha0, han⟩ := ck_ok hck
  obtain ⟨p, rfl⟩ := Int.eq_ofNat_of_zero_le ha0
  have HCK := Lib.hid hck
  rw [show ckE n (p : Int) = 0 from by simp [ckE, hck], show lfN n (p : Int) = (n : Int) - (p : Int) from by simp [lfN, hck]]
  clear hck ha0
  by_cases hpn : n = p
  · subst hpn
    have HE := Lib.hid (show dcE l (n : Int) = 24 from by rw [dcE, HL.out, HCK.out, if_neg (by simp), if_pos (by simp)])
    have HN0 := Lib.hid (show (24 : Int) ≠ 0 by decide)
    have d0 : ((n : Int) - (n : Int) == 0) = true := by simp
    have hcq := hc
    clear hc
    have hc : Blk w1 w.heap.size 39 #[.slice A n c, .int .i64 (n : Int)] := hcq
    clear hcq
    have z20 : w1.cell? ⟨w.heap.size, 0, none⟩ = some (.slice A n c) := (hc.cell 0).trans rfl
    have z21 := hc.frozen 0
    have z22 : w1.cell? ⟨w.heap.size, 1, none⟩ = some (.int .i64 ((n : Int))) := (hc.cell 1).trans rfl
    have z23 := hc.frozen 1
    have z24 : w1.cell? ⟨(w.heap.size + 1), 0, none⟩ = some (.slice none 0 0) := (h2.cell 0).trans rfl
    have z25 := h2.frozen 0
    have z26 : w1.cell? ⟨(w.heap.size + 1), 1, none⟩ = some (.int .i64 0) := (h2.cell 1).trans rfl
    have z27 := h2.frozen 1
    have z28 : w1.cell? ⟨(w.heap.size + 2), 0, none⟩ = some (.int .u8 0) := (h3.cell 0).trans rfl
    have z29 := h3.frozen 0
    have z30 : w1.cell? ⟨(w.heap.size + 2), 1, none⟩ = some (.int .i64 0) := (h3.cell 1).trans rfl
    have z31 := h3.frozen 1
    have z32 : w1.cell? ⟨(w.heap.size + 2), 2, none⟩ = some (.int .i64 0) := (h3.cell 2).trans rfl
    have z33 := h3.frozen 2
    have z34 : w1.cell? ⟨(w.heap.size + 2), 3, none⟩ = some (.int .i64 0) := (h3.cell 3).trans rfl
    have z35 := h3.frozen 3
    have z36 := hc.lt
    have z37 := h2.lt
    have z38 := h3.lt
    go_wp2_with fail
    refine (fail6_any 24 _).mono ?_
    rintro e f2 ⟨rfl, bB⟩
    replace hc := Blk.via0 (g := w.heap.size) (t := 39) bB (by repeat (first | with_reducible exact hc | with_reducible (apply Blk.set_) | with_reducible (apply Blk.far; case hp => (simp <;> omega)) | with_reducible (apply Blk.alloc) | with_reducible (apply Blk.drew)))
    replace hc : Blk f2 w.heap.size 39 #[.slice A n c, .int .i64 ((n : Int))] := hc
    replace h2 := Blk.via0 (g := (w.heap.size + 1)) (t := 39) bB (by repeat (first | with_reducible exact h2 | with_reducible (apply Blk.set_) | with_reducible (apply Blk.far; case hp => (simp <;> omega)) | with_reducible (apply Blk.alloc) | with_reducible (apply Blk.drew)))
    replace h2 : Blk f2 (w.heap.size + 1) 39 #[.slice none 0 0, .int .i64 0] := h2
    replace h3 := Blk.via0 (g := (w.heap.size + 2)) (t := 23) bB (by repeat (first | with_reducible exact h3 | with_reducible (apply Blk.set_) | with_reducible (apply Blk.far; case hp => (simp <;> omega)) | with_reducible (apply Blk.alloc) | with_reducible (apply Blk.drew)))
    replace h3 : Blk f2 (w.heap.size + 2) 23 #[.int .u8 0, .int .i64 0, .int .i64 0, .int .i64 0] := h3
    replace hB := Below.via (w := w) (by have hs_ := hB.size; repeat (first | with_reducible exact hB | with_reducible (refine Below.setCell ?_ (by simp <;> omega) _) | with_reducible (refine Below.alloc ?_ (by first | exact hs_ | (simp <;> omega)) _) | with_reducible (refine Below.drew ?_))) bB
    clear z20 z21 z22 z23 z24 z25 z26 z27 z28 z29 z30 z31 z32 z33 z34 z35 z36 z37 z38
    clear bB
    have z39 : f2.cell? ⟨(w.heap.size + 1), 0, none⟩ = some (.slice none 0 0) := (h2.cell 0).trans rfl
    have z40 := h2.frozen 0
    have z41 : f2.cell? ⟨(w.heap.size + 1), 1, none⟩ = some (.int .i64 0) := (h2.cell 1).trans rfl
    have z42 := h2.frozen 1
    have z43 : f2.cell? ⟨(w.heap.size + 2), 0, none⟩ = some (.int .u8 0) := (h3.cell 0).trans rfl
    have z44 := h3.frozen 0
    have z45 : f2.cell? ⟨(w.heap.size + 2), 1, none⟩ = some (.int .i64 0) := (h3.cell 1).trans rfl
    have z46 := h3.frozen 1
    have z47 : f2.cell? ⟨(w.heap.size + 2), 2, none⟩ = some (.int .i64 0) := (h3.cell 2).trans rfl
    have z48 := h3.frozen 2
    have z49 : f2.cell? ⟨(w.heap.size + 2), 3, none⟩ = some (.int .i64 0) := (h3.cell 3).trans rfl
    have z50 := h3.frozen 3
    have z51 := hc.lt
    have z52 := h2.lt
    have z53 := h3.lt
    go_wp2_with fail
    refine ret_cc1 rfl curT insT rfl (by repeat (first | with_reducible exact h2 | with_reducible (apply Blk.set_) | with_reducible (apply Blk.far; case hp => (simp <;> omega)) | with_reducible (apply Blk.alloc) | with_reducible (apply Blk.drew))) (by rfl) rfl (by repeat (first | with_reducible exact h3 | with_reducible (apply Blk.set_) | with_reducible (apply Blk.far; case hp => (simp <;> omega)) | with_reducible (apply Blk.alloc) | with_reducible (apply Blk.drew))) (by rfl) ?_
    exact ⟨.inr ⟨by rw [HE.out]; exact HN0.out, by rw [HE.out]; rfl⟩, (by have hs_ := hB.size; repeat (first | with_reducible exact hB | with_reducible (refine Below.setCell ?_ (by simp <;> omega) _) | with_reducible (refine Below.alloc ?_ (by first | exact hs_ | (simp <;> omega)) _) | with_reducible (refine Below.drew ?_)))⟩
  have hlt : p < n := by omega
  have d0 : ((n : Int) - (p : Int) == 0) = false := by simp; omega
  obtain ⟨ad, u, hA, hab, hu0, hcx⟩ := (HR.out.mv hB).at_ hlt
  have hpl : p < l.length := by rw [HL.out]; exact hlt
  rw [List.getElem?_map, List.getElem?_eq_getElem hpl] at hu0
  simp at hu0
  obtain ⟨x, hx0⟩ : ∃ x, l[p] = x := ⟨_, rfl⟩
  rw [hx0] at hu0
  subst hu0
  rw [b8] at hcx
  have HX := Lib.hid (show l.getD p 0 = x from by rw [List.getD_eq_getElem?_getD, List.getElem?_eq_getElem hpl, hx0]; rfl)
  have HA := Lib.hid hA
  subst hA
  clear hx0 hpl hpn
  obtain ⟨op, hop⟩ : ∃ op, x.toNat = op := ⟨_, rfl⟩
  have hop6 : op < 256 := by have := x.toNat_lt; omega
  rw [hop] at hcx
  have HOP := Lib.hid hop
  clear hop
  have z20 : w1.cell? ⟨w.heap.size, 0, none⟩ = some (.slice (some ad) n c) := (hc.cell 0).trans rfl
  have z21 := hc.frozen 0
  have z22 : w1.cell? ⟨w.heap.size, 1, none⟩ = some (.int .i64 (p : Int)) := (hc.cell 1).trans rfl
  have z23 := hc.frozen 1
  have z24 : w1.cell? ⟨(w.heap.size + 1), 0, none⟩ = some (.slice none 0 0) := (h2.cell 0).trans rfl
  have z25 := h2.frozen 0
  have z26 : w1.cell? ⟨(w.heap.size + 1), 1, none⟩ = some (.int .i64 0) := (h2.cell 1).trans rfl
  have z27 := h2.frozen 1
  have z28 : w1.cell? ⟨(w.heap.size + 2), 0, none⟩ = some (.int .u8 0) := (h3.cell 0).trans rfl
  have z29 := h3.frozen 0
  have z30 : w1.cell? ⟨(w.heap.size + 2), 1, none⟩ = some (.int .i64 0) := (h3.cell 1).trans rfl
  have z31 := h3.frozen 1
  have z32 : w1.cell? ⟨(w.heap.size + 2), 2, none⟩ = some (.int .i64 0) := (h3.cell 2).trans rfl
  have z33 := h3.frozen 2
  have z34 : w1.cell? ⟨(w.heap.size + 2), 3, none⟩ = some (.int .i64 0) := (h3.cell 3).trans rfl
  have z35 := h3.frozen 3
  have z36 := hc.lt
  have z37 := h2.lt
  have z38 := h3.lt
  go_wp2_with fail
  obtain ⟨a1, a2, a3, a4, b1, b2, b3, b4, c1, c2, c3, c4, m0, hsh, hn1, hn3⟩ := shp_form op
  have HSH := Lib.hid hsh
  have HS := fun W => shape_any op hop6 W
  rw [hsh, usL3] at HS
  clear hsh hcx
  refine (HS _).mono ?_
  rintro e w2 ⟨rfl, bB⟩
  have o_hc_hx : w.heap.size < w1.heap.size := (by omega)
  have o_h2_hx : (w.heap.size + 1) < w1.heap.size := (by omega)
  have o_h3_hx : (w.heap.size + 2) < w1.heap.size := (by omega)
  have ow_hx : w.heap.size ≤ w1.heap.size := (by have := hB.size; omega)
  replace hc := Blk.via0 (g := w.heap.size) (t := 39) bB (by repeat (first | with_reducible exact hc | with_reducible (apply Blk.set_) | with_reducible (apply Blk.far; case hp => (simp <;> omega)) | with_reducible (apply Blk.alloc) | with_reducible (apply Blk.drew)))
  replace hc : Blk w2 w.heap.size 39 #[.slice (some ad) n c, .int .i64 ((p : Int) + 1)] := hc
  replace h2 := Blk.via0 (g := (w.heap.size + 1)) (t := 39) bB (by repeat (first | with_reducible exact h2 | with_reducible (apply Blk.set_) | with_reducible (apply Blk.far; case hp => (simp <;> omega)) | with_reducible (apply Blk.alloc) | with_reducible (apply Blk.drew)))
  replace h2 : Blk w2 (w.heap.size + 1) 39 #[.slice none 0 0, .int .i64 0] := h2
  replace h3 := Blk.via0 (g := (w.heap.size + 2)) (t := 23) bB (by repeat (first | with_reducible exact h3 | with_reducible (apply Blk.set_) | with_reducible (apply Blk.far; case hp => (simp <;> omega)) | with_reducible (apply Blk.alloc) | with_reducible (apply Blk.drew)))
  replace h3 : Blk w2 (w.heap.size + 2) 23 #[.int .u8 0, .int .i64 0, .int .i64 0, .int .i64 0] := h3
  have hx := Blk.via0 (g := w1.heap.size) (t := 23) bB (by repeat (first | with_reducible exact Blk.newAt (by simp) _ _ | with_reducible (apply Blk.set_) | with_reducible (apply Blk.far; case hp => (simp <;> omega)) | with_reducible (apply Blk.alloc) | with_reducible (apply Blk.drew)))
  replace hx : Blk w2 w1.heap.size 23 #[.int .u8 (op : Int), .int .i64 0, .int .i64 0, .int .i64 0] := hx
  replace hB := Below.via (w := w) (by have hs_ := hB.size; repeat (first | with_reducible exact hB | with_reducible (refine Below.setCell ?_ (by simp <;> omega) _) | with_reducible (refine Below.alloc ?_ (by first | exact hs_ | (simp <;> omega)) _) | with_reducible (refine Below.drew ?_))) bB
  clear z20 z21 z22 z23 z24 z25 z26 z27 z28 z29 z30 z31 z32 z33 z34 z35 z36 z37 z38
  clear bB
  generalize w1.heap.size = px at *
  clear HS
  by_cases hneg : m0 < 0
  · have HE := Lib.hid (show dcE l (p : Int) = 12 from by
      rw [dcE, HL.out, HCK.out, if_neg (by simp), if_neg (by simp; omega), show ((p : Int)).toNat = p from by simp, HX.out, HOP.out, HSH.out, if_pos hneg])
    have HN0 := Lib.hid (show (12 : Int) ≠ 0 by decide)
    have z39 : w2.cell? ⟨w.heap.size, 0, none⟩ = some (.slice (some ad) n c) := (hc.cell 0).trans rfl
    have z40 := hc.frozen 0
    have z41 : w2.cell? ⟨w.heap.size, 1, none⟩ = some (.int .i64 ((p : Int) + 1)) := (hc.cell 1).trans rfl
    have z42 := hc.frozen 1
    have z43 : w2.cell? ⟨(w.heap.size + 1), 0, none⟩ = some (.slice none 0 0) := (h2.cell 0).trans rfl
    have z44 := h2.frozen 0
    have z45 : w2.cell? ⟨(w.heap.size + 1), 1, none⟩ = some (.int .i64 0) := (h2.cell 1).trans rfl
    have z46 := h2.frozen 1
    have z47 : w2.cell? ⟨(w.heap.size + 2), 0, none⟩ = some (.int .u8 0) := (h3.cell 0).trans rfl
    have z48 := h3.frozen 0
    have z49 : w2.cell? ⟨(w.heap.size + 2), 1, none⟩ = some (.int .i64 0) := (h3.cell 1).trans rfl
    have z50 := h3.frozen 1
    have z51 : w2.cell? ⟨(w.heap.size + 2), 2, none⟩ = some (.int .i64 0) := (h3.cell 2).trans rfl
    have z52 := h3.frozen 2
    have z53 : w2.cell? ⟨(w.heap.size + 2), 3, none⟩ = some (.int .i64 0) := (h3.cell 3).trans rfl
    have z54 := h3.frozen 3
    have z55 : w2.cell? ⟨px, 0, none⟩ = some (.int .u8 (op : Int)) := (hx.cell 0).trans rfl
    have z56 := hx.frozen 0
    have z57 : w2.cell? ⟨px, 1, none⟩ = some (.int .i64 0) := (hx.cell 1).trans rfl
    have z58 := hx.frozen 1
    have z59 : w2.cell? ⟨px, 2, none⟩ = some (.int .i64 0) := (hx.cell 2).trans rfl
    have z60 := hx.frozen 2
    have z61 : w2.cell? ⟨px, 3, none⟩ = some (.int .i64 0) := (hx.cell 3).trans rfl
    have z62 := hx.frozen 3
    have z63 := hc.lt
    have z64 := h2.lt
    have z65 := h3.lt
    have z66 := hx.lt
    go_wp2_with fail
    refine (fail6_any 12 _).mono ?_
    rintro e f3 ⟨rfl, bB⟩
    replace hc := Blk.via0 (g := w.heap.size) (t := 39) bB (by repeat (first | with_reducible exact hc | with_reducible (apply Blk.set_) | with_reducible (apply Blk.far; case hp => (simp <;> omega)) | with_reducible (apply Blk.alloc) | with_reducible (apply Blk.drew)))
    replace hc : Blk f3 w.heap.size 39 #[.slice (some ad) n c, .int .i64 ((p : Int) + 1)] := hc
    replace h2 := Blk.via0 (g := (w.heap.size + 1)) (t := 39) bB (by repeat (first | with_reducible exact h2 | with_reducible (apply Blk.set_) | with_reducible (apply Blk.far; case hp => (simp <;> omega)) | with_reducible (apply Blk.alloc) | with_reducible (apply Blk.drew)))
    replace h2 : Blk f3 (w.heap.size + 1) 39 #[.slice none 0 0, .int .i64 0] := h2
    replace h3 := Blk.via0 (g := (w.heap.size + 2)) (t := 23) bB (by repeat (first | with_reducible exact h3 | with_reducible (apply Blk.set_) | with_reducible (apply Blk.far; case hp => (simp <;> omega)) | with_reducible (apply Blk.alloc) | with_reducible (apply Blk.drew)))
    replace h3 : Blk f3 (w.heap.size + 2) 23 #[.int .u8 0, .int .i64 0, .int .i64 0, .int .i64 0] := h3
    replace hx := Blk.via0 (g := px) (t := 23) bB (by repeat (first | with_reducible exact hx | with_reducible (apply Blk.set_) | with_reducible (apply Blk.far; case hp => (simp <;> omega)) | with_reducible (apply Blk.alloc) | with_reducible (apply Blk.drew)))
    replace hx : Blk f3 px 23 #[.int .u8 (op : Int), .int .i64 0, .int .i64 0, .int .i64 0] := hx
    replace hB := Below.via (w := w) (by have hs_ := hB.size; repeat (first | with_reducible exact hB | with_reducible (refine Below.setCell ?_ (by simp <;> omega) _) | with_reducible (refine Below.alloc ?_ (by first | exact hs_ | (simp <;> omega)) _) | with_reducible (refine Below.drew ?_))) bB
    clear z39 z40 z41 z42 z43 z44 z45 z46 z47 z48 z49 z50 z51 z52 z53 z54 z55 z56 z57 z58 z59 z60 z61 z62 z63 z64 z65 z66
    clear bB
    have z67 : f3.cell? ⟨(w.heap.size + 1), 0, none⟩ = some (.slice none 0 0) := (h2.cell 0).trans rfl
    have z68 := h2.frozen 0
    have z69 : f3.cell? ⟨(w.heap.size + 1), 1, none⟩ = some (.int .i64 0) := (h2.cell 1).trans rfl
    have z70 := h2.frozen 1
    have z71 : f3.cell? ⟨(w.heap.size + 2), 0, none⟩ = some (.int .u8 0) := (h3.cell 0).trans rfl
    have z72 := h3.frozen 0
    have z73 : f3.cell? ⟨(w.heap.size + 2), 1, none⟩ = some (.int .i64 0) := (h3.cell 1).trans rfl
    have z74 := h3.frozen 1
    have z75 : f3.cell? ⟨(w.heap.size + 2), 2, none⟩ = some (.int .i64 0) := (h3.cell 2).trans rfl
    have z76 := h3.frozen 2
    have z77 : f3.cell? ⟨(w.heap.size + 2), 3, none⟩ = some (.int .i64 0) := (h3.cell 3).trans rfl
    have z78 := h3.frozen 3
    have z79 := hc.lt
    have z80 := h2.lt
    have z81 := h3.lt
    have z82 := hx.lt
    go_wp2_with fail
    refine ret_cc1 rfl curT insT rfl (by repeat (first | with_reducible exact h2 | with_reducible (apply Blk.set_) | with_reducible (apply Blk.far; case hp => (simp <;> omega)) | with_reducible (apply Blk.alloc) | with_reducible (apply Blk.drew))) (by rfl) rfl (by repeat (first | with_reducible exact h3 | with_reducible (apply Blk.set_) | with_reducible (apply Blk.far; case hp => (simp <;> omega)) | with_reducible (apply Blk.alloc) | with_reducible (apply Blk.drew))) (by rfl) ?_
    exact ⟨.inr ⟨by rw [HE.out]; exact HN0.out, by rw [HE.out]; rfl⟩, (by have hs_ := hB.size; repeat (first | with_reducible exact hB | with_reducible (refine Below.setCell ?_ (by simp <;> omega) _) | with_reducible (refine Below.alloc ?_ (by first | exact hs_ | (simp <;> omega)) _) | with_reducible (refine Below.drew ?_)))⟩
  obtain ⟨m, rfl⟩ := Int.eq_ofNat_of_zero_le (show 0 ≤ m0 by omega)
  have hm3 : m ≤ 3 := by omega
  have dm : decide ((m : Int) < 0) = false := by simp
  clear hneg hn1 hn3
  have z39 : w2.cell? ⟨w.heap.size, 0, none⟩ = some (.slice (some ad) n c) := (hc.cell 0).trans rfl
  have z40 := hc.frozen 0
  have z41 : w2.cell? ⟨w.heap.size, 1, none⟩ = some (.int .i64 ((p : Int) + 1)) := (hc.cell 1).trans rfl
  have z42 := hc.frozen 1
  have z43 : w2.cell? ⟨(w.heap.size + 1), 0, none⟩ = some (.slice none 0 0) := (h2.cell 0).trans rfl
  have z44 := h2.frozen 0
  have z45 : w2.cell? ⟨(w.heap.size + 1), 1, none⟩ = some (.int .i64 0) := (h2.cell 1).trans rfl
  have z46 := h2.frozen 1
  have z47 : w2.cell? ⟨(w.heap.size + 2), 0, none⟩ = some (.int .u8 0) := (h3.cell 0).trans rfl
  have z48 := h3.frozen 0
  have z49 : w2.cell? ⟨(w.heap.size + 2), 1, none⟩ = some (.int .i64 0) := (h3.cell 1).trans rfl
  have z50 := h3.frozen 1
  have z51 : w2.cell? ⟨(w.heap.size + 2), 2, none⟩ = some (.int .i64 0) := (h3.cell 2).trans rfl
  have z52 := h3.frozen 2
  have z53 : w2.cell? ⟨(w.heap.size + 2), 3, none⟩ = some (.int .i64 0) := (h3.cell 3).trans rfl
  have z54 := h3.frozen 3
  have z55 : w2.cell? ⟨px, 0, none⟩ = some (.int .u8 (op : Int)) := (hx.cell 0).trans rfl
  have z56 := hx.frozen 0
  have z57 : w2.cell? ⟨px, 1, none⟩ = some (.int .i64 0) := (hx.cell 1).trans rfl
  have z58 := hx.frozen 1
  have z59 : w2.cell? ⟨px, 2, none⟩ = some (.int .i64 0) := (hx.cell 2).trans rfl
  have z60 := hx.frozen 2
  have z61 : w2.cell? ⟨px, 3, none⟩ = some (.int .i64 0) := (hx.cell 3).trans rfl
  have z62 := hx.frozen 3
  have z63 := hc.lt
  have z64 := h2.lt
  have z65 := h3.lt
  have z66 := hx.lt
  go_wp2_with fail
  clear z39 z40 z41 z42 z43 z44 z45 z46 z47 z48 z49 z50 z51 z52 z53 z54 z55 z56 z57 z58 z59 z60 z61 z62 z63 z64 z65 z66
  have b_ : Below w2.heap.size w2 ((w2.alloc (.cells #[.int .i64 a1, .int .i64 a2, .bool a3, .bool a4, .int .i64 b1, .int .i64 b2, .bool b3, .bool b4, .int .i64 c1, .int .i64 c2, .bool c3, .bool c4] 55)).alloc (.cells #[.pointer (some ⟨px, 1, none⟩), .pointer (some ⟨px, 2, none⟩), .pointer (some ⟨px, 3, none⟩)] 69)) := ((Below.refl w2.heap.size w2).alloc (Nat.le_refl _) (.cells #[.int .i64 a1, .int .i64 a2, .bool a3, .bool a4, .int .i64 b1, .int .i64 b2, .bool b3, .bool b4, .int .i64 c1, .int .i64 c2, .bool c3, .bool c4] 55)).alloc (by simp) (.cells #[.pointer (some ⟨px, 1, none⟩), .pointer (some ⟨px, 2, none⟩), .pointer (some ⟨px, 3, none⟩)] 69)
  have opu := hx.lt
  have hu := Blk.alloc (Blk.new w2 55 #[.int .i64 a1, .int .i64 a2, .bool a3, .bool a4, .int .i64 b1, .int .i64 b2, .bool b3, .bool b4, .int .i64 c1, .int .i64 c2, .bool c3, .bool c4]) (.cells #[.pointer (some ⟨px, 1, none⟩), .pointer (some ⟨px, 2, none⟩), .pointer (some ⟨px, 3, none⟩)] 69)
  have ht := Blk.new (w2.alloc (.cells #[.int .i64 a1, .int .i64 a2, .bool a3, .bool a4, .int .i64 b1, .int .i64 b2, .bool b3, .bool b4, .int .i64 c1, .int .i64 c2, .bool c3, .bool c4] 55)) 69 #[.pointer (some ⟨px, 1, none⟩), .pointer (some ⟨px, 2, none⟩), .pointer (some ⟨px, 3, none⟩)]
  rw [alloc_size] at ht
  replace hc := hc.below b_ hc.lt
  replace h2 := h2.below b_ h2.lt
  replace h3 := h3.below b_ h3.lt
  replace hx := hx.below b_ hx.lt
  replace hB := hB.trans (b_.mono hB.size)
  clear b_
  generalize ((w2.alloc (.cells #[.int .i64 a1, .int .i64 a2, .bool a3, .bool a4, .int .i64 b1, .int .i64 b2, .bool b3, .bool b4, .int .i64 c1, .int .i64 c2, .bool c3, .bool c4] 55)).alloc (.cells #[.pointer (some ⟨px, 1, none⟩), .pointer (some ⟨px, 2, none⟩), .pointer (some ⟨px, 3, none⟩)] 69)) = w3 at *
  generalize w2.heap.size = pu at *
  have HD0 := Lib.hid (show dcD l p = dcL (m - 0) [(a1, a2, a3, a4), (b1, b2, b3, b4), (c1, c2, c3, c4)] l (p + 1) from by unfold dcD; rw [HX.out, HOP.out, HSH.out]; rfl)
  go_loopw [64] (fun i wr => ∃ (j q : Nat) (v0 v1 v2 : Int), j ≤ m ∧ i = .int .i64 (j : Int) ∧ q ≤ n ∧ (j = 0 → v0 = 0 ∧ v1 = 0 ∧ v2 = 0 ∧ dcD l p = dcL (m - 0) [(a1, a2, a3, a4), (b1, b2, b3, b4), (c1, c2, c3, c4)] l q) ∧ (j = 1 → v1 = 0 ∧ v2 = 0 ∧ (dcD l p).1 = (dcL (m - 1) [(b1, b2, b3, b4), (c1, c2, c3, c4)] l q).1 ∧ (dcD l p).2.1 = v0 :: (dcL (m - 1) [(b1, b2, b3, b4), (c1, c2, c3, c4)] l q).2.1 ∧ (dcD l p).2.2 = (dcL (m - 1) [(b1, b2, b3, b4), (c1, c2, c3, c4)] l q).2.2) ∧ (j = 2 → v2 = 0 ∧ (dcD l p).1 = (dcL (m - 2) [(c1, c2, c3, c4)] l q).1 ∧ (dcD l p).2.1 = v0 :: v1 :: (dcL (m - 2) [(c1, c2, c3, c4)] l q).2.1 ∧ (dcD l p).2.2 = (dcL (m - 2) [(c1, c2, c3, c4)] l q).2.2) ∧ (j = 3 → (dcD l p).1 = 0 ∧ (dcD l p).2.1 = [v0, v1, v2] ∧ (dcD l p).2.2 = q) ∧ Blk wr w.heap.size 39 #[.slice (some ad) n c, .int .i64 (q : Int)] ∧ Blk wr (w.heap.size + 1) 39 #[.slice none 0 0, .int .i64 0] ∧ Blk wr (w.heap.size + 2) 23 #[.int .u8 0, .int .i64 0, .int .i64 0, .int .i64 0] ∧ Blk wr px 23 #[.int .u8 (op : Int), .int .i64 v0, .int .i64 v1, .int .i64 v2] ∧ Blk wr pu 55 #[.int .i64 a1, .int .i64 a2, .bool a3, .bool a4, .int .i64 b1, .int .i64 b2, .bool b3, .bool b4, .int .i64 c1, .int .i64 c2, .bool c3, .bool c4] ∧ Blk wr (pu + 1) 69 #[.pointer (some ⟨px, 1, none⟩), .pointer (some ⟨px, 2, none⟩), .pointer (some ⟨px, 3, none⟩)] ∧ Below w.heap.size w wr) (fun i _ => 3 - (intOf i).toNat)
  case atStart => exact ⟨0, p + 1, 0, 0, 0, by omega, rfl, by omega, fun _ => ⟨rfl, rfl, rfl, HD0.out⟩, by omega, by omega, by omega, by exact_mod_cast hc, h2, h3, hx, hu, ht, hB⟩
  case round =>
    clear hc h2 h3 hx hu ht hB
    obtain ⟨j, q, v0, v1, v2, hj, rfl, hq, h0_, h1_, h2_, h3_, hc, h2, h3, hx, hu, ht, hB⟩ := hrel
    rcases j with _ | _ | _ | _ | j
    · obtain ⟨rfl, rfl, rfl, d1⟩ := h0_ rfl
      have D1 := Lib.hid d1
      clear d1
      clear h0_ h1_ h2_ h3_
      by_cases hmj : m ≤ 0
      · have hm0 : m - 0 = 0 := by omega
        have dj : decide ((0 : Int) < (m : Int)) = false := by simp; omega
        have E1 := Lib.hid (show (dcD l p).1 = 0 from by rw [D1.out, hm0, dcL_zero])
        have E2 := Lib.hid (show (dcD l p).2.1 = [] from by rw [D1.out, hm0, dcL_zero])
        have E3 := Lib.hid (show (dcD l p).2.2 = q from by rw [D1.out, hm0, dcL_zero])
        have EP := Lib.hid (show padI (dcD l p).2.1 0 = 0 ∧ padI (dcD l p).2.1 1 = 0 ∧ padI (dcD l p).2.1 2 = 0 from by rw [E2.out]; exact ⟨rfl, rfl, rfl⟩)
        have z901 : wr.cell? ⟨w.heap.size, 0, none⟩ = some (.slice (some ad) n c) := (hc.cell 0).trans rfl
        have z902 := hc.frozen 0
        have z903 : wr.cell? ⟨w.heap.size, 1, none⟩ = some (.int .i64 (q : Int)) := (hc.cell 1).trans rfl
        have z904 := hc.frozen 1
        have z905 : wr.cell? ⟨px, 0, none⟩ = some (.int .u8 (op : Int)) := (hx.cell 0).trans rfl
        have z906 := hx.frozen 0
        have z907 : wr.cell? ⟨px, 1, none⟩ = some (.int .i64 0) := (hx.cell 1).trans rfl
        have z908 := hx.frozen 1
        have z909 : wr.cell? ⟨px, 2, none⟩ = some (.int .i64 0) := (hx.cell 2).trans rfl
        have z910 := hx.frozen 2
        have z911 : wr.cell? ⟨px, 3, none⟩ = some (.int .i64 0) := (hx.cell 3).trans rfl
        have z912 := hx.frozen 3
        have z913 := hc.lt
        have z914 := h2.lt
        have z915 := h3.lt
        have z916 := hx.lt
        have z917 := hu.lt
        have z918 := ht.lt
        go_wp2_with fail
        refine (check6_any op hop6 0 0 0 _).mono ?_
        rintro e y1 ⟨rfl, bB⟩
        replace hc := hc.below bB hc.lt
        replace h2 := h2.below bB h2.lt
        replace h3 := h3.below bB h3.lt
        replace hx := hx.below bB hx.lt
        replace hu := hu.below bB hu.lt
        replace ht := ht.below bB ht.lt
        replace hB := hB.trans (bB.mono hB.size)
        clear z901 z902 z903 z904 z905 z906 z907 z908 z909 z910 z911 z912 z913 z914 z915 z916 z917 z918
        clear bB
        by_cases hck : ckI op 0 0 0 = 0
        · have HE := Lib.hid (show dcE l (p : Int) = 0 from by
            rw [dcE, HL.out, HCK.out, if_neg (by simp), if_neg (by simp; omega), show ((p : Int)).toNat = p from by simp, HX.out, HOP.out, HSH.out, if_neg (by simp), if_neg (by rw [E1.out]; simp), EP.out.1, EP.out.2.1, EP.out.2.2, if_pos hck])
          rw [hck]
          clear hck
          have z919 : y1.cell? ⟨w.heap.size, 0, none⟩ = some (.slice (some ad) n c) := (hc.cell 0).trans rfl
          have z920 := hc.frozen 0
          have z921 : y1.cell? ⟨w.heap.size, 1, none⟩ = some (.int .i64 (q : Int)) := (hc.cell 1).trans rfl
          have z922 := hc.frozen 1
          have z923 : y1.cell? ⟨px, 0, none⟩ = some (.int .u8 (op : Int)) := (hx.cell 0).trans rfl
          have z924 := hx.frozen 0
          have z925 : y1.cell? ⟨px, 1, none⟩ = some (.int .i64 0) := (hx.cell 1).trans rfl
          have z926 := hx.frozen 1
          have z927 : y1.cell? ⟨px, 2, none⟩ = some (.int .i64 0) := (hx.cell 2).trans rfl
          have z928 := hx.frozen 2
          have z929 : y1.cell? ⟨px, 3, none⟩ = some (.int .i64 0) := (hx.cell 3).trans rfl
          have z930 := hx.frozen 3
          have z931 := hc.lt
          have z932 := h2.lt
          have z933 := h3.lt
          have z934 := hx.lt
          have z935 := hu.lt
          have z936 := ht.lt
          go_wp2_with fail
          clear z919 z920 z921 z922 z923 z924 z925 z926 z927 z928 z929 z930 z931 z932 z933 z934 z935 z936
          refine s_go (KeepS [(w.heap.size, 39, #[.slice (some ad) n c, .int .i64 (q : Int)]), (px, 23, #[.int .u8 (op : Int), .int .i64 0, .int .i64 0, .int .i64 0])]) (by kernel_rfl) (fun hQ0 x9 b => ?_)
          replace hc : Blk x9 w.heap.size 39 #[.slice (some ad) n c, .int .i64 (q : Int)] := hc.below b hc.lt
          replace hx : Blk x9 px 23 #[.int .u8 (op : Int), .int .i64 0, .int .i64 0, .int .i64 0] := hx.below b hx.lt
          replace h2 := h2.below b h2.lt
          replace h3 := h3.below b h3.lt
          replace hB := hB.trans (b.mono hB.size)
          clear b
          refine ⟨KeepS.cons hc (KeepS.cons hx (KeepS.nil _)), ?_⟩
          have hQ := And.intro hQ0 (KeepS.cons hc (KeepS.cons hx (KeepS.nil x9)))
          have X0 : ∀ W, KeepS [(w.heap.size, 39, #[.slice (some ad) n c, .int .i64 (q : Int)]), (px, 23, #[.int .u8 (op : Int), .int .i64 0, .int .i64 0, .int .i64 0])] W → W.cell? ⟨w.heap.size, 0, none⟩ = some (.slice (some ad) n c) := fun W h => (h.hd.cell 0).trans rfl
          have X1 : ∀ W, KeepS [(w.heap.size, 39, #[.slice (some ad) n c, .int .i64 (q : Int)]), (px, 23, #[.int .u8 (op : Int), .int .i64 0, .int .i64 0, .int .i64 0])] W → W.cell? ⟨w.heap.size, 1, none⟩ = some (.int .i64 (q : Int)) := fun W h => (h.hd.cell 1).trans rfl
          have X2 : ∀ W, KeepS [(w.heap.size, 39, #[.slice (some ad) n c, .int .i64 (q : Int)]), (px, 23, #[.int .u8 (op : Int), .int .i64 0, .int .i64 0, .int .i64 0])] W → W.cell? ⟨px, 0, none⟩ = some (.int .u8 (op : Int)) := fun W h => (h.tl.hd.cell 0).trans rfl
          have X3 : ∀ W, KeepS [(w.heap.size, 39, #[.slice (some ad) n c, .int .i64 (q : Int)]), (px, 23, #[.int .u8 (op : Int), .int .i64 0, .int .i64 0, .int .i64 0])] W → W.cell? ⟨px, 1, none⟩ = some (.int .i64 0) := fun W h => (h.tl.hd.cell 1).trans rfl
          have X4 : ∀ W, KeepS [(w.heap.size, 39, #[.slice (some ad) n c, .int .i64 (q : Int)]), (px, 23, #[.int .u8 (op : Int), .int .i64 0, .int .i64 0, .int .i64 0])] W → W.cell? ⟨px, 2, none⟩ = some (.int .i64 0) := fun W h => (h.tl.hd.cell 2).trans rfl
          have X5 : ∀ W, KeepS [(w.heap.size, 39, #[.slice (some ad) n c, .int .i64 (q : Int)]), (px, 23, #[.int .u8 (op : Int), .int .i64 0, .int .i64 0, .int .i64 0])] W → W.cell? ⟨px, 3, none⟩ = some (.int .i64 0) := fun W h => (h.tl.hd.cell 3).trans rfl
          refine s_take (i := 0) (oi := ?oia00) (v := ?va00) ?hia00 (by kernel_rfl) (by kernel_rfl) (by kernel_rfl) hQ ?hwa00 ?hya00 ?resta00
          case hia00 => simp only [List.getElem?_toArray, List.getElem?_cons_zero]; rfl
          case hwa00 => rfl
          case hya00 => intro W hW; go_simp; with_reducible rfl
          simp only [Act.put, List.setIfInBounds_toArray, List.set_cons_zero, List.set_cons_succ]
          refine s_take (i := 1) (oi := ?oia01) (v := ?va01) ?hia01 (by kernel_rfl) (by kernel_rfl) (by kernel_rfl) hQ ?hwa01 ?hya01 ?resta01
          case hia01 => simp only [List.getElem?_toArray, List.getElem?_cons_zero, List.getElem?_cons_succ]; rfl
          case hwa01 => rfl
          case hya01 => intro W hW; go_simp; with_reducible rfl
          simp only [Act.put, List.setIfInBounds_toArray, List.set_cons_zero, List.set_cons_succ]
          refine s_step (i := 2) (oi := ?oia02) (by kernel_rfl) ?hia02 ?hwa02 (fun K hK => ?_)
          case hia02 => simp only [List.getElem?_toArray, List.getElem?_cons_zero, List.getElem?_cons_succ]; rfl
          case hwa02 => rfl
          have y0 : x9.cell? ⟨(w.heap.size + 1), 0, none⟩ = some (.slice none 0 0) := (h2.cell 0).trans rfl; have yf0 := h2.frozen 0; have y1 : x9.cell? ⟨(w.heap.size + 1), 1, none⟩ = some (.int .i64 0) := (h2.cell 1).trans rfl; have yf1 := h2.frozen 1; go_simp; clear y0 yf0 y1 yf1; have gm : Blk ((x9.setCell ⟨(w.heap.size + 1), 0, none⟩ (.slice (some ad) n c)).setCell ⟨(w.heap.size + 1), 1, none⟩ (.int .i64 (q : Int))) (w.heap.size + 1) 39 #[.slice (some ad) n c, .int .i64 (q : Int)] := ((h2.set_ 0 (.slice (some ad) n c)).set_ 1 (.int .i64 (q : Int))); have gc := ((hc.far (p := ⟨(w.heap.size + 1), 0, none⟩) (by simp <;> omega) (.slice (some ad) n c)).far (p := ⟨(w.heap.size + 1), 1, none⟩) (by simp <;> omega) (.int .i64 (q : Int))); have gx := ((hx.far (p := ⟨(w.heap.size + 1), 0, none⟩) (by simp <;> omega) (.slice (some ad) n c)).far (p := ⟨(w.heap.size + 1), 1, none⟩) (by simp <;> omega) (.int .i64 (q : Int))); have go_ := ((h3.far (p := ⟨(w.heap.size + 1), 0, none⟩) (by simp <;> omega) (.slice (some ad) n c)).far (p := ⟨(w.heap.size + 1), 1, none⟩) (by simp <;> omega) (.int .i64 (q : Int))); have gB := ((hB.setCell (p := ⟨(w.heap.size + 1), 0, none⟩) (by simp <;> omega) (.slice (some ad) n c)).setCell (p := ⟨(w.heap.size + 1), 1, none⟩) (by simp <;> omega) (.int .i64 (q : Int))); refine hK _ _ (KeepS.cons gc (KeepS.cons gx (KeepS.nil _))) ?_; clear hc hx h2 h3 hB; generalize ((x9.setCell ⟨(w.heap.size + 1), 0, none⟩ (.slice (some ad) n c)).setCell ⟨(w.heap.size + 1), 1, none⟩ (.int .i64 (q : Int))) = x8 at *; have h2 := gm; have hc := gc; have hx := gx; have h3 := go_; have hB := gB; clear gm gc gx go_ gB; have hQ := And.intro hQ0 (KeepS.cons hc (KeepS.cons hx (KeepS.nil x8)))
          try simp only [Act.put, List.setIfInBounds_toArray, List.set_cons_zero, List.set_cons_succ]
          refine s_step (i := 3) (oi := ?oia03) (by kernel_rfl) ?hia03 ?hwa03 (fun K hK => ?_)
          case hia03 => simp only [List.getElem?_toArray, List.getElem?_cons_zero, List.getElem?_cons_succ]; rfl
          case hwa03 => rfl
          have y0 : x8.cell? ⟨(w.heap.size + 2), 0, none⟩ = some (.int .u8 0) := (h3.cell 0).trans rfl; have yf0 := h3.frozen 0; have y1 : x8.cell? ⟨(w.heap.size + 2), 1, none⟩ = some (.int .i64 0) := (h3.cell 1).trans rfl; have yf1 := h3.frozen 1; have y2 : x8.cell? ⟨(w.heap.size + 2), 2, none⟩ = some (.int .i64 0) := (h3.cell 2).trans rfl; have yf2 := h3.frozen 2; have y3 : x8.cell? ⟨(w.heap.size + 2), 3, none⟩ = some (.int .i64 0) := (h3.cell 3).trans rfl; have yf3 := h3.frozen 3; go_simp; clear y0 yf0 y1 yf1 y2 yf2 y3 yf3; have gm : Blk ((((x8.setCell ⟨(w.heap.size + 2), 0, none⟩ (.int .u8 (op : Int))).setCell ⟨(w.heap.size + 2), 1, none⟩ (.int .i64 0)).setCell ⟨(w.heap.size + 2), 2, none⟩ (.int .i64 0)).setCell ⟨(w.heap.size + 2), 3, none⟩ (.int .i64 0)) (w.heap.size + 2) 23 #[.int .u8 (op : Int), .int .i64 0, .int .i64 0, .int .i64 0] := ((((h3.set_ 0 (.int .u8 (op : Int))).set_ 1 (.int .i64 0)).set_ 2 (.int .i64 0)).set_ 3 (.int .i64 0)); have gc := ((((hc.far (p := ⟨(w.heap.size + 2), 0, none⟩) (by simp <;> omega) (.int .u8 (op : Int))).far (p := ⟨(w.heap.size + 2), 1, none⟩) (by simp <;> omega) (.int .i64 0)).far (p := ⟨(w.heap.size + 2), 2, none⟩) (by simp <;> omega) (.int .i64 0)).far (p := ⟨(w.heap.size + 2), 3, none⟩) (by simp <;> omega) (.int .i64 0)); have gx := ((((hx.far (p := ⟨(w.heap.size + 2), 0, none⟩) (by simp <;> omega) (.int .u8 (op : Int))).far (p := ⟨(w.heap.size + 2), 1, none⟩) (by simp <;> omega) (.int .i64 0)).far (p := ⟨(w.heap.size + 2), 2, none⟩) (by simp <;> omega) (.int .i64 0)).far (p := ⟨(w.heap.size + 2), 3, none⟩) (by simp <;> omega) (.int .i64 0)); have go_ := ((((h2.far (p := ⟨(w.heap.size + 2), 0, none⟩) (by simp <;> omega) (.int .u8 (op : Int))).far (p := ⟨(w.heap.size + 2), 1, none⟩) (by simp <;> omega) (.int .i64 0)).far (p := ⟨(w.heap.size + 2), 2, none⟩) (by simp <;> omega) (.int .i64 0)).far (p := ⟨(w.heap.size + 2), 3, none⟩) (by simp <;> omega) (.int .i64 0)); have gB := ((((hB.setCell (p := ⟨(w.heap.size + 2), 0, none⟩) (by simp <;> omega) (.int .u8 (op : Int))).setCell (p := ⟨(w.heap.size + 2), 1, none⟩) (by simp <;> omega) (.int .i64 0)).setCell (p := ⟨(w.heap.size + 2), 2, none⟩) (by simp <;> omega) (.int .i64 0)).setCell (p := ⟨(w.heap.size + 2), 3, none⟩) (by simp <;> omega) (.int .i64 0)); refine hK _ _ (KeepS.cons gc (KeepS.cons gx (KeepS.nil _))) ?_; clear hc hx h2 h3 hB; generalize ((((x8.setCell ⟨(w.heap.size + 2), 0, none⟩ (.int .u8 (op : Int))).setCell ⟨(w.heap.size + 2), 1, none⟩ (.int .i64 0)).setCell ⟨(w.heap.size + 2), 2, none⟩ (.int .i64 0)).setCell ⟨(w.heap.size + 2), 3, none⟩ (.int .i64 0)) = x7 at *; have h3 := gm; have hc := gc; have hx := gx; have h2 := go_; have hB := gB; clear gm gc gx go_ gB; have hQ := And.intro hQ0 (KeepS.cons hc (KeepS.cons hx (KeepS.nil x7)))
          try simp only [Act.put, List.setIfInBounds_toArray, List.set_cons_zero, List.set_cons_succ]
          refine s_take (i := 4) (oi := ?oia04) (v := ?va04) ?hia04 (by kernel_rfl) (by kernel_rfl) (by kernel_rfl) hQ ?hwa04 ?hya04 ?resta04
          case hia04 => simp only [List.getElem?_toArray, List.getElem?_cons_zero, List.getElem?_cons_succ]; rfl
          case hwa04 => rfl
          case hya04 => intro W hW; go_simp; with_reducible rfl
          simp only [Act.put, List.setIfInBounds_toArray, List.set_cons_zero, List.set_cons_succ]
          refine wpAnyH_done (by kernel_rfl) ?_ _
          simp only [NoP]
          clear X0 X1 X2 X3 X4 X5 hQ hQ0
          go_wp2_with fail
          refine ret_cc1 rfl curT insT rfl h2 (by rfl) rfl h3 (by rfl) ?_
          exact ⟨.inl ⟨HE.out, by rw [show ((p : Int)).toNat = p from by simp, HX.out, HOP.out, E3.out, EP.out.1, EP.out.2.1, EP.out.2.2]; rfl⟩, hB⟩
        · have HE := Lib.hid (show dcE l (p : Int) = 12 from by
            rw [dcE, HL.out, HCK.out, if_neg (by simp), if_neg (by simp; omega), show ((p : Int)).toNat = p from by simp, HX.out, HOP.out, HSH.out, if_neg (by simp), if_neg (by rw [E1.out]; simp), EP.out.1, EP.out.2.1, EP.out.2.2, if_neg hck])
          have HN0 := Lib.hid (show (12 : Int) ≠ 0 by decide)
          obtain ⟨E, hE⟩ : ∃ E, ckI op 0 0 0 = E := ⟨_, rfl⟩
          rw [hE] at hck ⊢
          have dr : (E != 0) = true := by rw [bne_iff_ne]; exact hck
          clear hck hE
          have z919 : y1.cell? ⟨w.heap.size, 0, none⟩ = some (.slice (some ad) n c) := (hc.cell 0).trans rfl
          have z920 := hc.frozen 0
          have z921 : y1.cell? ⟨w.heap.size, 1, none⟩ = some (.int .i64 (q : Int)) := (hc.cell 1).trans rfl
          have z922 := hc.frozen 1
          have z923 : y1.cell? ⟨px, 0, none⟩ = some (.int .u8 (op : Int)) := (hx.cell 0).trans rfl
          have z924 := hx.frozen 0
          have z925 : y1.cell? ⟨px, 1, none⟩ = some (.int .i64 0) := (hx.cell 1).trans rfl
          have z926 := hx.frozen 1
          have z927 : y1.cell? ⟨px, 2, none⟩ = some (.int .i64 0) := (hx.cell 2).trans rfl
          have z928 := hx.frozen 2
          have z929 : y1.cell? ⟨px, 3, none⟩ = some (.int .i64 0) := (hx.cell 3).trans rfl
          have z930 := hx.frozen 3
          have z931 := hc.lt
          have z932 := h2.lt
          have z933 := h3.lt
          have z934 := hx.lt
          have z935 := hu.lt
          have z936 := ht.lt
          go_wp2_with fail
          refine (fail6_any 12 _).mono ?_
          rintro e f4 ⟨rfl, bB⟩
          replace h2 := Blk.via0 (g := (w.heap.size + 1)) (t := 39) bB (by repeat (first | with_reducible exact h2 | with_reducible (apply Blk.set_) | with_reducible (apply Blk.far; case hp => (simp <;> omega)) | with_reducible (apply Blk.alloc) | with_reducible (apply Blk.drew)))
          replace h2 : Blk f4 (w.heap.size + 1) 39 #[.slice none 0 0, .int .i64 0] := h2
          replace h3 := Blk.via0 (g := (w.heap.size + 2)) (t := 23) bB (by repeat (first | with_reducible exact h3 | with_reducible (apply Blk.set_) | with_reducible (apply Blk.far; case hp => (simp <;> omega)) | with_reducible (apply Blk.alloc) | with_reducible (apply Blk.drew)))
          replace h3 : Blk f4 (w.heap.size + 2) 23 #[.int .u8 0, .int .i64 0, .int .i64 0, .int .i64 0] := h3
          replace hB := Below.via (w := w) (by have hs_ := hB.size; repeat (first | with_reducible exact hB | with_reducible (refine Below.setCell ?_ (by simp <;> omega) _) | with_reducible (refine Below.alloc ?_ (by first | exact hs_ | (simp <;> omega)) _) | with_reducible (refine Below.drew ?_))) bB
          clear z919 z920 z921 z922 z923 z924 z925 z926 z927 z928 z929 z930 z931 z932 z933 z934 z935 z936
          clear bB
          have z937 : f4.cell? ⟨(w.heap.size + 1), 0, none⟩ = some (.slice none 0 0) := (h2.cell 0).trans rfl
          have z938 := h2.frozen 0
          have z939 : f4.cell? ⟨(w.heap.size + 1), 1, none⟩ = some (.int .i64 0) := (h2.cell 1).trans rfl
          have z940 := h2.frozen 1
          have z941 : f4.cell? ⟨(w.heap.size + 2), 0, none⟩ = some (.int .u8 0) := (h3.cell 0).trans rfl
          have z942 := h3.frozen 0
          have z943 : f4.cell? ⟨(w.heap.size + 2), 1, none⟩ = some (.int .i64 0) := (h3.cell 1).trans rfl
          have z944 := h3.frozen 1
          have z945 : f4.cell? ⟨(w.heap.size + 2), 2, none⟩ = some (.int .i64 0) := (h3.cell 2).trans rfl
          have z946 := h3.frozen 2
          have z947 : f4.cell? ⟨(w.heap.size + 2), 3, none⟩ = some (.int .i64 0) := (h3.cell 3).trans rfl
          have z948 := h3.frozen 3
          have z949 := h2.lt
          have z950 := h3.lt
          go_wp2_with fail
          refine ret_cc1 rfl curT insT rfl (by repeat (first | with_reducible exact h2 | with_reducible (apply Blk.set_) | with_reducible (apply Blk.far; case hp => (simp <;> omega)) | with_reducible (apply Blk.alloc) | with_reducible (apply Blk.drew))) (by rfl) rfl (by repeat (first | with_reducible exact h3 | with_reducible (apply Blk.set_) | with_reducible (apply Blk.far; case hp => (simp <;> omega)) | with_reducible (apply Blk.alloc) | with_reducible (apply Blk.drew))) (by rfl) ?_
          exact ⟨.inr ⟨by rw [HE.out]; exact HN0.out, by rw [HE.out]; rfl⟩, (by have hs_ := hB.size; repeat (first | with_reducible exact hB | with_reducible (refine Below.setCell ?_ (by simp <;> omega) _) | with_reducible (refine Below.alloc ?_ (by first | exact hs_ | (simp <;> omega)) _) | with_reducible (refine Below.drew ?_)))⟩
      obtain ⟨r, hr⟩ : ∃ r, m - 0 = r + 1 := ⟨m - 0 - 1, by omega⟩
      have HRR := Lib.hid hr
      have dj : decide ((0 : Int) < (m : Int)) = true := by simp; omega
      have hrr := Lib.hid (show m - 1 = r by omega)
      clear hr
      obtain ⟨er, her⟩ : ∃ er, uvE l (q : Int) 18446744073709551615 = er := ⟨_, rfl⟩
      have HER := Lib.hid her
      have hlt0 : a1 < 0 ∨ ¬ a1 < 0 := by omega
      rcases hlt0 with hl | hl
      · have dl : decide (a1 < 0) = true := by simp; omega
        have HU := fun W h => unsigned_any (some ad) n c l (q : Int) W h hnc.2 (by omega)
        by_cases he0 : er = 0
        · subst he0
          obtain ⟨e1, e2⟩ := uv_ok (some ad) n c her
          rw [e2, her] at HU
          obtain ⟨hz1, hz2, hz3⟩ := uv_zero her
          obtain ⟨hy1, hy2, hy3, _⟩ := uvR_le hz2
          rw [show ((q : Int)).toNat = q from by simp] at hy3
          obtain ⟨s, hs⟩ : ∃ s, (uvR l (q : Int)).2.2 = s := ⟨_, rfl⟩
          have hqs : q + s ≤ n := by rw [← HL.out, ← hs]; exact hy3
          obtain ⟨u, hu_⟩ : ∃ u, uvN l (q : Int) 18446744073709551615 = u := ⟨_, rfl⟩
          have hub : u < 18446744073709551616 := by rw [← hu_, e1]; exact hy1
          rw [hs, hu_] at HU
          rw [show (q : Int) + (s : Nat) = ((q + s : Nat) : Int) from by omega] at HU
          have HDV := Lib.hid (show dvN (a1, a2, a3, a4) l q = hlf u from by rw [dvN, hu_]; simp only; rw [if_pos (by omega)])
          have HST := Lib.hid (show dcL (m - 0) [(a1, a2, a3, a4), (b1, b2, b3, b4), (c1, c2, c3, c4)] l q = ((dcL (m - 1) [(b1, b2, b3, b4), (c1, c2, c3, c4)] l (q + s)).1, dvN (a1, a2, a3, a4) l q :: (dcL (m - 1) [(b1, b2, b3, b4), (c1, c2, c3, c4)] l (q + s)).2.1, (dcL (m - 1) [(b1, b2, b3, b4), (c1, c2, c3, c4)] l (q + s)).2.2) from by
            rw [HRR.out, hrr.out, dcL_ok HER.out, hs])
          clear her e1 e2 hz1 hz2 hz3 hy1 hy2 hy3 hs hu_
          have z901 : wr.cell? ⟨w.heap.size, 0, none⟩ = some (.slice (some ad) n c) := (hc.cell 0).trans rfl
          have z902 := hc.frozen 0
          have z903 : wr.cell? ⟨w.heap.size, 1, none⟩ = some (.int .i64 (q : Int)) := (hc.cell 1).trans rfl
          have z904 := hc.frozen 1
          have z905 : wr.cell? ⟨px, 0, none⟩ = some (.int .u8 (op : Int)) := (hx.cell 0).trans rfl
          have z906 := hx.frozen 0
          have z907 : wr.cell? ⟨px, 1, none⟩ = some (.int .i64 0) := (hx.cell 1).trans rfl
          have z908 := hx.frozen 1
          have z909 : wr.cell? ⟨px, 2, none⟩ = some (.int .i64 0) := (hx.cell 2).trans rfl
          have z910 := hx.frozen 2
          have z911 : wr.cell? ⟨px, 3, none⟩ = some (.int .i64 0) := (hx.cell 3).trans rfl
          have z912 := hx.frozen 3
          have z913 := hc.lt
          have z914 := h2.lt
          have z915 := h3.lt
          have z916 := hx.lt
          have z917 := hu.lt
          have z918 := ht.lt
          have z919 : wr.cell? ⟨pu, 0, none⟩ = some (.int .i64 a1) := (hu.cell 0).trans rfl
          have z920 : wr.cell? ⟨pu + 1, 0, none⟩ = some (.pointer (some ⟨px, 1, none⟩)) := (ht.cell 0).trans rfl
          go_wp2_with fail
          refine (HU _ (HR.out.mv hB)).mono ?_
          rintro e x1 ⟨rfl, bB⟩
          replace hc := hc.below bB hc.lt
          replace h2 := h2.below bB h2.lt
          replace h3 := h3.below bB h3.lt
          replace hx := hx.below bB hx.lt
          replace hu := hu.below bB hu.lt
          replace ht := ht.below bB ht.lt
          replace hB := hB.trans (bB.mono hB.size)
          clear z901 z902 z903 z904 z905 z906 z907 z908 z909 z910 z911 z912 z913 z914 z915 z916 z917 z918 z919 z920
          clear bB
          clear HU
          have z921 : x1.cell? ⟨w.heap.size, 0, none⟩ = some (.slice (some ad) n c) := (hc.cell 0).trans rfl
          have z922 := hc.frozen 0
          have z923 : x1.cell? ⟨w.heap.size, 1, none⟩ = some (.int .i64 (q : Int)) := (hc.cell 1).trans rfl
          have z924 := hc.frozen 1
          have z925 : x1.cell? ⟨px, 0, none⟩ = some (.int .u8 (op : Int)) := (hx.cell 0).trans rfl
          have z926 := hx.frozen 0
          have z927 : x1.cell? ⟨px, 1, none⟩ = some (.int .i64 0) := (hx.cell 1).trans rfl
          have z928 := hx.frozen 1
          have z929 : x1.cell? ⟨px, 2, none⟩ = some (.int .i64 0) := (hx.cell 2).trans rfl
          have z930 := hx.frozen 2
          have z931 : x1.cell? ⟨px, 3, none⟩ = some (.int .i64 0) := (hx.cell 3).trans rfl
          have z932 := hx.frozen 3
          have z933 := hc.lt
          have z934 := h2.lt
          have z935 := h3.lt
          have z936 := hx.lt
          have z937 := hu.lt
          have z938 := ht.lt
          have z939 : x1.cell? ⟨pu, 0, none⟩ = some (.int .i64 a1) := (hu.cell 0).trans rfl
          have z940 : x1.cell? ⟨pu + 1, 0, none⟩ = some (.pointer (some ⟨px, 1, none⟩)) := (ht.cell 0).trans rfl
          go_wp2_with fail
          go_roundw
          case rel => exact ⟨1, q + s, (hlf u), (0), (0), by omega, by go_num, hqs, by omega, fun _ => ⟨rfl, rfl, by rw [D1.out, HST.out], by rw [D1.out, HST.out, HDV.out], by rw [D1.out, HST.out]⟩, by omega, by omega, (((hc.set_ 0 (.slice (some ad) n c)).set_ 1 (.int .i64 ((q + s : Nat) : Int))).far (p := ⟨px, 1, none⟩) (by simp <;> omega) (.int .i64 (hlf u))), (((h2.far (p := ⟨w.heap.size, 0, none⟩) (by simp <;> omega) (.slice (some ad) n c)).far (p := ⟨w.heap.size, 1, none⟩) (by simp <;> omega) (.int .i64 ((q + s : Nat) : Int))).far (p := ⟨px, 1, none⟩) (by simp <;> omega) (.int .i64 (hlf u))), (((h3.far (p := ⟨w.heap.size, 0, none⟩) (by simp <;> omega) (.slice (some ad) n c)).far (p := ⟨w.heap.size, 1, none⟩) (by simp <;> omega) (.int .i64 ((q + s : Nat) : Int))).far (p := ⟨px, 1, none⟩) (by simp <;> omega) (.int .i64 (hlf u))), (((hx.far (p := ⟨w.heap.size, 0, none⟩) (by simp <;> omega) (.slice (some ad) n c)).far (p := ⟨w.heap.size, 1, none⟩) (by simp <;> omega) (.int .i64 ((q + s : Nat) : Int))).set_ 1 (.int .i64 (hlf u))), (((hu.far (p := ⟨w.heap.size, 0, none⟩) (by simp <;> omega) (.slice (some ad) n c)).far (p := ⟨w.heap.size, 1, none⟩) (by simp <;> omega) (.int .i64 ((q + s : Nat) : Int))).far (p := ⟨px, 1, none⟩) (by simp <;> omega) (.int .i64 (hlf u))), (((ht.far (p := ⟨w.heap.size, 0, none⟩) (by simp <;> omega) (.slice (some ad) n c)).far (p := ⟨w.heap.size, 1, none⟩) (by simp <;> omega) (.int .i64 ((q + s : Nat) : Int))).far (p := ⟨px, 1, none⟩) (by simp <;> omega) (.int .i64 (hlf u))), (((hB.setCell (p := ⟨w.heap.size, 0, none⟩) (by simp <;> omega) (.slice (some ad) n c)).setCell (p := ⟨w.heap.size, 1, none⟩) (by simp <;> omega) (.int .i64 ((q + s : Nat) : Int))).setCell (p := ⟨px, 1, none⟩) (by simp <;> omega) (.int .i64 (hlf u)))⟩
          case measure => simp [intOf]
        · obtain ⟨e1, e2⟩ := uv_bad (some ad) n c her he0
          rw [e1, e2, her] at HU
          have HN0 := Lib.hid he0
          have HE := Lib.hid (show dcE l (p : Int) = er from by
            have hd : (dcD l p).1 = er := by rw [D1.out, HRR.out, dcL_bad (by rw [HER.out]; exact he0), HER.out]
            rw [dcE, HL.out, HCK.out, if_neg (by simp), if_neg (by simp; omega), show ((p : Int)).toNat = p from by simp, HX.out, HOP.out, HSH.out, if_neg (by simp), if_pos (by rw [hd]; exact he0), hd])
          have dr : (er != 0) = true := by rw [bne_iff_ne]; exact he0
          clear her he0 e1 e2
          rw [show hlf 0 = 0 from rfl] at HU
          have z901 : wr.cell? ⟨w.heap.size, 0, none⟩ = some (.slice (some ad) n c) := (hc.cell 0).trans rfl
          have z902 := hc.frozen 0
          have z903 : wr.cell? ⟨w.heap.size, 1, none⟩ = some (.int .i64 (q : Int)) := (hc.cell 1).trans rfl
          have z904 := hc.frozen 1
          have z905 : wr.cell? ⟨px, 0, none⟩ = some (.int .u8 (op : Int)) := (hx.cell 0).trans rfl
          have z906 := hx.frozen 0
          have z907 : wr.cell? ⟨px, 1, none⟩ = some (.int .i64 0) := (hx.cell 1).trans rfl
          have z908 := hx.frozen 1
          have z909 : wr.cell? ⟨px, 2, none⟩ = some (.int .i64 0) := (hx.cell 2).trans rfl
          have z910 := hx.frozen 2
          have z911 : wr.cell? ⟨px, 3, none⟩ = some (.int .i64 0) := (hx.cell 3).trans rfl
          have z912 := hx.frozen 3
          have z913 := hc.lt
          have z914 := h2.lt
          have z915 := h3.lt
          have z916 := hx.lt
          have z917 := hu.lt
          have z918 := ht.lt
          have z919 : wr.cell? ⟨pu, 0, none⟩ = some (.int .i64 a1) := (hu.cell 0).trans rfl
          have z920 : wr.cell? ⟨pu + 1, 0, none⟩ = some (.pointer (some ⟨px, 1, none⟩)) := (ht.cell 0).trans rfl
          go_wp2_with fail
          refine (HU _ (HR.out.mv hB)).mono ?_
          rintro e x1 ⟨rfl, bB⟩
          replace hc := hc.below bB hc.lt
          replace h2 := h2.below bB h2.lt
          replace h3 := h3.below bB h3.lt
          replace hx := hx.below bB hx.lt
          replace hu := hu.below bB hu.lt
          replace ht := ht.below bB ht.lt
          replace hB := hB.trans (bB.mono hB.size)
          clear z901 z902 z903 z904 z905 z906 z907 z908 z909 z910 z911 z912 z913 z914 z915 z916 z917 z918 z919 z920
          clear bB
          clear HU
          have z921 : x1.cell? ⟨w.heap.size, 0, none⟩ = some (.slice (some ad) n c) := (hc.cell 0).trans rfl
          have z922 := hc.frozen 0
          have z923 : x1.cell? ⟨w.heap.size, 1, none⟩ = some (.int .i64 (q : Int)) := (hc.cell 1).trans rfl
          have z924 := hc.frozen 1
          have z925 : x1.cell? ⟨px, 0, none⟩ = some (.int .u8 (op : Int)) := (hx.cell 0).trans rfl
          have z926 := hx.frozen 0
          have z927 : x1.cell? ⟨px, 1, none⟩ = some (.int .i64 0) := (hx.cell 1).trans rfl
          have z928 := hx.frozen 1
          have z929 : x1.cell? ⟨px, 2, none⟩ = some (.int .i64 0) := (hx.cell 2).trans rfl
          have z930 := hx.frozen 2
          have z931 : x1.cell? ⟨px, 3, none⟩ = some (.int .i64 0) := (hx.cell 3).trans rfl
          have z932 := hx.frozen 3
          have z933 := hc.lt
          have z934 := h2.lt
          have z935 := h3.lt
          have z936 := hx.lt
          have z937 := hu.lt
          have z938 := ht.lt
          have z939 : x1.cell? ⟨pu, 0, none⟩ = some (.int .i64 a1) := (hu.cell 0).trans rfl
          have z940 : x1.cell? ⟨pu + 1, 0, none⟩ = some (.pointer (some ⟨px, 1, none⟩)) := (ht.cell 0).trans rfl
          go_wp2_with fail
          refine (fail6_any er _).mono ?_
          rintro e x2 ⟨rfl, bB⟩
          replace h2 := Blk.via0 (g := (w.heap.size + 1)) (t := 39) bB (by repeat (first | with_reducible exact h2 | with_reducible (apply Blk.set_) | with_reducible (apply Blk.far; case hp => (simp <;> omega)) | with_reducible (apply Blk.alloc) | with_reducible (apply Blk.drew)))
          replace h2 : Blk x2 (w.heap.size + 1) 39 #[.slice none 0 0, .int .i64 0] := h2
          replace h3 := Blk.via0 (g := (w.heap.size + 2)) (t := 23) bB (by repeat (first | with_reducible exact h3 | with_reducible (apply Blk.set_) | with_reducible (apply Blk.far; case hp => (simp <;> omega)) | with_reducible (apply Blk.alloc) | with_reducible (apply Blk.drew)))
          replace h3 : Blk x2 (w.heap.size + 2) 23 #[.int .u8 0, .int .i64 0, .int .i64 0, .int .i64 0] := h3
          replace hB := Below.via (w := w) (by have hs_ := hB.size; repeat (first | with_reducible exact hB | with_reducible (refine Below.setCell ?_ (by simp <;> omega) _) | with_reducible (refine Below.alloc ?_ (by first | exact hs_ | (simp <;> omega)) _) | with_reducible (refine Below.drew ?_))) bB
          clear z921 z922 z923 z924 z925 z926 z927 z928 z929 z930 z931 z932 z933 z934 z935 z936 z937 z938 z939 z940
          clear bB
          have z941 : x2.cell? ⟨(w.heap.size + 1), 0, none⟩ = some (.slice none 0 0) := (h2.cell 0).trans rfl
          have z942 := h2.frozen 0
          have z943 : x2.cell? ⟨(w.heap.size + 1), 1, none⟩ = some (.int .i64 0) := (h2.cell 1).trans rfl
          have z944 := h2.frozen 1
          have z945 : x2.cell? ⟨(w.heap.size + 2), 0, none⟩ = some (.int .u8 0) := (h3.cell 0).trans rfl
          have z946 := h3.frozen 0
          have z947 : x2.cell? ⟨(w.heap.size + 2), 1, none⟩ = some (.int .i64 0) := (h3.cell 1).trans rfl
          have z948 := h3.frozen 1
          have z949 : x2.cell? ⟨(w.heap.size + 2), 2, none⟩ = some (.int .i64 0) := (h3.cell 2).trans rfl
          have z950 := h3.frozen 2
          have z951 : x2.cell? ⟨(w.heap.size + 2), 3, none⟩ = some (.int .i64 0) := (h3.cell 3).trans rfl
          have z952 := h3.frozen 3
          have z953 := h2.lt
          have z954 := h3.lt
          go_wp2_with fail
          refine ret_cc1 rfl curT insT rfl (by repeat (first | with_reducible exact h2 | with_reducible (apply Blk.set_) | with_reducible (apply Blk.far; case hp => (simp <;> omega)) | with_reducible (apply Blk.alloc) | with_reducible (apply Blk.drew))) (by rfl) rfl (by repeat (first | with_reducible exact h3 | with_reducible (apply Blk.set_) | with_reducible (apply Blk.far; case hp => (simp <;> omega)) | with_reducible (apply Blk.alloc) | with_reducible (apply Blk.drew))) (by rfl) ?_
          exact ⟨.inr ⟨by rw [HE.out]; exact HN0.out, by rw [HE.out]; rfl⟩, (by have hs_ := hB.size; repeat (first | with_reducible exact hB | with_reducible (refine Below.setCell ?_ (by simp <;> omega) _) | with_reducible (refine Below.alloc ?_ (by first | exact hs_ | (simp <;> omega)) _) | with_reducible (refine Below.drew ?_)))⟩
      · have dl : decide (a1 < 0) = false := by simp; omega
        have HU := fun W h => unvary_any (some ad) n c l (q : Int) 18446744073709551615 W h hnc.2 (by omega) (by omega)
        by_cases he0 : er = 0
        · subst he0
          obtain ⟨e1, e2⟩ := uv_ok (some ad) n c her
          rw [e2, her] at HU
          obtain ⟨hz1, hz2, hz3⟩ := uv_zero her
          obtain ⟨hy1, hy2, hy3, _⟩ := uvR_le hz2
          rw [show ((q : Int)).toNat = q from by simp] at hy3
          obtain ⟨s, hs⟩ : ∃ s, (uvR l (q : Int)).2.2 = s := ⟨_, rfl⟩
          have hqs : q + s ≤ n := by rw [← HL.out, ← hs]; exact hy3
          obtain ⟨u, hu_⟩ : ∃ u, uvN l (q : Int) 18446744073709551615 = u := ⟨_, rfl⟩
          have hub : u < 18446744073709551616 := by rw [← hu_, e1]; exact hy1
          rw [hs, hu_] at HU
          rw [show (q : Int) + (s : Nat) = ((q + s : Nat) : Int) from by omega] at HU
          have HDV := Lib.hid (show dvN (a1, a2, a3, a4) l q = ((min u 1048576 : Nat) : Int) from by rw [dvN, hu_]; simp only; rw [if_neg (by omega)])
          have HST := Lib.hid (show dcL (m - 0) [(a1, a2, a3, a4), (b1, b2, b3, b4), (c1, c2, c3, c4)] l q = ((dcL (m - 1) [(b1, b2, b3, b4), (c1, c2, c3, c4)] l (q + s)).1, dvN (a1, a2, a3, a4) l q :: (dcL (m - 1) [(b1, b2, b3, b4), (c1, c2, c3, c4)] l (q + s)).2.1, (dcL (m - 1) [(b1, b2, b3, b4), (c1, c2, c3, c4)] l (q + s)).2.2) from by
            rw [HRR.out, hrr.out, dcL_ok HER.out, hs])
          clear her e1 e2 hz1 hz2 hz3 hy1 hy2 hy3 hs hu_
          obtain ⟨vv, hvv⟩ : ∃ vv : Nat, min u 1048576 = vv := ⟨_, rfl⟩
          have hvb : vv ≤ 1048576 := by omega
          have HVV := Lib.hid hvv
          have wv : IntKind.i64.wrap (vv : Int) = (vv : Int) := by rw [IntKind.wrap_i64]; omega
          have mv_ : min (u : Int) 1048576 = (vv : Int) := by omega
          clear hvv
          have z901 : wr.cell? ⟨w.heap.size, 0, none⟩ = some (.slice (some ad) n c) := (hc.cell 0).trans rfl
          have z902 := hc.frozen 0
          have z903 : wr.cell? ⟨w.heap.size, 1, none⟩ = some (.int .i64 (q : Int)) := (hc.cell 1).trans rfl
          have z904 := hc.frozen 1
          have z905 : wr.cell? ⟨px, 0, none⟩ = some (.int .u8 (op : Int)) := (hx.cell 0).trans rfl
          have z906 := hx.frozen 0
          have z907 : wr.cell? ⟨px, 1, none⟩ = some (.int .i64 0) := (hx.cell 1).trans rfl
          have z908 := hx.frozen 1
          have z909 : wr.cell? ⟨px, 2, none⟩ = some (.int .i64 0) := (hx.cell 2).trans rfl
          have z910 := hx.frozen 2
          have z911 : wr.cell? ⟨px, 3, none⟩ = some (.int .i64 0) := (hx.cell 3).trans rfl
          have z912 := hx.frozen 3
          have z913 := hc.lt
          have z914 := h2.lt
          have z915 := h3.lt
          have z916 := hx.lt
          have z917 := hu.lt
          have z918 := ht.lt
          have z919 : wr.cell? ⟨pu, 0, none⟩ = some (.int .i64 a1) := (hu.cell 0).trans rfl
          have z920 : wr.cell? ⟨pu + 1, 0, none⟩ = some (.pointer (some ⟨px, 1, none⟩)) := (ht.cell 0).trans rfl
          go_wp2_with fail
          refine (HU _ (HR.out.mv hB)).mono ?_
          rintro e x1 ⟨rfl, bB⟩
          replace hc := hc.below bB hc.lt
          replace h2 := h2.below bB h2.lt
          replace h3 := h3.below bB h3.lt
          replace hx := hx.below bB hx.lt
          replace hu := hu.below bB hu.lt
          replace ht := ht.below bB ht.lt
          replace hB := hB.trans (bB.mono hB.size)
          clear z901 z902 z903 z904 z905 z906 z907 z908 z909 z910 z911 z912 z913 z914 z915 z916 z917 z918 z919 z920
          clear bB
          clear HU
          have z921 : x1.cell? ⟨w.heap.size, 0, none⟩ = some (.slice (some ad) n c) := (hc.cell 0).trans rfl
          have z922 := hc.frozen 0
          have z923 : x1.cell? ⟨w.heap.size, 1, none⟩ = some (.int .i64 (q : Int)) := (hc.cell 1).trans rfl
          have z924 := hc.frozen 1
          have z925 : x1.cell? ⟨px, 0, none⟩ = some (.int .u8 (op : Int)) := (hx.cell 0).trans rfl
          have z926 := hx.frozen 0
          have z927 : x1.cell? ⟨px, 1, none⟩ = some (.int .i64 0) := (hx.cell 1).trans rfl
          have z928 := hx.frozen 1
          have z929 : x1.cell? ⟨px, 2, none⟩ = some (.int .i64 0) := (hx.cell 2).trans rfl
          have z930 := hx.frozen 2
          have z931 : x1.cell? ⟨px, 3, none⟩ = some (.int .i64 0) := (hx.cell 3).trans rfl
          have z932 := hx.frozen 3
          have z933 := hc.lt
          have z934 := h2.lt
          have z935 := h3.lt
          have z936 := hx.lt
          have z937 := hu.lt
          have z938 := ht.lt
          have z939 : x1.cell? ⟨pu, 0, none⟩ = some (.int .i64 a1) := (hu.cell 0).trans rfl
          have z940 : x1.cell? ⟨pu + 1, 0, none⟩ = some (.pointer (some ⟨px, 1, none⟩)) := (ht.cell 0).trans rfl
          go_wp2_with fail
          go_roundw
          case rel => exact ⟨1, q + s, ((vv : Int)), (0), (0), by omega, by go_num, hqs, by omega, fun _ => ⟨rfl, rfl, by rw [D1.out, HST.out], by rw [D1.out, HST.out, (HDV.out.trans (by rw [HVV.out]))], by rw [D1.out, HST.out]⟩, by omega, by omega, (((hc.set_ 0 (.slice (some ad) n c)).set_ 1 (.int .i64 ((q + s : Nat) : Int))).far (p := ⟨px, 1, none⟩) (by simp <;> omega) (.int .i64 ((vv : Int)))), (((h2.far (p := ⟨w.heap.size, 0, none⟩) (by simp <;> omega) (.slice (some ad) n c)).far (p := ⟨w.heap.size, 1, none⟩) (by simp <;> omega) (.int .i64 ((q + s : Nat) : Int))).far (p := ⟨px, 1, none⟩) (by simp <;> omega) (.int .i64 ((vv : Int)))), (((h3.far (p := ⟨w.heap.size, 0, none⟩) (by simp <;> omega) (.slice (some ad) n c)).far (p := ⟨w.heap.size, 1, none⟩) (by simp <;> omega) (.int .i64 ((q + s : Nat) : Int))).far (p := ⟨px, 1, none⟩) (by simp <;> omega) (.int .i64 ((vv : Int)))), (((hx.far (p := ⟨w.heap.size, 0, none⟩) (by simp <;> omega) (.slice (some ad) n c)).far (p := ⟨w.heap.size, 1, none⟩) (by simp <;> omega) (.int .i64 ((q + s : Nat) : Int))).set_ 1 (.int .i64 ((vv : Int)))), (((hu.far (p := ⟨w.heap.size, 0, none⟩) (by simp <;> omega) (.slice (some ad) n c)).far (p := ⟨w.heap.size, 1, none⟩) (by simp <;> omega) (.int .i64 ((q + s : Nat) : Int))).far (p := ⟨px, 1, none⟩) (by simp <;> omega) (.int .i64 ((vv : Int)))), (((ht.far (p := ⟨w.heap.size, 0, none⟩) (by simp <;> omega) (.slice (some ad) n c)).far (p := ⟨w.heap.size, 1, none⟩) (by simp <;> omega) (.int .i64 ((q + s : Nat) : Int))).far (p := ⟨px, 1, none⟩) (by simp <;> omega) (.int .i64 ((vv : Int)))), (((hB.setCell (p := ⟨w.heap.size, 0, none⟩) (by simp <;> omega) (.slice (some ad) n c)).setCell (p := ⟨w.heap.size, 1, none⟩) (by simp <;> omega) (.int .i64 ((q + s : Nat) : Int))).setCell (p := ⟨px, 1, none⟩) (by simp <;> omega) (.int .i64 ((vv : Int))))⟩
          case measure => simp [intOf]
        · obtain ⟨e1, e2⟩ := uv_bad (some ad) n c her he0
          rw [e1, e2, her] at HU
          have HN0 := Lib.hid he0
          have HE := Lib.hid (show dcE l (p : Int) = er from by
            have hd : (dcD l p).1 = er := by rw [D1.out, HRR.out, dcL_bad (by rw [HER.out]; exact he0), HER.out]
            rw [dcE, HL.out, HCK.out, if_neg (by simp), if_neg (by simp; omega), show ((p : Int)).toNat = p from by simp, HX.out, HOP.out, HSH.out, if_neg (by simp), if_pos (by rw [hd]; exact he0), hd])
          have dr : (er != 0) = true := by rw [bne_iff_ne]; exact he0
          clear her he0 e1 e2
          have z901 : wr.cell? ⟨w.heap.size, 0, none⟩ = some (.slice (some ad) n c) := (hc.cell 0).trans rfl
          have z902 := hc.frozen 0
          have z903 : wr.cell? ⟨w.heap.size, 1, none⟩ = some (.int .i64 (q : Int)) := (hc.cell 1).trans rfl
          have z904 := hc.frozen 1
          have z905 : wr.cell? ⟨px, 0, none⟩ = some (.int .u8 (op : Int)) := (hx.cell 0).trans rfl
          have z906 := hx.frozen 0
          have z907 : wr.cell? ⟨px, 1, none⟩ = some (.int .i64 0) := (hx.cell 1).trans rfl
          have z908 := hx.frozen 1
          have z909 : wr.cell? ⟨px, 2, none⟩ = some (.int .i64 0) := (hx.cell 2).trans rfl
          have z910 := hx.frozen 2
          have z911 : wr.cell? ⟨px, 3, none⟩ = some (.int .i64 0) := (hx.cell 3).trans rfl
          have z912 := hx.frozen 3
          have z913 := hc.lt
          have z914 := h2.lt
          have z915 := h3.lt
          have z916 := hx.lt
          have z917 := hu.lt
          have z918 := ht.lt
          have z919 : wr.cell? ⟨pu, 0, none⟩ = some (.int .i64 a1) := (hu.cell 0).trans rfl
          have z920 : wr.cell? ⟨pu + 1, 0, none⟩ = some (.pointer (some ⟨px, 1, none⟩)) := (ht.cell 0).trans rfl
          go_wp2_with fail
          refine (HU _ (HR.out.mv hB)).mono ?_
          rintro e x1 ⟨rfl, bB⟩
          replace hc := hc.below bB hc.lt
          replace h2 := h2.below bB h2.lt
          replace h3 := h3.below bB h3.lt
          replace hx := hx.below bB hx.lt
          replace hu := hu.below bB hu.lt
          replace ht := ht.below bB ht.lt
          replace hB := hB.trans (bB.mono hB.size)
          clear z901 z902 z903 z904 z905 z906 z907 z908 z909 z910 z911 z912 z913 z914 z915 z916 z917 z918 z919 z920
          clear bB
          clear HU
          have z921 : x1.cell? ⟨w.heap.size, 0, none⟩ = some (.slice (some ad) n c) := (hc.cell 0).trans rfl
          have z922 := hc.frozen 0
          have z923 : x1.cell? ⟨w.heap.size, 1, none⟩ = some (.int .i64 (q : Int)) := (hc.cell 1).trans rfl
          have z924 := hc.frozen 1
          have z925 : x1.cell? ⟨px, 0, none⟩ = some (.int .u8 (op : Int)) := (hx.cell 0).trans rfl
          have z926 := hx.frozen 0
          have z927 : x1.cell? ⟨px, 1, none⟩ = some (.int .i64 0) := (hx.cell 1).trans rfl
          have z928 := hx.frozen 1
          have z929 : x1.cell? ⟨px, 2, none⟩ = some (.int .i64 0) := (hx.cell 2).trans rfl
          have z930 := hx.frozen 2
          have z931 : x1.cell? ⟨px, 3, none⟩ = some (.int .i64 0) := (hx.cell 3).trans rfl
          have z932 := hx.frozen 3
          have z933 := hc.lt
          have z934 := h2.lt
          have z935 := h3.lt
          have z936 := hx.lt
          have z937 := hu.lt
          have z938 := ht.lt
          have z939 : x1.cell? ⟨pu, 0, none⟩ = some (.int .i64 a1) := (hu.cell 0).trans rfl
          have z940 : x1.cell? ⟨pu + 1, 0, none⟩ = some (.pointer (some ⟨px, 1, none⟩)) := (ht.cell 0).trans rfl
          go_wp2_with fail
          refine (fail6_any er _).mono ?_
          rintro e x2 ⟨rfl, bB⟩
          replace h2 := Blk.via0 (g := (w.heap.size + 1)) (t := 39) bB (by repeat (first | with_reducible exact h2 | with_reducible (apply Blk.set_) | with_reducible (apply Blk.far; case hp => (simp <;> omega)) | with_reducible (apply Blk.alloc) | with_reducible (apply Blk.drew)))
          replace h2 : Blk x2 (w.heap.size + 1) 39 #[.slice none 0 0, .int .i64 0] := h2
          replace h3 := Blk.via0 (g := (w.heap.size + 2)) (t := 23) bB (by repeat (first | with_reducible exact h3 | with_reducible (apply Blk.set_) | with_reducible (apply Blk.far; case hp => (simp <;> omega)) | with_reducible (apply Blk.alloc) | with_reducible (apply Blk.drew)))
          replace h3 : Blk x2 (w.heap.size + 2) 23 #[.int .u8 0, .int .i64 0, .int .i64 0, .int .i64 0] := h3
          replace hB := Below.via (w := w) (by have hs_ := hB.size; repeat (first | with_reducible exact hB | with_reducible (refine Below.setCell ?_ (by simp <;> omega) _) | with_reducible (refine Below.alloc ?_ (by first | exact hs_ | (simp <;> omega)) _) | with_reducible (refine Below.drew ?_))) bB
          clear z921 z922 z923 z924 z925 z926 z927 z928 z929 z930 z931 z932 z933 z934 z935 z936 z937 z938 z939 z940
          clear bB
          have z941 : x2.cell? ⟨(w.heap.size + 1), 0, none⟩ = some (.slice none 0 0) := (h2.cell 0).trans rfl
          have z942 := h2.frozen 0
          have z943 : x2.cell? ⟨(w.heap.size + 1), 1, none⟩ = some (.int .i64 0) := (h2.cell 1).trans rfl
          have z944 := h2.frozen 1
          have z945 : x2.cell? ⟨(w.heap.size + 2), 0, none⟩ = some (.int .u8 0) := (h3.cell 0).trans rfl
          have z946 := h3.frozen 0
          have z947 : x2.cell? ⟨(w.heap.size + 2), 1, none⟩ = some (.int .i64 0) := (h3.cell 1).trans rfl
          have z948 := h3.frozen 1
          have z949 : x2.cell? ⟨(w.heap.size + 2), 2, none⟩ = some (.int .i64 0) := (h3.cell 2).trans rfl
          have z950 := h3.frozen 2
          have z951 : x2.cell? ⟨(w.heap.size + 2), 3, none⟩ = some (.int .i64 0) := (h3.cell 3).trans rfl
          have z952 := h3.frozen 3
          have z953 := h2.lt
          have z954 := h3.lt
          go_wp2_with fail
          refine ret_cc1 rfl curT insT rfl (by repeat (first | with_reducible exact h2 | with_reducible (apply Blk.set_) | with_reducible (apply Blk.far; case hp => (simp <;> omega)) | with_reducible (apply Blk.alloc) | with_reducible (apply Blk.drew))) (by rfl) rfl (by repeat (first | with_reducible exact h3 | with_reducible (apply Blk.set_) | with_reducible (apply Blk.far; case hp => (simp <;> omega)) | with_reducible (apply Blk.alloc) | with_reducible (apply Blk.drew))) (by rfl) ?_
          exact ⟨.inr ⟨by rw [HE.out]; exact HN0.out, by rw [HE.out]; rfl⟩, (by have hs_ := hB.size; repeat (first | with_reducible exact hB | with_reducible (refine Below.setCell ?_ (by simp <;> omega) _) | with_reducible (refine Below.alloc ?_ (by first | exact hs_ | (simp <;> omega)) _) | with_reducible (refine Below.drew ?_)))⟩
    · obtain ⟨rfl, rfl, d1, d2, d3⟩ := h1_ rfl
      have D1 := Lib.hid d1
      have D2 := Lib.hid d2
      have D3 := Lib.hid d3
      clear d1 d2 d3
      clear h0_ h1_ h2_ h3_
      by_cases hmj : m ≤ 1
      · have hm0 : m - 1 = 0 := by omega
        have dj : decide ((1 : Int) < (m : Int)) = false := by simp; omega
        have E1 := Lib.hid (show (dcD l p).1 = 0 from by rw [D1.out, hm0, dcL_zero])
        have E2 := Lib.hid (show (dcD l p).2.1 = [v0] from by rw [D2.out, hm0, dcL_zero])
        have E3 := Lib.hid (show (dcD l p).2.2 = q from by rw [D3.out, hm0, dcL_zero])
        have EP := Lib.hid (show padI (dcD l p).2.1 0 = v0 ∧ padI (dcD l p).2.1 1 = 0 ∧ padI (dcD l p).2.1 2 = 0 from by rw [E2.out]; exact ⟨rfl, rfl, rfl⟩)
        have z901 : wr.cell? ⟨w.heap.size, 0, none⟩ = some (.slice (some ad) n c) := (hc.cell 0).trans rfl
        have z902 := hc.frozen 0
        have z903 : wr.cell? ⟨w.heap.size, 1, none⟩ = some (.int .i64 (q : Int)) := (hc.cell 1).trans rfl
        have z904 := hc.frozen 1
        have z905 : wr.cell? ⟨px, 0, none⟩ = some (.int .u8 (op : Int)) := (hx.cell 0).trans rfl
        have z906 := hx.frozen 0
        have z907 : wr.cell? ⟨px, 1, none⟩ = some (.int .i64 v0) := (hx.cell 1).trans rfl
        have z908 := hx.frozen 1
        have z909 : wr.cell? ⟨px, 2, none⟩ = some (.int .i64 0) := (hx.cell 2).trans rfl
        have z910 := hx.frozen 2
        have z911 : wr.cell? ⟨px, 3, none⟩ = some (.int .i64 0) := (hx.cell 3).trans rfl
        have z912 := hx.frozen 3
        have z913 := hc.lt
        have z914 := h2.lt
        have z915 := h3.lt
        have z916 := hx.lt
        have z917 := hu.lt
        have z918 := ht.lt
        go_wp2_with fail
        refine (check6_any op hop6 v0 0 0 _).mono ?_
        rintro e y1 ⟨rfl, bB⟩
        replace hc := hc.below bB hc.lt
        replace h2 := h2.below bB h2.lt
        replace h3 := h3.below bB h3.lt
        replace hx := hx.below bB hx.lt
        replace hu := hu.below bB hu.lt
        replace ht := ht.below bB ht.lt
        replace hB := hB.trans (bB.mono hB.size)
        clear z901 z902 z903 z904 z905 z906 z907 z908 z909 z910 z911 z912 z913 z914 z915 z916 z917 z918
        clear bB
        by_cases hck : ckI op v0 0 0 = 0
        · have HE := Lib.hid (show dcE l (p : Int) = 0 from by
            rw [dcE, HL.out, HCK.out, if_neg (by simp), if_neg (by simp; omega), show ((p : Int)).toNat = p from by simp, HX.out, HOP.out, HSH.out, if_neg (by simp), if_neg (by rw [E1.out]; simp), EP.out.1, EP.out.2.1, EP.out.2.2, if_pos hck])
          rw [hck]
          clear hck
          have z919 : y1.cell? ⟨w.heap.size, 0, none⟩ = some (.slice (some ad) n c) := (hc.cell 0).trans rfl
          have z920 := hc.frozen 0
          have z921 : y1.cell? ⟨w.heap.size, 1, none⟩ = some (.int .i64 (q : Int)) := (hc.cell 1).trans rfl
          have z922 := hc.frozen 1
          have z923 : y1.cell? ⟨px, 0, none⟩ = some (.int .u8 (op : Int)) := (hx.cell 0).trans rfl
          have z924 := hx.frozen 0
          have z925 : y1.cell? ⟨px, 1, none⟩ = some (.int .i64 v0) := (hx.cell 1).trans rfl
          have z926 := hx.frozen 1
          have z927 : y1.cell? ⟨px, 2, none⟩ = some (.int .i64 0) := (hx.cell 2).trans rfl
          have z928 := hx.frozen 2
          have z929 : y1.cell? ⟨px, 3, none⟩ = some (.int .i64 0) := (hx.cell 3).trans rfl
          have z930 := hx.frozen 3
          have z931 := hc.lt
          have z932 := h2.lt
          have z933 := h3.lt
          have z934 := hx.lt
          have z935 := hu.lt
          have z936 := ht.lt
          go_wp2_with fail
          clear z919 z920 z921 z922 z923 z924 z925 z926 z927 z928 z929 z930 z931 z932 z933 z934 z935 z936
          refine s_go (KeepS [(w.heap.size, 39, #[.slice (some ad) n c, .int .i64 (q : Int)]), (px, 23, #[.int .u8 (op : Int), .int .i64 v0, .int .i64 0, .int .i64 0])]) (by kernel_rfl) (fun hQ0 x9 b => ?_)
          replace hc : Blk x9 w.heap.size 39 #[.slice (some ad) n c, .int .i64 (q : Int)] := hc.below b hc.lt
          replace hx : Blk x9 px 23 #[.int .u8 (op : Int), .int .i64 v0, .int .i64 0, .int .i64 0] := hx.below b hx.lt
          replace h2 := h2.below b h2.lt
          replace h3 := h3.below b h3.lt
          replace hB := hB.trans (b.mono hB.size)
          clear b
          refine ⟨KeepS.cons hc (KeepS.cons hx (KeepS.nil _)), ?_⟩
          have hQ := And.intro hQ0 (KeepS.cons hc (KeepS.cons hx (KeepS.nil x9)))
          have X0 : ∀ W, KeepS [(w.heap.size, 39, #[.slice (some ad) n c, .int .i64 (q : Int)]), (px, 23, #[.int .u8 (op : Int), .int .i64 v0, .int .i64 0, .int .i64 0])] W → W.cell? ⟨w.heap.size, 0, none⟩ = some (.slice (some ad) n c) := fun W h => (h.hd.cell 0).trans rfl
          have X1 : ∀ W, KeepS [(w.heap.size, 39, #[.slice (some ad) n c, .int .i64 (q : Int)]), (px, 23, #[.int .u8 (op : Int), .int .i64 v0, .int .i64 0, .int .i64 0])] W → W.cell? ⟨w.heap.size, 1, none⟩ = some (.int .i64 (q : Int)) := fun W h => (h.hd.cell 1).trans rfl
          have X2 : ∀ W, KeepS [(w.heap.size, 39, #[.slice (some ad) n c, .int .i64 (q : Int)]), (px, 23, #[.int .u8 (op : Int), .int .i64 v0, .int .i64 0, .int .i64 0])] W → W.cell? ⟨px, 0, none⟩ = some (.int .u8 (op : Int)) := fun W h => (h.tl.hd.cell 0).trans rfl
          have X3 : ∀ W, KeepS [(w.heap.size, 39, #[.slice (some ad) n c, .int .i64 (q : Int)]), (px, 23, #[.int .u8 (op : Int), .int .i64 v0, .int .i64 0, .int .i64 0])] W → W.cell? ⟨px, 1, none⟩ = some (.int .i64 v0) := fun W h => (h.tl.hd.cell 1).trans rfl
          have X4 : ∀ W, KeepS [(w.heap.size, 39, #[.slice (some ad) n c, .int .i64 (q : Int)]), (px, 23, #[.int .u8 (op : Int), .int .i64 v0, .int .i64 0, .int .i64 0])] W → W.cell? ⟨px, 2, none⟩ = some (.int .i64 0) := fun W h => (h.tl.hd.cell 2).trans rfl
          have X5 : ∀ W, KeepS [(w.heap.size, 39, #[.slice (some ad) n c, .int .i64 (q : Int)]), (px, 23, #[.int .u8 (op : Int), .int .i64 v0, .int .i64 0, .int .i64 0])] W → W.cell? ⟨px, 3, none⟩ = some (.int .i64 0) := fun W h => (h.tl.hd.cell 3).trans rfl
          refine s_take (i := 0) (oi := ?oia10) (v := ?va10) ?hia10 (by kernel_rfl) (by kernel_rfl) (by kernel_rfl) hQ ?hwa10 ?hya10 ?resta10
          case hia10 => simp only [List.getElem?_toArray, List.getElem?_cons_zero]; rfl
          case hwa10 => rfl
          case hya10 => intro W hW; go_simp; with_reducible rfl
          simp only [Act.put, List.setIfInBounds_toArray, List.set_cons_zero, List.set_cons_succ]
          refine s_take (i := 1) (oi := ?oia11) (v := ?va11) ?hia11 (by kernel_rfl) (by kernel_rfl) (by kernel_rfl) hQ ?hwa11 ?hya11 ?resta11
          case hia11 => simp only [List.getElem?_toArray, List.getElem?_cons_zero, List.getElem?_cons_succ]; rfl
          case hwa11 => rfl
          case hya11 => intro W hW; go_simp; with_reducible rfl
          simp only [Act.put, List.setIfInBounds_toArray, List.set_cons_zero, List.set_cons_succ]
          refine s_step (i := 2) (oi := ?oia12) (by kernel_rfl) ?hia12 ?hwa12 (fun K hK => ?_)
          case hia12 => simp only [List.getElem?_toArray, List.getElem?_cons_zero, List.getElem?_cons_succ]; rfl
          case hwa12 => rfl
          have y0 : x9.cell? ⟨(w.heap.size + 1), 0, none⟩ = some (.slice none 0 0) := (h2.cell 0).trans rfl; have yf0 := h2.frozen 0; have y1 : x9.cell? ⟨(w.heap.size + 1), 1, none⟩ = some (.int .i64 0) := (h2.cell 1).trans rfl; have yf1 := h2.frozen 1; go_simp; clear y0 yf0 y1 yf1; have gm : Blk ((x9.setCell ⟨(w.heap.size + 1), 0, none⟩ (.slice (some ad) n c)).setCell ⟨(w.heap.size + 1), 1, none⟩ (.int .i64 (q : Int))) (w.heap.size + 1) 39 #[.slice (some ad) n c, .int .i64 (q : Int)] := ((h2.set_ 0 (.slice (some ad) n c)).set_ 1 (.int .i64 (q : Int))); have gc := ((hc.far (p := ⟨(w.heap.size + 1), 0, none⟩) (by simp <;> omega) (.slice (some ad) n c)).far (p := ⟨(w.heap.size + 1), 1, none⟩) (by simp <;> omega) (.int .i64 (q : Int))); have gx := ((hx.far (p := ⟨(w.heap.size + 1), 0, none⟩) (by simp <;> omega) (.slice (some ad) n c)).far (p := ⟨(w.heap.size + 1), 1, none⟩) (by simp <;> omega) (.int .i64 (q : Int))); have go_ := ((h3.far (p := ⟨(w.heap.size + 1), 0, none⟩) (by simp <;> omega) (.slice (some ad) n c)).far (p := ⟨(w.heap.size + 1), 1, none⟩) (by simp <;> omega) (.int .i64 (q : Int))); have gB := ((hB.setCell (p := ⟨(w.heap.size + 1), 0, none⟩) (by simp <;> omega) (.slice (some ad) n c)).setCell (p := ⟨(w.heap.size + 1), 1, none⟩) (by simp <;> omega) (.int .i64 (q : Int))); refine hK _ _ (KeepS.cons gc (KeepS.cons gx (KeepS.nil _))) ?_; clear hc hx h2 h3 hB; generalize ((x9.setCell ⟨(w.heap.size + 1), 0, none⟩ (.slice (some ad) n c)).setCell ⟨(w.heap.size + 1), 1, none⟩ (.int .i64 (q : Int))) = x8 at *; have h2 := gm; have hc := gc; have hx := gx; have h3 := go_; have hB := gB; clear gm gc gx go_ gB; have hQ := And.intro hQ0 (KeepS.cons hc (KeepS.cons hx (KeepS.nil x8)))
          try simp only [Act.put, List.setIfInBounds_toArray, List.set_cons_zero, List.set_cons_succ]
          refine s_step (i := 3) (oi := ?oia13) (by kernel_rfl) ?hia13 ?hwa13 (fun K hK => ?_)
          case hia13 => simp only [List.getElem?_toArray, List.getElem?_cons_zero, List.getElem?_cons_succ]; rfl
          case hwa13 => rfl
          have y0 : x8.cell? ⟨(w.heap.size + 2), 0, none⟩ = some (.int .u8 0) := (h3.cell 0).trans rfl; have yf0 := h3.frozen 0; have y1 : x8.cell? ⟨(w.heap.size + 2), 1, none⟩ = some (.int .i64 0) := (h3.cell 1).trans rfl; have yf1 := h3.frozen 1; have y2 : x8.cell? ⟨(w.heap.size + 2), 2, none⟩ = some (.int .i64 0) := (h3.cell 2).trans rfl; have yf2 := h3.frozen 2; have y3 : x8.cell? ⟨(w.heap.size + 2), 3, none⟩ = some (.int .i64 0) := (h3.cell 3).trans rfl; have yf3 := h3.frozen 3; go_simp; clear y0 yf0 y1 yf1 y2 yf2 y3 yf3; have gm : Blk ((((x8.setCell ⟨(w.heap.size + 2), 0, none⟩ (.int .u8 (op : Int))).setCell ⟨(w.heap.size + 2), 1, none⟩ (.int .i64 v0)).setCell ⟨(w.heap.size + 2), 2, none⟩ (.int .i64 0)).setCell ⟨(w.heap.size + 2), 3, none⟩ (.int .i64 0)) (w.heap.size + 2) 23 #[.int .u8 (op : Int), .int .i64 v0, .int .i64 0, .int .i64 0] := ((((h3.set_ 0 (.int .u8 (op : Int))).set_ 1 (.int .i64 v0)).set_ 2 (.int .i64 0)).set_ 3 (.int .i64 0)); have gc := ((((hc.far (p := ⟨(w.heap.size + 2), 0, none⟩) (by simp <;> omega) (.int .u8 (op : Int))).far (p := ⟨(w.heap.size + 2), 1, none⟩) (by simp <;> omega) (.int .i64 v0)).far (p := ⟨(w.heap.size + 2), 2, none⟩) (by simp <;> omega) (.int .i64 0)).far (p := ⟨(w.heap.size + 2), 3, none⟩) (by simp <;> omega) (.int .i64 0)); have gx := ((((hx.far (p := ⟨(w.heap.size + 2), 0, none⟩) (by simp <;> omega) (.int .u8 (op : Int))).far (p := ⟨(w.heap.size + 2), 1, none⟩) (by simp <;> omega) (.int .i64 v0)).far (p := ⟨(w.heap.size + 2), 2, none⟩) (by simp <;> omega) (.int .i64 0)).far (p := ⟨(w.heap.size + 2), 3, none⟩) (by simp <;> omega) (.int .i64 0)); have go_ := ((((h2.far (p := ⟨(w.heap.size + 2), 0, none⟩) (by simp <;> omega) (.int .u8 (op : Int))).far (p := ⟨(w.heap.size + 2), 1, none⟩) (by simp <;> omega) (.int .i64 v0)).far (p := ⟨(w.heap.size + 2), 2, none⟩) (by simp <;> omega) (.int .i64 0)).far (p := ⟨(w.heap.size + 2), 3, none⟩) (by simp <;> omega) (.int .i64 0)); have gB := ((((hB.setCell (p := ⟨(w.heap.size + 2), 0, none⟩) (by simp <;> omega) (.int .u8 (op : Int))).setCell (p := ⟨(w.heap.size + 2), 1, none⟩) (by simp <;> omega) (.int .i64 v0)).setCell (p := ⟨(w.heap.size + 2), 2, none⟩) (by simp <;> omega) (.int .i64 0)).setCell (p := ⟨(w.heap.size + 2), 3, none⟩) (by simp <;> omega) (.int .i64 0)); refine hK _ _ (KeepS.cons gc (KeepS.cons gx (KeepS.nil _))) ?_; clear hc hx h2 h3 hB; generalize ((((x8.setCell ⟨(w.heap.size + 2), 0, none⟩ (.int .u8 (op : Int))).setCell ⟨(w.heap.size + 2), 1, none⟩ (.int .i64 v0)).setCell ⟨(w.heap.size + 2), 2, none⟩ (.int .i64 0)).setCell ⟨(w.heap.size + 2), 3, none⟩ (.int .i64 0)) = x7 at *; have h3 := gm; have hc := gc; have hx := gx; have h2 := go_; have hB := gB; clear gm gc gx go_ gB; have hQ := And.intro hQ0 (KeepS.cons hc (KeepS.cons hx (KeepS.nil x7)))
          try simp only [Act.put, List.setIfInBounds_toArray, List.set_cons_zero, List.set_cons_succ]
          refine s_take (i := 4) (oi := ?oia14) (v := ?va14) ?hia14 (by kernel_rfl) (by kernel_rfl) (by kernel_rfl) hQ ?hwa14 ?hya14 ?resta14
          case hia14 => simp only [List.getElem?_toArray, List.getElem?_cons_zero, List.getElem?_cons_succ]; rfl
          case hwa14 => rfl
          case hya14 => intro W hW; go_simp; with_reducible rfl
          simp only [Act.put, List.setIfInBounds_toArray, List.set_cons_zero, List.set_cons_succ]
          refine wpAnyH_done (by kernel_rfl) ?_ _
          simp only [NoP]
          clear X0 X1 X2 X3 X4 X5 hQ hQ0
          go_wp2_with fail
          refine ret_cc1 rfl curT insT rfl h2 (by rfl) rfl h3 (by rfl) ?_
          exact ⟨.inl ⟨HE.out, by rw [show ((p : Int)).toNat = p from by simp, HX.out, HOP.out, E3.out, EP.out.1, EP.out.2.1, EP.out.2.2]; rfl⟩, hB⟩
        · have HE := Lib.hid (show dcE l (p : Int) = 12 from by
            rw [dcE, HL.out, HCK.out, if_neg (by simp), if_neg (by simp; omega), show ((p : Int)).toNat = p from by simp, HX.out, HOP.out, HSH.out, if_neg (by simp), if_neg (by rw [E1.out]; simp), EP.out.1, EP.out.2.1, EP.out.2.2, if_neg hck])
          have HN0 := Lib.hid (show (12 : Int) ≠ 0 by decide)
          obtain ⟨E, hE⟩ : ∃ E, ckI op v0 0 0 = E := ⟨_, rfl⟩
          rw [hE] at hck ⊢
          have dr : (E != 0) = true := by rw [bne_iff_ne]; exact hck
          clear hck hE
          have z919 : y1.cell? ⟨w.heap.size, 0, none⟩ = some (.slice (some ad) n c) := (hc.cell 0).trans rfl
          have z920 := hc.frozen 0
          have z921 : y1.cell? ⟨w.heap.size, 1, none⟩ = some (.int .i64 (q : Int)) := (hc.cell 1).trans rfl
          have z922 := hc.frozen 1
          have z923 : y1.cell? ⟨px, 0, none⟩ = some (.int .u8 (op : Int)) := (hx.cell 0).trans rfl
          have z924 := hx.frozen 0
          have z925 : y1.cell? ⟨px, 1, none⟩ = some (.int .i64 v0) := (hx.cell 1).trans rfl
          have z926 := hx.frozen 1
          have z927 : y1.cell? ⟨px, 2, none⟩ = some (.int .i64 0) := (hx.cell 2).trans rfl
          have z928 := hx.frozen 2
          have z929 : y1.cell? ⟨px, 3, none⟩ = some (.int .i64 0) := (hx.cell 3).trans rfl
          have z930 := hx.frozen 3
          have z931 := hc.lt
          have z932 := h2.lt
          have z933 := h3.lt
          have z934 := hx.lt
          have z935 := hu.lt
          have z936 := ht.lt
          go_wp2_with fail
          refine (fail6_any 12 _).mono ?_
          rintro e f5 ⟨rfl, bB⟩
          replace h2 := Blk.via0 (g := (w.heap.size + 1)) (t := 39) bB (by repeat (first | with_reducible exact h2 | with_reducible (apply Blk.set_) | with_reducible (apply Blk.far; case hp => (simp <;> omega)) | with_reducible (apply Blk.alloc) | with_reducible (apply Blk.drew)))
          replace h2 : Blk f5 (w.heap.size + 1) 39 #[.slice none 0 0, .int .i64 0] := h2
          replace h3 := Blk.via0 (g := (w.heap.size + 2)) (t := 23) bB (by repeat (first | with_reducible exact h3 | with_reducible (apply Blk.set_) | with_reducible (apply Blk.far; case hp => (simp <;> omega)) | with_reducible (apply Blk.alloc) | with_reducible (apply Blk.drew)))
          replace h3 : Blk f5 (w.heap.size + 2) 23 #[.int .u8 0, .int .i64 0, .int .i64 0, .int .i64 0] := h3
          replace hB := Below.via (w := w) (by have hs_ := hB.size; repeat (first | with_reducible exact hB | with_reducible (refine Below.setCell ?_ (by simp <;> omega) _) | with_reducible (refine Below.alloc ?_ (by first | exact hs_ | (simp <;> omega)) _) | with_reducible (refine Below.drew ?_))) bB
          clear z919 z920 z921 z922 z923 z924 z925 z926 z927 z928 z929 z930 z931 z932 z933 z934 z935 z936
          clear bB
          have z937 : f5.cell? ⟨(w.heap.size + 1), 0, none⟩ = some (.slice none 0 0) := (h2.cell 0).trans rfl
          have z938 := h2.frozen 0
          have z939 : f5.cell? ⟨(w.heap.size + 1), 1, none⟩ = some (.int .i64 0) := (h2.cell 1).trans rfl
          have z940 := h2.frozen 1
          have z941 : f5.cell? ⟨(w.heap.size + 2), 0, none⟩ = some (.int .u8 0) := (h3.cell 0).trans rfl
          have z942 := h3.frozen 0
          have z943 : f5.cell? ⟨(w.heap.size + 2), 1, none⟩ = some (.int .i64 0) := (h3.cell 1).trans rfl
          have z944 := h3.frozen 1
          have z945 : f5.cell? ⟨(w.heap.size + 2), 2, none⟩ = some (.int .i64 0) := (h3.cell 2).trans rfl
          have z946 := h3.frozen 2
          have z947 : f5.cell? ⟨(w.heap.size + 2), 3, none⟩ = some (.int .i64 0) := (h3.cell 3).trans rfl
          have z948 := h3.frozen 3
          have z949 := h2.lt
          have z950 := h3.lt
          go_wp2_with fail
          refine ret_cc1 rfl curT insT rfl (by repeat (first | with_reducible exact h2 | with_reducible (apply Blk.set_) | with_reducible (apply Blk.far; case hp => (simp <;> omega)) | with_reducible (apply Blk.alloc) | with_reducible (apply Blk.drew))) (by rfl) rfl (by repeat (first | with_reducible exact h3 | with_reducible (apply Blk.set_) | with_reducible (apply Blk.far; case hp => (simp <;> omega)) | with_reducible (apply Blk.alloc) | with_reducible (apply Blk.drew))) (by rfl) ?_
          exact ⟨.inr ⟨by rw [HE.out]; exact HN0.out, by rw [HE.out]; rfl⟩, (by have hs_ := hB.size; repeat (first | with_reducible exact hB | with_reducible (refine Below.setCell ?_ (by simp <;> omega) _) | with_reducible (refine Below.alloc ?_ (by first | exact hs_ | (simp <;> omega)) _) | with_reducible (refine Below.drew ?_)))⟩
      obtain ⟨r, hr⟩ : ∃ r, m - 1 = r + 1 := ⟨m - 1 - 1, by omega⟩
      have HRR := Lib.hid hr
      have dj : decide ((1 : Int) < (m : Int)) = true := by simp; omega
      have hrr := Lib.hid (show m - 2 = r by omega)
      clear hr
      obtain ⟨er, her⟩ : ∃ er, uvE l (q : Int) 18446744073709551615 = er := ⟨_, rfl⟩
      have HER := Lib.hid her
      have hlt0 : b1 < 0 ∨ ¬ b1 < 0 := by omega
      rcases hlt0 with hl | hl
      · have dl : decide (b1 < 0) = true := by simp; omega
        have HU := fun W h => unsigned_any (some ad) n c l (q : Int) W h hnc.2 (by omega)
        by_cases he0 : er = 0
        · subst he0
          obtain ⟨e1, e2⟩ := uv_ok (some ad) n c her
          rw [e2, her] at HU
          obtain ⟨hz1, hz2, hz3⟩ := uv_zero her
          obtain ⟨hy1, hy2, hy3, _⟩ := uvR_le hz2
          rw [show ((q : Int)).toNat = q from by simp] at hy3
          obtain ⟨s, hs⟩ : ∃ s, (uvR l (q : Int)).2.2 = s := ⟨_, rfl⟩
          have hqs : q + s ≤ n := by rw [← HL.out, ← hs]; exact hy3
          obtain ⟨u, hu_⟩ : ∃ u, uvN l (q : Int) 18446744073709551615 = u := ⟨_, rfl⟩
          have hub : u < 18446744073709551616 := by rw [← hu_, e1]; exact hy1
          rw [hs, hu_] at HU
          rw [show (q : Int) + (s : Nat) = ((q + s : Nat) : Int) from by omega] at HU
          have HDV := Lib.hid (show dvN (b1, b2, b3, b4) l q = hlf u from by rw [dvN, hu_]; simp only; rw [if_pos (by omega)])
          have HST := Lib.hid (show dcL (m - 1) [(b1, b2, b3, b4), (c1, c2, c3, c4)] l q = ((dcL (m - 2) [(c1, c2, c3, c4)] l (q + s)).1, dvN (b1, b2, b3, b4) l q :: (dcL (m - 2) [(c1, c2, c3, c4)] l (q + s)).2.1, (dcL (m - 2) [(c1, c2, c3, c4)] l (q + s)).2.2) from by
            rw [HRR.out, hrr.out, dcL_ok HER.out, hs])
          clear her e1 e2 hz1 hz2 hz3 hy1 hy2 hy3 hs hu_
          have z901 : wr.cell? ⟨w.heap.size, 0, none⟩ = some (.slice (some ad) n c) := (hc.cell 0).trans rfl
          have z902 := hc.frozen 0
          have z903 : wr.cell? ⟨w.heap.size, 1, none⟩ = some (.int .i64 (q : Int)) := (hc.cell 1).trans rfl
          have z904 := hc.frozen 1
          have z905 : wr.cell? ⟨px, 0, none⟩ = some (.int .u8 (op : Int)) := (hx.cell 0).trans rfl
          have z906 := hx.frozen 0
          have z907 : wr.cell? ⟨px, 1, none⟩ = some (.int .i64 v0) := (hx.cell 1).trans rfl
          have z908 := hx.frozen 1
          have z909 : wr.cell? ⟨px, 2, none⟩ = some (.int .i64 0) := (hx.cell 2).trans rfl
          have z910 := hx.frozen 2
          have z911 : wr.cell? ⟨px, 3, none⟩ = some (.int .i64 0) := (hx.cell 3).trans rfl
          have z912 := hx.frozen 3
          have z913 := hc.lt
          have z914 := h2.lt
          have z915 := h3.lt
          have z916 := hx.lt
          have z917 := hu.lt
          have z918 := ht.lt
          have z919 : wr.cell? ⟨pu, 4, none⟩ = some (.int .i64 b1) := (hu.cell 4).trans rfl
          have z920 : wr.cell? ⟨pu + 1, 1, none⟩ = some (.pointer (some ⟨px, 2, none⟩)) := (ht.cell 1).trans rfl
          go_wp2_with fail
          refine (HU _ (HR.out.mv hB)).mono ?_
          rintro e x1 ⟨rfl, bB⟩
          replace hc := hc.below bB hc.lt
          replace h2 := h2.below bB h2.lt
          replace h3 := h3.below bB h3.lt
          replace hx := hx.below bB hx.lt
          replace hu := hu.below bB hu.lt
          replace ht := ht.below bB ht.lt
          replace hB := hB.trans (bB.mono hB.size)
          clear z901 z902 z903 z904 z905 z906 z907 z908 z909 z910 z911 z912 z913 z914 z915 z916 z917 z918 z919 z920
          clear bB
          clear HU
          have z921 : x1.cell? ⟨w.heap.size, 0, none⟩ = some (.slice (some ad) n c) := (hc.cell 0).trans rfl
          have z922 := hc.frozen 0
          have z923 : x1.cell? ⟨w.heap.size, 1, none⟩ = some (.int .i64 (q : Int)) := (hc.cell 1).trans rfl
          have z924 := hc.frozen 1
          have z925 : x1.cell? ⟨px, 0, none⟩ = some (.int .u8 (op : Int)) := (hx.cell 0).trans rfl
          have z926 := hx.frozen 0
          have z927 : x1.cell? ⟨px, 1, none⟩ = some (.int .i64 v0) := (hx.cell 1).trans rfl
          have z928 := hx.frozen 1
          have z929 : x1.cell? ⟨px, 2, none⟩ = some (.int .i64 0) := (hx.cell 2).trans rfl
          have z930 := hx.frozen 2
          have z931 : x1.cell? ⟨px, 3, none⟩ = some (.int .i64 0) := (hx.cell 3).trans rfl
          have z932 := hx.frozen 3
          have z933 := hc.lt
          have z934 := h2.lt
          have z935 := h3.lt
          have z936 := hx.lt
          have z937 := hu.lt
          have z938 := ht.lt
          have z939 : x1.cell? ⟨pu, 4, none⟩ = some (.int .i64 b1) := (hu.cell 4).trans rfl
          have z940 : x1.cell? ⟨pu + 1, 1, none⟩ = some (.pointer (some ⟨px, 2, none⟩)) := (ht.cell 1).trans rfl
          go_wp2_with fail
          go_roundw
          case rel => exact ⟨2, q + s, (v0), (hlf u), (0), by omega, by go_num, hqs, by omega, by omega, fun _ => ⟨rfl, by rw [D1.out, HST.out], by rw [D2.out, HST.out, HDV.out], by rw [D3.out, HST.out]⟩, by omega, (((hc.set_ 0 (.slice (some ad) n c)).set_ 1 (.int .i64 ((q + s : Nat) : Int))).far (p := ⟨px, 2, none⟩) (by simp <;> omega) (.int .i64 (hlf u))), (((h2.far (p := ⟨w.heap.size, 0, none⟩) (by simp <;> omega) (.slice (some ad) n c)).far (p := ⟨w.heap.size, 1, none⟩) (by simp <;> omega) (.int .i64 ((q + s : Nat) : Int))).far (p := ⟨px, 2, none⟩) (by simp <;> omega) (.int .i64 (hlf u))), (((h3.far (p := ⟨w.heap.size, 0, none⟩) (by simp <;> omega) (.slice (some ad) n c)).far (p := ⟨w.heap.size, 1, none⟩) (by simp <;> omega) (.int .i64 ((q + s : Nat) : Int))).far (p := ⟨px, 2, none⟩) (by simp <;> omega) (.int .i64 (hlf u))), (((hx.far (p := ⟨w.heap.size, 0, none⟩) (by simp <;> omega) (.slice (some ad) n c)).far (p := ⟨w.heap.size, 1, none⟩) (by simp <;> omega) (.int .i64 ((q + s : Nat) : Int))).set_ 2 (.int .i64 (hlf u))), (((hu.far (p := ⟨w.heap.size, 0, none⟩) (by simp <;> omega) (.slice (some ad) n c)).far (p := ⟨w.heap.size, 1, none⟩) (by simp <;> omega) (.int .i64 ((q + s : Nat) : Int))).far (p := ⟨px, 2, none⟩) (by simp <;> omega) (.int .i64 (hlf u))), (((ht.far (p := ⟨w.heap.size, 0, none⟩) (by simp <;> omega) (.slice (some ad) n c)).far (p := ⟨w.heap.size, 1, none⟩) (by simp <;> omega) (.int .i64 ((q + s : Nat) : Int))).far (p := ⟨px, 2, none⟩) (by simp <;> omega) (.int .i64 (hlf u))), (((hB.setCell (p := ⟨w.heap.size, 0, none⟩) (by simp <;> omega) (.slice (some ad) n c)).setCell (p := ⟨w.heap.size, 1, none⟩) (by simp <;> omega) (.int .i64 ((q + s : Nat) : Int))).setCell (p := ⟨px, 2, none⟩) (by simp <;> omega) (.int .i64 (hlf u)))⟩
          case measure => simp [intOf]
        · obtain ⟨e1, e2⟩ := uv_bad (some ad) n c her he0
          rw [e1, e2, her] at HU
          have HN0 := Lib.hid he0
          have HE := Lib.hid (show dcE l (p : Int) = er from by
            have hd : (dcD l p).1 = er := by rw [D1.out, HRR.out, dcL_bad (by rw [HER.out]; exact he0), HER.out]
            rw [dcE, HL.out, HCK.out, if_neg (by simp), if_neg (by simp; omega), show ((p : Int)).toNat = p from by simp, HX.out, HOP.out, HSH.out, if_neg (by simp), if_pos (by rw [hd]; exact he0), hd])
          have dr : (er != 0) = true := by rw [bne_iff_ne]; exact he0
          clear her he0 e1 e2
          rw [show hlf 0 = 0 from rfl] at HU
          have z901 : wr.cell? ⟨w.heap.size, 0, none⟩ = some (.slice (some ad) n c) := (hc.cell 0).trans rfl
          have z902 := hc.frozen 0
          have z903 : wr.cell? ⟨w.heap.size, 1, none⟩ = some (.int .i64 (q : Int)) := (hc.cell 1).trans rfl
          have z904 := hc.frozen 1
          have z905 : wr.cell? ⟨px, 0, none⟩ = some (.int .u8 (op : Int)) := (hx.cell 0).trans rfl
          have z906 := hx.frozen 0
          have z907 : wr.cell? ⟨px, 1, none⟩ = some (.int .i64 v0) := (hx.cell 1).trans rfl
          have z908 := hx.frozen 1
          have z909 : wr.cell? ⟨px, 2, none⟩ = some (.int .i64 0) := (hx.cell 2).trans rfl
          have z910 := hx.frozen 2
          have z911 : wr.cell? ⟨px, 3, none⟩ = some (.int .i64 0) := (hx.cell 3).trans rfl
          have z912 := hx.frozen 3
          have z913 := hc.lt
          have z914 := h2.lt
          have z915 := h3.lt
          have z916 := hx.lt
          have z917 := hu.lt
          have z918 := ht.lt
          have z919 : wr.cell? ⟨pu, 4, none⟩ = some (.int .i64 b1) := (hu.cell 4).trans rfl
          have z920 : wr.cell? ⟨pu + 1, 1, none⟩ = some (.pointer (some ⟨px, 2, none⟩)) := (ht.cell 1).trans rfl
          go_wp2_with fail
          refine (HU _ (HR.out.mv hB)).mono ?_
          rintro e x1 ⟨rfl, bB⟩
          replace hc := hc.below bB hc.lt
          replace h2 := h2.below bB h2.lt
          replace h3 := h3.below bB h3.lt
          replace hx := hx.below bB hx.lt
          replace hu := hu.below bB hu.lt
          replace ht := ht.below bB ht.lt
          replace hB := hB.trans (bB.mono hB.size)
          clear z901 z902 z903 z904 z905 z906 z907 z908 z909 z910 z911 z912 z913 z914 z915 z916 z917 z918 z919 z920
          clear bB
          clear HU
          have z921 : x1.cell? ⟨w.heap.size, 0, none⟩ = some (.slice (some ad) n c) := (hc.cell 0).trans rfl
          have z922 := hc.frozen 0
          have z923 : x1.cell? ⟨w.heap.size, 1, none⟩ = some (.int .i64 (q : Int)) := (hc.cell 1).trans rfl
          have z924 := hc.frozen 1
          have z925 : x1.cell? ⟨px, 0, none⟩ = some (.int .u8 (op : Int)) := (hx.cell 0).trans rfl
          have z926 := hx.frozen 0
          have z927 : x1.cell? ⟨px, 1, none⟩ = some (.int .i64 v0) := (hx.cell 1).trans rfl
          have z928 := hx.frozen 1
          have z929 : x1.cell? ⟨px, 2, none⟩ = some (.int .i64 0) := (hx.cell 2).trans rfl
          have z930 := hx.frozen 2
          have z931 : x1.cell? ⟨px, 3, none⟩ = some (.int .i64 0) := (hx.cell 3).trans rfl
          have z932 := hx.frozen 3
          have z933 := hc.lt
          have z934 := h2.lt
          have z935 := h3.lt
          have z936 := hx.lt
          have z937 := hu.lt
          have z938 := ht.lt
          have z939 : x1.cell? ⟨pu, 4, none⟩ = some (.int .i64 b1) := (hu.cell 4).trans rfl
          have z940 : x1.cell? ⟨pu + 1, 1, none⟩ = some (.pointer (some ⟨px, 2, none⟩)) := (ht.cell 1).trans rfl
          go_wp2_with fail
          refine (fail6_any er _).mono ?_
          rintro e x2 ⟨rfl, bB⟩
          replace h2 := Blk.via0 (g := (w.heap.size + 1)) (t := 39) bB (by repeat (first | with_reducible exact h2 | with_reducible (apply Blk.set_) | with_reducible (apply Blk.far; case hp => (simp <;> omega)) | with_reducible (apply Blk.alloc) | with_reducible (apply Blk.drew)))
          replace h2 : Blk x2 (w.heap.size + 1) 39 #[.slice none 0 0, .int .i64 0] := h2
          replace h3 := Blk.via0 (g := (w.heap.size + 2)) (t := 23) bB (by repeat (first | with_reducible exact h3 | with_reducible (apply Blk.set_) | with_reducible (apply Blk.far; case hp => (simp <;> omega)) | with_reducible (apply Blk.alloc) | with_reducible (apply Blk.drew)))
          replace h3 : Blk x2 (w.heap.size + 2) 23 #[.int .u8 0, .int .i64 0, .int .i64 0, .int .i64 0] := h3
          replace hB := Below.via (w := w) (by have hs_ := hB.size; repeat (first | with_reducible exact hB | with_reducible (refine Below.setCell ?_ (by simp <;> omega) _) | with_reducible (refine Below.alloc ?_ (by first | exact hs_ | (simp <;> omega)) _) | with_reducible (refine Below.drew ?_))) bB
          clear z921 z922 z923 z924 z925 z926 z927 z928 z929 z930 z931 z932 z933 z934 z935 z936 z937 z938 z939 z940
          clear bB
          have z941 : x2.cell? ⟨(w.heap.size + 1), 0, none⟩ = some (.slice none 0 0) := (h2.cell 0).trans rfl
          have z942 := h2.frozen 0
          have z943 : x2.cell? ⟨(w.heap.size + 1), 1, none⟩ = some (.int .i64 0) := (h2.cell 1).trans rfl
          have z944 := h2.frozen 1
          have z945 : x2.cell? ⟨(w.heap.size + 2), 0, none⟩ = some (.int .u8 0) := (h3.cell 0).trans rfl
          have z946 := h3.frozen 0
          have z947 : x2.cell? ⟨(w.heap.size + 2), 1, none⟩ = some (.int .i64 0) := (h3.cell 1).trans rfl
          have z948 := h3.frozen 1
          have z949 : x2.cell? ⟨(w.heap.size + 2), 2, none⟩ = some (.int .i64 0) := (h3.cell 2).trans rfl
          have z950 := h3.frozen 2
          have z951 : x2.cell? ⟨(w.heap.size + 2), 3, none⟩ = some (.int .i64 0) := (h3.cell 3).trans rfl
          have z952 := h3.frozen 3
          have z953 := h2.lt
          have z954 := h3.lt
          go_wp2_with fail
          refine ret_cc1 rfl curT insT rfl (by repeat (first | with_reducible exact h2 | with_reducible (apply Blk.set_) | with_reducible (apply Blk.far; case hp => (simp <;> omega)) | with_reducible (apply Blk.alloc) | with_reducible (apply Blk.drew))) (by rfl) rfl (by repeat (first | with_reducible exact h3 | with_reducible (apply Blk.set_) | with_reducible (apply Blk.far; case hp => (simp <;> omega)) | with_reducible (apply Blk.alloc) | with_reducible (apply Blk.drew))) (by rfl) ?_
          exact ⟨.inr ⟨by rw [HE.out]; exact HN0.out, by rw [HE.out]; rfl⟩, (by have hs_ := hB.size; repeat (first | with_reducible exact hB | with_reducible (refine Below.setCell ?_ (by simp <;> omega) _) | with_reducible (refine Below.alloc ?_ (by first | exact hs_ | (simp <;> omega)) _) | with_reducible (refine Below.drew ?_)))⟩
      · have dl : decide (b1 < 0) = false := by simp; omega
        have HU := fun W h => unvary_any (some ad) n c l (q : Int) 18446744073709551615 W h hnc.2 (by omega) (by omega)
        by_cases he0 : er = 0
        · subst he0
          obtain ⟨e1, e2⟩ := uv_ok (some ad) n c her
          rw [e2, her] at HU
          obtain ⟨hz1, hz2, hz3⟩ := uv_zero her
          obtain ⟨hy1, hy2, hy3, _⟩ := uvR_le hz2
          rw [show ((q : Int)).toNat = q from by simp] at hy3
          obtain ⟨s, hs⟩ : ∃ s, (uvR l (q : Int)).2.2 = s := ⟨_, rfl⟩
          have hqs : q + s ≤ n := by rw [← HL.out, ← hs]; exact hy3
          obtain ⟨u, hu_⟩ : ∃ u, uvN l (q : Int) 18446744073709551615 = u := ⟨_, rfl⟩
          have hub : u < 18446744073709551616 := by rw [← hu_, e1]; exact hy1
          rw [hs, hu_] at HU
          rw [show (q : Int) + (s : Nat) = ((q + s : Nat) : Int) from by omega] at HU
          have HDV := Lib.hid (show dvN (b1, b2, b3, b4) l q = ((min u 1048576 : Nat) : Int) from by rw [dvN, hu_]; simp only; rw [if_neg (by omega)])
          have HST := Lib.hid (show dcL (m - 1) [(b1, b2, b3, b4), (c1, c2, c3, c4)] l q = ((dcL (m - 2) [(c1, c2, c3, c4)] l (q + s)).1, dvN (b1, b2, b3, b4) l q :: (dcL (m - 2) [(c1, c2, c3, c4)] l (q + s)).2.1, (dcL (m - 2) [(c1, c2, c3, c4)] l (q + s)).2.2) from by
            rw [HRR.out, hrr.out, dcL_ok HER.out, hs])
          clear her e1 e2 hz1 hz2 hz3 hy1 hy2 hy3 hs hu_
          obtain ⟨vv, hvv⟩ : ∃ vv : Nat, min u 1048576 = vv := ⟨_, rfl⟩
          have hvb : vv ≤ 1048576 := by omega
          have HVV := Lib.hid hvv
          have wv : IntKind.i64.wrap (vv : Int) = (vv : Int) := by rw [IntKind.wrap_i64]; omega
          have mv_ : min (u : Int) 1048576 = (vv : Int) := by omega
          clear hvv
          have z901 : wr.cell? ⟨w.heap.size, 0, none⟩ = some (.slice (some ad) n c) := (hc.cell 0).trans rfl
          have z902 := hc.frozen 0
          have z903 : wr.cell? ⟨w.heap.size, 1, none⟩ = some (.int .i64 (q : Int)) := (hc.cell 1).trans rfl
          have z904 := hc.frozen 1
          have z905 : wr.cell? ⟨px, 0, none⟩ = some (.int .u8 (op : Int)) := (hx.cell 0).trans rfl
          have z906 := hx.frozen 0
          have z907 : wr.cell? ⟨px, 1, none⟩ = some (.int .i64 v0) := (hx.cell 1).trans rfl
          have z908 := hx.frozen 1
          have z909 : wr.cell? ⟨px, 2, none⟩ = some (.int .i64 0) := (hx.cell 2).trans rfl
          have z910 := hx.frozen 2
          have z911 : wr.cell? ⟨px, 3, none⟩ = some (.int .i64 0) := (hx.cell 3).trans rfl
          have z912 := hx.frozen 3
          have z913 := hc.lt
          have z914 := h2.lt
          have z915 := h3.lt
          have z916 := hx.lt
          have z917 := hu.lt
          have z918 := ht.lt
          have z919 : wr.cell? ⟨pu, 4, none⟩ = some (.int .i64 b1) := (hu.cell 4).trans rfl
          have z920 : wr.cell? ⟨pu + 1, 1, none⟩ = some (.pointer (some ⟨px, 2, none⟩)) := (ht.cell 1).trans rfl
          go_wp2_with fail
          refine (HU _ (HR.out.mv hB)).mono ?_
          rintro e x1 ⟨rfl, bB⟩
          replace hc := hc.below bB hc.lt
          replace h2 := h2.below bB h2.lt
          replace h3 := h3.below bB h3.lt
          replace hx := hx.below bB hx.lt
          replace hu := hu.below bB hu.lt
          replace ht := ht.below bB ht.lt
          replace hB := hB.trans (bB.mono hB.size)
          clear z901 z902 z903 z904 z905 z906 z907 z908 z909 z910 z911 z912 z913 z914 z915 z916 z917 z918 z919 z920
          clear bB
          clear HU
          have z921 : x1.cell? ⟨w.heap.size, 0, none⟩ = some (.slice (some ad) n c) := (hc.cell 0).trans rfl
          have z922 := hc.frozen 0
          have z923 : x1.cell? ⟨w.heap.size, 1, none⟩ = some (.int .i64 (q : Int)) := (hc.cell 1).trans rfl
          have z924 := hc.frozen 1
          have z925 : x1.cell? ⟨px, 0, none⟩ = some (.int .u8 (op : Int)) := (hx.cell 0).trans rfl
          have z926 := hx.frozen 0
          have z927 : x1.cell? ⟨px, 1, none⟩ = some (.int .i64 v0) := (hx.cell 1).trans rfl
          have z928 := hx.frozen 1
          have z929 : x1.cell? ⟨px, 2, none⟩ = some (.int .i64 0) := (hx.cell 2).trans rfl
          have z930 := hx.frozen 2
          have z931 : x1.cell? ⟨px, 3, none⟩ = some (.int .i64 0) := (hx.cell 3).trans rfl
          have z932 := hx.frozen 3
          have z933 := hc.lt
          have z934 := h2.lt
          have z935 := h3.lt
          have z936 := hx.lt
          have z937 := hu.lt
          have z938 := ht.lt
          have z939 : x1.cell? ⟨pu, 4, none⟩ = some (.int .i64 b1) := (hu.cell 4).trans rfl
          have z940 : x1.cell? ⟨pu + 1, 1, none⟩ = some (.pointer (some ⟨px, 2, none⟩)) := (ht.cell 1).trans rfl
          go_wp2_with fail
          go_roundw
          case rel => exact ⟨2, q + s, (v0), ((vv : Int)), (0), by omega, by go_num, hqs, by omega, by omega, fun _ => ⟨rfl, by rw [D1.out, HST.out], by rw [D2.out, HST.out, (HDV.out.trans (by rw [HVV.out]))], by rw [D3.out, HST.out]⟩, by omega, (((hc.set_ 0 (.slice (some ad) n c)).set_ 1 (.int .i64 ((q + s : Nat) : Int))).far (p := ⟨px, 2, none⟩) (by simp <;> omega) (.int .i64 ((vv : Int)))), (((h2.far (p := ⟨w.heap.size, 0, none⟩) (by simp <;> omega) (.slice (some ad) n c)).far (p := ⟨w.heap.size, 1, none⟩) (by simp <;> omega) (.int .i64 ((q + s : Nat) : Int))).far (p := ⟨px, 2, none⟩) (by simp <;> omega) (.int .i64 ((vv : Int)))), (((h3.far (p := ⟨w.heap.size, 0, none⟩) (by simp <;> omega) (.slice (some ad) n c)).far (p := ⟨w.heap.size, 1, none⟩) (by simp <;> omega) (.int .i64 ((q + s : Nat) : Int))).far (p := ⟨px, 2, none⟩) (by simp <;> omega) (.int .i64 ((vv : Int)))), (((hx.far (p := ⟨w.heap.size, 0, none⟩) (by simp <;> omega) (.slice (some ad) n c)).far (p := ⟨w.heap.size, 1, none⟩) (by simp <;> omega) (.int .i64 ((q + s : Nat) : Int))).set_ 2 (.int .i64 ((vv : Int)))), (((hu.far (p := ⟨w.heap.size, 0, none⟩) (by simp <;> omega) (.slice (some ad) n c)).far (p := ⟨w.heap.size, 1, none⟩) (by simp <;> omega) (.int .i64 ((q + s : Nat) : Int))).far (p := ⟨px, 2, none⟩) (by simp <;> omega) (.int .i64 ((vv : Int)))), (((ht.far (p := ⟨w.heap.size, 0, none⟩) (by simp <;> omega) (.slice (some ad) n c)).far (p := ⟨w.heap.size, 1, none⟩) (by simp <;> omega) (.int .i64 ((q + s : Nat) : Int))).far (p := ⟨px, 2, none⟩) (by simp <;> omega) (.int .i64 ((vv : Int)))), (((hB.setCell (p := ⟨w.heap.size, 0, none⟩) (by simp <;> omega) (.slice (some ad) n c)).setCell (p := ⟨w.heap.size, 1, none⟩) (by simp <;> omega) (.int .i64 ((q + s : Nat) : Int))).setCell (p := ⟨px, 2, none⟩) (by simp <;> omega) (.int .i64 ((vv : Int))))⟩
          case measure => simp [intOf]
        · obtain ⟨e1, e2⟩ := uv_bad (some ad) n c her he0
          rw [e1, e2, her] at HU
          have HN0 := Lib.hid he0
          have HE := Lib.hid (show dcE l (p : Int) = er from by
            have hd : (dcD l p).1 = er := by rw [D1.out, HRR.out, dcL_bad (by rw [HER.out]; exact he0), HER.out]
            rw [dcE, HL.out, HCK.out, if_neg (by simp), if_neg (by simp; omega), show ((p : Int)).toNat = p from by simp, HX.out, HOP.out, HSH.out, if_neg (by simp), if_pos (by rw [hd]; exact he0), hd])
          have dr : (er != 0) = true := by rw [bne_iff_ne]; exact he0
          clear her he0 e1 e2
          have z901 : wr.cell? ⟨w.heap.size, 0, none⟩ = some (.slice (some ad) n c) := (hc.cell 0).trans rfl
          have z902 := hc.frozen 0
          have z903 : wr.cell? ⟨w.heap.size, 1, none⟩ = some (.int .i64 (q : Int)) := (hc.cell 1).trans rfl
          have z904 := hc.frozen 1
          have z905 : wr.cell? ⟨px, 0, none⟩ = some (.int .u8 (op : Int)) := (hx.cell 0).trans rfl
          have z906 := hx.frozen 0
          have z907 : wr.cell? ⟨px, 1, none⟩ = some (.int .i64 v0) := (hx.cell 1).trans rfl
          have z908 := hx.frozen 1
          have z909 : wr.cell? ⟨px, 2, none⟩ = some (.int .i64 0) := (hx.cell 2).trans rfl
          have z910 := hx.frozen 2
          have z911 : wr.cell? ⟨px, 3, none⟩ = some (.int .i64 0) := (hx.cell 3).trans rfl
          have z912 := hx.frozen 3
          have z913 := hc.lt
          have z914 := h2.lt
          have z915 := h3.lt
          have z916 := hx.lt
          have z917 := hu.lt
          have z918 := ht.lt
          have z919 : wr.cell? ⟨pu, 4, none⟩ = some (.int .i64 b1) := (hu.cell 4).trans rfl
          have z920 : wr.cell? ⟨pu + 1, 1, none⟩ = some (.pointer (some ⟨px, 2, none⟩)) := (ht.cell 1).trans rfl
          go_wp2_with fail
          refine (HU _ (HR.out.mv hB)).mono ?_
          rintro e x1 ⟨rfl, bB⟩
          replace hc := hc.below bB hc.lt
          replace h2 := h2.below bB h2.lt
          replace h3 := h3.below bB h3.lt
          replace hx := hx.below bB hx.lt
          replace hu := hu.below bB hu.lt
          replace ht := ht.below bB ht.lt
          replace hB := hB.trans (bB.mono hB.size)
          clear z901 z902 z903 z904 z905 z906 z907 z908 z909 z910 z911 z912 z913 z914 z915 z916 z917 z918 z919 z920
          clear bB
          clear HU
          have z921 : x1.cell? ⟨w.heap.size, 0, none⟩ = some (.slice (some ad) n c) := (hc.cell 0).trans rfl
          have z922 := hc.frozen 0
          have z923 : x1.cell? ⟨w.heap.size, 1, none⟩ = some (.int .i64 (q : Int)) := (hc.cell 1).trans rfl
          have z924 := hc.frozen 1
          have z925 : x1.cell? ⟨px, 0, none⟩ = some (.int .u8 (op : Int)) := (hx.cell 0).trans rfl
          have z926 := hx.frozen 0
          have z927 : x1.cell? ⟨px, 1, none⟩ = some (.int .i64 v0) := (hx.cell 1).trans rfl
          have z928 := hx.frozen 1
          have z929 : x1.cell? ⟨px, 2, none⟩ = some (.int .i64 0) := (hx.cell 2).trans rfl
          have z930 := hx.frozen 2
          have z931 : x1.cell? ⟨px, 3, none⟩ = some (.int .i64 0) := (hx.cell 3).trans rfl
          have z932 := hx.frozen 3
          have z933 := hc.lt
          have z934 := h2.lt
          have z935 := h3.lt
          have z936 := hx.lt
          have z937 := hu.lt
          have z938 := ht.lt
          have z939 : x1.cell? ⟨pu, 4, none⟩ = some (.int .i64 b1) := (hu.cell 4).trans rfl
          have z940 : x1.cell? ⟨pu + 1, 1, none⟩ = some (.pointer (some ⟨px, 2, none⟩)) := (ht.cell 1).trans rfl
          go_wp2_with fail
          refine (fail6_any er _).mono ?_
          rintro e x2 ⟨rfl, bB⟩
          replace h2 := Blk.via0 (g := (w.heap.size + 1)) (t := 39) bB (by repeat (first | with_reducible exact h2 | with_reducible (apply Blk.set_) | with_reducible (apply Blk.far; case hp => (simp <;> omega)) | with_reducible (apply Blk.alloc) | with_reducible (apply Blk.drew)))
          replace h2 : Blk x2 (w.heap.size + 1) 39 #[.slice none 0 0, .int .i64 0] := h2
          replace h3 := Blk.via0 (g := (w.heap.size + 2)) (t := 23) bB (by repeat (first | with_reducible exact h3 | with_reducible (apply Blk.set_) | with_reducible (apply Blk.far; case hp => (simp <;> omega)) | with_reducible (apply Blk.alloc) | with_reducible (apply Blk.drew)))
          replace h3 : Blk x2 (w.heap.size + 2) 23 #[.int .u8 0, .int .i64 0, .int .i64 0, .int .i64 0] := h3
          replace hB := Below.via (w := w) (by have hs_ := hB.size; repeat (first | with_reducible exact hB | with_reducible (refine Below.setCell ?_ (by simp <;> omega) _) | with_reducible (refine Below.alloc ?_ (by first | exact hs_ | (simp <;> omega)) _) | with_reducible (refine Below.drew ?_))) bB
          clear z921 z922 z923 z924 z925 z926 z927 z928 z929 z930 z931 z932 z933 z934 z935 z936 z937 z938 z939 z940
          clear bB
          have z941 : x2.cell? ⟨(w.heap.size + 1), 0, none⟩ = some (.slice none 0 0) := (h2.cell 0).trans rfl
          have z942 := h2.frozen 0
          have z943 : x2.cell? ⟨(w.heap.size + 1), 1, none⟩ = some (.int .i64 0) := (h2.cell 1).trans rfl
          have z944 := h2.frozen 1
          have z945 : x2.cell? ⟨(w.heap.size + 2), 0, none⟩ = some (.int .u8 0) := (h3.cell 0).trans rfl
          have z946 := h3.frozen 0
          have z947 : x2.cell? ⟨(w.heap.size + 2), 1, none⟩ = some (.int .i64 0) := (h3.cell 1).trans rfl
          have z948 := h3.frozen 1
          have z949 : x2.cell? ⟨(w.heap.size + 2), 2, none⟩ = some (.int .i64 0) := (h3.cell 2).trans rfl
          have z950 := h3.frozen 2
          have z951 : x2.cell? ⟨(w.heap.size + 2), 3, none⟩ = some (.int .i64 0) := (h3.cell 3).trans rfl
          have z952 := h3.frozen 3
          have z953 := h2.lt
          have z954 := h3.lt
          go_wp2_with fail
          refine ret_cc1 rfl curT insT rfl (by repeat (first | with_reducible exact h2 | with_reducible (apply Blk.set_) | with_reducible (apply Blk.far; case hp => (simp <;> omega)) | with_reducible (apply Blk.alloc) | with_reducible (apply Blk.drew))) (by rfl) rfl (by repeat (first | with_reducible exact h3 | with_reducible (apply Blk.set_) | with_reducible (apply Blk.far; case hp => (simp <;> omega)) | with_reducible (apply Blk.alloc) | with_reducible (apply Blk.drew))) (by rfl) ?_
          exact ⟨.inr ⟨by rw [HE.out]; exact HN0.out, by rw [HE.out]; rfl⟩, (by have hs_ := hB.size; repeat (first | with_reducible exact hB | with_reducible (refine Below.setCell ?_ (by simp <;> omega) _) | with_reducible (refine Below.alloc ?_ (by first | exact hs_ | (simp <;> omega)) _) | with_reducible (refine Below.drew ?_)))⟩
    · obtain ⟨rfl, d1, d2, d3⟩ := h2_ rfl
      have D1 := Lib.hid d1
      have D2 := Lib.hid d2
      have D3 := Lib.hid d3
      clear d1 d2 d3
      clear h0_ h1_ h2_ h3_
      by_cases hmj : m ≤ 2
      · have hm0 : m - 2 = 0 := by omega
        have dj : decide ((2 : Int) < (m : Int)) = false := by simp; omega
        have E1 := Lib.hid (show (dcD l p).1 = 0 from by rw [D1.out, hm0, dcL_zero])
        have E2 := Lib.hid (show (dcD l p).2.1 = [v0, v1] from by rw [D2.out, hm0, dcL_zero])
        have E3 := Lib.hid (show (dcD l p).2.2 = q from by rw [D3.out, hm0, dcL_zero])
        have EP := Lib.hid (show padI (dcD l p).2.1 0 = v0 ∧ padI (dcD l p).2.1 1 = v1 ∧ padI (dcD l p).2.1 2 = 0 from by rw [E2.out]; exact ⟨rfl, rfl, rfl⟩)
        have z901 : wr.cell? ⟨w.heap.size, 0, none⟩ = some (.slice (some ad) n c) := (hc.cell 0).trans rfl
        have z902 := hc.frozen 0
        have z903 : wr.cell? ⟨w.heap.size, 1, none⟩ = some (.int .i64 (q : Int)) := (hc.cell 1).trans rfl
        have z904 := hc.frozen 1
        have z905 : wr.cell? ⟨px, 0, none⟩ = some (.int .u8 (op : Int)) := (hx.cell 0).trans rfl
        have z906 := hx.frozen 0
        have z907 : wr.cell? ⟨px, 1, none⟩ = some (.int .i64 v0) := (hx.cell 1).trans rfl
        have z908 := hx.frozen 1
        have z909 : wr.cell? ⟨px, 2, none⟩ = some (.int .i64 v1) := (hx.cell 2).trans rfl
        have z910 := hx.frozen 2
        have z911 : wr.cell? ⟨px, 3, none⟩ = some (.int .i64 0) := (hx.cell 3).trans rfl
        have z912 := hx.frozen 3
        have z913 := hc.lt
        have z914 := h2.lt
        have z915 := h3.lt
        have z916 := hx.lt
        have z917 := hu.lt
        have z918 := ht.lt
        go_wp2_with fail
        refine (check6_any op hop6 v0 v1 0 _).mono ?_
        rintro e y1 ⟨rfl, bB⟩
        replace hc := hc.below bB hc.lt
        replace h2 := h2.below bB h2.lt
        replace h3 := h3.below bB h3.lt
        replace hx := hx.below bB hx.lt
        replace hu := hu.below bB hu.lt
        replace ht := ht.below bB ht.lt
        replace hB := hB.trans (bB.mono hB.size)
        clear z901 z902 z903 z904 z905 z906 z907 z908 z909 z910 z911 z912 z913 z914 z915 z916 z917 z918
        clear bB
        by_cases hck : ckI op v0 v1 0 = 0
        · have HE := Lib.hid (show dcE l (p : Int) = 0 from by
            rw [dcE, HL.out, HCK.out, if_neg (by simp), if_neg (by simp; omega), show ((p : Int)).toNat = p from by simp, HX.out, HOP.out, HSH.out, if_neg (by simp), if_neg (by rw [E1.out]; simp), EP.out.1, EP.out.2.1, EP.out.2.2, if_pos hck])
          rw [hck]
          clear hck
          have z919 : y1.cell? ⟨w.heap.size, 0, none⟩ = some (.slice (some ad) n c) := (hc.cell 0).trans rfl
          have z920 := hc.frozen 0
          have z921 : y1.cell? ⟨w.heap.size, 1, none⟩ = some (.int .i64 (q : Int)) := (hc.cell 1).trans rfl
          have z922 := hc.frozen 1
          have z923 : y1.cell? ⟨px, 0, none⟩ = some (.int .u8 (op : Int)) := (hx.cell 0).trans rfl
          have z924 := hx.frozen 0
          have z925 : y1.cell? ⟨px, 1, none⟩ = some (.int .i64 v0) := (hx.cell 1).trans rfl
          have z926 := hx.frozen 1
          have z927 : y1.cell? ⟨px, 2, none⟩ = some (.int .i64 v1) := (hx.cell 2).trans rfl
          have z928 := hx.frozen 2
          have z929 : y1.cell? ⟨px, 3, none⟩ = some (.int .i64 0) := (hx.cell 3).trans rfl
          have z930 := hx.frozen 3
          have z931 := hc.lt
          have z932 := h2.lt
          have z933 := h3.lt
          have z934 := hx.lt
          have z935 := hu.lt
          have z936 := ht.lt
          go_wp2_with fail
          clear z919 z920 z921 z922 z923 z924 z925 z926 z927 z928 z929 z930 z931 z932 z933 z934 z935 z936
          refine s_go (KeepS [(w.heap.size, 39, #[.slice (some ad) n c, .int .i64 (q : Int)]), (px, 23, #[.int .u8 (op : Int), .int .i64 v0, .int .i64 v1, .int .i64 0])]) (by kernel_rfl) (fun hQ0 x9 b => ?_)
          replace hc : Blk x9 w.heap.size 39 #[.slice (some ad) n c, .int .i64 (q : Int)] := hc.below b hc.lt
          replace hx : Blk x9 px 23 #[.int .u8 (op : Int), .int .i64 v0, .int .i64 v1, .int .i64 0] := hx.below b hx.lt
          replace h2 := h2.below b h2.lt
          replace h3 := h3.below b h3.lt
          replace hB := hB.trans (b.mono hB.size)
          clear b
          refine ⟨KeepS.cons hc (KeepS.cons hx (KeepS.nil _)), ?_⟩
          have hQ := And.intro hQ0 (KeepS.cons hc (KeepS.cons hx (KeepS.nil x9)))
          have X0 : ∀ W, KeepS [(w.heap.size, 39, #[.slice (some ad) n c, .int .i64 (q : Int)]), (px, 23, #[.int .u8 (op : Int), .int .i64 v0, .int .i64 v1, .int .i64 0])] W → W.cell? ⟨w.heap.size, 0, none⟩ = some (.slice (some ad) n c) := fun W h => (h.hd.cell 0).trans rfl
          have X1 : ∀ W, KeepS [(w.heap.size, 39, #[.slice (some ad) n c, .int .i64 (q : Int)]), (px, 23, #[.int .u8 (op : Int), .int .i64 v0, .int .i64 v1, .int .i64 0])] W → W.cell? ⟨w.heap.size, 1, none⟩ = some (.int .i64 (q : Int)) := fun W h => (h.hd.cell 1).trans rfl
          have X2 : ∀ W, KeepS [(w.heap.size, 39, #[.slice (some ad) n c, .int .i64 (q : Int)]), (px, 23, #[.int .u8 (op : Int), .int .i64 v0, .int .i64 v1, .int .i64 0])] W → W.cell? ⟨px, 0, none⟩ = some (.int .u8 (op : Int)) := fun W h => (h.tl.hd.cell 0).trans rfl
          have X3 : ∀ W, KeepS [(w.heap.size, 39, #[.slice (some ad) n c, .int .i64 (q : Int)]), (px, 23, #[.int .u8 (op : Int), .int .i64 v0, .int .i64 v1, .int .i64 0])] W → W.cell? ⟨px, 1, none⟩ = some (.int .i64 v0) := fun W h => (h.tl.hd.cell 1).trans rfl
          have X4 : ∀ W, KeepS [(w.heap.size, 39, #[.slice (some ad) n c, .int .i64 (q : Int)]), (px, 23, #[.int .u8 (op : Int), .int .i64 v0, .int .i64 v1, .int .i64 0])] W → W.cell? ⟨px, 2, none⟩ = some (.int .i64 v1) := fun W h => (h.tl.hd.cell 2).trans rfl
          have X5 : ∀ W, KeepS [(w.heap.size, 39, #[.slice (some ad) n c, .int .i64 (q : Int)]), (px, 23, #[.int .u8 (op : Int), .int .i64 v0, .int .i64 v1, .int .i64 0])] W → W.cell? ⟨px, 3, none⟩ = some (.int .i64 0) := fun W h => (h.tl.hd.cell 3).trans rfl
          refine s_take (i := 0) (oi := ?oia20) (v := ?va20) ?hia20 (by kernel_rfl) (by kernel_rfl) (by kernel_rfl) hQ ?hwa20 ?hya20 ?resta20
          case hia20 => simp only [List.getElem?_toArray, List.getElem?_cons_zero]; rfl
          case hwa20 => rfl
          case hya20 => intro W hW; go_simp; with_reducible rfl
          simp only [Act.put, List.setIfInBounds_toArray, List.set_cons_zero, List.set_cons_succ]
          refine s_take (i := 1) (oi := ?oia21) (v := ?va21) ?hia21 (by kernel_rfl) (by kernel_rfl) (by kernel_rfl) hQ ?hwa21 ?hya21 ?resta21
          case hia21 => simp only [List.getElem?_toArray, List.getElem?_cons_zero, List.getElem?_cons_succ]; rfl
          case hwa21 => rfl
          case hya21 => intro W hW; go_simp; with_reducible rfl
          simp only [Act.put, List.setIfInBounds_toArray, List.set_cons_zero, List.set_cons_succ]
          refine s_step (i := 2) (oi := ?oia22) (by kernel_rfl) ?hia22 ?hwa22 (fun K hK => ?_)
          case hia22 => simp only [List.getElem?_toArray, List.getElem?_cons_zero, List.getElem?_cons_succ]; rfl
          case hwa22 => rfl
          have y0 : x9.cell? ⟨(w.heap.size + 1), 0, none⟩ = some (.slice none 0 0) := (h2.cell 0).trans rfl; have yf0 := h2.frozen 0; have y1 : x9.cell? ⟨(w.heap.size + 1), 1, none⟩ = some (.int .i64 0) := (h2.cell 1).trans rfl; have yf1 := h2.frozen 1; go_simp; clear y0 yf0 y1 yf1; have gm : Blk ((x9.setCell ⟨(w.heap.size + 1), 0, none⟩ (.slice (some ad) n c)).setCell ⟨(w.heap.size + 1), 1, none⟩ (.int .i64 (q : Int))) (w.heap.size + 1) 39 #[.slice (some ad) n c, .int .i64 (q : Int)] := ((h2.set_ 0 (.slice (some ad) n c)).set_ 1 (.int .i64 (q : Int))); have gc := ((hc.far (p := ⟨(w.heap.size + 1), 0, none⟩) (by simp <;> omega) (.slice (some ad) n c)).far (p := ⟨(w.heap.size + 1), 1, none⟩) (by simp <;> omega) (.int .i64 (q : Int))); have gx := ((hx.far (p := ⟨(w.heap.size + 1), 0, none⟩) (by simp <;> omega) (.slice (some ad) n c)).far (p := ⟨(w.heap.size + 1), 1, none⟩) (by simp <;> omega) (.int .i64 (q : Int))); have go_ := ((h3.far (p := ⟨(w.heap.size + 1), 0, none⟩) (by simp <;> omega) (.slice (some ad) n c)).far (p := ⟨(w.heap.size + 1), 1, none⟩) (by simp <;> omega) (.int .i64 (q : Int))); have gB := ((hB.setCell (p := ⟨(w.heap.size + 1), 0, none⟩) (by simp <;> omega) (.slice (some ad) n c)).setCell (p := ⟨(w.heap.size + 1), 1, none⟩) (by simp <;> omega) (.int .i64 (q : Int))); refine hK _ _ (KeepS.cons gc (KeepS.cons gx (KeepS.nil _))) ?_; clear hc hx h2 h3 hB; generalize ((x9.setCell ⟨(w.heap.size + 1), 0, none⟩ (.slice (some ad) n c)).setCell ⟨(w.heap.size + 1), 1, none⟩ (.int .i64 (q : Int))) = x8 at *; have h2 := gm; have hc := gc; have hx := gx; have h3 := go_; have hB := gB; clear gm gc gx go_ gB; have hQ := And.intro hQ0 (KeepS.cons hc (KeepS.cons hx (KeepS.nil x8)))
          try simp only [Act.put, List.setIfInBounds_toArray, List.set_cons_zero, List.set_cons_succ]
          refine s_step (i := 3) (oi := ?oia23) (by kernel_rfl) ?hia23 ?hwa23 (fun K hK => ?_)
          case hia23 => simp only [List.getElem?_toArray, List.getElem?_cons_zero, List.getElem?_cons_succ]; rfl
          case hwa23 => rfl
          have y0 : x8.cell? ⟨(w.heap.size + 2), 0, none⟩ = some (.int .u8 0) := (h3.cell 0).trans rfl; have yf0 := h3.frozen 0; have y1 : x8.cell? ⟨(w.heap.size + 2), 1, none⟩ = some (.int .i64 0) := (h3.cell 1).trans rfl; have yf1 := h3.frozen 1; have y2 : x8.cell? ⟨(w.heap.size + 2), 2, none⟩ = some (.int .i64 0) := (h3.cell 2).trans rfl; have yf2 := h3.frozen 2; have y3 : x8.cell? ⟨(w.heap.size + 2), 3, none⟩ = some (.int .i64 0) := (h3.cell 3).trans rfl; have yf3 := h3.frozen 3; go_simp; clear y0 yf0 y1 yf1 y2 yf2 y3 yf3; have gm : Blk ((((x8.setCell ⟨(w.heap.size + 2), 0, none⟩ (.int .u8 (op : Int))).setCell ⟨(w.heap.size + 2), 1, none⟩ (.int .i64 v0)).setCell ⟨(w.heap.size + 2), 2, none⟩ (.int .i64 v1)).setCell ⟨(w.heap.size + 2), 3, none⟩ (.int .i64 0)) (w.heap.size + 2) 23 #[.int .u8 (op : Int), .int .i64 v0, .int .i64 v1, .int .i64 0] := ((((h3.set_ 0 (.int .u8 (op : Int))).set_ 1 (.int .i64 v0)).set_ 2 (.int .i64 v1)).set_ 3 (.int .i64 0)); have gc := ((((hc.far (p := ⟨(w.heap.size + 2), 0, none⟩) (by simp <;> omega) (.int .u8 (op : Int))).far (p := ⟨(w.heap.size + 2), 1, none⟩) (by simp <;> omega) (.int .i64 v0)).far (p := ⟨(w.heap.size + 2), 2, none⟩) (by simp <;> omega) (.int .i64 v1)).far (p := ⟨(w.heap.size + 2), 3, none⟩) (by simp <;> omega) (.int .i64 0)); have gx := ((((hx.far (p := ⟨(w.heap.size + 2), 0, none⟩) (by simp <;> omega) (.int .u8 (op : Int))).far (p := ⟨(w.heap.size + 2), 1, none⟩) (by simp <;> omega) (.int .i64 v0)).far (p := ⟨(w.heap.size + 2), 2, none⟩) (by simp <;> omega) (.int .i64 v1)).far (p := ⟨(w.heap.size + 2), 3, none⟩) (by simp <;> omega) (.int .i64 0)); have go_ := ((((h2.far (p := ⟨(w.heap.size + 2), 0, none⟩) (by simp <;> omega) (.int .u8 (op : Int))).far (p := ⟨(w.heap.size + 2), 1, none⟩) (by simp <;> omega) (.int .i64 v0)).far (p := ⟨(w.heap.size + 2), 2, none⟩) (by simp <;> omega) (.int .i64 v1)).far (p := ⟨(w.heap.size + 2), 3, none⟩) (by simp <;> omega) (.int .i64 0)); have gB := ((((hB.setCell (p := ⟨(w.heap.size + 2), 0, none⟩) (by simp <;> omega) (.int .u8 (op : Int))).setCell (p := ⟨(w.heap.size + 2), 1, none⟩) (by simp <;> omega) (.int .i64 v0)).setCell (p := ⟨(w.heap.size + 2), 2, none⟩) (by simp <;> omega) (.int .i64 v1)).setCell (p := ⟨(w.heap.size + 2), 3, none⟩) (by simp <;> omega) (.int .i64 0)); refine hK _ _ (KeepS.cons gc (KeepS.cons gx (KeepS.nil _))) ?_; clear hc hx h2 h3 hB; generalize ((((x8.setCell ⟨(w.heap.size + 2), 0, none⟩ (.int .u8 (op : Int))).setCell ⟨(w.heap.size + 2), 1, none⟩ (.int .i64 v0)).setCell ⟨(w.heap.size + 2), 2, none⟩ (.int .i64 v1)).setCell ⟨(w.heap.size + 2), 3, none⟩ (.int .i64 0)) = x7 at *; have h3 := gm; have hc := gc; have hx := gx; have h2 := go_; have hB := gB; clear gm gc gx go_ gB; have hQ := And.intro hQ0 (KeepS.cons hc (KeepS.cons hx (KeepS.nil x7)))
          try simp only [Act.put, List.setIfInBounds_toArray, List.set_cons_zero, List.set_cons_succ]
          refine s_take (i := 4) (oi := ?oia24) (v := ?va24) ?hia24 (by kernel_rfl) (by kernel_rfl) (by kernel_rfl) hQ ?hwa24 ?hya24 ?resta24
          case hia24 => simp only [List.getElem?_toArray, List.getElem?_cons_zero, List.getElem?_cons_succ]; rfl
          case hwa24 => rfl
          case hya24 => intro W hW; go_simp; with_reducible rfl
          simp only [Act.put, List.setIfInBounds_toArray, List.set_cons_zero, List.set_cons_succ]
          refine wpAnyH_done (by kernel_rfl) ?_ _
          simp only [NoP]
          clear X0 X1 X2 X3 X4 X5 hQ hQ0
          go_wp2_with fail
          refine ret_cc1 rfl curT insT rfl h2 (by rfl) rfl h3 (by rfl) ?_
          exact ⟨.inl ⟨HE.out, by rw [show ((p : Int)).toNat = p from by simp, HX.out, HOP.out, E3.out, EP.out.1, EP.out.2.1, EP.out.2.2]; rfl⟩, hB⟩
        · have HE := Lib.hid (show dcE l (p : Int) = 12 from by
            rw [dcE, HL.out, HCK.out, if_neg (by simp), if_neg (by simp; omega), show ((p : Int)).toNat = p from by simp, HX.out, HOP.out, HSH.out, if_neg (by simp), if_neg (by rw [E1.out]; simp), EP.out.1, EP.out.2.1, EP.out.2.2, if_neg hck])
          have HN0 := Lib.hid (show (12 : Int) ≠ 0 by decide)
          obtain ⟨E, hE⟩ : ∃ E, ckI op v0 v1 0 = E := ⟨_, rfl⟩
          rw [hE] at hck ⊢
          have dr : (E != 0) = true := by rw [bne_iff_ne]; exact hck
          clear hck hE
          have z919 : y1.cell? ⟨w.heap.size, 0, none⟩ = some (.slice (some ad) n c) := (hc.cell 0).trans rfl
          have z920 := hc.frozen 0
          have z921 : y1.cell? ⟨w.heap.size, 1, none⟩ = some (.int .i64 (q : Int)) := (hc.cell 1).trans rfl
          have z922 := hc.frozen 1
          have z923 : y1.cell? ⟨px, 0, none⟩ = some (.int .u8 (op : Int)) := (hx.cell 0).trans rfl
          have z924 := hx.frozen 0
          have z925 : y1.cell? ⟨px, 1, none⟩ = some (.int .i64 v0) := (hx.cell 1).trans rfl
          have z926 := hx.frozen 1
          have z927 : y1.cell? ⟨px, 2, none⟩ = some (.int .i64 v1) := (hx.cell 2).trans rfl
          have z928 := hx.frozen 2
          have z929 : y1.cell? ⟨px, 3, none⟩ = some (.int .i64 0) := (hx.cell 3).trans rfl
          have z930 := hx.frozen 3
          have z931 := hc.lt
          have z932 := h2.lt
          have z933 := h3.lt
          have z934 := hx.lt
          have z935 := hu.lt
          have z936 := ht.lt
          go_wp2_with fail
          refine (fail6_any 12 _).mono ?_
          rintro e f6 ⟨rfl, bB⟩
          replace h2 := Blk.via0 (g := (w.heap.size + 1)) (t := 39) bB (by repeat (first | with_reducible exact h2 | with_reducible (apply Blk.set_) | with_reducible (apply Blk.far; case hp => (simp <;> omega)) | with_reducible (apply Blk.alloc) | with_reducible (apply Blk.drew)))
          replace h2 : Blk f6 (w.heap.size + 1) 39 #[.slice none 0 0, .int .i64 0] := h2
          replace h3 := Blk.via0 (g := (w.heap.size + 2)) (t := 23) bB (by repeat (first | with_reducible exact h3 | with_reducible (apply Blk.set_) | with_reducible (apply Blk.far; case hp => (simp <;> omega)) | with_reducible (apply Blk.alloc) | with_reducible (apply Blk.drew)))
          replace h3 : Blk f6 (w.heap.size + 2) 23 #[.int .u8 0, .int .i64 0, .int .i64 0, .int .i64 0] := h3
          replace hB := Below.via (w := w) (by have hs_ := hB.size; repeat (first | with_reducible exact hB | with_reducible (refine Below.setCell ?_ (by simp <;> omega) _) | with_reducible (refine Below.alloc ?_ (by first | exact hs_ | (simp <;> omega)) _) | with_reducible (refine Below.drew ?_))) bB
          clear z919 z920 z921 z922 z923 z924 z925 z926 z927 z928 z929 z930 z931 z932 z933 z934 z935 z936
          clear bB
          have z937 : f6.cell? ⟨(w.heap.size + 1), 0, none⟩ = some (.slice none 0 0) := (h2.cell 0).trans rfl
          have z938 := h2.frozen 0
          have z939 : f6.cell? ⟨(w.heap.size + 1), 1, none⟩ = some (.int .i64 0) := (h2.cell 1).trans rfl
          have z940 := h2.frozen 1
          have z941 : f6.cell? ⟨(w.heap.size + 2), 0, none⟩ = some (.int .u8 0) := (h3.cell 0).trans rfl
          have z942 := h3.frozen 0
          have z943 : f6.cell? ⟨(w.heap.size + 2), 1, none⟩ = some (.int .i64 0) := (h3.cell 1).trans rfl
          have z944 := h3.frozen 1
          have z945 : f6.cell? ⟨(w.heap.size + 2), 2, none⟩ = some (.int .i64 0) := (h3.cell 2).trans rfl
          have z946 := h3.frozen 2
          have z947 : f6.cell? ⟨(w.heap.size + 2), 3, none⟩ = some (.int .i64 0) := (h3.cell 3).trans rfl
          have z948 := h3.frozen 3
          have z949 := h2.lt
          have z950 := h3.lt
          go_wp2_with fail
          refine ret_cc1 rfl curT insT rfl (by repeat (first | with_reducible exact h2 | with_reducible (apply Blk.set_) | with_reducible (apply Blk.far; case hp => (simp <;> omega)) | with_reducible (apply Blk.alloc) | with_reducible (apply Blk.drew))) (by rfl) rfl (by repeat (first | with_reducible exact h3 | with_reducible (apply Blk.set_) | with_reducible (apply Blk.far; case hp => (simp <;> omega)) | with_reducible (apply Blk.alloc) | with_reducible (apply Blk.drew))) (by rfl) ?_
          exact ⟨.inr ⟨by rw [HE.out]; exact HN0.out, by rw [HE.out]; rfl⟩, (by have hs_ := hB.size; repeat (first | with_reducible exact hB | with_reducible (refine Below.setCell ?_ (by simp <;> omega) _) | with_reducible (refine Below.alloc ?_ (by first | exact hs_ | (simp <;> omega)) _) | with_reducible (refine Below.drew ?_)))⟩
      obtain ⟨r, hr⟩ : ∃ r, m - 2 = r + 1 := ⟨m - 2 - 1, by omega⟩
      have HRR := Lib.hid hr
      have dj : decide ((2 : Int) < (m : Int)) = true := by simp; omega
      have hrr := Lib.hid (show m - 3 = r by omega)
      clear hr
      obtain ⟨er, her⟩ : ∃ er, uvE l (q : Int) 18446744073709551615 = er := ⟨_, rfl⟩
      have HER := Lib.hid her
      have hlt0 : c1 < 0 ∨ ¬ c1 < 0 := by omega
      rcases hlt0 with hl | hl
      · have dl : decide (c1 < 0) = true := by simp; omega
        have HU := fun W h => unsigned_any (some ad) n c l (q : Int) W h hnc.2 (by omega)
        by_cases he0 : er = 0
        · subst he0
          obtain ⟨e1, e2⟩ := uv_ok (some ad) n c her
          rw [e2, her] at HU
          obtain ⟨hz1, hz2, hz3⟩ := uv_zero her
          obtain ⟨hy1, hy2, hy3, _⟩ := uvR_le hz2
          rw [show ((q : Int)).toNat = q from by simp] at hy3
          obtain ⟨s, hs⟩ : ∃ s, (uvR l (q : Int)).2.2 = s := ⟨_, rfl⟩
          have hqs : q + s ≤ n := by rw [← HL.out, ← hs]; exact hy3
          obtain ⟨u, hu_⟩ : ∃ u, uvN l (q : Int) 18446744073709551615 = u := ⟨_, rfl⟩
          have hub : u < 18446744073709551616 := by rw [← hu_, e1]; exact hy1
          rw [hs, hu_] at HU
          rw [show (q : Int) + (s : Nat) = ((q + s : Nat) : Int) from by omega] at HU
          have HDV := Lib.hid (show dvN (c1, c2, c3, c4) l q = hlf u from by rw [dvN, hu_]; simp only; rw [if_pos (by omega)])
          have HST := Lib.hid (show dcL (m - 2) [(c1, c2, c3, c4)] l q = ((dcL (m - 3) [] l (q + s)).1, dvN (c1, c2, c3, c4) l q :: (dcL (m - 3) [] l (q + s)).2.1, (dcL (m - 3) [] l (q + s)).2.2) from by
            rw [HRR.out, hrr.out, dcL_ok HER.out, hs])
          clear her e1 e2 hz1 hz2 hz3 hy1 hy2 hy3 hs hu_
          have z901 : wr.cell? ⟨w.heap.size, 0, none⟩ = some (.slice (some ad) n c) := (hc.cell 0).trans rfl
          have z902 := hc.frozen 0
          have z903 : wr.cell? ⟨w.heap.size, 1, none⟩ = some (.int .i64 (q : Int)) := (hc.cell 1).trans rfl
          have z904 := hc.frozen 1
          have z905 : wr.cell? ⟨px, 0, none⟩ = some (.int .u8 (op : Int)) := (hx.cell 0).trans rfl
          have z906 := hx.frozen 0
          have z907 : wr.cell? ⟨px, 1, none⟩ = some (.int .i64 v0) := (hx.cell 1).trans rfl
          have z908 := hx.frozen 1
          have z909 : wr.cell? ⟨px, 2, none⟩ = some (.int .i64 v1) := (hx.cell 2).trans rfl
          have z910 := hx.frozen 2
          have z911 : wr.cell? ⟨px, 3, none⟩ = some (.int .i64 0) := (hx.cell 3).trans rfl
          have z912 := hx.frozen 3
          have z913 := hc.lt
          have z914 := h2.lt
          have z915 := h3.lt
          have z916 := hx.lt
          have z917 := hu.lt
          have z918 := ht.lt
          have z919 : wr.cell? ⟨pu, 8, none⟩ = some (.int .i64 c1) := (hu.cell 8).trans rfl
          have z920 : wr.cell? ⟨pu + 1, 2, none⟩ = some (.pointer (some ⟨px, 3, none⟩)) := (ht.cell 2).trans rfl
          go_wp2_with fail
          refine (HU _ (HR.out.mv hB)).mono ?_
          rintro e x1 ⟨rfl, bB⟩
          replace hc := hc.below bB hc.lt
          replace h2 := h2.below bB h2.lt
          replace h3 := h3.below bB h3.lt
          replace hx := hx.below bB hx.lt
          replace hu := hu.below bB hu.lt
          replace ht := ht.below bB ht.lt
          replace hB := hB.trans (bB.mono hB.size)
          clear z901 z902 z903 z904 z905 z906 z907 z908 z909 z910 z911 z912 z913 z914 z915 z916 z917 z918 z919 z920
          clear bB
          clear HU
          have z921 : x1.cell? ⟨w.heap.size, 0, none⟩ = some (.slice (some ad) n c) := (hc.cell 0).trans rfl
          have z922 := hc.frozen 0
          have z923 : x1.cell? ⟨w.heap.size, 1, none⟩ = some (.int .i64 (q : Int)) := (hc.cell 1).trans rfl
          have z924 := hc.frozen 1
          have z925 : x1.cell? ⟨px, 0, none⟩ = some (.int .u8 (op : Int)) := (hx.cell 0).trans rfl
          have z926 := hx.frozen 0
          have z927 : x1.cell? ⟨px, 1, none⟩ = some (.int .i64 v0) := (hx.cell 1).trans rfl
          have z928 := hx.frozen 1
          have z929 : x1.cell? ⟨px, 2, none⟩ = some (.int .i64 v1) := (hx.cell 2).trans rfl
          have z930 := hx.frozen 2
          have z931 : x1.cell? ⟨px, 3, none⟩ = some (.int .i64 0) := (hx.cell 3).trans rfl
          have z932 := hx.frozen 3
          have z933 := hc.lt
          have z934 := h2.lt
          have z935 := h3.lt
          have z936 := hx.lt
          have z937 := hu.lt
          have z938 := ht.lt
          have z939 : x1.cell? ⟨pu, 8, none⟩ = some (.int .i64 c1) := (hu.cell 8).trans rfl
          have z940 : x1.cell? ⟨pu + 1, 2, none⟩ = some (.pointer (some ⟨px, 3, none⟩)) := (ht.cell 2).trans rfl
          go_wp2_with fail
          go_roundw
          case rel => exact ⟨3, q + s, (v0), (v1), (hlf u), by omega, by go_num, hqs, by omega, by omega, by omega, fun _ => ⟨by rw [D1.out, HST.out, dcL_nil], by rw [D2.out, HST.out, HDV.out, dcL_nil], by rw [D3.out, HST.out, dcL_nil]⟩, (((hc.set_ 0 (.slice (some ad) n c)).set_ 1 (.int .i64 ((q + s : Nat) : Int))).far (p := ⟨px, 3, none⟩) (by simp <;> omega) (.int .i64 (hlf u))), (((h2.far (p := ⟨w.heap.size, 0, none⟩) (by simp <;> omega) (.slice (some ad) n c)).far (p := ⟨w.heap.size, 1, none⟩) (by simp <;> omega) (.int .i64 ((q + s : Nat) : Int))).far (p := ⟨px, 3, none⟩) (by simp <;> omega) (.int .i64 (hlf u))), (((h3.far (p := ⟨w.heap.size, 0, none⟩) (by simp <;> omega) (.slice (some ad) n c)).far (p := ⟨w.heap.size, 1, none⟩) (by simp <;> omega) (.int .i64 ((q + s : Nat) : Int))).far (p := ⟨px, 3, none⟩) (by simp <;> omega) (.int .i64 (hlf u))), (((hx.far (p := ⟨w.heap.size, 0, none⟩) (by simp <;> omega) (.slice (some ad) n c)).far (p := ⟨w.heap.size, 1, none⟩) (by simp <;> omega) (.int .i64 ((q + s : Nat) : Int))).set_ 3 (.int .i64 (hlf u))), (((hu.far (p := ⟨w.heap.size, 0, none⟩) (by simp <;> omega) (.slice (some ad) n c)).far (p := ⟨w.heap.size, 1, none⟩) (by simp <;> omega) (.int .i64 ((q + s : Nat) : Int))).far (p := ⟨px, 3, none⟩) (by simp <;> omega) (.int .i64 (hlf u))), (((ht.far (p := ⟨w.heap.size, 0, none⟩) (by simp <;> omega) (.slice (some ad) n c)).far (p := ⟨w.heap.size, 1, none⟩) (by simp <;> omega) (.int .i64 ((q + s : Nat) : Int))).far (p := ⟨px, 3, none⟩) (by simp <;> omega) (.int .i64 (hlf u))), (((hB.setCell (p := ⟨w.heap.size, 0, none⟩) (by simp <;> omega) (.slice (some ad) n c)).setCell (p := ⟨w.heap.size, 1, none⟩) (by simp <;> omega) (.int .i64 ((q + s : Nat) : Int))).setCell (p := ⟨px, 3, none⟩) (by simp <;> omega) (.int .i64 (hlf u)))⟩
          case measure => simp [intOf]
        · obtain ⟨e1, e2⟩ := uv_bad (some ad) n c her he0
          rw [e1, e2, her] at HU
          have HN0 := Lib.hid he0
          have HE := Lib.hid (show dcE l (p : Int) = er from by
            have hd : (dcD l p).1 = er := by rw [D1.out, HRR.out, dcL_bad (by rw [HER.out]; exact he0), HER.out]
            rw [dcE, HL.out, HCK.out, if_neg (by simp), if_neg (by simp; omega), show ((p : Int)).toNat = p from by simp, HX.out, HOP.out, HSH.out, if_neg (by simp), if_pos (by rw [hd]; exact he0), hd])
          have dr : (er != 0) = true := by rw [bne_iff_ne]; exact he0
          clear her he0 e1 e2
          rw [show hlf 0 = 0 from rfl] at HU
          have z901 : wr.cell? ⟨w.heap.size, 0, none⟩ = some (.slice (some ad) n c) := (hc.cell 0).trans rfl
          have z902 := hc.frozen 0
          have z903 : wr.cell? ⟨w.heap.size, 1, none⟩ = some (.int .i64 (q : Int)) := (hc.cell 1).trans rfl
          have z904 := hc.frozen 1
          have z905 : wr.cell? ⟨px, 0, none⟩ = some (.int .u8 (op : Int)) := (hx.cell 0).trans rfl
          have z906 := hx.frozen 0
          have z907 : wr.cell? ⟨px, 1, none⟩ = some (.int .i64 v0) := (hx.cell 1).trans rfl
          have z908 := hx.frozen 1
          have z909 : wr.cell? ⟨px, 2, none⟩ = some (.int .i64 v1) := (hx.cell 2).trans rfl
          have z910 := hx.frozen 2
          have z911 : wr.cell? ⟨px, 3, none⟩ = some (.int .i64 0) := (hx.cell 3).trans rfl
          have z912 := hx.frozen 3
          have z913 := hc.lt
          have z914 := h2.lt
          have z915 := h3.lt
          have z916 := hx.lt
          have z917 := hu.lt
          have z918 := ht.lt
          have z919 : wr.cell? ⟨pu, 8, none⟩ = some (.int .i64 c1) := (hu.cell 8).trans rfl
          have z920 : wr.cell? ⟨pu + 1, 2, none⟩ = some (.pointer (some ⟨px, 3, none⟩)) := (ht.cell 2).trans rfl
          go_wp2_with fail
          refine (HU _ (HR.out.mv hB)).mono ?_
          rintro e x1 ⟨rfl, bB⟩
          replace hc := hc.below bB hc.lt
          replace h2 := h2.below bB h2.lt
          replace h3 := h3.below bB h3.lt
          replace hx := hx.below bB hx.lt
          replace hu := hu.below bB hu.lt
          replace ht := ht.below bB ht.lt
          replace hB := hB.trans (bB.mono hB.size)
          clear z901 z902 z903 z904 z905 z906 z907 z908 z909 z910 z911 z912 z913 z914 z915 z916 z917 z918 z919 z920
          clear bB
          clear HU
          have z921 : x1.cell? ⟨w.heap.size, 0, none⟩ = some (.slice (some ad) n c) := (hc.cell 0).trans rfl
          have z922 := hc.frozen 0
          have z923 : x1.cell? ⟨w.heap.size, 1, none⟩ = some (.int .i64 (q : Int)) := (hc.cell 1).trans rfl
          have z924 := hc.frozen 1
          have z925 : x1.cell? ⟨px, 0, none⟩ = some (.int .u8 (op : Int)) := (hx.cell 0).trans rfl
          have z926 := hx.frozen 0
          have z927 : x1.cell? ⟨px, 1, none⟩ = some (.int .i64 v0) := (hx.cell 1).trans rfl
          have z928 := hx.frozen 1
          have z929 : x1.cell? ⟨px, 2, none⟩ = some (.int .i64 v1) := (hx.cell 2).trans rfl
          have z930 := hx.frozen 2
          have z931 : x1.cell? ⟨px, 3, none⟩ = some (.int .i64 0) := (hx.cell 3).trans rfl
          have z932 := hx.frozen 3
          have z933 := hc.lt
          have z934 := h2.lt
          have z935 := h3.lt
          have z936 := hx.lt
          have z937 := hu.lt
          have z938 := ht.lt
          have z939 : x1.cell? ⟨pu, 8, none⟩ = some (.int .i64 c1) := (hu.cell 8).trans rfl
          have z940 : x1.cell? ⟨pu + 1, 2, none⟩ = some (.pointer (some ⟨px, 3, none⟩)) := (ht.cell 2).trans rfl
          go_wp2_with fail
          refine (fail6_any er _).mono ?_
          rintro e x2 ⟨rfl, bB⟩
          replace h2 := Blk.via0 (g := (w.heap.size + 1)) (t := 39) bB (by repeat (first | with_reducible exact h2 | with_reducible (apply Blk.set_) | with_reducible (apply Blk.far; case hp => (simp <;> omega)) | with_reducible (apply Blk.alloc) | with_reducible (apply Blk.drew)))
          replace h2 : Blk x2 (w.heap.size + 1) 39 #[.slice none 0 0, .int .i64 0] := h2
          replace h3 := Blk.via0 (g := (w.heap.size + 2)) (t := 23) bB (by repeat (first | with_reducible exact h3 | with_reducible (apply Blk.set_) | with_reducible (apply Blk.far; case hp => (simp <;> omega)) | with_reducible (apply Blk.alloc) | with_reducible (apply Blk.drew)))
          replace h3 : Blk x2 (w.heap.size + 2) 23 #[.int .u8 0, .int .i64 0, .int .i64 0, .int .i64 0] := h3
          replace hB := Below.via (w := w) (by have hs_ := hB.size; repeat (first | with_reducible exact hB | with_reducible (refine Below.setCell ?_ (by simp <;> omega) _) | with_reducible (refine Below.alloc ?_ (by first | exact hs_ | (simp <;> omega)) _) | with_reducible (refine Below.drew ?_))) bB
          clear z921 z922 z923 z924 z925 z926 z927 z928 z929 z930 z931 z932 z933 z934 z935 z936 z937 z938 z939 z940
          clear bB
          have z941 : x2.cell? ⟨(w.heap.size + 1), 0, none⟩ = some (.slice none 0 0) := (h2.cell 0).trans rfl
          have z942 := h2.frozen 0
          have z943 : x2.cell? ⟨(w.heap.size + 1), 1, none⟩ = some (.int .i64 0) := (h2.cell 1).trans rfl
          have z944 := h2.frozen 1
          have z945 : x2.cell? ⟨(w.heap.size + 2), 0, none⟩ = some (.int .u8 0) := (h3.cell 0).trans rfl
          have z946 := h3.frozen 0
          have z947 : x2.cell? ⟨(w.heap.size + 2), 1, none⟩ = some (.int .i64 0) := (h3.cell 1).trans rfl
          have z948 := h3.frozen 1
          have z949 : x2.cell? ⟨(w.heap.size + 2), 2, none⟩ = some (.int .i64 0) := (h3.cell 2).trans rfl
          have z950 := h3.frozen 2
          have z951 : x2.cell? ⟨(w.heap.size + 2), 3, none⟩ = some (.int .i64 0) := (h3.cell 3).trans rfl
          have z952 := h3.frozen 3
          have z953 := h2.lt
          have z954 := h3.lt
          go_wp2_with fail
          refine ret_cc1 rfl curT insT rfl (by repeat (first | with_reducible exact h2 | with_reducible (apply Blk.set_) | with_reducible (apply Blk.far; case hp => (simp <;> omega)) | with_reducible (apply Blk.alloc) | with_reducible (apply Blk.drew))) (by rfl) rfl (by repeat (first | with_reducible exact h3 | with_reducible (apply Blk.set_) | with_reducible (apply Blk.far; case hp => (simp <;> omega)) | with_reducible (apply Blk.alloc) | with_reducible (apply Blk.drew))) (by rfl) ?_
          exact ⟨.inr ⟨by rw [HE.out]; exact HN0.out, by rw [HE.out]; rfl⟩, (by have hs_ := hB.size; repeat (first | with_reducible exact hB | with_reducible (refine Below.setCell ?_ (by simp <;> omega) _) | with_reducible (refine Below.alloc ?_ (by first | exact hs_ | (simp <;> omega)) _) | with_reducible (refine Below.drew ?_)))⟩
      · have dl : decide (c1 < 0) = false := by simp; omega
        have HU := fun W h => unvary_any (some ad) n c l (q : Int) 18446744073709551615 W h hnc.2 (by omega) (by omega)
        by_cases he0 : er = 0
        · subst he0
          obtain ⟨e1, e2⟩ := uv_ok (some ad) n c her
          rw [e2, her] at HU
          obtain ⟨hz1, hz2, hz3⟩ := uv_zero her
          obtain ⟨hy1, hy2, hy3, _⟩ := uvR_le hz2
          rw [show ((q : Int)).toNat = q from by simp] at hy3
          obtain ⟨s, hs⟩ : ∃ s, (uvR l (q : Int)).2.2 = s := ⟨_, rfl⟩
          have hqs : q + s ≤ n := by rw [← HL.out, ← hs]; exact hy3
          obtain ⟨u, hu_⟩ : ∃ u, uvN l (q : Int) 18446744073709551615 = u := ⟨_, rfl⟩
          have hub : u < 18446744073709551616 := by rw [← hu_, e1]; exact hy1
          rw [hs, hu_] at HU
          rw [show (q : Int) + (s : Nat) = ((q + s : Nat) : Int) from by omega] at HU
          have HDV := Lib.hid (show dvN (c1, c2, c3, c4) l q = ((min u 1048576 : Nat) : Int) from by rw [dvN, hu_]; simp only; rw [if_neg (by omega)])
          have HST := Lib.hid (show dcL (m - 2) [(c1, c2, c3, c4)] l q = ((dcL (m - 3) [] l (q + s)).1, dvN (c1, c2, c3, c4) l q :: (dcL (m - 3) [] l (q + s)).2.1, (dcL (m - 3) [] l (q + s)).2.2) from by
            rw [HRR.out, hrr.out, dcL_ok HER.out, hs])
          clear her e1 e2 hz1 hz2 hz3 hy1 hy2 hy3 hs hu_
          obtain ⟨vv, hvv⟩ : ∃ vv : Nat, min u 1048576 = vv := ⟨_, rfl⟩
          have hvb : vv ≤ 1048576 := by omega
          have HVV := Lib.hid hvv
          have wv : IntKind.i64.wrap (vv : Int) = (vv : Int) := by rw [IntKind.wrap_i64]; omega
          have mv_ : min (u : Int) 1048576 = (vv : Int) := by omega
          clear hvv
          have z901 : wr.cell? ⟨w.heap.size, 0, none⟩ = some (.slice (some ad) n c) := (hc.cell 0).trans rfl
          have z902 := hc.frozen 0
          have z903 : wr.cell? ⟨w.heap.size, 1, none⟩ = some (.int .i64 (q : Int)) := (hc.cell 1).trans rfl
          have z904 := hc.frozen 1
          have z905 : wr.cell? ⟨px, 0, none⟩ = some (.int .u8 (op : Int)) := (hx.cell 0).trans rfl
          have z906 := hx.frozen 0
          have z907 : wr.cell? ⟨px, 1, none⟩ = some (.int .i64 v0) := (hx.cell 1).trans rfl
          have z908 := hx.frozen 1
          have z909 : wr.cell? ⟨px, 2, none⟩ = some (.int .i64 v1) := (hx.cell 2).trans rfl
          have z910 := hx.frozen 2
          have z911 : wr.cell? ⟨px, 3, none⟩ = some (.int .i64 0) := (hx.cell 3).trans rfl
          have z912 := hx.frozen 3
          have z913 := hc.lt
          have z914 := h2.lt
          have z915 := h3.lt
          have z916 := hx.lt
          have z917 := hu.lt
          have z918 := ht.lt
          have z919 : wr.cell? ⟨pu, 8, none⟩ = some (.int .i64 c1) := (hu.cell 8).trans rfl
          have z920 : wr.cell? ⟨pu + 1, 2, none⟩ = some (.pointer (some ⟨px, 3, none⟩)) := (ht.cell 2).trans rfl
          go_wp2_with fail
          refine (HU _ (HR.out.mv hB)).mono ?_
          rintro e x1 ⟨rfl, bB⟩
          replace hc := hc.below bB hc.lt
          replace h2 := h2.below bB h2.lt
          replace h3 := h3.below bB h3.lt
          replace hx := hx.below bB hx.lt
          replace hu := hu.below bB hu.lt
          replace ht := ht.below bB ht.lt
          replace hB := hB.trans (bB.mono hB.size)
          clear z901 z902 z903 z904 z905 z906 z907 z908 z909 z910 z911 z912 z913 z914 z915 z916 z917 z918 z919 z920
          clear bB
          clear HU
          have z921 : x1.cell? ⟨w.heap.size, 0, none⟩ = some (.slice (some ad) n c) := (hc.cell 0).trans rfl
          have z922 := hc.frozen 0
          have z923 : x1.cell? ⟨w.heap.size, 1, none⟩ = some (.int .i64 (q : Int)) := (hc.cell 1).trans rfl
          have z924 := hc.frozen 1
          have z925 : x1.cell? ⟨px, 0, none⟩ = some (.int .u8 (op : Int)) := (hx.cell 0).trans rfl
          have z926 := hx.frozen 0
          have z927 : x1.cell? ⟨px, 1, none⟩ = some (.int .i64 v0) := (hx.cell 1).trans rfl
          have z928 := hx.frozen 1
          have z929 : x1.cell? ⟨px, 2, none⟩ = some (.int .i64 v1) := (hx.cell 2).trans rfl
          have z930 := hx.frozen 2
          have z931 : x1.cell? ⟨px, 3, none⟩ = some (.int .i64 0) := (hx.cell 3).trans rfl
          have z932 := hx.frozen 3
          have z933 := hc.lt
          have z934 := h2.lt
          have z935 := h3.lt
          have z936 := hx.lt
          have z937 := hu.lt
          have z938 := ht.lt
          have z939 : x1.cell? ⟨pu, 8, none⟩ = some (.int .i64 c1) := (hu.cell 8).trans rfl
          have z940 : x1.cell? ⟨pu + 1, 2, none⟩ = some (.pointer (some ⟨px, 3, none⟩)) := (ht.cell 2).trans rfl
          go_wp2_with fail
          go_roundw
          case rel => exact ⟨3, q + s, (v0), (v1), ((vv : Int)), by omega, by go_num, hqs, by omega, by omega, by omega, fun _ => ⟨by rw [D1.out, HST.out, dcL_nil], by rw [D2.out, HST.out, (HDV.out.trans (by rw [HVV.out])), dcL_nil], by rw [D3.out, HST.out, dcL_nil]⟩, (((hc.set_ 0 (.slice (some ad) n c)).set_ 1 (.int .i64 ((q + s : Nat) : Int))).far (p := ⟨px, 3, none⟩) (by simp <;> omega) (.int .i64 ((vv : Int)))), (((h2.far (p := ⟨w.heap.size, 0, none⟩) (by simp <;> omega) (.slice (some ad) n c)).far (p := ⟨w.heap.size, 1, none⟩) (by simp <;> omega) (.int .i64 ((q + s : Nat) : Int))).far (p := ⟨px, 3, none⟩) (by simp <;> omega) (.int .i64 ((vv : Int)))), (((h3.far (p := ⟨w.heap.size, 0, none⟩) (by simp <;> omega) (.slice (some ad) n c)).far (p := ⟨w.heap.size, 1, none⟩) (by simp <;> omega) (.int .i64 ((q + s : Nat) : Int))).far (p := ⟨px, 3, none⟩) (by simp <;> omega) (.int .i64 ((vv : Int)))), (((hx.far (p := ⟨w.heap.size, 0, none⟩) (by simp <;> omega) (.slice (some ad) n c)).far (p := ⟨w.heap.size, 1, none⟩) (by simp <;> omega) (.int .i64 ((q + s : Nat) : Int))).set_ 3 (.int .i64 ((vv : Int)))), (((hu.far (p := ⟨w.heap.size, 0, none⟩) (by simp <;> omega) (.slice (some ad) n c)).far (p := ⟨w.heap.size, 1, none⟩) (by simp <;> omega) (.int .i64 ((q + s : Nat) : Int))).far (p := ⟨px, 3, none⟩) (by simp <;> omega) (.int .i64 ((vv : Int)))), (((ht.far (p := ⟨w.heap.size, 0, none⟩) (by simp <;> omega) (.slice (some ad) n c)).far (p := ⟨w.heap.size, 1, none⟩) (by simp <;> omega) (.int .i64 ((q + s : Nat) : Int))).far (p := ⟨px, 3, none⟩) (by simp <;> omega) (.int .i64 ((vv : Int)))), (((hB.setCell (p := ⟨w.heap.size, 0, none⟩) (by simp <;> omega) (.slice (some ad) n c)).setCell (p := ⟨w.heap.size, 1, none⟩) (by simp <;> omega) (.int .i64 ((q + s : Nat) : Int))).setCell (p := ⟨px, 3, none⟩) (by simp <;> omega) (.int .i64 ((vv : Int))))⟩
          case measure => simp [intOf]
        · obtain ⟨e1, e2⟩ := uv_bad (some ad) n c her he0
          rw [e1, e2, her] at HU
          have HN0 := Lib.hid he0
          have HE := Lib.hid (show dcE l (p : Int) = er from by
            have hd : (dcD l p).1 = er := by rw [D1.out, HRR.out, dcL_bad (by rw [HER.out]; exact he0), HER.out]
            rw [dcE, HL.out, HCK.out, if_neg (by simp), if_neg (by simp; omega), show ((p : Int)).toNat = p from by simp, HX.out, HOP.out, HSH.out, if_neg (by simp), if_pos (by rw [hd]; exact he0), hd])
          have dr : (er != 0) = true := by rw [bne_iff_ne]; exact he0
          clear her he0 e1 e2
          have z901 : wr.cell? ⟨w.heap.size, 0, none⟩ = some (.slice (some ad) n c) := (hc.cell 0).trans rfl
          have z902 := hc.frozen 0
          have z903 : wr.cell? ⟨w.heap.size, 1, none⟩ = some (.int .i64 (q : Int)) := (hc.cell 1).trans rfl
          have z904 := hc.frozen 1
          have z905 : wr.cell? ⟨px, 0, none⟩ = some (.int .u8 (op : Int)) := (hx.cell 0).trans rfl
          have z906 := hx.frozen 0
          have z907 : wr.cell? ⟨px, 1, none⟩ = some (.int .i64 v0) := (hx.cell 1).trans rfl
          have z908 := hx.frozen 1
          have z909 : wr.cell? ⟨px, 2, none⟩ = some (.int .i64 v1) := (hx.cell 2).trans rfl
          have z910 := hx.frozen 2
          have z911 : wr.cell? ⟨px, 3, none⟩ = some (.int .i64 0) := (hx.cell 3).trans rfl
          have z912 := hx.frozen 3
          have z913 := hc.lt
          have z914 := h2.lt
          have z915 := h3.lt
          have z916 := hx.lt
          have z917 := hu.lt
          have z918 := ht.lt
          have z919 : wr.cell? ⟨pu, 8, none⟩ = some (.int .i64 c1) := (hu.cell 8).trans rfl
          have z920 : wr.cell? ⟨pu + 1, 2, none⟩ = some (.pointer (some ⟨px, 3, none⟩)) := (ht.cell 2).trans rfl
          go_wp2_with fail
          refine (HU _ (HR.out.mv hB)).mono ?_
          rintro e x1 ⟨rfl, bB⟩
          replace hc := hc.below bB hc.lt
          replace h2 := h2.below bB h2.lt
          replace h3 := h3.below bB h3.lt
          replace hx := hx.below bB hx.lt
          replace hu := hu.below bB hu.lt
          replace ht := ht.below bB ht.lt
          replace hB := hB.trans (bB.mono hB.size)
          clear z901 z902 z903 z904 z905 z906 z907 z908 z909 z910 z911 z912 z913 z914 z915 z916 z917 z918 z919 z920
          clear bB
          clear HU
          have z921 : x1.cell? ⟨w.heap.size, 0, none⟩ = some (.slice (some ad) n c) := (hc.cell 0).trans rfl
          have z922 := hc.frozen 0
          have z923 : x1.cell? ⟨w.heap.size, 1, none⟩ = some (.int .i64 (q : Int)) := (hc.cell 1).trans rfl
          have z924 := hc.frozen 1
          have z925 : x1.cell? ⟨px, 0, none⟩ = some (.int .u8 (op : Int)) := (hx.cell 0).trans rfl
          have z926 := hx.frozen 0
          have z927 : x1.cell? ⟨px, 1, none⟩ = some (.int .i64 v0) := (hx.cell 1).trans rfl
          have z928 := hx.frozen 1
          have z929 : x1.cell? ⟨px, 2, none⟩ = some (.int .i64 v1) := (hx.cell 2).trans rfl
          have z930 := hx.frozen 2
          have z931 : x1.cell? ⟨px, 3, none⟩ = some (.int .i64 0) := (hx.cell 3).trans rfl
          have z932 := hx.frozen 3
          have z933 := hc.lt
          have z934 := h2.lt
          have z935 := h3.lt
          have z936 := hx.lt
          have z937 := hu.lt
          have z938 := ht.lt
          have z939 : x1.cell? ⟨pu, 8, none⟩ = some (.int .i64 c1) := (hu.cell 8).trans rfl
          have z940 : x1.cell? ⟨pu + 1, 2, none⟩ = some (.pointer (some ⟨px, 3, none⟩)) := (ht.cell 2).trans rfl
          go_wp2_with fail
          refine (fail6_any er _).mono ?_
          rintro e x2 ⟨rfl, bB⟩
          replace h2 := Blk.via0 (g := (w.heap.size + 1)) (t := 39) bB (by repeat (first | with_reducible exact h2 | with_reducible (apply Blk.set_) | with_reducible (apply Blk.far; case hp => (simp <;> omega)) | with_reducible (apply Blk.alloc) | with_reducible (apply Blk.drew)))
          replace h2 : Blk x2 (w.heap.size + 1) 39 #[.slice none 0 0, .int .i64 0] := h2
          replace h3 := Blk.via0 (g := (w.heap.size + 2)) (t := 23) bB (by repeat (first | with_reducible exact h3 | with_reducible (apply Blk.set_) | with_reducible (apply Blk.far; case hp => (simp <;> omega)) | with_reducible (apply Blk.alloc) | with_reducible (apply Blk.drew)))
          replace h3 : Blk x2 (w.heap.size + 2) 23 #[.int .u8 0, .int .i64 0, .int .i64 0, .int .i64 0] := h3
          replace hB := Below.via (w := w) (by have hs_ := hB.size; repeat (first | with_reducible exact hB | with_reducible (refine Below.setCell ?_ (by simp <;> omega) _) | with_reducible (refine Below.alloc ?_ (by first | exact hs_ | (simp <;> omega)) _) | with_reducible (refine Below.drew ?_))) bB
          clear z921 z922 z923 z924 z925 z926 z927 z928 z929 z930 z931 z932 z933 z934 z935 z936 z937 z938 z939 z940
          clear bB
          have z941 : x2.cell? ⟨(w.heap.size + 1), 0, none⟩ = some (.slice none 0 0) := (h2.cell 0).trans rfl
          have z942 := h2.frozen 0
          have z943 : x2.cell? ⟨(w.heap.size + 1), 1, none⟩ = some (.int .i64 0) := (h2.cell 1).trans rfl
          have z944 := h2.frozen 1
          have z945 : x2.cell? ⟨(w.heap.size + 2), 0, none⟩ = some (.int .u8 0) := (h3.cell 0).trans rfl
          have z946 := h3.frozen 0
          have z947 : x2.cell? ⟨(w.heap.size + 2), 1, none⟩ = some (.int .i64 0) := (h3.cell 1).trans rfl
          have z948 := h3.frozen 1
          have z949 : x2.cell? ⟨(w.heap.size + 2), 2, none⟩ = some (.int .i64 0) := (h3.cell 2).trans rfl
          have z950 := h3.frozen 2
          have z951 : x2.cell? ⟨(w.heap.size + 2), 3, none⟩ = some (.int .i64 0) := (h3.cell 3).trans rfl
          have z952 := h3.frozen 3
          have z953 := h2.lt
          have z954 := h3.lt
          go_wp2_with fail
          refine ret_cc1 rfl curT insT rfl (by repeat (first | with_reducible exact h2 | with_reducible (apply Blk.set_) | with_reducible (apply Blk.far; case hp => (simp <;> omega)) | with_reducible (apply Blk.alloc) | with_reducible (apply Blk.drew))) (by rfl) rfl (by repeat (first | with_reducible exact h3 | with_reducible (apply Blk.set_) | with_reducible (apply Blk.far; case hp => (simp <;> omega)) | with_reducible (apply Blk.alloc) | with_reducible (apply Blk.drew))) (by rfl) ?_
          exact ⟨.inr ⟨by rw [HE.out]; exact HN0.out, by rw [HE.out]; rfl⟩, (by have hs_ := hB.size; repeat (first | with_reducible exact hB | with_reducible (refine Below.setCell ?_ (by simp <;> omega) _) | with_reducible (refine Below.alloc ?_ (by first | exact hs_ | (simp <;> omega)) _) | with_reducible (refine Below.drew ?_)))⟩
    · obtain ⟨d1, d2, d3⟩ := h3_ rfl
      have D1 := Lib.hid d1
      have D2 := Lib.hid d2
      have D3 := Lib.hid d3
      clear d1 d2 d3
      clear h0_ h1_ h2_ h3_
      have dj : decide ((3 : Int) < (m : Int)) = false := by simp; omega
      have E1 := D1
      have E2 := D2
      have E3 := D3
      have EP := Lib.hid (show padI (dcD l p).2.1 0 = v0 ∧ padI (dcD l p).2.1 1 = v1 ∧ padI (dcD l p).2.1 2 = v2 from by rw [E2.out]; exact ⟨rfl, rfl, rfl⟩)
      have z901 : wr.cell? ⟨w.heap.size, 0, none⟩ = some (.slice (some ad) n c) := (hc.cell 0).trans rfl
      have z902 := hc.frozen 0
      have z903 : wr.cell? ⟨w.heap.size, 1, none⟩ = some (.int .i64 (q : Int)) := (hc.cell 1).trans rfl
      have z904 := hc.frozen 1
      have z905 : wr.cell? ⟨px, 0, none⟩ = some (.int .u8 (op : Int)) := (hx.cell 0).trans rfl
      have z906 := hx.frozen 0
      have z907 : wr.cell? ⟨px, 1, none⟩ = some (.int .i64 v0) := (hx.cell 1).trans rfl
      have z908 := hx.frozen 1
      have z909 : wr.cell? ⟨px, 2, none⟩ = some (.int .i64 v1) := (hx.cell 2).trans rfl
      have z910 := hx.frozen 2
      have z911 : wr.cell? ⟨px, 3, none⟩ = some (.int .i64 v2) := (hx.cell 3).trans rfl
      have z912 := hx.frozen 3
      have z913 := hc.lt
      have z914 := h2.lt
      have z915 := h3.lt
      have z916 := hx.lt
      have z917 := hu.lt
      have z918 := ht.lt
      go_wp2_with fail
      refine (check6_any op hop6 v0 v1 v2 _).mono ?_
      rintro e y1 ⟨rfl, bB⟩
      replace hc := hc.below bB hc.lt
      replace h2 := h2.below bB h2.lt
      replace h3 := h3.below bB h3.lt
      replace hx := hx.below bB hx.lt
      replace hu := hu.below bB hu.lt
      replace ht := ht.below bB ht.lt
      replace hB := hB.trans (bB.mono hB.size)
      clear z901 z902 z903 z904 z905 z906 z907 z908 z909 z910 z911 z912 z913 z914 z915 z916 z917 z918
      clear bB
      by_cases hck : ckI op v0 v1 v2 = 0
      · have HE := Lib.hid (show dcE l (p : Int) = 0 from by
          rw [dcE, HL.out, HCK.out, if_neg (by simp), if_neg (by simp; omega), show ((p : Int)).toNat = p from by simp, HX.out, HOP.out, HSH.out, if_neg (by simp), if_neg (by rw [E1.out]; simp), EP.out.1, EP.out.2.1, EP.out.2.2, if_pos hck])
        rw [hck]
        clear hck
        have z919 : y1.cell? ⟨w.heap.size, 0, none⟩ = some (.slice (some ad) n c) := (hc.cell 0).trans rfl
        have z920 := hc.frozen 0
        have z921 : y1.cell? ⟨w.heap.size, 1, none⟩ = some (.int .i64 (q : Int)) := (hc.cell 1).trans rfl
        have z922 := hc.frozen 1
        have z923 : y1.cell? ⟨px, 0, none⟩ = some (.int .u8 (op : Int)) := (hx.cell 0).trans rfl
        have z924 := hx.frozen 0
        have z925 : y1.cell? ⟨px, 1, none⟩ = some (.int .i64 v0) := (hx.cell 1).trans rfl
        have z926 := hx.frozen 1
        have z927 : y1.cell? ⟨px, 2, none⟩ = some (.int .i64 v1) := (hx.cell 2).trans rfl
        have z928 := hx.frozen 2
        have z929 : y1.cell? ⟨px, 3, none⟩ = some (.int .i64 v2) := (hx.cell 3).trans rfl
        have z930 := hx.frozen 3
        have z931 := hc.lt
        have z932 := h2.lt
        have z933 := h3.lt
        have z934 := hx.lt
        have z935 := hu.lt
        have z936 := ht.lt
        go_wp2_with fail
        clear z919 z920 z921 z922 z923 z924 z925 z926 z927 z928 z929 z930 z931 z932 z933 z934 z935 z936
        refine s_go (KeepS [(w.heap.size, 39, #[.slice (some ad) n c, .int .i64 (q : Int)]), (px, 23, #[.int .u8 (op : Int), .int .i64 v0, .int .i64 v1, .int .i64 v2])]) (by kernel_rfl) (fun hQ0 x9 b => ?_)
        replace hc : Blk x9 w.heap.size 39 #[.slice (some ad) n c, .int .i64 (q : Int)] := hc.below b hc.lt
        replace hx : Blk x9 px 23 #[.int .u8 (op : Int), .int .i64 v0, .int .i64 v1, .int .i64 v2] := hx.below b hx.lt
        replace h2 := h2.below b h2.lt
        replace h3 := h3.below b h3.lt
        replace hB := hB.trans (b.mono hB.size)
        clear b
        refine ⟨KeepS.cons hc (KeepS.cons hx (KeepS.nil _)), ?_⟩
        have hQ := And.intro hQ0 (KeepS.cons hc (KeepS.cons hx (KeepS.nil x9)))
        have X0 : ∀ W, KeepS [(w.heap.size, 39, #[.slice (some ad) n c, .int .i64 (q : Int)]), (px, 23, #[.int .u8 (op : Int), .int .i64 v0, .int .i64 v1, .int .i64 v2])] W → W.cell? ⟨w.heap.size, 0, none⟩ = some (.slice (some ad) n c) := fun W h => (h.hd.cell 0).trans rfl
        have X1 : ∀ W, KeepS [(w.heap.size, 39, #[.slice (some ad) n c, .int .i64 (q : Int)]), (px, 23, #[.int .u8 (op : Int), .int .i64 v0, .int .i64 v1, .int .i64 v2])] W → W.cell? ⟨w.heap.size, 1, none⟩ = some (.int .i64 (q : Int)) := fun W h => (h.hd.cell 1).trans rfl
        have X2 : ∀ W, KeepS [(w.heap.size, 39, #[.slice (some ad) n c, .int .i64 (q : Int)]), (px, 23, #[.int .u8 (op : Int), .int .i64 v0, .int .i64 v1, .int .i64 v2])] W → W.cell? ⟨px, 0, none⟩ = some (.int .u8 (op : Int)) := fun W h => (h.tl.hd.cell 0).trans rfl
        have X3 : ∀ W, KeepS [(w.heap.size, 39, #[.slice (some ad) n c, .int .i64 (q : Int)]), (px, 23, #[.int .u8 (op : Int), .int .i64 v0, .int .i64 v1, .int .i64 v2])] W → W.cell? ⟨px, 1, none⟩ = some (.int .i64 v0) := fun W h => (h.tl.hd.cell 1).trans rfl
        have X4 : ∀ W, KeepS [(w.heap.size, 39, #[.slice (some ad) n c, .int .i64 (q : Int)]), (px, 23, #[.int .u8 (op : Int), .int .i64 v0, .int .i64 v1, .int .i64 v2])] W → W.cell? ⟨px, 2, none⟩ = some (.int .i64 v1) := fun W h => (h.tl.hd.cell 2).trans rfl
        have X5 : ∀ W, KeepS [(w.heap.size, 39, #[.slice (some ad) n c, .int .i64 (q : Int)]), (px, 23, #[.int .u8 (op : Int), .int .i64 v0, .int .i64 v1, .int .i64 v2])] W → W.cell? ⟨px, 3, none⟩ = some (.int .i64 v2) := fun W h => (h.tl.hd.cell 3).trans rfl
        refine s_take (i := 0) (oi := ?oia30) (v := ?va30) ?hia30 (by kernel_rfl) (by kernel_rfl) (by kernel_rfl) hQ ?hwa30 ?hya30 ?resta30
        case hia30 => simp only [List.getElem?_toArray, List.getElem?_cons_zero]; rfl
        case hwa30 => rfl
        case hya30 => intro W hW; go_simp; with_reducible rfl
        simp only [Act.put, List.setIfInBounds_toArray, List.set_cons_zero, List.set_cons_succ]
        refine s_take (i := 1) (oi := ?oia31) (v := ?va31) ?hia31 (by kernel_rfl) (by kernel_rfl) (by kernel_rfl) hQ ?hwa31 ?hya31 ?resta31
        case hia31 => simp only [List.getElem?_toArray, List.getElem?_cons_zero, List.getElem?_cons_succ]; rfl
        case hwa31 => rfl
        case hya31 => intro W hW; go_simp; with_reducible rfl
        simp only [Act.put, List.setIfInBounds_toArray, List.set_cons_zero, List.set_cons_succ]
        refine s_step (i := 2) (oi := ?oia32) (by kernel_rfl) ?hia32 ?hwa32 (fun K hK => ?_)
        case hia32 => simp only [List.getElem?_toArray, List.getElem?_cons_zero, List.getElem?_cons_succ]; rfl
        case hwa32 => rfl
        have y0 : x9.cell? ⟨(w.heap.size + 1), 0, none⟩ = some (.slice none 0 0) := (h2.cell 0).trans rfl; have yf0 := h2.frozen 0; have y1 : x9.cell? ⟨(w.heap.size + 1), 1, none⟩ = some (.int .i64 0) := (h2.cell 1).trans rfl; have yf1 := h2.frozen 1; go_simp; clear y0 yf0 y1 yf1; have gm : Blk ((x9.setCell ⟨(w.heap.size + 1), 0, none⟩ (.slice (some ad) n c)).setCell ⟨(w.heap.size + 1), 1, none⟩ (.int .i64 (q : Int))) (w.heap.size + 1) 39 #[.slice (some ad) n c, .int .i64 (q : Int)] := ((h2.set_ 0 (.slice (some ad) n c)).set_ 1 (.int .i64 (q : Int))); have gc := ((hc.far (p := ⟨(w.heap.size + 1), 0, none⟩) (by simp <;> omega) (.slice (some ad) n c)).far (p := ⟨(w.heap.size + 1), 1, none⟩) (by simp <;> omega) (.int .i64 (q : Int))); have gx := ((hx.far (p := ⟨(w.heap.size + 1), 0, none⟩) (by simp <;> omega) (.slice (some ad) n c)).far (p := ⟨(w.heap.size + 1), 1, none⟩) (by simp <;> omega) (.int .i64 (q : Int))); have go_ := ((h3.far (p := ⟨(w.heap.size + 1), 0, none⟩) (by simp <;> omega) (.slice (some ad) n c)).far (p := ⟨(w.heap.size + 1), 1, none⟩) (by simp <;> omega) (.int .i64 (q : Int))); have gB := ((hB.setCell (p := ⟨(w.heap.size + 1), 0, none⟩) (by simp <;> omega) (.slice (some ad) n c)).setCell (p := ⟨(w.heap.size + 1), 1, none⟩) (by simp <;> omega) (.int .i64 (q : Int))); refine hK _ _ (KeepS.cons gc (KeepS.cons gx (KeepS.nil _))) ?_; clear hc hx h2 h3 hB; generalize ((x9.setCell ⟨(w.heap.size + 1), 0, none⟩ (.slice (some ad) n c)).setCell ⟨(w.heap.size + 1), 1, none⟩ (.int .i64 (q : Int))) = x8 at *; have h2 := gm; have hc := gc; have hx := gx; have h3 := go_; have hB := gB; clear gm gc gx go_ gB; have hQ := And.intro hQ0 (KeepS.cons hc (KeepS.cons hx (KeepS.nil x8)))
        try simp only [Act.put, List.setIfInBounds_toArray, List.set_cons_zero, List.set_cons_succ]
        refine s_step (i := 3) (oi := ?oia33) (by kernel_rfl) ?hia33 ?hwa33 (fun K hK => ?_)
        case hia33 => simp only [List.getElem?_toArray, List.getElem?_cons_zero, List.getElem?_cons_succ]; rfl
        case hwa33 => rfl
        have y0 : x8.cell? ⟨(w.heap.size + 2), 0, none⟩ = some (.int .u8 0) := (h3.cell 0).trans rfl; have yf0 := h3.frozen 0; have y1 : x8.cell? ⟨(w.heap.size + 2), 1, none⟩ = some (.int .i64 0) := (h3.cell 1).trans rfl; have yf1 := h3.frozen 1; have y2 : x8.cell? ⟨(w.heap.size + 2), 2, none⟩ = some (.int .i64 0) := (h3.cell 2).trans rfl; have yf2 := h3.frozen 2; have y3 : x8.cell? ⟨(w.heap.size + 2), 3, none⟩ = some (.int .i64 0) := (h3.cell 3).trans rfl; have yf3 := h3.frozen 3; go_simp; clear y0 yf0 y1 yf1 y2 yf2 y3 yf3; have gm : Blk ((((x8.setCell ⟨(w.heap.size + 2), 0, none⟩ (.int .u8 (op : Int))).setCell ⟨(w.heap.size + 2), 1, none⟩ (.int .i64 v0)).setCell ⟨(w.heap.size + 2), 2, none⟩ (.int .i64 v1)).setCell ⟨(w.heap.size + 2), 3, none⟩ (.int .i64 v2)) (w.heap.size + 2) 23 #[.int .u8 (op : Int), .int .i64 v0, .int .i64 v1, .int .i64 v2] := ((((h3.set_ 0 (.int .u8 (op : Int))).set_ 1 (.int .i64 v0)).set_ 2 (.int .i64 v1)).set_ 3 (.int .i64 v2)); have gc := ((((hc.far (p := ⟨(w.heap.size + 2), 0, none⟩) (by simp <;> omega) (.int .u8 (op : Int))).far (p := ⟨(w.heap.size + 2), 1, none⟩) (by simp <;> omega) (.int .i64 v0)).far (p := ⟨(w.heap.size + 2), 2, none⟩) (by simp <;> omega) (.int .i64 v1)).far (p := ⟨(w.heap.size + 2), 3, none⟩) (by simp <;> omega) (.int .i64 v2)); have gx := ((((hx.far (p := ⟨(w.heap.size + 2), 0, none⟩) (by simp <;> omega) (.int .u8 (op : Int))).far (p := ⟨(w.heap.size + 2), 1, none⟩) (by simp <;> omega) (.int .i64 v0)).far (p := ⟨(w.heap.size + 2), 2, none⟩) (by simp <;> omega) (.int .i64 v1)).far (p := ⟨(w.heap.size + 2), 3, none⟩) (by simp <;> omega) (.int .i64 v2)); have go_ := ((((h2.far (p := ⟨(w.heap.size + 2), 0, none⟩) (by simp <;> omega) (.int .u8 (op : Int))).far (p := ⟨(w.heap.size + 2), 1, none⟩) (by simp <;> omega) (.int .i64 v0)).far (p := ⟨(w.heap.size + 2), 2, none⟩) (by simp <;> omega) (.int .i64 v1)).far (p := ⟨(w.heap.size + 2), 3, none⟩) (by simp <;> omega) (.int .i64 v2)); have gB := ((((hB.setCell (p := ⟨(w.heap.size + 2), 0, none⟩) (by simp <;> omega) (.int .u8 (op : Int))).setCell (p := ⟨(w.heap.size + 2), 1, none⟩) (by simp <;> omega) (.int .i64 v0)).setCell (p := ⟨(w.heap.size + 2), 2, none⟩) (by simp <;> omega) (.int .i64 v1)).setCell (p := ⟨(w.heap.size + 2), 3, none⟩) (by simp <;> omega) (.int .i64 v2)); refine hK _ _ (KeepS.cons gc (KeepS.cons gx (KeepS.nil _))) ?_; clear hc hx h2 h3 hB; generalize ((((x8.setCell ⟨(w.heap.size + 2), 0, none⟩ (.int .u8 (op : Int))).setCell ⟨(w.heap.size + 2), 1, none⟩ (.int .i64 v0)).setCell ⟨(w.heap.size + 2), 2, none⟩ (.int .i64 v1)).setCell ⟨(w.heap.size + 2), 3, none⟩ (.int .i64 v2)) = x7 at *; have h3 := gm; have hc := gc; have hx := gx; have h2 := go_; have hB := gB; clear gm gc gx go_ gB; have hQ := And.intro hQ0 (KeepS.cons hc (KeepS.cons hx (KeepS.nil x7)))
        try simp only [Act.put, List.setIfInBounds_toArray, List.set_cons_zero, List.set_cons_succ]
        refine s_take (i := 4) (oi := ?oia34) (v := ?va34) ?hia34 (by kernel_rfl) (by kernel_rfl) (by kernel_rfl) hQ ?hwa34 ?hya34 ?resta34
        case hia34 => simp only [List.getElem?_toArray, List.getElem?_cons_zero, List.getElem?_cons_succ]; rfl
        case hwa34 => rfl
        case hya34 => intro W hW; go_simp; with_reducible rfl
        simp only [Act.put, List.setIfInBounds_toArray, List.set_cons_zero, List.set_cons_succ]
        refine wpAnyH_done (by kernel_rfl) ?_ _
        simp only [NoP]
        clear X0 X1 X2 X3 X4 X5 hQ hQ0
        go_wp2_with fail
        refine ret_cc1 rfl curT insT rfl h2 (by rfl) rfl h3 (by rfl) ?_
        exact ⟨.inl ⟨HE.out, by rw [show ((p : Int)).toNat = p from by simp, HX.out, HOP.out, E3.out, EP.out.1, EP.out.2.1, EP.out.2.2]; rfl⟩, hB⟩
      · have HE := Lib.hid (show dcE l (p : Int) = 12 from by
          rw [dcE, HL.out, HCK.out, if_neg (by simp), if_neg (by simp; omega), show ((p : Int)).toNat = p from by simp, HX.out, HOP.out, HSH.out, if_neg (by simp), if_neg (by rw [E1.out]; simp), EP.out.1, EP.out.2.1, EP.out.2.2, if_neg hck])
        have HN0 := Lib.hid (show (12 : Int) ≠ 0 by decide)
        obtain ⟨E, hE⟩ : ∃ E, ckI op v0 v1 v2 = E := ⟨_, rfl⟩
        rw [hE] at hck ⊢
        have dr : (E != 0) = true := by rw [bne_iff_ne]; exact hck
        clear hck hE
        have z919 : y1.cell? ⟨w.heap.size, 0, none⟩ = some (.slice (some ad) n c) := (hc.cell 0).trans rfl
        have z920 := hc.frozen 0
        have z921 : y1.cell? ⟨w.heap.size, 1, none⟩ = some (.int .i64 (q : Int)) := (hc.cell 1).trans rfl
        have z922 := hc.frozen 1
        have z923 : y1.cell? ⟨px, 0, none⟩ = some (.int .u8 (op : Int)) := (hx.cell 0).trans rfl
        have z924 := hx.frozen 0
        have z925 : y1.cell? ⟨px, 1, none⟩ = some (.int .i64 v0) := (hx.cell 1).trans rfl
        have z926 := hx.frozen 1
        have z927 : y1.cell? ⟨px, 2, none⟩ = some (.int .i64 v1) := (hx.cell 2).trans rfl
        have z928 := hx.frozen 2
        have z929 : y1.cell? ⟨px, 3, none⟩ = some (.int .i64 v2) := (hx.cell 3).trans rfl
        have z930 := hx.frozen 3
        have z931 := hc.lt
        have z932 := h2.lt
        have z933 := h3.lt
        have z934 := hx.lt
        have z935 := hu.lt
        have z936 := ht.lt
        go_wp2_with fail
        refine (fail6_any 12 _).mono ?_
        rintro e f7 ⟨rfl, bB⟩
        replace h2 := Blk.via0 (g := (w.heap.size + 1)) (t := 39) bB (by repeat (first | with_reducible exact h2 | with_reducible (apply Blk.set_) | with_reducible (apply Blk.far; case hp => (simp <;> omega)) | with_reducible (apply Blk.alloc) | with_reducible (apply Blk.drew)))
        replace h2 : Blk f7 (w.heap.size + 1) 39 #[.slice none 0 0, .int .i64 0] := h2
        replace h3 := Blk.via0 (g := (w.heap.size + 2)) (t := 23) bB (by repeat (first | with_reducible exact h3 | with_reducible (apply Blk.set_) | with_reducible (apply Blk.far; case hp => (simp <;> omega)) | with_reducible (apply Blk.alloc) | with_reducible (apply Blk.drew)))
        replace h3 : Blk f7 (w.heap.size + 2) 23 #[.int .u8 0, .int .i64 0, .int .i64 0, .int .i64 0] := h3
        replace hB := Below.via (w := w) (by have hs_ := hB.size; repeat (first | with_reducible exact hB | with_reducible (refine Below.setCell ?_ (by simp <;> omega) _) | with_reducible (refine Below.alloc ?_ (by first | exact hs_ | (simp <;> omega)) _) | with_reducible (refine Below.drew ?_))) bB
        clear z919 z920 z921 z922 z923 z924 z925 z926 z927 z928 z929 z930 z931 z932 z933 z934 z935 z936
        clear bB
        have z937 : f7.cell? ⟨(w.heap.size + 1), 0, none⟩ = some (.slice none 0 0) := (h2.cell 0).trans rfl
        have z938 := h2.frozen 0
        have z939 : f7.cell? ⟨(w.heap.size + 1), 1, none⟩ = some (.int .i64 0) := (h2.cell 1).trans rfl
        have z940 := h2.frozen 1
        have z941 : f7.cell? ⟨(w.heap.size + 2), 0, none⟩ = some (.int .u8 0) := (h3.cell 0).trans rfl
        have z942 := h3.frozen 0
        have z943 : f7.cell? ⟨(w.heap.size + 2), 1, none⟩ = some (.int .i64 0) := (h3.cell 1).trans rfl
        have z944 := h3.frozen 1
        have z945 : f7.cell? ⟨(w.heap.size + 2), 2, none⟩ = some (.int .i64 0) := (h3.cell 2).trans rfl
        have z946 := h3.frozen 2
        have z947 : f7.cell? ⟨(w.heap.size + 2), 3, none⟩ = some (.int .i64 0) := (h3.cell 3).trans rfl
        have z948 := h3.frozen 3
        have z949 := h2.lt
        have z950 := h3.lt
        go_wp2_with fail
        refine ret_cc1 rfl curT insT rfl (by repeat (first | with_reducible exact h2 | with_reducible (apply Blk.set_) | with_reducible (apply Blk.far; case hp => (simp <;> omega)) | with_reducible (apply Blk.alloc) | with_reducible (apply Blk.drew))) (by rfl) rfl (by repeat (first | with_reducible exact h3 | with_reducible (apply Blk.set_) | with_reducible (apply Blk.far; case hp => (simp <;> omega)) | with_reducible (apply Blk.alloc) | with_reducible (apply Blk.drew))) (by rfl) ?_
        exact ⟨.inr ⟨by rw [HE.out]; exact HN0.out, by rw [HE.out]; rfl⟩, (by have hs_ := hB.size; repeat (first | with_reducible exact hB | with_reducible (refine Below.setCell ?_ (by simp <;> omega) _) | with_reducible (refine Below.alloc ?_ (by first | exact hs_ | (simp <;> omega)) _) | with_reducible (refine Below.drew ?_)))⟩
    · omega

end Go.Proofs.Ytkhdeoihjnpnaaa
