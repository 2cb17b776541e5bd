/- The walk of WireNames. No conditions. -/
import Derived.Test.YtnonikeolpokkaaWireAlive
import Derived.Test.YtnonikeolpokkaaWireFix
import Derived.Test.YtnonikeolpokkaaWireText
import Derived.Test.YtnonikeolpokkaaWireUntext
import Derived.Test.YtnonikeolpokkaaWireUnsig
import Derived.Test.YtnonikeolpokkaaWireReads4
import Derived.Test.YtnonikeolpokkaaNm
import Derived.Test.YtnonikeolpokkaaWk
namespace Go.Proofs.Ytnonikeolpokkaa
open Go.RowKit Wire
set_option linter.unusedVariables false

set_option maxHeartbeats 1600000 in
theorem unfixedBad (A : Option Addr) (n c : Nat) (l : List UInt8) (a : Int) (wd : Int) (hwd : -9223372036854775808 ≤ wd ∧ wd ≤ 9223372036854775807) (ha : -9223372036854775808 ≤ a ∧ a ≤ 9223372036854775807) (w : World) (hr : Rb w A n l) (hnc : n ≤ c ∧ n ≤ 9223372036854775807) (er : Int) (he : ufE l a wd = er) (h0 : er ≠ 0) :
    Calls Try.prog 29 #[cur A n c a, .int .i64 wd] w fun e w' => e = .returned (.tuple #[cur none 0 0 0, .int .u64 0, .int .i64 er]) ∧ Below w.heap.size w w' := by
  have h := unfixed_any A n c l a wd w hr hnc.2 hnc.1 ha hwd
  rw [(uf_bad A n c he h0).1, (uf_bad A n c he h0).2, he] at h
  exact h

set_option maxHeartbeats 1600000 in
theorem unvaryBad (A : Option Addr) (n c : Nat) (l : List UInt8) (a : Int) (most : Nat) (hm : most < 18446744073709551616) (ha : -9223372036854775808 ≤ a ∧ a ≤ 9223372036854775807) (w : World) (hr : Rb w A n l) (hnc : n ≤ c ∧ n ≤ 9223372036854775807) (er : Int) (he : uvE l a most = er) (h0 : er ≠ 0) :
    Calls Try.prog 25 #[cur A n c a, .int .u64 (most : Int)] w fun e w' => e = .returned (.tuple #[cur none 0 0 0, .int .u64 0, .int .i64 er]) ∧ Below w.heap.size w w' := by
  have h := unvary_any A n c l a most w hr hnc.2 hm ha
  rw [(uv_bad A n c he h0).1, (uv_bad A n c he h0).2, he] at h
  exact h

set_option maxHeartbeats 1600000 in
theorem untextBad (A : Option Addr) (n c : Nat) (l : List UInt8) (a : Int) (mo : Int) (hmo : -9223372036854775808 ≤ mo ∧ mo ≤ 9223372036854775807) (ha : -9223372036854775808 ≤ a ∧ a ≤ 9223372036854775807) (w : World) (hr : Rb w A n l) (hnc : n ≤ c ∧ n ≤ 9223372036854775807) (er : Int) (he : utE l a mo = er) (h0 : er ≠ 0) :
    Calls Try.prog 26 #[cur A n c a, .int .i64 mo] w fun e w' => e = .returned (.tuple #[cur none 0 0 0, .string ⟨#[]⟩, .int .i64 er]) ∧ Below w.heap.size w w' := by
  have h := untext_any A n c l a mo w hr hnc.2 hnc.1 ha hmo
  rw [(ut_bad A n c he h0).1, (ut_bad A n c he h0).2, he] at h
  exact h

set_option maxHeartbeats 1600000 in
theorem unsignedBad (A : Option Addr) (n c : Nat) (l : List UInt8) (a : Int)  (ha : -9223372036854775808 ≤ a ∧ a ≤ 9223372036854775807) (w : World) (hr : Rb w A n l) (hnc : n ≤ c ∧ n ≤ 9223372036854775807) (er : Int) (he : uvE l a 18446744073709551615 = er) (h0 : er ≠ 0) :
    Calls Try.prog 32 #[cur A n c a] w fun e w' => e = .returned (.tuple #[cur none 0 0 0, .int .i64 0, .int .i64 er]) ∧ Below w.heap.size w w' := by
  have h := unsigned_any A n c l a w hr hnc.2 ha
  rw [(uv_bad A n c he h0).1, (uv_bad A n c he h0).2, he] at h
  exact h

theorem ck_uf {l : List UInt8} {a wd : Int} (h : ckB l.length a = false) : ufE l a wd = 8 := by unfold ufE; rw [if_neg (by rw [h]; decide)]
theorem ck_uv {l : List UInt8} {a : Int} {m : Nat} (h : ckB l.length a = false) : uvE l a m = 8 := by unfold uvE; rw [if_neg (by rw [h]; decide)]
theorem ck_ut {l : List UInt8} {a m : Int} (h : ckB l.length a = false) : utE l a m = 8 := by unfold utE; rw [if_neg (by rw [h]; decide)]
theorem leftBad (A : Option Addr) (n c : Nat) (a : Int) (ha : -9223372036854775808 ≤ a ∧ a ≤ 9223372036854775807) (w : World) (h : ckB n a = false) :
    Calls Try.prog 27 #[cur A n c a] w fun e w' => e = .returned (.tuple #[.int .i64 0, .int .i64 8]) ∧ Below w.heap.size w w' := by
  have h2 := left_any A n c a w ha
  rw [show lfN n a = 0 from by rw [lfN, if_neg (by rw [h]; decide)], show ckE n a = 8 from by rw [ckE, if_neg (by rw [h]; decide)]] at h2
  exact h2

set_option maxRecDepth 100000 in
set_option maxHeartbeats 1600000 in
theorem full_any (A : Option Addr) (n c : Nat) (w : World) :
    Calls Try.prog 35 #[.slice A n c] w fun e w' => e = .returned (cur A n c 0) ∧ Below w.heap.size w w' := by
  have hB : Below w.heap.size w (w.alloc (.cells #[.slice none 0 0, .int .i64 0] 33)) := (Below.alloc (Below.refl w.heap.size w) (by simp <;> omega) (.cells #[.slice none 0 0, .int .i64 0] 33))
  have hz := Blk.new w 33 #[.slice none 0 0, .int .i64 0]
  go_enter Try.func35, Try.ntmps35
  have z1 : (w.alloc (.cells #[.slice none 0 0, .int .i64 0] 33)).cell? ⟨w.heap.size, 0, none⟩ = some (.slice none 0 0) := (hz.cell 0).trans rfl
  have z2 := hz.frozen 0
  have z3 : (w.alloc (.cells #[.slice none 0 0, .int .i64 0] 33)).cell? ⟨w.heap.size, 1, none⟩ = some (.int .i64 0) := (hz.cell 1).trans rfl
  have z4 := hz.frozen 1
  have z5 := hz.lt
  go_wp2_with fail
  refine ret_c rfl curT rfl (Blk.new _ _ _) (by rfl) ?_
  exact ⟨rfl, (Below.refl w.heap.size w).alloc (Nat.le_refl _) _⟩

set_option maxRecDepth 100000 in
set_option maxHeartbeats 8000000 in
theorem wireNames_walk (w : World) :
    Calls Try.prog 8 #[] w fun e w' => e = .returned (.bool true) ∧ Below w.heap.size w w' := by
  go_enter Try.func8, Try.ntmps8
  have hB0 : Below w.heap.size w (w.alloc (.cells #[.int .u8 1] 5)) := (Below.refl w.heap.size w).alloc (Nat.le_refl _) _
  have R1 : Rb (w.alloc (.cells #[.int .u8 1] 5)) (some ⟨w.heap.size, 0, none⟩) 1 [1] := reads_bytes w [1] 5
  obtain ⟨Z, hZ⟩ : ∃ Z : List UInt8, Z = List.replicate 200001 (0 : UInt8) := ⟨_, rfl⟩
  have hZl : Z.length = 200001 := by rw [hZ, List.length_replicate]
  have HZ := Lib.hid hZ
  clear hZ
  go_wp2_with (refine wpList_mk1 _ rfl (.const (.int .i64 200001)) (.const (.int .i64 200001)) rfl sl8 rfl 200001 (by rfl) (by rfl) rfl rfl (by omega) ?_; intro w2 o2 b_)
  rw [rep_b8, ← HZ.out] at o2
  have R2 := own_rd o2
  rw [alloc_size] at R2
  replace R1 := R1.mv b_
  have hB := hB0.trans (b_.mono hB0.size)
  clear o2 b_ hB0
  have hb2 := (Below.refl w2.heap.size w2).alloc (Nat.le_refl _) (.cells #[.slice none 0 0, .int .i64 1, .slice none 0 0, .int .i64 (-1), .slice (some ⟨w.heap.size, 0, none⟩) 1 1, .int .i64 2, .slice (some ⟨w.heap.size + 1, 0, none⟩) 200001 200001, .int .i64 0, .slice none 0 0, .int .i64 9223372036854775807] 33)
  replace R1 := R1.mv hb2
  replace R2 := R2.mv hb2
  have hT := Blk.new w2 33 #[.slice none 0 0, .int .i64 1, .slice none 0 0, .int .i64 (-1), .slice (some ⟨w.heap.size, 0, none⟩) 1 1, .int .i64 2, .slice (some ⟨w.heap.size + 1, 0, none⟩) 200001 200001, .int .i64 0, .slice none 0 0, .int .i64 9223372036854775807]
  replace hB := hB.alloc hB.size (.cells #[.slice none 0 0, .int .i64 1, .slice none 0 0, .int .i64 (-1), .slice (some ⟨w.heap.size, 0, none⟩) 1 1, .int .i64 2, .slice (some ⟨w.heap.size + 1, 0, none⟩) 200001 200001, .int .i64 0, .slice none 0 0, .int .i64 9223372036854775807] 33)
  clear hb2
  generalize hPT_ : w2.heap.size = PT at *
  generalize w2.alloc (.cells #[.slice none 0 0, .int .i64 1, .slice none 0 0, .int .i64 (-1), .slice (some ⟨w.heap.size, 0, none⟩) 1 1, .int .i64 2, .slice (some ⟨w.heap.size + 1, 0, none⟩) 200001 200001, .int .i64 0, .slice none 0 0, .int .i64 9223372036854775807] 33) = w3 at *
  clear hPT_
  go_loopw [2] (fun i wr => ∃ j : Nat, j ≤ 5 ∧ i = .int .i64 (j : Int) ∧ Blk wr PT 33 #[.slice none 0 0, .int .i64 1, .slice none 0 0, .int .i64 (-1), .slice (some ⟨w.heap.size, 0, none⟩) 1 1, .int .i64 2, .slice (some ⟨w.heap.size + 1, 0, none⟩) 200001 200001, .int .i64 0, .slice none 0 0, .int .i64 9223372036854775807] ∧ Rb wr (some ⟨w.heap.size, 0, none⟩) 1 [1] ∧ Rb wr (some ⟨w.heap.size + 1, 0, none⟩) 200001 Z ∧ Below w.heap.size w wr) (fun i _ => 5 - (intOf i).toNat)
  case atStart => exact ⟨0, by omega, rfl, hT, R1, R2, hB⟩
  case round =>
    clear R1 R2 hT hB
    obtain ⟨j, hj, rfl, hT, R1, R2, hB⟩ := hrel
    have HR1 := Lib.hid R1
    have HR2 := Lib.hid R2
    clear R1 R2
    rcases j with _ | _ | _ | _ | _ | _ | j
    · have hC := Below.refl wr.heap.size wr
      have hck : ckB ([] : List UInt8).length 1 = false := by decide
      have HCK := Lib.hid hck
      clear hck
      have z1 : wr.cell? ⟨PT, 0, none⟩ = some (.slice none 0 0) := (hT.cell 0).trans rfl
      have z2 := hT.frozen 0
      have z3 : wr.cell? ⟨PT, 1, none⟩ = some (.int .i64 1) := (hT.cell 1).trans rfl
      have z4 := hT.frozen 1
      have z5 : wr.cell? ⟨PT, 2, none⟩ = some (.slice none 0 0) := (hT.cell 2).trans rfl
      have z6 := hT.frozen 2
      have z7 : wr.cell? ⟨PT, 3, none⟩ = some (.int .i64 (-1)) := (hT.cell 3).trans rfl
      have z8 := hT.frozen 3
      have z9 : wr.cell? ⟨PT, 4, none⟩ = some (.slice (some ⟨w.heap.size, 0, none⟩) 1 1) := (hT.cell 4).trans rfl
      have z10 := hT.frozen 4
      have z11 : wr.cell? ⟨PT, 5, none⟩ = some (.int .i64 2) := (hT.cell 5).trans rfl
      have z12 := hT.frozen 5
      have z13 : wr.cell? ⟨PT, 6, none⟩ = some (.slice (some ⟨w.heap.size + 1, 0, none⟩) 200001 200001) := (hT.cell 6).trans rfl
      have z14 := hT.frozen 6
      have z15 : wr.cell? ⟨PT, 7, none⟩ = some (.int .i64 0) := (hT.cell 7).trans rfl
      have z16 := hT.frozen 7
      have z17 : wr.cell? ⟨PT, 8, none⟩ = some (.slice none 0 0) := (hT.cell 8).trans rfl
      have z18 := hT.frozen 8
      have z19 : wr.cell? ⟨PT, 9, none⟩ = some (.int .i64 9223372036854775807) := (hT.cell 9).trans rfl
      have z20 := hT.frozen 9
      have z21 := hT.lt
      go_wp2_with fail
      refine (leftBad none 0 0 1 (by omega) _ (by decide)).mono ?_
      rintro e x1 ⟨rfl, bB⟩
      replace hT := Blk.via0 (g := PT) (t := 33) bB (by repeat (first | with_reducible exact hT | with_reducible (apply Blk.set_) | with_reducible (apply Blk.far; case hp => (simp <;> omega)) | with_reducible (apply Blk.alloc) | with_reducible (apply Blk.drew)))
      replace hT : Blk x1 PT 33 #[.slice none 0 0, .int .i64 1, .slice none 0 0, .int .i64 (-1), .slice (some ⟨w.heap.size, 0, none⟩) 1 1, .int .i64 2, .slice (some ⟨w.heap.size + 1, 0, none⟩) 200001 200001, .int .i64 0, .slice none 0 0, .int .i64 9223372036854775807] := hT
      replace hC := Below.via (w := wr) (by have hs_ := hC.size; repeat (first | with_reducible exact hC | with_reducible (refine Below.setCell ?_ (by simp <;> omega) _) | with_reducible (refine Below.alloc ?_ (by first | exact hs_ | (simp <;> omega)) _) | with_reducible (refine Below.drew ?_))) bB
      replace hB := Below.via (w := w) (by have hs_ := hB.size; repeat (first | with_reducible exact hB | with_reducible (refine Below.setCell ?_ (by simp <;> omega) _) | with_reducible (refine Below.alloc ?_ (by first | exact hs_ | (simp <;> omega)) _) | with_reducible (refine Below.drew ?_))) bB
      clear z1 z2 z3 z4 z5 z6 z7 z8 z9 z10 z11 z12 z13 z14 z15 z16 z17 z18 z19 z20 z21
      clear bB
      have z22 : x1.cell? ⟨PT, 0, none⟩ = some (.slice none 0 0) := (hT.cell 0).trans rfl
      have z23 := hT.frozen 0
      have z24 : ∀ ob_, (x1.alloc ob_).cell? ⟨PT, 0, none⟩ = some (.slice none 0 0) := fun ob_ => ((Blk.alloc hT ob_).cell 0).trans rfl
      have z25 : ∀ ob_, (x1.alloc ob_).frozen? ⟨PT, 0, none⟩ = false := fun ob_ => (Blk.alloc hT ob_).frozen 0
      have z26 : x1.cell? ⟨PT, 1, none⟩ = some (.int .i64 1) := (hT.cell 1).trans rfl
      have z27 := hT.frozen 1
      have z28 : ∀ ob_, (x1.alloc ob_).cell? ⟨PT, 1, none⟩ = some (.int .i64 1) := fun ob_ => ((Blk.alloc hT ob_).cell 1).trans rfl
      have z29 : ∀ ob_, (x1.alloc ob_).frozen? ⟨PT, 1, none⟩ = false := fun ob_ => (Blk.alloc hT ob_).frozen 1
      have z30 : x1.cell? ⟨PT, 2, none⟩ = some (.slice none 0 0) := (hT.cell 2).trans rfl
      have z31 := hT.frozen 2
      have z32 : ∀ ob_, (x1.alloc ob_).cell? ⟨PT, 2, none⟩ = some (.slice none 0 0) := fun ob_ => ((Blk.alloc hT ob_).cell 2).trans rfl
      have z33 : ∀ ob_, (x1.alloc ob_).frozen? ⟨PT, 2, none⟩ = false := fun ob_ => (Blk.alloc hT ob_).frozen 2
      have z34 : x1.cell? ⟨PT, 3, none⟩ = some (.int .i64 (-1)) := (hT.cell 3).trans rfl
      have z35 := hT.frozen 3
      have z36 : ∀ ob_, (x1.alloc ob_).cell? ⟨PT, 3, none⟩ = some (.int .i64 (-1)) := fun ob_ => ((Blk.alloc hT ob_).cell 3).trans rfl
      have z37 : ∀ ob_, (x1.alloc ob_).frozen? ⟨PT, 3, none⟩ = false := fun ob_ => (Blk.alloc hT ob_).frozen 3
      have z38 : x1.cell? ⟨PT, 4, none⟩ = some (.slice (some ⟨w.heap.size, 0, none⟩) 1 1) := (hT.cell 4).trans rfl
      have z39 := hT.frozen 4
      have z40 : ∀ ob_, (x1.alloc ob_).cell? ⟨PT, 4, none⟩ = some (.slice (some ⟨w.heap.size, 0, none⟩) 1 1) := fun ob_ => ((Blk.alloc hT ob_).cell 4).trans rfl
      have z41 : ∀ ob_, (x1.alloc ob_).frozen? ⟨PT, 4, none⟩ = false := fun ob_ => (Blk.alloc hT ob_).frozen 4
      have z42 : x1.cell? ⟨PT, 5, none⟩ = some (.int .i64 2) := (hT.cell 5).trans rfl
      have z43 := hT.frozen 5
      have z44 : ∀ ob_, (x1.alloc ob_).cell? ⟨PT, 5, none⟩ = some (.int .i64 2) := fun ob_ => ((Blk.alloc hT ob_).cell 5).trans rfl
      have z45 : ∀ ob_, (x1.alloc ob_).frozen? ⟨PT, 5, none⟩ = false := fun ob_ => (Blk.alloc hT ob_).frozen 5
      have z46 : x1.cell? ⟨PT, 6, none⟩ = some (.slice (some ⟨w.heap.size + 1, 0, none⟩) 200001 200001) := (hT.cell 6).trans rfl
      have z47 := hT.frozen 6
      have z48 : ∀ ob_, (x1.alloc ob_).cell? ⟨PT, 6, none⟩ = some (.slice (some ⟨w.heap.size + 1, 0, none⟩) 200001 200001) := fun ob_ => ((Blk.alloc hT ob_).cell 6).trans rfl
      have z49 : ∀ ob_, (x1.alloc ob_).frozen? ⟨PT, 6, none⟩ = false := fun ob_ => (Blk.alloc hT ob_).frozen 6
      have z50 : x1.cell? ⟨PT, 7, none⟩ = some (.int .i64 0) := (hT.cell 7).trans rfl
      have z51 := hT.frozen 7
      have z52 : ∀ ob_, (x1.alloc ob_).cell? ⟨PT, 7, none⟩ = some (.int .i64 0) := fun ob_ => ((Blk.alloc hT ob_).cell 7).trans rfl
      have z53 : ∀ ob_, (x1.alloc ob_).frozen? ⟨PT, 7, none⟩ = false := fun ob_ => (Blk.alloc hT ob_).frozen 7
      have z54 : x1.cell? ⟨PT, 8, none⟩ = some (.slice none 0 0) := (hT.cell 8).trans rfl
      have z55 := hT.frozen 8
      have z56 : ∀ ob_, (x1.alloc ob_).cell? ⟨PT, 8, none⟩ = some (.slice none 0 0) := fun ob_ => ((Blk.alloc hT ob_).cell 8).trans rfl
      have z57 : ∀ ob_, (x1.alloc ob_).frozen? ⟨PT, 8, none⟩ = false := fun ob_ => (Blk.alloc hT ob_).frozen 8
      have z58 : x1.cell? ⟨PT, 9, none⟩ = some (.int .i64 9223372036854775807) := (hT.cell 9).trans rfl
      have z59 := hT.frozen 9
      have z60 : ∀ ob_, (x1.alloc ob_).cell? ⟨PT, 9, none⟩ = some (.int .i64 9223372036854775807) := fun ob_ => ((Blk.alloc hT ob_).cell 9).trans rfl
      have z61 : ∀ ob_, (x1.alloc ob_).frozen? ⟨PT, 9, none⟩ = false := fun ob_ => (Blk.alloc hT ob_).frozen 9
      have z62 := hT.lt
      go_wp2_with fail
      refine (unfixedBad none 0 0 [] 1 3 (by omega) (by omega) _ Reads.none_ (by omega) 8 (ck_uf HCK.out) (by omega)).mono ?_
      rintro e x2 ⟨rfl, bB⟩
      replace hT := Blk.via0 (g := PT) (t := 33) bB (by repeat (first | with_reducible exact hT | with_reducible (apply Blk.set_) | with_reducible (apply Blk.far; case hp => (simp <;> omega)) | with_reducible (apply Blk.alloc) | with_reducible (apply Blk.drew)))
      replace hT : Blk x2 PT 33 #[.slice none 0 0, .int .i64 1, .slice none 0 0, .int .i64 (-1), .slice (some ⟨w.heap.size, 0, none⟩) 1 1, .int .i64 2, .slice (some ⟨w.heap.size + 1, 0, none⟩) 200001 200001, .int .i64 0, .slice none 0 0, .int .i64 9223372036854775807] := hT
      replace hC := Below.via (w := wr) (by have hs_ := hC.size; repeat (first | with_reducible exact hC | with_reducible (refine Below.setCell ?_ (by simp <;> omega) _) | with_reducible (refine Below.alloc ?_ (by first | exact hs_ | (simp <;> omega)) _) | with_reducible (refine Below.drew ?_))) bB
      replace hB := Below.via (w := w) (by have hs_ := hB.size; repeat (first | with_reducible exact hB | with_reducible (refine Below.setCell ?_ (by simp <;> omega) _) | with_reducible (refine Below.alloc ?_ (by first | exact hs_ | (simp <;> omega)) _) | with_reducible (refine Below.drew ?_))) bB
      clear z22 z23 z24 z25 z26 z27 z28 z29 z30 z31 z32 z33 z34 z35 z36 z37 z38 z39 z40 z41 z42 z43 z44 z45 z46 z47 z48 z49 z50 z51 z52 z53 z54 z55 z56 z57 z58 z59 z60 z61 z62
      clear bB
      have z63 : x2.cell? ⟨PT, 0, none⟩ = some (.slice none 0 0) := (hT.cell 0).trans rfl
      have z64 := hT.frozen 0
      have z65 : ∀ ob_, (x2.alloc ob_).cell? ⟨PT, 0, none⟩ = some (.slice none 0 0) := fun ob_ => ((Blk.alloc hT ob_).cell 0).trans rfl
      have z66 : ∀ ob_, (x2.alloc ob_).frozen? ⟨PT, 0, none⟩ = false := fun ob_ => (Blk.alloc hT ob_).frozen 0
      have z67 : x2.cell? ⟨PT, 1, none⟩ = some (.int .i64 1) := (hT.cell 1).trans rfl
      have z68 := hT.frozen 1
      have z69 : ∀ ob_, (x2.alloc ob_).cell? ⟨PT, 1, none⟩ = some (.int .i64 1) := fun ob_ => ((Blk.alloc hT ob_).cell 1).trans rfl
      have z70 : ∀ ob_, (x2.alloc ob_).frozen? ⟨PT, 1, none⟩ = false := fun ob_ => (Blk.alloc hT ob_).frozen 1
      have z71 : x2.cell? ⟨PT, 2, none⟩ = some (.slice none 0 0) := (hT.cell 2).trans rfl
      have z72 := hT.frozen 2
      have z73 : ∀ ob_, (x2.alloc ob_).cell? ⟨PT, 2, none⟩ = some (.slice none 0 0) := fun ob_ => ((Blk.alloc hT ob_).cell 2).trans rfl
      have z74 : ∀ ob_, (x2.alloc ob_).frozen? ⟨PT, 2, none⟩ = false := fun ob_ => (Blk.alloc hT ob_).frozen 2
      have z75 : x2.cell? ⟨PT, 3, none⟩ = some (.int .i64 (-1)) := (hT.cell 3).trans rfl
      have z76 := hT.frozen 3
      have z77 : ∀ ob_, (x2.alloc ob_).cell? ⟨PT, 3, none⟩ = some (.int .i64 (-1)) := fun ob_ => ((Blk.alloc hT ob_).cell 3).trans rfl
      have z78 : ∀ ob_, (x2.alloc ob_).frozen? ⟨PT, 3, none⟩ = false := fun ob_ => (Blk.alloc hT ob_).frozen 3
      have z79 : x2.cell? ⟨PT, 4, none⟩ = some (.slice (some ⟨w.heap.size, 0, none⟩) 1 1) := (hT.cell 4).trans rfl
      have z80 := hT.frozen 4
      have z81 : ∀ ob_, (x2.alloc ob_).cell? ⟨PT, 4, none⟩ = some (.slice (some ⟨w.heap.size, 0, none⟩) 1 1) := fun ob_ => ((Blk.alloc hT ob_).cell 4).trans rfl
      have z82 : ∀ ob_, (x2.alloc ob_).frozen? ⟨PT, 4, none⟩ = false := fun ob_ => (Blk.alloc hT ob_).frozen 4
      have z83 : x2.cell? ⟨PT, 5, none⟩ = some (.int .i64 2) := (hT.cell 5).trans rfl
      have z84 := hT.frozen 5
      have z85 : ∀ ob_, (x2.alloc ob_).cell? ⟨PT, 5, none⟩ = some (.int .i64 2) := fun ob_ => ((Blk.alloc hT ob_).cell 5).trans rfl
      have z86 : ∀ ob_, (x2.alloc ob_).frozen? ⟨PT, 5, none⟩ = false := fun ob_ => (Blk.alloc hT ob_).frozen 5
      have z87 : x2.cell? ⟨PT, 6, none⟩ = some (.slice (some ⟨w.heap.size + 1, 0, none⟩) 200001 200001) := (hT.cell 6).trans rfl
      have z88 := hT.frozen 6
      have z89 : ∀ ob_, (x2.alloc ob_).cell? ⟨PT, 6, none⟩ = some (.slice (some ⟨w.heap.size + 1, 0, none⟩) 200001 200001) := fun ob_ => ((Blk.alloc hT ob_).cell 6).trans rfl
      have z90 : ∀ ob_, (x2.alloc ob_).frozen? ⟨PT, 6, none⟩ = false := fun ob_ => (Blk.alloc hT ob_).frozen 6
      have z91 : x2.cell? ⟨PT, 7, none⟩ = some (.int .i64 0) := (hT.cell 7).trans rfl
      have z92 := hT.frozen 7
      have z93 : ∀ ob_, (x2.alloc ob_).cell? ⟨PT, 7, none⟩ = some (.int .i64 0) := fun ob_ => ((Blk.alloc hT ob_).cell 7).trans rfl
      have z94 : ∀ ob_, (x2.alloc ob_).frozen? ⟨PT, 7, none⟩ = false := fun ob_ => (Blk.alloc hT ob_).frozen 7
      have z95 : x2.cell? ⟨PT, 8, none⟩ = some (.slice none 0 0) := (hT.cell 8).trans rfl
      have z96 := hT.frozen 8
      have z97 : ∀ ob_, (x2.alloc ob_).cell? ⟨PT, 8, none⟩ = some (.slice none 0 0) := fun ob_ => ((Blk.alloc hT ob_).cell 8).trans rfl
      have z98 : ∀ ob_, (x2.alloc ob_).frozen? ⟨PT, 8, none⟩ = false := fun ob_ => (Blk.alloc hT ob_).frozen 8
      have z99 : x2.cell? ⟨PT, 9, none⟩ = some (.int .i64 9223372036854775807) := (hT.cell 9).trans rfl
      have z100 := hT.frozen 9
      have z101 : ∀ ob_, (x2.alloc ob_).cell? ⟨PT, 9, none⟩ = some (.int .i64 9223372036854775807) := fun ob_ => ((Blk.alloc hT ob_).cell 9).trans rfl
      have z102 : ∀ ob_, (x2.alloc ob_).frozen? ⟨PT, 9, none⟩ = false := fun ob_ => (Blk.alloc hT ob_).frozen 9
      have z103 := hT.lt
      go_wp2_with fail
      refine (unvaryBad none 0 0 [] 1 0 (by omega) (by omega) _ Reads.none_ (by omega) 8 (ck_uv HCK.out) (by omega)).mono ?_
      rintro e x3 ⟨rfl, bB⟩
      replace hT := Blk.via0 (g := PT) (t := 33) bB (by repeat (first | with_reducible exact hT | with_reducible (apply Blk.set_) | with_reducible (apply Blk.far; case hp => (simp <;> omega)) | with_reducible (apply Blk.alloc) | with_reducible (apply Blk.drew)))
      replace hT : Blk x3 PT 33 #[.slice none 0 0, .int .i64 1, .slice none 0 0, .int .i64 (-1), .slice (some ⟨w.heap.size, 0, none⟩) 1 1, .int .i64 2, .slice (some ⟨w.heap.size + 1, 0, none⟩) 200001 200001, .int .i64 0, .slice none 0 0, .int .i64 9223372036854775807] := hT
      replace hC := Below.via (w := wr) (by have hs_ := hC.size; repeat (first | with_reducible exact hC | with_reducible (refine Below.setCell ?_ (by simp <;> omega) _) | with_reducible (refine Below.alloc ?_ (by first | exact hs_ | (simp <;> omega)) _) | with_reducible (refine Below.drew ?_))) bB
      replace hB := Below.via (w := w) (by have hs_ := hB.size; repeat (first | with_reducible exact hB | with_reducible (refine Below.setCell ?_ (by simp <;> omega) _) | with_reducible (refine Below.alloc ?_ (by first | exact hs_ | (simp <;> omega)) _) | with_reducible (refine Below.drew ?_))) bB
      clear z63 z64 z65 z66 z67 z68 z69 z70 z71 z72 z73 z74 z75 z76 z77 z78 z79 z80 z81 z82 z83 z84 z85 z86 z87 z88 z89 z90 z91 z92 z93 z94 z95 z96 z97 z98 z99 z100 z101 z102 z103
      clear bB
      have z104 : x3.cell? ⟨PT, 0, none⟩ = some (.slice none 0 0) := (hT.cell 0).trans rfl
      have z105 := hT.frozen 0
      have z106 : ∀ ob_, (x3.alloc ob_).cell? ⟨PT, 0, none⟩ = some (.slice none 0 0) := fun ob_ => ((Blk.alloc hT ob_).cell 0).trans rfl
      have z107 : ∀ ob_, (x3.alloc ob_).frozen? ⟨PT, 0, none⟩ = false := fun ob_ => (Blk.alloc hT ob_).frozen 0
      have z108 : x3.cell? ⟨PT, 1, none⟩ = some (.int .i64 1) := (hT.cell 1).trans rfl
      have z109 := hT.frozen 1
      have z110 : ∀ ob_, (x3.alloc ob_).cell? ⟨PT, 1, none⟩ = some (.int .i64 1) := fun ob_ => ((Blk.alloc hT ob_).cell 1).trans rfl
      have z111 : ∀ ob_, (x3.alloc ob_).frozen? ⟨PT, 1, none⟩ = false := fun ob_ => (Blk.alloc hT ob_).frozen 1
      have z112 : x3.cell? ⟨PT, 2, none⟩ = some (.slice none 0 0) := (hT.cell 2).trans rfl
      have z113 := hT.frozen 2
      have z114 : ∀ ob_, (x3.alloc ob_).cell? ⟨PT, 2, none⟩ = some (.slice none 0 0) := fun ob_ => ((Blk.alloc hT ob_).cell 2).trans rfl
      have z115 : ∀ ob_, (x3.alloc ob_).frozen? ⟨PT, 2, none⟩ = false := fun ob_ => (Blk.alloc hT ob_).frozen 2
      have z116 : x3.cell? ⟨PT, 3, none⟩ = some (.int .i64 (-1)) := (hT.cell 3).trans rfl
      have z117 := hT.frozen 3
      have z118 : ∀ ob_, (x3.alloc ob_).cell? ⟨PT, 3, none⟩ = some (.int .i64 (-1)) := fun ob_ => ((Blk.alloc hT ob_).cell 3).trans rfl
      have z119 : ∀ ob_, (x3.alloc ob_).frozen? ⟨PT, 3, none⟩ = false := fun ob_ => (Blk.alloc hT ob_).frozen 3
      have z120 : x3.cell? ⟨PT, 4, none⟩ = some (.slice (some ⟨w.heap.size, 0, none⟩) 1 1) := (hT.cell 4).trans rfl
      have z121 := hT.frozen 4
      have z122 : ∀ ob_, (x3.alloc ob_).cell? ⟨PT, 4, none⟩ = some (.slice (some ⟨w.heap.size, 0, none⟩) 1 1) := fun ob_ => ((Blk.alloc hT ob_).cell 4).trans rfl
      have z123 : ∀ ob_, (x3.alloc ob_).frozen? ⟨PT, 4, none⟩ = false := fun ob_ => (Blk.alloc hT ob_).frozen 4
      have z124 : x3.cell? ⟨PT, 5, none⟩ = some (.int .i64 2) := (hT.cell 5).trans rfl
      have z125 := hT.frozen 5
      have z126 : ∀ ob_, (x3.alloc ob_).cell? ⟨PT, 5, none⟩ = some (.int .i64 2) := fun ob_ => ((Blk.alloc hT ob_).cell 5).trans rfl
      have z127 : ∀ ob_, (x3.alloc ob_).frozen? ⟨PT, 5, none⟩ = false := fun ob_ => (Blk.alloc hT ob_).frozen 5
      have z128 : x3.cell? ⟨PT, 6, none⟩ = some (.slice (some ⟨w.heap.size + 1, 0, none⟩) 200001 200001) := (hT.cell 6).trans rfl
      have z129 := hT.frozen 6
      have z130 : ∀ ob_, (x3.alloc ob_).cell? ⟨PT, 6, none⟩ = some (.slice (some ⟨w.heap.size + 1, 0, none⟩) 200001 200001) := fun ob_ => ((Blk.alloc hT ob_).cell 6).trans rfl
      have z131 : ∀ ob_, (x3.alloc ob_).frozen? ⟨PT, 6, none⟩ = false := fun ob_ => (Blk.alloc hT ob_).frozen 6
      have z132 : x3.cell? ⟨PT, 7, none⟩ = some (.int .i64 0) := (hT.cell 7).trans rfl
      have z133 := hT.frozen 7
      have z134 : ∀ ob_, (x3.alloc ob_).cell? ⟨PT, 7, none⟩ = some (.int .i64 0) := fun ob_ => ((Blk.alloc hT ob_).cell 7).trans rfl
      have z135 : ∀ ob_, (x3.alloc ob_).frozen? ⟨PT, 7, none⟩ = false := fun ob_ => (Blk.alloc hT ob_).frozen 7
      have z136 : x3.cell? ⟨PT, 8, none⟩ = some (.slice none 0 0) := (hT.cell 8).trans rfl
      have z137 := hT.frozen 8
      have z138 : ∀ ob_, (x3.alloc ob_).cell? ⟨PT, 8, none⟩ = some (.slice none 0 0) := fun ob_ => ((Blk.alloc hT ob_).cell 8).trans rfl
      have z139 : ∀ ob_, (x3.alloc ob_).frozen? ⟨PT, 8, none⟩ = false := fun ob_ => (Blk.alloc hT ob_).frozen 8
      have z140 : x3.cell? ⟨PT, 9, none⟩ = some (.int .i64 9223372036854775807) := (hT.cell 9).trans rfl
      have z141 := hT.frozen 9
      have z142 : ∀ ob_, (x3.alloc ob_).cell? ⟨PT, 9, none⟩ = some (.int .i64 9223372036854775807) := fun ob_ => ((Blk.alloc hT ob_).cell 9).trans rfl
      have z143 : ∀ ob_, (x3.alloc ob_).frozen? ⟨PT, 9, none⟩ = false := fun ob_ => (Blk.alloc hT ob_).frozen 9
      have z144 := hT.lt
      go_wp2_with fail
      refine (unsignedBad none 0 0 [] 1 (by omega) _ Reads.none_ (by omega) 8 (ck_uv HCK.out) (by omega)).mono ?_
      rintro e x4 ⟨rfl, bB⟩
      replace hT := Blk.via0 (g := PT) (t := 33) bB (by repeat (first | with_reducible exact hT | with_reducible (apply Blk.set_) | with_reducible (apply Blk.far; case hp => (simp <;> omega)) | with_reducible (apply Blk.alloc) | with_reducible (apply Blk.drew)))
      replace hT : Blk x4 PT 33 #[.slice none 0 0, .int .i64 1, .slice none 0 0, .int .i64 (-1), .slice (some ⟨w.heap.size, 0, none⟩) 1 1, .int .i64 2, .slice (some ⟨w.heap.size + 1, 0, none⟩) 200001 200001, .int .i64 0, .slice none 0 0, .int .i64 9223372036854775807] := hT
      replace hC := Below.via (w := wr) (by have hs_ := hC.size; repeat (first | with_reducible exact hC | with_reducible (refine Below.setCell ?_ (by simp <;> omega) _) | with_reducible (refine Below.alloc ?_ (by first | exact hs_ | (simp <;> omega)) _) | with_reducible (refine Below.drew ?_))) bB
      replace hB := Below.via (w := w) (by have hs_ := hB.size; repeat (first | with_reducible exact hB | with_reducible (refine Below.setCell ?_ (by simp <;> omega) _) | with_reducible (refine Below.alloc ?_ (by first | exact hs_ | (simp <;> omega)) _) | with_reducible (refine Below.drew ?_))) bB
      clear z104 z105 z106 z107 z108 z109 z110 z111 z112 z113 z114 z115 z116 z117 z118 z119 z120 z121 z122 z123 z124 z125 z126 z127 z128 z129 z130 z131 z132 z133 z134 z135 z136 z137 z138 z139 z140 z141 z142 z143 z144
      clear bB
      have z145 : x4.cell? ⟨PT, 0, none⟩ = some (.slice none 0 0) := (hT.cell 0).trans rfl
      have z146 := hT.frozen 0
      have z147 : ∀ ob_, (x4.alloc ob_).cell? ⟨PT, 0, none⟩ = some (.slice none 0 0) := fun ob_ => ((Blk.alloc hT ob_).cell 0).trans rfl
      have z148 : ∀ ob_, (x4.alloc ob_).frozen? ⟨PT, 0, none⟩ = false := fun ob_ => (Blk.alloc hT ob_).frozen 0
      have z149 : x4.cell? ⟨PT, 1, none⟩ = some (.int .i64 1) := (hT.cell 1).trans rfl
      have z150 := hT.frozen 1
      have z151 : ∀ ob_, (x4.alloc ob_).cell? ⟨PT, 1, none⟩ = some (.int .i64 1) := fun ob_ => ((Blk.alloc hT ob_).cell 1).trans rfl
      have z152 : ∀ ob_, (x4.alloc ob_).frozen? ⟨PT, 1, none⟩ = false := fun ob_ => (Blk.alloc hT ob_).frozen 1
      have z153 : x4.cell? ⟨PT, 2, none⟩ = some (.slice none 0 0) := (hT.cell 2).trans rfl
      have z154 := hT.frozen 2
      have z155 : ∀ ob_, (x4.alloc ob_).cell? ⟨PT, 2, none⟩ = some (.slice none 0 0) := fun ob_ => ((Blk.alloc hT ob_).cell 2).trans rfl
      have z156 : ∀ ob_, (x4.alloc ob_).frozen? ⟨PT, 2, none⟩ = false := fun ob_ => (Blk.alloc hT ob_).frozen 2
      have z157 : x4.cell? ⟨PT, 3, none⟩ = some (.int .i64 (-1)) := (hT.cell 3).trans rfl
      have z158 := hT.frozen 3
      have z159 : ∀ ob_, (x4.alloc ob_).cell? ⟨PT, 3, none⟩ = some (.int .i64 (-1)) := fun ob_ => ((Blk.alloc hT ob_).cell 3).trans rfl
      have z160 : ∀ ob_, (x4.alloc ob_).frozen? ⟨PT, 3, none⟩ = false := fun ob_ => (Blk.alloc hT ob_).frozen 3
      have z161 : x4.cell? ⟨PT, 4, none⟩ = some (.slice (some ⟨w.heap.size, 0, none⟩) 1 1) := (hT.cell 4).trans rfl
      have z162 := hT.frozen 4
      have z163 : ∀ ob_, (x4.alloc ob_).cell? ⟨PT, 4, none⟩ = some (.slice (some ⟨w.heap.size, 0, none⟩) 1 1) := fun ob_ => ((Blk.alloc hT ob_).cell 4).trans rfl
      have z164 : ∀ ob_, (x4.alloc ob_).frozen? ⟨PT, 4, none⟩ = false := fun ob_ => (Blk.alloc hT ob_).frozen 4
      have z165 : x4.cell? ⟨PT, 5, none⟩ = some (.int .i64 2) := (hT.cell 5).trans rfl
      have z166 := hT.frozen 5
      have z167 : ∀ ob_, (x4.alloc ob_).cell? ⟨PT, 5, none⟩ = some (.int .i64 2) := fun ob_ => ((Blk.alloc hT ob_).cell 5).trans rfl
      have z168 : ∀ ob_, (x4.alloc ob_).frozen? ⟨PT, 5, none⟩ = false := fun ob_ => (Blk.alloc hT ob_).frozen 5
      have z169 : x4.cell? ⟨PT, 6, none⟩ = some (.slice (some ⟨w.heap.size + 1, 0, none⟩) 200001 200001) := (hT.cell 6).trans rfl
      have z170 := hT.frozen 6
      have z171 : ∀ ob_, (x4.alloc ob_).cell? ⟨PT, 6, none⟩ = some (.slice (some ⟨w.heap.size + 1, 0, none⟩) 200001 200001) := fun ob_ => ((Blk.alloc hT ob_).cell 6).trans rfl
      have z172 : ∀ ob_, (x4.alloc ob_).frozen? ⟨PT, 6, none⟩ = false := fun ob_ => (Blk.alloc hT ob_).frozen 6
      have z173 : x4.cell? ⟨PT, 7, none⟩ = some (.int .i64 0) := (hT.cell 7).trans rfl
      have z174 := hT.frozen 7
      have z175 : ∀ ob_, (x4.alloc ob_).cell? ⟨PT, 7, none⟩ = some (.int .i64 0) := fun ob_ => ((Blk.alloc hT ob_).cell 7).trans rfl
      have z176 : ∀ ob_, (x4.alloc ob_).frozen? ⟨PT, 7, none⟩ = false := fun ob_ => (Blk.alloc hT ob_).frozen 7
      have z177 : x4.cell? ⟨PT, 8, none⟩ = some (.slice none 0 0) := (hT.cell 8).trans rfl
      have z178 := hT.frozen 8
      have z179 : ∀ ob_, (x4.alloc ob_).cell? ⟨PT, 8, none⟩ = some (.slice none 0 0) := fun ob_ => ((Blk.alloc hT ob_).cell 8).trans rfl
      have z180 : ∀ ob_, (x4.alloc ob_).frozen? ⟨PT, 8, none⟩ = false := fun ob_ => (Blk.alloc hT ob_).frozen 8
      have z181 : x4.cell? ⟨PT, 9, none⟩ = some (.int .i64 9223372036854775807) := (hT.cell 9).trans rfl
      have z182 := hT.frozen 9
      have z183 : ∀ ob_, (x4.alloc ob_).cell? ⟨PT, 9, none⟩ = some (.int .i64 9223372036854775807) := fun ob_ => ((Blk.alloc hT ob_).cell 9).trans rfl
      have z184 : ∀ ob_, (x4.alloc ob_).frozen? ⟨PT, 9, none⟩ = false := fun ob_ => (Blk.alloc hT ob_).frozen 9
      have z185 := hT.lt
      go_wp2_with fail
      refine (untextBad none 0 0 [] 1 (-1) (by omega) (by omega) _ Reads.none_ (by omega) 8 (ck_ut HCK.out) (by omega)).mono ?_
      rintro e x5 ⟨rfl, bB⟩
      replace hT := Blk.via0 (g := PT) (t := 33) bB (by repeat (first | with_reducible exact hT | with_reducible (apply Blk.set_) | with_reducible (apply Blk.far; case hp => (simp <;> omega)) | with_reducible (apply Blk.alloc) | with_reducible (apply Blk.drew)))
      replace hT : Blk x5 PT 33 #[.slice none 0 0, .int .i64 1, .slice none 0 0, .int .i64 (-1), .slice (some ⟨w.heap.size, 0, none⟩) 1 1, .int .i64 2, .slice (some ⟨w.heap.size + 1, 0, none⟩) 200001 200001, .int .i64 0, .slice none 0 0, .int .i64 9223372036854775807] := hT
      replace hC := Below.via (w := wr) (by have hs_ := hC.size; repeat (first | with_reducible exact hC | with_reducible (refine Below.setCell ?_ (by simp <;> omega) _) | with_reducible (refine Below.alloc ?_ (by first | exact hs_ | (simp <;> omega)) _) | with_reducible (refine Below.drew ?_))) bB
      replace hB := Below.via (w := w) (by have hs_ := hB.size; repeat (first | with_reducible exact hB | with_reducible (refine Below.setCell ?_ (by simp <;> omega) _) | with_reducible (refine Below.alloc ?_ (by first | exact hs_ | (simp <;> omega)) _) | with_reducible (refine Below.drew ?_))) bB
      clear z145 z146 z147 z148 z149 z150 z151 z152 z153 z154 z155 z156 z157 z158 z159 z160 z161 z162 z163 z164 z165 z166 z167 z168 z169 z170 z171 z172 z173 z174 z175 z176 z177 z178 z179 z180 z181 z182 z183 z184 z185
      clear bB
      have z186 : x5.cell? ⟨PT, 0, none⟩ = some (.slice none 0 0) := (hT.cell 0).trans rfl
      have z187 := hT.frozen 0
      have z188 : ∀ ob_, (x5.alloc ob_).cell? ⟨PT, 0, none⟩ = some (.slice none 0 0) := fun ob_ => ((Blk.alloc hT ob_).cell 0).trans rfl
      have z189 : ∀ ob_, (x5.alloc ob_).frozen? ⟨PT, 0, none⟩ = false := fun ob_ => (Blk.alloc hT ob_).frozen 0
      have z190 : x5.cell? ⟨PT, 1, none⟩ = some (.int .i64 1) := (hT.cell 1).trans rfl
      have z191 := hT.frozen 1
      have z192 : ∀ ob_, (x5.alloc ob_).cell? ⟨PT, 1, none⟩ = some (.int .i64 1) := fun ob_ => ((Blk.alloc hT ob_).cell 1).trans rfl
      have z193 : ∀ ob_, (x5.alloc ob_).frozen? ⟨PT, 1, none⟩ = false := fun ob_ => (Blk.alloc hT ob_).frozen 1
      have z194 : x5.cell? ⟨PT, 2, none⟩ = some (.slice none 0 0) := (hT.cell 2).trans rfl
      have z195 := hT.frozen 2
      have z196 : ∀ ob_, (x5.alloc ob_).cell? ⟨PT, 2, none⟩ = some (.slice none 0 0) := fun ob_ => ((Blk.alloc hT ob_).cell 2).trans rfl
      have z197 : ∀ ob_, (x5.alloc ob_).frozen? ⟨PT, 2, none⟩ = false := fun ob_ => (Blk.alloc hT ob_).frozen 2
      have z198 : x5.cell? ⟨PT, 3, none⟩ = some (.int .i64 (-1)) := (hT.cell 3).trans rfl
      have z199 := hT.frozen 3
      have z200 : ∀ ob_, (x5.alloc ob_).cell? ⟨PT, 3, none⟩ = some (.int .i64 (-1)) := fun ob_ => ((Blk.alloc hT ob_).cell 3).trans rfl
      have z201 : ∀ ob_, (x5.alloc ob_).frozen? ⟨PT, 3, none⟩ = false := fun ob_ => (Blk.alloc hT ob_).frozen 3
      have z202 : x5.cell? ⟨PT, 4, none⟩ = some (.slice (some ⟨w.heap.size, 0, none⟩) 1 1) := (hT.cell 4).trans rfl
      have z203 := hT.frozen 4
      have z204 : ∀ ob_, (x5.alloc ob_).cell? ⟨PT, 4, none⟩ = some (.slice (some ⟨w.heap.size, 0, none⟩) 1 1) := fun ob_ => ((Blk.alloc hT ob_).cell 4).trans rfl
      have z205 : ∀ ob_, (x5.alloc ob_).frozen? ⟨PT, 4, none⟩ = false := fun ob_ => (Blk.alloc hT ob_).frozen 4
      have z206 : x5.cell? ⟨PT, 5, none⟩ = some (.int .i64 2) := (hT.cell 5).trans rfl
      have z207 := hT.frozen 5
      have z208 : ∀ ob_, (x5.alloc ob_).cell? ⟨PT, 5, none⟩ = some (.int .i64 2) := fun ob_ => ((Blk.alloc hT ob_).cell 5).trans rfl
      have z209 : ∀ ob_, (x5.alloc ob_).frozen? ⟨PT, 5, none⟩ = false := fun ob_ => (Blk.alloc hT ob_).frozen 5
      have z210 : x5.cell? ⟨PT, 6, none⟩ = some (.slice (some ⟨w.heap.size + 1, 0, none⟩) 200001 200001) := (hT.cell 6).trans rfl
      have z211 := hT.frozen 6
      have z212 : ∀ ob_, (x5.alloc ob_).cell? ⟨PT, 6, none⟩ = some (.slice (some ⟨w.heap.size + 1, 0, none⟩) 200001 200001) := fun ob_ => ((Blk.alloc hT ob_).cell 6).trans rfl
      have z213 : ∀ ob_, (x5.alloc ob_).frozen? ⟨PT, 6, none⟩ = false := fun ob_ => (Blk.alloc hT ob_).frozen 6
      have z214 : x5.cell? ⟨PT, 7, none⟩ = some (.int .i64 0) := (hT.cell 7).trans rfl
      have z215 := hT.frozen 7
      have z216 : ∀ ob_, (x5.alloc ob_).cell? ⟨PT, 7, none⟩ = some (.int .i64 0) := fun ob_ => ((Blk.alloc hT ob_).cell 7).trans rfl
      have z217 : ∀ ob_, (x5.alloc ob_).frozen? ⟨PT, 7, none⟩ = false := fun ob_ => (Blk.alloc hT ob_).frozen 7
      have z218 : x5.cell? ⟨PT, 8, none⟩ = some (.slice none 0 0) := (hT.cell 8).trans rfl
      have z219 := hT.frozen 8
      have z220 : ∀ ob_, (x5.alloc ob_).cell? ⟨PT, 8, none⟩ = some (.slice none 0 0) := fun ob_ => ((Blk.alloc hT ob_).cell 8).trans rfl
      have z221 : ∀ ob_, (x5.alloc ob_).frozen? ⟨PT, 8, none⟩ = false := fun ob_ => (Blk.alloc hT ob_).frozen 8
      have z222 : x5.cell? ⟨PT, 9, none⟩ = some (.int .i64 9223372036854775807) := (hT.cell 9).trans rfl
      have z223 := hT.frozen 9
      have z224 : ∀ ob_, (x5.alloc ob_).cell? ⟨PT, 9, none⟩ = some (.int .i64 9223372036854775807) := fun ob_ => ((Blk.alloc hT ob_).cell 9).trans rfl
      have z225 : ∀ ob_, (x5.alloc ob_).frozen? ⟨PT, 9, none⟩ = false := fun ob_ => (Blk.alloc hT ob_).frozen 9
      have z226 := hT.lt
      go_wp2_with fail
      go_roundw
      case rel => exact ⟨1, by omega, by go_num, (by repeat (first | with_reducible exact hT | with_reducible (apply Blk.set_) | with_reducible (apply Blk.far; case hp => (simp <;> omega)) | with_reducible (apply Blk.alloc) | with_reducible (apply Blk.drew))), HR1.out.mv (by have hs_ := hC.size; repeat (first | with_reducible exact hC | with_reducible (refine Below.setCell ?_ (by simp <;> omega) _) | with_reducible (refine Below.alloc ?_ (by first | exact hs_ | (simp <;> omega)) _) | with_reducible (refine Below.drew ?_))), HR2.out.mv (by have hs_ := hC.size; repeat (first | with_reducible exact hC | with_reducible (refine Below.setCell ?_ (by simp <;> omega) _) | with_reducible (refine Below.alloc ?_ (by first | exact hs_ | (simp <;> omega)) _) | with_reducible (refine Below.drew ?_))), (by have hs_ := hB.size; repeat (first | with_reducible exact hB | with_reducible (refine Below.setCell ?_ (by simp <;> omega) _) | with_reducible (refine Below.alloc ?_ (by first | exact hs_ | (simp <;> omega)) _) | with_reducible (refine Below.drew ?_)))⟩
      case measure => simp [intOf]
    · have hC := Below.refl wr.heap.size wr
      have hck : ckB ([] : List UInt8).length (-1) = false := by decide
      have HCK := Lib.hid hck
      clear hck
      have z1 : wr.cell? ⟨PT, 0, none⟩ = some (.slice none 0 0) := (hT.cell 0).trans rfl
      have z2 := hT.frozen 0
      have z3 : wr.cell? ⟨PT, 1, none⟩ = some (.int .i64 1) := (hT.cell 1).trans rfl
      have z4 := hT.frozen 1
      have z5 : wr.cell? ⟨PT, 2, none⟩ = some (.slice none 0 0) := (hT.cell 2).trans rfl
      have z6 := hT.frozen 2
      have z7 : wr.cell? ⟨PT, 3, none⟩ = some (.int .i64 (-1)) := (hT.cell 3).trans rfl
      have z8 := hT.frozen 3
      have z9 : wr.cell? ⟨PT, 4, none⟩ = some (.slice (some ⟨w.heap.size, 0, none⟩) 1 1) := (hT.cell 4).trans rfl
      have z10 := hT.frozen 4
      have z11 : wr.cell? ⟨PT, 5, none⟩ = some (.int .i64 2) := (hT.cell 5).trans rfl
      have z12 := hT.frozen 5
      have z13 : wr.cell? ⟨PT, 6, none⟩ = some (.slice (some ⟨w.heap.size + 1, 0, none⟩) 200001 200001) := (hT.cell 6).trans rfl
      have z14 := hT.frozen 6
      have z15 : wr.cell? ⟨PT, 7, none⟩ = some (.int .i64 0) := (hT.cell 7).trans rfl
      have z16 := hT.frozen 7
      have z17 : wr.cell? ⟨PT, 8, none⟩ = some (.slice none 0 0) := (hT.cell 8).trans rfl
      have z18 := hT.frozen 8
      have z19 : wr.cell? ⟨PT, 9, none⟩ = some (.int .i64 9223372036854775807) := (hT.cell 9).trans rfl
      have z20 := hT.frozen 9
      have z21 := hT.lt
      go_wp2_with fail
      refine (leftBad none 0 0 (-1) (by omega) _ (by decide)).mono ?_
      rintro e x1 ⟨rfl, bB⟩
      replace hT := Blk.via0 (g := PT) (t := 33) bB (by repeat (first | with_reducible exact hT | with_reducible (apply Blk.set_) | with_reducible (apply Blk.far; case hp => (simp <;> omega)) | with_reducible (apply Blk.alloc) | with_reducible (apply Blk.drew)))
      replace hT : Blk x1 PT 33 #[.slice none 0 0, .int .i64 1, .slice none 0 0, .int .i64 (-1), .slice (some ⟨w.heap.size, 0, none⟩) 1 1, .int .i64 2, .slice (some ⟨w.heap.size + 1, 0, none⟩) 200001 200001, .int .i64 0, .slice none 0 0, .int .i64 9223372036854775807] := hT
      replace hC := Below.via (w := wr) (by have hs_ := hC.size; repeat (first | with_reducible exact hC | with_reducible (refine Below.setCell ?_ (by simp <;> omega) _) | with_reducible (refine Below.alloc ?_ (by first | exact hs_ | (simp <;> omega)) _) | with_reducible (refine Below.drew ?_))) bB
      replace hB := Below.via (w := w) (by have hs_ := hB.size; repeat (first | with_reducible exact hB | with_reducible (refine Below.setCell ?_ (by simp <;> omega) _) | with_reducible (refine Below.alloc ?_ (by first | exact hs_ | (simp <;> omega)) _) | with_reducible (refine Below.drew ?_))) bB
      clear z1 z2 z3 z4 z5 z6 z7 z8 z9 z10 z11 z12 z13 z14 z15 z16 z17 z18 z19 z20 z21
      clear bB
      have z22 : x1.cell? ⟨PT, 0, none⟩ = some (.slice none 0 0) := (hT.cell 0).trans rfl
      have z23 := hT.frozen 0
      have z24 : ∀ ob_, (x1.alloc ob_).cell? ⟨PT, 0, none⟩ = some (.slice none 0 0) := fun ob_ => ((Blk.alloc hT ob_).cell 0).trans rfl
      have z25 : ∀ ob_, (x1.alloc ob_).frozen? ⟨PT, 0, none⟩ = false := fun ob_ => (Blk.alloc hT ob_).frozen 0
      have z26 : x1.cell? ⟨PT, 1, none⟩ = some (.int .i64 1) := (hT.cell 1).trans rfl
      have z27 := hT.frozen 1
      have z28 : ∀ ob_, (x1.alloc ob_).cell? ⟨PT, 1, none⟩ = some (.int .i64 1) := fun ob_ => ((Blk.alloc hT ob_).cell 1).trans rfl
      have z29 : ∀ ob_, (x1.alloc ob_).frozen? ⟨PT, 1, none⟩ = false := fun ob_ => (Blk.alloc hT ob_).frozen 1
      have z30 : x1.cell? ⟨PT, 2, none⟩ = some (.slice none 0 0) := (hT.cell 2).trans rfl
      have z31 := hT.frozen 2
      have z32 : ∀ ob_, (x1.alloc ob_).cell? ⟨PT, 2, none⟩ = some (.slice none 0 0) := fun ob_ => ((Blk.alloc hT ob_).cell 2).trans rfl
      have z33 : ∀ ob_, (x1.alloc ob_).frozen? ⟨PT, 2, none⟩ = false := fun ob_ => (Blk.alloc hT ob_).frozen 2
      have z34 : x1.cell? ⟨PT, 3, none⟩ = some (.int .i64 (-1)) := (hT.cell 3).trans rfl
      have z35 := hT.frozen 3
      have z36 : ∀ ob_, (x1.alloc ob_).cell? ⟨PT, 3, none⟩ = some (.int .i64 (-1)) := fun ob_ => ((Blk.alloc hT ob_).cell 3).trans rfl
      have z37 : ∀ ob_, (x1.alloc ob_).frozen? ⟨PT, 3, none⟩ = false := fun ob_ => (Blk.alloc hT ob_).frozen 3
      have z38 : x1.cell? ⟨PT, 4, none⟩ = some (.slice (some ⟨w.heap.size, 0, none⟩) 1 1) := (hT.cell 4).trans rfl
      have z39 := hT.frozen 4
      have z40 : ∀ ob_, (x1.alloc ob_).cell? ⟨PT, 4, none⟩ = some (.slice (some ⟨w.heap.size, 0, none⟩) 1 1) := fun ob_ => ((Blk.alloc hT ob_).cell 4).trans rfl
      have z41 : ∀ ob_, (x1.alloc ob_).frozen? ⟨PT, 4, none⟩ = false := fun ob_ => (Blk.alloc hT ob_).frozen 4
      have z42 : x1.cell? ⟨PT, 5, none⟩ = some (.int .i64 2) := (hT.cell 5).trans rfl
      have z43 := hT.frozen 5
      have z44 : ∀ ob_, (x1.alloc ob_).cell? ⟨PT, 5, none⟩ = some (.int .i64 2) := fun ob_ => ((Blk.alloc hT ob_).cell 5).trans rfl
      have z45 : ∀ ob_, (x1.alloc ob_).frozen? ⟨PT, 5, none⟩ = false := fun ob_ => (Blk.alloc hT ob_).frozen 5
      have z46 : x1.cell? ⟨PT, 6, none⟩ = some (.slice (some ⟨w.heap.size + 1, 0, none⟩) 200001 200001) := (hT.cell 6).trans rfl
      have z47 := hT.frozen 6
      have z48 : ∀ ob_, (x1.alloc ob_).cell? ⟨PT, 6, none⟩ = some (.slice (some ⟨w.heap.size + 1, 0, none⟩) 200001 200001) := fun ob_ => ((Blk.alloc hT ob_).cell 6).trans rfl
      have z49 : ∀ ob_, (x1.alloc ob_).frozen? ⟨PT, 6, none⟩ = false := fun ob_ => (Blk.alloc hT ob_).frozen 6
      have z50 : x1.cell? ⟨PT, 7, none⟩ = some (.int .i64 0) := (hT.cell 7).trans rfl
      have z51 := hT.frozen 7
      have z52 : ∀ ob_, (x1.alloc ob_).cell? ⟨PT, 7, none⟩ = some (.int .i64 0) := fun ob_ => ((Blk.alloc hT ob_).cell 7).trans rfl
      have z53 : ∀ ob_, (x1.alloc ob_).frozen? ⟨PT, 7, none⟩ = false := fun ob_ => (Blk.alloc hT ob_).frozen 7
      have z54 : x1.cell? ⟨PT, 8, none⟩ = some (.slice none 0 0) := (hT.cell 8).trans rfl
      have z55 := hT.frozen 8
      have z56 : ∀ ob_, (x1.alloc ob_).cell? ⟨PT, 8, none⟩ = some (.slice none 0 0) := fun ob_ => ((Blk.alloc hT ob_).cell 8).trans rfl
      have z57 : ∀ ob_, (x1.alloc ob_).frozen? ⟨PT, 8, none⟩ = false := fun ob_ => (Blk.alloc hT ob_).frozen 8
      have z58 : x1.cell? ⟨PT, 9, none⟩ = some (.int .i64 9223372036854775807) := (hT.cell 9).trans rfl
      have z59 := hT.frozen 9
      have z60 : ∀ ob_, (x1.alloc ob_).cell? ⟨PT, 9, none⟩ = some (.int .i64 9223372036854775807) := fun ob_ => ((Blk.alloc hT ob_).cell 9).trans rfl
      have z61 : ∀ ob_, (x1.alloc ob_).frozen? ⟨PT, 9, none⟩ = false := fun ob_ => (Blk.alloc hT ob_).frozen 9
      have z62 := hT.lt
      go_wp2_with fail
      refine (unfixedBad none 0 0 [] (-1) 3 (by omega) (by omega) _ Reads.none_ (by omega) 8 (ck_uf HCK.out) (by omega)).mono ?_
      rintro e x2 ⟨rfl, bB⟩
      replace hT := Blk.via0 (g := PT) (t := 33) bB (by repeat (first | with_reducible exact hT | with_reducible (apply Blk.set_) | with_reducible (apply Blk.far; case hp => (simp <;> omega)) | with_reducible (apply Blk.alloc) | with_reducible (apply Blk.drew)))
      replace hT : Blk x2 PT 33 #[.slice none 0 0, .int .i64 1, .slice none 0 0, .int .i64 (-1), .slice (some ⟨w.heap.size, 0, none⟩) 1 1, .int .i64 2, .slice (some ⟨w.heap.size + 1, 0, none⟩) 200001 200001, .int .i64 0, .slice none 0 0, .int .i64 9223372036854775807] := hT
      replace hC := Below.via (w := wr) (by have hs_ := hC.size; repeat (first | with_reducible exact hC | with_reducible (refine Below.setCell ?_ (by simp <;> omega) _) | with_reducible (refine Below.alloc ?_ (by first | exact hs_ | (simp <;> omega)) _) | with_reducible (refine Below.drew ?_))) bB
      replace hB := Below.via (w := w) (by have hs_ := hB.size; repeat (first | with_reducible exact hB | with_reducible (refine Below.setCell ?_ (by simp <;> omega) _) | with_reducible (refine Below.alloc ?_ (by first | exact hs_ | (simp <;> omega)) _) | with_reducible (refine Below.drew ?_))) bB
      clear z22 z23 z24 z25 z26 z27 z28 z29 z30 z31 z32 z33 z34 z35 z36 z37 z38 z39 z40 z41 z42 z43 z44 z45 z46 z47 z48 z49 z50 z51 z52 z53 z54 z55 z56 z57 z58 z59 z60 z61 z62
      clear bB
      have z63 : x2.cell? ⟨PT, 0, none⟩ = some (.slice none 0 0) := (hT.cell 0).trans rfl
      have z64 := hT.frozen 0
      have z65 : ∀ ob_, (x2.alloc ob_).cell? ⟨PT, 0, none⟩ = some (.slice none 0 0) := fun ob_ => ((Blk.alloc hT ob_).cell 0).trans rfl
      have z66 : ∀ ob_, (x2.alloc ob_).frozen? ⟨PT, 0, none⟩ = false := fun ob_ => (Blk.alloc hT ob_).frozen 0
      have z67 : x2.cell? ⟨PT, 1, none⟩ = some (.int .i64 1) := (hT.cell 1).trans rfl
      have z68 := hT.frozen 1
      have z69 : ∀ ob_, (x2.alloc ob_).cell? ⟨PT, 1, none⟩ = some (.int .i64 1) := fun ob_ => ((Blk.alloc hT ob_).cell 1).trans rfl
      have z70 : ∀ ob_, (x2.alloc ob_).frozen? ⟨PT, 1, none⟩ = false := fun ob_ => (Blk.alloc hT ob_).frozen 1
      have z71 : x2.cell? ⟨PT, 2, none⟩ = some (.slice none 0 0) := (hT.cell 2).trans rfl
      have z72 := hT.frozen 2
      have z73 : ∀ ob_, (x2.alloc ob_).cell? ⟨PT, 2, none⟩ = some (.slice none 0 0) := fun ob_ => ((Blk.alloc hT ob_).cell 2).trans rfl
      have z74 : ∀ ob_, (x2.alloc ob_).frozen? ⟨PT, 2, none⟩ = false := fun ob_ => (Blk.alloc hT ob_).frozen 2
      have z75 : x2.cell? ⟨PT, 3, none⟩ = some (.int .i64 (-1)) := (hT.cell 3).trans rfl
      have z76 := hT.frozen 3
      have z77 : ∀ ob_, (x2.alloc ob_).cell? ⟨PT, 3, none⟩ = some (.int .i64 (-1)) := fun ob_ => ((Blk.alloc hT ob_).cell 3).trans rfl
      have z78 : ∀ ob_, (x2.alloc ob_).frozen? ⟨PT, 3, none⟩ = false := fun ob_ => (Blk.alloc hT ob_).frozen 3
      have z79 : x2.cell? ⟨PT, 4, none⟩ = some (.slice (some ⟨w.heap.size, 0, none⟩) 1 1) := (hT.cell 4).trans rfl
      have z80 := hT.frozen 4
      have z81 : ∀ ob_, (x2.alloc ob_).cell? ⟨PT, 4, none⟩ = some (.slice (some ⟨w.heap.size, 0, none⟩) 1 1) := fun ob_ => ((Blk.alloc hT ob_).cell 4).trans rfl
      have z82 : ∀ ob_, (x2.alloc ob_).frozen? ⟨PT, 4, none⟩ = false := fun ob_ => (Blk.alloc hT ob_).frozen 4
      have z83 : x2.cell? ⟨PT, 5, none⟩ = some (.int .i64 2) := (hT.cell 5).trans rfl
      have z84 := hT.frozen 5
      have z85 : ∀ ob_, (x2.alloc ob_).cell? ⟨PT, 5, none⟩ = some (.int .i64 2) := fun ob_ => ((Blk.alloc hT ob_).cell 5).trans rfl
      have z86 : ∀ ob_, (x2.alloc ob_).frozen? ⟨PT, 5, none⟩ = false := fun ob_ => (Blk.alloc hT ob_).frozen 5
      have z87 : x2.cell? ⟨PT, 6, none⟩ = some (.slice (some ⟨w.heap.size + 1, 0, none⟩) 200001 200001) := (hT.cell 6).trans rfl
      have z88 := hT.frozen 6
      have z89 : ∀ ob_, (x2.alloc ob_).cell? ⟨PT, 6, none⟩ = some (.slice (some ⟨w.heap.size + 1, 0, none⟩) 200001 200001) := fun ob_ => ((Blk.alloc hT ob_).cell 6).trans rfl
      have z90 : ∀ ob_, (x2.alloc ob_).frozen? ⟨PT, 6, none⟩ = false := fun ob_ => (Blk.alloc hT ob_).frozen 6
      have z91 : x2.cell? ⟨PT, 7, none⟩ = some (.int .i64 0) := (hT.cell 7).trans rfl
      have z92 := hT.frozen 7
      have z93 : ∀ ob_, (x2.alloc ob_).cell? ⟨PT, 7, none⟩ = some (.int .i64 0) := fun ob_ => ((Blk.alloc hT ob_).cell 7).trans rfl
      have z94 : ∀ ob_, (x2.alloc ob_).frozen? ⟨PT, 7, none⟩ = false := fun ob_ => (Blk.alloc hT ob_).frozen 7
      have z95 : x2.cell? ⟨PT, 8, none⟩ = some (.slice none 0 0) := (hT.cell 8).trans rfl
      have z96 := hT.frozen 8
      have z97 : ∀ ob_, (x2.alloc ob_).cell? ⟨PT, 8, none⟩ = some (.slice none 0 0) := fun ob_ => ((Blk.alloc hT ob_).cell 8).trans rfl
      have z98 : ∀ ob_, (x2.alloc ob_).frozen? ⟨PT, 8, none⟩ = false := fun ob_ => (Blk.alloc hT ob_).frozen 8
      have z99 : x2.cell? ⟨PT, 9, none⟩ = some (.int .i64 9223372036854775807) := (hT.cell 9).trans rfl
      have z100 := hT.frozen 9
      have z101 : ∀ ob_, (x2.alloc ob_).cell? ⟨PT, 9, none⟩ = some (.int .i64 9223372036854775807) := fun ob_ => ((Blk.alloc hT ob_).cell 9).trans rfl
      have z102 : ∀ ob_, (x2.alloc ob_).frozen? ⟨PT, 9, none⟩ = false := fun ob_ => (Blk.alloc hT ob_).frozen 9
      have z103 := hT.lt
      go_wp2_with fail
      refine (unvaryBad none 0 0 [] (-1) 0 (by omega) (by omega) _ Reads.none_ (by omega) 8 (ck_uv HCK.out) (by omega)).mono ?_
      rintro e x3 ⟨rfl, bB⟩
      replace hT := Blk.via0 (g := PT) (t := 33) bB (by repeat (first | with_reducible exact hT | with_reducible (apply Blk.set_) | with_reducible (apply Blk.far; case hp => (simp <;> omega)) | with_reducible (apply Blk.alloc) | with_reducible (apply Blk.drew)))
      replace hT : Blk x3 PT 33 #[.slice none 0 0, .int .i64 1, .slice none 0 0, .int .i64 (-1), .slice (some ⟨w.heap.size, 0, none⟩) 1 1, .int .i64 2, .slice (some ⟨w.heap.size + 1, 0, none⟩) 200001 200001, .int .i64 0, .slice none 0 0, .int .i64 9223372036854775807] := hT
      replace hC := Below.via (w := wr) (by have hs_ := hC.size; repeat (first | with_reducible exact hC | with_reducible (refine Below.setCell ?_ (by simp <;> omega) _) | with_reducible (refine Below.alloc ?_ (by first | exact hs_ | (simp <;> omega)) _) | with_reducible (refine Below.drew ?_))) bB
      replace hB := Below.via (w := w) (by have hs_ := hB.size; repeat (first | with_reducible exact hB | with_reducible (refine Below.setCell ?_ (by simp <;> omega) _) | with_reducible (refine Below.alloc ?_ (by first | exact hs_ | (simp <;> omega)) _) | with_reducible (refine Below.drew ?_))) bB
      clear z63 z64 z65 z66 z67 z68 z69 z70 z71 z72 z73 z74 z75 z76 z77 z78 z79 z80 z81 z82 z83 z84 z85 z86 z87 z88 z89 z90 z91 z92 z93 z94 z95 z96 z97 z98 z99 z100 z101 z102 z103
      clear bB
      have z104 : x3.cell? ⟨PT, 0, none⟩ = some (.slice none 0 0) := (hT.cell 0).trans rfl
      have z105 := hT.frozen 0
      have z106 : ∀ ob_, (x3.alloc ob_).cell? ⟨PT, 0, none⟩ = some (.slice none 0 0) := fun ob_ => ((Blk.alloc hT ob_).cell 0).trans rfl
      have z107 : ∀ ob_, (x3.alloc ob_).frozen? ⟨PT, 0, none⟩ = false := fun ob_ => (Blk.alloc hT ob_).frozen 0
      have z108 : x3.cell? ⟨PT, 1, none⟩ = some (.int .i64 1) := (hT.cell 1).trans rfl
      have z109 := hT.frozen 1
      have z110 : ∀ ob_, (x3.alloc ob_).cell? ⟨PT, 1, none⟩ = some (.int .i64 1) := fun ob_ => ((Blk.alloc hT ob_).cell 1).trans rfl
      have z111 : ∀ ob_, (x3.alloc ob_).frozen? ⟨PT, 1, none⟩ = false := fun ob_ => (Blk.alloc hT ob_).frozen 1
      have z112 : x3.cell? ⟨PT, 2, none⟩ = some (.slice none 0 0) := (hT.cell 2).trans rfl
      have z113 := hT.frozen 2
      have z114 : ∀ ob_, (x3.alloc ob_).cell? ⟨PT, 2, none⟩ = some (.slice none 0 0) := fun ob_ => ((Blk.alloc hT ob_).cell 2).trans rfl
      have z115 : ∀ ob_, (x3.alloc ob_).frozen? ⟨PT, 2, none⟩ = false := fun ob_ => (Blk.alloc hT ob_).frozen 2
      have z116 : x3.cell? ⟨PT, 3, none⟩ = some (.int .i64 (-1)) := (hT.cell 3).trans rfl
      have z117 := hT.frozen 3
      have z118 : ∀ ob_, (x3.alloc ob_).cell? ⟨PT, 3, none⟩ = some (.int .i64 (-1)) := fun ob_ => ((Blk.alloc hT ob_).cell 3).trans rfl
      have z119 : ∀ ob_, (x3.alloc ob_).frozen? ⟨PT, 3, none⟩ = false := fun ob_ => (Blk.alloc hT ob_).frozen 3
      have z120 : x3.cell? ⟨PT, 4, none⟩ = some (.slice (some ⟨w.heap.size, 0, none⟩) 1 1) := (hT.cell 4).trans rfl
      have z121 := hT.frozen 4
      have z122 : ∀ ob_, (x3.alloc ob_).cell? ⟨PT, 4, none⟩ = some (.slice (some ⟨w.heap.size, 0, none⟩) 1 1) := fun ob_ => ((Blk.alloc hT ob_).cell 4).trans rfl
      have z123 : ∀ ob_, (x3.alloc ob_).frozen? ⟨PT, 4, none⟩ = false := fun ob_ => (Blk.alloc hT ob_).frozen 4
      have z124 : x3.cell? ⟨PT, 5, none⟩ = some (.int .i64 2) := (hT.cell 5).trans rfl
      have z125 := hT.frozen 5
      have z126 : ∀ ob_, (x3.alloc ob_).cell? ⟨PT, 5, none⟩ = some (.int .i64 2) := fun ob_ => ((Blk.alloc hT ob_).cell 5).trans rfl
      have z127 : ∀ ob_, (x3.alloc ob_).frozen? ⟨PT, 5, none⟩ = false := fun ob_ => (Blk.alloc hT ob_).frozen 5
      have z128 : x3.cell? ⟨PT, 6, none⟩ = some (.slice (some ⟨w.heap.size + 1, 0, none⟩) 200001 200001) := (hT.cell 6).trans rfl
      have z129 := hT.frozen 6
      have z130 : ∀ ob_, (x3.alloc ob_).cell? ⟨PT, 6, none⟩ = some (.slice (some ⟨w.heap.size + 1, 0, none⟩) 200001 200001) := fun ob_ => ((Blk.alloc hT ob_).cell 6).trans rfl
      have z131 : ∀ ob_, (x3.alloc ob_).frozen? ⟨PT, 6, none⟩ = false := fun ob_ => (Blk.alloc hT ob_).frozen 6
      have z132 : x3.cell? ⟨PT, 7, none⟩ = some (.int .i64 0) := (hT.cell 7).trans rfl
      have z133 := hT.frozen 7
      have z134 : ∀ ob_, (x3.alloc ob_).cell? ⟨PT, 7, none⟩ = some (.int .i64 0) := fun ob_ => ((Blk.alloc hT ob_).cell 7).trans rfl
      have z135 : ∀ ob_, (x3.alloc ob_).frozen? ⟨PT, 7, none⟩ = false := fun ob_ => (Blk.alloc hT ob_).frozen 7
      have z136 : x3.cell? ⟨PT, 8, none⟩ = some (.slice none 0 0) := (hT.cell 8).trans rfl
      have z137 := hT.frozen 8
      have z138 : ∀ ob_, (x3.alloc ob_).cell? ⟨PT, 8, none⟩ = some (.slice none 0 0) := fun ob_ => ((Blk.alloc hT ob_).cell 8).trans rfl
      have z139 : ∀ ob_, (x3.alloc ob_).frozen? ⟨PT, 8, none⟩ = false := fun ob_ => (Blk.alloc hT ob_).frozen 8
      have z140 : x3.cell? ⟨PT, 9, none⟩ = some (.int .i64 9223372036854775807) := (hT.cell 9).trans rfl
      have z141 := hT.frozen 9
      have z142 : ∀ ob_, (x3.alloc ob_).cell? ⟨PT, 9, none⟩ = some (.int .i64 9223372036854775807) := fun ob_ => ((Blk.alloc hT ob_).cell 9).trans rfl
      have z143 : ∀ ob_, (x3.alloc ob_).frozen? ⟨PT, 9, none⟩ = false := fun ob_ => (Blk.alloc hT ob_).frozen 9
      have z144 := hT.lt
      go_wp2_with fail
      refine (unsignedBad none 0 0 [] (-1) (by omega) _ Reads.none_ (by omega) 8 (ck_uv HCK.out) (by omega)).mono ?_
      rintro e x4 ⟨rfl, bB⟩
      replace hT := Blk.via0 (g := PT) (t := 33) bB (by repeat (first | with_reducible exact hT | with_reducible (apply Blk.set_) | with_reducible (apply Blk.far; case hp => (simp <;> omega)) | with_reducible (apply Blk.alloc) | with_reducible (apply Blk.drew)))
      replace hT : Blk x4 PT 33 #[.slice none 0 0, .int .i64 1, .slice none 0 0, .int .i64 (-1), .slice (some ⟨w.heap.size, 0, none⟩) 1 1, .int .i64 2, .slice (some ⟨w.heap.size + 1, 0, none⟩) 200001 200001, .int .i64 0, .slice none 0 0, .int .i64 9223372036854775807] := hT
      replace hC := Below.via (w := wr) (by have hs_ := hC.size; repeat (first | with_reducible exact hC | with_reducible (refine Below.setCell ?_ (by simp <;> omega) _) | with_reducible (refine Below.alloc ?_ (by first | exact hs_ | (simp <;> omega)) _) | with_reducible (refine Below.drew ?_))) bB
      replace hB := Below.via (w := w) (by have hs_ := hB.size; repeat (first | with_reducible exact hB | with_reducible (refine Below.setCell ?_ (by simp <;> omega) _) | with_reducible (refine Below.alloc ?_ (by first | exact hs_ | (simp <;> omega)) _) | with_reducible (refine Below.drew ?_))) bB
      clear z104 z105 z106 z107 z108 z109 z110 z111 z112 z113 z114 z115 z116 z117 z118 z119 z120 z121 z122 z123 z124 z125 z126 z127 z128 z129 z130 z131 z132 z133 z134 z135 z136 z137 z138 z139 z140 z141 z142 z143 z144
      clear bB
      have z145 : x4.cell? ⟨PT, 0, none⟩ = some (.slice none 0 0) := (hT.cell 0).trans rfl
      have z146 := hT.frozen 0
      have z147 : ∀ ob_, (x4.alloc ob_).cell? ⟨PT, 0, none⟩ = some (.slice none 0 0) := fun ob_ => ((Blk.alloc hT ob_).cell 0).trans rfl
      have z148 : ∀ ob_, (x4.alloc ob_).frozen? ⟨PT, 0, none⟩ = false := fun ob_ => (Blk.alloc hT ob_).frozen 0
      have z149 : x4.cell? ⟨PT, 1, none⟩ = some (.int .i64 1) := (hT.cell 1).trans rfl
      have z150 := hT.frozen 1
      have z151 : ∀ ob_, (x4.alloc ob_).cell? ⟨PT, 1, none⟩ = some (.int .i64 1) := fun ob_ => ((Blk.alloc hT ob_).cell 1).trans rfl
      have z152 : ∀ ob_, (x4.alloc ob_).frozen? ⟨PT, 1, none⟩ = false := fun ob_ => (Blk.alloc hT ob_).frozen 1
      have z153 : x4.cell? ⟨PT, 2, none⟩ = some (.slice none 0 0) := (hT.cell 2).trans rfl
      have z154 := hT.frozen 2
      have z155 : ∀ ob_, (x4.alloc ob_).cell? ⟨PT, 2, none⟩ = some (.slice none 0 0) := fun ob_ => ((Blk.alloc hT ob_).cell 2).trans rfl
      have z156 : ∀ ob_, (x4.alloc ob_).frozen? ⟨PT, 2, none⟩ = false := fun ob_ => (Blk.alloc hT ob_).frozen 2
      have z157 : x4.cell? ⟨PT, 3, none⟩ = some (.int .i64 (-1)) := (hT.cell 3).trans rfl
      have z158 := hT.frozen 3
      have z159 : ∀ ob_, (x4.alloc ob_).cell? ⟨PT, 3, none⟩ = some (.int .i64 (-1)) := fun ob_ => ((Blk.alloc hT ob_).cell 3).trans rfl
      have z160 : ∀ ob_, (x4.alloc ob_).frozen? ⟨PT, 3, none⟩ = false := fun ob_ => (Blk.alloc hT ob_).frozen 3
      have z161 : x4.cell? ⟨PT, 4, none⟩ = some (.slice (some ⟨w.heap.size, 0, none⟩) 1 1) := (hT.cell 4).trans rfl
      have z162 := hT.frozen 4
      have z163 : ∀ ob_, (x4.alloc ob_).cell? ⟨PT, 4, none⟩ = some (.slice (some ⟨w.heap.size, 0, none⟩) 1 1) := fun ob_ => ((Blk.alloc hT ob_).cell 4).trans rfl
      have z164 : ∀ ob_, (x4.alloc ob_).frozen? ⟨PT, 4, none⟩ = false := fun ob_ => (Blk.alloc hT ob_).frozen 4
      have z165 : x4.cell? ⟨PT, 5, none⟩ = some (.int .i64 2) := (hT.cell 5).trans rfl
      have z166 := hT.frozen 5
      have z167 : ∀ ob_, (x4.alloc ob_).cell? ⟨PT, 5, none⟩ = some (.int .i64 2) := fun ob_ => ((Blk.alloc hT ob_).cell 5).trans rfl
      have z168 : ∀ ob_, (x4.alloc ob_).frozen? ⟨PT, 5, none⟩ = false := fun ob_ => (Blk.alloc hT ob_).frozen 5
      have z169 : x4.cell? ⟨PT, 6, none⟩ = some (.slice (some ⟨w.heap.size + 1, 0, none⟩) 200001 200001) := (hT.cell 6).trans rfl
      have z170 := hT.frozen 6
      have z171 : ∀ ob_, (x4.alloc ob_).cell? ⟨PT, 6, none⟩ = some (.slice (some ⟨w.heap.size + 1, 0, none⟩) 200001 200001) := fun ob_ => ((Blk.alloc hT ob_).cell 6).trans rfl
      have z172 : ∀ ob_, (x4.alloc ob_).frozen? ⟨PT, 6, none⟩ = false := fun ob_ => (Blk.alloc hT ob_).frozen 6
      have z173 : x4.cell? ⟨PT, 7, none⟩ = some (.int .i64 0) := (hT.cell 7).trans rfl
      have z174 := hT.frozen 7
      have z175 : ∀ ob_, (x4.alloc ob_).cell? ⟨PT, 7, none⟩ = some (.int .i64 0) := fun ob_ => ((Blk.alloc hT ob_).cell 7).trans rfl
      have z176 : ∀ ob_, (x4.alloc ob_).frozen? ⟨PT, 7, none⟩ = false := fun ob_ => (Blk.alloc hT ob_).frozen 7
      have z177 : x4.cell? ⟨PT, 8, none⟩ = some (.slice none 0 0) := (hT.cell 8).trans rfl
      have z178 := hT.frozen 8
      have z179 : ∀ ob_, (x4.alloc ob_).cell? ⟨PT, 8, none⟩ = some (.slice none 0 0) := fun ob_ => ((Blk.alloc hT ob_).cell 8).trans rfl
      have z180 : ∀ ob_, (x4.alloc ob_).frozen? ⟨PT, 8, none⟩ = false := fun ob_ => (Blk.alloc hT ob_).frozen 8
      have z181 : x4.cell? ⟨PT, 9, none⟩ = some (.int .i64 9223372036854775807) := (hT.cell 9).trans rfl
      have z182 := hT.frozen 9
      have z183 : ∀ ob_, (x4.alloc ob_).cell? ⟨PT, 9, none⟩ = some (.int .i64 9223372036854775807) := fun ob_ => ((Blk.alloc hT ob_).cell 9).trans rfl
      have z184 : ∀ ob_, (x4.alloc ob_).frozen? ⟨PT, 9, none⟩ = false := fun ob_ => (Blk.alloc hT ob_).frozen 9
      have z185 := hT.lt
      go_wp2_with fail
      refine (untextBad none 0 0 [] (-1) (-1) (by omega) (by omega) _ Reads.none_ (by omega) 8 (ck_ut HCK.out) (by omega)).mono ?_
      rintro e x5 ⟨rfl, bB⟩
      replace hT := Blk.via0 (g := PT) (t := 33) bB (by repeat (first | with_reducible exact hT | with_reducible (apply Blk.set_) | with_reducible (apply Blk.far; case hp => (simp <;> omega)) | with_reducible (apply Blk.alloc) | with_reducible (apply Blk.drew)))
      replace hT : Blk x5 PT 33 #[.slice none 0 0, .int .i64 1, .slice none 0 0, .int .i64 (-1), .slice (some ⟨w.heap.size, 0, none⟩) 1 1, .int .i64 2, .slice (some ⟨w.heap.size + 1, 0, none⟩) 200001 200001, .int .i64 0, .slice none 0 0, .int .i64 9223372036854775807] := hT
      replace hC := Below.via (w := wr) (by have hs_ := hC.size; repeat (first | with_reducible exact hC | with_reducible (refine Below.setCell ?_ (by simp <;> omega) _) | with_reducible (refine Below.alloc ?_ (by first | exact hs_ | (simp <;> omega)) _) | with_reducible (refine Below.drew ?_))) bB
      replace hB := Below.via (w := w) (by have hs_ := hB.size; repeat (first | with_reducible exact hB | with_reducible (refine Below.setCell ?_ (by simp <;> omega) _) | with_reducible (refine Below.alloc ?_ (by first | exact hs_ | (simp <;> omega)) _) | with_reducible (refine Below.drew ?_))) bB
      clear z145 z146 z147 z148 z149 z150 z151 z152 z153 z154 z155 z156 z157 z158 z159 z160 z161 z162 z163 z164 z165 z166 z167 z168 z169 z170 z171 z172 z173 z174 z175 z176 z177 z178 z179 z180 z181 z182 z183 z184 z185
      clear bB
      have z186 : x5.cell? ⟨PT, 0, none⟩ = some (.slice none 0 0) := (hT.cell 0).trans rfl
      have z187 := hT.frozen 0
      have z188 : ∀ ob_, (x5.alloc ob_).cell? ⟨PT, 0, none⟩ = some (.slice none 0 0) := fun ob_ => ((Blk.alloc hT ob_).cell 0).trans rfl
      have z189 : ∀ ob_, (x5.alloc ob_).frozen? ⟨PT, 0, none⟩ = false := fun ob_ => (Blk.alloc hT ob_).frozen 0
      have z190 : x5.cell? ⟨PT, 1, none⟩ = some (.int .i64 1) := (hT.cell 1).trans rfl
      have z191 := hT.frozen 1
      have z192 : ∀ ob_, (x5.alloc ob_).cell? ⟨PT, 1, none⟩ = some (.int .i64 1) := fun ob_ => ((Blk.alloc hT ob_).cell 1).trans rfl
      have z193 : ∀ ob_, (x5.alloc ob_).frozen? ⟨PT, 1, none⟩ = false := fun ob_ => (Blk.alloc hT ob_).frozen 1
      have z194 : x5.cell? ⟨PT, 2, none⟩ = some (.slice none 0 0) := (hT.cell 2).trans rfl
      have z195 := hT.frozen 2
      have z196 : ∀ ob_, (x5.alloc ob_).cell? ⟨PT, 2, none⟩ = some (.slice none 0 0) := fun ob_ => ((Blk.alloc hT ob_).cell 2).trans rfl
      have z197 : ∀ ob_, (x5.alloc ob_).frozen? ⟨PT, 2, none⟩ = false := fun ob_ => (Blk.alloc hT ob_).frozen 2
      have z198 : x5.cell? ⟨PT, 3, none⟩ = some (.int .i64 (-1)) := (hT.cell 3).trans rfl
      have z199 := hT.frozen 3
      have z200 : ∀ ob_, (x5.alloc ob_).cell? ⟨PT, 3, none⟩ = some (.int .i64 (-1)) := fun ob_ => ((Blk.alloc hT ob_).cell 3).trans rfl
      have z201 : ∀ ob_, (x5.alloc ob_).frozen? ⟨PT, 3, none⟩ = false := fun ob_ => (Blk.alloc hT ob_).frozen 3
      have z202 : x5.cell? ⟨PT, 4, none⟩ = some (.slice (some ⟨w.heap.size, 0, none⟩) 1 1) := (hT.cell 4).trans rfl
      have z203 := hT.frozen 4
      have z204 : ∀ ob_, (x5.alloc ob_).cell? ⟨PT, 4, none⟩ = some (.slice (some ⟨w.heap.size, 0, none⟩) 1 1) := fun ob_ => ((Blk.alloc hT ob_).cell 4).trans rfl
      have z205 : ∀ ob_, (x5.alloc ob_).frozen? ⟨PT, 4, none⟩ = false := fun ob_ => (Blk.alloc hT ob_).frozen 4
      have z206 : x5.cell? ⟨PT, 5, none⟩ = some (.int .i64 2) := (hT.cell 5).trans rfl
      have z207 := hT.frozen 5
      have z208 : ∀ ob_, (x5.alloc ob_).cell? ⟨PT, 5, none⟩ = some (.int .i64 2) := fun ob_ => ((Blk.alloc hT ob_).cell 5).trans rfl
      have z209 : ∀ ob_, (x5.alloc ob_).frozen? ⟨PT, 5, none⟩ = false := fun ob_ => (Blk.alloc hT ob_).frozen 5
      have z210 : x5.cell? ⟨PT, 6, none⟩ = some (.slice (some ⟨w.heap.size + 1, 0, none⟩) 200001 200001) := (hT.cell 6).trans rfl
      have z211 := hT.frozen 6
      have z212 : ∀ ob_, (x5.alloc ob_).cell? ⟨PT, 6, none⟩ = some (.slice (some ⟨w.heap.size + 1, 0, none⟩) 200001 200001) := fun ob_ => ((Blk.alloc hT ob_).cell 6).trans rfl
      have z213 : ∀ ob_, (x5.alloc ob_).frozen? ⟨PT, 6, none⟩ = false := fun ob_ => (Blk.alloc hT ob_).frozen 6
      have z214 : x5.cell? ⟨PT, 7, none⟩ = some (.int .i64 0) := (hT.cell 7).trans rfl
      have z215 := hT.frozen 7
      have z216 : ∀ ob_, (x5.alloc ob_).cell? ⟨PT, 7, none⟩ = some (.int .i64 0) := fun ob_ => ((Blk.alloc hT ob_).cell 7).trans rfl
      have z217 : ∀ ob_, (x5.alloc ob_).frozen? ⟨PT, 7, none⟩ = false := fun ob_ => (Blk.alloc hT ob_).frozen 7
      have z218 : x5.cell? ⟨PT, 8, none⟩ = some (.slice none 0 0) := (hT.cell 8).trans rfl
      have z219 := hT.frozen 8
      have z220 : ∀ ob_, (x5.alloc ob_).cell? ⟨PT, 8, none⟩ = some (.slice none 0 0) := fun ob_ => ((Blk.alloc hT ob_).cell 8).trans rfl
      have z221 : ∀ ob_, (x5.alloc ob_).frozen? ⟨PT, 8, none⟩ = false := fun ob_ => (Blk.alloc hT ob_).frozen 8
      have z222 : x5.cell? ⟨PT, 9, none⟩ = some (.int .i64 9223372036854775807) := (hT.cell 9).trans rfl
      have z223 := hT.frozen 9
      have z224 : ∀ ob_, (x5.alloc ob_).cell? ⟨PT, 9, none⟩ = some (.int .i64 9223372036854775807) := fun ob_ => ((Blk.alloc hT ob_).cell 9).trans rfl
      have z225 : ∀ ob_, (x5.alloc ob_).frozen? ⟨PT, 9, none⟩ = false := fun ob_ => (Blk.alloc hT ob_).frozen 9
      have z226 := hT.lt
      go_wp2_with fail
      go_roundw
      case rel => exact ⟨2, by omega, by go_num, (by repeat (first | with_reducible exact hT | with_reducible (apply Blk.set_) | with_reducible (apply Blk.far; case hp => (simp <;> omega)) | with_reducible (apply Blk.alloc) | with_reducible (apply Blk.drew))), HR1.out.mv (by have hs_ := hC.size; repeat (first | with_reducible exact hC | with_reducible (refine Below.setCell ?_ (by simp <;> omega) _) | with_reducible (refine Below.alloc ?_ (by first | exact hs_ | (simp <;> omega)) _) | with_reducible (refine Below.drew ?_))), HR2.out.mv (by have hs_ := hC.size; repeat (first | with_reducible exact hC | with_reducible (refine Below.setCell ?_ (by simp <;> omega) _) | with_reducible (refine Below.alloc ?_ (by first | exact hs_ | (simp <;> omega)) _) | with_reducible (refine Below.drew ?_))), (by have hs_ := hB.size; repeat (first | with_reducible exact hB | with_reducible (refine Below.setCell ?_ (by simp <;> omega) _) | with_reducible (refine Below.alloc ?_ (by first | exact hs_ | (simp <;> omega)) _) | with_reducible (refine Below.drew ?_)))⟩
      case measure => simp [intOf]
    · have hC := Below.refl wr.heap.size wr
      have hck : ckB ([1] : List UInt8).length 2 = false := by decide
      have HCK := Lib.hid hck
      clear hck
      have z1 : wr.cell? ⟨PT, 0, none⟩ = some (.slice none 0 0) := (hT.cell 0).trans rfl
      have z2 := hT.frozen 0
      have z3 : wr.cell? ⟨PT, 1, none⟩ = some (.int .i64 1) := (hT.cell 1).trans rfl
      have z4 := hT.frozen 1
      have z5 : wr.cell? ⟨PT, 2, none⟩ = some (.slice none 0 0) := (hT.cell 2).trans rfl
      have z6 := hT.frozen 2
      have z7 : wr.cell? ⟨PT, 3, none⟩ = some (.int .i64 (-1)) := (hT.cell 3).trans rfl
      have z8 := hT.frozen 3
      have z9 : wr.cell? ⟨PT, 4, none⟩ = some (.slice (some ⟨w.heap.size, 0, none⟩) 1 1) := (hT.cell 4).trans rfl
      have z10 := hT.frozen 4
      have z11 : wr.cell? ⟨PT, 5, none⟩ = some (.int .i64 2) := (hT.cell 5).trans rfl
      have z12 := hT.frozen 5
      have z13 : wr.cell? ⟨PT, 6, none⟩ = some (.slice (some ⟨w.heap.size + 1, 0, none⟩) 200001 200001) := (hT.cell 6).trans rfl
      have z14 := hT.frozen 6
      have z15 : wr.cell? ⟨PT, 7, none⟩ = some (.int .i64 0) := (hT.cell 7).trans rfl
      have z16 := hT.frozen 7
      have z17 : wr.cell? ⟨PT, 8, none⟩ = some (.slice none 0 0) := (hT.cell 8).trans rfl
      have z18 := hT.frozen 8
      have z19 : wr.cell? ⟨PT, 9, none⟩ = some (.int .i64 9223372036854775807) := (hT.cell 9).trans rfl
      have z20 := hT.frozen 9
      have z21 := hT.lt
      go_wp2_with fail
      refine (leftBad (some ⟨w.heap.size, 0, none⟩) 1 1 2 (by omega) _ (by decide)).mono ?_
      rintro e x1 ⟨rfl, bB⟩
      replace hT := Blk.via0 (g := PT) (t := 33) bB (by repeat (first | with_reducible exact hT | with_reducible (apply Blk.set_) | with_reducible (apply Blk.far; case hp => (simp <;> omega)) | with_reducible (apply Blk.alloc) | with_reducible (apply Blk.drew)))
      replace hT : Blk x1 PT 33 #[.slice none 0 0, .int .i64 1, .slice none 0 0, .int .i64 (-1), .slice (some ⟨w.heap.size, 0, none⟩) 1 1, .int .i64 2, .slice (some ⟨w.heap.size + 1, 0, none⟩) 200001 200001, .int .i64 0, .slice none 0 0, .int .i64 9223372036854775807] := hT
      replace hC := Below.via (w := wr) (by have hs_ := hC.size; repeat (first | with_reducible exact hC | with_reducible (refine Below.setCell ?_ (by simp <;> omega) _) | with_reducible (refine Below.alloc ?_ (by first | exact hs_ | (simp <;> omega)) _) | with_reducible (refine Below.drew ?_))) bB
      replace hB := Below.via (w := w) (by have hs_ := hB.size; repeat (first | with_reducible exact hB | with_reducible (refine Below.setCell ?_ (by simp <;> omega) _) | with_reducible (refine Below.alloc ?_ (by first | exact hs_ | (simp <;> omega)) _) | with_reducible (refine Below.drew ?_))) bB
      clear z1 z2 z3 z4 z5 z6 z7 z8 z9 z10 z11 z12 z13 z14 z15 z16 z17 z18 z19 z20 z21
      clear bB
      have z22 : x1.cell? ⟨PT, 0, none⟩ = some (.slice none 0 0) := (hT.cell 0).trans rfl
      have z23 := hT.frozen 0
      have z24 : ∀ ob_, (x1.alloc ob_).cell? ⟨PT, 0, none⟩ = some (.slice none 0 0) := fun ob_ => ((Blk.alloc hT ob_).cell 0).trans rfl
      have z25 : ∀ ob_, (x1.alloc ob_).frozen? ⟨PT, 0, none⟩ = false := fun ob_ => (Blk.alloc hT ob_).frozen 0
      have z26 : x1.cell? ⟨PT, 1, none⟩ = some (.int .i64 1) := (hT.cell 1).trans rfl
      have z27 := hT.frozen 1
      have z28 : ∀ ob_, (x1.alloc ob_).cell? ⟨PT, 1, none⟩ = some (.int .i64 1) := fun ob_ => ((Blk.alloc hT ob_).cell 1).trans rfl
      have z29 : ∀ ob_, (x1.alloc ob_).frozen? ⟨PT, 1, none⟩ = false := fun ob_ => (Blk.alloc hT ob_).frozen 1
      have z30 : x1.cell? ⟨PT, 2, none⟩ = some (.slice none 0 0) := (hT.cell 2).trans rfl
      have z31 := hT.frozen 2
      have z32 : ∀ ob_, (x1.alloc ob_).cell? ⟨PT, 2, none⟩ = some (.slice none 0 0) := fun ob_ => ((Blk.alloc hT ob_).cell 2).trans rfl
      have z33 : ∀ ob_, (x1.alloc ob_).frozen? ⟨PT, 2, none⟩ = false := fun ob_ => (Blk.alloc hT ob_).frozen 2
      have z34 : x1.cell? ⟨PT, 3, none⟩ = some (.int .i64 (-1)) := (hT.cell 3).trans rfl
      have z35 := hT.frozen 3
      have z36 : ∀ ob_, (x1.alloc ob_).cell? ⟨PT, 3, none⟩ = some (.int .i64 (-1)) := fun ob_ => ((Blk.alloc hT ob_).cell 3).trans rfl
      have z37 : ∀ ob_, (x1.alloc ob_).frozen? ⟨PT, 3, none⟩ = false := fun ob_ => (Blk.alloc hT ob_).frozen 3
      have z38 : x1.cell? ⟨PT, 4, none⟩ = some (.slice (some ⟨w.heap.size, 0, none⟩) 1 1) := (hT.cell 4).trans rfl
      have z39 := hT.frozen 4
      have z40 : ∀ ob_, (x1.alloc ob_).cell? ⟨PT, 4, none⟩ = some (.slice (some ⟨w.heap.size, 0, none⟩) 1 1) := fun ob_ => ((Blk.alloc hT ob_).cell 4).trans rfl
      have z41 : ∀ ob_, (x1.alloc ob_).frozen? ⟨PT, 4, none⟩ = false := fun ob_ => (Blk.alloc hT ob_).frozen 4
      have z42 : x1.cell? ⟨PT, 5, none⟩ = some (.int .i64 2) := (hT.cell 5).trans rfl
      have z43 := hT.frozen 5
      have z44 : ∀ ob_, (x1.alloc ob_).cell? ⟨PT, 5, none⟩ = some (.int .i64 2) := fun ob_ => ((Blk.alloc hT ob_).cell 5).trans rfl
      have z45 : ∀ ob_, (x1.alloc ob_).frozen? ⟨PT, 5, none⟩ = false := fun ob_ => (Blk.alloc hT ob_).frozen 5
      have z46 : x1.cell? ⟨PT, 6, none⟩ = some (.slice (some ⟨w.heap.size + 1, 0, none⟩) 200001 200001) := (hT.cell 6).trans rfl
      have z47 := hT.frozen 6
      have z48 : ∀ ob_, (x1.alloc ob_).cell? ⟨PT, 6, none⟩ = some (.slice (some ⟨w.heap.size + 1, 0, none⟩) 200001 200001) := fun ob_ => ((Blk.alloc hT ob_).cell 6).trans rfl
      have z49 : ∀ ob_, (x1.alloc ob_).frozen? ⟨PT, 6, none⟩ = false := fun ob_ => (Blk.alloc hT ob_).frozen 6
      have z50 : x1.cell? ⟨PT, 7, none⟩ = some (.int .i64 0) := (hT.cell 7).trans rfl
      have z51 := hT.frozen 7
      have z52 : ∀ ob_, (x1.alloc ob_).cell? ⟨PT, 7, none⟩ = some (.int .i64 0) := fun ob_ => ((Blk.alloc hT ob_).cell 7).trans rfl
      have z53 : ∀ ob_, (x1.alloc ob_).frozen? ⟨PT, 7, none⟩ = false := fun ob_ => (Blk.alloc hT ob_).frozen 7
      have z54 : x1.cell? ⟨PT, 8, none⟩ = some (.slice none 0 0) := (hT.cell 8).trans rfl
      have z55 := hT.frozen 8
      have z56 : ∀ ob_, (x1.alloc ob_).cell? ⟨PT, 8, none⟩ = some (.slice none 0 0) := fun ob_ => ((Blk.alloc hT ob_).cell 8).trans rfl
      have z57 : ∀ ob_, (x1.alloc ob_).frozen? ⟨PT, 8, none⟩ = false := fun ob_ => (Blk.alloc hT ob_).frozen 8
      have z58 : x1.cell? ⟨PT, 9, none⟩ = some (.int .i64 9223372036854775807) := (hT.cell 9).trans rfl
      have z59 := hT.frozen 9
      have z60 : ∀ ob_, (x1.alloc ob_).cell? ⟨PT, 9, none⟩ = some (.int .i64 9223372036854775807) := fun ob_ => ((Blk.alloc hT ob_).cell 9).trans rfl
      have z61 : ∀ ob_, (x1.alloc ob_).frozen? ⟨PT, 9, none⟩ = false := fun ob_ => (Blk.alloc hT ob_).frozen 9
      have z62 := hT.lt
      go_wp2_with fail
      refine (unfixedBad (some ⟨w.heap.size, 0, none⟩) 1 1 [1] 2 3 (by omega) (by omega) _ (HR1.out.mv (by have hs_ := hC.size; repeat (first | with_reducible exact hC | with_reducible (refine Below.setCell ?_ (by simp <;> omega) _) | with_reducible (refine Below.alloc ?_ (by first | exact hs_ | (simp <;> omega)) _) | with_reducible (refine Below.drew ?_)))) (by omega) 8 (ck_uf HCK.out) (by omega)).mono ?_
      rintro e x2 ⟨rfl, bB⟩
      replace hT := Blk.via0 (g := PT) (t := 33) bB (by repeat (first | with_reducible exact hT | with_reducible (apply Blk.set_) | with_reducible (apply Blk.far; case hp => (simp <;> omega)) | with_reducible (apply Blk.alloc) | with_reducible (apply Blk.drew)))
      replace hT : Blk x2 PT 33 #[.slice none 0 0, .int .i64 1, .slice none 0 0, .int .i64 (-1), .slice (some ⟨w.heap.size, 0, none⟩) 1 1, .int .i64 2, .slice (some ⟨w.heap.size + 1, 0, none⟩) 200001 200001, .int .i64 0, .slice none 0 0, .int .i64 9223372036854775807] := hT
      replace hC := Below.via (w := wr) (by have hs_ := hC.size; repeat (first | with_reducible exact hC | with_reducible (refine Below.setCell ?_ (by simp <;> omega) _) | with_reducible (refine Below.alloc ?_ (by first | exact hs_ | (simp <;> omega)) _) | with_reducible (refine Below.drew ?_))) bB
      replace hB := Below.via (w := w) (by have hs_ := hB.size; repeat (first | with_reducible exact hB | with_reducible (refine Below.setCell ?_ (by simp <;> omega) _) | with_reducible (refine Below.alloc ?_ (by first | exact hs_ | (simp <;> omega)) _) | with_reducible (refine Below.drew ?_))) bB
      clear z22 z23 z24 z25 z26 z27 z28 z29 z30 z31 z32 z33 z34 z35 z36 z37 z38 z39 z40 z41 z42 z43 z44 z45 z46 z47 z48 z49 z50 z51 z52 z53 z54 z55 z56 z57 z58 z59 z60 z61 z62
      clear bB
      have z63 : x2.cell? ⟨PT, 0, none⟩ = some (.slice none 0 0) := (hT.cell 0).trans rfl
      have z64 := hT.frozen 0
      have z65 : ∀ ob_, (x2.alloc ob_).cell? ⟨PT, 0, none⟩ = some (.slice none 0 0) := fun ob_ => ((Blk.alloc hT ob_).cell 0).trans rfl
      have z66 : ∀ ob_, (x2.alloc ob_).frozen? ⟨PT, 0, none⟩ = false := fun ob_ => (Blk.alloc hT ob_).frozen 0
      have z67 : x2.cell? ⟨PT, 1, none⟩ = some (.int .i64 1) := (hT.cell 1).trans rfl
      have z68 := hT.frozen 1
      have z69 : ∀ ob_, (x2.alloc ob_).cell? ⟨PT, 1, none⟩ = some (.int .i64 1) := fun ob_ => ((Blk.alloc hT ob_).cell 1).trans rfl
      have z70 : ∀ ob_, (x2.alloc ob_).frozen? ⟨PT, 1, none⟩ = false := fun ob_ => (Blk.alloc hT ob_).frozen 1
      have z71 : x2.cell? ⟨PT, 2, none⟩ = some (.slice none 0 0) := (hT.cell 2).trans rfl
      have z72 := hT.frozen 2
      have z73 : ∀ ob_, (x2.alloc ob_).cell? ⟨PT, 2, none⟩ = some (.slice none 0 0) := fun ob_ => ((Blk.alloc hT ob_).cell 2).trans rfl
      have z74 : ∀ ob_, (x2.alloc ob_).frozen? ⟨PT, 2, none⟩ = false := fun ob_ => (Blk.alloc hT ob_).frozen 2
      have z75 : x2.cell? ⟨PT, 3, none⟩ = some (.int .i64 (-1)) := (hT.cell 3).trans rfl
      have z76 := hT.frozen 3
      have z77 : ∀ ob_, (x2.alloc ob_).cell? ⟨PT, 3, none⟩ = some (.int .i64 (-1)) := fun ob_ => ((Blk.alloc hT ob_).cell 3).trans rfl
      have z78 : ∀ ob_, (x2.alloc ob_).frozen? ⟨PT, 3, none⟩ = false := fun ob_ => (Blk.alloc hT ob_).frozen 3
      have z79 : x2.cell? ⟨PT, 4, none⟩ = some (.slice (some ⟨w.heap.size, 0, none⟩) 1 1) := (hT.cell 4).trans rfl
      have z80 := hT.frozen 4
      have z81 : ∀ ob_, (x2.alloc ob_).cell? ⟨PT, 4, none⟩ = some (.slice (some ⟨w.heap.size, 0, none⟩) 1 1) := fun ob_ => ((Blk.alloc hT ob_).cell 4).trans rfl
      have z82 : ∀ ob_, (x2.alloc ob_).frozen? ⟨PT, 4, none⟩ = false := fun ob_ => (Blk.alloc hT ob_).frozen 4
      have z83 : x2.cell? ⟨PT, 5, none⟩ = some (.int .i64 2) := (hT.cell 5).trans rfl
      have z84 := hT.frozen 5
      have z85 : ∀ ob_, (x2.alloc ob_).cell? ⟨PT, 5, none⟩ = some (.int .i64 2) := fun ob_ => ((Blk.alloc hT ob_).cell 5).trans rfl
      have z86 : ∀ ob_, (x2.alloc ob_).frozen? ⟨PT, 5, none⟩ = false := fun ob_ => (Blk.alloc hT ob_).frozen 5
      have z87 : x2.cell? ⟨PT, 6, none⟩ = some (.slice (some ⟨w.heap.size + 1, 0, none⟩) 200001 200001) := (hT.cell 6).trans rfl
      have z88 := hT.frozen 6
      have z89 : ∀ ob_, (x2.alloc ob_).cell? ⟨PT, 6, none⟩ = some (.slice (some ⟨w.heap.size + 1, 0, none⟩) 200001 200001) := fun ob_ => ((Blk.alloc hT ob_).cell 6).trans rfl
      have z90 : ∀ ob_, (x2.alloc ob_).frozen? ⟨PT, 6, none⟩ = false := fun ob_ => (Blk.alloc hT ob_).frozen 6
      have z91 : x2.cell? ⟨PT, 7, none⟩ = some (.int .i64 0) := (hT.cell 7).trans rfl
      have z92 := hT.frozen 7
      have z93 : ∀ ob_, (x2.alloc ob_).cell? ⟨PT, 7, none⟩ = some (.int .i64 0) := fun ob_ => ((Blk.alloc hT ob_).cell 7).trans rfl
      have z94 : ∀ ob_, (x2.alloc ob_).frozen? ⟨PT, 7, none⟩ = false := fun ob_ => (Blk.alloc hT ob_).frozen 7
      have z95 : x2.cell? ⟨PT, 8, none⟩ = some (.slice none 0 0) := (hT.cell 8).trans rfl
      have z96 := hT.frozen 8
      have z97 : ∀ ob_, (x2.alloc ob_).cell? ⟨PT, 8, none⟩ = some (.slice none 0 0) := fun ob_ => ((Blk.alloc hT ob_).cell 8).trans rfl
      have z98 : ∀ ob_, (x2.alloc ob_).frozen? ⟨PT, 8, none⟩ = false := fun ob_ => (Blk.alloc hT ob_).frozen 8
      have z99 : x2.cell? ⟨PT, 9, none⟩ = some (.int .i64 9223372036854775807) := (hT.cell 9).trans rfl
      have z100 := hT.frozen 9
      have z101 : ∀ ob_, (x2.alloc ob_).cell? ⟨PT, 9, none⟩ = some (.int .i64 9223372036854775807) := fun ob_ => ((Blk.alloc hT ob_).cell 9).trans rfl
      have z102 : ∀ ob_, (x2.alloc ob_).frozen? ⟨PT, 9, none⟩ = false := fun ob_ => (Blk.alloc hT ob_).frozen 9
      have z103 := hT.lt
      go_wp2_with fail
      refine (unvaryBad (some ⟨w.heap.size, 0, none⟩) 1 1 [1] 2 0 (by omega) (by omega) _ (HR1.out.mv (by have hs_ := hC.size; repeat (first | with_reducible exact hC | with_reducible (refine Below.setCell ?_ (by simp <;> omega) _) | with_reducible (refine Below.alloc ?_ (by first | exact hs_ | (simp <;> omega)) _) | with_reducible (refine Below.drew ?_)))) (by omega) 8 (ck_uv HCK.out) (by omega)).mono ?_
      rintro e x3 ⟨rfl, bB⟩
      replace hT := Blk.via0 (g := PT) (t := 33) bB (by repeat (first | with_reducible exact hT | with_reducible (apply Blk.set_) | with_reducible (apply Blk.far; case hp => (simp <;> omega)) | with_reducible (apply Blk.alloc) | with_reducible (apply Blk.drew)))
      replace hT : Blk x3 PT 33 #[.slice none 0 0, .int .i64 1, .slice none 0 0, .int .i64 (-1), .slice (some ⟨w.heap.size, 0, none⟩) 1 1, .int .i64 2, .slice (some ⟨w.heap.size + 1, 0, none⟩) 200001 200001, .int .i64 0, .slice none 0 0, .int .i64 9223372036854775807] := hT
      replace hC := Below.via (w := wr) (by have hs_ := hC.size; repeat (first | with_reducible exact hC | with_reducible (refine Below.setCell ?_ (by simp <;> omega) _) | with_reducible (refine Below.alloc ?_ (by first | exact hs_ | (simp <;> omega)) _) | with_reducible (refine Below.drew ?_))) bB
      replace hB := Below.via (w := w) (by have hs_ := hB.size; repeat (first | with_reducible exact hB | with_reducible (refine Below.setCell ?_ (by simp <;> omega) _) | with_reducible (refine Below.alloc ?_ (by first | exact hs_ | (simp <;> omega)) _) | with_reducible (refine Below.drew ?_))) bB
      clear z63 z64 z65 z66 z67 z68 z69 z70 z71 z72 z73 z74 z75 z76 z77 z78 z79 z80 z81 z82 z83 z84 z85 z86 z87 z88 z89 z90 z91 z92 z93 z94 z95 z96 z97 z98 z99 z100 z101 z102 z103
      clear bB
      have z104 : x3.cell? ⟨PT, 0, none⟩ = some (.slice none 0 0) := (hT.cell 0).trans rfl
      have z105 := hT.frozen 0
      have z106 : ∀ ob_, (x3.alloc ob_).cell? ⟨PT, 0, none⟩ = some (.slice none 0 0) := fun ob_ => ((Blk.alloc hT ob_).cell 0).trans rfl
      have z107 : ∀ ob_, (x3.alloc ob_).frozen? ⟨PT, 0, none⟩ = false := fun ob_ => (Blk.alloc hT ob_).frozen 0
      have z108 : x3.cell? ⟨PT, 1, none⟩ = some (.int .i64 1) := (hT.cell 1).trans rfl
      have z109 := hT.frozen 1
      have z110 : ∀ ob_, (x3.alloc ob_).cell? ⟨PT, 1, none⟩ = some (.int .i64 1) := fun ob_ => ((Blk.alloc hT ob_).cell 1).trans rfl
      have z111 : ∀ ob_, (x3.alloc ob_).frozen? ⟨PT, 1, none⟩ = false := fun ob_ => (Blk.alloc hT ob_).frozen 1
      have z112 : x3.cell? ⟨PT, 2, none⟩ = some (.slice none 0 0) := (hT.cell 2).trans rfl
      have z113 := hT.frozen 2
      have z114 : ∀ ob_, (x3.alloc ob_).cell? ⟨PT, 2, none⟩ = some (.slice none 0 0) := fun ob_ => ((Blk.alloc hT ob_).cell 2).trans rfl
      have z115 : ∀ ob_, (x3.alloc ob_).frozen? ⟨PT, 2, none⟩ = false := fun ob_ => (Blk.alloc hT ob_).frozen 2
      have z116 : x3.cell? ⟨PT, 3, none⟩ = some (.int .i64 (-1)) := (hT.cell 3).trans rfl
      have z117 := hT.frozen 3
      have z118 : ∀ ob_, (x3.alloc ob_).cell? ⟨PT, 3, none⟩ = some (.int .i64 (-1)) := fun ob_ => ((Blk.alloc hT ob_).cell 3).trans rfl
      have z119 : ∀ ob_, (x3.alloc ob_).frozen? ⟨PT, 3, none⟩ = false := fun ob_ => (Blk.alloc hT ob_).frozen 3
      have z120 : x3.cell? ⟨PT, 4, none⟩ = some (.slice (some ⟨w.heap.size, 0, none⟩) 1 1) := (hT.cell 4).trans rfl
      have z121 := hT.frozen 4
      have z122 : ∀ ob_, (x3.alloc ob_).cell? ⟨PT, 4, none⟩ = some (.slice (some ⟨w.heap.size, 0, none⟩) 1 1) := fun ob_ => ((Blk.alloc hT ob_).cell 4).trans rfl
      have z123 : ∀ ob_, (x3.alloc ob_).frozen? ⟨PT, 4, none⟩ = false := fun ob_ => (Blk.alloc hT ob_).frozen 4
      have z124 : x3.cell? ⟨PT, 5, none⟩ = some (.int .i64 2) := (hT.cell 5).trans rfl
      have z125 := hT.frozen 5
      have z126 : ∀ ob_, (x3.alloc ob_).cell? ⟨PT, 5, none⟩ = some (.int .i64 2) := fun ob_ => ((Blk.alloc hT ob_).cell 5).trans rfl
      have z127 : ∀ ob_, (x3.alloc ob_).frozen? ⟨PT, 5, none⟩ = false := fun ob_ => (Blk.alloc hT ob_).frozen 5
      have z128 : x3.cell? ⟨PT, 6, none⟩ = some (.slice (some ⟨w.heap.size + 1, 0, none⟩) 200001 200001) := (hT.cell 6).trans rfl
      have z129 := hT.frozen 6
      have z130 : ∀ ob_, (x3.alloc ob_).cell? ⟨PT, 6, none⟩ = some (.slice (some ⟨w.heap.size + 1, 0, none⟩) 200001 200001) := fun ob_ => ((Blk.alloc hT ob_).cell 6).trans rfl
      have z131 : ∀ ob_, (x3.alloc ob_).frozen? ⟨PT, 6, none⟩ = false := fun ob_ => (Blk.alloc hT ob_).frozen 6
      have z132 : x3.cell? ⟨PT, 7, none⟩ = some (.int .i64 0) := (hT.cell 7).trans rfl
      have z133 := hT.frozen 7
      have z134 : ∀ ob_, (x3.alloc ob_).cell? ⟨PT, 7, none⟩ = some (.int .i64 0) := fun ob_ => ((Blk.alloc hT ob_).cell 7).trans rfl
      have z135 : ∀ ob_, (x3.alloc ob_).frozen? ⟨PT, 7, none⟩ = false := fun ob_ => (Blk.alloc hT ob_).frozen 7
      have z136 : x3.cell? ⟨PT, 8, none⟩ = some (.slice none 0 0) := (hT.cell 8).trans rfl
      have z137 := hT.frozen 8
      have z138 : ∀ ob_, (x3.alloc ob_).cell? ⟨PT, 8, none⟩ = some (.slice none 0 0) := fun ob_ => ((Blk.alloc hT ob_).cell 8).trans rfl
      have z139 : ∀ ob_, (x3.alloc ob_).frozen? ⟨PT, 8, none⟩ = false := fun ob_ => (Blk.alloc hT ob_).frozen 8
      have z140 : x3.cell? ⟨PT, 9, none⟩ = some (.int .i64 9223372036854775807) := (hT.cell 9).trans rfl
      have z141 := hT.frozen 9
      have z142 : ∀ ob_, (x3.alloc ob_).cell? ⟨PT, 9, none⟩ = some (.int .i64 9223372036854775807) := fun ob_ => ((Blk.alloc hT ob_).cell 9).trans rfl
      have z143 : ∀ ob_, (x3.alloc ob_).frozen? ⟨PT, 9, none⟩ = false := fun ob_ => (Blk.alloc hT ob_).frozen 9
      have z144 := hT.lt
      go_wp2_with fail
      refine (unsignedBad (some ⟨w.heap.size, 0, none⟩) 1 1 [1] 2 (by omega) _ (HR1.out.mv (by have hs_ := hC.size; repeat (first | with_reducible exact hC | with_reducible (refine Below.setCell ?_ (by simp <;> omega) _) | with_reducible (refine Below.alloc ?_ (by first | exact hs_ | (simp <;> omega)) _) | with_reducible (refine Below.drew ?_)))) (by omega) 8 (ck_uv HCK.out) (by omega)).mono ?_
      rintro e x4 ⟨rfl, bB⟩
      replace hT := Blk.via0 (g := PT) (t := 33) bB (by repeat (first | with_reducible exact hT | with_reducible (apply Blk.set_) | with_reducible (apply Blk.far; case hp => (simp <;> omega)) | with_reducible (apply Blk.alloc) | with_reducible (apply Blk.drew)))
      replace hT : Blk x4 PT 33 #[.slice none 0 0, .int .i64 1, .slice none 0 0, .int .i64 (-1), .slice (some ⟨w.heap.size, 0, none⟩) 1 1, .int .i64 2, .slice (some ⟨w.heap.size + 1, 0, none⟩) 200001 200001, .int .i64 0, .slice none 0 0, .int .i64 9223372036854775807] := hT
      replace hC := Below.via (w := wr) (by have hs_ := hC.size; repeat (first | with_reducible exact hC | with_reducible (refine Below.setCell ?_ (by simp <;> omega) _) | with_reducible (refine Below.alloc ?_ (by first | exact hs_ | (simp <;> omega)) _) | with_reducible (refine Below.drew ?_))) bB
      replace hB := Below.via (w := w) (by have hs_ := hB.size; repeat (first | with_reducible exact hB | with_reducible (refine Below.setCell ?_ (by simp <;> omega) _) | with_reducible (refine Below.alloc ?_ (by first | exact hs_ | (simp <;> omega)) _) | with_reducible (refine Below.drew ?_))) bB
      clear z104 z105 z106 z107 z108 z109 z110 z111 z112 z113 z114 z115 z116 z117 z118 z119 z120 z121 z122 z123 z124 z125 z126 z127 z128 z129 z130 z131 z132 z133 z134 z135 z136 z137 z138 z139 z140 z141 z142 z143 z144
      clear bB
      have z145 : x4.cell? ⟨PT, 0, none⟩ = some (.slice none 0 0) := (hT.cell 0).trans rfl
      have z146 := hT.frozen 0
      have z147 : ∀ ob_, (x4.alloc ob_).cell? ⟨PT, 0, none⟩ = some (.slice none 0 0) := fun ob_ => ((Blk.alloc hT ob_).cell 0).trans rfl
      have z148 : ∀ ob_, (x4.alloc ob_).frozen? ⟨PT, 0, none⟩ = false := fun ob_ => (Blk.alloc hT ob_).frozen 0
      have z149 : x4.cell? ⟨PT, 1, none⟩ = some (.int .i64 1) := (hT.cell 1).trans rfl
      have z150 := hT.frozen 1
      have z151 : ∀ ob_, (x4.alloc ob_).cell? ⟨PT, 1, none⟩ = some (.int .i64 1) := fun ob_ => ((Blk.alloc hT ob_).cell 1).trans rfl
      have z152 : ∀ ob_, (x4.alloc ob_).frozen? ⟨PT, 1, none⟩ = false := fun ob_ => (Blk.alloc hT ob_).frozen 1
      have z153 : x4.cell? ⟨PT, 2, none⟩ = some (.slice none 0 0) := (hT.cell 2).trans rfl
      have z154 := hT.frozen 2
      have z155 : ∀ ob_, (x4.alloc ob_).cell? ⟨PT, 2, none⟩ = some (.slice none 0 0) := fun ob_ => ((Blk.alloc hT ob_).cell 2).trans rfl
      have z156 : ∀ ob_, (x4.alloc ob_).frozen? ⟨PT, 2, none⟩ = false := fun ob_ => (Blk.alloc hT ob_).frozen 2
      have z157 : x4.cell? ⟨PT, 3, none⟩ = some (.int .i64 (-1)) := (hT.cell 3).trans rfl
      have z158 := hT.frozen 3
      have z159 : ∀ ob_, (x4.alloc ob_).cell? ⟨PT, 3, none⟩ = some (.int .i64 (-1)) := fun ob_ => ((Blk.alloc hT ob_).cell 3).trans rfl
      have z160 : ∀ ob_, (x4.alloc ob_).frozen? ⟨PT, 3, none⟩ = false := fun ob_ => (Blk.alloc hT ob_).frozen 3
      have z161 : x4.cell? ⟨PT, 4, none⟩ = some (.slice (some ⟨w.heap.size, 0, none⟩) 1 1) := (hT.cell 4).trans rfl
      have z162 := hT.frozen 4
      have z163 : ∀ ob_, (x4.alloc ob_).cell? ⟨PT, 4, none⟩ = some (.slice (some ⟨w.heap.size, 0, none⟩) 1 1) := fun ob_ => ((Blk.alloc hT ob_).cell 4).trans rfl
      have z164 : ∀ ob_, (x4.alloc ob_).frozen? ⟨PT, 4, none⟩ = false := fun ob_ => (Blk.alloc hT ob_).frozen 4
      have z165 : x4.cell? ⟨PT, 5, none⟩ = some (.int .i64 2) := (hT.cell 5).trans rfl
      have z166 := hT.frozen 5
      have z167 : ∀ ob_, (x4.alloc ob_).cell? ⟨PT, 5, none⟩ = some (.int .i64 2) := fun ob_ => ((Blk.alloc hT ob_).cell 5).trans rfl
      have z168 : ∀ ob_, (x4.alloc ob_).frozen? ⟨PT, 5, none⟩ = false := fun ob_ => (Blk.alloc hT ob_).frozen 5
      have z169 : x4.cell? ⟨PT, 6, none⟩ = some (.slice (some ⟨w.heap.size + 1, 0, none⟩) 200001 200001) := (hT.cell 6).trans rfl
      have z170 := hT.frozen 6
      have z171 : ∀ ob_, (x4.alloc ob_).cell? ⟨PT, 6, none⟩ = some (.slice (some ⟨w.heap.size + 1, 0, none⟩) 200001 200001) := fun ob_ => ((Blk.alloc hT ob_).cell 6).trans rfl
      have z172 : ∀ ob_, (x4.alloc ob_).frozen? ⟨PT, 6, none⟩ = false := fun ob_ => (Blk.alloc hT ob_).frozen 6
      have z173 : x4.cell? ⟨PT, 7, none⟩ = some (.int .i64 0) := (hT.cell 7).trans rfl
      have z174 := hT.frozen 7
      have z175 : ∀ ob_, (x4.alloc ob_).cell? ⟨PT, 7, none⟩ = some (.int .i64 0) := fun ob_ => ((Blk.alloc hT ob_).cell 7).trans rfl
      have z176 : ∀ ob_, (x4.alloc ob_).frozen? ⟨PT, 7, none⟩ = false := fun ob_ => (Blk.alloc hT ob_).frozen 7
      have z177 : x4.cell? ⟨PT, 8, none⟩ = some (.slice none 0 0) := (hT.cell 8).trans rfl
      have z178 := hT.frozen 8
      have z179 : ∀ ob_, (x4.alloc ob_).cell? ⟨PT, 8, none⟩ = some (.slice none 0 0) := fun ob_ => ((Blk.alloc hT ob_).cell 8).trans rfl
      have z180 : ∀ ob_, (x4.alloc ob_).frozen? ⟨PT, 8, none⟩ = false := fun ob_ => (Blk.alloc hT ob_).frozen 8
      have z181 : x4.cell? ⟨PT, 9, none⟩ = some (.int .i64 9223372036854775807) := (hT.cell 9).trans rfl
      have z182 := hT.frozen 9
      have z183 : ∀ ob_, (x4.alloc ob_).cell? ⟨PT, 9, none⟩ = some (.int .i64 9223372036854775807) := fun ob_ => ((Blk.alloc hT ob_).cell 9).trans rfl
      have z184 : ∀ ob_, (x4.alloc ob_).frozen? ⟨PT, 9, none⟩ = false := fun ob_ => (Blk.alloc hT ob_).frozen 9
      have z185 := hT.lt
      go_wp2_with fail
      refine (untextBad (some ⟨w.heap.size, 0, none⟩) 1 1 [1] 2 (-1) (by omega) (by omega) _ (HR1.out.mv (by have hs_ := hC.size; repeat (first | with_reducible exact hC | with_reducible (refine Below.setCell ?_ (by simp <;> omega) _) | with_reducible (refine Below.alloc ?_ (by first | exact hs_ | (simp <;> omega)) _) | with_reducible (refine Below.drew ?_)))) (by omega) 8 (ck_ut HCK.out) (by omega)).mono ?_
      rintro e x5 ⟨rfl, bB⟩
      replace hT := Blk.via0 (g := PT) (t := 33) bB (by repeat (first | with_reducible exact hT | with_reducible (apply Blk.set_) | with_reducible (apply Blk.far; case hp => (simp <;> omega)) | with_reducible (apply Blk.alloc) | with_reducible (apply Blk.drew)))
      replace hT : Blk x5 PT 33 #[.slice none 0 0, .int .i64 1, .slice none 0 0, .int .i64 (-1), .slice (some ⟨w.heap.size, 0, none⟩) 1 1, .int .i64 2, .slice (some ⟨w.heap.size + 1, 0, none⟩) 200001 200001, .int .i64 0, .slice none 0 0, .int .i64 9223372036854775807] := hT
      replace hC := Below.via (w := wr) (by have hs_ := hC.size; repeat (first | with_reducible exact hC | with_reducible (refine Below.setCell ?_ (by simp <;> omega) _) | with_reducible (refine Below.alloc ?_ (by first | exact hs_ | (simp <;> omega)) _) | with_reducible (refine Below.drew ?_))) bB
      replace hB := Below.via (w := w) (by have hs_ := hB.size; repeat (first | with_reducible exact hB | with_reducible (refine Below.setCell ?_ (by simp <;> omega) _) | with_reducible (refine Below.alloc ?_ (by first | exact hs_ | (simp <;> omega)) _) | with_reducible (refine Below.drew ?_))) bB
      clear z145 z146 z147 z148 z149 z150 z151 z152 z153 z154 z155 z156 z157 z158 z159 z160 z161 z162 z163 z164 z165 z166 z167 z168 z169 z170 z171 z172 z173 z174 z175 z176 z177 z178 z179 z180 z181 z182 z183 z184 z185
      clear bB
      have z186 : x5.cell? ⟨PT, 0, none⟩ = some (.slice none 0 0) := (hT.cell 0).trans rfl
      have z187 := hT.frozen 0
      have z188 : ∀ ob_, (x5.alloc ob_).cell? ⟨PT, 0, none⟩ = some (.slice none 0 0) := fun ob_ => ((Blk.alloc hT ob_).cell 0).trans rfl
      have z189 : ∀ ob_, (x5.alloc ob_).frozen? ⟨PT, 0, none⟩ = false := fun ob_ => (Blk.alloc hT ob_).frozen 0
      have z190 : x5.cell? ⟨PT, 1, none⟩ = some (.int .i64 1) := (hT.cell 1).trans rfl
      have z191 := hT.frozen 1
      have z192 : ∀ ob_, (x5.alloc ob_).cell? ⟨PT, 1, none⟩ = some (.int .i64 1) := fun ob_ => ((Blk.alloc hT ob_).cell 1).trans rfl
      have z193 : ∀ ob_, (x5.alloc ob_).frozen? ⟨PT, 1, none⟩ = false := fun ob_ => (Blk.alloc hT ob_).frozen 1
      have z194 : x5.cell? ⟨PT, 2, none⟩ = some (.slice none 0 0) := (hT.cell 2).trans rfl
      have z195 := hT.frozen 2
      have z196 : ∀ ob_, (x5.alloc ob_).cell? ⟨PT, 2, none⟩ = some (.slice none 0 0) := fun ob_ => ((Blk.alloc hT ob_).cell 2).trans rfl
      have z197 : ∀ ob_, (x5.alloc ob_).frozen? ⟨PT, 2, none⟩ = false := fun ob_ => (Blk.alloc hT ob_).frozen 2
      have z198 : x5.cell? ⟨PT, 3, none⟩ = some (.int .i64 (-1)) := (hT.cell 3).trans rfl
      have z199 := hT.frozen 3
      have z200 : ∀ ob_, (x5.alloc ob_).cell? ⟨PT, 3, none⟩ = some (.int .i64 (-1)) := fun ob_ => ((Blk.alloc hT ob_).cell 3).trans rfl
      have z201 : ∀ ob_, (x5.alloc ob_).frozen? ⟨PT, 3, none⟩ = false := fun ob_ => (Blk.alloc hT ob_).frozen 3
      have z202 : x5.cell? ⟨PT, 4, none⟩ = some (.slice (some ⟨w.heap.size, 0, none⟩) 1 1) := (hT.cell 4).trans rfl
      have z203 := hT.frozen 4
      have z204 : ∀ ob_, (x5.alloc ob_).cell? ⟨PT, 4, none⟩ = some (.slice (some ⟨w.heap.size, 0, none⟩) 1 1) := fun ob_ => ((Blk.alloc hT ob_).cell 4).trans rfl
      have z205 : ∀ ob_, (x5.alloc ob_).frozen? ⟨PT, 4, none⟩ = false := fun ob_ => (Blk.alloc hT ob_).frozen 4
      have z206 : x5.cell? ⟨PT, 5, none⟩ = some (.int .i64 2) := (hT.cell 5).trans rfl
      have z207 := hT.frozen 5
      have z208 : ∀ ob_, (x5.alloc ob_).cell? ⟨PT, 5, none⟩ = some (.int .i64 2) := fun ob_ => ((Blk.alloc hT ob_).cell 5).trans rfl
      have z209 : ∀ ob_, (x5.alloc ob_).frozen? ⟨PT, 5, none⟩ = false := fun ob_ => (Blk.alloc hT ob_).frozen 5
      have z210 : x5.cell? ⟨PT, 6, none⟩ = some (.slice (some ⟨w.heap.size + 1, 0, none⟩) 200001 200001) := (hT.cell 6).trans rfl
      have z211 := hT.frozen 6
      have z212 : ∀ ob_, (x5.alloc ob_).cell? ⟨PT, 6, none⟩ = some (.slice (some ⟨w.heap.size + 1, 0, none⟩) 200001 200001) := fun ob_ => ((Blk.alloc hT ob_).cell 6).trans rfl
      have z213 : ∀ ob_, (x5.alloc ob_).frozen? ⟨PT, 6, none⟩ = false := fun ob_ => (Blk.alloc hT ob_).frozen 6
      have z214 : x5.cell? ⟨PT, 7, none⟩ = some (.int .i64 0) := (hT.cell 7).trans rfl
      have z215 := hT.frozen 7
      have z216 : ∀ ob_, (x5.alloc ob_).cell? ⟨PT, 7, none⟩ = some (.int .i64 0) := fun ob_ => ((Blk.alloc hT ob_).cell 7).trans rfl
      have z217 : ∀ ob_, (x5.alloc ob_).frozen? ⟨PT, 7, none⟩ = false := fun ob_ => (Blk.alloc hT ob_).frozen 7
      have z218 : x5.cell? ⟨PT, 8, none⟩ = some (.slice none 0 0) := (hT.cell 8).trans rfl
      have z219 := hT.frozen 8
      have z220 : ∀ ob_, (x5.alloc ob_).cell? ⟨PT, 8, none⟩ = some (.slice none 0 0) := fun ob_ => ((Blk.alloc hT ob_).cell 8).trans rfl
      have z221 : ∀ ob_, (x5.alloc ob_).frozen? ⟨PT, 8, none⟩ = false := fun ob_ => (Blk.alloc hT ob_).frozen 8
      have z222 : x5.cell? ⟨PT, 9, none⟩ = some (.int .i64 9223372036854775807) := (hT.cell 9).trans rfl
      have z223 := hT.frozen 9
      have z224 : ∀ ob_, (x5.alloc ob_).cell? ⟨PT, 9, none⟩ = some (.int .i64 9223372036854775807) := fun ob_ => ((Blk.alloc hT ob_).cell 9).trans rfl
      have z225 : ∀ ob_, (x5.alloc ob_).frozen? ⟨PT, 9, none⟩ = false := fun ob_ => (Blk.alloc hT ob_).frozen 9
      have z226 := hT.lt
      go_wp2_with fail
      go_roundw
      case rel => exact ⟨3, by omega, by go_num, (by repeat (first | with_reducible exact hT | with_reducible (apply Blk.set_) | with_reducible (apply Blk.far; case hp => (simp <;> omega)) | with_reducible (apply Blk.alloc) | with_reducible (apply Blk.drew))), HR1.out.mv (by have hs_ := hC.size; repeat (first | with_reducible exact hC | with_reducible (refine Below.setCell ?_ (by simp <;> omega) _) | with_reducible (refine Below.alloc ?_ (by first | exact hs_ | (simp <;> omega)) _) | with_reducible (refine Below.drew ?_))), HR2.out.mv (by have hs_ := hC.size; repeat (first | with_reducible exact hC | with_reducible (refine Below.setCell ?_ (by simp <;> omega) _) | with_reducible (refine Below.alloc ?_ (by first | exact hs_ | (simp <;> omega)) _) | with_reducible (refine Below.drew ?_))), (by have hs_ := hB.size; repeat (first | with_reducible exact hB | with_reducible (refine Below.setCell ?_ (by simp <;> omega) _) | with_reducible (refine Below.alloc ?_ (by first | exact hs_ | (simp <;> omega)) _) | with_reducible (refine Below.drew ?_)))⟩
      case measure => simp [intOf]
    · have hC := Below.refl wr.heap.size wr
      have hck : ckB Z.length 0 = false := by rw [hZl]; decide
      have HCK := Lib.hid hck
      clear hck
      have z1 : wr.cell? ⟨PT, 0, none⟩ = some (.slice none 0 0) := (hT.cell 0).trans rfl
      have z2 := hT.frozen 0
      have z3 : wr.cell? ⟨PT, 1, none⟩ = some (.int .i64 1) := (hT.cell 1).trans rfl
      have z4 := hT.frozen 1
      have z5 : wr.cell? ⟨PT, 2, none⟩ = some (.slice none 0 0) := (hT.cell 2).trans rfl
      have z6 := hT.frozen 2
      have z7 : wr.cell? ⟨PT, 3, none⟩ = some (.int .i64 (-1)) := (hT.cell 3).trans rfl
      have z8 := hT.frozen 3
      have z9 : wr.cell? ⟨PT, 4, none⟩ = some (.slice (some ⟨w.heap.size, 0, none⟩) 1 1) := (hT.cell 4).trans rfl
      have z10 := hT.frozen 4
      have z11 : wr.cell? ⟨PT, 5, none⟩ = some (.int .i64 2) := (hT.cell 5).trans rfl
      have z12 := hT.frozen 5
      have z13 : wr.cell? ⟨PT, 6, none⟩ = some (.slice (some ⟨w.heap.size + 1, 0, none⟩) 200001 200001) := (hT.cell 6).trans rfl
      have z14 := hT.frozen 6
      have z15 : wr.cell? ⟨PT, 7, none⟩ = some (.int .i64 0) := (hT.cell 7).trans rfl
      have z16 := hT.frozen 7
      have z17 : wr.cell? ⟨PT, 8, none⟩ = some (.slice none 0 0) := (hT.cell 8).trans rfl
      have z18 := hT.frozen 8
      have z19 : wr.cell? ⟨PT, 9, none⟩ = some (.int .i64 9223372036854775807) := (hT.cell 9).trans rfl
      have z20 := hT.frozen 9
      have z21 := hT.lt
      go_wp2_with fail
      refine (leftBad (some ⟨w.heap.size + 1, 0, none⟩) 200001 200001 0 (by omega) _ (by decide)).mono ?_
      rintro e x1 ⟨rfl, bB⟩
      replace hT := Blk.via0 (g := PT) (t := 33) bB (by repeat (first | with_reducible exact hT | with_reducible (apply Blk.set_) | with_reducible (apply Blk.far; case hp => (simp <;> omega)) | with_reducible (apply Blk.alloc) | with_reducible (apply Blk.drew)))
      replace hT : Blk x1 PT 33 #[.slice none 0 0, .int .i64 1, .slice none 0 0, .int .i64 (-1), .slice (some ⟨w.heap.size, 0, none⟩) 1 1, .int .i64 2, .slice (some ⟨w.heap.size + 1, 0, none⟩) 200001 200001, .int .i64 0, .slice none 0 0, .int .i64 9223372036854775807] := hT
      replace hC := Below.via (w := wr) (by have hs_ := hC.size; repeat (first | with_reducible exact hC | with_reducible (refine Below.setCell ?_ (by simp <;> omega) _) | with_reducible (refine Below.alloc ?_ (by first | exact hs_ | (simp <;> omega)) _) | with_reducible (refine Below.drew ?_))) bB
      replace hB := Below.via (w := w) (by have hs_ := hB.size; repeat (first | with_reducible exact hB | with_reducible (refine Below.setCell ?_ (by simp <;> omega) _) | with_reducible (refine Below.alloc ?_ (by first | exact hs_ | (simp <;> omega)) _) | with_reducible (refine Below.drew ?_))) bB
      clear z1 z2 z3 z4 z5 z6 z7 z8 z9 z10 z11 z12 z13 z14 z15 z16 z17 z18 z19 z20 z21
      clear bB
      have z22 : x1.cell? ⟨PT, 0, none⟩ = some (.slice none 0 0) := (hT.cell 0).trans rfl
      have z23 := hT.frozen 0
      have z24 : ∀ ob_, (x1.alloc ob_).cell? ⟨PT, 0, none⟩ = some (.slice none 0 0) := fun ob_ => ((Blk.alloc hT ob_).cell 0).trans rfl
      have z25 : ∀ ob_, (x1.alloc ob_).frozen? ⟨PT, 0, none⟩ = false := fun ob_ => (Blk.alloc hT ob_).frozen 0
      have z26 : x1.cell? ⟨PT, 1, none⟩ = some (.int .i64 1) := (hT.cell 1).trans rfl
      have z27 := hT.frozen 1
      have z28 : ∀ ob_, (x1.alloc ob_).cell? ⟨PT, 1, none⟩ = some (.int .i64 1) := fun ob_ => ((Blk.alloc hT ob_).cell 1).trans rfl
      have z29 : ∀ ob_, (x1.alloc ob_).frozen? ⟨PT, 1, none⟩ = false := fun ob_ => (Blk.alloc hT ob_).frozen 1
      have z30 : x1.cell? ⟨PT, 2, none⟩ = some (.slice none 0 0) := (hT.cell 2).trans rfl
      have z31 := hT.frozen 2
      have z32 : ∀ ob_, (x1.alloc ob_).cell? ⟨PT, 2, none⟩ = some (.slice none 0 0) := fun ob_ => ((Blk.alloc hT ob_).cell 2).trans rfl
      have z33 : ∀ ob_, (x1.alloc ob_).frozen? ⟨PT, 2, none⟩ = false := fun ob_ => (Blk.alloc hT ob_).frozen 2
      have z34 : x1.cell? ⟨PT, 3, none⟩ = some (.int .i64 (-1)) := (hT.cell 3).trans rfl
      have z35 := hT.frozen 3
      have z36 : ∀ ob_, (x1.alloc ob_).cell? ⟨PT, 3, none⟩ = some (.int .i64 (-1)) := fun ob_ => ((Blk.alloc hT ob_).cell 3).trans rfl
      have z37 : ∀ ob_, (x1.alloc ob_).frozen? ⟨PT, 3, none⟩ = false := fun ob_ => (Blk.alloc hT ob_).frozen 3
      have z38 : x1.cell? ⟨PT, 4, none⟩ = some (.slice (some ⟨w.heap.size, 0, none⟩) 1 1) := (hT.cell 4).trans rfl
      have z39 := hT.frozen 4
      have z40 : ∀ ob_, (x1.alloc ob_).cell? ⟨PT, 4, none⟩ = some (.slice (some ⟨w.heap.size, 0, none⟩) 1 1) := fun ob_ => ((Blk.alloc hT ob_).cell 4).trans rfl
      have z41 : ∀ ob_, (x1.alloc ob_).frozen? ⟨PT, 4, none⟩ = false := fun ob_ => (Blk.alloc hT ob_).frozen 4
      have z42 : x1.cell? ⟨PT, 5, none⟩ = some (.int .i64 2) := (hT.cell 5).trans rfl
      have z43 := hT.frozen 5
      have z44 : ∀ ob_, (x1.alloc ob_).cell? ⟨PT, 5, none⟩ = some (.int .i64 2) := fun ob_ => ((Blk.alloc hT ob_).cell 5).trans rfl
      have z45 : ∀ ob_, (x1.alloc ob_).frozen? ⟨PT, 5, none⟩ = false := fun ob_ => (Blk.alloc hT ob_).frozen 5
      have z46 : x1.cell? ⟨PT, 6, none⟩ = some (.slice (some ⟨w.heap.size + 1, 0, none⟩) 200001 200001) := (hT.cell 6).trans rfl
      have z47 := hT.frozen 6
      have z48 : ∀ ob_, (x1.alloc ob_).cell? ⟨PT, 6, none⟩ = some (.slice (some ⟨w.heap.size + 1, 0, none⟩) 200001 200001) := fun ob_ => ((Blk.alloc hT ob_).cell 6).trans rfl
      have z49 : ∀ ob_, (x1.alloc ob_).frozen? ⟨PT, 6, none⟩ = false := fun ob_ => (Blk.alloc hT ob_).frozen 6
      have z50 : x1.cell? ⟨PT, 7, none⟩ = some (.int .i64 0) := (hT.cell 7).trans rfl
      have z51 := hT.frozen 7
      have z52 : ∀ ob_, (x1.alloc ob_).cell? ⟨PT, 7, none⟩ = some (.int .i64 0) := fun ob_ => ((Blk.alloc hT ob_).cell 7).trans rfl
      have z53 : ∀ ob_, (x1.alloc ob_).frozen? ⟨PT, 7, none⟩ = false := fun ob_ => (Blk.alloc hT ob_).frozen 7
      have z54 : x1.cell? ⟨PT, 8, none⟩ = some (.slice none 0 0) := (hT.cell 8).trans rfl
      have z55 := hT.frozen 8
      have z56 : ∀ ob_, (x1.alloc ob_).cell? ⟨PT, 8, none⟩ = some (.slice none 0 0) := fun ob_ => ((Blk.alloc hT ob_).cell 8).trans rfl
      have z57 : ∀ ob_, (x1.alloc ob_).frozen? ⟨PT, 8, none⟩ = false := fun ob_ => (Blk.alloc hT ob_).frozen 8
      have z58 : x1.cell? ⟨PT, 9, none⟩ = some (.int .i64 9223372036854775807) := (hT.cell 9).trans rfl
      have z59 := hT.frozen 9
      have z60 : ∀ ob_, (x1.alloc ob_).cell? ⟨PT, 9, none⟩ = some (.int .i64 9223372036854775807) := fun ob_ => ((Blk.alloc hT ob_).cell 9).trans rfl
      have z61 : ∀ ob_, (x1.alloc ob_).frozen? ⟨PT, 9, none⟩ = false := fun ob_ => (Blk.alloc hT ob_).frozen 9
      have z62 := hT.lt
      go_wp2_with fail
      refine (unfixedBad (some ⟨w.heap.size + 1, 0, none⟩) 200001 200001 Z 0 3 (by omega) (by omega) _ (HR2.out.mv (by have hs_ := hC.size; repeat (first | with_reducible exact hC | with_reducible (refine Below.setCell ?_ (by simp <;> omega) _) | with_reducible (refine Below.alloc ?_ (by first | exact hs_ | (simp <;> omega)) _) | with_reducible (refine Below.drew ?_)))) (by omega) 8 (ck_uf HCK.out) (by omega)).mono ?_
      rintro e x2 ⟨rfl, bB⟩
      replace hT := Blk.via0 (g := PT) (t := 33) bB (by repeat (first | with_reducible exact hT | with_reducible (apply Blk.set_) | with_reducible (apply Blk.far; case hp => (simp <;> omega)) | with_reducible (apply Blk.alloc) | with_reducible (apply Blk.drew)))
      replace hT : Blk x2 PT 33 #[.slice none 0 0, .int .i64 1, .slice none 0 0, .int .i64 (-1), .slice (some ⟨w.heap.size, 0, none⟩) 1 1, .int .i64 2, .slice (some ⟨w.heap.size + 1, 0, none⟩) 200001 200001, .int .i64 0, .slice none 0 0, .int .i64 9223372036854775807] := hT
      replace hC := Below.via (w := wr) (by have hs_ := hC.size; repeat (first | with_reducible exact hC | with_reducible (refine Below.setCell ?_ (by simp <;> omega) _) | with_reducible (refine Below.alloc ?_ (by first | exact hs_ | (simp <;> omega)) _) | with_reducible (refine Below.drew ?_))) bB
      replace hB := Below.via (w := w) (by have hs_ := hB.size; repeat (first | with_reducible exact hB | with_reducible (refine Below.setCell ?_ (by simp <;> omega) _) | with_reducible (refine Below.alloc ?_ (by first | exact hs_ | (simp <;> omega)) _) | with_reducible (refine Below.drew ?_))) bB
      clear z22 z23 z24 z25 z26 z27 z28 z29 z30 z31 z32 z33 z34 z35 z36 z37 z38 z39 z40 z41 z42 z43 z44 z45 z46 z47 z48 z49 z50 z51 z52 z53 z54 z55 z56 z57 z58 z59 z60 z61 z62
      clear bB
      have z63 : x2.cell? ⟨PT, 0, none⟩ = some (.slice none 0 0) := (hT.cell 0).trans rfl
      have z64 := hT.frozen 0
      have z65 : ∀ ob_, (x2.alloc ob_).cell? ⟨PT, 0, none⟩ = some (.slice none 0 0) := fun ob_ => ((Blk.alloc hT ob_).cell 0).trans rfl
      have z66 : ∀ ob_, (x2.alloc ob_).frozen? ⟨PT, 0, none⟩ = false := fun ob_ => (Blk.alloc hT ob_).frozen 0
      have z67 : x2.cell? ⟨PT, 1, none⟩ = some (.int .i64 1) := (hT.cell 1).trans rfl
      have z68 := hT.frozen 1
      have z69 : ∀ ob_, (x2.alloc ob_).cell? ⟨PT, 1, none⟩ = some (.int .i64 1) := fun ob_ => ((Blk.alloc hT ob_).cell 1).trans rfl
      have z70 : ∀ ob_, (x2.alloc ob_).frozen? ⟨PT, 1, none⟩ = false := fun ob_ => (Blk.alloc hT ob_).frozen 1
      have z71 : x2.cell? ⟨PT, 2, none⟩ = some (.slice none 0 0) := (hT.cell 2).trans rfl
      have z72 := hT.frozen 2
      have z73 : ∀ ob_, (x2.alloc ob_).cell? ⟨PT, 2, none⟩ = some (.slice none 0 0) := fun ob_ => ((Blk.alloc hT ob_).cell 2).trans rfl
      have z74 : ∀ ob_, (x2.alloc ob_).frozen? ⟨PT, 2, none⟩ = false := fun ob_ => (Blk.alloc hT ob_).frozen 2
      have z75 : x2.cell? ⟨PT, 3, none⟩ = some (.int .i64 (-1)) := (hT.cell 3).trans rfl
      have z76 := hT.frozen 3
      have z77 : ∀ ob_, (x2.alloc ob_).cell? ⟨PT, 3, none⟩ = some (.int .i64 (-1)) := fun ob_ => ((Blk.alloc hT ob_).cell 3).trans rfl
      have z78 : ∀ ob_, (x2.alloc ob_).frozen? ⟨PT, 3, none⟩ = false := fun ob_ => (Blk.alloc hT ob_).frozen 3
      have z79 : x2.cell? ⟨PT, 4, none⟩ = some (.slice (some ⟨w.heap.size, 0, none⟩) 1 1) := (hT.cell 4).trans rfl
      have z80 := hT.frozen 4
      have z81 : ∀ ob_, (x2.alloc ob_).cell? ⟨PT, 4, none⟩ = some (.slice (some ⟨w.heap.size, 0, none⟩) 1 1) := fun ob_ => ((Blk.alloc hT ob_).cell 4).trans rfl
      have z82 : ∀ ob_, (x2.alloc ob_).frozen? ⟨PT, 4, none⟩ = false := fun ob_ => (Blk.alloc hT ob_).frozen 4
      have z83 : x2.cell? ⟨PT, 5, none⟩ = some (.int .i64 2) := (hT.cell 5).trans rfl
      have z84 := hT.frozen 5
      have z85 : ∀ ob_, (x2.alloc ob_).cell? ⟨PT, 5, none⟩ = some (.int .i64 2) := fun ob_ => ((Blk.alloc hT ob_).cell 5).trans rfl
      have z86 : ∀ ob_, (x2.alloc ob_).frozen? ⟨PT, 5, none⟩ = false := fun ob_ => (Blk.alloc hT ob_).frozen 5
      have z87 : x2.cell? ⟨PT, 6, none⟩ = some (.slice (some ⟨w.heap.size + 1, 0, none⟩) 200001 200001) := (hT.cell 6).trans rfl
      have z88 := hT.frozen 6
      have z89 : ∀ ob_, (x2.alloc ob_).cell? ⟨PT, 6, none⟩ = some (.slice (some ⟨w.heap.size + 1, 0, none⟩) 200001 200001) := fun ob_ => ((Blk.alloc hT ob_).cell 6).trans rfl
      have z90 : ∀ ob_, (x2.alloc ob_).frozen? ⟨PT, 6, none⟩ = false := fun ob_ => (Blk.alloc hT ob_).frozen 6
      have z91 : x2.cell? ⟨PT, 7, none⟩ = some (.int .i64 0) := (hT.cell 7).trans rfl
      have z92 := hT.frozen 7
      have z93 : ∀ ob_, (x2.alloc ob_).cell? ⟨PT, 7, none⟩ = some (.int .i64 0) := fun ob_ => ((Blk.alloc hT ob_).cell 7).trans rfl
      have z94 : ∀ ob_, (x2.alloc ob_).frozen? ⟨PT, 7, none⟩ = false := fun ob_ => (Blk.alloc hT ob_).frozen 7
      have z95 : x2.cell? ⟨PT, 8, none⟩ = some (.slice none 0 0) := (hT.cell 8).trans rfl
      have z96 := hT.frozen 8
      have z97 : ∀ ob_, (x2.alloc ob_).cell? ⟨PT, 8, none⟩ = some (.slice none 0 0) := fun ob_ => ((Blk.alloc hT ob_).cell 8).trans rfl
      have z98 : ∀ ob_, (x2.alloc ob_).frozen? ⟨PT, 8, none⟩ = false := fun ob_ => (Blk.alloc hT ob_).frozen 8
      have z99 : x2.cell? ⟨PT, 9, none⟩ = some (.int .i64 9223372036854775807) := (hT.cell 9).trans rfl
      have z100 := hT.frozen 9
      have z101 : ∀ ob_, (x2.alloc ob_).cell? ⟨PT, 9, none⟩ = some (.int .i64 9223372036854775807) := fun ob_ => ((Blk.alloc hT ob_).cell 9).trans rfl
      have z102 : ∀ ob_, (x2.alloc ob_).frozen? ⟨PT, 9, none⟩ = false := fun ob_ => (Blk.alloc hT ob_).frozen 9
      have z103 := hT.lt
      go_wp2_with fail
      refine (unvaryBad (some ⟨w.heap.size + 1, 0, none⟩) 200001 200001 Z 0 0 (by omega) (by omega) _ (HR2.out.mv (by have hs_ := hC.size; repeat (first | with_reducible exact hC | with_reducible (refine Below.setCell ?_ (by simp <;> omega) _) | with_reducible (refine Below.alloc ?_ (by first | exact hs_ | (simp <;> omega)) _) | with_reducible (refine Below.drew ?_)))) (by omega) 8 (ck_uv HCK.out) (by omega)).mono ?_
      rintro e x3 ⟨rfl, bB⟩
      replace hT := Blk.via0 (g := PT) (t := 33) bB (by repeat (first | with_reducible exact hT | with_reducible (apply Blk.set_) | with_reducible (apply Blk.far; case hp => (simp <;> omega)) | with_reducible (apply Blk.alloc) | with_reducible (apply Blk.drew)))
      replace hT : Blk x3 PT 33 #[.slice none 0 0, .int .i64 1, .slice none 0 0, .int .i64 (-1), .slice (some ⟨w.heap.size, 0, none⟩) 1 1, .int .i64 2, .slice (some ⟨w.heap.size + 1, 0, none⟩) 200001 200001, .int .i64 0, .slice none 0 0, .int .i64 9223372036854775807] := hT
      replace hC := Below.via (w := wr) (by have hs_ := hC.size; repeat (first | with_reducible exact hC | with_reducible (refine Below.setCell ?_ (by simp <;> omega) _) | with_reducible (refine Below.alloc ?_ (by first | exact hs_ | (simp <;> omega)) _) | with_reducible (refine Below.drew ?_))) bB
      replace hB := Below.via (w := w) (by have hs_ := hB.size; repeat (first | with_reducible exact hB | with_reducible (refine Below.setCell ?_ (by simp <;> omega) _) | with_reducible (refine Below.alloc ?_ (by first | exact hs_ | (simp <;> omega)) _) | with_reducible (refine Below.drew ?_))) bB
      clear z63 z64 z65 z66 z67 z68 z69 z70 z71 z72 z73 z74 z75 z76 z77 z78 z79 z80 z81 z82 z83 z84 z85 z86 z87 z88 z89 z90 z91 z92 z93 z94 z95 z96 z97 z98 z99 z100 z101 z102 z103
      clear bB
      have z104 : x3.cell? ⟨PT, 0, none⟩ = some (.slice none 0 0) := (hT.cell 0).trans rfl
      have z105 := hT.frozen 0
      have z106 : ∀ ob_, (x3.alloc ob_).cell? ⟨PT, 0, none⟩ = some (.slice none 0 0) := fun ob_ => ((Blk.alloc hT ob_).cell 0).trans rfl
      have z107 : ∀ ob_, (x3.alloc ob_).frozen? ⟨PT, 0, none⟩ = false := fun ob_ => (Blk.alloc hT ob_).frozen 0
      have z108 : x3.cell? ⟨PT, 1, none⟩ = some (.int .i64 1) := (hT.cell 1).trans rfl
      have z109 := hT.frozen 1
      have z110 : ∀ ob_, (x3.alloc ob_).cell? ⟨PT, 1, none⟩ = some (.int .i64 1) := fun ob_ => ((Blk.alloc hT ob_).cell 1).trans rfl
      have z111 : ∀ ob_, (x3.alloc ob_).frozen? ⟨PT, 1, none⟩ = false := fun ob_ => (Blk.alloc hT ob_).frozen 1
      have z112 : x3.cell? ⟨PT, 2, none⟩ = some (.slice none 0 0) := (hT.cell 2).trans rfl
      have z113 := hT.frozen 2
      have z114 : ∀ ob_, (x3.alloc ob_).cell? ⟨PT, 2, none⟩ = some (.slice none 0 0) := fun ob_ => ((Blk.alloc hT ob_).cell 2).trans rfl
      have z115 : ∀ ob_, (x3.alloc ob_).frozen? ⟨PT, 2, none⟩ = false := fun ob_ => (Blk.alloc hT ob_).frozen 2
      have z116 : x3.cell? ⟨PT, 3, none⟩ = some (.int .i64 (-1)) := (hT.cell 3).trans rfl
      have z117 := hT.frozen 3
      have z118 : ∀ ob_, (x3.alloc ob_).cell? ⟨PT, 3, none⟩ = some (.int .i64 (-1)) := fun ob_ => ((Blk.alloc hT ob_).cell 3).trans rfl
      have z119 : ∀ ob_, (x3.alloc ob_).frozen? ⟨PT, 3, none⟩ = false := fun ob_ => (Blk.alloc hT ob_).frozen 3
      have z120 : x3.cell? ⟨PT, 4, none⟩ = some (.slice (some ⟨w.heap.size, 0, none⟩) 1 1) := (hT.cell 4).trans rfl
      have z121 := hT.frozen 4
      have z122 : ∀ ob_, (x3.alloc ob_).cell? ⟨PT, 4, none⟩ = some (.slice (some ⟨w.heap.size, 0, none⟩) 1 1) := fun ob_ => ((Blk.alloc hT ob_).cell 4).trans rfl
      have z123 : ∀ ob_, (x3.alloc ob_).frozen? ⟨PT, 4, none⟩ = false := fun ob_ => (Blk.alloc hT ob_).frozen 4
      have z124 : x3.cell? ⟨PT, 5, none⟩ = some (.int .i64 2) := (hT.cell 5).trans rfl
      have z125 := hT.frozen 5
      have z126 : ∀ ob_, (x3.alloc ob_).cell? ⟨PT, 5, none⟩ = some (.int .i64 2) := fun ob_ => ((Blk.alloc hT ob_).cell 5).trans rfl
      have z127 : ∀ ob_, (x3.alloc ob_).frozen? ⟨PT, 5, none⟩ = false := fun ob_ => (Blk.alloc hT ob_).frozen 5
      have z128 : x3.cell? ⟨PT, 6, none⟩ = some (.slice (some ⟨w.heap.size + 1, 0, none⟩) 200001 200001) := (hT.cell 6).trans rfl
      have z129 := hT.frozen 6
      have z130 : ∀ ob_, (x3.alloc ob_).cell? ⟨PT, 6, none⟩ = some (.slice (some ⟨w.heap.size + 1, 0, none⟩) 200001 200001) := fun ob_ => ((Blk.alloc hT ob_).cell 6).trans rfl
      have z131 : ∀ ob_, (x3.alloc ob_).frozen? ⟨PT, 6, none⟩ = false := fun ob_ => (Blk.alloc hT ob_).frozen 6
      have z132 : x3.cell? ⟨PT, 7, none⟩ = some (.int .i64 0) := (hT.cell 7).trans rfl
      have z133 := hT.frozen 7
      have z134 : ∀ ob_, (x3.alloc ob_).cell? ⟨PT, 7, none⟩ = some (.int .i64 0) := fun ob_ => ((Blk.alloc hT ob_).cell 7).trans rfl
      have z135 : ∀ ob_, (x3.alloc ob_).frozen? ⟨PT, 7, none⟩ = false := fun ob_ => (Blk.alloc hT ob_).frozen 7
      have z136 : x3.cell? ⟨PT, 8, none⟩ = some (.slice none 0 0) := (hT.cell 8).trans rfl
      have z137 := hT.frozen 8
      have z138 : ∀ ob_, (x3.alloc ob_).cell? ⟨PT, 8, none⟩ = some (.slice none 0 0) := fun ob_ => ((Blk.alloc hT ob_).cell 8).trans rfl
      have z139 : ∀ ob_, (x3.alloc ob_).frozen? ⟨PT, 8, none⟩ = false := fun ob_ => (Blk.alloc hT ob_).frozen 8
      have z140 : x3.cell? ⟨PT, 9, none⟩ = some (.int .i64 9223372036854775807) := (hT.cell 9).trans rfl
      have z141 := hT.frozen 9
      have z142 : ∀ ob_, (x3.alloc ob_).cell? ⟨PT, 9, none⟩ = some (.int .i64 9223372036854775807) := fun ob_ => ((Blk.alloc hT ob_).cell 9).trans rfl
      have z143 : ∀ ob_, (x3.alloc ob_).frozen? ⟨PT, 9, none⟩ = false := fun ob_ => (Blk.alloc hT ob_).frozen 9
      have z144 := hT.lt
      go_wp2_with fail
      refine (unsignedBad (some ⟨w.heap.size + 1, 0, none⟩) 200001 200001 Z 0 (by omega) _ (HR2.out.mv (by have hs_ := hC.size; repeat (first | with_reducible exact hC | with_reducible (refine Below.setCell ?_ (by simp <;> omega) _) | with_reducible (refine Below.alloc ?_ (by first | exact hs_ | (simp <;> omega)) _) | with_reducible (refine Below.drew ?_)))) (by omega) 8 (ck_uv HCK.out) (by omega)).mono ?_
      rintro e x4 ⟨rfl, bB⟩
      replace hT := Blk.via0 (g := PT) (t := 33) bB (by repeat (first | with_reducible exact hT | with_reducible (apply Blk.set_) | with_reducible (apply Blk.far; case hp => (simp <;> omega)) | with_reducible (apply Blk.alloc) | with_reducible (apply Blk.drew)))
      replace hT : Blk x4 PT 33 #[.slice none 0 0, .int .i64 1, .slice none 0 0, .int .i64 (-1), .slice (some ⟨w.heap.size, 0, none⟩) 1 1, .int .i64 2, .slice (some ⟨w.heap.size + 1, 0, none⟩) 200001 200001, .int .i64 0, .slice none 0 0, .int .i64 9223372036854775807] := hT
      replace hC := Below.via (w := wr) (by have hs_ := hC.size; repeat (first | with_reducible exact hC | with_reducible (refine Below.setCell ?_ (by simp <;> omega) _) | with_reducible (refine Below.alloc ?_ (by first | exact hs_ | (simp <;> omega)) _) | with_reducible (refine Below.drew ?_))) bB
      replace hB := Below.via (w := w) (by have hs_ := hB.size; repeat (first | with_reducible exact hB | with_reducible (refine Below.setCell ?_ (by simp <;> omega) _) | with_reducible (refine Below.alloc ?_ (by first | exact hs_ | (simp <;> omega)) _) | with_reducible (refine Below.drew ?_))) bB
      clear z104 z105 z106 z107 z108 z109 z110 z111 z112 z113 z114 z115 z116 z117 z118 z119 z120 z121 z122 z123 z124 z125 z126 z127 z128 z129 z130 z131 z132 z133 z134 z135 z136 z137 z138 z139 z140 z141 z142 z143 z144
      clear bB
      have z145 : x4.cell? ⟨PT, 0, none⟩ = some (.slice none 0 0) := (hT.cell 0).trans rfl
      have z146 := hT.frozen 0
      have z147 : ∀ ob_, (x4.alloc ob_).cell? ⟨PT, 0, none⟩ = some (.slice none 0 0) := fun ob_ => ((Blk.alloc hT ob_).cell 0).trans rfl
      have z148 : ∀ ob_, (x4.alloc ob_).frozen? ⟨PT, 0, none⟩ = false := fun ob_ => (Blk.alloc hT ob_).frozen 0
      have z149 : x4.cell? ⟨PT, 1, none⟩ = some (.int .i64 1) := (hT.cell 1).trans rfl
      have z150 := hT.frozen 1
      have z151 : ∀ ob_, (x4.alloc ob_).cell? ⟨PT, 1, none⟩ = some (.int .i64 1) := fun ob_ => ((Blk.alloc hT ob_).cell 1).trans rfl
      have z152 : ∀ ob_, (x4.alloc ob_).frozen? ⟨PT, 1, none⟩ = false := fun ob_ => (Blk.alloc hT ob_).frozen 1
      have z153 : x4.cell? ⟨PT, 2, none⟩ = some (.slice none 0 0) := (hT.cell 2).trans rfl
      have z154 := hT.frozen 2
      have z155 : ∀ ob_, (x4.alloc ob_).cell? ⟨PT, 2, none⟩ = some (.slice none 0 0) := fun ob_ => ((Blk.alloc hT ob_).cell 2).trans rfl
      have z156 : ∀ ob_, (x4.alloc ob_).frozen? ⟨PT, 2, none⟩ = false := fun ob_ => (Blk.alloc hT ob_).frozen 2
      have z157 : x4.cell? ⟨PT, 3, none⟩ = some (.int .i64 (-1)) := (hT.cell 3).trans rfl
      have z158 := hT.frozen 3
      have z159 : ∀ ob_, (x4.alloc ob_).cell? ⟨PT, 3, none⟩ = some (.int .i64 (-1)) := fun ob_ => ((Blk.alloc hT ob_).cell 3).trans rfl
      have z160 : ∀ ob_, (x4.alloc ob_).frozen? ⟨PT, 3, none⟩ = false := fun ob_ => (Blk.alloc hT ob_).frozen 3
      have z161 : x4.cell? ⟨PT, 4, none⟩ = some (.slice (some ⟨w.heap.size, 0, none⟩) 1 1) := (hT.cell 4).trans rfl
      have z162 := hT.frozen 4
      have z163 : ∀ ob_, (x4.alloc ob_).cell? ⟨PT, 4, none⟩ = some (.slice (some ⟨w.heap.size, 0, none⟩) 1 1) := fun ob_ => ((Blk.alloc hT ob_).cell 4).trans rfl
      have z164 : ∀ ob_, (x4.alloc ob_).frozen? ⟨PT, 4, none⟩ = false := fun ob_ => (Blk.alloc hT ob_).frozen 4
      have z165 : x4.cell? ⟨PT, 5, none⟩ = some (.int .i64 2) := (hT.cell 5).trans rfl
      have z166 := hT.frozen 5
      have z167 : ∀ ob_, (x4.alloc ob_).cell? ⟨PT, 5, none⟩ = some (.int .i64 2) := fun ob_ => ((Blk.alloc hT ob_).cell 5).trans rfl
      have z168 : ∀ ob_, (x4.alloc ob_).frozen? ⟨PT, 5, none⟩ = false := fun ob_ => (Blk.alloc hT ob_).frozen 5
      have z169 : x4.cell? ⟨PT, 6, none⟩ = some (.slice (some ⟨w.heap.size + 1, 0, none⟩) 200001 200001) := (hT.cell 6).trans rfl
      have z170 := hT.frozen 6
      have z171 : ∀ ob_, (x4.alloc ob_).cell? ⟨PT, 6, none⟩ = some (.slice (some ⟨w.heap.size + 1, 0, none⟩) 200001 200001) := fun ob_ => ((Blk.alloc hT ob_).cell 6).trans rfl
      have z172 : ∀ ob_, (x4.alloc ob_).frozen? ⟨PT, 6, none⟩ = false := fun ob_ => (Blk.alloc hT ob_).frozen 6
      have z173 : x4.cell? ⟨PT, 7, none⟩ = some (.int .i64 0) := (hT.cell 7).trans rfl
      have z174 := hT.frozen 7
      have z175 : ∀ ob_, (x4.alloc ob_).cell? ⟨PT, 7, none⟩ = some (.int .i64 0) := fun ob_ => ((Blk.alloc hT ob_).cell 7).trans rfl
      have z176 : ∀ ob_, (x4.alloc ob_).frozen? ⟨PT, 7, none⟩ = false := fun ob_ => (Blk.alloc hT ob_).frozen 7
      have z177 : x4.cell? ⟨PT, 8, none⟩ = some (.slice none 0 0) := (hT.cell 8).trans rfl
      have z178 := hT.frozen 8
      have z179 : ∀ ob_, (x4.alloc ob_).cell? ⟨PT, 8, none⟩ = some (.slice none 0 0) := fun ob_ => ((Blk.alloc hT ob_).cell 8).trans rfl
      have z180 : ∀ ob_, (x4.alloc ob_).frozen? ⟨PT, 8, none⟩ = false := fun ob_ => (Blk.alloc hT ob_).frozen 8
      have z181 : x4.cell? ⟨PT, 9, none⟩ = some (.int .i64 9223372036854775807) := (hT.cell 9).trans rfl
      have z182 := hT.frozen 9
      have z183 : ∀ ob_, (x4.alloc ob_).cell? ⟨PT, 9, none⟩ = some (.int .i64 9223372036854775807) := fun ob_ => ((Blk.alloc hT ob_).cell 9).trans rfl
      have z184 : ∀ ob_, (x4.alloc ob_).frozen? ⟨PT, 9, none⟩ = false := fun ob_ => (Blk.alloc hT ob_).frozen 9
      have z185 := hT.lt
      go_wp2_with fail
      refine (untextBad (some ⟨w.heap.size + 1, 0, none⟩) 200001 200001 Z 0 (-1) (by omega) (by omega) _ (HR2.out.mv (by have hs_ := hC.size; repeat (first | with_reducible exact hC | with_reducible (refine Below.setCell ?_ (by simp <;> omega) _) | with_reducible (refine Below.alloc ?_ (by first | exact hs_ | (simp <;> omega)) _) | with_reducible (refine Below.drew ?_)))) (by omega) 8 (ck_ut HCK.out) (by omega)).mono ?_
      rintro e x5 ⟨rfl, bB⟩
      replace hT := Blk.via0 (g := PT) (t := 33) bB (by repeat (first | with_reducible exact hT | with_reducible (apply Blk.set_) | with_reducible (apply Blk.far; case hp => (simp <;> omega)) | with_reducible (apply Blk.alloc) | with_reducible (apply Blk.drew)))
      replace hT : Blk x5 PT 33 #[.slice none 0 0, .int .i64 1, .slice none 0 0, .int .i64 (-1), .slice (some ⟨w.heap.size, 0, none⟩) 1 1, .int .i64 2, .slice (some ⟨w.heap.size + 1, 0, none⟩) 200001 200001, .int .i64 0, .slice none 0 0, .int .i64 9223372036854775807] := hT
      replace hC := Below.via (w := wr) (by have hs_ := hC.size; repeat (first | with_reducible exact hC | with_reducible (refine Below.setCell ?_ (by simp <;> omega) _) | with_reducible (refine Below.alloc ?_ (by first | exact hs_ | (simp <;> omega)) _) | with_reducible (refine Below.drew ?_))) bB
      replace hB := Below.via (w := w) (by have hs_ := hB.size; repeat (first | with_reducible exact hB | with_reducible (refine Below.setCell ?_ (by simp <;> omega) _) | with_reducible (refine Below.alloc ?_ (by first | exact hs_ | (simp <;> omega)) _) | with_reducible (refine Below.drew ?_))) bB
      clear z145 z146 z147 z148 z149 z150 z151 z152 z153 z154 z155 z156 z157 z158 z159 z160 z161 z162 z163 z164 z165 z166 z167 z168 z169 z170 z171 z172 z173 z174 z175 z176 z177 z178 z179 z180 z181 z182 z183 z184 z185
      clear bB
      have z186 : x5.cell? ⟨PT, 0, none⟩ = some (.slice none 0 0) := (hT.cell 0).trans rfl
      have z187 := hT.frozen 0
      have z188 : ∀ ob_, (x5.alloc ob_).cell? ⟨PT, 0, none⟩ = some (.slice none 0 0) := fun ob_ => ((Blk.alloc hT ob_).cell 0).trans rfl
      have z189 : ∀ ob_, (x5.alloc ob_).frozen? ⟨PT, 0, none⟩ = false := fun ob_ => (Blk.alloc hT ob_).frozen 0
      have z190 : x5.cell? ⟨PT, 1, none⟩ = some (.int .i64 1) := (hT.cell 1).trans rfl
      have z191 := hT.frozen 1
      have z192 : ∀ ob_, (x5.alloc ob_).cell? ⟨PT, 1, none⟩ = some (.int .i64 1) := fun ob_ => ((Blk.alloc hT ob_).cell 1).trans rfl
      have z193 : ∀ ob_, (x5.alloc ob_).frozen? ⟨PT, 1, none⟩ = false := fun ob_ => (Blk.alloc hT ob_).frozen 1
      have z194 : x5.cell? ⟨PT, 2, none⟩ = some (.slice none 0 0) := (hT.cell 2).trans rfl
      have z195 := hT.frozen 2
      have z196 : ∀ ob_, (x5.alloc ob_).cell? ⟨PT, 2, none⟩ = some (.slice none 0 0) := fun ob_ => ((Blk.alloc hT ob_).cell 2).trans rfl
      have z197 : ∀ ob_, (x5.alloc ob_).frozen? ⟨PT, 2, none⟩ = false := fun ob_ => (Blk.alloc hT ob_).frozen 2
      have z198 : x5.cell? ⟨PT, 3, none⟩ = some (.int .i64 (-1)) := (hT.cell 3).trans rfl
      have z199 := hT.frozen 3
      have z200 : ∀ ob_, (x5.alloc ob_).cell? ⟨PT, 3, none⟩ = some (.int .i64 (-1)) := fun ob_ => ((Blk.alloc hT ob_).cell 3).trans rfl
      have z201 : ∀ ob_, (x5.alloc ob_).frozen? ⟨PT, 3, none⟩ = false := fun ob_ => (Blk.alloc hT ob_).frozen 3
      have z202 : x5.cell? ⟨PT, 4, none⟩ = some (.slice (some ⟨w.heap.size, 0, none⟩) 1 1) := (hT.cell 4).trans rfl
      have z203 := hT.frozen 4
      have z204 : ∀ ob_, (x5.alloc ob_).cell? ⟨PT, 4, none⟩ = some (.slice (some ⟨w.heap.size, 0, none⟩) 1 1) := fun ob_ => ((Blk.alloc hT ob_).cell 4).trans rfl
      have z205 : ∀ ob_, (x5.alloc ob_).frozen? ⟨PT, 4, none⟩ = false := fun ob_ => (Blk.alloc hT ob_).frozen 4
      have z206 : x5.cell? ⟨PT, 5, none⟩ = some (.int .i64 2) := (hT.cell 5).trans rfl
      have z207 := hT.frozen 5
      have z208 : ∀ ob_, (x5.alloc ob_).cell? ⟨PT, 5, none⟩ = some (.int .i64 2) := fun ob_ => ((Blk.alloc hT ob_).cell 5).trans rfl
      have z209 : ∀ ob_, (x5.alloc ob_).frozen? ⟨PT, 5, none⟩ = false := fun ob_ => (Blk.alloc hT ob_).frozen 5
      have z210 : x5.cell? ⟨PT, 6, none⟩ = some (.slice (some ⟨w.heap.size + 1, 0, none⟩) 200001 200001) := (hT.cell 6).trans rfl
      have z211 := hT.frozen 6
      have z212 : ∀ ob_, (x5.alloc ob_).cell? ⟨PT, 6, none⟩ = some (.slice (some ⟨w.heap.size + 1, 0, none⟩) 200001 200001) := fun ob_ => ((Blk.alloc hT ob_).cell 6).trans rfl
      have z213 : ∀ ob_, (x5.alloc ob_).frozen? ⟨PT, 6, none⟩ = false := fun ob_ => (Blk.alloc hT ob_).frozen 6
      have z214 : x5.cell? ⟨PT, 7, none⟩ = some (.int .i64 0) := (hT.cell 7).trans rfl
      have z215 := hT.frozen 7
      have z216 : ∀ ob_, (x5.alloc ob_).cell? ⟨PT, 7, none⟩ = some (.int .i64 0) := fun ob_ => ((Blk.alloc hT ob_).cell 7).trans rfl
      have z217 : ∀ ob_, (x5.alloc ob_).frozen? ⟨PT, 7, none⟩ = false := fun ob_ => (Blk.alloc hT ob_).frozen 7
      have z218 : x5.cell? ⟨PT, 8, none⟩ = some (.slice none 0 0) := (hT.cell 8).trans rfl
      have z219 := hT.frozen 8
      have z220 : ∀ ob_, (x5.alloc ob_).cell? ⟨PT, 8, none⟩ = some (.slice none 0 0) := fun ob_ => ((Blk.alloc hT ob_).cell 8).trans rfl
      have z221 : ∀ ob_, (x5.alloc ob_).frozen? ⟨PT, 8, none⟩ = false := fun ob_ => (Blk.alloc hT ob_).frozen 8
      have z222 : x5.cell? ⟨PT, 9, none⟩ = some (.int .i64 9223372036854775807) := (hT.cell 9).trans rfl
      have z223 := hT.frozen 9
      have z224 : ∀ ob_, (x5.alloc ob_).cell? ⟨PT, 9, none⟩ = some (.int .i64 9223372036854775807) := fun ob_ => ((Blk.alloc hT ob_).cell 9).trans rfl
      have z225 : ∀ ob_, (x5.alloc ob_).frozen? ⟨PT, 9, none⟩ = false := fun ob_ => (Blk.alloc hT ob_).frozen 9
      have z226 := hT.lt
      go_wp2_with fail
      go_roundw
      case rel => exact ⟨4, by omega, by go_num, (by repeat (first | with_reducible exact hT | with_reducible (apply Blk.set_) | with_reducible (apply Blk.far; case hp => (simp <;> omega)) | with_reducible (apply Blk.alloc) | with_reducible (apply Blk.drew))), HR1.out.mv (by have hs_ := hC.size; repeat (first | with_reducible exact hC | with_reducible (refine Below.setCell ?_ (by simp <;> omega) _) | with_reducible (refine Below.alloc ?_ (by first | exact hs_ | (simp <;> omega)) _) | with_reducible (refine Below.drew ?_))), HR2.out.mv (by have hs_ := hC.size; repeat (first | with_reducible exact hC | with_reducible (refine Below.setCell ?_ (by simp <;> omega) _) | with_reducible (refine Below.alloc ?_ (by first | exact hs_ | (simp <;> omega)) _) | with_reducible (refine Below.drew ?_))), (by have hs_ := hB.size; repeat (first | with_reducible exact hB | with_reducible (refine Below.setCell ?_ (by simp <;> omega) _) | with_reducible (refine Below.alloc ?_ (by first | exact hs_ | (simp <;> omega)) _) | with_reducible (refine Below.drew ?_)))⟩
      case measure => simp [intOf]
    · have hC := Below.refl wr.heap.size wr
      have hck : ckB ([] : List UInt8).length 9223372036854775807 = false := by decide
      have HCK := Lib.hid hck
      clear hck
      have z1 : wr.cell? ⟨PT, 0, none⟩ = some (.slice none 0 0) := (hT.cell 0).trans rfl
      have z2 := hT.frozen 0
      have z3 : wr.cell? ⟨PT, 1, none⟩ = some (.int .i64 1) := (hT.cell 1).trans rfl
      have z4 := hT.frozen 1
      have z5 : wr.cell? ⟨PT, 2, none⟩ = some (.slice none 0 0) := (hT.cell 2).trans rfl
      have z6 := hT.frozen 2
      have z7 : wr.cell? ⟨PT, 3, none⟩ = some (.int .i64 (-1)) := (hT.cell 3).trans rfl
      have z8 := hT.frozen 3
      have z9 : wr.cell? ⟨PT, 4, none⟩ = some (.slice (some ⟨w.heap.size, 0, none⟩) 1 1) := (hT.cell 4).trans rfl
      have z10 := hT.frozen 4
      have z11 : wr.cell? ⟨PT, 5, none⟩ = some (.int .i64 2) := (hT.cell 5).trans rfl
      have z12 := hT.frozen 5
      have z13 : wr.cell? ⟨PT, 6, none⟩ = some (.slice (some ⟨w.heap.size + 1, 0, none⟩) 200001 200001) := (hT.cell 6).trans rfl
      have z14 := hT.frozen 6
      have z15 : wr.cell? ⟨PT, 7, none⟩ = some (.int .i64 0) := (hT.cell 7).trans rfl
      have z16 := hT.frozen 7
      have z17 : wr.cell? ⟨PT, 8, none⟩ = some (.slice none 0 0) := (hT.cell 8).trans rfl
      have z18 := hT.frozen 8
      have z19 : wr.cell? ⟨PT, 9, none⟩ = some (.int .i64 9223372036854775807) := (hT.cell 9).trans rfl
      have z20 := hT.frozen 9
      have z21 := hT.lt
      go_wp2_with fail
      refine (leftBad none 0 0 9223372036854775807 (by omega) _ (by decide)).mono ?_
      rintro e x1 ⟨rfl, bB⟩
      replace hT := Blk.via0 (g := PT) (t := 33) bB (by repeat (first | with_reducible exact hT | with_reducible (apply Blk.set_) | with_reducible (apply Blk.far; case hp => (simp <;> omega)) | with_reducible (apply Blk.alloc) | with_reducible (apply Blk.drew)))
      replace hT : Blk x1 PT 33 #[.slice none 0 0, .int .i64 1, .slice none 0 0, .int .i64 (-1), .slice (some ⟨w.heap.size, 0, none⟩) 1 1, .int .i64 2, .slice (some ⟨w.heap.size + 1, 0, none⟩) 200001 200001, .int .i64 0, .slice none 0 0, .int .i64 9223372036854775807] := hT
      replace hC := Below.via (w := wr) (by have hs_ := hC.size; repeat (first | with_reducible exact hC | with_reducible (refine Below.setCell ?_ (by simp <;> omega) _) | with_reducible (refine Below.alloc ?_ (by first | exact hs_ | (simp <;> omega)) _) | with_reducible (refine Below.drew ?_))) bB
      replace hB := Below.via (w := w) (by have hs_ := hB.size; repeat (first | with_reducible exact hB | with_reducible (refine Below.setCell ?_ (by simp <;> omega) _) | with_reducible (refine Below.alloc ?_ (by first | exact hs_ | (simp <;> omega)) _) | with_reducible (refine Below.drew ?_))) bB
      clear z1 z2 z3 z4 z5 z6 z7 z8 z9 z10 z11 z12 z13 z14 z15 z16 z17 z18 z19 z20 z21
      clear bB
      have z22 : x1.cell? ⟨PT, 0, none⟩ = some (.slice none 0 0) := (hT.cell 0).trans rfl
      have z23 := hT.frozen 0
      have z24 : ∀ ob_, (x1.alloc ob_).cell? ⟨PT, 0, none⟩ = some (.slice none 0 0) := fun ob_ => ((Blk.alloc hT ob_).cell 0).trans rfl
      have z25 : ∀ ob_, (x1.alloc ob_).frozen? ⟨PT, 0, none⟩ = false := fun ob_ => (Blk.alloc hT ob_).frozen 0
      have z26 : x1.cell? ⟨PT, 1, none⟩ = some (.int .i64 1) := (hT.cell 1).trans rfl
      have z27 := hT.frozen 1
      have z28 : ∀ ob_, (x1.alloc ob_).cell? ⟨PT, 1, none⟩ = some (.int .i64 1) := fun ob_ => ((Blk.alloc hT ob_).cell 1).trans rfl
      have z29 : ∀ ob_, (x1.alloc ob_).frozen? ⟨PT, 1, none⟩ = false := fun ob_ => (Blk.alloc hT ob_).frozen 1
      have z30 : x1.cell? ⟨PT, 2, none⟩ = some (.slice none 0 0) := (hT.cell 2).trans rfl
      have z31 := hT.frozen 2
      have z32 : ∀ ob_, (x1.alloc ob_).cell? ⟨PT, 2, none⟩ = some (.slice none 0 0) := fun ob_ => ((Blk.alloc hT ob_).cell 2).trans rfl
      have z33 : ∀ ob_, (x1.alloc ob_).frozen? ⟨PT, 2, none⟩ = false := fun ob_ => (Blk.alloc hT ob_).frozen 2
      have z34 : x1.cell? ⟨PT, 3, none⟩ = some (.int .i64 (-1)) := (hT.cell 3).trans rfl
      have z35 := hT.frozen 3
      have z36 : ∀ ob_, (x1.alloc ob_).cell? ⟨PT, 3, none⟩ = some (.int .i64 (-1)) := fun ob_ => ((Blk.alloc hT ob_).cell 3).trans rfl
      have z37 : ∀ ob_, (x1.alloc ob_).frozen? ⟨PT, 3, none⟩ = false := fun ob_ => (Blk.alloc hT ob_).frozen 3
      have z38 : x1.cell? ⟨PT, 4, none⟩ = some (.slice (some ⟨w.heap.size, 0, none⟩) 1 1) := (hT.cell 4).trans rfl
      have z39 := hT.frozen 4
      have z40 : ∀ ob_, (x1.alloc ob_).cell? ⟨PT, 4, none⟩ = some (.slice (some ⟨w.heap.size, 0, none⟩) 1 1) := fun ob_ => ((Blk.alloc hT ob_).cell 4).trans rfl
      have z41 : ∀ ob_, (x1.alloc ob_).frozen? ⟨PT, 4, none⟩ = false := fun ob_ => (Blk.alloc hT ob_).frozen 4
      have z42 : x1.cell? ⟨PT, 5, none⟩ = some (.int .i64 2) := (hT.cell 5).trans rfl
      have z43 := hT.frozen 5
      have z44 : ∀ ob_, (x1.alloc ob_).cell? ⟨PT, 5, none⟩ = some (.int .i64 2) := fun ob_ => ((Blk.alloc hT ob_).cell 5).trans rfl
      have z45 : ∀ ob_, (x1.alloc ob_).frozen? ⟨PT, 5, none⟩ = false := fun ob_ => (Blk.alloc hT ob_).frozen 5
      have z46 : x1.cell? ⟨PT, 6, none⟩ = some (.slice (some ⟨w.heap.size + 1, 0, none⟩) 200001 200001) := (hT.cell 6).trans rfl
      have z47 := hT.frozen 6
      have z48 : ∀ ob_, (x1.alloc ob_).cell? ⟨PT, 6, none⟩ = some (.slice (some ⟨w.heap.size + 1, 0, none⟩) 200001 200001) := fun ob_ => ((Blk.alloc hT ob_).cell 6).trans rfl
      have z49 : ∀ ob_, (x1.alloc ob_).frozen? ⟨PT, 6, none⟩ = false := fun ob_ => (Blk.alloc hT ob_).frozen 6
      have z50 : x1.cell? ⟨PT, 7, none⟩ = some (.int .i64 0) := (hT.cell 7).trans rfl
      have z51 := hT.frozen 7
      have z52 : ∀ ob_, (x1.alloc ob_).cell? ⟨PT, 7, none⟩ = some (.int .i64 0) := fun ob_ => ((Blk.alloc hT ob_).cell 7).trans rfl
      have z53 : ∀ ob_, (x1.alloc ob_).frozen? ⟨PT, 7, none⟩ = false := fun ob_ => (Blk.alloc hT ob_).frozen 7
      have z54 : x1.cell? ⟨PT, 8, none⟩ = some (.slice none 0 0) := (hT.cell 8).trans rfl
      have z55 := hT.frozen 8
      have z56 : ∀ ob_, (x1.alloc ob_).cell? ⟨PT, 8, none⟩ = some (.slice none 0 0) := fun ob_ => ((Blk.alloc hT ob_).cell 8).trans rfl
      have z57 : ∀ ob_, (x1.alloc ob_).frozen? ⟨PT, 8, none⟩ = false := fun ob_ => (Blk.alloc hT ob_).frozen 8
      have z58 : x1.cell? ⟨PT, 9, none⟩ = some (.int .i64 9223372036854775807) := (hT.cell 9).trans rfl
      have z59 := hT.frozen 9
      have z60 : ∀ ob_, (x1.alloc ob_).cell? ⟨PT, 9, none⟩ = some (.int .i64 9223372036854775807) := fun ob_ => ((Blk.alloc hT ob_).cell 9).trans rfl
      have z61 : ∀ ob_, (x1.alloc ob_).frozen? ⟨PT, 9, none⟩ = false := fun ob_ => (Blk.alloc hT ob_).frozen 9
      have z62 := hT.lt
      go_wp2_with fail
      refine (unfixedBad none 0 0 [] 9223372036854775807 3 (by omega) (by omega) _ Reads.none_ (by omega) 8 (ck_uf HCK.out) (by omega)).mono ?_
      rintro e x2 ⟨rfl, bB⟩
      replace hT := Blk.via0 (g := PT) (t := 33) bB (by repeat (first | with_reducible exact hT | with_reducible (apply Blk.set_) | with_reducible (apply Blk.far; case hp => (simp <;> omega)) | with_reducible (apply Blk.alloc) | with_reducible (apply Blk.drew)))
      replace hT : Blk x2 PT 33 #[.slice none 0 0, .int .i64 1, .slice none 0 0, .int .i64 (-1), .slice (some ⟨w.heap.size, 0, none⟩) 1 1, .int .i64 2, .slice (some ⟨w.heap.size + 1, 0, none⟩) 200001 200001, .int .i64 0, .slice none 0 0, .int .i64 9223372036854775807] := hT
      replace hC := Below.via (w := wr) (by have hs_ := hC.size; repeat (first | with_reducible exact hC | with_reducible (refine Below.setCell ?_ (by simp <;> omega) _) | with_reducible (refine Below.alloc ?_ (by first | exact hs_ | (simp <;> omega)) _) | with_reducible (refine Below.drew ?_))) bB
      replace hB := Below.via (w := w) (by have hs_ := hB.size; repeat (first | with_reducible exact hB | with_reducible (refine Below.setCell ?_ (by simp <;> omega) _) | with_reducible (refine Below.alloc ?_ (by first | exact hs_ | (simp <;> omega)) _) | with_reducible (refine Below.drew ?_))) bB
      clear z22 z23 z24 z25 z26 z27 z28 z29 z30 z31 z32 z33 z34 z35 z36 z37 z38 z39 z40 z41 z42 z43 z44 z45 z46 z47 z48 z49 z50 z51 z52 z53 z54 z55 z56 z57 z58 z59 z60 z61 z62
      clear bB
      have z63 : x2.cell? ⟨PT, 0, none⟩ = some (.slice none 0 0) := (hT.cell 0).trans rfl
      have z64 := hT.frozen 0
      have z65 : ∀ ob_, (x2.alloc ob_).cell? ⟨PT, 0, none⟩ = some (.slice none 0 0) := fun ob_ => ((Blk.alloc hT ob_).cell 0).trans rfl
      have z66 : ∀ ob_, (x2.alloc ob_).frozen? ⟨PT, 0, none⟩ = false := fun ob_ => (Blk.alloc hT ob_).frozen 0
      have z67 : x2.cell? ⟨PT, 1, none⟩ = some (.int .i64 1) := (hT.cell 1).trans rfl
      have z68 := hT.frozen 1
      have z69 : ∀ ob_, (x2.alloc ob_).cell? ⟨PT, 1, none⟩ = some (.int .i64 1) := fun ob_ => ((Blk.alloc hT ob_).cell 1).trans rfl
      have z70 : ∀ ob_, (x2.alloc ob_).frozen? ⟨PT, 1, none⟩ = false := fun ob_ => (Blk.alloc hT ob_).frozen 1
      have z71 : x2.cell? ⟨PT, 2, none⟩ = some (.slice none 0 0) := (hT.cell 2).trans rfl
      have z72 := hT.frozen 2
      have z73 : ∀ ob_, (x2.alloc ob_).cell? ⟨PT, 2, none⟩ = some (.slice none 0 0) := fun ob_ => ((Blk.alloc hT ob_).cell 2).trans rfl
      have z74 : ∀ ob_, (x2.alloc ob_).frozen? ⟨PT, 2, none⟩ = false := fun ob_ => (Blk.alloc hT ob_).frozen 2
      have z75 : x2.cell? ⟨PT, 3, none⟩ = some (.int .i64 (-1)) := (hT.cell 3).trans rfl
      have z76 := hT.frozen 3
      have z77 : ∀ ob_, (x2.alloc ob_).cell? ⟨PT, 3, none⟩ = some (.int .i64 (-1)) := fun ob_ => ((Blk.alloc hT ob_).cell 3).trans rfl
      have z78 : ∀ ob_, (x2.alloc ob_).frozen? ⟨PT, 3, none⟩ = false := fun ob_ => (Blk.alloc hT ob_).frozen 3
      have z79 : x2.cell? ⟨PT, 4, none⟩ = some (.slice (some ⟨w.heap.size, 0, none⟩) 1 1) := (hT.cell 4).trans rfl
      have z80 := hT.frozen 4
      have z81 : ∀ ob_, (x2.alloc ob_).cell? ⟨PT, 4, none⟩ = some (.slice (some ⟨w.heap.size, 0, none⟩) 1 1) := fun ob_ => ((Blk.alloc hT ob_).cell 4).trans rfl
      have z82 : ∀ ob_, (x2.alloc ob_).frozen? ⟨PT, 4, none⟩ = false := fun ob_ => (Blk.alloc hT ob_).frozen 4
      have z83 : x2.cell? ⟨PT, 5, none⟩ = some (.int .i64 2) := (hT.cell 5).trans rfl
      have z84 := hT.frozen 5
      have z85 : ∀ ob_, (x2.alloc ob_).cell? ⟨PT, 5, none⟩ = some (.int .i64 2) := fun ob_ => ((Blk.alloc hT ob_).cell 5).trans rfl
      have z86 : ∀ ob_, (x2.alloc ob_).frozen? ⟨PT, 5, none⟩ = false := fun ob_ => (Blk.alloc hT ob_).frozen 5
      have z87 : x2.cell? ⟨PT, 6, none⟩ = some (.slice (some ⟨w.heap.size + 1, 0, none⟩) 200001 200001) := (hT.cell 6).trans rfl
      have z88 := hT.frozen 6
      have z89 : ∀ ob_, (x2.alloc ob_).cell? ⟨PT, 6, none⟩ = some (.slice (some ⟨w.heap.size + 1, 0, none⟩) 200001 200001) := fun ob_ => ((Blk.alloc hT ob_).cell 6).trans rfl
      have z90 : ∀ ob_, (x2.alloc ob_).frozen? ⟨PT, 6, none⟩ = false := fun ob_ => (Blk.alloc hT ob_).frozen 6
      have z91 : x2.cell? ⟨PT, 7, none⟩ = some (.int .i64 0) := (hT.cell 7).trans rfl
      have z92 := hT.frozen 7
      have z93 : ∀ ob_, (x2.alloc ob_).cell? ⟨PT, 7, none⟩ = some (.int .i64 0) := fun ob_ => ((Blk.alloc hT ob_).cell 7).trans rfl
      have z94 : ∀ ob_, (x2.alloc ob_).frozen? ⟨PT, 7, none⟩ = false := fun ob_ => (Blk.alloc hT ob_).frozen 7
      have z95 : x2.cell? ⟨PT, 8, none⟩ = some (.slice none 0 0) := (hT.cell 8).trans rfl
      have z96 := hT.frozen 8
      have z97 : ∀ ob_, (x2.alloc ob_).cell? ⟨PT, 8, none⟩ = some (.slice none 0 0) := fun ob_ => ((Blk.alloc hT ob_).cell 8).trans rfl
      have z98 : ∀ ob_, (x2.alloc ob_).frozen? ⟨PT, 8, none⟩ = false := fun ob_ => (Blk.alloc hT ob_).frozen 8
      have z99 : x2.cell? ⟨PT, 9, none⟩ = some (.int .i64 9223372036854775807) := (hT.cell 9).trans rfl
      have z100 := hT.frozen 9
      have z101 : ∀ ob_, (x2.alloc ob_).cell? ⟨PT, 9, none⟩ = some (.int .i64 9223372036854775807) := fun ob_ => ((Blk.alloc hT ob_).cell 9).trans rfl
      have z102 : ∀ ob_, (x2.alloc ob_).frozen? ⟨PT, 9, none⟩ = false := fun ob_ => (Blk.alloc hT ob_).frozen 9
      have z103 := hT.lt
      go_wp2_with fail
      refine (unvaryBad none 0 0 [] 9223372036854775807 0 (by omega) (by omega) _ Reads.none_ (by omega) 8 (ck_uv HCK.out) (by omega)).mono ?_
      rintro e x3 ⟨rfl, bB⟩
      replace hT := Blk.via0 (g := PT) (t := 33) bB (by repeat (first | with_reducible exact hT | with_reducible (apply Blk.set_) | with_reducible (apply Blk.far; case hp => (simp <;> omega)) | with_reducible (apply Blk.alloc) | with_reducible (apply Blk.drew)))
      replace hT : Blk x3 PT 33 #[.slice none 0 0, .int .i64 1, .slice none 0 0, .int .i64 (-1), .slice (some ⟨w.heap.size, 0, none⟩) 1 1, .int .i64 2, .slice (some ⟨w.heap.size + 1, 0, none⟩) 200001 200001, .int .i64 0, .slice none 0 0, .int .i64 9223372036854775807] := hT
      replace hC := Below.via (w := wr) (by have hs_ := hC.size; repeat (first | with_reducible exact hC | with_reducible (refine Below.setCell ?_ (by simp <;> omega) _) | with_reducible (refine Below.alloc ?_ (by first | exact hs_ | (simp <;> omega)) _) | with_reducible (refine Below.drew ?_))) bB
      replace hB := Below.via (w := w) (by have hs_ := hB.size; repeat (first | with_reducible exact hB | with_reducible (refine Below.setCell ?_ (by simp <;> omega) _) | with_reducible (refine Below.alloc ?_ (by first | exact hs_ | (simp <;> omega)) _) | with_reducible (refine Below.drew ?_))) bB
      clear z63 z64 z65 z66 z67 z68 z69 z70 z71 z72 z73 z74 z75 z76 z77 z78 z79 z80 z81 z82 z83 z84 z85 z86 z87 z88 z89 z90 z91 z92 z93 z94 z95 z96 z97 z98 z99 z100 z101 z102 z103
      clear bB
      have z104 : x3.cell? ⟨PT, 0, none⟩ = some (.slice none 0 0) := (hT.cell 0).trans rfl
      have z105 := hT.frozen 0
      have z106 : ∀ ob_, (x3.alloc ob_).cell? ⟨PT, 0, none⟩ = some (.slice none 0 0) := fun ob_ => ((Blk.alloc hT ob_).cell 0).trans rfl
      have z107 : ∀ ob_, (x3.alloc ob_).frozen? ⟨PT, 0, none⟩ = false := fun ob_ => (Blk.alloc hT ob_).frozen 0
      have z108 : x3.cell? ⟨PT, 1, none⟩ = some (.int .i64 1) := (hT.cell 1).trans rfl
      have z109 := hT.frozen 1
      have z110 : ∀ ob_, (x3.alloc ob_).cell? ⟨PT, 1, none⟩ = some (.int .i64 1) := fun ob_ => ((Blk.alloc hT ob_).cell 1).trans rfl
      have z111 : ∀ ob_, (x3.alloc ob_).frozen? ⟨PT, 1, none⟩ = false := fun ob_ => (Blk.alloc hT ob_).frozen 1
      have z112 : x3.cell? ⟨PT, 2, none⟩ = some (.slice none 0 0) := (hT.cell 2).trans rfl
      have z113 := hT.frozen 2
      have z114 : ∀ ob_, (x3.alloc ob_).cell? ⟨PT, 2, none⟩ = some (.slice none 0 0) := fun ob_ => ((Blk.alloc hT ob_).cell 2).trans rfl
      have z115 : ∀ ob_, (x3.alloc ob_).frozen? ⟨PT, 2, none⟩ = false := fun ob_ => (Blk.alloc hT ob_).frozen 2
      have z116 : x3.cell? ⟨PT, 3, none⟩ = some (.int .i64 (-1)) := (hT.cell 3).trans rfl
      have z117 := hT.frozen 3
      have z118 : ∀ ob_, (x3.alloc ob_).cell? ⟨PT, 3, none⟩ = some (.int .i64 (-1)) := fun ob_ => ((Blk.alloc hT ob_).cell 3).trans rfl
      have z119 : ∀ ob_, (x3.alloc ob_).frozen? ⟨PT, 3, none⟩ = false := fun ob_ => (Blk.alloc hT ob_).frozen 3
      have z120 : x3.cell? ⟨PT, 4, none⟩ = some (.slice (some ⟨w.heap.size, 0, none⟩) 1 1) := (hT.cell 4).trans rfl
      have z121 := hT.frozen 4
      have z122 : ∀ ob_, (x3.alloc ob_).cell? ⟨PT, 4, none⟩ = some (.slice (some ⟨w.heap.size, 0, none⟩) 1 1) := fun ob_ => ((Blk.alloc hT ob_).cell 4).trans rfl
      have z123 : ∀ ob_, (x3.alloc ob_).frozen? ⟨PT, 4, none⟩ = false := fun ob_ => (Blk.alloc hT ob_).frozen 4
      have z124 : x3.cell? ⟨PT, 5, none⟩ = some (.int .i64 2) := (hT.cell 5).trans rfl
      have z125 := hT.frozen 5
      have z126 : ∀ ob_, (x3.alloc ob_).cell? ⟨PT, 5, none⟩ = some (.int .i64 2) := fun ob_ => ((Blk.alloc hT ob_).cell 5).trans rfl
      have z127 : ∀ ob_, (x3.alloc ob_).frozen? ⟨PT, 5, none⟩ = false := fun ob_ => (Blk.alloc hT ob_).frozen 5
      have z128 : x3.cell? ⟨PT, 6, none⟩ = some (.slice (some ⟨w.heap.size + 1, 0, none⟩) 200001 200001) := (hT.cell 6).trans rfl
      have z129 := hT.frozen 6
      have z130 : ∀ ob_, (x3.alloc ob_).cell? ⟨PT, 6, none⟩ = some (.slice (some ⟨w.heap.size + 1, 0, none⟩) 200001 200001) := fun ob_ => ((Blk.alloc hT ob_).cell 6).trans rfl
      have z131 : ∀ ob_, (x3.alloc ob_).frozen? ⟨PT, 6, none⟩ = false := fun ob_ => (Blk.alloc hT ob_).frozen 6
      have z132 : x3.cell? ⟨PT, 7, none⟩ = some (.int .i64 0) := (hT.cell 7).trans rfl
      have z133 := hT.frozen 7
      have z134 : ∀ ob_, (x3.alloc ob_).cell? ⟨PT, 7, none⟩ = some (.int .i64 0) := fun ob_ => ((Blk.alloc hT ob_).cell 7).trans rfl
      have z135 : ∀ ob_, (x3.alloc ob_).frozen? ⟨PT, 7, none⟩ = false := fun ob_ => (Blk.alloc hT ob_).frozen 7
      have z136 : x3.cell? ⟨PT, 8, none⟩ = some (.slice none 0 0) := (hT.cell 8).trans rfl
      have z137 := hT.frozen 8
      have z138 : ∀ ob_, (x3.alloc ob_).cell? ⟨PT, 8, none⟩ = some (.slice none 0 0) := fun ob_ => ((Blk.alloc hT ob_).cell 8).trans rfl
      have z139 : ∀ ob_, (x3.alloc ob_).frozen? ⟨PT, 8, none⟩ = false := fun ob_ => (Blk.alloc hT ob_).frozen 8
      have z140 : x3.cell? ⟨PT, 9, none⟩ = some (.int .i64 9223372036854775807) := (hT.cell 9).trans rfl
      have z141 := hT.frozen 9
      have z142 : ∀ ob_, (x3.alloc ob_).cell? ⟨PT, 9, none⟩ = some (.int .i64 9223372036854775807) := fun ob_ => ((Blk.alloc hT ob_).cell 9).trans rfl
      have z143 : ∀ ob_, (x3.alloc ob_).frozen? ⟨PT, 9, none⟩ = false := fun ob_ => (Blk.alloc hT ob_).frozen 9
      have z144 := hT.lt
      go_wp2_with fail
      refine (unsignedBad none 0 0 [] 9223372036854775807 (by omega) _ Reads.none_ (by omega) 8 (ck_uv HCK.out) (by omega)).mono ?_
      rintro e x4 ⟨rfl, bB⟩
      replace hT := Blk.via0 (g := PT) (t := 33) bB (by repeat (first | with_reducible exact hT | with_reducible (apply Blk.set_) | with_reducible (apply Blk.far; case hp => (simp <;> omega)) | with_reducible (apply Blk.alloc) | with_reducible (apply Blk.drew)))
      replace hT : Blk x4 PT 33 #[.slice none 0 0, .int .i64 1, .slice none 0 0, .int .i64 (-1), .slice (some ⟨w.heap.size, 0, none⟩) 1 1, .int .i64 2, .slice (some ⟨w.heap.size + 1, 0, none⟩) 200001 200001, .int .i64 0, .slice none 0 0, .int .i64 9223372036854775807] := hT
      replace hC := Below.via (w := wr) (by have hs_ := hC.size; repeat (first | with_reducible exact hC | with_reducible (refine Below.setCell ?_ (by simp <;> omega) _) | with_reducible (refine Below.alloc ?_ (by first | exact hs_ | (simp <;> omega)) _) | with_reducible (refine Below.drew ?_))) bB
      replace hB := Below.via (w := w) (by have hs_ := hB.size; repeat (first | with_reducible exact hB | with_reducible (refine Below.setCell ?_ (by simp <;> omega) _) | with_reducible (refine Below.alloc ?_ (by first | exact hs_ | (simp <;> omega)) _) | with_reducible (refine Below.drew ?_))) bB
      clear z104 z105 z106 z107 z108 z109 z110 z111 z112 z113 z114 z115 z116 z117 z118 z119 z120 z121 z122 z123 z124 z125 z126 z127 z128 z129 z130 z131 z132 z133 z134 z135 z136 z137 z138 z139 z140 z141 z142 z143 z144
      clear bB
      have z145 : x4.cell? ⟨PT, 0, none⟩ = some (.slice none 0 0) := (hT.cell 0).trans rfl
      have z146 := hT.frozen 0
      have z147 : ∀ ob_, (x4.alloc ob_).cell? ⟨PT, 0, none⟩ = some (.slice none 0 0) := fun ob_ => ((Blk.alloc hT ob_).cell 0).trans rfl
      have z148 : ∀ ob_, (x4.alloc ob_).frozen? ⟨PT, 0, none⟩ = false := fun ob_ => (Blk.alloc hT ob_).frozen 0
      have z149 : x4.cell? ⟨PT, 1, none⟩ = some (.int .i64 1) := (hT.cell 1).trans rfl
      have z150 := hT.frozen 1
      have z151 : ∀ ob_, (x4.alloc ob_).cell? ⟨PT, 1, none⟩ = some (.int .i64 1) := fun ob_ => ((Blk.alloc hT ob_).cell 1).trans rfl
      have z152 : ∀ ob_, (x4.alloc ob_).frozen? ⟨PT, 1, none⟩ = false := fun ob_ => (Blk.alloc hT ob_).frozen 1
      have z153 : x4.cell? ⟨PT, 2, none⟩ = some (.slice none 0 0) := (hT.cell 2).trans rfl
      have z154 := hT.frozen 2
      have z155 : ∀ ob_, (x4.alloc ob_).cell? ⟨PT, 2, none⟩ = some (.slice none 0 0) := fun ob_ => ((Blk.alloc hT ob_).cell 2).trans rfl
      have z156 : ∀ ob_, (x4.alloc ob_).frozen? ⟨PT, 2, none⟩ = false := fun ob_ => (Blk.alloc hT ob_).frozen 2
      have z157 : x4.cell? ⟨PT, 3, none⟩ = some (.int .i64 (-1)) := (hT.cell 3).trans rfl
      have z158 := hT.frozen 3
      have z159 : ∀ ob_, (x4.alloc ob_).cell? ⟨PT, 3, none⟩ = some (.int .i64 (-1)) := fun ob_ => ((Blk.alloc hT ob_).cell 3).trans rfl
      have z160 : ∀ ob_, (x4.alloc ob_).frozen? ⟨PT, 3, none⟩ = false := fun ob_ => (Blk.alloc hT ob_).frozen 3
      have z161 : x4.cell? ⟨PT, 4, none⟩ = some (.slice (some ⟨w.heap.size, 0, none⟩) 1 1) := (hT.cell 4).trans rfl
      have z162 := hT.frozen 4
      have z163 : ∀ ob_, (x4.alloc ob_).cell? ⟨PT, 4, none⟩ = some (.slice (some ⟨w.heap.size, 0, none⟩) 1 1) := fun ob_ => ((Blk.alloc hT ob_).cell 4).trans rfl
      have z164 : ∀ ob_, (x4.alloc ob_).frozen? ⟨PT, 4, none⟩ = false := fun ob_ => (Blk.alloc hT ob_).frozen 4
      have z165 : x4.cell? ⟨PT, 5, none⟩ = some (.int .i64 2) := (hT.cell 5).trans rfl
      have z166 := hT.frozen 5
      have z167 : ∀ ob_, (x4.alloc ob_).cell? ⟨PT, 5, none⟩ = some (.int .i64 2) := fun ob_ => ((Blk.alloc hT ob_).cell 5).trans rfl
      have z168 : ∀ ob_, (x4.alloc ob_).frozen? ⟨PT, 5, none⟩ = false := fun ob_ => (Blk.alloc hT ob_).frozen 5
      have z169 : x4.cell? ⟨PT, 6, none⟩ = some (.slice (some ⟨w.heap.size + 1, 0, none⟩) 200001 200001) := (hT.cell 6).trans rfl
      have z170 := hT.frozen 6
      have z171 : ∀ ob_, (x4.alloc ob_).cell? ⟨PT, 6, none⟩ = some (.slice (some ⟨w.heap.size + 1, 0, none⟩) 200001 200001) := fun ob_ => ((Blk.alloc hT ob_).cell 6).trans rfl
      have z172 : ∀ ob_, (x4.alloc ob_).frozen? ⟨PT, 6, none⟩ = false := fun ob_ => (Blk.alloc hT ob_).frozen 6
      have z173 : x4.cell? ⟨PT, 7, none⟩ = some (.int .i64 0) := (hT.cell 7).trans rfl
      have z174 := hT.frozen 7
      have z175 : ∀ ob_, (x4.alloc ob_).cell? ⟨PT, 7, none⟩ = some (.int .i64 0) := fun ob_ => ((Blk.alloc hT ob_).cell 7).trans rfl
      have z176 : ∀ ob_, (x4.alloc ob_).frozen? ⟨PT, 7, none⟩ = false := fun ob_ => (Blk.alloc hT ob_).frozen 7
      have z177 : x4.cell? ⟨PT, 8, none⟩ = some (.slice none 0 0) := (hT.cell 8).trans rfl
      have z178 := hT.frozen 8
      have z179 : ∀ ob_, (x4.alloc ob_).cell? ⟨PT, 8, none⟩ = some (.slice none 0 0) := fun ob_ => ((Blk.alloc hT ob_).cell 8).trans rfl
      have z180 : ∀ ob_, (x4.alloc ob_).frozen? ⟨PT, 8, none⟩ = false := fun ob_ => (Blk.alloc hT ob_).frozen 8
      have z181 : x4.cell? ⟨PT, 9, none⟩ = some (.int .i64 9223372036854775807) := (hT.cell 9).trans rfl
      have z182 := hT.frozen 9
      have z183 : ∀ ob_, (x4.alloc ob_).cell? ⟨PT, 9, none⟩ = some (.int .i64 9223372036854775807) := fun ob_ => ((Blk.alloc hT ob_).cell 9).trans rfl
      have z184 : ∀ ob_, (x4.alloc ob_).frozen? ⟨PT, 9, none⟩ = false := fun ob_ => (Blk.alloc hT ob_).frozen 9
      have z185 := hT.lt
      go_wp2_with fail
      refine (untextBad none 0 0 [] 9223372036854775807 (-1) (by omega) (by omega) _ Reads.none_ (by omega) 8 (ck_ut HCK.out) (by omega)).mono ?_
      rintro e x5 ⟨rfl, bB⟩
      replace hT := Blk.via0 (g := PT) (t := 33) bB (by repeat (first | with_reducible exact hT | with_reducible (apply Blk.set_) | with_reducible (apply Blk.far; case hp => (simp <;> omega)) | with_reducible (apply Blk.alloc) | with_reducible (apply Blk.drew)))
      replace hT : Blk x5 PT 33 #[.slice none 0 0, .int .i64 1, .slice none 0 0, .int .i64 (-1), .slice (some ⟨w.heap.size, 0, none⟩) 1 1, .int .i64 2, .slice (some ⟨w.heap.size + 1, 0, none⟩) 200001 200001, .int .i64 0, .slice none 0 0, .int .i64 9223372036854775807] := hT
      replace hC := Below.via (w := wr) (by have hs_ := hC.size; repeat (first | with_reducible exact hC | with_reducible (refine Below.setCell ?_ (by simp <;> omega) _) | with_reducible (refine Below.alloc ?_ (by first | exact hs_ | (simp <;> omega)) _) | with_reducible (refine Below.drew ?_))) bB
      replace hB := Below.via (w := w) (by have hs_ := hB.size; repeat (first | with_reducible exact hB | with_reducible (refine Below.setCell ?_ (by simp <;> omega) _) | with_reducible (refine Below.alloc ?_ (by first | exact hs_ | (simp <;> omega)) _) | with_reducible (refine Below.drew ?_))) bB
      clear z145 z146 z147 z148 z149 z150 z151 z152 z153 z154 z155 z156 z157 z158 z159 z160 z161 z162 z163 z164 z165 z166 z167 z168 z169 z170 z171 z172 z173 z174 z175 z176 z177 z178 z179 z180 z181 z182 z183 z184 z185
      clear bB
      have z186 : x5.cell? ⟨PT, 0, none⟩ = some (.slice none 0 0) := (hT.cell 0).trans rfl
      have z187 := hT.frozen 0
      have z188 : ∀ ob_, (x5.alloc ob_).cell? ⟨PT, 0, none⟩ = some (.slice none 0 0) := fun ob_ => ((Blk.alloc hT ob_).cell 0).trans rfl
      have z189 : ∀ ob_, (x5.alloc ob_).frozen? ⟨PT, 0, none⟩ = false := fun ob_ => (Blk.alloc hT ob_).frozen 0
      have z190 : x5.cell? ⟨PT, 1, none⟩ = some (.int .i64 1) := (hT.cell 1).trans rfl
      have z191 := hT.frozen 1
      have z192 : ∀ ob_, (x5.alloc ob_).cell? ⟨PT, 1, none⟩ = some (.int .i64 1) := fun ob_ => ((Blk.alloc hT ob_).cell 1).trans rfl
      have z193 : ∀ ob_, (x5.alloc ob_).frozen? ⟨PT, 1, none⟩ = false := fun ob_ => (Blk.alloc hT ob_).frozen 1
      have z194 : x5.cell? ⟨PT, 2, none⟩ = some (.slice none 0 0) := (hT.cell 2).trans rfl
      have z195 := hT.frozen 2
      have z196 : ∀ ob_, (x5.alloc ob_).cell? ⟨PT, 2, none⟩ = some (.slice none 0 0) := fun ob_ => ((Blk.alloc hT ob_).cell 2).trans rfl
      have z197 : ∀ ob_, (x5.alloc ob_).frozen? ⟨PT, 2, none⟩ = false := fun ob_ => (Blk.alloc hT ob_).frozen 2
      have z198 : x5.cell? ⟨PT, 3, none⟩ = some (.int .i64 (-1)) := (hT.cell 3).trans rfl
      have z199 := hT.frozen 3
      have z200 : ∀ ob_, (x5.alloc ob_).cell? ⟨PT, 3, none⟩ = some (.int .i64 (-1)) := fun ob_ => ((Blk.alloc hT ob_).cell 3).trans rfl
      have z201 : ∀ ob_, (x5.alloc ob_).frozen? ⟨PT, 3, none⟩ = false := fun ob_ => (Blk.alloc hT ob_).frozen 3
      have z202 : x5.cell? ⟨PT, 4, none⟩ = some (.slice (some ⟨w.heap.size, 0, none⟩) 1 1) := (hT.cell 4).trans rfl
      have z203 := hT.frozen 4
      have z204 : ∀ ob_, (x5.alloc ob_).cell? ⟨PT, 4, none⟩ = some (.slice (some ⟨w.heap.size, 0, none⟩) 1 1) := fun ob_ => ((Blk.alloc hT ob_).cell 4).trans rfl
      have z205 : ∀ ob_, (x5.alloc ob_).frozen? ⟨PT, 4, none⟩ = false := fun ob_ => (Blk.alloc hT ob_).frozen 4
      have z206 : x5.cell? ⟨PT, 5, none⟩ = some (.int .i64 2) := (hT.cell 5).trans rfl
      have z207 := hT.frozen 5
      have z208 : ∀ ob_, (x5.alloc ob_).cell? ⟨PT, 5, none⟩ = some (.int .i64 2) := fun ob_ => ((Blk.alloc hT ob_).cell 5).trans rfl
      have z209 : ∀ ob_, (x5.alloc ob_).frozen? ⟨PT, 5, none⟩ = false := fun ob_ => (Blk.alloc hT ob_).frozen 5
      have z210 : x5.cell? ⟨PT, 6, none⟩ = some (.slice (some ⟨w.heap.size + 1, 0, none⟩) 200001 200001) := (hT.cell 6).trans rfl
      have z211 := hT.frozen 6
      have z212 : ∀ ob_, (x5.alloc ob_).cell? ⟨PT, 6, none⟩ = some (.slice (some ⟨w.heap.size + 1, 0, none⟩) 200001 200001) := fun ob_ => ((Blk.alloc hT ob_).cell 6).trans rfl
      have z213 : ∀ ob_, (x5.alloc ob_).frozen? ⟨PT, 6, none⟩ = false := fun ob_ => (Blk.alloc hT ob_).frozen 6
      have z214 : x5.cell? ⟨PT, 7, none⟩ = some (.int .i64 0) := (hT.cell 7).trans rfl
      have z215 := hT.frozen 7
      have z216 : ∀ ob_, (x5.alloc ob_).cell? ⟨PT, 7, none⟩ = some (.int .i64 0) := fun ob_ => ((Blk.alloc hT ob_).cell 7).trans rfl
      have z217 : ∀ ob_, (x5.alloc ob_).frozen? ⟨PT, 7, none⟩ = false := fun ob_ => (Blk.alloc hT ob_).frozen 7
      have z218 : x5.cell? ⟨PT, 8, none⟩ = some (.slice none 0 0) := (hT.cell 8).trans rfl
      have z219 := hT.frozen 8
      have z220 : ∀ ob_, (x5.alloc ob_).cell? ⟨PT, 8, none⟩ = some (.slice none 0 0) := fun ob_ => ((Blk.alloc hT ob_).cell 8).trans rfl
      have z221 : ∀ ob_, (x5.alloc ob_).frozen? ⟨PT, 8, none⟩ = false := fun ob_ => (Blk.alloc hT ob_).frozen 8
      have z222 : x5.cell? ⟨PT, 9, none⟩ = some (.int .i64 9223372036854775807) := (hT.cell 9).trans rfl
      have z223 := hT.frozen 9
      have z224 : ∀ ob_, (x5.alloc ob_).cell? ⟨PT, 9, none⟩ = some (.int .i64 9223372036854775807) := fun ob_ => ((Blk.alloc hT ob_).cell 9).trans rfl
      have z225 : ∀ ob_, (x5.alloc ob_).frozen? ⟨PT, 9, none⟩ = false := fun ob_ => (Blk.alloc hT ob_).frozen 9
      have z226 := hT.lt
      go_wp2_with fail
      go_roundw
      case rel => exact ⟨5, by omega, by go_num, (by repeat (first | with_reducible exact hT | with_reducible (apply Blk.set_) | with_reducible (apply Blk.far; case hp => (simp <;> omega)) | with_reducible (apply Blk.alloc) | with_reducible (apply Blk.drew))), HR1.out.mv (by have hs_ := hC.size; repeat (first | with_reducible exact hC | with_reducible (refine Below.setCell ?_ (by simp <;> omega) _) | with_reducible (refine Below.alloc ?_ (by first | exact hs_ | (simp <;> omega)) _) | with_reducible (refine Below.drew ?_))), HR2.out.mv (by have hs_ := hC.size; repeat (first | with_reducible exact hC | with_reducible (refine Below.setCell ?_ (by simp <;> omega) _) | with_reducible (refine Below.alloc ?_ (by first | exact hs_ | (simp <;> omega)) _) | with_reducible (refine Below.drew ?_))), (by have hs_ := hB.size; repeat (first | with_reducible exact hB | with_reducible (refine Below.setCell ?_ (by simp <;> omega) _) | with_reducible (refine Below.alloc ?_ (by first | exact hs_ | (simp <;> omega)) _) | with_reducible (refine Below.drew ?_)))⟩
      case measure => simp [intOf]
    · clear hT HR1 HR2
      have hBm := hB
      go_wp2_with (refine wpList_mk1 _ rfl (.const (.int .i64 200001)) (.const (.int .i64 200001)) rfl sl8 rfl 200001 (by rfl) (by rfl) rfl rfl (by omega) ?_; intro y1 o2 b_)
      rw [rep_b8, ← HZ.out] at o2
      have R2 := own_rd o2
      replace hB := hB.trans (b_.mono hB.size)
      clear o2 b_ hBm
      have HN := new_any (some ⟨wr.heap.size, 0, none⟩) 200001 200001 Z _ R2 (by omega)
      rw [show nwL Z = [] from by rw [nwL, if_neg (by omega)], show nwE Z = 4 from by rw [nwE, if_neg (by omega)]] at HN
      refine (HN).mono ?_
      rintro e y2 ⟨A2, c2, rfl, o2, bB⟩
      replace hB := Below.via (w := w) (by have hs_ := hB.size; repeat (first | with_reducible exact hB | with_reducible (refine Below.setCell ?_ (by simp <;> omega) _) | with_reducible (refine Below.alloc ?_ (by first | exact hs_ | (simp <;> omega)) _) | with_reducible (refine Below.drew ?_))) bB
      clear bB
      clear HN R2 o2
      go_wp2_with fail
      have HN := fun W => fixed_any 1 3 (by omega) (by omega) W
      rw [show fxL 1 3 = [] from by decide, show fxE 1 3 = 2 from by decide] at HN
      refine (HN _).mono ?_
      rintro e y4 ⟨Ay4, cy4, rfl, oy4, bB⟩
      replace hB := Below.via (w := w) (by have hs_ := hB.size; repeat (first | with_reducible exact hB | with_reducible (refine Below.setCell ?_ (by simp <;> omega) _) | with_reducible (refine Below.alloc ?_ (by first | exact hs_ | (simp <;> omega)) _) | with_reducible (refine Below.drew ?_))) bB
      clear bB
      clear HN oy4
      go_wp2_with fail
      have HN := fun W => fixed_any 256 1 (by omega) (by omega) W
      rw [show fxL 256 1 = [] from by decide, show fxE 256 1 = 2 from by decide] at HN
      refine (HN _).mono ?_
      rintro e y5 ⟨Ay5, cy5, rfl, oy5, bB⟩
      replace hB := Below.via (w := w) (by have hs_ := hB.size; repeat (first | with_reducible exact hB | with_reducible (refine Below.setCell ?_ (by simp <;> omega) _) | with_reducible (refine Below.alloc ?_ (by first | exact hs_ | (simp <;> omega)) _) | with_reducible (refine Below.drew ?_))) bB
      clear bB
      clear HN oy5
      go_wp2_with fail
      have HN := fun W => fixed_any 4294967296 4 (by omega) (by omega) W
      rw [show fxL 4294967296 4 = [] from by decide, show fxE 4294967296 4 = 2 from by decide] at HN
      refine (HN _).mono ?_
      rintro e y6 ⟨Ay6, cy6, rfl, oy6, bB⟩
      replace hB := Below.via (w := w) (by have hs_ := hB.size; repeat (first | with_reducible exact hB | with_reducible (refine Below.setCell ?_ (by simp <;> omega) _) | with_reducible (refine Below.alloc ?_ (by first | exact hs_ | (simp <;> omega)) _) | with_reducible (refine Below.drew ?_))) bB
      clear bB
      clear HN oy6
      go_wp2_with fail
      have HN := fun W => fixed_any 18446744073709551615 8 (by omega) (by omega) W
      rw [show fxL 18446744073709551615 8 = [255, 255, 255, 255, 255, 255, 255, 255] from by decide, show fxE 18446744073709551615 8 = 0 from by decide] at HN
      refine (HN _).mono ?_
      rintro e y7 ⟨Ay7, cy7, rfl, oy7, bB⟩
      replace oy7 := own_low oy7 (show w.heap.size ≤ _ from by have hs_ := hB.size; simp <;> omega)
      replace hB := Below.via (w := w) (by have hs_ := hB.size; repeat (first | with_reducible exact hB | with_reducible (refine Below.setCell ?_ (by simp <;> omega) _) | with_reducible (refine Below.alloc ?_ (by first | exact hs_ | (simp <;> omega)) _) | with_reducible (refine Below.drew ?_))) bB
      clear bB
      clear HN
      go_wp2_with fail
      have RL : Rb (y7.alloc (.cells #[.int .u8 1, .int .u8 2, .int .u8 3] 5)) (some ⟨y7.heap.size, 0, none⟩) 3 [1, 2, 3] := reads_bytes y7 [1, 2, 3] 5
      refine (full_any (some ⟨y7.heap.size, 0, none⟩) 3 3 _).mono ?_
      rintro e y8 ⟨rfl, bB⟩
      replace RL := RL.mv bB
      replace oy7 := own_call (by repeat (first | with_reducible exact oy7 | (with_reducible apply own_set_; case hne => first | skip) | with_reducible (apply own_alloc_) | with_reducible (apply own_drew_))) bB
      replace hB := Below.via (w := w) (by have hs_ := hB.size; repeat (first | with_reducible exact hB | with_reducible (refine Below.setCell ?_ (by simp <;> omega) _) | with_reducible (refine Below.alloc ?_ (by first | exact hs_ | (simp <;> omega)) _) | with_reducible (refine Below.drew ?_))) bB
      clear bB
      go_wp2_with fail
      refine (unfixedBad (some ⟨y7.heap.size, 0, none⟩) 3 3 [1, 2, 3] 0 3 (by omega) (by omega) _ RL (by omega) 2 (by decide) (by omega)).mono ?_
      rintro e y9 ⟨rfl, bB⟩
      replace oy7 := own_call (by repeat (first | with_reducible exact oy7 | (with_reducible apply own_set_; case hne => first | skip) | with_reducible (apply own_alloc_) | with_reducible (apply own_drew_))) bB
      replace hB := Below.via (w := w) (by have hs_ := hB.size; repeat (first | with_reducible exact hB | with_reducible (refine Below.setCell ?_ (by simp <;> omega) _) | with_reducible (refine Below.alloc ?_ (by first | exact hs_ | (simp <;> omega)) _) | with_reducible (refine Below.drew ?_))) bB
      clear bB
      clear RL
      go_wp2_with fail
      have RL : Rb ((y9.alloc (.cells #[.slice none 0 0, .int .i64 0] 33)).alloc (.cells #[.int .u8 1, .int .u8 2, .int .u8 3] 5)) (some ⟨y9.heap.size + 1, 0, none⟩) 3 [1, 2, 3] := by
        have h := reads_bytes (y9.alloc (.cells #[.slice none 0 0, .int .i64 0] 33)) [1, 2, 3] 5
        rw [show (y9.alloc (.cells #[.slice none 0 0, .int .i64 0] 33)).heap.size = y9.heap.size + 1 from by simp] at h
        exact h
      refine (full_any (some ⟨y9.heap.size + 1, 0, none⟩) 3 3 _).mono ?_
      rintro e y10 ⟨rfl, bB⟩
      replace RL := RL.mv bB
      replace oy7 := own_call (by repeat (first | with_reducible exact oy7 | (with_reducible apply own_set_; case hne => first | skip) | with_reducible (apply own_alloc_) | with_reducible (apply own_drew_))) bB
      replace hB := Below.via (w := w) (by have hs_ := hB.size; repeat (first | with_reducible exact hB | with_reducible (refine Below.setCell ?_ (by simp <;> omega) _) | with_reducible (refine Below.alloc ?_ (by first | exact hs_ | (simp <;> omega)) _) | with_reducible (refine Below.drew ?_))) bB
      clear bB
      go_wp2_with fail
      refine (unfixedBad (some ⟨y9.heap.size + 1, 0, none⟩) 3 3 [1, 2, 3] 0 4 (by omega) (by omega) _ RL (by omega) 24 (by decide) (by omega)).mono ?_
      rintro e y11 ⟨rfl, bB⟩
      replace oy7 := own_call (by repeat (first | with_reducible exact oy7 | (with_reducible apply own_set_; case hne => first | skip) | with_reducible (apply own_alloc_) | with_reducible (apply own_drew_))) bB
      replace hB := Below.via (w := w) (by have hs_ := hB.size; repeat (first | with_reducible exact hB | with_reducible (refine Below.setCell ?_ (by simp <;> omega) _) | with_reducible (refine Below.alloc ?_ (by first | exact hs_ | (simp <;> omega)) _) | with_reducible (refine Below.drew ?_))) bB
      clear bB
      clear RL
      go_wp2_with fail
      refine (full_any none 0 0 _).mono ?_
      rintro e y12 ⟨rfl, bB⟩
      have RL : Rb y12 none 0 [] := Reads.none_
      replace oy7 := own_call (by repeat (first | with_reducible exact oy7 | (with_reducible apply own_set_; case hne => first | skip) | with_reducible (apply own_alloc_) | with_reducible (apply own_drew_))) bB
      replace hB := Below.via (w := w) (by have hs_ := hB.size; repeat (first | with_reducible exact hB | with_reducible (refine Below.setCell ?_ (by simp <;> omega) _) | with_reducible (refine Below.alloc ?_ (by first | exact hs_ | (simp <;> omega)) _) | with_reducible (refine Below.drew ?_))) bB
      clear bB
      go_wp2_with fail
      refine (unvaryBad none 0 0 [] 0 5 (by omega) (by omega) _ RL (by omega) 24 (by decide) (by omega)).mono ?_
      rintro e y13 ⟨rfl, bB⟩
      replace oy7 := own_call (by repeat (first | with_reducible exact oy7 | (with_reducible apply own_set_; case hne => first | skip) | with_reducible (apply own_alloc_) | with_reducible (apply own_drew_))) bB
      replace hB := Below.via (w := w) (by have hs_ := hB.size; repeat (first | with_reducible exact hB | with_reducible (refine Below.setCell ?_ (by simp <;> omega) _) | with_reducible (refine Below.alloc ?_ (by first | exact hs_ | (simp <;> omega)) _) | with_reducible (refine Below.drew ?_))) bB
      clear bB
      clear RL
      go_wp2_with fail
      have RL : Rb ((y13.alloc (.cells #[.slice none 0 0, .int .i64 0] 33)).alloc (.cells #[.int .u8 255, .int .u8 255, .int .u8 255, .int .u8 255, .int .u8 255, .int .u8 255, .int .u8 255, .int .u8 255, .int .u8 255] 5)) (some ⟨y13.heap.size + 1, 0, none⟩) 9 [255, 255, 255, 255, 255, 255, 255, 255, 255] := by
        have h := reads_bytes (y13.alloc (.cells #[.slice none 0 0, .int .i64 0] 33)) [255, 255, 255, 255, 255, 255, 255, 255, 255] 5
        rw [show (y13.alloc (.cells #[.slice none 0 0, .int .i64 0] 33)).heap.size = y13.heap.size + 1 from by simp] at h
        exact h
      refine (full_any (some ⟨y13.heap.size + 1, 0, none⟩) 9 9 _).mono ?_
      rintro e y14 ⟨rfl, bB⟩
      replace RL := RL.mv bB
      replace oy7 := own_call (by repeat (first | with_reducible exact oy7 | (with_reducible apply own_set_; case hne => first | skip) | with_reducible (apply own_alloc_) | with_reducible (apply own_drew_))) bB
      replace hB := Below.via (w := w) (by have hs_ := hB.size; repeat (first | with_reducible exact hB | with_reducible (refine Below.setCell ?_ (by simp <;> omega) _) | with_reducible (refine Below.alloc ?_ (by first | exact hs_ | (simp <;> omega)) _) | with_reducible (refine Below.drew ?_))) bB
      clear bB
      go_wp2_with fail
      refine (unvaryBad (some ⟨y13.heap.size + 1, 0, none⟩) 9 9 [255, 255, 255, 255, 255, 255, 255, 255, 255] 0 5 (by omega) (by omega) _ RL (by omega) 24 (by decide) (by omega)).mono ?_
      rintro e y15 ⟨rfl, bB⟩
      replace oy7 := own_call (by repeat (first | with_reducible exact oy7 | (with_reducible apply own_set_; case hne => first | skip) | with_reducible (apply own_alloc_) | with_reducible (apply own_drew_))) bB
      replace hB := Below.via (w := w) (by have hs_ := hB.size; repeat (first | with_reducible exact hB | with_reducible (refine Below.setCell ?_ (by simp <;> omega) _) | with_reducible (refine Below.alloc ?_ (by first | exact hs_ | (simp <;> omega)) _) | with_reducible (refine Below.drew ?_))) bB
      clear bB
      clear RL
      go_wp2_with fail
      have RL : Rb ((y15.alloc (.cells #[.slice none 0 0, .int .i64 0] 33)).alloc (.cells #[.int .u8 255, .int .u8 255, .int .u8 255, .int .u8 255, .int .u8 255, .int .u8 255, .int .u8 255, .int .u8 255, .int .u8 255, .int .u8 2] 5)) (some ⟨y15.heap.size + 1, 0, none⟩) 10 [255, 255, 255, 255, 255, 255, 255, 255, 255, 2] := by
        have h := reads_bytes (y15.alloc (.cells #[.slice none 0 0, .int .i64 0] 33)) [255, 255, 255, 255, 255, 255, 255, 255, 255, 2] 5
        rw [show (y15.alloc (.cells #[.slice none 0 0, .int .i64 0] 33)).heap.size = y15.heap.size + 1 from by simp] at h
        exact h
      refine (full_any (some ⟨y15.heap.size + 1, 0, none⟩) 10 10 _).mono ?_
      rintro e y16 ⟨rfl, bB⟩
      replace RL := RL.mv bB
      replace oy7 := own_call (by repeat (first | with_reducible exact oy7 | (with_reducible apply own_set_; case hne => first | skip) | with_reducible (apply own_alloc_) | with_reducible (apply own_drew_))) bB
      replace hB := Below.via (w := w) (by have hs_ := hB.size; repeat (first | with_reducible exact hB | with_reducible (refine Below.setCell ?_ (by simp <;> omega) _) | with_reducible (refine Below.alloc ?_ (by first | exact hs_ | (simp <;> omega)) _) | with_reducible (refine Below.drew ?_))) bB
      clear bB
      go_wp2_with fail
      refine (unvaryBad (some ⟨y15.heap.size + 1, 0, none⟩) 10 10 [255, 255, 255, 255, 255, 255, 255, 255, 255, 2] 0 5 (by omega) (by omega) _ RL (by omega) 12 (by decide) (by omega)).mono ?_
      rintro e y17 ⟨rfl, bB⟩
      replace oy7 := own_call (by repeat (first | with_reducible exact oy7 | (with_reducible apply own_set_; case hne => first | skip) | with_reducible (apply own_alloc_) | with_reducible (apply own_drew_))) bB
      replace hB := Below.via (w := w) (by have hs_ := hB.size; repeat (first | with_reducible exact hB | with_reducible (refine Below.setCell ?_ (by simp <;> omega) _) | with_reducible (refine Below.alloc ?_ (by first | exact hs_ | (simp <;> omega)) _) | with_reducible (refine Below.drew ?_))) bB
      clear bB
      clear RL
      go_wp2_with fail
      have RL : Rb ((y17.alloc (.cells #[.slice none 0 0, .int .i64 0] 33)).alloc (.cells #[.int .u8 255, .int .u8 255, .int .u8 255, .int .u8 255, .int .u8 255, .int .u8 255, .int .u8 255, .int .u8 255, .int .u8 255, .int .u8 129, .int .u8 0] 5)) (some ⟨y17.heap.size + 1, 0, none⟩) 11 [255, 255, 255, 255, 255, 255, 255, 255, 255, 129, 0] := by
        have h := reads_bytes (y17.alloc (.cells #[.slice none 0 0, .int .i64 0] 33)) [255, 255, 255, 255, 255, 255, 255, 255, 255, 129, 0] 5
        rw [show (y17.alloc (.cells #[.slice none 0 0, .int .i64 0] 33)).heap.size = y17.heap.size + 1 from by simp] at h
        exact h
      refine (full_any (some ⟨y17.heap.size + 1, 0, none⟩) 11 11 _).mono ?_
      rintro e y18 ⟨rfl, bB⟩
      replace RL := RL.mv bB
      replace oy7 := own_call (by repeat (first | with_reducible exact oy7 | (with_reducible apply own_set_; case hne => first | skip) | with_reducible (apply own_alloc_) | with_reducible (apply own_drew_))) bB
      replace hB := Below.via (w := w) (by have hs_ := hB.size; repeat (first | with_reducible exact hB | with_reducible (refine Below.setCell ?_ (by simp <;> omega) _) | with_reducible (refine Below.alloc ?_ (by first | exact hs_ | (simp <;> omega)) _) | with_reducible (refine Below.drew ?_))) bB
      clear bB
      go_wp2_with fail
      refine (unvaryBad (some ⟨y17.heap.size + 1, 0, none⟩) 11 11 [255, 255, 255, 255, 255, 255, 255, 255, 255, 129, 0] 0 5 (by omega) (by omega) _ RL (by omega) 12 (by decide) (by omega)).mono ?_
      rintro e y19 ⟨rfl, bB⟩
      replace oy7 := own_call (by repeat (first | with_reducible exact oy7 | (with_reducible apply own_set_; case hne => first | skip) | with_reducible (apply own_alloc_) | with_reducible (apply own_drew_))) bB
      replace hB := Below.via (w := w) (by have hs_ := hB.size; repeat (first | with_reducible exact hB | with_reducible (refine Below.setCell ?_ (by simp <;> omega) _) | with_reducible (refine Below.alloc ?_ (by first | exact hs_ | (simp <;> omega)) _) | with_reducible (refine Below.drew ?_))) bB
      clear bB
      clear RL
      go_wp2_with fail
      have RL : Rb ((y19.alloc (.cells #[.slice none 0 0, .int .i64 0] 33)).alloc (.cells #[.int .u8 255, .int .u8 255, .int .u8 255, .int .u8 255, .int .u8 255, .int .u8 255, .int .u8 255, .int .u8 255, .int .u8 255, .int .u8 1] 5)) (some ⟨y19.heap.size + 1, 0, none⟩) 10 [255, 255, 255, 255, 255, 255, 255, 255, 255, 1] := by
        have h := reads_bytes (y19.alloc (.cells #[.slice none 0 0, .int .i64 0] 33)) [255, 255, 255, 255, 255, 255, 255, 255, 255, 1] 5
        rw [show (y19.alloc (.cells #[.slice none 0 0, .int .i64 0] 33)).heap.size = y19.heap.size + 1 from by simp] at h
        exact h
      refine (full_any (some ⟨y19.heap.size + 1, 0, none⟩) 10 10 _).mono ?_
      rintro e y20 ⟨rfl, bB⟩
      replace RL := RL.mv bB
      replace oy7 := own_call (by repeat (first | with_reducible exact oy7 | (with_reducible apply own_set_; case hne => first | skip) | with_reducible (apply own_alloc_) | with_reducible (apply own_drew_))) bB
      replace hB := Below.via (w := w) (by have hs_ := hB.size; repeat (first | with_reducible exact hB | with_reducible (refine Below.setCell ?_ (by simp <;> omega) _) | with_reducible (refine Below.alloc ?_ (by first | exact hs_ | (simp <;> omega)) _) | with_reducible (refine Below.drew ?_))) bB
      clear bB
      go_wp2_with fail
      refine ((by have h := unvary_any (some ⟨y19.heap.size + 1, 0, none⟩) 10 10 [255, 255, 255, 255, 255, 255, 255, 255, 255, 1] 0 18446744073709551615 _ RL (by omega) (by omega) (by omega); rw [(uv_ok (some ⟨y19.heap.size + 1, 0, none⟩) 10 10 (show uvE [255, 255, 255, 255, 255, 255, 255, 255, 255, 1] 0 18446744073709551615 = 0 from by decide)).2, show uvN [255, 255, 255, 255, 255, 255, 255, 255, 255, 1] 0 18446744073709551615 = 18446744073709551615 from by decide, show uvE [255, 255, 255, 255, 255, 255, 255, 255, 255, 1] 0 18446744073709551615 = 0 from by decide, show (uvR [255, 255, 255, 255, 255, 255, 255, 255, 255, 1] 0).2.2 = 10 from by decide] at h; exact h : Calls Try.prog 25 #[cur (some ⟨y19.heap.size + 1, 0, none⟩) 10 10 0, .int .u64 18446744073709551615] _ fun e w' => e = .returned (.tuple #[cur (some ⟨y19.heap.size + 1, 0, none⟩) 10 10 10, .int .u64 18446744073709551615, .int .i64 0]) ∧ Below y20.heap.size y20 w')).mono ?_
      rintro e y21 ⟨rfl, bB⟩
      replace oy7 := own_call (by repeat (first | with_reducible exact oy7 | (with_reducible apply own_set_; case hne => first | skip) | with_reducible (apply own_alloc_) | with_reducible (apply own_drew_))) bB
      replace hB := Below.via (w := w) (by have hs_ := hB.size; repeat (first | with_reducible exact hB | with_reducible (refine Below.setCell ?_ (by simp <;> omega) _) | with_reducible (refine Below.alloc ?_ (by first | exact hs_ | (simp <;> omega)) _) | with_reducible (refine Below.drew ?_))) bB
      clear bB
      clear RL
      go_wp2_with fail
      have RL : Rb ((y21.alloc (.cells #[.slice (some ⟨y19.heap.size + 1, 0, none⟩) 10 10, .int .i64 10] 33)).alloc (.cells #[.int .u8 6] 5)) (some ⟨y21.heap.size + 1, 0, none⟩) 1 [6] := by
        have h := reads_bytes (y21.alloc (.cells #[.slice (some ⟨y19.heap.size + 1, 0, none⟩) 10 10, .int .i64 10] 33)) [6] 5
        rw [show (y21.alloc (.cells #[.slice (some ⟨y19.heap.size + 1, 0, none⟩) 10 10, .int .i64 10] 33)).heap.size = y21.heap.size + 1 from by simp] at h
        exact h
      refine (full_any (some ⟨y21.heap.size + 1, 0, none⟩) 1 1 _).mono ?_
      rintro e y22 ⟨rfl, bB⟩
      replace RL := RL.mv bB
      replace oy7 := own_call (by repeat (first | with_reducible exact oy7 | (with_reducible apply own_set_; case hne => first | skip) | with_reducible (apply own_alloc_) | with_reducible (apply own_drew_))) bB
      replace hB := Below.via (w := w) (by have hs_ := hB.size; repeat (first | with_reducible exact hB | with_reducible (refine Below.setCell ?_ (by simp <;> omega) _) | with_reducible (refine Below.alloc ?_ (by first | exact hs_ | (simp <;> omega)) _) | with_reducible (refine Below.drew ?_))) bB
      clear bB
      go_wp2_with fail
      refine (unvaryBad (some ⟨y21.heap.size + 1, 0, none⟩) 1 1 [6] 0 5 (by omega) (by omega) _ RL (by omega) 4 (by decide) (by omega)).mono ?_
      rintro e y23 ⟨rfl, bB⟩
      replace oy7 := own_call (by repeat (first | with_reducible exact oy7 | (with_reducible apply own_set_; case hne => first | skip) | with_reducible (apply own_alloc_) | with_reducible (apply own_drew_))) bB
      replace hB := Below.via (w := w) (by have hs_ := hB.size; repeat (first | with_reducible exact hB | with_reducible (refine Below.setCell ?_ (by simp <;> omega) _) | with_reducible (refine Below.alloc ?_ (by first | exact hs_ | (simp <;> omega)) _) | with_reducible (refine Below.drew ?_))) bB
      clear bB
      clear RL
      go_wp2_with fail
      have RL : Rb ((y23.alloc (.cells #[.slice none 0 0, .int .i64 0] 33)).alloc (.cells #[.int .u8 255, .int .u8 255, .int .u8 255, .int .u8 255, .int .u8 255, .int .u8 255, .int .u8 255, .int .u8 255, .int .u8 255, .int .u8 1] 5)) (some ⟨y23.heap.size + 1, 0, none⟩) 10 [255, 255, 255, 255, 255, 255, 255, 255, 255, 1] := by
        have h := reads_bytes (y23.alloc (.cells #[.slice none 0 0, .int .i64 0] 33)) [255, 255, 255, 255, 255, 255, 255, 255, 255, 1] 5
        rw [show (y23.alloc (.cells #[.slice none 0 0, .int .i64 0] 33)).heap.size = y23.heap.size + 1 from by simp] at h
        exact h
      refine (full_any (some ⟨y23.heap.size + 1, 0, none⟩) 10 10 _).mono ?_
      rintro e y24 ⟨rfl, bB⟩
      replace RL := RL.mv bB
      replace oy7 := own_call (by repeat (first | with_reducible exact oy7 | (with_reducible apply own_set_; case hne => first | skip) | with_reducible (apply own_alloc_) | with_reducible (apply own_drew_))) bB
      replace hB := Below.via (w := w) (by have hs_ := hB.size; repeat (first | with_reducible exact hB | with_reducible (refine Below.setCell ?_ (by simp <;> omega) _) | with_reducible (refine Below.alloc ?_ (by first | exact hs_ | (simp <;> omega)) _) | with_reducible (refine Below.drew ?_))) bB
      clear bB
      go_wp2_with fail
      refine ((by have h := unsigned_any (some ⟨y23.heap.size + 1, 0, none⟩) 10 10 [255, 255, 255, 255, 255, 255, 255, 255, 255, 1] 0 _ RL (by omega) (by omega); rw [(uv_ok (some ⟨y23.heap.size + 1, 0, none⟩) 10 10 (show uvE [255, 255, 255, 255, 255, 255, 255, 255, 255, 1] 0 18446744073709551615 = 0 from by decide)).2, show uvN [255, 255, 255, 255, 255, 255, 255, 255, 255, 1] 0 18446744073709551615 = 18446744073709551615 from by decide, show uvE [255, 255, 255, 255, 255, 255, 255, 255, 255, 1] 0 18446744073709551615 = 0 from by decide, show (uvR [255, 255, 255, 255, 255, 255, 255, 255, 255, 1] 0).2.2 = 10 from by decide, show hlf 18446744073709551615 = -9223372036854775808 from by decide] at h; exact h : Calls Try.prog 32 #[cur (some ⟨y23.heap.size + 1, 0, none⟩) 10 10 0] _ fun e w' => e = .returned (.tuple #[cur (some ⟨y23.heap.size + 1, 0, none⟩) 10 10 10, .int .i64 (-9223372036854775808), .int .i64 0]) ∧ Below y24.heap.size y24 w')).mono ?_
      rintro e y25 ⟨rfl, bB⟩
      replace oy7 := own_call (by repeat (first | with_reducible exact oy7 | (with_reducible apply own_set_; case hne => first | skip) | with_reducible (apply own_alloc_) | with_reducible (apply own_drew_))) bB
      replace hB := Below.via (w := w) (by have hs_ := hB.size; repeat (first | with_reducible exact hB | with_reducible (refine Below.setCell ?_ (by simp <;> omega) _) | with_reducible (refine Below.alloc ?_ (by first | exact hs_ | (simp <;> omega)) _) | with_reducible (refine Below.drew ?_))) bB
      clear bB
      clear RL
      go_wp2_with fail
      have RL : Rb ((y25.alloc (.cells #[.slice (some ⟨y23.heap.size + 1, 0, none⟩) 10 10, .int .i64 10] 33)).alloc (.cells #[.int .u8 3, .int .u8 1, .int .u8 2] 5)) (some ⟨y25.heap.size + 1, 0, none⟩) 3 [3, 1, 2] := by
        have h := reads_bytes (y25.alloc (.cells #[.slice (some ⟨y23.heap.size + 1, 0, none⟩) 10 10, .int .i64 10] 33)) [3, 1, 2] 5
        rw [show (y25.alloc (.cells #[.slice (some ⟨y23.heap.size + 1, 0, none⟩) 10 10, .int .i64 10] 33)).heap.size = y25.heap.size + 1 from by simp] at h
        exact h
      refine (full_any (some ⟨y25.heap.size + 1, 0, none⟩) 3 3 _).mono ?_
      rintro e y26 ⟨rfl, bB⟩
      replace RL := RL.mv bB
      replace oy7 := own_call (by repeat (first | with_reducible exact oy7 | (with_reducible apply own_set_; case hne => first | skip) | with_reducible (apply own_alloc_) | with_reducible (apply own_drew_))) bB
      replace hB := Below.via (w := w) (by have hs_ := hB.size; repeat (first | with_reducible exact hB | with_reducible (refine Below.setCell ?_ (by simp <;> omega) _) | with_reducible (refine Below.alloc ?_ (by first | exact hs_ | (simp <;> omega)) _) | with_reducible (refine Below.drew ?_))) bB
      clear bB
      go_wp2_with fail
      refine (untextBad (some ⟨y25.heap.size + 1, 0, none⟩) 3 3 [3, 1, 2] 0 9 (by omega) (by omega) _ RL (by omega) 24 (by decide) (by omega)).mono ?_
      rintro e y27 ⟨rfl, bB⟩
      replace oy7 := own_call (by repeat (first | with_reducible exact oy7 | (with_reducible apply own_set_; case hne => first | skip) | with_reducible (apply own_alloc_) | with_reducible (apply own_drew_))) bB
      replace hB := Below.via (w := w) (by have hs_ := hB.size; repeat (first | with_reducible exact hB | with_reducible (refine Below.setCell ?_ (by simp <;> omega) _) | with_reducible (refine Below.alloc ?_ (by first | exact hs_ | (simp <;> omega)) _) | with_reducible (refine Below.drew ?_))) bB
      clear bB
      clear RL
      go_wp2_with fail
      have RL : Rb ((y27.alloc (.cells #[.slice none 0 0, .int .i64 0] 33)).alloc (.cells #[.int .u8 3, .int .u8 1, .int .u8 2] 5)) (some ⟨y27.heap.size + 1, 0, none⟩) 3 [3, 1, 2] := by
        have h := reads_bytes (y27.alloc (.cells #[.slice none 0 0, .int .i64 0] 33)) [3, 1, 2] 5
        rw [show (y27.alloc (.cells #[.slice none 0 0, .int .i64 0] 33)).heap.size = y27.heap.size + 1 from by simp] at h
        exact h
      refine (full_any (some ⟨y27.heap.size + 1, 0, none⟩) 3 3 _).mono ?_
      rintro e y28 ⟨rfl, bB⟩
      replace RL := RL.mv bB
      replace oy7 := own_call (by repeat (first | with_reducible exact oy7 | (with_reducible apply own_set_; case hne => first | skip) | with_reducible (apply own_alloc_) | with_reducible (apply own_drew_))) bB
      replace hB := Below.via (w := w) (by have hs_ := hB.size; repeat (first | with_reducible exact hB | with_reducible (refine Below.setCell ?_ (by simp <;> omega) _) | with_reducible (refine Below.alloc ?_ (by first | exact hs_ | (simp <;> omega)) _) | with_reducible (refine Below.drew ?_))) bB
      clear bB
      go_wp2_with fail
      refine (untextBad (some ⟨y27.heap.size + 1, 0, none⟩) 3 3 [3, 1, 2] 0 2 (by omega) (by omega) _ RL (by omega) 4 (by decide) (by omega)).mono ?_
      rintro e y29 ⟨rfl, bB⟩
      replace oy7 := own_call (by repeat (first | with_reducible exact oy7 | (with_reducible apply own_set_; case hne => first | skip) | with_reducible (apply own_alloc_) | with_reducible (apply own_drew_))) bB
      replace hB := Below.via (w := w) (by have hs_ := hB.size; repeat (first | with_reducible exact hB | with_reducible (refine Below.setCell ?_ (by simp <;> omega) _) | with_reducible (refine Below.alloc ?_ (by first | exact hs_ | (simp <;> omega)) _) | with_reducible (refine Below.drew ?_))) bB
      clear bB
      clear RL
      go_wp2_with fail
      have RL : Rb ((y29.alloc (.cells #[.slice none 0 0, .int .i64 0] 33)).alloc (.cells #[.int .u8 0] 5)) (some ⟨y29.heap.size + 1, 0, none⟩) 1 [0] := by
        have h := reads_bytes (y29.alloc (.cells #[.slice none 0 0, .int .i64 0] 33)) [0] 5
        rw [show (y29.alloc (.cells #[.slice none 0 0, .int .i64 0] 33)).heap.size = y29.heap.size + 1 from by simp] at h
        exact h
      refine (full_any (some ⟨y29.heap.size + 1, 0, none⟩) 1 1 _).mono ?_
      rintro e y30 ⟨rfl, bB⟩
      replace RL := RL.mv bB
      replace oy7 := own_call (by repeat (first | with_reducible exact oy7 | (with_reducible apply own_set_; case hne => first | skip) | with_reducible (apply own_alloc_) | with_reducible (apply own_drew_))) bB
      replace hB := Below.via (w := w) (by have hs_ := hB.size; repeat (first | with_reducible exact hB | with_reducible (refine Below.setCell ?_ (by simp <;> omega) _) | with_reducible (refine Below.alloc ?_ (by first | exact hs_ | (simp <;> omega)) _) | with_reducible (refine Below.drew ?_))) bB
      clear bB
      go_wp2_with fail
      refine (untextBad (some ⟨y29.heap.size + 1, 0, none⟩) 1 1 [0] 0 200001 (by omega) (by omega) _ RL (by omega) 2 (by decide) (by omega)).mono ?_
      rintro e y31 ⟨rfl, bB⟩
      replace oy7 := own_call (by repeat (first | with_reducible exact oy7 | (with_reducible apply own_set_; case hne => first | skip) | with_reducible (apply own_alloc_) | with_reducible (apply own_drew_))) bB
      replace hB := Below.via (w := w) (by have hs_ := hB.size; repeat (first | with_reducible exact hB | with_reducible (refine Below.setCell ?_ (by simp <;> omega) _) | with_reducible (refine Below.alloc ?_ (by first | exact hs_ | (simp <;> omega)) _) | with_reducible (refine Below.drew ?_))) bB
      clear bB
      clear RL
      go_wp2_with fail
      have RL : Rb ((y31.alloc (.cells #[.slice none 0 0, .int .i64 0] 33)).alloc (.cells #[.int .u8 128, .int .u8 0] 5)) (some ⟨y31.heap.size + 1, 0, none⟩) 2 [128, 0] := by
        have h := reads_bytes (y31.alloc (.cells #[.slice none 0 0, .int .i64 0] 33)) [128, 0] 5
        rw [show (y31.alloc (.cells #[.slice none 0 0, .int .i64 0] 33)).heap.size = y31.heap.size + 1 from by simp] at h
        exact h
      refine (full_any (some ⟨y31.heap.size + 1, 0, none⟩) 2 2 _).mono ?_
      rintro e y32 ⟨rfl, bB⟩
      replace RL := RL.mv bB
      replace oy7 := own_call (by repeat (first | with_reducible exact oy7 | (with_reducible apply own_set_; case hne => first | skip) | with_reducible (apply own_alloc_) | with_reducible (apply own_drew_))) bB
      replace hB := Below.via (w := w) (by have hs_ := hB.size; repeat (first | with_reducible exact hB | with_reducible (refine Below.setCell ?_ (by simp <;> omega) _) | with_reducible (refine Below.alloc ?_ (by first | exact hs_ | (simp <;> omega)) _) | with_reducible (refine Below.drew ?_))) bB
      clear bB
      go_wp2_with fail
      refine (untextBad (some ⟨y31.heap.size + 1, 0, none⟩) 2 2 [128, 0] 0 200000 (by omega) (by omega) _ RL (by omega) 12 (by decide) (by omega)).mono ?_
      rintro e y33 ⟨rfl, bB⟩
      replace oy7 := own_call (by repeat (first | with_reducible exact oy7 | (with_reducible apply own_set_; case hne => first | skip) | with_reducible (apply own_alloc_) | with_reducible (apply own_drew_))) bB
      replace hB := Below.via (w := w) (by have hs_ := hB.size; repeat (first | with_reducible exact hB | with_reducible (refine Below.setCell ?_ (by simp <;> omega) _) | with_reducible (refine Below.alloc ?_ (by first | exact hs_ | (simp <;> omega)) _) | with_reducible (refine Below.drew ?_))) bB
      clear bB
      clear RL
      have hBm := hB.alloc hB.size (.cells #[.slice none 0 0, .int .i64 0] 33)
      have oTm := own_alloc_ oy7 (.cells #[.slice none 0 0, .int .i64 0] 33)
      go_wp2_with (refine wpList_mk1 _ rfl (.const (.int .i64 200001)) (.const (.int .i64 200001)) rfl sl8 rfl 200001 (by rfl) (by rfl) rfl rfl (by omega) ?_; intro t1 o3 b_; rw [rep_b8, ← HZ.out] at o3; have R3 := own_rd o3; (try rw [alloc_size] at R3); have K3 := cvS 200001 R3)
      replace hB := hBm.trans (b_.mono hBm.size)
      have oT := own_call oTm b_
      have hsz : (⟨Z.toArray⟩ : ByteArray).size = 200001 := by rw [← hZl]; rfl
      have HN := text_any ⟨Z.toArray⟩ (by rw [hsz]; omega) t1
      rw [show txL ⟨Z.toArray⟩ = [] from by rw [txL, if_neg (by rw [hsz]; omega)], show txE ⟨Z.toArray⟩ = 4 from by rw [txE, if_neg (by rw [hsz]; omega)]] at HN
      clear hBm oTm b_ K3 R3 o3 hsz oy7
      refine (HN).mono ?_
      rintro e t2 ⟨A9, c9, rfl, o9, bB⟩
      replace oT := own_call (by repeat (first | with_reducible exact oT | (with_reducible apply own_set_; case hne => first | skip) | with_reducible (apply own_alloc_) | with_reducible (apply own_drew_))) bB
      replace hB := Below.via (w := w) (by have hs_ := hB.size; repeat (first | with_reducible exact hB | with_reducible (refine Below.setCell ?_ (by simp <;> omega) _) | with_reducible (refine Below.alloc ?_ (by first | exact hs_ | (simp <;> omega)) _) | with_reducible (refine Below.drew ?_))) bB
      clear bB
      clear HN o9
      go_wp2_with fail
      have RL : Rb (t2.alloc (.cells #[.int .u8 255, .int .u8 255, .int .u8 255, .int .u8 255, .int .u8 255, .int .u8 255, .int .u8 255, .int .u8 255] 5)) (some ⟨t2.heap.size, 0, none⟩) 8 [255, 255, 255, 255, 255, 255, 255, 255] := reads_bytes t2 [255, 255, 255, 255, 255, 255, 255, 255] 5
      refine (is_any Ay7 _ 8 cy7 8 8 [255, 255, 255, 255, 255, 255, 255, 255] _ (own_rd (own_alloc_ oT (.cells #[.int .u8 255, .int .u8 255, .int .u8 255, .int .u8 255, .int .u8 255, .int .u8 255, .int .u8 255, .int .u8 255] 5))) RL).mono ?_
      rintro e wq ⟨rfl, rfl⟩
      go_wp2_with fail
      clear RL
      clear oT
      have HN := fun W => signed_any (-9223372036854775808) (by omega) W
      rw [show vry (dbl (-9223372036854775808)) = [255, 255, 255, 255, 255, 255, 255, 255, 255, 1] from by decide] at HN
      refine (HN _).mono ?_
      rintro e t3 ⟨A8, c8, rfl, o8, bB⟩
      replace o8 := own_low o8 (show w.heap.size ≤ _ from by have hs_ := hB.size; simp <;> omega)
      replace hB := Below.via (w := w) (by have hs_ := hB.size; repeat (first | with_reducible exact hB | with_reducible (refine Below.setCell ?_ (by simp <;> omega) _) | with_reducible (refine Below.alloc ?_ (by first | exact hs_ | (simp <;> omega)) _) | with_reducible (refine Below.drew ?_))) bB
      clear bB
      clear HN
      go_wp2_with fail
      have RL : Rb (t3.alloc (.cells #[.int .u8 255, .int .u8 255, .int .u8 255, .int .u8 255, .int .u8 255, .int .u8 255, .int .u8 255, .int .u8 255, .int .u8 255, .int .u8 1] 5)) (some ⟨t3.heap.size, 0, none⟩) 10 [255, 255, 255, 255, 255, 255, 255, 255, 255, 1] := reads_bytes t3 [255, 255, 255, 255, 255, 255, 255, 255, 255, 1] 5
      refine (is_any A8 _ 10 c8 10 10 [255, 255, 255, 255, 255, 255, 255, 255, 255, 1] _ (own_rd (own_alloc_ o8 (.cells #[.int .u8 255, .int .u8 255, .int .u8 255, .int .u8 255, .int .u8 255, .int .u8 255, .int .u8 255, .int .u8 255, .int .u8 255, .int .u8 1] 5))) RL).mono ?_
      rintro e wq ⟨rfl, rfl⟩
      go_wp2_with fail
      clear RL o8
      refine (alive_any _).mono ?_
      rintro e t4 ⟨rfl, bB⟩
      replace hB := Below.via (w := w) (by have hs_ := hB.size; repeat (first | with_reducible exact hB | with_reducible (refine Below.setCell ?_ (by simp <;> omega) _) | with_reducible (refine Below.alloc ?_ (by first | exact hs_ | (simp <;> omega)) _) | with_reducible (refine Below.drew ?_))) bB
      clear bB
      go_wp2_with fail
      go_ret
      exact ⟨rfl, (by have hs_ := hB.size; repeat (first | with_reducible exact hB | with_reducible (refine Below.setCell ?_ (by simp <;> omega) _) | with_reducible (refine Below.alloc ?_ (by first | exact hs_ | (simp <;> omega)) _) | with_reducible (refine Below.drew ?_)))⟩
    · omega

end Go.Proofs.Ytnonikeolpokkaa
