/- The walk of MemoryFinds. -/
import Derived.Test.YtponceakelimeaaMem25
import Derived.Test.YtponceakelimeaaMemOpen
import Derived.Test.YtponceakelimeaaMemoryWrites
namespace Go.Proofs.Ytponceakelimeaa
open Go.RowKit Wire
set_option linter.unusedVariables false

set_option maxRecDepth 100000 in
set_option maxHeartbeats 8000000 in
theorem memoryFinds_walk (w : World) (b : Nat) (A0 : Option Addr) (n0 c0 : Nat) (l0 : List UInt8) (hr0 : Rb w A0 n0 l0) (hc0 : n0 ≤ c0 ∧ c0 ≤ 9223372036854775807) (hb : b < 18446744073709551616) (A : Option Addr) (m c : Nat) (L : List (Nat × List UInt8)) (hr : RdR w A m L) (hc : m ≤ c ∧ c ≤ 9223372036854775807) (at_ : Nat) (hat : at_ < 18446744073709551616) (n : Int) (hn : -9223372036854775808 ≤ n ∧ n ≤ 9223372036854775807) :
    Calls Try.prog 4 #[rgn b A0 n0 c0, .slice A m c, .int .u64 (at_ : Int), .int .i64 n] w fun e w' => e = .returned (.bool true) ∧ Below w.heap.size w w' := by
  have hl := hr0.len8
  subst hl
  have HR0 := Lib.hid hr0
  have HRS := Lib.hid hr
  clear hr0 hr
  obtain ⟨g1, hg1⟩ : ∃ g1, grB [(b, l0)] = g1 := ⟨_, rfl⟩
  obtain ⟨g2, hg2⟩ : ∃ g2, grB L = g2 := ⟨_, rfl⟩
  have HLn := Lib.hid HRS.out.1
  have HG := Lib.hid (And.intro hg1 hg2)
  clear hg1 hg2
  obtain ⟨T, hT⟩ : ∃ T, byL b l0 L at_ n = T := ⟨_, rfl⟩
  obtain ⟨f, hf⟩ : ∃ f, byE b l0 L at_ n = f := ⟨_, rfl⟩
  have HBY := Lib.hid (fun W (h0 : Rb W A0 l0.length l0) (h1 : RdR W A m L) (hm : m ≤ 1000000) => bytes_any b A0 l0.length c0 l0 A m c L at_ n W h0 hc0 hb h1 hm hat)
  have HRB := Lib.hid (fun W (h0 : Rb W A0 l0.length l0) (h1 : RdR W A m L) (hm : m ≤ 1000000) => rbytes_any b A0 l0.length c0 l0 A m c L at_ n W h0 hc0 hb h1 hm hat)
  unfold ByP at HBY HRB
  rw [hT, hf] at HBY HRB
  obtain ⟨f2, hf2⟩ : ∃ f2, woE b l0 L at_ = f2 := ⟨_, rfl⟩
  obtain ⟨x2, hx2⟩ : ∃ x2, woN b l0 L at_ = x2 := ⟨_, rfl⟩
  clear hT hf hf2 hx2
  have hB : Below w.heap.size w (w.alloc (.cells #[.int .u64 (b : Int), .slice A0 l0.length c0] 25)) := (Below.alloc (Below.refl w.heap.size w) (by simp <;> omega) (.cells #[.int .u64 (b : Int), .slice A0 l0.length c0] 25))
  have hk := Blk.new w 25 #[.int .u64 (b : Int), .slice A0 l0.length c0]
  have S1 := rdR_one (HR0.out.mv hB) hc0 hb
  rw [alloc_size] at S1
  go_enter Try.func4, Try.ntmps4
  have z1 : (w.alloc (.cells #[.int .u64 (b : Int), .slice A0 l0.length c0] 25)).cell? ⟨w.heap.size, 0, none⟩ = some (.int .u64 (b : Int)) := (hk.cell 0).trans rfl
  have z2 := hk.frozen 0
  have z3 : (w.alloc (.cells #[.int .u64 (b : Int), .slice A0 l0.length c0] 25)).cell? ⟨w.heap.size, 1, none⟩ = some (.slice A0 l0.length c0) := (hk.cell 1).trans rfl
  have z4 := hk.frozen 1
  have z5 := hk.lt
  go_wp2_with fail
  refine (great26_any _ 1 1 [(b, l0)] _ S1 (by omega)).mono ?_
  rintro e wq ⟨rfl, rfl⟩
  rw [HG.out.1]
  clear S1
  cases g1
  rotate_left
  · go_wp2_with fail
    go_ret
    exact ⟨rfl, (by have hs_ := hB.size; repeat (first | with_reducible exact hB | with_reducible (refine Below.setCell ?_ (by simp <;> omega) _) | with_reducible (refine Below.alloc ?_ (by first | exact hs_ | (simp <;> omega)) _) | with_reducible (refine Below.drew ?_)))⟩
  go_wp2_with fail
  refine (great26_any A m c L _ (HRS.out.mv (by have hs_ := hB.size; repeat (first | with_reducible exact hB | with_reducible (refine Below.setCell ?_ (by simp <;> omega) _) | with_reducible (refine Below.alloc ?_ (by first | exact hs_ | (simp <;> omega)) _) | with_reducible (refine Below.drew ?_)))) (by omega)).mono ?_
  rintro e wq ⟨rfl, rfl⟩
  rw [HG.out.2]
  cases g2
  rotate_left
  · go_wp2_with fail
    go_ret
    exact ⟨rfl, (by have hs_ := hB.size; repeat (first | with_reducible exact hB | with_reducible (refine Below.setCell ?_ (by simp <;> omega) _) | with_reducible (refine Below.alloc ?_ (by first | exact hs_ | (simp <;> omega)) _) | with_reducible (refine Below.drew ?_)))⟩
  have hm : m ≤ 1000000 := by have := (grB_bd HG.out.2).1; have := HLn.out; omega
  go_wp2_with fail
  with_reducible refine (word_any b A0 l0.length c0 l0 A m c L at_ _ (HR0.out.mv (by have hs_ := hB.size; repeat (first | with_reducible exact hB | with_reducible (refine Below.setCell ?_ (by simp <;> omega) _) | with_reducible (refine Below.alloc ?_ (by first | exact hs_ | (simp <;> omega)) _) | with_reducible (refine Below.drew ?_)))) hc0 hb (HRS.out.mv (by have hs_ := hB.size; repeat (first | with_reducible exact hB | with_reducible (refine Below.setCell ?_ (by simp <;> omega) _) | with_reducible (refine Below.alloc ?_ (by first | exact hs_ | (simp <;> omega)) _) | with_reducible (refine Below.drew ?_)))) hm hat).mono ?_
  rintro e w2 ⟨rfl, bB⟩
  replace hk := Blk.via0 (g := w.heap.size) (t := 25) bB (by repeat (first | with_reducible exact hk | with_reducible (apply Blk.set_) | with_reducible (apply Blk.far; case hp => (simp <;> omega)) | with_reducible (apply Blk.alloc) | with_reducible (apply Blk.drew)))
  replace hk : Blk w2 w.heap.size 25 #[.int .u64 (b : Int), .slice A0 l0.length c0] := hk
  replace hB := Below.via (w := w) (by have hs_ := hB.size; repeat (first | with_reducible exact hB | with_reducible (refine Below.setCell ?_ (by simp <;> omega) _) | with_reducible (refine Below.alloc ?_ (by first | exact hs_ | (simp <;> omega)) _) | with_reducible (refine Below.drew ?_))) bB
  clear z1 z2 z3 z4 z5
  clear bB
  have z6 : w2.cell? ⟨w.heap.size, 0, none⟩ = some (.int .u64 (b : Int)) := (hk.cell 0).trans rfl
  have z7 := hk.frozen 0
  have z8 : w2.cell? ⟨w.heap.size, 1, none⟩ = some (.slice A0 l0.length c0) := (hk.cell 1).trans rfl
  have z9 := hk.frozen 1
  have z10 := hk.lt
  go_wp2_with fail
  with_reducible refine (rword_any b A0 l0.length c0 l0 A m c L at_ _ (HR0.out.mv (by have hs_ := hB.size; repeat (first | with_reducible exact hB | with_reducible (refine Below.setCell ?_ (by simp <;> omega) _) | with_reducible (refine Below.alloc ?_ (by first | exact hs_ | (simp <;> omega)) _) | with_reducible (refine Below.drew ?_)))) hc0 hb (HRS.out.mv (by have hs_ := hB.size; repeat (first | with_reducible exact hB | with_reducible (refine Below.setCell ?_ (by simp <;> omega) _) | with_reducible (refine Below.alloc ?_ (by first | exact hs_ | (simp <;> omega)) _) | with_reducible (refine Below.drew ?_)))) hm hat).mono ?_
  rintro e w3 ⟨rfl, bB⟩
  replace hk := Blk.via0 (g := w.heap.size) (t := 25) bB (by repeat (first | with_reducible exact hk | with_reducible (apply Blk.set_) | with_reducible (apply Blk.far; case hp => (simp <;> omega)) | with_reducible (apply Blk.alloc) | with_reducible (apply Blk.drew)))
  replace hk : Blk w3 w.heap.size 25 #[.int .u64 (b : Int), .slice A0 l0.length c0] := hk
  replace hB := Below.via (w := w) (by have hs_ := hB.size; repeat (first | with_reducible exact hB | with_reducible (refine Below.setCell ?_ (by simp <;> omega) _) | with_reducible (refine Below.alloc ?_ (by first | exact hs_ | (simp <;> omega)) _) | with_reducible (refine Below.drew ?_))) bB
  clear z6 z7 z8 z9 z10
  clear bB
  have z11 : w3.cell? ⟨w.heap.size, 0, none⟩ = some (.int .u64 (b : Int)) := (hk.cell 0).trans rfl
  have z12 := hk.frozen 0
  have z13 : w3.cell? ⟨w.heap.size, 1, none⟩ = some (.slice A0 l0.length c0) := (hk.cell 1).trans rfl
  have z14 := hk.frozen 1
  have z15 := hk.lt
  go_wp2_with fail
  with_reducible refine (HBY.out _ (HR0.out.mv (by have hs_ := hB.size; repeat (first | with_reducible exact hB | with_reducible (refine Below.setCell ?_ (by simp <;> omega) _) | with_reducible (refine Below.alloc ?_ (by first | exact hs_ | (simp <;> omega)) _) | with_reducible (refine Below.drew ?_)))) (HRS.out.mv (by have hs_ := hB.size; repeat (first | with_reducible exact hB | with_reducible (refine Below.setCell ?_ (by simp <;> omega) _) | with_reducible (refine Below.alloc ?_ (by first | exact hs_ | (simp <;> omega)) _) | with_reducible (refine Below.drew ?_)))) hm).mono ?_
  rintro e w4 ⟨A1, c1, rfl, o1, bB⟩
  have ne_o1_hk : (Value.slice A1 T.length c1).ownBlock ≠ some w.heap.size := own_not_lt o1 (by first | omega | (simp <;> omega))
  replace o1 := own_low o1 (show w.heap.size ≤ _ from by have hs_ := hB.size; simp <;> omega)
  replace hk := Blk.via0 (g := w.heap.size) (t := 25) bB (by repeat (first | with_reducible exact hk | with_reducible (apply Blk.set_) | with_reducible (apply Blk.far; case hp => (simp <;> omega)) | with_reducible (apply Blk.alloc) | with_reducible (apply Blk.drew)))
  replace hk : Blk w4 w.heap.size 25 #[.int .u64 (b : Int), .slice A0 l0.length c0] := hk
  replace hB := Below.via (w := w) (by have hs_ := hB.size; repeat (first | with_reducible exact hB | with_reducible (refine Below.setCell ?_ (by simp <;> omega) _) | with_reducible (refine Below.alloc ?_ (by first | exact hs_ | (simp <;> omega)) _) | with_reducible (refine Below.drew ?_))) bB
  clear z11 z12 z13 z14 z15
  clear bB
  have z16 : w4.cell? ⟨w.heap.size, 0, none⟩ = some (.int .u64 (b : Int)) := (hk.cell 0).trans rfl
  have z17 := hk.frozen 0
  have z18 : w4.cell? ⟨w.heap.size, 1, none⟩ = some (.slice A0 l0.length c0) := (hk.cell 1).trans rfl
  have z19 := hk.frozen 1
  have z20 := hk.lt
  go_wp2_with fail
  with_reducible refine (HRB.out _ (HR0.out.mv (by have hs_ := hB.size; repeat (first | with_reducible exact hB | with_reducible (refine Below.setCell ?_ (by simp <;> omega) _) | with_reducible (refine Below.alloc ?_ (by first | exact hs_ | (simp <;> omega)) _) | with_reducible (refine Below.drew ?_)))) (HRS.out.mv (by have hs_ := hB.size; repeat (first | with_reducible exact hB | with_reducible (refine Below.setCell ?_ (by simp <;> omega) _) | with_reducible (refine Below.alloc ?_ (by first | exact hs_ | (simp <;> omega)) _) | with_reducible (refine Below.drew ?_)))) hm).mono ?_
  rintro e w5 ⟨A2, c2, rfl, o2, bB⟩
  have ne_o2_hk : (Value.slice A2 T.length c2).ownBlock ≠ some w.heap.size := own_not_lt o2 (by first | omega | (simp <;> omega))
  replace o2 := own_low o2 (show w.heap.size ≤ _ from by have hs_ := hB.size; simp <;> omega)
  replace hk := Blk.via0 (g := w.heap.size) (t := 25) bB (by repeat (first | with_reducible exact hk | with_reducible (apply Blk.set_) | with_reducible (apply Blk.far; case hp => (simp <;> omega)) | with_reducible (apply Blk.alloc) | with_reducible (apply Blk.drew)))
  replace hk : Blk w5 w.heap.size 25 #[.int .u64 (b : Int), .slice A0 l0.length c0] := hk
  replace o1 := own_call (by repeat (first | with_reducible exact o1 | (with_reducible apply own_set_; case hne => first | exact ne_o1_hk) | with_reducible (apply own_alloc_) | with_reducible (apply own_drew_))) bB
  replace hB := Below.via (w := w) (by have hs_ := hB.size; repeat (first | with_reducible exact hB | with_reducible (refine Below.setCell ?_ (by simp <;> omega) _) | with_reducible (refine Below.alloc ?_ (by first | exact hs_ | (simp <;> omega)) _) | with_reducible (refine Below.drew ?_))) bB
  clear z16 z17 z18 z19 z20
  clear bB
  have K1 := cvS c1 (own_rd o1)
  have K2 := cvS c2 (own_rd o2)
  go_wp2_with fail
  go_ret
  exact ⟨rfl, hB⟩

end Go.Proofs.Ytponceakelimeaa
