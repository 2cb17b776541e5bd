/- The contracts of the reference's Bytes and Word. Each states its conditions. -/
import Derived.Test.YtponceakelimeaaMem24
namespace Go.Proofs.Ytponceakelimeaa
open Go.RowKit Wire
set_option linter.unusedVariables false

set_option maxRecDepth 100000 in
set_option maxHeartbeats 4000000 in
theorem rbytes_any (b : Nat) (A0 : Option Addr) (n0 c0 : Nat) (l0 : List UInt8) (A : Option Addr) (m c : Nat) (L : List (Nat × List UInt8)) (at_ : Nat) (n : Int) (w : World) (hr0 : Rb w A0 n0 l0) (hc0 : n0 ≤ c0 ∧ c0 ≤ 9223372036854775807) (hb : b < 18446744073709551616) (hr : RdR w A m L) (hm : m ≤ 1000000) (hat : at_ < 18446744073709551616) :
    Calls Try.prog 21 #[rgn b A0 n0 c0, .slice A m c, .int .u64 (at_ : Int), .int .i64 n] w fun e w' => ByP w b l0 L at_ n e w' := by
  have hl := hr0.len8
  subst hl
  have HR0 := Lib.hid hr0
  have HRS := Lib.hid hr
  clear hr0 hr
  cases hh : hpB b l0.length
  · have HH := Lib.hid hh
    have HV := Lib.hid (by_no (b := b) (l0 := l0) (L := L) (at_ := at_) (n := n) (e := 8) (by unfold byE; rw [hh]; rfl) (by decide))
    clear hh
    have hB : Below w.heap.size w (w.alloc (.cells #[.int .u64 (b : Int), .slice A0 l0.length c0] 25)) := (Below.alloc (Below.refl w.heap.size w) (by simp <;> omega) (.cells #[.int .u64 (b : Int), .slice A0 l0.length c0] 25))
    have hk := Blk.new w 25 #[.int .u64 (b : Int), .slice A0 l0.length c0]
    go_enter Try.func21, Try.ntmps21
    have z1 : (w.alloc (.cells #[.int .u64 (b : Int), .slice A0 l0.length c0] 25)).cell? ⟨w.heap.size, 0, none⟩ = some (.int .u64 (b : Int)) := (hk.cell 0).trans rfl
    have z2 := hk.frozen 0
    have z3 : (w.alloc (.cells #[.int .u64 (b : Int), .slice A0 l0.length c0] 25)).cell? ⟨w.heap.size, 1, none⟩ = some (.slice A0 l0.length c0) := (hk.cell 1).trans rfl
    have z4 := hk.frozen 1
    have z5 := hk.lt
    go_wp2_with fail
    with_reducible refine (heap26_any b A0 l0.length c0 _).mono ?_
    rintro e w1 ⟨rfl, bB⟩
    rw [HH.out]
    replace hk := Blk.via0 (g := w.heap.size) (t := 25) bB (by repeat (first | with_reducible exact hk | with_reducible (apply Blk.set_) | with_reducible (apply Blk.far; case hp => (simp <;> omega)) | with_reducible (apply Blk.alloc) | with_reducible (apply Blk.drew)))
    replace hk : Blk w1 w.heap.size 25 #[.int .u64 (b : Int), .slice A0 l0.length c0] := hk
    replace hB := Below.via (w := w) (by have hs_ := hB.size; repeat (first | with_reducible exact hB | with_reducible (refine Below.setCell ?_ (by simp <;> omega) _) | with_reducible (refine Below.alloc ?_ (by first | exact hs_ | (simp <;> omega)) _) | with_reducible (refine Below.drew ?_))) bB
    clear z1 z2 z3 z4 z5
    clear bB
    have z6 : w1.cell? ⟨w.heap.size, 0, none⟩ = some (.int .u64 (b : Int)) := (hk.cell 0).trans rfl
    have z7 := hk.frozen 0
    have z8 : w1.cell? ⟨w.heap.size, 1, none⟩ = some (.slice A0 l0.length c0) := (hk.cell 1).trans rfl
    have z9 := hk.frozen 1
    have z10 := hk.lt
    go_wp2_with fail
    go_ret2
    unfold ByP
    exact ⟨none, 0, by rw [HV.out.1, HV.out.2]; rfl, by rw [HV.out.2]; exact World.ownsRow_nil _ _ _ _, (by have hs_ := hB.size; repeat (first | with_reducible exact hB | with_reducible (refine Below.setCell ?_ (by simp <;> omega) _) | with_reducible (refine Below.alloc ?_ (by first | exact hs_ | (simp <;> omega)) _) | with_reducible (refine Below.drew ?_)))⟩
  have HH := Lib.hid hh
  clear hh
  cases hs : stB L
  · have HS := Lib.hid hs
    have HV := Lib.hid (by_no (b := b) (l0 := l0) (L := L) (at_ := at_) (n := n) (e := 8) (by unfold byE; rw [HH.out, hs]; rfl) (by decide))
    clear hs
    have hB : Below w.heap.size w (w.alloc (.cells #[.int .u64 (b : Int), .slice A0 l0.length c0] 25)) := (Below.alloc (Below.refl w.heap.size w) (by simp <;> omega) (.cells #[.int .u64 (b : Int), .slice A0 l0.length c0] 25))
    have hk := Blk.new w 25 #[.int .u64 (b : Int), .slice A0 l0.length c0]
    go_enter Try.func21, Try.ntmps21
    have z1 : (w.alloc (.cells #[.int .u64 (b : Int), .slice A0 l0.length c0] 25)).cell? ⟨w.heap.size, 0, none⟩ = some (.int .u64 (b : Int)) := (hk.cell 0).trans rfl
    have z2 := hk.frozen 0
    have z3 : (w.alloc (.cells #[.int .u64 (b : Int), .slice A0 l0.length c0] 25)).cell? ⟨w.heap.size, 1, none⟩ = some (.slice A0 l0.length c0) := (hk.cell 1).trans rfl
    have z4 := hk.frozen 1
    have z5 := hk.lt
    go_wp2_with fail
    with_reducible refine (heap26_any b A0 l0.length c0 _).mono ?_
    rintro e w1 ⟨rfl, bB⟩
    rw [HH.out]
    replace hk := Blk.via0 (g := w.heap.size) (t := 25) bB (by repeat (first | with_reducible exact hk | with_reducible (apply Blk.set_) | with_reducible (apply Blk.far; case hp => (simp <;> omega)) | with_reducible (apply Blk.alloc) | with_reducible (apply Blk.drew)))
    replace hk : Blk w1 w.heap.size 25 #[.int .u64 (b : Int), .slice A0 l0.length c0] := hk
    replace hB := Below.via (w := w) (by have hs_ := hB.size; repeat (first | with_reducible exact hB | with_reducible (refine Below.setCell ?_ (by simp <;> omega) _) | with_reducible (refine Below.alloc ?_ (by first | exact hs_ | (simp <;> omega)) _) | with_reducible (refine Below.drew ?_))) bB
    clear z1 z2 z3 z4 z5
    clear bB
    have z6 : w1.cell? ⟨w.heap.size, 0, none⟩ = some (.int .u64 (b : Int)) := (hk.cell 0).trans rfl
    have z7 := hk.frozen 0
    have z8 : w1.cell? ⟨w.heap.size, 1, none⟩ = some (.slice A0 l0.length c0) := (hk.cell 1).trans rfl
    have z9 := hk.frozen 1
    have z10 := hk.lt
    go_wp2_with fail
    refine (stacks26_any A m c L _ (HRS.out.mv hB)).mono ?_
    rintro e wq ⟨rfl, rfl⟩
    rw [HS.out]
    go_wp2_with fail
    go_ret2
    unfold ByP
    exact ⟨none, 0, by rw [HV.out.1, HV.out.2]; rfl, by rw [HV.out.2]; exact World.ownsRow_nil _ _ _ _, (by have hs_ := hB.size; repeat (first | with_reducible exact hB | with_reducible (refine Below.setCell ?_ (by simp <;> omega) _) | with_reducible (refine Below.alloc ?_ (by first | exact hs_ | (simp <;> omega)) _) | with_reducible (refine Below.drew ?_)))⟩
  have HS := Lib.hid hs
  clear hs
  have HE := Lib.hid (show byE b l0 L at_ n = if n < 0 ∨ 4096 < n then 2 else if at_ = 0 then 42 else if (fdR at_ n.toNat ((b, l0) :: L)).isSome then 0 else 16 from by unfold byE; rw [HH.out, HS.out]; rfl)
  by_cases h1 : n < 0
  · have HV := Lib.hid (by_no (b := b) (l0 := l0) (L := L) (at_ := at_) (n := n) (e := 2) (by rw [HE.out, if_pos (.inl h1)]) (by decide))
    have hB : Below w.heap.size w (w.alloc (.cells #[.int .u64 (b : Int), .slice A0 l0.length c0] 25)) := (Below.alloc (Below.refl w.heap.size w) (by simp <;> omega) (.cells #[.int .u64 (b : Int), .slice A0 l0.length c0] 25))
    have hk := Blk.new w 25 #[.int .u64 (b : Int), .slice A0 l0.length c0]
    go_enter Try.func21, Try.ntmps21
    have z1 : (w.alloc (.cells #[.int .u64 (b : Int), .slice A0 l0.length c0] 25)).cell? ⟨w.heap.size, 0, none⟩ = some (.int .u64 (b : Int)) := (hk.cell 0).trans rfl
    have z2 := hk.frozen 0
    have z3 : (w.alloc (.cells #[.int .u64 (b : Int), .slice A0 l0.length c0] 25)).cell? ⟨w.heap.size, 1, none⟩ = some (.slice A0 l0.length c0) := (hk.cell 1).trans rfl
    have z4 := hk.frozen 1
    have z5 := hk.lt
    go_wp2_with fail
    with_reducible refine (heap26_any b A0 l0.length c0 _).mono ?_
    rintro e w1 ⟨rfl, bB⟩
    rw [HH.out]
    replace hk := Blk.via0 (g := w.heap.size) (t := 25) bB (by repeat (first | with_reducible exact hk | with_reducible (apply Blk.set_) | with_reducible (apply Blk.far; case hp => (simp <;> omega)) | with_reducible (apply Blk.alloc) | with_reducible (apply Blk.drew)))
    replace hk : Blk w1 w.heap.size 25 #[.int .u64 (b : Int), .slice A0 l0.length c0] := hk
    replace hB := Below.via (w := w) (by have hs_ := hB.size; repeat (first | with_reducible exact hB | with_reducible (refine Below.setCell ?_ (by simp <;> omega) _) | with_reducible (refine Below.alloc ?_ (by first | exact hs_ | (simp <;> omega)) _) | with_reducible (refine Below.drew ?_))) bB
    clear z1 z2 z3 z4 z5
    clear bB
    have z6 : w1.cell? ⟨w.heap.size, 0, none⟩ = some (.int .u64 (b : Int)) := (hk.cell 0).trans rfl
    have z7 := hk.frozen 0
    have z8 : w1.cell? ⟨w.heap.size, 1, none⟩ = some (.slice A0 l0.length c0) := (hk.cell 1).trans rfl
    have z9 := hk.frozen 1
    have z10 := hk.lt
    go_wp2_with fail
    refine (stacks26_any A m c L _ (HRS.out.mv hB)).mono ?_
    rintro e wq ⟨rfl, rfl⟩
    rw [HS.out]
    go_wp2_with fail
    go_ret2
    unfold ByP
    exact ⟨none, 0, by rw [HV.out.1, HV.out.2]; rfl, by rw [HV.out.2]; exact World.ownsRow_nil _ _ _ _, (by have hs_ := hB.size; repeat (first | with_reducible exact hB | with_reducible (refine Below.setCell ?_ (by simp <;> omega) _) | with_reducible (refine Below.alloc ?_ (by first | exact hs_ | (simp <;> omega)) _) | with_reducible (refine Below.drew ?_)))⟩
  by_cases h2 : 4096 < n
  · have HV := Lib.hid (by_no (b := b) (l0 := l0) (L := L) (at_ := at_) (n := n) (e := 2) (by rw [HE.out, if_pos (.inr h2)]) (by decide))
    have hB : Below w.heap.size w (w.alloc (.cells #[.int .u64 (b : Int), .slice A0 l0.length c0] 25)) := (Below.alloc (Below.refl w.heap.size w) (by simp <;> omega) (.cells #[.int .u64 (b : Int), .slice A0 l0.length c0] 25))
    have hk := Blk.new w 25 #[.int .u64 (b : Int), .slice A0 l0.length c0]
    go_enter Try.func21, Try.ntmps21
    have z1 : (w.alloc (.cells #[.int .u64 (b : Int), .slice A0 l0.length c0] 25)).cell? ⟨w.heap.size, 0, none⟩ = some (.int .u64 (b : Int)) := (hk.cell 0).trans rfl
    have z2 := hk.frozen 0
    have z3 : (w.alloc (.cells #[.int .u64 (b : Int), .slice A0 l0.length c0] 25)).cell? ⟨w.heap.size, 1, none⟩ = some (.slice A0 l0.length c0) := (hk.cell 1).trans rfl
    have z4 := hk.frozen 1
    have z5 := hk.lt
    go_wp2_with fail
    with_reducible refine (heap26_any b A0 l0.length c0 _).mono ?_
    rintro e w1 ⟨rfl, bB⟩
    rw [HH.out]
    replace hk := Blk.via0 (g := w.heap.size) (t := 25) bB (by repeat (first | with_reducible exact hk | with_reducible (apply Blk.set_) | with_reducible (apply Blk.far; case hp => (simp <;> omega)) | with_reducible (apply Blk.alloc) | with_reducible (apply Blk.drew)))
    replace hk : Blk w1 w.heap.size 25 #[.int .u64 (b : Int), .slice A0 l0.length c0] := hk
    replace hB := Below.via (w := w) (by have hs_ := hB.size; repeat (first | with_reducible exact hB | with_reducible (refine Below.setCell ?_ (by simp <;> omega) _) | with_reducible (refine Below.alloc ?_ (by first | exact hs_ | (simp <;> omega)) _) | with_reducible (refine Below.drew ?_))) bB
    clear z1 z2 z3 z4 z5
    clear bB
    have z6 : w1.cell? ⟨w.heap.size, 0, none⟩ = some (.int .u64 (b : Int)) := (hk.cell 0).trans rfl
    have z7 := hk.frozen 0
    have z8 : w1.cell? ⟨w.heap.size, 1, none⟩ = some (.slice A0 l0.length c0) := (hk.cell 1).trans rfl
    have z9 := hk.frozen 1
    have z10 := hk.lt
    go_wp2_with fail
    refine (stacks26_any A m c L _ (HRS.out.mv hB)).mono ?_
    rintro e wq ⟨rfl, rfl⟩
    rw [HS.out]
    go_wp2_with fail
    go_ret2
    unfold ByP
    exact ⟨none, 0, by rw [HV.out.1, HV.out.2]; rfl, by rw [HV.out.2]; exact World.ownsRow_nil _ _ _ _, (by have hs_ := hB.size; repeat (first | with_reducible exact hB | with_reducible (refine Below.setCell ?_ (by simp <;> omega) _) | with_reducible (refine Below.alloc ?_ (by first | exact hs_ | (simp <;> omega)) _) | with_reducible (refine Below.drew ?_)))⟩
  replace HE := Lib.hid (HE.out.trans (if_neg (by omega)))
  by_cases h3 : at_ = 0
  · have HV := Lib.hid (by_no (b := b) (l0 := l0) (L := L) (at_ := at_) (n := n) (e := 42) (by rw [HE.out, if_pos h3]) (by decide))
    subst h3
    have hB : Below w.heap.size w (w.alloc (.cells #[.int .u64 (b : Int), .slice A0 l0.length c0] 25)) := (Below.alloc (Below.refl w.heap.size w) (by simp <;> omega) (.cells #[.int .u64 (b : Int), .slice A0 l0.length c0] 25))
    have hk := Blk.new w 25 #[.int .u64 (b : Int), .slice A0 l0.length c0]
    go_enter Try.func21, Try.ntmps21
    have z1 : (w.alloc (.cells #[.int .u64 (b : Int), .slice A0 l0.length c0] 25)).cell? ⟨w.heap.size, 0, none⟩ = some (.int .u64 (b : Int)) := (hk.cell 0).trans rfl
    have z2 := hk.frozen 0
    have z3 : (w.alloc (.cells #[.int .u64 (b : Int), .slice A0 l0.length c0] 25)).cell? ⟨w.heap.size, 1, none⟩ = some (.slice A0 l0.length c0) := (hk.cell 1).trans rfl
    have z4 := hk.frozen 1
    have z5 := hk.lt
    go_wp2_with fail
    with_reducible refine (heap26_any b A0 l0.length c0 _).mono ?_
    rintro e w1 ⟨rfl, bB⟩
    rw [HH.out]
    replace hk := Blk.via0 (g := w.heap.size) (t := 25) bB (by repeat (first | with_reducible exact hk | with_reducible (apply Blk.set_) | with_reducible (apply Blk.far; case hp => (simp <;> omega)) | with_reducible (apply Blk.alloc) | with_reducible (apply Blk.drew)))
    replace hk : Blk w1 w.heap.size 25 #[.int .u64 (b : Int), .slice A0 l0.length c0] := hk
    replace hB := Below.via (w := w) (by have hs_ := hB.size; repeat (first | with_reducible exact hB | with_reducible (refine Below.setCell ?_ (by simp <;> omega) _) | with_reducible (refine Below.alloc ?_ (by first | exact hs_ | (simp <;> omega)) _) | with_reducible (refine Below.drew ?_))) bB
    clear z1 z2 z3 z4 z5
    clear bB
    have z6 : w1.cell? ⟨w.heap.size, 0, none⟩ = some (.int .u64 (b : Int)) := (hk.cell 0).trans rfl
    have z7 := hk.frozen 0
    have z8 : w1.cell? ⟨w.heap.size, 1, none⟩ = some (.slice A0 l0.length c0) := (hk.cell 1).trans rfl
    have z9 := hk.frozen 1
    have z10 := hk.lt
    go_wp2_with fail
    refine (stacks26_any A m c L _ (HRS.out.mv hB)).mono ?_
    rintro e wq ⟨rfl, rfl⟩
    rw [HS.out]
    go_wp2_with fail
    go_ret2
    unfold ByP
    exact ⟨none, 0, by rw [HV.out.1, HV.out.2]; rfl, by rw [HV.out.2]; exact World.ownsRow_nil _ _ _ _, (by have hs_ := hB.size; repeat (first | with_reducible exact hB | with_reducible (refine Below.setCell ?_ (by simp <;> omega) _) | with_reducible (refine Below.alloc ?_ (by first | exact hs_ | (simp <;> omega)) _) | with_reducible (refine Below.drew ?_)))⟩
  replace HE := Lib.hid (HE.out.trans (if_neg h3))
  have d3 : ((at_ : Int) == 0) = false := by rw [beq_eq_false_iff_ne]; omega
  obtain ⟨n, rfl⟩ : ∃ k : Nat, n = (k : Int) := ⟨n.toNat, by omega⟩
  rw [Int.toNat_natCast] at HE
  have hn4 : n ≤ 4096 := by omega
  cases hf : (fdR at_ n ((b, l0) :: L)).isSome
  · have HF := Lib.hid hf
    have HV := Lib.hid (by_no (b := b) (l0 := l0) (L := L) (at_ := at_) (n := (n : Int)) (e := 16) (by rw [HE.out, hf]; rfl) (by decide))
    clear hf
    have hB : Below w.heap.size w (w.alloc (.cells #[.int .u64 (b : Int), .slice A0 l0.length c0] 25)) := (Below.alloc (Below.refl w.heap.size w) (by simp <;> omega) (.cells #[.int .u64 (b : Int), .slice A0 l0.length c0] 25))
    have hk := Blk.new w 25 #[.int .u64 (b : Int), .slice A0 l0.length c0]
    go_enter Try.func21, Try.ntmps21
    have z1 : (w.alloc (.cells #[.int .u64 (b : Int), .slice A0 l0.length c0] 25)).cell? ⟨w.heap.size, 0, none⟩ = some (.int .u64 (b : Int)) := (hk.cell 0).trans rfl
    have z2 := hk.frozen 0
    have z3 : (w.alloc (.cells #[.int .u64 (b : Int), .slice A0 l0.length c0] 25)).cell? ⟨w.heap.size, 1, none⟩ = some (.slice A0 l0.length c0) := (hk.cell 1).trans rfl
    have z4 := hk.frozen 1
    have z5 := hk.lt
    go_wp2_with fail
    with_reducible refine (heap26_any b A0 l0.length c0 _).mono ?_
    rintro e w1 ⟨rfl, bB⟩
    rw [HH.out]
    replace hk := Blk.via0 (g := w.heap.size) (t := 25) bB (by repeat (first | with_reducible exact hk | with_reducible (apply Blk.set_) | with_reducible (apply Blk.far; case hp => (simp <;> omega)) | with_reducible (apply Blk.alloc) | with_reducible (apply Blk.drew)))
    replace hk : Blk w1 w.heap.size 25 #[.int .u64 (b : Int), .slice A0 l0.length c0] := hk
    replace hB := Below.via (w := w) (by have hs_ := hB.size; repeat (first | with_reducible exact hB | with_reducible (refine Below.setCell ?_ (by simp <;> omega) _) | with_reducible (refine Below.alloc ?_ (by first | exact hs_ | (simp <;> omega)) _) | with_reducible (refine Below.drew ?_))) bB
    clear z1 z2 z3 z4 z5
    clear bB
    have z6 : w1.cell? ⟨w.heap.size, 0, none⟩ = some (.int .u64 (b : Int)) := (hk.cell 0).trans rfl
    have z7 := hk.frozen 0
    have z8 : w1.cell? ⟨w.heap.size, 1, none⟩ = some (.slice A0 l0.length c0) := (hk.cell 1).trans rfl
    have z9 := hk.frozen 1
    have z10 := hk.lt
    go_wp2_with fail
    refine (stacks26_any A m c L _ (HRS.out.mv hB)).mono ?_
    rintro e wq ⟨rfl, rfl⟩
    rw [HS.out]
    go_wp2_with fail
    with_reducible refine (rfind_any b A0 l0.length c0 l0 A m c L at_ n _ (HR0.out.mv hB) hc0 hb (HRS.out.mv hB) hm hat hn4).mono ?_
    rintro e w3 ⟨A3, c3, rfl, o3, bB⟩
    rw [HF.out]
    have hsz2 := hB.size
    replace hk := Blk.via0 (g := w.heap.size) (t := 25) bB (by repeat (first | with_reducible exact hk | with_reducible (apply Blk.set_) | with_reducible (apply Blk.far; case hp => (simp <;> omega)) | with_reducible (apply Blk.alloc) | with_reducible (apply Blk.drew)))
    replace hk : Blk w3 w.heap.size 25 #[.int .u64 (b : Int), .slice A0 l0.length c0] := hk
    replace hB := Below.via (w := w) (by have hs_ := hB.size; repeat (first | with_reducible exact hB | with_reducible (refine Below.setCell ?_ (by simp <;> omega) _) | with_reducible (refine Below.alloc ?_ (by first | exact hs_ | (simp <;> omega)) _) | with_reducible (refine Below.drew ?_))) bB
    clear z6 z7 z8 z9 z10
    clear bB
    clear o3
    have z11 : w3.cell? ⟨w.heap.size, 0, none⟩ = some (.int .u64 (b : Int)) := (hk.cell 0).trans rfl
    have z12 := hk.frozen 0
    have z13 : w3.cell? ⟨w.heap.size, 1, none⟩ = some (.slice A0 l0.length c0) := (hk.cell 1).trans rfl
    have z14 := hk.frozen 1
    have z15 := hk.lt
    go_wp2_with fail
    go_ret2
    unfold ByP
    exact ⟨none, 0, by rw [HV.out.1, HV.out.2]; rfl, by rw [HV.out.2]; exact World.ownsRow_nil _ _ _ _, (by have hs_ := hB.size; repeat (first | with_reducible exact hB | with_reducible (refine Below.setCell ?_ (by simp <;> omega) _) | with_reducible (refine Below.alloc ?_ (by first | exact hs_ | (simp <;> omega)) _) | with_reducible (refine Below.drew ?_)))⟩
  have HF := Lib.hid hf
  have HV := Lib.hid (show byE b l0 L at_ (n : Int) = 0 ∧ byL b l0 L at_ (n : Int) = fdL at_ n ((b, l0) :: L) from by
    have h : byE b l0 L at_ (n : Int) = 0 := by rw [HE.out, hf]; rfl
    exact ⟨h, by rw [byL, if_pos h, Int.toNat_natCast]⟩)
  clear hf
  have hB : Below w.heap.size w (w.alloc (.cells #[.int .u64 (b : Int), .slice A0 l0.length c0] 25)) := (Below.alloc (Below.refl w.heap.size w) (by simp <;> omega) (.cells #[.int .u64 (b : Int), .slice A0 l0.length c0] 25))
  have hk := Blk.new w 25 #[.int .u64 (b : Int), .slice A0 l0.length c0]
  go_enter Try.func21, Try.ntmps21
  have z1 : (w.alloc (.cells #[.int .u64 (b : Int), .slice A0 l0.length c0] 25)).cell? ⟨w.heap.size, 0, none⟩ = some (.int .u64 (b : Int)) := (hk.cell 0).trans rfl
  have z2 := hk.frozen 0
  have z3 : (w.alloc (.cells #[.int .u64 (b : Int), .slice A0 l0.length c0] 25)).cell? ⟨w.heap.size, 1, none⟩ = some (.slice A0 l0.length c0) := (hk.cell 1).trans rfl
  have z4 := hk.frozen 1
  have z5 := hk.lt
  go_wp2_with fail
  with_reducible refine (heap26_any b A0 l0.length c0 _).mono ?_
  rintro e w1 ⟨rfl, bB⟩
  rw [HH.out]
  replace hk := Blk.via0 (g := w.heap.size) (t := 25) bB (by repeat (first | with_reducible exact hk | with_reducible (apply Blk.set_) | with_reducible (apply Blk.far; case hp => (simp <;> omega)) | with_reducible (apply Blk.alloc) | with_reducible (apply Blk.drew)))
  replace hk : Blk w1 w.heap.size 25 #[.int .u64 (b : Int), .slice A0 l0.length c0] := hk
  replace hB := Below.via (w := w) (by have hs_ := hB.size; repeat (first | with_reducible exact hB | with_reducible (refine Below.setCell ?_ (by simp <;> omega) _) | with_reducible (refine Below.alloc ?_ (by first | exact hs_ | (simp <;> omega)) _) | with_reducible (refine Below.drew ?_))) bB
  clear z1 z2 z3 z4 z5
  clear bB
  have z6 : w1.cell? ⟨w.heap.size, 0, none⟩ = some (.int .u64 (b : Int)) := (hk.cell 0).trans rfl
  have z7 := hk.frozen 0
  have z8 : w1.cell? ⟨w.heap.size, 1, none⟩ = some (.slice A0 l0.length c0) := (hk.cell 1).trans rfl
  have z9 := hk.frozen 1
  have z10 := hk.lt
  go_wp2_with fail
  refine (stacks26_any A m c L _ (HRS.out.mv hB)).mono ?_
  rintro e wq ⟨rfl, rfl⟩
  rw [HS.out]
  go_wp2_with fail
  with_reducible refine (rfind_any b A0 l0.length c0 l0 A m c L at_ n _ (HR0.out.mv hB) hc0 hb (HRS.out.mv hB) hm hat hn4).mono ?_
  rintro e w3 ⟨A3, c3, rfl, o3, bB⟩
  rw [HF.out]
  have hsz2 := hB.size
  replace hk := Blk.via0 (g := w.heap.size) (t := 25) bB (by repeat (first | with_reducible exact hk | with_reducible (apply Blk.set_) | with_reducible (apply Blk.far; case hp => (simp <;> omega)) | with_reducible (apply Blk.alloc) | with_reducible (apply Blk.drew)))
  replace hk : Blk w3 w.heap.size 25 #[.int .u64 (b : Int), .slice A0 l0.length c0] := hk
  replace hB := Below.via (w := w) (by have hs_ := hB.size; repeat (first | with_reducible exact hB | with_reducible (refine Below.setCell ?_ (by simp <;> omega) _) | with_reducible (refine Below.alloc ?_ (by first | exact hs_ | (simp <;> omega)) _) | with_reducible (refine Below.drew ?_))) bB
  clear z6 z7 z8 z9 z10
  clear bB
  have z11 : w3.cell? ⟨w.heap.size, 0, none⟩ = some (.int .u64 (b : Int)) := (hk.cell 0).trans rfl
  have z12 := hk.frozen 0
  have z13 : w3.cell? ⟨w.heap.size, 1, none⟩ = some (.slice A0 l0.length c0) := (hk.cell 1).trans rfl
  have z14 := hk.frozen 1
  have z15 := hk.lt
  go_wp2_with fail
  go_ret2
  unfold ByP
  exact ⟨A3, c3, by rw [HV.out.1, HV.out.2]; rfl, by rw [HV.out.2]; exact own_low o3 hsz2, (by have hs_ := hB.size; repeat (first | with_reducible exact hB | with_reducible (refine Below.setCell ?_ (by simp <;> omega) _) | with_reducible (refine Below.alloc ?_ (by first | exact hs_ | (simp <;> omega)) _) | with_reducible (refine Below.drew ?_)))⟩

set_option maxRecDepth 100000 in
set_option maxHeartbeats 4000000 in
theorem rword_any (b : Nat) (A0 : Option Addr) (n0 c0 : Nat) (l0 : List UInt8) (A : Option Addr) (m c : Nat) (L : List (Nat × List UInt8)) (at_ : Nat) (w : World) (hr0 : Rb w A0 n0 l0) (hc0 : n0 ≤ c0 ∧ c0 ≤ 9223372036854775807) (hb : b < 18446744073709551616) (hr : RdR w A m L) (hm : m ≤ 1000000) (hat : at_ < 18446744073709551616) :
    Calls Try.prog 19 #[rgn b A0 n0 c0, .slice A m c, .int .u64 (at_ : Int)] w fun e w' => e = .returned (.tuple #[.int .u64 (woN b l0 L at_ : Nat), .int .i64 (woE b l0 L at_)]) ∧ Below w.heap.size w w' := by
  have hl := hr0.len8
  subst hl
  have HR0 := Lib.hid hr0
  have HRS := Lib.hid hr
  clear hr0 hr
  have bad : ∀ x, byE b l0 L at_ 8 = x → x ≠ 0 → woE b l0 L at_ = x ∧ woN b l0 L at_ = 0 := fun x h hx => by
    have h1 : woE b l0 L at_ = x := by rw [woE, h, if_pos hx]
    exact ⟨h1, by rw [woN, if_neg (by rw [h1]; exact hx)]⟩
  have BAD := Lib.hid bad
  clear bad
  cases hh : hpB b l0.length
  · have HH := Lib.hid hh
    have HV := Lib.hid (BAD.out 8 (by unfold byE; rw [hh]; rfl) (by decide))
    clear hh
    have hB : Below w.heap.size w (w.alloc (.cells #[.int .u64 (b : Int), .slice A0 l0.length c0] 25)) := (Below.alloc (Below.refl w.heap.size w) (by simp <;> omega) (.cells #[.int .u64 (b : Int), .slice A0 l0.length c0] 25))
    have hk := Blk.new w 25 #[.int .u64 (b : Int), .slice A0 l0.length c0]
    go_enter Try.func19, Try.ntmps19
    have z1 : (w.alloc (.cells #[.int .u64 (b : Int), .slice A0 l0.length c0] 25)).cell? ⟨w.heap.size, 0, none⟩ = some (.int .u64 (b : Int)) := (hk.cell 0).trans rfl
    have z2 := hk.frozen 0
    have z3 : (w.alloc (.cells #[.int .u64 (b : Int), .slice A0 l0.length c0] 25)).cell? ⟨w.heap.size, 1, none⟩ = some (.slice A0 l0.length c0) := (hk.cell 1).trans rfl
    have z4 := hk.frozen 1
    have z5 := hk.lt
    go_wp2_with fail
    with_reducible refine (heap26_any b A0 l0.length c0 _).mono ?_
    rintro e w1 ⟨rfl, bB⟩
    rw [HH.out]
    replace hk := Blk.via0 (g := w.heap.size) (t := 25) bB (by repeat (first | with_reducible exact hk | with_reducible (apply Blk.set_) | with_reducible (apply Blk.far; case hp => (simp <;> omega)) | with_reducible (apply Blk.alloc) | with_reducible (apply Blk.drew)))
    replace hk : Blk w1 w.heap.size 25 #[.int .u64 (b : Int), .slice A0 l0.length c0] := hk
    replace hB := Below.via (w := w) (by have hs_ := hB.size; repeat (first | with_reducible exact hB | with_reducible (refine Below.setCell ?_ (by simp <;> omega) _) | with_reducible (refine Below.alloc ?_ (by first | exact hs_ | (simp <;> omega)) _) | with_reducible (refine Below.drew ?_))) bB
    clear z1 z2 z3 z4 z5
    clear bB
    have z6 : w1.cell? ⟨w.heap.size, 0, none⟩ = some (.int .u64 (b : Int)) := (hk.cell 0).trans rfl
    have z7 := hk.frozen 0
    have z8 : w1.cell? ⟨w.heap.size, 1, none⟩ = some (.slice A0 l0.length c0) := (hk.cell 1).trans rfl
    have z9 := hk.frozen 1
    have z10 := hk.lt
    go_wp2_with fail
    go_ret2
    exact ⟨by rw [HV.out.1, HV.out.2]; rfl, (by have hs_ := hB.size; repeat (first | with_reducible exact hB | with_reducible (refine Below.setCell ?_ (by simp <;> omega) _) | with_reducible (refine Below.alloc ?_ (by first | exact hs_ | (simp <;> omega)) _) | with_reducible (refine Below.drew ?_)))⟩
  have HH := Lib.hid hh
  clear hh
  cases hs : stB L
  · have HS := Lib.hid hs
    have HV := Lib.hid (BAD.out 8 (by unfold byE; rw [HH.out, hs]; rfl) (by decide))
    clear hs
    have hB : Below w.heap.size w (w.alloc (.cells #[.int .u64 (b : Int), .slice A0 l0.length c0] 25)) := (Below.alloc (Below.refl w.heap.size w) (by simp <;> omega) (.cells #[.int .u64 (b : Int), .slice A0 l0.length c0] 25))
    have hk := Blk.new w 25 #[.int .u64 (b : Int), .slice A0 l0.length c0]
    go_enter Try.func19, Try.ntmps19
    have z1 : (w.alloc (.cells #[.int .u64 (b : Int), .slice A0 l0.length c0] 25)).cell? ⟨w.heap.size, 0, none⟩ = some (.int .u64 (b : Int)) := (hk.cell 0).trans rfl
    have z2 := hk.frozen 0
    have z3 : (w.alloc (.cells #[.int .u64 (b : Int), .slice A0 l0.length c0] 25)).cell? ⟨w.heap.size, 1, none⟩ = some (.slice A0 l0.length c0) := (hk.cell 1).trans rfl
    have z4 := hk.frozen 1
    have z5 := hk.lt
    go_wp2_with fail
    with_reducible refine (heap26_any b A0 l0.length c0 _).mono ?_
    rintro e w1 ⟨rfl, bB⟩
    rw [HH.out]
    replace hk := Blk.via0 (g := w.heap.size) (t := 25) bB (by repeat (first | with_reducible exact hk | with_reducible (apply Blk.set_) | with_reducible (apply Blk.far; case hp => (simp <;> omega)) | with_reducible (apply Blk.alloc) | with_reducible (apply Blk.drew)))
    replace hk : Blk w1 w.heap.size 25 #[.int .u64 (b : Int), .slice A0 l0.length c0] := hk
    replace hB := Below.via (w := w) (by have hs_ := hB.size; repeat (first | with_reducible exact hB | with_reducible (refine Below.setCell ?_ (by simp <;> omega) _) | with_reducible (refine Below.alloc ?_ (by first | exact hs_ | (simp <;> omega)) _) | with_reducible (refine Below.drew ?_))) bB
    clear z1 z2 z3 z4 z5
    clear bB
    have z6 : w1.cell? ⟨w.heap.size, 0, none⟩ = some (.int .u64 (b : Int)) := (hk.cell 0).trans rfl
    have z7 := hk.frozen 0
    have z8 : w1.cell? ⟨w.heap.size, 1, none⟩ = some (.slice A0 l0.length c0) := (hk.cell 1).trans rfl
    have z9 := hk.frozen 1
    have z10 := hk.lt
    go_wp2_with fail
    refine (stacks26_any A m c L _ (HRS.out.mv hB)).mono ?_
    rintro e wq ⟨rfl, rfl⟩
    rw [HS.out]
    go_wp2_with fail
    go_ret2
    exact ⟨by rw [HV.out.1, HV.out.2]; rfl, (by have hs_ := hB.size; repeat (first | with_reducible exact hB | with_reducible (refine Below.setCell ?_ (by simp <;> omega) _) | with_reducible (refine Below.alloc ?_ (by first | exact hs_ | (simp <;> omega)) _) | with_reducible (refine Below.drew ?_)))⟩
  have HS := Lib.hid hs
  clear hs
  have HE := Lib.hid (show byE b l0 L at_ 8 = if at_ = 0 then 42 else if (fdR at_ 8 ((b, l0) :: L)).isSome then 0 else 16 from by unfold byE; rw [HH.out, HS.out]; rfl)
  by_cases h3 : at_ = 0
  · have HV := Lib.hid (BAD.out 42 (by rw [HE.out, if_pos h3]) (by decide))
    subst h3
    have hB : Below w.heap.size w (w.alloc (.cells #[.int .u64 (b : Int), .slice A0 l0.length c0] 25)) := (Below.alloc (Below.refl w.heap.size w) (by simp <;> omega) (.cells #[.int .u64 (b : Int), .slice A0 l0.length c0] 25))
    have hk := Blk.new w 25 #[.int .u64 (b : Int), .slice A0 l0.length c0]
    go_enter Try.func19, Try.ntmps19
    have z1 : (w.alloc (.cells #[.int .u64 (b : Int), .slice A0 l0.length c0] 25)).cell? ⟨w.heap.size, 0, none⟩ = some (.int .u64 (b : Int)) := (hk.cell 0).trans rfl
    have z2 := hk.frozen 0
    have z3 : (w.alloc (.cells #[.int .u64 (b : Int), .slice A0 l0.length c0] 25)).cell? ⟨w.heap.size, 1, none⟩ = some (.slice A0 l0.length c0) := (hk.cell 1).trans rfl
    have z4 := hk.frozen 1
    have z5 := hk.lt
    go_wp2_with fail
    with_reducible refine (heap26_any b A0 l0.length c0 _).mono ?_
    rintro e w1 ⟨rfl, bB⟩
    rw [HH.out]
    replace hk := Blk.via0 (g := w.heap.size) (t := 25) bB (by repeat (first | with_reducible exact hk | with_reducible (apply Blk.set_) | with_reducible (apply Blk.far; case hp => (simp <;> omega)) | with_reducible (apply Blk.alloc) | with_reducible (apply Blk.drew)))
    replace hk : Blk w1 w.heap.size 25 #[.int .u64 (b : Int), .slice A0 l0.length c0] := hk
    replace hB := Below.via (w := w) (by have hs_ := hB.size; repeat (first | with_reducible exact hB | with_reducible (refine Below.setCell ?_ (by simp <;> omega) _) | with_reducible (refine Below.alloc ?_ (by first | exact hs_ | (simp <;> omega)) _) | with_reducible (refine Below.drew ?_))) bB
    clear z1 z2 z3 z4 z5
    clear bB
    have z6 : w1.cell? ⟨w.heap.size, 0, none⟩ = some (.int .u64 (b : Int)) := (hk.cell 0).trans rfl
    have z7 := hk.frozen 0
    have z8 : w1.cell? ⟨w.heap.size, 1, none⟩ = some (.slice A0 l0.length c0) := (hk.cell 1).trans rfl
    have z9 := hk.frozen 1
    have z10 := hk.lt
    go_wp2_with fail
    refine (stacks26_any A m c L _ (HRS.out.mv hB)).mono ?_
    rintro e wq ⟨rfl, rfl⟩
    rw [HS.out]
    go_wp2_with fail
    go_ret2
    exact ⟨by rw [HV.out.1, HV.out.2]; rfl, (by have hs_ := hB.size; repeat (first | with_reducible exact hB | with_reducible (refine Below.setCell ?_ (by simp <;> omega) _) | with_reducible (refine Below.alloc ?_ (by first | exact hs_ | (simp <;> omega)) _) | with_reducible (refine Below.drew ?_)))⟩
  replace HE := Lib.hid (HE.out.trans (if_neg h3))
  have d3 : ((at_ : Int) == 0) = false := by rw [beq_eq_false_iff_ne]; omega
  obtain ⟨T, hT⟩ : ∃ T, fdL at_ 8 ((b, l0) :: L) = T := ⟨_, rfl⟩
  have HFL := Lib.hid hT
  clear hT
  cases hf : (fdR at_ 8 ((b, l0) :: L)).isSome
  · have HF := Lib.hid hf
    have HV := Lib.hid (BAD.out 16 (by rw [HE.out, hf]; rfl) (by decide))
    clear hf
    have hB : Below w.heap.size w (w.alloc (.cells #[.int .u64 (b : Int), .slice A0 l0.length c0] 25)) := (Below.alloc (Below.refl w.heap.size w) (by simp <;> omega) (.cells #[.int .u64 (b : Int), .slice A0 l0.length c0] 25))
    have hk := Blk.new w 25 #[.int .u64 (b : Int), .slice A0 l0.length c0]
    go_enter Try.func19, Try.ntmps19
    have z1 : (w.alloc (.cells #[.int .u64 (b : Int), .slice A0 l0.length c0] 25)).cell? ⟨w.heap.size, 0, none⟩ = some (.int .u64 (b : Int)) := (hk.cell 0).trans rfl
    have z2 := hk.frozen 0
    have z3 : (w.alloc (.cells #[.int .u64 (b : Int), .slice A0 l0.length c0] 25)).cell? ⟨w.heap.size, 1, none⟩ = some (.slice A0 l0.length c0) := (hk.cell 1).trans rfl
    have z4 := hk.frozen 1
    have z5 := hk.lt
    go_wp2_with fail
    with_reducible refine (heap26_any b A0 l0.length c0 _).mono ?_
    rintro e w1 ⟨rfl, bB⟩
    rw [HH.out]
    replace hk := Blk.via0 (g := w.heap.size) (t := 25) bB (by repeat (first | with_reducible exact hk | with_reducible (apply Blk.set_) | with_reducible (apply Blk.far; case hp => (simp <;> omega)) | with_reducible (apply Blk.alloc) | with_reducible (apply Blk.drew)))
    replace hk : Blk w1 w.heap.size 25 #[.int .u64 (b : Int), .slice A0 l0.length c0] := hk
    replace hB := Below.via (w := w) (by have hs_ := hB.size; repeat (first | with_reducible exact hB | with_reducible (refine Below.setCell ?_ (by simp <;> omega) _) | with_reducible (refine Below.alloc ?_ (by first | exact hs_ | (simp <;> omega)) _) | with_reducible (refine Below.drew ?_))) bB
    clear z1 z2 z3 z4 z5
    clear bB
    have z6 : w1.cell? ⟨w.heap.size, 0, none⟩ = some (.int .u64 (b : Int)) := (hk.cell 0).trans rfl
    have z7 := hk.frozen 0
    have z8 : w1.cell? ⟨w.heap.size, 1, none⟩ = some (.slice A0 l0.length c0) := (hk.cell 1).trans rfl
    have z9 := hk.frozen 1
    have z10 := hk.lt
    go_wp2_with fail
    refine (stacks26_any A m c L _ (HRS.out.mv hB)).mono ?_
    rintro e wq ⟨rfl, rfl⟩
    rw [HS.out]
    go_wp2_with fail
    refine (rfind_any b A0 l0.length c0 l0 A m c L at_ 8 _ (HR0.out.mv hB) hc0 hb (HRS.out.mv hB) hm hat (by omega)).mono ?_
    rintro e w3 ⟨A3, c3, rfl, o3, bB⟩
    rw [HF.out]
    rw [HFL.out] at o3 ⊢
    replace hk := Blk.via0 (g := w.heap.size) (t := 25) bB (by repeat (first | with_reducible exact hk | with_reducible (apply Blk.set_) | with_reducible (apply Blk.far; case hp => (simp <;> omega)) | with_reducible (apply Blk.alloc) | with_reducible (apply Blk.drew)))
    replace hk : Blk w3 w.heap.size 25 #[.int .u64 (b : Int), .slice A0 l0.length c0] := hk
    replace hB := Below.via (w := w) (by have hs_ := hB.size; repeat (first | with_reducible exact hB | with_reducible (refine Below.setCell ?_ (by simp <;> omega) _) | with_reducible (refine Below.alloc ?_ (by first | exact hs_ | (simp <;> omega)) _) | with_reducible (refine Below.drew ?_))) bB
    clear z6 z7 z8 z9 z10
    clear bB
    clear o3
    have z11 : w3.cell? ⟨w.heap.size, 0, none⟩ = some (.int .u64 (b : Int)) := (hk.cell 0).trans rfl
    have z12 := hk.frozen 0
    have z13 : w3.cell? ⟨w.heap.size, 1, none⟩ = some (.slice A0 l0.length c0) := (hk.cell 1).trans rfl
    have z14 := hk.frozen 1
    have z15 := hk.lt
    go_wp2_with fail
    go_ret2
    exact ⟨by rw [HV.out.1, HV.out.2]; rfl, (by have hs_ := hB.size; repeat (first | with_reducible exact hB | with_reducible (refine Below.setCell ?_ (by simp <;> omega) _) | with_reducible (refine Below.alloc ?_ (by first | exact hs_ | (simp <;> omega)) _) | with_reducible (refine Below.drew ?_)))⟩
  have HF := Lib.hid hf
  have hb0 : byE b l0 L at_ 8 = 0 := by rw [HE.out, hf]; rfl
  have hln := by_len hb0
  have hBT : byL b l0 L at_ 8 = T := by rw [hln.2]; exact HFL.out
  rw [hBT] at hln
  have hT8 : T.length ≤ 8 := by rw [hln.1]; decide
  by_cases h8 : at_ % 8 = 0
  rotate_left
  · have d2 : ((at_ : Int) % 8 != 0) = true := by rw [bne_iff_ne]; omega
    have HV := Lib.hid (show woE b l0 L at_ = 16 ∧ woN b l0 L at_ = 0 from by
      have h : woE b l0 L at_ = 16 := by rw [woE, hb0, if_neg (by simp), if_pos h8]
      exact ⟨h, by rw [woN, if_neg (by rw [h]; decide)]⟩)
    clear hf hb0 hln hBT h8
    have hB : Below w.heap.size w (w.alloc (.cells #[.int .u64 (b : Int), .slice A0 l0.length c0] 25)) := (Below.alloc (Below.refl w.heap.size w) (by simp <;> omega) (.cells #[.int .u64 (b : Int), .slice A0 l0.length c0] 25))
    have hk := Blk.new w 25 #[.int .u64 (b : Int), .slice A0 l0.length c0]
    go_enter Try.func19, Try.ntmps19
    have z1 : (w.alloc (.cells #[.int .u64 (b : Int), .slice A0 l0.length c0] 25)).cell? ⟨w.heap.size, 0, none⟩ = some (.int .u64 (b : Int)) := (hk.cell 0).trans rfl
    have z2 := hk.frozen 0
    have z3 : (w.alloc (.cells #[.int .u64 (b : Int), .slice A0 l0.length c0] 25)).cell? ⟨w.heap.size, 1, none⟩ = some (.slice A0 l0.length c0) := (hk.cell 1).trans rfl
    have z4 := hk.frozen 1
    have z5 := hk.lt
    go_wp2_with fail
    with_reducible refine (heap26_any b A0 l0.length c0 _).mono ?_
    rintro e w1 ⟨rfl, bB⟩
    rw [HH.out]
    replace hk := Blk.via0 (g := w.heap.size) (t := 25) bB (by repeat (first | with_reducible exact hk | with_reducible (apply Blk.set_) | with_reducible (apply Blk.far; case hp => (simp <;> omega)) | with_reducible (apply Blk.alloc) | with_reducible (apply Blk.drew)))
    replace hk : Blk w1 w.heap.size 25 #[.int .u64 (b : Int), .slice A0 l0.length c0] := hk
    replace hB := Below.via (w := w) (by have hs_ := hB.size; repeat (first | with_reducible exact hB | with_reducible (refine Below.setCell ?_ (by simp <;> omega) _) | with_reducible (refine Below.alloc ?_ (by first | exact hs_ | (simp <;> omega)) _) | with_reducible (refine Below.drew ?_))) bB
    clear z1 z2 z3 z4 z5
    clear bB
    have z6 : w1.cell? ⟨w.heap.size, 0, none⟩ = some (.int .u64 (b : Int)) := (hk.cell 0).trans rfl
    have z7 := hk.frozen 0
    have z8 : w1.cell? ⟨w.heap.size, 1, none⟩ = some (.slice A0 l0.length c0) := (hk.cell 1).trans rfl
    have z9 := hk.frozen 1
    have z10 := hk.lt
    go_wp2_with fail
    refine (stacks26_any A m c L _ (HRS.out.mv hB)).mono ?_
    rintro e wq ⟨rfl, rfl⟩
    rw [HS.out]
    go_wp2_with fail
    refine (rfind_any b A0 l0.length c0 l0 A m c L at_ 8 _ (HR0.out.mv hB) hc0 hb (HRS.out.mv hB) hm hat (by omega)).mono ?_
    rintro e w3 ⟨A3, c3, rfl, o3, bB⟩
    rw [HF.out]
    rw [HFL.out] at o3 ⊢
    replace hk := Blk.via0 (g := w.heap.size) (t := 25) bB (by repeat (first | with_reducible exact hk | with_reducible (apply Blk.set_) | with_reducible (apply Blk.far; case hp => (simp <;> omega)) | with_reducible (apply Blk.alloc) | with_reducible (apply Blk.drew)))
    replace hk : Blk w3 w.heap.size 25 #[.int .u64 (b : Int), .slice A0 l0.length c0] := hk
    replace hB := Below.via (w := w) (by have hs_ := hB.size; repeat (first | with_reducible exact hB | with_reducible (refine Below.setCell ?_ (by simp <;> omega) _) | with_reducible (refine Below.alloc ?_ (by first | exact hs_ | (simp <;> omega)) _) | with_reducible (refine Below.drew ?_))) bB
    clear z6 z7 z8 z9 z10
    clear bB
    clear o3
    have z11 : w3.cell? ⟨w.heap.size, 0, none⟩ = some (.int .u64 (b : Int)) := (hk.cell 0).trans rfl
    have z12 := hk.frozen 0
    have z13 : w3.cell? ⟨w.heap.size, 1, none⟩ = some (.slice A0 l0.length c0) := (hk.cell 1).trans rfl
    have z14 := hk.frozen 1
    have z15 := hk.lt
    go_wp2_with fail
    go_ret2
    exact ⟨by rw [HV.out.1, HV.out.2]; rfl, (by have hs_ := hB.size; repeat (first | with_reducible exact hB | with_reducible (refine Below.setCell ?_ (by simp <;> omega) _) | with_reducible (refine Below.alloc ?_ (by first | exact hs_ | (simp <;> omega)) _) | with_reducible (refine Below.drew ?_)))⟩
  have d2 : ((at_ : Int) % 8 != 0) = false := by rw [bne_eq_false_iff_eq]; omega
  have HV := Lib.hid (show woE b l0 L at_ = 0 ∧ woN b l0 L at_ = unl T from by
    have h : woE b l0 L at_ = 0 := by rw [woE, hb0, if_neg (by simp), if_neg (by omega)]
    exact ⟨h, by rw [woN, if_pos h, hBT]⟩)
  clear hf hb0 hln hBT h8
  have hB : Below w.heap.size w (w.alloc (.cells #[.int .u64 (b : Int), .slice A0 l0.length c0] 25)) := (Below.alloc (Below.refl w.heap.size w) (by simp <;> omega) (.cells #[.int .u64 (b : Int), .slice A0 l0.length c0] 25))
  have hk := Blk.new w 25 #[.int .u64 (b : Int), .slice A0 l0.length c0]
  go_enter Try.func19, Try.ntmps19
  have z1 : (w.alloc (.cells #[.int .u64 (b : Int), .slice A0 l0.length c0] 25)).cell? ⟨w.heap.size, 0, none⟩ = some (.int .u64 (b : Int)) := (hk.cell 0).trans rfl
  have z2 := hk.frozen 0
  have z3 : (w.alloc (.cells #[.int .u64 (b : Int), .slice A0 l0.length c0] 25)).cell? ⟨w.heap.size, 1, none⟩ = some (.slice A0 l0.length c0) := (hk.cell 1).trans rfl
  have z4 := hk.frozen 1
  have z5 := hk.lt
  go_wp2_with fail
  with_reducible refine (heap26_any b A0 l0.length c0 _).mono ?_
  rintro e w1 ⟨rfl, bB⟩
  rw [HH.out]
  replace hk := Blk.via0 (g := w.heap.size) (t := 25) bB (by repeat (first | with_reducible exact hk | with_reducible (apply Blk.set_) | with_reducible (apply Blk.far; case hp => (simp <;> omega)) | with_reducible (apply Blk.alloc) | with_reducible (apply Blk.drew)))
  replace hk : Blk w1 w.heap.size 25 #[.int .u64 (b : Int), .slice A0 l0.length c0] := hk
  replace hB := Below.via (w := w) (by have hs_ := hB.size; repeat (first | with_reducible exact hB | with_reducible (refine Below.setCell ?_ (by simp <;> omega) _) | with_reducible (refine Below.alloc ?_ (by first | exact hs_ | (simp <;> omega)) _) | with_reducible (refine Below.drew ?_))) bB
  clear z1 z2 z3 z4 z5
  clear bB
  have z6 : w1.cell? ⟨w.heap.size, 0, none⟩ = some (.int .u64 (b : Int)) := (hk.cell 0).trans rfl
  have z7 := hk.frozen 0
  have z8 : w1.cell? ⟨w.heap.size, 1, none⟩ = some (.slice A0 l0.length c0) := (hk.cell 1).trans rfl
  have z9 := hk.frozen 1
  have z10 := hk.lt
  go_wp2_with fail
  refine (stacks26_any A m c L _ (HRS.out.mv hB)).mono ?_
  rintro e wq ⟨rfl, rfl⟩
  rw [HS.out]
  go_wp2_with fail
  refine (rfind_any b A0 l0.length c0 l0 A m c L at_ 8 _ (HR0.out.mv hB) hc0 hb (HRS.out.mv hB) hm hat (by omega)).mono ?_
  rintro e w3 ⟨A3, c3, rfl, o3, bB⟩
  rw [HF.out]
  rw [HFL.out] at o3 ⊢
  replace hk := Blk.via0 (g := w.heap.size) (t := 25) bB (by repeat (first | with_reducible exact hk | with_reducible (apply Blk.set_) | with_reducible (apply Blk.far; case hp => (simp <;> omega)) | with_reducible (apply Blk.alloc) | with_reducible (apply Blk.drew)))
  replace hk : Blk w3 w.heap.size 25 #[.int .u64 (b : Int), .slice A0 l0.length c0] := hk
  replace hB := Below.via (w := w) (by have hs_ := hB.size; repeat (first | with_reducible exact hB | with_reducible (refine Below.setCell ?_ (by simp <;> omega) _) | with_reducible (refine Below.alloc ?_ (by first | exact hs_ | (simp <;> omega)) _) | with_reducible (refine Below.drew ?_))) bB
  clear z6 z7 z8 z9 z10
  clear bB
  have r3 := own_rd o3
  clear o3
  have z11 : w3.cell? ⟨w.heap.size, 0, none⟩ = some (.int .u64 (b : Int)) := (hk.cell 0).trans rfl
  have z12 := hk.frozen 0
  have z13 : w3.cell? ⟨w.heap.size, 1, none⟩ = some (.slice A0 l0.length c0) := (hk.cell 1).trans rfl
  have z14 := hk.frozen 1
  have z15 := hk.lt
  go_wp2_with fail
  refine (unlittle_any A3 T.length c3 T _ r3 hT8).mono ?_
  rintro e wq ⟨rfl, rfl⟩
  go_wp2_with fail
  go_ret2
  exact ⟨by rw [HV.out.1, HV.out.2]; rfl, (by have hs_ := hB.size; repeat (first | with_reducible exact hB | with_reducible (refine Below.setCell ?_ (by simp <;> omega) _) | with_reducible (refine Below.alloc ?_ (by first | exact hs_ | (simp <;> omega)) _) | with_reducible (refine Below.drew ?_)))⟩

end Go.Proofs.Ytponceakelimeaa
