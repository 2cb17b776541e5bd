/- Contracts and laws of a chapter that its statement of names leans on. Each states its conditions. -/
import Derived.Test.YtldaijkcmnnjpaaMem22
namespace Go.Proofs.Ytldaijkcmnnjpaa
open Go.RowKit Wire
set_option linter.unusedVariables false
/-- What Bytes answers. -/
def byE (b : Nat) (l0 : List UInt8) (L : List (Nat × List UInt8)) (at_ : Nat) (n : Int) : Int :=
  if hpB b l0.length && stB L then (if n < 0 ∨ 4096 < n then 2 else if at_ = 0 then 42 else if (fdR at_ n.toNat ((b, l0) :: L)).isSome then 0 else 16) else 8
def byL (b : Nat) (l0 : List UInt8) (L : List (Nat × List UInt8)) (at_ : Nat) (n : Int) : List UInt8 := if byE b l0 L at_ n = 0 then fdL at_ n.toNat ((b, l0) :: L) else []
def ByP (w : World) (b : Nat) (l0 : List UInt8) (L : List (Nat × List UInt8)) (at_ : Nat) (n : Int) (e : Ending) (w' : World) : Prop :=
  ∃ A' c', e = .returned (.tuple #[.slice A' (byL b l0 L at_ n).length c', .int .i64 (byE b l0 L at_ n)]) ∧ w'.ownsRow w.heap.size 5 1 (.slice A' (byL b l0 L at_ n).length c') (byL b l0 L at_ n).length ((byL b l0 L at_ n).map b8) ∧ Below w.heap.size w w'
theorem by_no {b : Nat} {l0 : List UInt8} {L : List (Nat × List UInt8)} {at_ : Nat} {n e : Int} (h : byE b l0 L at_ n = e) (he : e ≠ 0) : byE b l0 L at_ n = e ∧ byL b l0 L at_ n = [] := ⟨h, by rw [byL, if_neg (by rw [h]; exact he)]⟩
def woE (b : Nat) (l0 : List UInt8) (L : List (Nat × List UInt8)) (at_ : Nat) : Int := if byE b l0 L at_ 8 ≠ 0 then byE b l0 L at_ 8 else if at_ % 8 ≠ 0 then 16 else 0
def woN (b : Nat) (l0 : List UInt8) (L : List (Nat × List UInt8)) (at_ : Nat) : Nat := if woE b l0 L at_ = 0 then unl (byL b l0 L at_ 8) else 0
theorem by_len {b : Nat} {l0 : List UInt8} {L : List (Nat × List UInt8)} {at_ : Nat} {n : Int} (h : byE b l0 L at_ n = 0) : (byL b l0 L at_ n).length = n.toNat ∧ byL b l0 L at_ n = fdL at_ n.toNat ((b, l0) :: L) := by
  have e : byL b l0 L at_ n = fdL at_ n.toNat ((b, l0) :: L) := by rw [byL, if_pos h]
  refine ⟨?_, e⟩
  rw [e]
  have hs : (fdR at_ n.toNat ((b, l0) :: L)).isSome = true := by
    unfold byE at h
    split at h
    · split at h
      · omega
      · split at h
        · omega
        · split at h
          · assumption
          · omega
    · omega
  generalize ((b, l0) :: L) = M at hs ⊢
  unfold fdL
  induction M with
  | nil => simp [fdR] at hs
  | cons p M ih =>
    rw [fdR] at hs ⊢
    by_cases hp : hasB at_ n.toNat p = true
    · rw [if_pos hp]
      simp only [hasB, Bool.and_eq_true, decide_eq_true_eq] at hp
      simp only [Option.getD_some, List.length_take, List.length_drop]
      omega
    · rw [if_neg hp] at hs ⊢
      exact ih hs
set_option maxRecDepth 100000 in
set_option maxHeartbeats 4000000 in
theorem bytes_any (b : Nat) (A0 : Option Addr) (n0 c0 : Nat) (l0 : List UInt8) (A : Option Addr) (m c : Nat) (L : List (Nat × List UInt8)) (at_ : Nat) (n : Int) (w : World) (hr0 : Rb w A0 n0 l0) (hc0 : n0 ≤ c0 ∧ c0 ≤ 9223372036854775807) (hb : b < 18446744073709551616) (hr : RdR w A m L) (hm : m ≤ 1000000) (hat : at_ < 18446744073709551616) :
    Calls Try.prog 35 #[rgn b A0 n0 c0, .slice A m c, .int .u64 (at_ : Int), .int .i64 n] w fun e w' => ByP w b l0 L at_ n e w' := by
  have hl := hr0.len8
  subst hl
  have HR0 := Lib.hid hr0
  have HRS := Lib.hid hr
  clear hr0 hr
  cases hh : hpB b l0.length
  · have HH := Lib.hid hh
    have HV := Lib.hid (by_no (b := b) (l0 := l0) (L := L) (at_ := at_) (n := n) (e := 8) (by unfold byE; rw [hh]; rfl) (by decide))
    clear hh
    have hB : Below w.heap.size w (w.alloc (.cells #[.int .u64 (b : Int), .slice A0 l0.length c0] 75)) := (Below.alloc (Below.refl w.heap.size w) (by simp <;> omega) (.cells #[.int .u64 (b : Int), .slice A0 l0.length c0] 75))
    have hk := Blk.new w 75 #[.int .u64 (b : Int), .slice A0 l0.length c0]
    go_enter Try.func35, Try.ntmps35
    have z1 : (w.alloc (.cells #[.int .u64 (b : Int), .slice A0 l0.length c0] 75)).cell? ⟨w.heap.size, 0, none⟩ = some (.int .u64 (b : Int)) := (hk.cell 0).trans rfl
    have z2 := hk.frozen 0
    have z3 : (w.alloc (.cells #[.int .u64 (b : Int), .slice A0 l0.length c0] 75)).cell? ⟨w.heap.size, 1, none⟩ = some (.slice A0 l0.length c0) := (hk.cell 1).trans rfl
    have z4 := hk.frozen 1
    have z5 := hk.lt
    go_wp2_with fail
    with_reducible refine (isHeap_any b A0 l0.length c0 _).mono ?_
    rintro e w1 ⟨rfl, bB⟩
    rw [HH.out]
    replace hk := Blk.via0 (g := w.heap.size) (t := 75) bB (by repeat (first | with_reducible exact hk | with_reducible (apply Blk.set_) | with_reducible (apply Blk.far; case hp => (simp <;> omega)) | with_reducible (apply Blk.alloc) | with_reducible (apply Blk.drew)))
    replace hk : Blk w1 w.heap.size 75 #[.int .u64 (b : Int), .slice A0 l0.length c0] := hk
    replace hB := Below.via (w := w) (by have hs_ := hB.size; repeat (first | with_reducible exact hB | with_reducible (refine Below.setCell ?_ (by simp <;> omega) _) | with_reducible (refine Below.alloc ?_ (by first | exact hs_ | (simp <;> omega)) _) | with_reducible (refine Below.drew ?_))) bB
    clear z1 z2 z3 z4 z5
    clear bB
    have z6 : w1.cell? ⟨w.heap.size, 0, none⟩ = some (.int .u64 (b : Int)) := (hk.cell 0).trans rfl
    have z7 := hk.frozen 0
    have z8 : w1.cell? ⟨w.heap.size, 1, none⟩ = some (.slice A0 l0.length c0) := (hk.cell 1).trans rfl
    have z9 := hk.frozen 1
    have z10 := hk.lt
    go_wp2_with fail
    go_ret2
    unfold ByP
    exact ⟨none, 0, by rw [HV.out.1, HV.out.2]; rfl, by rw [HV.out.2]; exact World.ownsRow_nil _ _ _ _, (by have hs_ := hB.size; repeat (first | with_reducible exact hB | with_reducible (refine Below.setCell ?_ (by simp <;> omega) _) | with_reducible (refine Below.alloc ?_ (by first | exact hs_ | (simp <;> omega)) _) | with_reducible (refine Below.drew ?_)))⟩
  have HH := Lib.hid hh
  clear hh
  cases hs : stB L
  · have HS := Lib.hid hs
    have HV := Lib.hid (by_no (b := b) (l0 := l0) (L := L) (at_ := at_) (n := n) (e := 8) (by unfold byE; rw [HH.out, hs]; rfl) (by decide))
    clear hs
    have hB : Below w.heap.size w (w.alloc (.cells #[.int .u64 (b : Int), .slice A0 l0.length c0] 75)) := (Below.alloc (Below.refl w.heap.size w) (by simp <;> omega) (.cells #[.int .u64 (b : Int), .slice A0 l0.length c0] 75))
    have hk := Blk.new w 75 #[.int .u64 (b : Int), .slice A0 l0.length c0]
    go_enter Try.func35, Try.ntmps35
    have z1 : (w.alloc (.cells #[.int .u64 (b : Int), .slice A0 l0.length c0] 75)).cell? ⟨w.heap.size, 0, none⟩ = some (.int .u64 (b : Int)) := (hk.cell 0).trans rfl
    have z2 := hk.frozen 0
    have z3 : (w.alloc (.cells #[.int .u64 (b : Int), .slice A0 l0.length c0] 75)).cell? ⟨w.heap.size, 1, none⟩ = some (.slice A0 l0.length c0) := (hk.cell 1).trans rfl
    have z4 := hk.frozen 1
    have z5 := hk.lt
    go_wp2_with fail
    with_reducible refine (isHeap_any b A0 l0.length c0 _).mono ?_
    rintro e w1 ⟨rfl, bB⟩
    rw [HH.out]
    replace hk := Blk.via0 (g := w.heap.size) (t := 75) bB (by repeat (first | with_reducible exact hk | with_reducible (apply Blk.set_) | with_reducible (apply Blk.far; case hp => (simp <;> omega)) | with_reducible (apply Blk.alloc) | with_reducible (apply Blk.drew)))
    replace hk : Blk w1 w.heap.size 75 #[.int .u64 (b : Int), .slice A0 l0.length c0] := hk
    replace hB := Below.via (w := w) (by have hs_ := hB.size; repeat (first | with_reducible exact hB | with_reducible (refine Below.setCell ?_ (by simp <;> omega) _) | with_reducible (refine Below.alloc ?_ (by first | exact hs_ | (simp <;> omega)) _) | with_reducible (refine Below.drew ?_))) bB
    clear z1 z2 z3 z4 z5
    clear bB
    have z6 : w1.cell? ⟨w.heap.size, 0, none⟩ = some (.int .u64 (b : Int)) := (hk.cell 0).trans rfl
    have z7 := hk.frozen 0
    have z8 : w1.cell? ⟨w.heap.size, 1, none⟩ = some (.slice A0 l0.length c0) := (hk.cell 1).trans rfl
    have z9 := hk.frozen 1
    have z10 := hk.lt
    go_wp2_with fail
    with_reducible refine (areStacks_any A m c L _ (HRS.out.mv hB) hm).mono ?_
    rintro e w2 ⟨rfl, bB⟩
    rw [HS.out]
    replace hk := Blk.via0 (g := w.heap.size) (t := 75) bB (by repeat (first | with_reducible exact hk | with_reducible (apply Blk.set_) | with_reducible (apply Blk.far; case hp => (simp <;> omega)) | with_reducible (apply Blk.alloc) | with_reducible (apply Blk.drew)))
    replace hk : Blk w2 w.heap.size 75 #[.int .u64 (b : Int), .slice A0 l0.length c0] := hk
    replace hB := Below.via (w := w) (by have hs_ := hB.size; repeat (first | with_reducible exact hB | with_reducible (refine Below.setCell ?_ (by simp <;> omega) _) | with_reducible (refine Below.alloc ?_ (by first | exact hs_ | (simp <;> omega)) _) | with_reducible (refine Below.drew ?_))) bB
    clear z6 z7 z8 z9 z10
    clear bB
    have z11 : w2.cell? ⟨w.heap.size, 0, none⟩ = some (.int .u64 (b : Int)) := (hk.cell 0).trans rfl
    have z12 := hk.frozen 0
    have z13 : w2.cell? ⟨w.heap.size, 1, none⟩ = some (.slice A0 l0.length c0) := (hk.cell 1).trans rfl
    have z14 := hk.frozen 1
    have z15 := hk.lt
    go_wp2_with fail
    go_ret2
    unfold ByP
    exact ⟨none, 0, by rw [HV.out.1, HV.out.2]; rfl, by rw [HV.out.2]; exact World.ownsRow_nil _ _ _ _, (by have hs_ := hB.size; repeat (first | with_reducible exact hB | with_reducible (refine Below.setCell ?_ (by simp <;> omega) _) | with_reducible (refine Below.alloc ?_ (by first | exact hs_ | (simp <;> omega)) _) | with_reducible (refine Below.drew ?_)))⟩
  have HS := Lib.hid hs
  clear hs
  have HE := Lib.hid (show byE b l0 L at_ n = if n < 0 ∨ 4096 < n then 2 else if at_ = 0 then 42 else if (fdR at_ n.toNat ((b, l0) :: L)).isSome then 0 else 16 from by unfold byE; rw [HH.out, HS.out]; rfl)
  by_cases h1 : n < 0
  · have HV := Lib.hid (by_no (b := b) (l0 := l0) (L := L) (at_ := at_) (n := n) (e := 2) (by rw [HE.out, if_pos (.inl h1)]) (by decide))
    have hB : Below w.heap.size w (w.alloc (.cells #[.int .u64 (b : Int), .slice A0 l0.length c0] 75)) := (Below.alloc (Below.refl w.heap.size w) (by simp <;> omega) (.cells #[.int .u64 (b : Int), .slice A0 l0.length c0] 75))
    have hk := Blk.new w 75 #[.int .u64 (b : Int), .slice A0 l0.length c0]
    go_enter Try.func35, Try.ntmps35
    have z1 : (w.alloc (.cells #[.int .u64 (b : Int), .slice A0 l0.length c0] 75)).cell? ⟨w.heap.size, 0, none⟩ = some (.int .u64 (b : Int)) := (hk.cell 0).trans rfl
    have z2 := hk.frozen 0
    have z3 : (w.alloc (.cells #[.int .u64 (b : Int), .slice A0 l0.length c0] 75)).cell? ⟨w.heap.size, 1, none⟩ = some (.slice A0 l0.length c0) := (hk.cell 1).trans rfl
    have z4 := hk.frozen 1
    have z5 := hk.lt
    go_wp2_with fail
    with_reducible refine (isHeap_any b A0 l0.length c0 _).mono ?_
    rintro e w1 ⟨rfl, bB⟩
    rw [HH.out]
    replace hk := Blk.via0 (g := w.heap.size) (t := 75) bB (by repeat (first | with_reducible exact hk | with_reducible (apply Blk.set_) | with_reducible (apply Blk.far; case hp => (simp <;> omega)) | with_reducible (apply Blk.alloc) | with_reducible (apply Blk.drew)))
    replace hk : Blk w1 w.heap.size 75 #[.int .u64 (b : Int), .slice A0 l0.length c0] := hk
    replace hB := Below.via (w := w) (by have hs_ := hB.size; repeat (first | with_reducible exact hB | with_reducible (refine Below.setCell ?_ (by simp <;> omega) _) | with_reducible (refine Below.alloc ?_ (by first | exact hs_ | (simp <;> omega)) _) | with_reducible (refine Below.drew ?_))) bB
    clear z1 z2 z3 z4 z5
    clear bB
    have z6 : w1.cell? ⟨w.heap.size, 0, none⟩ = some (.int .u64 (b : Int)) := (hk.cell 0).trans rfl
    have z7 := hk.frozen 0
    have z8 : w1.cell? ⟨w.heap.size, 1, none⟩ = some (.slice A0 l0.length c0) := (hk.cell 1).trans rfl
    have z9 := hk.frozen 1
    have z10 := hk.lt
    go_wp2_with fail
    with_reducible refine (areStacks_any A m c L _ (HRS.out.mv hB) hm).mono ?_
    rintro e w2 ⟨rfl, bB⟩
    rw [HS.out]
    replace hk := Blk.via0 (g := w.heap.size) (t := 75) bB (by repeat (first | with_reducible exact hk | with_reducible (apply Blk.set_) | with_reducible (apply Blk.far; case hp => (simp <;> omega)) | with_reducible (apply Blk.alloc) | with_reducible (apply Blk.drew)))
    replace hk : Blk w2 w.heap.size 75 #[.int .u64 (b : Int), .slice A0 l0.length c0] := hk
    replace hB := Below.via (w := w) (by have hs_ := hB.size; repeat (first | with_reducible exact hB | with_reducible (refine Below.setCell ?_ (by simp <;> omega) _) | with_reducible (refine Below.alloc ?_ (by first | exact hs_ | (simp <;> omega)) _) | with_reducible (refine Below.drew ?_))) bB
    clear z6 z7 z8 z9 z10
    clear bB
    have z11 : w2.cell? ⟨w.heap.size, 0, none⟩ = some (.int .u64 (b : Int)) := (hk.cell 0).trans rfl
    have z12 := hk.frozen 0
    have z13 : w2.cell? ⟨w.heap.size, 1, none⟩ = some (.slice A0 l0.length c0) := (hk.cell 1).trans rfl
    have z14 := hk.frozen 1
    have z15 := hk.lt
    go_wp2_with fail
    go_ret2
    unfold ByP
    exact ⟨none, 0, by rw [HV.out.1, HV.out.2]; rfl, by rw [HV.out.2]; exact World.ownsRow_nil _ _ _ _, (by have hs_ := hB.size; repeat (first | with_reducible exact hB | with_reducible (refine Below.setCell ?_ (by simp <;> omega) _) | with_reducible (refine Below.alloc ?_ (by first | exact hs_ | (simp <;> omega)) _) | with_reducible (refine Below.drew ?_)))⟩
  by_cases h2 : 4096 < n
  · have HV := Lib.hid (by_no (b := b) (l0 := l0) (L := L) (at_ := at_) (n := n) (e := 2) (by rw [HE.out, if_pos (.inr h2)]) (by decide))
    have hB : Below w.heap.size w (w.alloc (.cells #[.int .u64 (b : Int), .slice A0 l0.length c0] 75)) := (Below.alloc (Below.refl w.heap.size w) (by simp <;> omega) (.cells #[.int .u64 (b : Int), .slice A0 l0.length c0] 75))
    have hk := Blk.new w 75 #[.int .u64 (b : Int), .slice A0 l0.length c0]
    go_enter Try.func35, Try.ntmps35
    have z1 : (w.alloc (.cells #[.int .u64 (b : Int), .slice A0 l0.length c0] 75)).cell? ⟨w.heap.size, 0, none⟩ = some (.int .u64 (b : Int)) := (hk.cell 0).trans rfl
    have z2 := hk.frozen 0
    have z3 : (w.alloc (.cells #[.int .u64 (b : Int), .slice A0 l0.length c0] 75)).cell? ⟨w.heap.size, 1, none⟩ = some (.slice A0 l0.length c0) := (hk.cell 1).trans rfl
    have z4 := hk.frozen 1
    have z5 := hk.lt
    go_wp2_with fail
    with_reducible refine (isHeap_any b A0 l0.length c0 _).mono ?_
    rintro e w1 ⟨rfl, bB⟩
    rw [HH.out]
    replace hk := Blk.via0 (g := w.heap.size) (t := 75) bB (by repeat (first | with_reducible exact hk | with_reducible (apply Blk.set_) | with_reducible (apply Blk.far; case hp => (simp <;> omega)) | with_reducible (apply Blk.alloc) | with_reducible (apply Blk.drew)))
    replace hk : Blk w1 w.heap.size 75 #[.int .u64 (b : Int), .slice A0 l0.length c0] := hk
    replace hB := Below.via (w := w) (by have hs_ := hB.size; repeat (first | with_reducible exact hB | with_reducible (refine Below.setCell ?_ (by simp <;> omega) _) | with_reducible (refine Below.alloc ?_ (by first | exact hs_ | (simp <;> omega)) _) | with_reducible (refine Below.drew ?_))) bB
    clear z1 z2 z3 z4 z5
    clear bB
    have z6 : w1.cell? ⟨w.heap.size, 0, none⟩ = some (.int .u64 (b : Int)) := (hk.cell 0).trans rfl
    have z7 := hk.frozen 0
    have z8 : w1.cell? ⟨w.heap.size, 1, none⟩ = some (.slice A0 l0.length c0) := (hk.cell 1).trans rfl
    have z9 := hk.frozen 1
    have z10 := hk.lt
    go_wp2_with fail
    with_reducible refine (areStacks_any A m c L _ (HRS.out.mv hB) hm).mono ?_
    rintro e w2 ⟨rfl, bB⟩
    rw [HS.out]
    replace hk := Blk.via0 (g := w.heap.size) (t := 75) bB (by repeat (first | with_reducible exact hk | with_reducible (apply Blk.set_) | with_reducible (apply Blk.far; case hp => (simp <;> omega)) | with_reducible (apply Blk.alloc) | with_reducible (apply Blk.drew)))
    replace hk : Blk w2 w.heap.size 75 #[.int .u64 (b : Int), .slice A0 l0.length c0] := hk
    replace hB := Below.via (w := w) (by have hs_ := hB.size; repeat (first | with_reducible exact hB | with_reducible (refine Below.setCell ?_ (by simp <;> omega) _) | with_reducible (refine Below.alloc ?_ (by first | exact hs_ | (simp <;> omega)) _) | with_reducible (refine Below.drew ?_))) bB
    clear z6 z7 z8 z9 z10
    clear bB
    have z11 : w2.cell? ⟨w.heap.size, 0, none⟩ = some (.int .u64 (b : Int)) := (hk.cell 0).trans rfl
    have z12 := hk.frozen 0
    have z13 : w2.cell? ⟨w.heap.size, 1, none⟩ = some (.slice A0 l0.length c0) := (hk.cell 1).trans rfl
    have z14 := hk.frozen 1
    have z15 := hk.lt
    go_wp2_with fail
    go_ret2
    unfold ByP
    exact ⟨none, 0, by rw [HV.out.1, HV.out.2]; rfl, by rw [HV.out.2]; exact World.ownsRow_nil _ _ _ _, (by have hs_ := hB.size; repeat (first | with_reducible exact hB | with_reducible (refine Below.setCell ?_ (by simp <;> omega) _) | with_reducible (refine Below.alloc ?_ (by first | exact hs_ | (simp <;> omega)) _) | with_reducible (refine Below.drew ?_)))⟩
  replace HE := Lib.hid (HE.out.trans (if_neg (by omega)))
  by_cases h3 : at_ = 0
  · have HV := Lib.hid (by_no (b := b) (l0 := l0) (L := L) (at_ := at_) (n := n) (e := 42) (by rw [HE.out, if_pos h3]) (by decide))
    subst h3
    have hB : Below w.heap.size w (w.alloc (.cells #[.int .u64 (b : Int), .slice A0 l0.length c0] 75)) := (Below.alloc (Below.refl w.heap.size w) (by simp <;> omega) (.cells #[.int .u64 (b : Int), .slice A0 l0.length c0] 75))
    have hk := Blk.new w 75 #[.int .u64 (b : Int), .slice A0 l0.length c0]
    go_enter Try.func35, Try.ntmps35
    have z1 : (w.alloc (.cells #[.int .u64 (b : Int), .slice A0 l0.length c0] 75)).cell? ⟨w.heap.size, 0, none⟩ = some (.int .u64 (b : Int)) := (hk.cell 0).trans rfl
    have z2 := hk.frozen 0
    have z3 : (w.alloc (.cells #[.int .u64 (b : Int), .slice A0 l0.length c0] 75)).cell? ⟨w.heap.size, 1, none⟩ = some (.slice A0 l0.length c0) := (hk.cell 1).trans rfl
    have z4 := hk.frozen 1
    have z5 := hk.lt
    go_wp2_with fail
    with_reducible refine (isHeap_any b A0 l0.length c0 _).mono ?_
    rintro e w1 ⟨rfl, bB⟩
    rw [HH.out]
    replace hk := Blk.via0 (g := w.heap.size) (t := 75) bB (by repeat (first | with_reducible exact hk | with_reducible (apply Blk.set_) | with_reducible (apply Blk.far; case hp => (simp <;> omega)) | with_reducible (apply Blk.alloc) | with_reducible (apply Blk.drew)))
    replace hk : Blk w1 w.heap.size 75 #[.int .u64 (b : Int), .slice A0 l0.length c0] := hk
    replace hB := Below.via (w := w) (by have hs_ := hB.size; repeat (first | with_reducible exact hB | with_reducible (refine Below.setCell ?_ (by simp <;> omega) _) | with_reducible (refine Below.alloc ?_ (by first | exact hs_ | (simp <;> omega)) _) | with_reducible (refine Below.drew ?_))) bB
    clear z1 z2 z3 z4 z5
    clear bB
    have z6 : w1.cell? ⟨w.heap.size, 0, none⟩ = some (.int .u64 (b : Int)) := (hk.cell 0).trans rfl
    have z7 := hk.frozen 0
    have z8 : w1.cell? ⟨w.heap.size, 1, none⟩ = some (.slice A0 l0.length c0) := (hk.cell 1).trans rfl
    have z9 := hk.frozen 1
    have z10 := hk.lt
    go_wp2_with fail
    with_reducible refine (areStacks_any A m c L _ (HRS.out.mv hB) hm).mono ?_
    rintro e w2 ⟨rfl, bB⟩
    rw [HS.out]
    replace hk := Blk.via0 (g := w.heap.size) (t := 75) bB (by repeat (first | with_reducible exact hk | with_reducible (apply Blk.set_) | with_reducible (apply Blk.far; case hp => (simp <;> omega)) | with_reducible (apply Blk.alloc) | with_reducible (apply Blk.drew)))
    replace hk : Blk w2 w.heap.size 75 #[.int .u64 (b : Int), .slice A0 l0.length c0] := hk
    replace hB := Below.via (w := w) (by have hs_ := hB.size; repeat (first | with_reducible exact hB | with_reducible (refine Below.setCell ?_ (by simp <;> omega) _) | with_reducible (refine Below.alloc ?_ (by first | exact hs_ | (simp <;> omega)) _) | with_reducible (refine Below.drew ?_))) bB
    clear z6 z7 z8 z9 z10
    clear bB
    have z11 : w2.cell? ⟨w.heap.size, 0, none⟩ = some (.int .u64 (b : Int)) := (hk.cell 0).trans rfl
    have z12 := hk.frozen 0
    have z13 : w2.cell? ⟨w.heap.size, 1, none⟩ = some (.slice A0 l0.length c0) := (hk.cell 1).trans rfl
    have z14 := hk.frozen 1
    have z15 := hk.lt
    go_wp2_with fail
    go_ret2
    unfold ByP
    exact ⟨none, 0, by rw [HV.out.1, HV.out.2]; rfl, by rw [HV.out.2]; exact World.ownsRow_nil _ _ _ _, (by have hs_ := hB.size; repeat (first | with_reducible exact hB | with_reducible (refine Below.setCell ?_ (by simp <;> omega) _) | with_reducible (refine Below.alloc ?_ (by first | exact hs_ | (simp <;> omega)) _) | with_reducible (refine Below.drew ?_)))⟩
  replace HE := Lib.hid (HE.out.trans (if_neg h3))
  have d3 : ((at_ : Int) == 0) = false := by rw [beq_eq_false_iff_ne]; omega
  obtain ⟨n, rfl⟩ : ∃ k : Nat, n = (k : Int) := ⟨n.toNat, by omega⟩
  rw [Int.toNat_natCast] at HE
  have hn4 : n ≤ 4096 := by omega
  cases hf : (fdR at_ n ((b, l0) :: L)).isSome
  · have HF := Lib.hid hf
    have HV := Lib.hid (by_no (b := b) (l0 := l0) (L := L) (at_ := at_) (n := (n : Int)) (e := 16) (by rw [HE.out, hf]; rfl) (by decide))
    clear hf
    have hB : Below w.heap.size w (w.alloc (.cells #[.int .u64 (b : Int), .slice A0 l0.length c0] 75)) := (Below.alloc (Below.refl w.heap.size w) (by simp <;> omega) (.cells #[.int .u64 (b : Int), .slice A0 l0.length c0] 75))
    have hk := Blk.new w 75 #[.int .u64 (b : Int), .slice A0 l0.length c0]
    go_enter Try.func35, Try.ntmps35
    have z1 : (w.alloc (.cells #[.int .u64 (b : Int), .slice A0 l0.length c0] 75)).cell? ⟨w.heap.size, 0, none⟩ = some (.int .u64 (b : Int)) := (hk.cell 0).trans rfl
    have z2 := hk.frozen 0
    have z3 : (w.alloc (.cells #[.int .u64 (b : Int), .slice A0 l0.length c0] 75)).cell? ⟨w.heap.size, 1, none⟩ = some (.slice A0 l0.length c0) := (hk.cell 1).trans rfl
    have z4 := hk.frozen 1
    have z5 := hk.lt
    go_wp2_with fail
    with_reducible refine (isHeap_any b A0 l0.length c0 _).mono ?_
    rintro e w1 ⟨rfl, bB⟩
    rw [HH.out]
    replace hk := Blk.via0 (g := w.heap.size) (t := 75) bB (by repeat (first | with_reducible exact hk | with_reducible (apply Blk.set_) | with_reducible (apply Blk.far; case hp => (simp <;> omega)) | with_reducible (apply Blk.alloc) | with_reducible (apply Blk.drew)))
    replace hk : Blk w1 w.heap.size 75 #[.int .u64 (b : Int), .slice A0 l0.length c0] := hk
    replace hB := Below.via (w := w) (by have hs_ := hB.size; repeat (first | with_reducible exact hB | with_reducible (refine Below.setCell ?_ (by simp <;> omega) _) | with_reducible (refine Below.alloc ?_ (by first | exact hs_ | (simp <;> omega)) _) | with_reducible (refine Below.drew ?_))) bB
    clear z1 z2 z3 z4 z5
    clear bB
    have z6 : w1.cell? ⟨w.heap.size, 0, none⟩ = some (.int .u64 (b : Int)) := (hk.cell 0).trans rfl
    have z7 := hk.frozen 0
    have z8 : w1.cell? ⟨w.heap.size, 1, none⟩ = some (.slice A0 l0.length c0) := (hk.cell 1).trans rfl
    have z9 := hk.frozen 1
    have z10 := hk.lt
    go_wp2_with fail
    with_reducible refine (areStacks_any A m c L _ (HRS.out.mv hB) hm).mono ?_
    rintro e w2 ⟨rfl, bB⟩
    rw [HS.out]
    replace hk := Blk.via0 (g := w.heap.size) (t := 75) bB (by repeat (first | with_reducible exact hk | with_reducible (apply Blk.set_) | with_reducible (apply Blk.far; case hp => (simp <;> omega)) | with_reducible (apply Blk.alloc) | with_reducible (apply Blk.drew)))
    replace hk : Blk w2 w.heap.size 75 #[.int .u64 (b : Int), .slice A0 l0.length c0] := hk
    replace hB := Below.via (w := w) (by have hs_ := hB.size; repeat (first | with_reducible exact hB | with_reducible (refine Below.setCell ?_ (by simp <;> omega) _) | with_reducible (refine Below.alloc ?_ (by first | exact hs_ | (simp <;> omega)) _) | with_reducible (refine Below.drew ?_))) bB
    clear z6 z7 z8 z9 z10
    clear bB
    have z11 : w2.cell? ⟨w.heap.size, 0, none⟩ = some (.int .u64 (b : Int)) := (hk.cell 0).trans rfl
    have z12 := hk.frozen 0
    have z13 : w2.cell? ⟨w.heap.size, 1, none⟩ = some (.slice A0 l0.length c0) := (hk.cell 1).trans rfl
    have z14 := hk.frozen 1
    have z15 := hk.lt
    go_wp2_with fail
    with_reducible refine (find_any b A0 l0.length c0 l0 A m c L at_ n _ (HR0.out.mv hB) hc0 hb (HRS.out.mv hB) hm hat hn4).mono ?_
    rintro e w3 ⟨A3, c3, rfl, o3, bB⟩
    rw [HF.out]
    have hsz2 := hB.size
    replace hk := Blk.via0 (g := w.heap.size) (t := 75) bB (by repeat (first | with_reducible exact hk | with_reducible (apply Blk.set_) | with_reducible (apply Blk.far; case hp => (simp <;> omega)) | with_reducible (apply Blk.alloc) | with_reducible (apply Blk.drew)))
    replace hk : Blk w3 w.heap.size 75 #[.int .u64 (b : Int), .slice A0 l0.length c0] := hk
    replace hB := Below.via (w := w) (by have hs_ := hB.size; repeat (first | with_reducible exact hB | with_reducible (refine Below.setCell ?_ (by simp <;> omega) _) | with_reducible (refine Below.alloc ?_ (by first | exact hs_ | (simp <;> omega)) _) | with_reducible (refine Below.drew ?_))) bB
    clear z11 z12 z13 z14 z15
    clear bB
    clear o3
    have z16 : w3.cell? ⟨w.heap.size, 0, none⟩ = some (.int .u64 (b : Int)) := (hk.cell 0).trans rfl
    have z17 := hk.frozen 0
    have z18 : w3.cell? ⟨w.heap.size, 1, none⟩ = some (.slice A0 l0.length c0) := (hk.cell 1).trans rfl
    have z19 := hk.frozen 1
    have z20 := hk.lt
    go_wp2_with fail
    go_ret2
    unfold ByP
    exact ⟨none, 0, by rw [HV.out.1, HV.out.2]; rfl, by rw [HV.out.2]; exact World.ownsRow_nil _ _ _ _, (by have hs_ := hB.size; repeat (first | with_reducible exact hB | with_reducible (refine Below.setCell ?_ (by simp <;> omega) _) | with_reducible (refine Below.alloc ?_ (by first | exact hs_ | (simp <;> omega)) _) | with_reducible (refine Below.drew ?_)))⟩
  have HF := Lib.hid hf
  have HV := Lib.hid (show byE b l0 L at_ (n : Int) = 0 ∧ byL b l0 L at_ (n : Int) = fdL at_ n ((b, l0) :: L) from by
    have h : byE b l0 L at_ (n : Int) = 0 := by rw [HE.out, hf]; rfl
    exact ⟨h, by rw [byL, if_pos h, Int.toNat_natCast]⟩)
  clear hf
  have hB : Below w.heap.size w (w.alloc (.cells #[.int .u64 (b : Int), .slice A0 l0.length c0] 75)) := (Below.alloc (Below.refl w.heap.size w) (by simp <;> omega) (.cells #[.int .u64 (b : Int), .slice A0 l0.length c0] 75))
  have hk := Blk.new w 75 #[.int .u64 (b : Int), .slice A0 l0.length c0]
  go_enter Try.func35, Try.ntmps35
  have z1 : (w.alloc (.cells #[.int .u64 (b : Int), .slice A0 l0.length c0] 75)).cell? ⟨w.heap.size, 0, none⟩ = some (.int .u64 (b : Int)) := (hk.cell 0).trans rfl
  have z2 := hk.frozen 0
  have z3 : (w.alloc (.cells #[.int .u64 (b : Int), .slice A0 l0.length c0] 75)).cell? ⟨w.heap.size, 1, none⟩ = some (.slice A0 l0.length c0) := (hk.cell 1).trans rfl
  have z4 := hk.frozen 1
  have z5 := hk.lt
  go_wp2_with fail
  with_reducible refine (isHeap_any b A0 l0.length c0 _).mono ?_
  rintro e w1 ⟨rfl, bB⟩
  rw [HH.out]
  replace hk := Blk.via0 (g := w.heap.size) (t := 75) bB (by repeat (first | with_reducible exact hk | with_reducible (apply Blk.set_) | with_reducible (apply Blk.far; case hp => (simp <;> omega)) | with_reducible (apply Blk.alloc) | with_reducible (apply Blk.drew)))
  replace hk : Blk w1 w.heap.size 75 #[.int .u64 (b : Int), .slice A0 l0.length c0] := hk
  replace hB := Below.via (w := w) (by have hs_ := hB.size; repeat (first | with_reducible exact hB | with_reducible (refine Below.setCell ?_ (by simp <;> omega) _) | with_reducible (refine Below.alloc ?_ (by first | exact hs_ | (simp <;> omega)) _) | with_reducible (refine Below.drew ?_))) bB
  clear z1 z2 z3 z4 z5
  clear bB
  have z6 : w1.cell? ⟨w.heap.size, 0, none⟩ = some (.int .u64 (b : Int)) := (hk.cell 0).trans rfl
  have z7 := hk.frozen 0
  have z8 : w1.cell? ⟨w.heap.size, 1, none⟩ = some (.slice A0 l0.length c0) := (hk.cell 1).trans rfl
  have z9 := hk.frozen 1
  have z10 := hk.lt
  go_wp2_with fail
  with_reducible refine (areStacks_any A m c L _ (HRS.out.mv hB) hm).mono ?_
  rintro e w2 ⟨rfl, bB⟩
  rw [HS.out]
  replace hk := Blk.via0 (g := w.heap.size) (t := 75) bB (by repeat (first | with_reducible exact hk | with_reducible (apply Blk.set_) | with_reducible (apply Blk.far; case hp => (simp <;> omega)) | with_reducible (apply Blk.alloc) | with_reducible (apply Blk.drew)))
  replace hk : Blk w2 w.heap.size 75 #[.int .u64 (b : Int), .slice A0 l0.length c0] := hk
  replace hB := Below.via (w := w) (by have hs_ := hB.size; repeat (first | with_reducible exact hB | with_reducible (refine Below.setCell ?_ (by simp <;> omega) _) | with_reducible (refine Below.alloc ?_ (by first | exact hs_ | (simp <;> omega)) _) | with_reducible (refine Below.drew ?_))) bB
  clear z6 z7 z8 z9 z10
  clear bB
  have z11 : w2.cell? ⟨w.heap.size, 0, none⟩ = some (.int .u64 (b : Int)) := (hk.cell 0).trans rfl
  have z12 := hk.frozen 0
  have z13 : w2.cell? ⟨w.heap.size, 1, none⟩ = some (.slice A0 l0.length c0) := (hk.cell 1).trans rfl
  have z14 := hk.frozen 1
  have z15 := hk.lt
  go_wp2_with fail
  with_reducible refine (find_any b A0 l0.length c0 l0 A m c L at_ n _ (HR0.out.mv hB) hc0 hb (HRS.out.mv hB) hm hat hn4).mono ?_
  rintro e w3 ⟨A3, c3, rfl, o3, bB⟩
  rw [HF.out]
  have hsz2 := hB.size
  replace hk := Blk.via0 (g := w.heap.size) (t := 75) bB (by repeat (first | with_reducible exact hk | with_reducible (apply Blk.set_) | with_reducible (apply Blk.far; case hp => (simp <;> omega)) | with_reducible (apply Blk.alloc) | with_reducible (apply Blk.drew)))
  replace hk : Blk w3 w.heap.size 75 #[.int .u64 (b : Int), .slice A0 l0.length c0] := hk
  replace hB := Below.via (w := w) (by have hs_ := hB.size; repeat (first | with_reducible exact hB | with_reducible (refine Below.setCell ?_ (by simp <;> omega) _) | with_reducible (refine Below.alloc ?_ (by first | exact hs_ | (simp <;> omega)) _) | with_reducible (refine Below.drew ?_))) bB
  clear z11 z12 z13 z14 z15
  clear bB
  have z16 : w3.cell? ⟨w.heap.size, 0, none⟩ = some (.int .u64 (b : Int)) := (hk.cell 0).trans rfl
  have z17 := hk.frozen 0
  have z18 : w3.cell? ⟨w.heap.size, 1, none⟩ = some (.slice A0 l0.length c0) := (hk.cell 1).trans rfl
  have z19 := hk.frozen 1
  have z20 := hk.lt
  go_wp2_with fail
  go_ret2
  unfold ByP
  exact ⟨A3, c3, by rw [HV.out.1, HV.out.2]; rfl, by rw [HV.out.2]; exact own_low o3 hsz2, (by have hs_ := hB.size; repeat (first | with_reducible exact hB | with_reducible (refine Below.setCell ?_ (by simp <;> omega) _) | with_reducible (refine Below.alloc ?_ (by first | exact hs_ | (simp <;> omega)) _) | with_reducible (refine Below.drew ?_)))⟩
set_option maxRecDepth 100000 in
set_option maxHeartbeats 4000000 in
theorem word_any (b : Nat) (A0 : Option Addr) (n0 c0 : Nat) (l0 : List UInt8) (A : Option Addr) (m c : Nat) (L : List (Nat × List UInt8)) (at_ : Nat) (w : World) (hr0 : Rb w A0 n0 l0) (hc0 : n0 ≤ c0 ∧ c0 ≤ 9223372036854775807) (hb : b < 18446744073709551616) (hr : RdR w A m L) (hm : m ≤ 1000000) (hat : at_ < 18446744073709551616) :
    Calls Try.prog 34 #[rgn b A0 n0 c0, .slice A m c, .int .u64 (at_ : Int)] w fun e w' => e = .returned (.tuple #[.int .u64 (woN b l0 L at_ : Nat), .int .i64 (woE b l0 L at_)]) ∧ Below w.heap.size w w' := by
  have hl := hr0.len8
  subst hl
  have HR0 := Lib.hid hr0
  have HRS := Lib.hid hr
  clear hr0 hr
  have HBY := Lib.hid (fun W (h0 : Rb W A0 l0.length l0) (h1 : RdR W A m L) => bytes_any b A0 l0.length c0 l0 A m c L at_ 8 W h0 hc0 hb h1 hm hat)
  unfold ByP at HBY
  obtain ⟨f, hf⟩ : ∃ f, byE b l0 L at_ 8 = f := ⟨_, rfl⟩
  obtain ⟨T, hT⟩ : ∃ T, byL b l0 L at_ 8 = T := ⟨_, rfl⟩
  rw [hf, hT] at HBY
  by_cases hf0 : f = 0
  rotate_left
  · have d1 : (f != 0) = true := by rw [bne_iff_ne]; exact hf0
    have HV := Lib.hid (show woE b l0 L at_ = f ∧ woN b l0 L at_ = 0 from by
      have h : woE b l0 L at_ = f := by rw [woE, hf, if_pos hf0]
      exact ⟨h, by rw [woN, if_neg (by rw [h]; exact hf0)]⟩)
    clear hf hT hf0
    have hB : Below w.heap.size w (w.alloc (.cells #[.int .u64 (b : Int), .slice A0 l0.length c0] 75)) := (Below.alloc (Below.refl w.heap.size w) (by simp <;> omega) (.cells #[.int .u64 (b : Int), .slice A0 l0.length c0] 75))
    have hk := Blk.new w 75 #[.int .u64 (b : Int), .slice A0 l0.length c0]
    go_enter Try.func34, Try.ntmps34
    have z1 : (w.alloc (.cells #[.int .u64 (b : Int), .slice A0 l0.length c0] 75)).cell? ⟨w.heap.size, 0, none⟩ = some (.int .u64 (b : Int)) := (hk.cell 0).trans rfl
    have z2 := hk.frozen 0
    have z3 : (w.alloc (.cells #[.int .u64 (b : Int), .slice A0 l0.length c0] 75)).cell? ⟨w.heap.size, 1, none⟩ = some (.slice A0 l0.length c0) := (hk.cell 1).trans rfl
    have z4 := hk.frozen 1
    have z5 := hk.lt
    go_wp2_with fail
    with_reducible refine (HBY.out _ (HR0.out.mv hB) (HRS.out.mv hB)).mono ?_
    rintro e w1 ⟨A1, c1, rfl, o1, bB⟩
    have ne_o1_hk : (Value.slice A1 T.length c1).ownBlock ≠ some w.heap.size := own_not_lt o1 (by first | omega | (simp <;> omega))
    replace o1 := own_low o1 (show w.heap.size ≤ _ from by have hs_ := hB.size; simp <;> omega)
    replace hk := Blk.via0 (g := w.heap.size) (t := 75) bB (by repeat (first | with_reducible exact hk | with_reducible (apply Blk.set_) | with_reducible (apply Blk.far; case hp => (simp <;> omega)) | with_reducible (apply Blk.alloc) | with_reducible (apply Blk.drew)))
    replace hk : Blk w1 w.heap.size 75 #[.int .u64 (b : Int), .slice A0 l0.length c0] := hk
    replace hB := Below.via (w := w) (by have hs_ := hB.size; repeat (first | with_reducible exact hB | with_reducible (refine Below.setCell ?_ (by simp <;> omega) _) | with_reducible (refine Below.alloc ?_ (by first | exact hs_ | (simp <;> omega)) _) | with_reducible (refine Below.drew ?_))) bB
    clear z1 z2 z3 z4 z5
    clear bB
    have z6 : w1.cell? ⟨w.heap.size, 0, none⟩ = some (.int .u64 (b : Int)) := (hk.cell 0).trans rfl
    have z7 := hk.frozen 0
    have z8 : w1.cell? ⟨w.heap.size, 1, none⟩ = some (.slice A0 l0.length c0) := (hk.cell 1).trans rfl
    have z9 := hk.frozen 1
    have z10 := hk.lt
    go_wp2_with fail
    go_ret2
    exact ⟨by rw [HV.out.1, HV.out.2]; rfl, (by have hs_ := hB.size; repeat (first | with_reducible exact hB | with_reducible (refine Below.setCell ?_ (by simp <;> omega) _) | with_reducible (refine Below.alloc ?_ (by first | exact hs_ | (simp <;> omega)) _) | with_reducible (refine Below.drew ?_)))⟩
  subst hf0
  have hln := by_len hf
  rw [hT] at hln
  have hT8 : T.length = 8 := hln.1
  by_cases h8 : at_ % 8 = 0
  rotate_left
  · have d2 : ((at_ : Int) % 8 != 0) = true := by rw [bne_iff_ne]; omega
    have HV := Lib.hid (show woE b l0 L at_ = 16 ∧ woN b l0 L at_ = 0 from by
      have h : woE b l0 L at_ = 16 := by rw [woE, hf, if_neg (by simp), if_pos h8]
      exact ⟨h, by rw [woN, if_neg (by rw [h]; decide)]⟩)
    clear hf hT hln h8 hT8
    have hB : Below w.heap.size w (w.alloc (.cells #[.int .u64 (b : Int), .slice A0 l0.length c0] 75)) := (Below.alloc (Below.refl w.heap.size w) (by simp <;> omega) (.cells #[.int .u64 (b : Int), .slice A0 l0.length c0] 75))
    have hk := Blk.new w 75 #[.int .u64 (b : Int), .slice A0 l0.length c0]
    go_enter Try.func34, Try.ntmps34
    have z1 : (w.alloc (.cells #[.int .u64 (b : Int), .slice A0 l0.length c0] 75)).cell? ⟨w.heap.size, 0, none⟩ = some (.int .u64 (b : Int)) := (hk.cell 0).trans rfl
    have z2 := hk.frozen 0
    have z3 : (w.alloc (.cells #[.int .u64 (b : Int), .slice A0 l0.length c0] 75)).cell? ⟨w.heap.size, 1, none⟩ = some (.slice A0 l0.length c0) := (hk.cell 1).trans rfl
    have z4 := hk.frozen 1
    have z5 := hk.lt
    go_wp2_with fail
    with_reducible refine (HBY.out _ (HR0.out.mv hB) (HRS.out.mv hB)).mono ?_
    rintro e w1 ⟨A1, c1, rfl, o1, bB⟩
    have ne_o1_hk : (Value.slice A1 T.length c1).ownBlock ≠ some w.heap.size := own_not_lt o1 (by first | omega | (simp <;> omega))
    replace o1 := own_low o1 (show w.heap.size ≤ _ from by have hs_ := hB.size; simp <;> omega)
    replace hk := Blk.via0 (g := w.heap.size) (t := 75) bB (by repeat (first | with_reducible exact hk | with_reducible (apply Blk.set_) | with_reducible (apply Blk.far; case hp => (simp <;> omega)) | with_reducible (apply Blk.alloc) | with_reducible (apply Blk.drew)))
    replace hk : Blk w1 w.heap.size 75 #[.int .u64 (b : Int), .slice A0 l0.length c0] := hk
    replace hB := Below.via (w := w) (by have hs_ := hB.size; repeat (first | with_reducible exact hB | with_reducible (refine Below.setCell ?_ (by simp <;> omega) _) | with_reducible (refine Below.alloc ?_ (by first | exact hs_ | (simp <;> omega)) _) | with_reducible (refine Below.drew ?_))) bB
    clear z1 z2 z3 z4 z5
    clear bB
    have z6 : w1.cell? ⟨w.heap.size, 0, none⟩ = some (.int .u64 (b : Int)) := (hk.cell 0).trans rfl
    have z7 := hk.frozen 0
    have z8 : w1.cell? ⟨w.heap.size, 1, none⟩ = some (.slice A0 l0.length c0) := (hk.cell 1).trans rfl
    have z9 := hk.frozen 1
    have z10 := hk.lt
    go_wp2_with fail
    go_ret2
    exact ⟨by rw [HV.out.1, HV.out.2]; rfl, (by have hs_ := hB.size; repeat (first | with_reducible exact hB | with_reducible (refine Below.setCell ?_ (by simp <;> omega) _) | with_reducible (refine Below.alloc ?_ (by first | exact hs_ | (simp <;> omega)) _) | with_reducible (refine Below.drew ?_)))⟩
  have d2 : ((at_ : Int) % 8 != 0) = false := by rw [bne_eq_false_iff_eq]; omega
  have hT9 : T.length ≤ 8 := by omega
  have HN := Lib.hid (show nwL T = T ∧ nwE T = 0 from by constructor <;> simp [nwL, nwE, hT8])
  have HUF := Lib.hid (show (∀ A n c, ufC A n c T 0 8 = cur A n c 8) ∧ ufN T 0 8 = unl T ∧ ufE T 0 8 = 0 from by
    have h : ufE T 0 8 = 0 := by unfold ufE; rw [hT8]; rfl
    exact ⟨fun A n c => by rw [ufC, if_pos h]; rfl, by rw [ufN, if_pos h]; simp [← hT8], h⟩)
  have HV := Lib.hid (show woE b l0 L at_ = 0 ∧ woN b l0 L at_ = unl T from by
    have h : woE b l0 L at_ = 0 := by rw [woE, hf, if_neg (by simp), if_neg (by omega)]
    exact ⟨h, by rw [woN, if_pos h, hT]⟩)
  clear hf hT hln h8 hT8
  have hB : Below w.heap.size w (w.alloc (.cells #[.int .u64 (b : Int), .slice A0 l0.length c0] 75)) := (Below.alloc (Below.refl w.heap.size w) (by simp <;> omega) (.cells #[.int .u64 (b : Int), .slice A0 l0.length c0] 75))
  have hk := Blk.new w 75 #[.int .u64 (b : Int), .slice A0 l0.length c0]
  go_enter Try.func34, Try.ntmps34
  have z1 : (w.alloc (.cells #[.int .u64 (b : Int), .slice A0 l0.length c0] 75)).cell? ⟨w.heap.size, 0, none⟩ = some (.int .u64 (b : Int)) := (hk.cell 0).trans rfl
  have z2 := hk.frozen 0
  have z3 : (w.alloc (.cells #[.int .u64 (b : Int), .slice A0 l0.length c0] 75)).cell? ⟨w.heap.size, 1, none⟩ = some (.slice A0 l0.length c0) := (hk.cell 1).trans rfl
  have z4 := hk.frozen 1
  have z5 := hk.lt
  go_wp2_with fail
  with_reducible refine (HBY.out _ (HR0.out.mv hB) (HRS.out.mv hB)).mono ?_
  rintro e w1 ⟨A1, c1, rfl, o1, bB⟩
  have ne_o1_hk : (Value.slice A1 T.length c1).ownBlock ≠ some w.heap.size := own_not_lt o1 (by first | omega | (simp <;> omega))
  replace o1 := own_low o1 (show w.heap.size ≤ _ from by have hs_ := hB.size; simp <;> omega)
  replace hk := Blk.via0 (g := w.heap.size) (t := 75) bB (by repeat (first | with_reducible exact hk | with_reducible (apply Blk.set_) | with_reducible (apply Blk.far; case hp => (simp <;> omega)) | with_reducible (apply Blk.alloc) | with_reducible (apply Blk.drew)))
  replace hk : Blk w1 w.heap.size 75 #[.int .u64 (b : Int), .slice A0 l0.length c0] := hk
  replace hB := Below.via (w := w) (by have hs_ := hB.size; repeat (first | with_reducible exact hB | with_reducible (refine Below.setCell ?_ (by simp <;> omega) _) | with_reducible (refine Below.alloc ?_ (by first | exact hs_ | (simp <;> omega)) _) | with_reducible (refine Below.drew ?_))) bB
  clear z1 z2 z3 z4 z5
  clear bB
  have z6 : w1.cell? ⟨w.heap.size, 0, none⟩ = some (.int .u64 (b : Int)) := (hk.cell 0).trans rfl
  have z7 := hk.frozen 0
  have z8 : w1.cell? ⟨w.heap.size, 1, none⟩ = some (.slice A0 l0.length c0) := (hk.cell 1).trans rfl
  have z9 := hk.frozen 1
  have z10 := hk.lt
  go_wp2_with fail
  with_reducible refine (new_any A1 T.length c1 T _ (own_rd o1) (by omega)).mono ?_
  rintro e w2 ⟨A2, c2, rfl, o2, bB⟩
  rw [HN.out.1, HN.out.2] at *
  have ne_o2_hk : (Value.slice A2 T.length c2).ownBlock ≠ some w.heap.size := own_not_lt o2 (by first | omega | (simp <;> omega))
  replace o2 := own_low o2 (show w.heap.size ≤ _ from by have hs_ := hB.size; simp <;> omega)
  replace hk := Blk.via0 (g := w.heap.size) (t := 75) bB (by repeat (first | with_reducible exact hk | with_reducible (apply Blk.set_) | with_reducible (apply Blk.far; case hp => (simp <;> omega)) | with_reducible (apply Blk.alloc) | with_reducible (apply Blk.drew)))
  replace hk : Blk w2 w.heap.size 75 #[.int .u64 (b : Int), .slice A0 l0.length c0] := hk
  replace o1 := own_call (by repeat (first | with_reducible exact o1 | (with_reducible apply own_set_; case hne => first | exact ne_o1_hk) | with_reducible (apply own_alloc_) | with_reducible (apply own_drew_))) bB
  replace hB := Below.via (w := w) (by have hs_ := hB.size; repeat (first | with_reducible exact hB | with_reducible (refine Below.setCell ?_ (by simp <;> omega) _) | with_reducible (refine Below.alloc ?_ (by first | exact hs_ | (simp <;> omega)) _) | with_reducible (refine Below.drew ?_))) bB
  clear z6 z7 z8 z9 z10
  clear bB
  have z11 : w2.cell? ⟨w.heap.size, 0, none⟩ = some (.int .u64 (b : Int)) := (hk.cell 0).trans rfl
  have z12 := hk.frozen 0
  have z13 : w2.cell? ⟨w.heap.size, 1, none⟩ = some (.slice A0 l0.length c0) := (hk.cell 1).trans rfl
  have z14 := hk.frozen 1
  have z15 := hk.lt
  go_wp2_with fail
  have hcc := own_cap o2
  unfold maxLen at hcc
  with_reducible refine (unfixed_any A2 T.length c2 T 0 8 _ (own_rd (by repeat (first | with_reducible exact o2 | (with_reducible apply own_set_; case hne => first | exact ne_o2_hk) | with_reducible (apply own_alloc_) | with_reducible (apply own_drew_)))) (by omega) (by omega) (by omega) (by omega)).mono ?_
  rintro e w3 ⟨rfl, bB⟩
  rw [HUF.out.1, HUF.out.2.1, HUF.out.2.2]
  have ne_o1_hc : (Value.slice A1 T.length c1).ownBlock ≠ some w2.heap.size := own_not_ge o1 (by omega)
  have ne_o2_hc : (Value.slice A2 T.length c2).ownBlock ≠ some w2.heap.size := own_not_ge o2 (by omega)
  have o_hk_hc : w.heap.size < w2.heap.size := (by omega)
  have ow_hc : w.heap.size ≤ w2.heap.size := (by have := hB.size; omega)
  replace hk := Blk.via0 (g := w.heap.size) (t := 75) bB (by repeat (first | with_reducible exact hk | with_reducible (apply Blk.set_) | with_reducible (apply Blk.far; case hp => (simp <;> omega)) | with_reducible (apply Blk.alloc) | with_reducible (apply Blk.drew)))
  replace hk : Blk w3 w.heap.size 75 #[.int .u64 (b : Int), .slice A0 l0.length c0] := hk
  replace o1 := own_call (by repeat (first | with_reducible exact o1 | (with_reducible apply own_set_; case hne => first | exact ne_o1_hk) | with_reducible (apply own_alloc_) | with_reducible (apply own_drew_))) bB
  replace o2 := own_call (by repeat (first | with_reducible exact o2 | (with_reducible apply own_set_; case hne => first | exact ne_o2_hk) | with_reducible (apply own_alloc_) | with_reducible (apply own_drew_))) bB
  have hc := Blk.via0 (g := w2.heap.size) (t := 70) bB (by repeat (first | with_reducible exact Blk.newAt (by simp) _ _ | with_reducible (apply Blk.set_) | with_reducible (apply Blk.far; case hp => (simp <;> omega)) | with_reducible (apply Blk.alloc) | with_reducible (apply Blk.drew)))
  replace hc : Blk w3 w2.heap.size 70 #[.slice A2 T.length c2, .int .i64 0] := hc
  replace hB := Below.via (w := w) (by have hs_ := hB.size; repeat (first | with_reducible exact hB | with_reducible (refine Below.setCell ?_ (by simp <;> omega) _) | with_reducible (refine Below.alloc ?_ (by first | exact hs_ | (simp <;> omega)) _) | with_reducible (refine Below.drew ?_))) bB
  clear z11 z12 z13 z14 z15
  clear bB
  generalize w2.heap.size = pc at *
  have z16 : w3.cell? ⟨w.heap.size, 0, none⟩ = some (.int .u64 (b : Int)) := (hk.cell 0).trans rfl
  have z17 := hk.frozen 0
  have z18 : ∀ ob_, (w3.alloc ob_).cell? ⟨w.heap.size, 0, none⟩ = some (.int .u64 (b : Int)) := fun ob_ => ((Blk.alloc hk ob_).cell 0).trans rfl
  have z19 : ∀ ob_, (w3.alloc ob_).frozen? ⟨w.heap.size, 0, none⟩ = false := fun ob_ => (Blk.alloc hk ob_).frozen 0
  have z20 : w3.cell? ⟨w.heap.size, 1, none⟩ = some (.slice A0 l0.length c0) := (hk.cell 1).trans rfl
  have z21 := hk.frozen 1
  have z22 : ∀ ob_, (w3.alloc ob_).cell? ⟨w.heap.size, 1, none⟩ = some (.slice A0 l0.length c0) := fun ob_ => ((Blk.alloc hk ob_).cell 1).trans rfl
  have z23 : ∀ ob_, (w3.alloc ob_).frozen? ⟨w.heap.size, 1, none⟩ = false := fun ob_ => (Blk.alloc hk ob_).frozen 1
  have z24 : w3.cell? ⟨pc, 0, none⟩ = some (.slice A2 T.length c2) := (hc.cell 0).trans rfl
  have z25 := hc.frozen 0
  have z26 : w3.cell? ⟨pc, 1, none⟩ = some (.int .i64 0) := (hc.cell 1).trans rfl
  have z27 := hc.frozen 1
  have z28 := hk.lt
  have z29 := hc.lt
  go_wp2_with fail
  go_ret2
  exact ⟨by rw [HV.out.1, HV.out.2]; rfl, (by have hs_ := hB.size; repeat (first | with_reducible exact hB | with_reducible (refine Below.setCell ?_ (by simp <;> omega) _) | with_reducible (refine Below.alloc ?_ (by first | exact hs_ | (simp <;> omega)) _) | with_reducible (refine Below.drew ?_)))⟩

end Go.Proofs.Ytldaijkcmnnjpaa
