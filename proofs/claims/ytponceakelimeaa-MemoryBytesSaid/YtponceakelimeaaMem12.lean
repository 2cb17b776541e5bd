/- The contracts of the reference's read and ReadHeap. Each states its conditions. -/
import Derived.Test.YtponceakelimeaaMem11
namespace Go.Proofs.Ytponceakelimeaa
open Go.RowKit Wire
set_option linter.unusedVariables false

/-- Whether bytes begin with a region's. -/
def rrB (l : List UInt8) : Bool := decide ((uvR l 0).1 = 0) && decide ((uvR l 0).2.2 + (uvR l 0).2.1 ≤ l.length)
def rrN (b : Nat) (l : List UInt8) : Nat := if rrB l then b else 0
def rrL (l : List UInt8) : List UInt8 := if rrB l then (l.drop (uvR l 0).2.2).take (uvR l 0).2.1 else []
def rrK (l : List UInt8) : Nat := if rrB l then (uvR l 0).2.2 + (uvR l 0).2.1 else 0
theorem rr_no {b : Nat} {l : List UInt8} (h : rrB l = false) : rrN b l = 0 ∧ rrL l = [] ∧ rrK l = 0 := by simp [rrN, rrL, rrK, h]
theorem rr_yes {b : Nat} {l : List UInt8} (h : rrB l = true) : rrN b l = b ∧ rrL l = (l.drop (uvR l 0).2.2).take (uvR l 0).2.1 ∧ rrK l = (uvR l 0).2.2 + (uvR l 0).2.1 := by simp [rrN, rrL, rrK, h]
/-- What the reference's read does. -/
def RrP (w : World) (b : Nat) (l : List UInt8) (e : Ending) (w' : World) : Prop :=
  ∃ A' c', e = .returned (.tuple #[rgn (rrN b l) A' (rrL l).length c', .int .i64 (rrK l : Nat)]) ∧ w'.ownsRow w.heap.size 5 1 (.slice A' (rrL l).length c') (rrL l).length ((rrL l).map b8) ∧ Below w.heap.size w w'

set_option maxRecDepth 100000 in
set_option maxHeartbeats 3200000 in
theorem rread26_any (A : Option Addr) (n c : Nat) (l : List UInt8) (b : Nat) (w : World) (hr : Rb w A n l) (hcc : l.length ≤ c) (hn : l.length ≤ 200000) :
    Calls Try.prog 43 #[.slice A n c, .int .u64 (b : Int)] w fun e w' => RrP w b l e w' := by
  have hl := hr.len8
  subst hl
  have HR := Lib.hid hr
  clear hr
  by_cases ht : rdE l (0 : Nat) = 0
  rotate_left
  · have HV := Lib.hid (rr_no (b := b) (l := l) (by have : (uvR l 0).1 ≠ 0 := ht; simp [rrB, this]))
    obtain ⟨f, hf⟩ : ∃ f, rdE l (0 : Nat) = f := ⟨_, rfl⟩
    have d1 : (f != 0) = true := by rw [bne_iff_ne, ← hf]; exact ht
    have HT := Lib.hid (show rdC A l.length c l (0 : Nat) = cur none 0 0 0 ∧ rdN l (0 : Nat) = 0 ∧ rdE l (0 : Nat) = f from ⟨by rw [rdC, if_neg ht], by rw [rdN, if_neg ht], hf⟩)
    clear ht hf
    have hB : Below w.heap.size w (w.alloc (.cells #[.int .u64 0, .slice none 0 0] 25)) := (Below.alloc (Below.refl w.heap.size w) (by simp <;> omega) (.cells #[.int .u64 0, .slice none 0 0] 25))
    have hr := Blk.new w 25 #[.int .u64 0, .slice none 0 0]
    go_enter Try.func43, Try.ntmps43
    have z1 : (w.alloc (.cells #[.int .u64 0, .slice none 0 0] 25)).cell? ⟨w.heap.size, 0, none⟩ = some (.int .u64 0) := (hr.cell 0).trans rfl
    have z2 := hr.frozen 0
    have z3 : (w.alloc (.cells #[.int .u64 0, .slice none 0 0] 25)).cell? ⟨w.heap.size, 1, none⟩ = some (.slice none 0 0) := (hr.cell 1).trans rfl
    have z4 := hr.frozen 1
    have z5 := hr.lt
    go_wp2_with fail
    refine (read_any A l.length c l 0 _ (HR.out.mv hB) (by omega) (by omega)).mono ?_
    rintro e w3 ⟨rfl, b⟩
    rw [HT.out.1, HT.out.2.1, HT.out.2.2]
    replace hr := Blk.via0 (g := w.heap.size) (t := 25) b (by repeat (first | with_reducible exact hr | with_reducible (apply Blk.set_) | with_reducible (apply Blk.far; case hp => (simp <;> omega)) | with_reducible (apply Blk.alloc) | with_reducible (apply Blk.drew)))
    replace hr : Blk w3 w.heap.size 25 #[.int .u64 0, .slice none 0 0] := hr
    replace hB := Below.via (w := w) (by have hs_ := hB.size; repeat (first | with_reducible exact hB | with_reducible (refine Below.setCell ?_ (by simp <;> omega) _) | with_reducible (refine Below.alloc ?_ (by first | exact hs_ | (simp <;> omega)) _) | with_reducible (refine Below.drew ?_))) b
    clear z1 z2 z3 z4 z5
    clear b
    have z6 : w3.cell? ⟨w.heap.size, 0, none⟩ = some (.int .u64 0) := (hr.cell 0).trans rfl
    have z7 := hr.frozen 0
    have z8 : ∀ ob_, (w3.alloc ob_).cell? ⟨w.heap.size, 0, none⟩ = some (.int .u64 0) := fun ob_ => ((Blk.alloc hr ob_).cell 0).trans rfl
    have z9 : ∀ ob_, (w3.alloc ob_).frozen? ⟨w.heap.size, 0, none⟩ = false := fun ob_ => (Blk.alloc hr ob_).frozen 0
    have z10 : w3.cell? ⟨w.heap.size, 1, none⟩ = some (.slice none 0 0) := (hr.cell 1).trans rfl
    have z11 := hr.frozen 1
    have z12 : ∀ ob_, (w3.alloc ob_).cell? ⟨w.heap.size, 1, none⟩ = some (.slice none 0 0) := fun ob_ => ((Blk.alloc hr ob_).cell 1).trans rfl
    have z13 : ∀ ob_, (w3.alloc ob_).frozen? ⟨w.heap.size, 1, none⟩ = false := fun ob_ => (Blk.alloc hr ob_).frozen 1
    have z14 := hr.lt
    go_wp2_with fail
    refine ret_c1 rfl regT rfl (by repeat (first | with_reducible exact hr | with_reducible (apply Blk.set_) | with_reducible (apply Blk.far; case hp => (simp <;> omega)) | with_reducible (apply Blk.alloc) | with_reducible (apply Blk.drew))) (by rfl) ?_
    unfold RrP
    exact ⟨none, 0, by rw [HV.out.1, HV.out.2.1, HV.out.2.2]; rfl, by rw [HV.out.2.1]; exact World.ownsRow_nil _ _ _ _, (by have hs_ := hB.size; repeat (first | with_reducible exact hB | with_reducible (refine Below.setCell ?_ (by simp <;> omega) _) | with_reducible (refine Below.alloc ?_ (by first | exact hs_ | (simp <;> omega)) _) | with_reducible (refine Below.drew ?_)))⟩
  have hle := uvR_le (show (uvR l 0).1 = 0 from ht)
  obtain ⟨u, hu⟩ : ∃ u, (uvR l 0).2.2 = u := ⟨_, rfl⟩
  obtain ⟨y, hy⟩ : ∃ y, (uvR l 0).2.1 = y := ⟨_, rfl⟩
  have HT := Lib.hid (show rdC A l.length c l (0 : Nat) = cur A l.length c (u : Int) ∧ rdN l (0 : Nat) = y ∧ rdE l (0 : Nat) = 0 from ⟨by rw [rdC, if_pos ht]; show cur _ _ _ ((0 : Int) + ((uvR l 0).2.2 : Int)) = _; rw [hu]; simp, by rw [rdN, if_pos ht]; exact hy, ht⟩)
  have HT1 := Lib.hid (show (uvR l 0).1 = 0 from ht)
  have HUY := Lib.hid (And.intro hu hy)
  rw [hu, hy] at hle
  have hul : u ≤ l.length := by have := hle.2.2.1; simp at this; omega
  have hy64 := hle.1
  clear hle ht hu hy
  have hw0 : IntKind.u64.wrap ((l.length : Int) - (u : Int)) = (l.length : Int) - (u : Int) := by rw [IntKind.wrap_u64]; omega
  by_cases hux : u + y ≤ l.length
  rotate_left
  · have HV := Lib.hid (rr_no (b := b) (l := l) (by rw [rrB, HT1.out, HUY.out.1, HUY.out.2]; simp; omega))
    have d1 : decide ((l.length : Int) - (u : Int) < (y : Int)) = true := by rw [decide_eq_true_eq]; omega
    have d2 : (l.length : Int) - (u : Int) < (y : Int) := by omega
    have hB : Below w.heap.size w (w.alloc (.cells #[.int .u64 0, .slice none 0 0] 25)) := (Below.alloc (Below.refl w.heap.size w) (by simp <;> omega) (.cells #[.int .u64 0, .slice none 0 0] 25))
    have hr := Blk.new w 25 #[.int .u64 0, .slice none 0 0]
    go_enter Try.func43, Try.ntmps43
    have z1 : (w.alloc (.cells #[.int .u64 0, .slice none 0 0] 25)).cell? ⟨w.heap.size, 0, none⟩ = some (.int .u64 0) := (hr.cell 0).trans rfl
    have z2 := hr.frozen 0
    have z3 : (w.alloc (.cells #[.int .u64 0, .slice none 0 0] 25)).cell? ⟨w.heap.size, 1, none⟩ = some (.slice none 0 0) := (hr.cell 1).trans rfl
    have z4 := hr.frozen 1
    have z5 := hr.lt
    go_wp2_with fail
    refine (read_any A l.length c l 0 _ (HR.out.mv hB) (by omega) (by omega)).mono ?_
    rintro e w3 ⟨rfl, b⟩
    rw [HT.out.1, HT.out.2.1, HT.out.2.2]
    replace hr := Blk.via0 (g := w.heap.size) (t := 25) b (by repeat (first | with_reducible exact hr | with_reducible (apply Blk.set_) | with_reducible (apply Blk.far; case hp => (simp <;> omega)) | with_reducible (apply Blk.alloc) | with_reducible (apply Blk.drew)))
    replace hr : Blk w3 w.heap.size 25 #[.int .u64 0, .slice none 0 0] := hr
    replace hB := Below.via (w := w) (by have hs_ := hB.size; repeat (first | with_reducible exact hB | with_reducible (refine Below.setCell ?_ (by simp <;> omega) _) | with_reducible (refine Below.alloc ?_ (by first | exact hs_ | (simp <;> omega)) _) | with_reducible (refine Below.drew ?_))) b
    clear z1 z2 z3 z4 z5
    clear b
    have z6 : w3.cell? ⟨w.heap.size, 0, none⟩ = some (.int .u64 0) := (hr.cell 0).trans rfl
    have z7 := hr.frozen 0
    have z8 : ∀ ob_, (w3.alloc ob_).cell? ⟨w.heap.size, 0, none⟩ = some (.int .u64 0) := fun ob_ => ((Blk.alloc hr ob_).cell 0).trans rfl
    have z9 : ∀ ob_, (w3.alloc ob_).frozen? ⟨w.heap.size, 0, none⟩ = false := fun ob_ => (Blk.alloc hr ob_).frozen 0
    have z10 : w3.cell? ⟨w.heap.size, 1, none⟩ = some (.slice none 0 0) := (hr.cell 1).trans rfl
    have z11 := hr.frozen 1
    have z12 : ∀ ob_, (w3.alloc ob_).cell? ⟨w.heap.size, 1, none⟩ = some (.slice none 0 0) := fun ob_ => ((Blk.alloc hr ob_).cell 1).trans rfl
    have z13 : ∀ ob_, (w3.alloc ob_).frozen? ⟨w.heap.size, 1, none⟩ = false := fun ob_ => (Blk.alloc hr ob_).frozen 1
    have z14 := hr.lt
    go_wp2_with fail
    refine ret_c1 rfl regT rfl (by repeat (first | with_reducible exact hr | with_reducible (apply Blk.set_) | with_reducible (apply Blk.far; case hp => (simp <;> omega)) | with_reducible (apply Blk.alloc) | with_reducible (apply Blk.drew))) (by rfl) ?_
    unfold RrP
    exact ⟨none, 0, by rw [HV.out.1, HV.out.2.1, HV.out.2.2]; rfl, by rw [HV.out.2.1]; exact World.ownsRow_nil _ _ _ _, (by have hs_ := hB.size; repeat (first | with_reducible exact hB | with_reducible (refine Below.setCell ?_ (by simp <;> omega) _) | with_reducible (refine Below.alloc ?_ (by first | exact hs_ | (simp <;> omega)) _) | with_reducible (refine Below.drew ?_)))⟩
  have hv := (rr_yes (b := b) (l := l) (by rw [rrB, HT1.out, HUY.out.1, HUY.out.2]; simp; omega))
  rw [HUY.out.1, HUY.out.2] at hv
  have HV := Lib.hid hv
  clear hv
  have HY := Lib.hid (show ((l.drop u).take y).length = y from by rw [List.length_take, List.length_drop]; omega)
  have d1 : ¬ (l.length : Int) - (u : Int) < (y : Int) := by omega
  have hw1 : IntKind.i64.wrap (y : Int) = (y : Int) := by rw [IntKind.wrap_i64]; omega
  have hw2 : IntKind.i64.wrap ((u : Int) + (y : Int)) = (u : Int) + (y : Int) := by rw [IntKind.wrap_i64]; omega
  have HQ := Lib.hid (show ((u + y : Nat) : Int) = (u : Int) + (y : Int) from by omega)
  have SL := sl_lh A l.length c u y (a := (u : Int)) (b := (u : Int) + (y : Int)) rfl rfl (by omega)
  have hB : Below w.heap.size w (w.alloc (.cells #[.int .u64 0, .slice none 0 0] 25)) := (Below.alloc (Below.refl w.heap.size w) (by simp <;> omega) (.cells #[.int .u64 0, .slice none 0 0] 25))
  have hr := Blk.new w 25 #[.int .u64 0, .slice none 0 0]
  go_enter Try.func43, Try.ntmps43
  have z1 : (w.alloc (.cells #[.int .u64 0, .slice none 0 0] 25)).cell? ⟨w.heap.size, 0, none⟩ = some (.int .u64 0) := (hr.cell 0).trans rfl
  have z2 := hr.frozen 0
  have z3 : (w.alloc (.cells #[.int .u64 0, .slice none 0 0] 25)).cell? ⟨w.heap.size, 1, none⟩ = some (.slice none 0 0) := (hr.cell 1).trans rfl
  have z4 := hr.frozen 1
  have z5 := hr.lt
  go_wp2_with fail
  refine (read_any A l.length c l 0 _ (HR.out.mv hB) (by omega) (by omega)).mono ?_
  rintro e w3 ⟨rfl, b⟩
  rw [HT.out.1, HT.out.2.1, HT.out.2.2]
  replace hr := Blk.via0 (g := w.heap.size) (t := 25) b (by repeat (first | with_reducible exact hr | with_reducible (apply Blk.set_) | with_reducible (apply Blk.far; case hp => (simp <;> omega)) | with_reducible (apply Blk.alloc) | with_reducible (apply Blk.drew)))
  replace hr : Blk w3 w.heap.size 25 #[.int .u64 0, .slice none 0 0] := hr
  replace hB := Below.via (w := w) (by have hs_ := hB.size; repeat (first | with_reducible exact hB | with_reducible (refine Below.setCell ?_ (by simp <;> omega) _) | with_reducible (refine Below.alloc ?_ (by first | exact hs_ | (simp <;> omega)) _) | with_reducible (refine Below.drew ?_))) b
  clear z1 z2 z3 z4 z5
  clear b
  have z6 : w3.cell? ⟨w.heap.size, 0, none⟩ = some (.int .u64 0) := (hr.cell 0).trans rfl
  have z7 := hr.frozen 0
  have z8 : ∀ ob_, (w3.alloc ob_).cell? ⟨w.heap.size, 0, none⟩ = some (.int .u64 0) := fun ob_ => ((Blk.alloc hr ob_).cell 0).trans rfl
  have z9 : ∀ ob_, (w3.alloc ob_).frozen? ⟨w.heap.size, 0, none⟩ = false := fun ob_ => (Blk.alloc hr ob_).frozen 0
  have z10 : w3.cell? ⟨w.heap.size, 1, none⟩ = some (.slice none 0 0) := (hr.cell 1).trans rfl
  have z11 := hr.frozen 1
  have z12 : ∀ ob_, (w3.alloc ob_).cell? ⟨w.heap.size, 1, none⟩ = some (.slice none 0 0) := fun ob_ => ((Blk.alloc hr ob_).cell 1).trans rfl
  have z13 : ∀ ob_, (w3.alloc ob_).frozen? ⟨w.heap.size, 1, none⟩ = false := fun ob_ => (Blk.alloc hr ob_).frozen 1
  have z14 := hr.lt
  go_wp2_with fail
  refine bx_go (w.heap.size) (by kernel_rfl) (fun hQ x b => ?_)
  have o_hr_hc : w.heap.size < w3.heap.size := (by omega)
  replace hr := Blk.via0 (g := w.heap.size) (t := 25) b (by repeat (first | with_reducible exact hr | with_reducible (apply Blk.set_) | with_reducible (apply Blk.far; case hp => (simp <;> omega)) | with_reducible (apply Blk.alloc) | with_reducible (apply Blk.drew)))
  replace hr : Blk x w.heap.size 25 #[.int .u64 0, .slice none 0 0] := hr
  have hc := Blk.via0 (g := w3.heap.size) (t := 70) b (by repeat (first | with_reducible exact Blk.newAt (by simp) _ _ | with_reducible (apply Blk.set_) | with_reducible (apply Blk.far; case hp => (simp <;> omega)) | with_reducible (apply Blk.alloc) | with_reducible (apply Blk.drew)))
  replace hc : Blk x w3.heap.size 70 #[.slice A l.length c, .int .i64 (u : Int)] := hc
  replace hB := Below.via (w := w) (by have hs_ := hB.size; repeat (first | with_reducible exact hB | with_reducible (refine Below.setCell ?_ (by simp <;> omega) _) | with_reducible (refine Below.alloc ?_ (by first | exact hs_ | (simp <;> omega)) _) | with_reducible (refine Below.drew ?_))) b
  clear z6 z7 z8 z9 z10 z11 z12 z13 z14
  clear b
  generalize w3.heap.size = pc at *
  obtain ⟨B_, hB_⟩ : ∃ B_, x.heap.size = B_ := ⟨_, rfl⟩
  rw [hB_]
  have hBx : B_ ≤ x.heap.size := Nat.le_of_eq hB_.symm
  have lB_hr := hr.lt
  rw [hB_] at lB_hr
  have lB_hc := hc.lt
  rw [hB_] at lB_hc
  have HB_ := Lib.hid hB_
  clear hB_
  have X15 : ∀ W, BelowX B_ w.heap.size x W → W.cell? ⟨pc, 0, none⟩ = some (.slice A l.length c) := fun W h => ((hc.belowx h lB_hc (by omega)).cell 0).trans rfl
  have X16 : ∀ W, BelowX B_ w.heap.size x W → W.cell? ⟨pc, 1, none⟩ = some (.int .i64 (u : Int)) := fun W h => ((hc.belowx h lB_hc (by omega)).cell 1).trans rfl
  refine bx_take (i := 0) (oi := ?oia0) (v := ?va0) ?hia0 (by kernel_rfl) (by kernel_rfl) (by kernel_rfl) hQ ?hwa0 ?hya0 ?resta0
  case hia0 => simp only [List.getElem?_toArray, List.getElem?_cons_zero]; rfl
  case hwa0 => rfl
  case hya0 => intro W hW; go_simp; with_reducible rfl
  simp only [Act.put, List.setIfInBounds_toArray, List.set_cons_zero, List.set_cons_succ]
  refine bx_take (i := 2) (oi := ?oia2) (v := ?va2) ?hia2 (by kernel_rfl) (by kernel_rfl) (by kernel_rfl) hQ ?hwa2 ?hya2 ?resta2
  case hia2 => simp only [List.getElem?_toArray, List.getElem?_cons_zero, List.getElem?_cons_succ]; rfl
  case hwa2 => rfl
  case hya2 => intro W hW; go_simp; with_reducible rfl
  simp only [Act.put, List.setIfInBounds_toArray, List.set_cons_zero, List.set_cons_succ]
  refine bx_take (i := 3) (oi := ?oia3) (v := ?va3) ?hia3 (by kernel_rfl) (by kernel_rfl) (by kernel_rfl) hQ ?hwa3 ?hya3 ?resta3
  case hia3 => simp only [List.getElem?_toArray, List.getElem?_cons_zero, List.getElem?_cons_succ]; rfl
  case hwa3 => rfl
  case hya3 => intro W hW; go_simp; with_reducible rfl
  simp only [Act.put, List.setIfInBounds_toArray, List.set_cons_zero, List.set_cons_succ]
  refine bx_take (i := 4) (oi := ?oia4) (v := ?va4) ?hia4 (by kernel_rfl) (by kernel_rfl) (by kernel_rfl) hQ ?hwa4 ?hya4 ?resta4
  case hia4 => simp only [List.getElem?_toArray, List.getElem?_cons_zero, List.getElem?_cons_succ]; rfl
  case hwa4 => rfl
  case hya4 => intro W hW; go_simp; with_reducible rfl
  simp only [Act.put, List.setIfInBounds_toArray, List.set_cons_zero, List.set_cons_succ]
  refine bx_take (i := 5) (oi := ?oia5) (v := ?va5) ?hia5 (by kernel_rfl) (by kernel_rfl) (by kernel_rfl) hQ ?hwa5 ?hya5 ?resta5
  case hia5 => simp only [List.getElem?_toArray, List.getElem?_cons_zero, List.getElem?_cons_succ]; rfl
  case hwa5 => rfl
  case hya5 => intro W hW; go_simp; with_reducible rfl
  simp only [Act.put, List.setIfInBounds_toArray, List.set_cons_zero, List.set_cons_succ]
  refine bx_take (i := 6) (oi := ?oia6) (v := ?va6) ?hia6 (by kernel_rfl) (by kernel_rfl) (by kernel_rfl) hQ ?hwa6 ?hya6 ?resta6
  case hia6 => simp only [List.getElem?_toArray, List.getElem?_cons_zero, List.getElem?_cons_succ]; rfl
  case hwa6 => rfl
  case hya6 => intro W hW; go_simp; with_reducible rfl
  simp only [Act.put, List.setIfInBounds_toArray, List.set_cons_zero, List.set_cons_succ]
  refine bx_take (i := 7) (oi := ?oia7) (v := ?va7) ?hia7 (by kernel_rfl) (by kernel_rfl) (by kernel_rfl) hQ ?hwa7 ?hya7 ?resta7
  case hia7 => simp only [List.getElem?_toArray, List.getElem?_cons_zero, List.getElem?_cons_succ]; rfl
  case hwa7 => rfl
  case hya7 => intro W hW; go_simp; with_reducible rfl
  simp only [Act.put, List.setIfInBounds_toArray, List.set_cons_zero, List.set_cons_succ]
  refine bx_take (i := 8) (oi := ?oia8) (v := ?va8) ?hia8 (by kernel_rfl) (by kernel_rfl) (by kernel_rfl) hQ ?hwa8 ?hya8 ?resta8
  case hia8 => simp only [List.getElem?_toArray, List.getElem?_cons_zero, List.getElem?_cons_succ]; rfl
  case hwa8 => rfl
  case hya8 => intro W hW; go_simp; with_reducible rfl
  simp only [Act.put, List.setIfInBounds_toArray, List.set_cons_zero, List.set_cons_succ]
  refine bx_take (i := 9) (oi := ?oia9) (v := ?va9) ?hia9 (by kernel_rfl) (by kernel_rfl) (by kernel_rfl) hQ ?hwa9 ?hya9 ?resta9
  case hia9 => simp only [List.getElem?_toArray, List.getElem?_cons_zero, List.getElem?_cons_succ]; rfl
  case hwa9 => rfl
  case hya9 => intro W hW; go_simp; with_reducible rfl
  simp only [Act.put, List.setIfInBounds_toArray, List.set_cons_zero, List.set_cons_succ]
  refine bx_take (i := 10) (oi := ?oia10) (v := ?va10) ?hia10 (by kernel_rfl) (by kernel_rfl) (by kernel_rfl) hQ ?hwa10 ?hya10 ?resta10
  case hia10 => simp only [List.getElem?_toArray, List.getElem?_cons_zero, List.getElem?_cons_succ]; rfl
  case hwa10 => rfl
  case hya10 => intro W hW; go_simp; with_reducible rfl
  simp only [Act.put, List.setIfInBounds_toArray, List.set_cons_zero, List.set_cons_succ]
  refine bx_take (i := 13) (oi := ?oia13) (v := ?va13) ?hia13 (by kernel_rfl) (by kernel_rfl) (by kernel_rfl) hQ ?hwa13 ?hya13 ?resta13
  case hia13 => simp only [List.getElem?_toArray, List.getElem?_cons_zero, List.getElem?_cons_succ]; rfl
  case hwa13 => rfl
  case hya13 => intro W hW; go_simp; with_reducible rfl
  simp only [Act.put, List.setIfInBounds_toArray, List.set_cons_zero, List.set_cons_succ]
  refine bx_take (i := 14) (oi := ?oia14) (v := ?va14) ?hia14 (by kernel_rfl) (by kernel_rfl) (by kernel_rfl) hQ ?hwa14 ?hya14 ?resta14
  case hia14 => simp only [List.getElem?_toArray, List.getElem?_cons_zero, List.getElem?_cons_succ]; rfl
  case hwa14 => rfl
  case hya14 => intro W hW; go_simp; with_reducible rfl
  simp only [Act.put, List.setIfInBounds_toArray, List.set_cons_zero, List.set_cons_succ]
  refine bx_take (i := 15) (oi := ?oia15) (v := ?va15) ?hia15 (by kernel_rfl) (by kernel_rfl) (by kernel_rfl) hQ ?hwa15 ?hya15 ?resta15
  case hia15 => simp only [List.getElem?_toArray, List.getElem?_cons_zero, List.getElem?_cons_succ]; rfl
  case hwa15 => rfl
  case hya15 => intro W hW; go_simp; with_reducible rfl
  simp only [Act.put, List.setIfInBounds_toArray, List.set_cons_zero, List.set_cons_succ]
  refine bx_take (i := 16) (oi := ?oia16) (v := ?va16) ?hia16 (by kernel_rfl) (by kernel_rfl) (by kernel_rfl) hQ ?hwa16 ?hya16 ?resta16
  case hia16 => simp only [List.getElem?_toArray, List.getElem?_cons_zero, List.getElem?_cons_succ]; rfl
  case hwa16 => rfl
  case hya16 => intro W hW; go_simp; with_reducible rfl
  simp only [Act.put, List.setIfInBounds_toArray, List.set_cons_zero, List.set_cons_succ]
  refine bx_take (i := 17) (oi := ?oia17) (v := ?va17) ?hia17 (by kernel_rfl) (by kernel_rfl) (by kernel_rfl) hQ ?hwa17 ?hya17 ?resta17
  case hia17 => simp only [List.getElem?_toArray, List.getElem?_cons_zero, List.getElem?_cons_succ]; rfl
  case hwa17 => rfl
  case hya17 => intro W hW; go_simp; with_reducible rfl
  simp only [Act.put, List.setIfInBounds_toArray, List.set_cons_zero, List.set_cons_succ]
  refine bx_step (i := 1) (oi := ?oia1) (by kernel_rfl) ?hia1 ?hwa1 (fun K hK => ?_)
  case hia1 => simp only [List.getElem?_toArray, List.getElem?_cons_zero, List.getElem?_cons_succ]; rfl
  case hwa1 => rfl
  go_simp
  have z17 := hr.lt; have z18 := hc.lt; have b := Ext.al x (.cells #[] 5); have o5 := own_empty x (Nat.le_refl _) 5 1; have lq_hr : w.heap.size < x.heap.size := (by omega); have lq_hc : pc < x.heap.size := (by omega); have bx := BelowX.of (Below.mono b hBx) (w.heap.size); have hB_g5 := hBx; replace hBx := Nat.le_trans hBx b.size; have hn_g5 := b.size; have hw_g5 := hB.size; replace hr := Blk.via0 (g := w.heap.size) (t := 25) b (by repeat (first | with_reducible exact hr | with_reducible (apply Blk.set_) | with_reducible (apply Blk.far; case hp => (simp <;> omega)) | with_reducible (apply Blk.alloc) | with_reducible (apply Blk.drew))); replace hr : Blk (x.alloc (.cells #[] 5)) w.heap.size 25 #[.int .u64 0, .slice none 0 0] := hr; replace hc := Blk.via0 (g := pc) (t := 70) b (by repeat (first | with_reducible exact hc | with_reducible (apply Blk.set_) | with_reducible (apply Blk.far; case hp => (simp <;> omega)) | with_reducible (apply Blk.alloc) | with_reducible (apply Blk.drew))); replace hc : Blk (x.alloc (.cells #[] 5)) pc 70 #[.slice A l.length c, .int .i64 (u : Int)] := hc; replace hB := Below.via (w := w) (by have hs_ := hB.size; repeat (first | with_reducible exact hB | with_reducible (refine Below.setCell ?_ (by simp <;> omega) _) | with_reducible (refine Below.alloc ?_ (by first | exact hs_ | (simp <;> omega)) _) | with_reducible (refine Below.drew ?_))) b; clear z17 z18; clear b; refine hK _ _ bx ?_; clear bx; generalize hg_ : x.heap.size = g5 at *; generalize hw_ : (x.alloc (.cells #[] 5)) = x5 at *; clear hg_ hw_; clear X15 X16; have X19 : ∀ W, BelowX B_ w.heap.size x5 W → W.cell? ⟨pc, 0, none⟩ = some (.slice A l.length c) := fun W h => ((hc.belowx h lB_hc (by omega)).cell 0).trans rfl; have X20 : ∀ W, BelowX B_ w.heap.size x5 W → W.cell? ⟨pc, 1, none⟩ = some (.int .i64 (u : Int)) := fun W h => ((hc.belowx h lB_hc (by omega)).cell 1).trans rfl
  try simp only [Act.put, List.setIfInBounds_toArray, List.set_cons_zero, List.set_cons_succ]
  refine bx_step (i := 11) (oi := ?oia11) (by kernel_rfl) ?hia11 ?hwa11 (fun K hK => ?_)
  case hia11 => simp only [List.getElem?_toArray, List.getElem?_cons_zero, List.getElem?_cons_succ]; rfl
  case hwa11 => rfl
  (refine wp_app8 (l := []) (.tmp 30) (.tmp 39) _ (by rfl) sl8 g5 (by rfl) o5 (by rfl) (sub_reads (HR.out.below hB) hux hcc) y (by omega) (by omega) hn_g5 ?_; intro A6 c6 w6 o6 b6; rw [List.nil_append] at o6; have ne_o6_hr : (Value.slice A6 y c6).ownBlock ≠ some w.heap.size := own_not_lt o6 (by omega); replace hr := hr.below b6 (by omega); have ne_o6_hc : (Value.slice A6 y c6).ownBlock ≠ some pc := own_not_lt o6 (by omega); replace hc := hc.below b6 (by omega); have bx := BelowX.of (b6.mono hB_g5) (w.heap.size); replace hBx := Nat.le_trans hBx b6.size; replace hB := hB.trans (b6.mono hw_g5); replace o6 := own_low o6 hw_g5; refine hK _ _ bx ?_; clear bx b6; clear X19 X20; have X21 : ∀ W, BelowX B_ w.heap.size w6 W → W.cell? ⟨pc, 0, none⟩ = some (.slice A l.length c) := fun W h => ((hc.belowx h lB_hc (by omega)).cell 0).trans rfl; have X22 : ∀ W, BelowX B_ w.heap.size w6 W → W.cell? ⟨pc, 1, none⟩ = some (.int .i64 (u : Int)) := fun W h => ((hc.belowx h lB_hc (by omega)).cell 1).trans rfl)
  try simp only [Act.put, List.setIfInBounds_toArray, List.set_cons_zero, List.set_cons_succ]
  refine bx_take (i := 12) (oi := ?oia12) (v := ?va12) ?hia12 (by kernel_rfl) (by kernel_rfl) (by kernel_rfl) hQ ?hwa12 ?hya12 ?resta12
  case hia12 => simp only [List.getElem?_toArray, List.getElem?_cons_zero, List.getElem?_cons_succ]; rfl
  case hwa12 => rfl
  case hya12 => intro W hW; go_simp; with_reducible rfl
  simp only [Act.put, List.setIfInBounds_toArray, List.set_cons_zero, List.set_cons_succ]
  refine bx_step (i := 18) (oi := ?oia18) (by kernel_rfl) ?hia18 ?hwa18 (fun K hK => ?_)
  case hia18 => simp only [List.getElem?_toArray, List.getElem?_cons_zero, List.getElem?_cons_succ]; rfl
  case hwa18 => rfl
  have y0 : w6.cell? ⟨w.heap.size, 0, none⟩ = some (.int .u64 0) := (hr.cell 0).trans rfl; have yf0 := hr.frozen 0; have y1 : w6.cell? ⟨w.heap.size, 1, none⟩ = some (.slice none 0 0) := (hr.cell 1).trans rfl; have yf1 := hr.frozen 1; go_simp; clear y0 yf0 y1 yf1; have hnew := ((hr.set_ 0 (.int .u64 (b : Int))).set_ 1 (.slice A6 y c6)); replace hc := ((hc.far (p := ⟨w.heap.size, 0, none⟩) (by simp <;> omega) (.int .u64 (b : Int))).far (p := ⟨w.heap.size, 1, none⟩) (by simp <;> omega) (.slice A6 y c6)); replace o6 := (own_set_ (a := ⟨w.heap.size, 1, none⟩) ne_o6_hr (own_set_ (a := ⟨w.heap.size, 0, none⟩) ne_o6_hr o6 (.int .u64 (b : Int))) (.slice A6 y c6)); replace hB := ((hB.setCell (p := ⟨w.heap.size, 0, none⟩) (by simp <;> omega) (.int .u64 (b : Int))).setCell (p := ⟨w.heap.size, 1, none⟩) (by simp <;> omega) (.slice A6 y c6)); replace hBx : B_ ≤ ((w6.setCell ⟨w.heap.size, 0, none⟩ (.int .u64 (b : Int))).setCell ⟨w.heap.size, 1, none⟩ (.slice A6 y c6)).heap.size := (by simpa using hBx); replace hr : Blk ((w6.setCell ⟨w.heap.size, 0, none⟩ (.int .u64 (b : Int))).setCell ⟨w.heap.size, 1, none⟩ (.slice A6 y c6)) w.heap.size 25 #[.int .u64 (b : Int), .slice A6 y c6] := hnew; clear hnew; refine hK _ _ (((BelowX.refl _ _ _).set_ _ _).set_ _ _) ?_; generalize ((w6.setCell ⟨w.heap.size, 0, none⟩ (.int .u64 (b : Int))).setCell ⟨w.heap.size, 1, none⟩ (.slice A6 y c6)) = w7 at *; clear X21 X22
  try simp only [Act.put, List.setIfInBounds_toArray, List.set_cons_zero, List.set_cons_succ]
  refine bx_take (i := 19) (oi := ?oia19) (v := ?va19) ?hia19 (by kernel_rfl) (by kernel_rfl) (by kernel_rfl) hQ ?hwa19 ?hya19 ?resta19
  case hia19 => simp only [List.getElem?_toArray, List.getElem?_cons_zero, List.getElem?_cons_succ]; rfl
  case hwa19 => rfl
  case hya19 => intro W hW; go_simp; with_reducible rfl
  simp only [Act.put, List.setIfInBounds_toArray, List.set_cons_zero, List.set_cons_succ]
  refine wpAnyH_done (by kernel_rfl) ?_ _
  simp only [NoP]
  clear HB_
  go_wp2_with fail
  refine ret_c1 rfl regT rfl (by repeat (first | with_reducible exact hr | with_reducible (apply Blk.set_) | with_reducible (apply Blk.far; case hp => (simp <;> omega)) | with_reducible (apply Blk.alloc) | with_reducible (apply Blk.drew))) (by rfl) ?_
  unfold RrP
  exact ⟨A6, c6, by rw [HV.out.1, HV.out.2.1, HV.out.2.2, HY.out, HQ.out]; rfl, by rw [HV.out.2.1, HY.out]; exact (by repeat (first | with_reducible exact o6 | (with_reducible apply own_set_; case hne => first | exact ne_o6_hr | exact ne_o6_hc) | with_reducible (apply own_alloc_) | with_reducible (apply own_drew_))), (by have hs_ := hB.size; repeat (first | with_reducible exact hB | with_reducible (refine Below.setCell ?_ (by simp <;> omega) _) | with_reducible (refine Below.alloc ?_ (by first | exact hs_ | (simp <;> omega)) _) | with_reducible (refine Below.drew ?_)))⟩

end Go.Proofs.Ytponceakelimeaa
