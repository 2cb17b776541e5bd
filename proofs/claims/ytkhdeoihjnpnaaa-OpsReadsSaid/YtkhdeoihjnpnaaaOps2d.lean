/- The contract of shape, operation by operation. No conditions beyond those that each one states. -/
import Derived.Test.YtkhdeoihjnpnaaaOps2
import Derived.StillTailTactics
import Derived.BigQuiet
namespace Go.Proofs.Ytkhdeoihjnpnaaa
open Go.RowKit Wire
set_option linter.unusedVariables false

set_option maxRecDepth 100000 in
set_option maxHeartbeats 1600000 in
theorem shape_27 (w : World) :
    Calls Try.prog 21 #[.int .u8 27] w fun e w' => e = .returned (.tuple #[.agg (usL (shp 27).1).toArray, .int .i64 (shp 27).2]) ∧ Below w.heap.size w w' := by
  have hB : Below w.heap.size w ((w.alloc (.cells #[.int .i64 0, .int .i64 0, .bool false, .bool false, .int .i64 0, .int .i64 0, .bool false, .bool false, .int .i64 0, .int .i64 0, .bool false, .bool false] 55)).alloc (.cells #[.int .i64 0] 3)) := (Below.alloc (Below.alloc (Below.refl w.heap.size w) (by simp <;> omega) (.cells #[.int .i64 0, .int .i64 0, .bool false, .bool false, .int .i64 0, .int .i64 0, .bool false, .bool false, .int .i64 0, .int .i64 0, .bool false, .bool false] 55)) (by simp <;> omega) (.cells #[.int .i64 0] 3))
  have hu := Blk.new w 55 #[.int .i64 0, .int .i64 0, .bool false, .bool false, .int .i64 0, .int .i64 0, .bool false, .bool false, .int .i64 0, .int .i64 0, .bool false, .bool false]
  replace hu := hu.alloc (.cells #[.int .i64 0] 3)
  have hn := Blk.new (w.alloc (.cells #[.int .i64 0, .int .i64 0, .bool false, .bool false, .int .i64 0, .int .i64 0, .bool false, .bool false, .int .i64 0, .int .i64 0, .bool false, .bool false] 55)) 3 #[.int .i64 0]
  rw [show (w.alloc (.cells #[.int .i64 0, .int .i64 0, .bool false, .bool false, .int .i64 0, .int .i64 0, .bool false, .bool false, .int .i64 0, .int .i64 0, .bool false, .bool false] 55)).heap.size = w.heap.size + 1 from by simp] at hn
  go_enter Try.func21, Try.ntmps21
  have z1 := hu.lt
  have z2 := hn.lt
  repeat (first | with_reducible refine x_in_here ?_ | with_reducible refine x_in_pass (by decide) ?_ | with_reducible refine x_then_exit ?_ | with_reducible refine x_in_norm ?_ | with_reducible refine x_then_norm ?_ | go_values | go_skip | go_guarded | go_step | go_upon | go_back)
  (try go_wp2_with fail)
  refine (below6_any 32 (by omega) _).mono ?_
  rintro e w1 ⟨rfl, bB⟩
  replace hu := Blk.via0 (g := w.heap.size) (t := 55) bB (by repeat (first | with_reducible exact hu | with_reducible (apply Blk.set_) | with_reducible (apply Blk.far; case hp => (simp <;> omega)) | with_reducible (apply Blk.alloc) | with_reducible (apply Blk.drew)))
  replace hu : Blk w1 w.heap.size 55 #[.int .i64 0, .int .i64 0, .bool false, .bool false, .int .i64 0, .int .i64 0, .bool false, .bool false, .int .i64 0, .int .i64 0, .bool false, .bool false] := hu
  replace hn := Blk.via0 (g := (w.heap.size + 1)) (t := 3) bB (by repeat (first | with_reducible exact hn | with_reducible (apply Blk.set_) | with_reducible (apply Blk.far; case hp => (simp <;> omega)) | with_reducible (apply Blk.alloc) | with_reducible (apply Blk.drew)))
  replace hn : Blk w1 (w.heap.size + 1) 3 #[.int .i64 0] := hn
  replace hB := Below.via (w := w) (by have hs_ := hB.size; repeat (first | with_reducible exact hB | with_reducible (refine Below.setCell ?_ (by simp <;> omega) _) | with_reducible (refine Below.alloc ?_ (by first | exact hs_ | (simp <;> omega)) _) | with_reducible (refine Below.drew ?_))) bB
  clear z1 z2
  clear bB
  have z3 := hu.lt
  have z4 := hn.lt
  go_wp2_with fail
  have R : Reads (w1.alloc (.cells #[.int .i64 0, .int .i64 31, .bool false, .bool false] 54)) (w1.alloc (.cells #[.int .i64 0, .int .i64 31, .bool false, .bool false] 54)).heap.size 4 (some ⟨w1.heap.size, 0, none⟩) 1 (usL [uBl 32]) := reads_blk2 (Blk.new w1 54 #[.int .i64 0, .int .i64 31, .bool false, .bool false]) 4 1 rfl
  clear z3 z4
  refine (set6_any w.heap.size (w.heap.size + 1) (by omega) _ 1 1 [uBl 32] [.int .i64 0, .int .i64 0, .bool false, .bool false, .int .i64 0, .int .i64 0, .bool false, .bool false, .int .i64 0, .int .i64 0, .bool false, .bool false] 0 (w1.alloc (.cells #[.int .i64 0, .int .i64 31, .bool false, .bool false] 54)) R rfl (by omega) rfl (hu.alloc _) (hn.alloc _)).mono ?_
  rintro e w9 ⟨rfl, hu9, hn9, ex⟩
  replace hB := hB.alloc hB.size (.cells #[.int .i64 0, .int .i64 31, .bool false, .bool false] 54)
  replace hB := hB.trans (ex.below hB.size (Nat.le_refl _) (by omega))
  clear R ex hu hn
  have hu : Blk w9 w.heap.size 55 #[.int .i64 0, .int .i64 31, .bool false, .bool false, .int .i64 0, .int .i64 0, .bool false, .bool false, .int .i64 0, .int .i64 0, .bool false, .bool false] := hu9
  have hn : Blk w9 (w.heap.size + 1) 3 #[.int .i64 1] := hn9
  clear hu9 hn9
  obtain ⟨z5, z6, z7, z8, z9, z10, z11, z12, z13, z14, z15, z16, z17, z18, z19, z20, z21, z22, z23, z24, z25, z26, z27, z28⟩ := hu.cf12
  obtain ⟨z29, z30⟩ := hn.cf1
  have z31 := hu.lt
  have z32 := hn.lt
  dsimp only
  repeat (first | with_reducible refine x_in_here ?_ | with_reducible refine x_in_pass (by decide) ?_ | with_reducible refine x_then_exit ?_ | with_reducible refine x_in_norm ?_ | with_reducible refine x_then_norm ?_ | go_values | go_skip | go_guarded | go_step | go_upon | go_back)
  refine code_name (fun x hx => ?_)
  have hu' : Blk x w.heap.size 55 #[.int .i64 0, .int .i64 31, .bool false, .bool false, .int .i64 0, .int .i64 0, .bool false, .bool false, .int .i64 0, .int .i64 0, .bool false, .bool false] := by
    obtain ⟨cs, h1, h2⟩ : ∃ cs, Blk x w.heap.size 55 cs ∧ cs = #[.int .i64 0, .int .i64 31, .bool false, .bool false, .int .i64 0, .int .i64 0, .bool false, .bool false, .int .i64 0, .int .i64 0, .bool false, .bool false] := by
      refine ⟨_, (by rw [hx]; exact (by repeat (first | with_reducible exact hu | with_reducible (apply Blk.set_) | with_reducible (apply Blk.far; case hp => (simp <;> omega)) | with_reducible (apply Blk.alloc) | with_reducible (apply Blk.drew)))), ?_⟩
      rfl
    rw [h2] at h1
    exact h1
  have hn' : Blk x (w.heap.size + 1) 3 #[.int .i64 1] := by
    obtain ⟨cs, h1, h2⟩ : ∃ cs, Blk x (w.heap.size + 1) 3 cs ∧ cs = #[.int .i64 1] := by
      refine ⟨_, (by rw [hx]; exact (by repeat (first | with_reducible exact hn | with_reducible (apply Blk.set_) | with_reducible (apply Blk.far; case hp => (simp <;> omega)) | with_reducible (apply Blk.alloc) | with_reducible (apply Blk.drew)))), ?_⟩
      rfl
    rw [h2] at h1
    exact h1
  have hB' : Below w.heap.size w x := by rw [hx]; exact (by have hs_ := hB.size; repeat (first | with_reducible exact hB | with_reducible (refine Below.setCell ?_ (by simp <;> omega) _) | with_reducible (refine Below.alloc ?_ (by first | exact hs_ | (simp <;> omega)) _) | with_reducible (refine Below.drew ?_)))
  clear hx
  clear z5 z6 z7 z8 z9 z10 z11 z12 z13 z14 z15 z16 z17 z18 z19 z20 z21 z22 z23 z24 z25 z26 z27 z28 z29 z30 z31 z32
  refine s_go (KeepS [(w.heap.size, 55, #[.int .i64 0, .int .i64 31, .bool false, .bool false, .int .i64 0, .int .i64 0, .bool false, .bool false, .int .i64 0, .int .i64 0, .bool false, .bool false]), ((w.heap.size + 1), 3, #[.int .i64 1])]) (by kernel_rfl) (fun hQ0 x9 b => ?_)
  have ku := hu'.below b hu'.lt
  have kn := hn'.below b hn'.lt
  have kB := hB'.trans (b.mono hB'.size)
  clear b hu' hn' hB'
  refine ⟨KeepS.cons ku (KeepS.cons kn (KeepS.nil _)), ?_⟩
  have hQ := And.intro hQ0 (KeepS.cons ku (KeepS.cons kn (KeepS.nil x9)))
  obtain ⟨X0, X1, X2, X3, X4, X5, X6, X7, X8, X9, X10, X11, X12⟩ := KeepS.cf12 (w.heap.size) (55) ((w.heap.size + 1)) (3) (.int .i64 0) (.int .i64 31) (.bool false) (.bool false) (.int .i64 0) (.int .i64 0) (.bool false) (.bool false) (.int .i64 0) (.int .i64 0) (.bool false) (.bool false) (.int .i64 1)
  refine s_take (i := 0) (oi := ?oia0) (v := ?va0) ?hia0 (by kernel_rfl) (by kernel_rfl) (by kernel_rfl) hQ ?hwa0 ?hya0 ?resta0
  case hia0 => simp only [List.getElem?_toArray, List.getElem?_cons_zero]; rfl
  case hwa0 => rfl
  case hya0 => intro W hW; go_simp; with_reducible rfl
  simp only [Act.put, List.setIfInBounds_toArray, List.set_cons_zero, List.set_cons_succ]
  refine s_take (i := 1) (oi := ?oia1) (v := ?va1) ?hia1 (by kernel_rfl) (by kernel_rfl) (by kernel_rfl) hQ ?hwa1 ?hya1 ?resta1
  case hia1 => simp only [List.getElem?_toArray, List.getElem?_cons_zero, List.getElem?_cons_succ]; rfl
  case hwa1 => rfl
  case hya1 => intro W hW; go_simp; with_reducible rfl
  simp only [Act.put, List.setIfInBounds_toArray, List.set_cons_zero, List.set_cons_succ]
  refine s_step (i := 2) (oi := ?oia2) (by kernel_rfl) ?hia2 ?hwa2 (fun K hK => ?_)
  case hia2 => simp only [List.getElem?_toArray, List.getElem?_cons_zero, List.getElem?_cons_succ]; rfl
  case hwa2 => rfl
  obtain ⟨y0, yf0, y1, yf1, y2, yf2, y3, yf3, y4, yf4, y5, yf5, y6, yf6, y7, yf7, y8, yf8, y9, yf9, y10, yf10, y11, yf11⟩ := ku.cf12; go_simp; obtain ⟨x8, e8, ku2, kn2, kB2⟩ := Blk.put12 ku kn kB (by omega) (Nat.le_refl _); rw [e8]; refine hK _ _ (KeepS.cons ku2 (KeepS.cons kn2 (KeepS.nil _))) ?_; clear e8
  try simp only [Act.put, List.setIfInBounds_toArray, List.set_cons_zero, List.set_cons_succ]
  refine s_step (i := 3) (oi := ?oia3) (by kernel_rfl) ?hia3 ?hwa3 (fun K hK => ?_)
  case hia3 => simp only [List.getElem?_toArray, List.getElem?_cons_zero, List.getElem?_cons_succ]; rfl
  case hwa3 => rfl
  obtain ⟨c0, f0⟩ := kn2.cf1; go_simp; have ku3 := Blk.far (p := ⟨(w.heap.size + 1), 0, none⟩) ku2 (by simp <;> omega) (.int .i64 1); have kn3 := kn2.set_ 0 (.int .i64 1); have kB3 := Below.setCell (p := ⟨(w.heap.size + 1), 0, none⟩) kB2 (by simp <;> omega) (.int .i64 1); refine hK _ _ (KeepS.cons ku3 (KeepS.cons kn3 (KeepS.nil _))) ?_; generalize (x8.setCell ⟨(w.heap.size + 1), 0, none⟩ (.int .i64 1)) = x7 at *; replace kn3 : Blk x7 (w.heap.size + 1) 3 #[.int .i64 1] := kn3
  try simp only [Act.put, List.setIfInBounds_toArray, List.set_cons_zero, List.set_cons_succ]
  refine wpAnyH_done (by kernel_rfl) ?_ _
  simp only [NoP]
  clear X0 X1 X2 X3 X4 X5 X6 X7 X8 X9 X10 X11 X12 hQ hQ0 ku ku2 kn kn2 kB kB2
  repeat (first | with_reducible refine x_in_here ?_ | with_reducible refine x_in_pass (by decide) ?_ | with_reducible refine x_then_exit ?_ | with_reducible refine x_in_norm ?_ | with_reducible refine x_then_norm ?_ | go_values | go_skip | go_guarded | go_step | go_upon | go_back)
  refine ret_ci rfl use3T Try.underlying3 rfl rfl ku3 (by rfl) rfl kn3 ?_
  exact ⟨rfl, kB3⟩

set_option maxRecDepth 100000 in
set_option maxHeartbeats 1600000 in
theorem shape_28 (w : World) :
    Calls Try.prog 21 #[.int .u8 28] w fun e w' => e = .returned (.tuple #[.agg (usL (shp 28).1).toArray, .int .i64 (shp 28).2]) ∧ Below w.heap.size w w' := by
  have hB : Below w.heap.size w ((w.alloc (.cells #[.int .i64 0, .int .i64 0, .bool false, .bool false, .int .i64 0, .int .i64 0, .bool false, .bool false, .int .i64 0, .int .i64 0, .bool false, .bool false] 55)).alloc (.cells #[.int .i64 0] 3)) := (Below.alloc (Below.alloc (Below.refl w.heap.size w) (by simp <;> omega) (.cells #[.int .i64 0, .int .i64 0, .bool false, .bool false, .int .i64 0, .int .i64 0, .bool false, .bool false, .int .i64 0, .int .i64 0, .bool false, .bool false] 55)) (by simp <;> omega) (.cells #[.int .i64 0] 3))
  have hu := Blk.new w 55 #[.int .i64 0, .int .i64 0, .bool false, .bool false, .int .i64 0, .int .i64 0, .bool false, .bool false, .int .i64 0, .int .i64 0, .bool false, .bool false]
  replace hu := hu.alloc (.cells #[.int .i64 0] 3)
  have hn := Blk.new (w.alloc (.cells #[.int .i64 0, .int .i64 0, .bool false, .bool false, .int .i64 0, .int .i64 0, .bool false, .bool false, .int .i64 0, .int .i64 0, .bool false, .bool false] 55)) 3 #[.int .i64 0]
  rw [show (w.alloc (.cells #[.int .i64 0, .int .i64 0, .bool false, .bool false, .int .i64 0, .int .i64 0, .bool false, .bool false, .int .i64 0, .int .i64 0, .bool false, .bool false] 55)).heap.size = w.heap.size + 1 from by simp] at hn
  go_enter Try.func21, Try.ntmps21
  have z1 := hu.lt
  have z2 := hn.lt
  repeat (first | with_reducible refine x_in_here ?_ | with_reducible refine x_in_pass (by decide) ?_ | with_reducible refine x_then_exit ?_ | with_reducible refine x_in_norm ?_ | with_reducible refine x_then_norm ?_ | go_values | go_skip | go_guarded | go_step | go_upon | go_back)
  (try go_wp2_with fail)
  refine (read6_any _).mono ?_
  rintro e w1 ⟨rfl, bB⟩
  replace hu := Blk.via0 (g := w.heap.size) (t := 55) bB (by repeat (first | with_reducible exact hu | with_reducible (apply Blk.set_) | with_reducible (apply Blk.far; case hp => (simp <;> omega)) | with_reducible (apply Blk.alloc) | with_reducible (apply Blk.drew)))
  replace hu : Blk w1 w.heap.size 55 #[.int .i64 0, .int .i64 0, .bool false, .bool false, .int .i64 0, .int .i64 0, .bool false, .bool false, .int .i64 0, .int .i64 0, .bool false, .bool false] := hu
  replace hn := Blk.via0 (g := (w.heap.size + 1)) (t := 3) bB (by repeat (first | with_reducible exact hn | with_reducible (apply Blk.set_) | with_reducible (apply Blk.far; case hp => (simp <;> omega)) | with_reducible (apply Blk.alloc) | with_reducible (apply Blk.drew)))
  replace hn : Blk w1 (w.heap.size + 1) 3 #[.int .i64 0] := hn
  replace hB := Below.via (w := w) (by have hs_ := hB.size; repeat (first | with_reducible exact hB | with_reducible (refine Below.setCell ?_ (by simp <;> omega) _) | with_reducible (refine Below.alloc ?_ (by first | exact hs_ | (simp <;> omega)) _) | with_reducible (refine Below.drew ?_))) bB
  clear z1 z2
  clear bB
  have z3 := hu.lt
  have z4 := hn.lt
  go_wp2_with fail
  have R : Reads (w1.alloc (.cells #[.int .i64 0, .int .i64 15, .bool true, .bool false] 54)) (w1.alloc (.cells #[.int .i64 0, .int .i64 15, .bool true, .bool false] 54)).heap.size 4 (some ⟨w1.heap.size, 0, none⟩) 1 (usL [uRd]) := reads_blk2 (Blk.new w1 54 #[.int .i64 0, .int .i64 15, .bool true, .bool false]) 4 1 rfl
  clear z3 z4
  refine (set6_any w.heap.size (w.heap.size + 1) (by omega) _ 1 1 [uRd] [.int .i64 0, .int .i64 0, .bool false, .bool false, .int .i64 0, .int .i64 0, .bool false, .bool false, .int .i64 0, .int .i64 0, .bool false, .bool false] 0 (w1.alloc (.cells #[.int .i64 0, .int .i64 15, .bool true, .bool false] 54)) R rfl (by omega) rfl (hu.alloc _) (hn.alloc _)).mono ?_
  rintro e w9 ⟨rfl, hu9, hn9, ex⟩
  replace hB := hB.alloc hB.size (.cells #[.int .i64 0, .int .i64 15, .bool true, .bool false] 54)
  replace hB := hB.trans (ex.below hB.size (Nat.le_refl _) (by omega))
  clear R ex hu hn
  have hu : Blk w9 w.heap.size 55 #[.int .i64 0, .int .i64 15, .bool true, .bool false, .int .i64 0, .int .i64 0, .bool false, .bool false, .int .i64 0, .int .i64 0, .bool false, .bool false] := hu9
  have hn : Blk w9 (w.heap.size + 1) 3 #[.int .i64 1] := hn9
  clear hu9 hn9
  obtain ⟨z5, z6, z7, z8, z9, z10, z11, z12, z13, z14, z15, z16, z17, z18, z19, z20, z21, z22, z23, z24, z25, z26, z27, z28⟩ := hu.cf12
  obtain ⟨z29, z30⟩ := hn.cf1
  have z31 := hu.lt
  have z32 := hn.lt
  dsimp only
  repeat (first | with_reducible refine x_in_here ?_ | with_reducible refine x_in_pass (by decide) ?_ | with_reducible refine x_then_exit ?_ | with_reducible refine x_in_norm ?_ | with_reducible refine x_then_norm ?_ | go_values | go_skip | go_guarded | go_step | go_upon | go_back)
  refine code_name (fun x hx => ?_)
  have hu' : Blk x w.heap.size 55 #[.int .i64 0, .int .i64 15, .bool true, .bool false, .int .i64 0, .int .i64 0, .bool false, .bool false, .int .i64 0, .int .i64 0, .bool false, .bool false] := by
    obtain ⟨cs, h1, h2⟩ : ∃ cs, Blk x w.heap.size 55 cs ∧ cs = #[.int .i64 0, .int .i64 15, .bool true, .bool false, .int .i64 0, .int .i64 0, .bool false, .bool false, .int .i64 0, .int .i64 0, .bool false, .bool false] := by
      refine ⟨_, (by rw [hx]; exact (by repeat (first | with_reducible exact hu | with_reducible (apply Blk.set_) | with_reducible (apply Blk.far; case hp => (simp <;> omega)) | with_reducible (apply Blk.alloc) | with_reducible (apply Blk.drew)))), ?_⟩
      rfl
    rw [h2] at h1
    exact h1
  have hn' : Blk x (w.heap.size + 1) 3 #[.int .i64 1] := by
    obtain ⟨cs, h1, h2⟩ : ∃ cs, Blk x (w.heap.size + 1) 3 cs ∧ cs = #[.int .i64 1] := by
      refine ⟨_, (by rw [hx]; exact (by repeat (first | with_reducible exact hn | with_reducible (apply Blk.set_) | with_reducible (apply Blk.far; case hp => (simp <;> omega)) | with_reducible (apply Blk.alloc) | with_reducible (apply Blk.drew)))), ?_⟩
      rfl
    rw [h2] at h1
    exact h1
  have hB' : Below w.heap.size w x := by rw [hx]; exact (by have hs_ := hB.size; repeat (first | with_reducible exact hB | with_reducible (refine Below.setCell ?_ (by simp <;> omega) _) | with_reducible (refine Below.alloc ?_ (by first | exact hs_ | (simp <;> omega)) _) | with_reducible (refine Below.drew ?_)))
  clear hx
  clear z5 z6 z7 z8 z9 z10 z11 z12 z13 z14 z15 z16 z17 z18 z19 z20 z21 z22 z23 z24 z25 z26 z27 z28 z29 z30 z31 z32
  refine s_go (KeepS [(w.heap.size, 55, #[.int .i64 0, .int .i64 15, .bool true, .bool false, .int .i64 0, .int .i64 0, .bool false, .bool false, .int .i64 0, .int .i64 0, .bool false, .bool false]), ((w.heap.size + 1), 3, #[.int .i64 1])]) (by kernel_rfl) (fun hQ0 x9 b => ?_)
  have ku := hu'.below b hu'.lt
  have kn := hn'.below b hn'.lt
  have kB := hB'.trans (b.mono hB'.size)
  clear b hu' hn' hB'
  refine ⟨KeepS.cons ku (KeepS.cons kn (KeepS.nil _)), ?_⟩
  have hQ := And.intro hQ0 (KeepS.cons ku (KeepS.cons kn (KeepS.nil x9)))
  obtain ⟨X0, X1, X2, X3, X4, X5, X6, X7, X8, X9, X10, X11, X12⟩ := KeepS.cf12 (w.heap.size) (55) ((w.heap.size + 1)) (3) (.int .i64 0) (.int .i64 15) (.bool true) (.bool false) (.int .i64 0) (.int .i64 0) (.bool false) (.bool false) (.int .i64 0) (.int .i64 0) (.bool false) (.bool false) (.int .i64 1)
  refine s_take (i := 0) (oi := ?oia0) (v := ?va0) ?hia0 (by kernel_rfl) (by kernel_rfl) (by kernel_rfl) hQ ?hwa0 ?hya0 ?resta0
  case hia0 => simp only [List.getElem?_toArray, List.getElem?_cons_zero]; rfl
  case hwa0 => rfl
  case hya0 => intro W hW; go_simp; with_reducible rfl
  simp only [Act.put, List.setIfInBounds_toArray, List.set_cons_zero, List.set_cons_succ]
  refine s_take (i := 1) (oi := ?oia1) (v := ?va1) ?hia1 (by kernel_rfl) (by kernel_rfl) (by kernel_rfl) hQ ?hwa1 ?hya1 ?resta1
  case hia1 => simp only [List.getElem?_toArray, List.getElem?_cons_zero, List.getElem?_cons_succ]; rfl
  case hwa1 => rfl
  case hya1 => intro W hW; go_simp; with_reducible rfl
  simp only [Act.put, List.setIfInBounds_toArray, List.set_cons_zero, List.set_cons_succ]
  refine s_step (i := 2) (oi := ?oia2) (by kernel_rfl) ?hia2 ?hwa2 (fun K hK => ?_)
  case hia2 => simp only [List.getElem?_toArray, List.getElem?_cons_zero, List.getElem?_cons_succ]; rfl
  case hwa2 => rfl
  obtain ⟨y0, yf0, y1, yf1, y2, yf2, y3, yf3, y4, yf4, y5, yf5, y6, yf6, y7, yf7, y8, yf8, y9, yf9, y10, yf10, y11, yf11⟩ := ku.cf12; go_simp; obtain ⟨x8, e8, ku2, kn2, kB2⟩ := Blk.put12 ku kn kB (by omega) (Nat.le_refl _); rw [e8]; refine hK _ _ (KeepS.cons ku2 (KeepS.cons kn2 (KeepS.nil _))) ?_; clear e8
  try simp only [Act.put, List.setIfInBounds_toArray, List.set_cons_zero, List.set_cons_succ]
  refine s_step (i := 3) (oi := ?oia3) (by kernel_rfl) ?hia3 ?hwa3 (fun K hK => ?_)
  case hia3 => simp only [List.getElem?_toArray, List.getElem?_cons_zero, List.getElem?_cons_succ]; rfl
  case hwa3 => rfl
  obtain ⟨c0, f0⟩ := kn2.cf1; go_simp; have ku3 := Blk.far (p := ⟨(w.heap.size + 1), 0, none⟩) ku2 (by simp <;> omega) (.int .i64 1); have kn3 := kn2.set_ 0 (.int .i64 1); have kB3 := Below.setCell (p := ⟨(w.heap.size + 1), 0, none⟩) kB2 (by simp <;> omega) (.int .i64 1); refine hK _ _ (KeepS.cons ku3 (KeepS.cons kn3 (KeepS.nil _))) ?_; generalize (x8.setCell ⟨(w.heap.size + 1), 0, none⟩ (.int .i64 1)) = x7 at *; replace kn3 : Blk x7 (w.heap.size + 1) 3 #[.int .i64 1] := kn3
  try simp only [Act.put, List.setIfInBounds_toArray, List.set_cons_zero, List.set_cons_succ]
  refine wpAnyH_done (by kernel_rfl) ?_ _
  simp only [NoP]
  clear X0 X1 X2 X3 X4 X5 X6 X7 X8 X9 X10 X11 X12 hQ hQ0 ku ku2 kn kn2 kB kB2
  repeat (first | with_reducible refine x_in_here ?_ | with_reducible refine x_in_pass (by decide) ?_ | with_reducible refine x_then_exit ?_ | with_reducible refine x_in_norm ?_ | with_reducible refine x_then_norm ?_ | go_values | go_skip | go_guarded | go_step | go_upon | go_back)
  refine ret_ci rfl use3T Try.underlying3 rfl rfl ku3 (by rfl) rfl kn3 ?_
  exact ⟨rfl, kB3⟩

set_option maxRecDepth 100000 in
set_option maxHeartbeats 1600000 in
theorem shape_29 (w : World) :
    Calls Try.prog 21 #[.int .u8 29] w fun e w' => e = .returned (.tuple #[.agg (usL (shp 29).1).toArray, .int .i64 (shp 29).2]) ∧ Below w.heap.size w w' := by
  have hB : Below w.heap.size w ((w.alloc (.cells #[.int .i64 0, .int .i64 0, .bool false, .bool false, .int .i64 0, .int .i64 0, .bool false, .bool false, .int .i64 0, .int .i64 0, .bool false, .bool false] 55)).alloc (.cells #[.int .i64 0] 3)) := (Below.alloc (Below.alloc (Below.refl w.heap.size w) (by simp <;> omega) (.cells #[.int .i64 0, .int .i64 0, .bool false, .bool false, .int .i64 0, .int .i64 0, .bool false, .bool false, .int .i64 0, .int .i64 0, .bool false, .bool false] 55)) (by simp <;> omega) (.cells #[.int .i64 0] 3))
  have hu := Blk.new w 55 #[.int .i64 0, .int .i64 0, .bool false, .bool false, .int .i64 0, .int .i64 0, .bool false, .bool false, .int .i64 0, .int .i64 0, .bool false, .bool false]
  replace hu := hu.alloc (.cells #[.int .i64 0] 3)
  have hn := Blk.new (w.alloc (.cells #[.int .i64 0, .int .i64 0, .bool false, .bool false, .int .i64 0, .int .i64 0, .bool false, .bool false, .int .i64 0, .int .i64 0, .bool false, .bool false] 55)) 3 #[.int .i64 0]
  rw [show (w.alloc (.cells #[.int .i64 0, .int .i64 0, .bool false, .bool false, .int .i64 0, .int .i64 0, .bool false, .bool false, .int .i64 0, .int .i64 0, .bool false, .bool false] 55)).heap.size = w.heap.size + 1 from by simp] at hn
  go_enter Try.func21, Try.ntmps21
  have z1 := hu.lt
  have z2 := hn.lt
  repeat (first | with_reducible refine x_in_here ?_ | with_reducible refine x_in_pass (by decide) ?_ | with_reducible refine x_then_exit ?_ | with_reducible refine x_in_norm ?_ | with_reducible refine x_then_norm ?_ | go_values | go_skip | go_guarded | go_step | go_upon | go_back)
  (try go_wp2_with fail)
  refine (write6_any _).mono ?_
  rintro e w1 ⟨rfl, bB⟩
  replace hu := Blk.via0 (g := w.heap.size) (t := 55) bB (by repeat (first | with_reducible exact hu | with_reducible (apply Blk.set_) | with_reducible (apply Blk.far; case hp => (simp <;> omega)) | with_reducible (apply Blk.alloc) | with_reducible (apply Blk.drew)))
  replace hu : Blk w1 w.heap.size 55 #[.int .i64 0, .int .i64 0, .bool false, .bool false, .int .i64 0, .int .i64 0, .bool false, .bool false, .int .i64 0, .int .i64 0, .bool false, .bool false] := hu
  replace hn := Blk.via0 (g := (w.heap.size + 1)) (t := 3) bB (by repeat (first | with_reducible exact hn | with_reducible (apply Blk.set_) | with_reducible (apply Blk.far; case hp => (simp <;> omega)) | with_reducible (apply Blk.alloc) | with_reducible (apply Blk.drew)))
  replace hn : Blk w1 (w.heap.size + 1) 3 #[.int .i64 0] := hn
  replace hB := Below.via (w := w) (by have hs_ := hB.size; repeat (first | with_reducible exact hB | with_reducible (refine Below.setCell ?_ (by simp <;> omega) _) | with_reducible (refine Below.alloc ?_ (by first | exact hs_ | (simp <;> omega)) _) | with_reducible (refine Below.drew ?_))) bB
  clear z1 z2
  clear bB
  have z3 := hu.lt
  have z4 := hn.lt
  go_wp2_with fail
  refine (write6_any _).mono ?_
  rintro e w2 ⟨rfl, bB⟩
  replace hu := Blk.via0 (g := w.heap.size) (t := 55) bB (by repeat (first | with_reducible exact hu | with_reducible (apply Blk.set_) | with_reducible (apply Blk.far; case hp => (simp <;> omega)) | with_reducible (apply Blk.alloc) | with_reducible (apply Blk.drew)))
  replace hu : Blk w2 w.heap.size 55 #[.int .i64 0, .int .i64 0, .bool false, .bool false, .int .i64 0, .int .i64 0, .bool false, .bool false, .int .i64 0, .int .i64 0, .bool false, .bool false] := hu
  replace hn := Blk.via0 (g := (w.heap.size + 1)) (t := 3) bB (by repeat (first | with_reducible exact hn | with_reducible (apply Blk.set_) | with_reducible (apply Blk.far; case hp => (simp <;> omega)) | with_reducible (apply Blk.alloc) | with_reducible (apply Blk.drew)))
  replace hn : Blk w2 (w.heap.size + 1) 3 #[.int .i64 0] := hn
  replace hB := Below.via (w := w) (by have hs_ := hB.size; repeat (first | with_reducible exact hB | with_reducible (refine Below.setCell ?_ (by simp <;> omega) _) | with_reducible (refine Below.alloc ?_ (by first | exact hs_ | (simp <;> omega)) _) | with_reducible (refine Below.drew ?_))) bB
  clear z3 z4
  clear bB
  have z5 := hu.lt
  have z6 := hn.lt
  go_wp2_with fail
  have R : Reads (w2.alloc (.cells #[.int .i64 0, .int .i64 15, .bool false, .bool true, .int .i64 0, .int .i64 15, .bool false, .bool true] 54)) (w2.alloc (.cells #[.int .i64 0, .int .i64 15, .bool false, .bool true, .int .i64 0, .int .i64 15, .bool false, .bool true] 54)).heap.size 4 (some ⟨w2.heap.size, 0, none⟩) 2 (usL [uWr, uWr]) := reads_blk2 (Blk.new w2 54 #[.int .i64 0, .int .i64 15, .bool false, .bool true, .int .i64 0, .int .i64 15, .bool false, .bool true]) 4 2 rfl
  clear z5 z6
  refine (set6_any w.heap.size (w.heap.size + 1) (by omega) _ 2 2 [uWr, uWr] [.int .i64 0, .int .i64 0, .bool false, .bool false, .int .i64 0, .int .i64 0, .bool false, .bool false, .int .i64 0, .int .i64 0, .bool false, .bool false] 0 (w2.alloc (.cells #[.int .i64 0, .int .i64 15, .bool false, .bool true, .int .i64 0, .int .i64 15, .bool false, .bool true] 54)) R rfl (by omega) rfl (hu.alloc _) (hn.alloc _)).mono ?_
  rintro e w9 ⟨rfl, hu9, hn9, ex⟩
  replace hB := hB.alloc hB.size (.cells #[.int .i64 0, .int .i64 15, .bool false, .bool true, .int .i64 0, .int .i64 15, .bool false, .bool true] 54)
  replace hB := hB.trans (ex.below hB.size (Nat.le_refl _) (by omega))
  clear R ex hu hn
  have hu : Blk w9 w.heap.size 55 #[.int .i64 0, .int .i64 15, .bool false, .bool true, .int .i64 0, .int .i64 15, .bool false, .bool true, .int .i64 0, .int .i64 0, .bool false, .bool false] := hu9
  have hn : Blk w9 (w.heap.size + 1) 3 #[.int .i64 2] := hn9
  clear hu9 hn9
  obtain ⟨z7, z8, z9, z10, z11, z12, z13, z14, z15, z16, z17, z18, z19, z20, z21, z22, z23, z24, z25, z26, z27, z28, z29, z30⟩ := hu.cf12
  obtain ⟨z31, z32⟩ := hn.cf1
  have z33 := hu.lt
  have z34 := hn.lt
  dsimp only
  repeat (first | with_reducible refine x_in_here ?_ | with_reducible refine x_in_pass (by decide) ?_ | with_reducible refine x_then_exit ?_ | with_reducible refine x_in_norm ?_ | with_reducible refine x_then_norm ?_ | go_values | go_skip | go_guarded | go_step | go_upon | go_back)
  refine code_name (fun x hx => ?_)
  have hu' : Blk x w.heap.size 55 #[.int .i64 0, .int .i64 15, .bool false, .bool true, .int .i64 0, .int .i64 15, .bool false, .bool true, .int .i64 0, .int .i64 0, .bool false, .bool false] := by
    obtain ⟨cs, h1, h2⟩ : ∃ cs, Blk x w.heap.size 55 cs ∧ cs = #[.int .i64 0, .int .i64 15, .bool false, .bool true, .int .i64 0, .int .i64 15, .bool false, .bool true, .int .i64 0, .int .i64 0, .bool false, .bool false] := by
      refine ⟨_, (by rw [hx]; exact (by repeat (first | with_reducible exact hu | with_reducible (apply Blk.set_) | with_reducible (apply Blk.far; case hp => (simp <;> omega)) | with_reducible (apply Blk.alloc) | with_reducible (apply Blk.drew)))), ?_⟩
      rfl
    rw [h2] at h1
    exact h1
  have hn' : Blk x (w.heap.size + 1) 3 #[.int .i64 2] := by
    obtain ⟨cs, h1, h2⟩ : ∃ cs, Blk x (w.heap.size + 1) 3 cs ∧ cs = #[.int .i64 2] := by
      refine ⟨_, (by rw [hx]; exact (by repeat (first | with_reducible exact hn | with_reducible (apply Blk.set_) | with_reducible (apply Blk.far; case hp => (simp <;> omega)) | with_reducible (apply Blk.alloc) | with_reducible (apply Blk.drew)))), ?_⟩
      rfl
    rw [h2] at h1
    exact h1
  have hB' : Below w.heap.size w x := by rw [hx]; exact (by have hs_ := hB.size; repeat (first | with_reducible exact hB | with_reducible (refine Below.setCell ?_ (by simp <;> omega) _) | with_reducible (refine Below.alloc ?_ (by first | exact hs_ | (simp <;> omega)) _) | with_reducible (refine Below.drew ?_)))
  clear hx
  clear z7 z8 z9 z10 z11 z12 z13 z14 z15 z16 z17 z18 z19 z20 z21 z22 z23 z24 z25 z26 z27 z28 z29 z30 z31 z32 z33 z34
  refine s_go (KeepS [(w.heap.size, 55, #[.int .i64 0, .int .i64 15, .bool false, .bool true, .int .i64 0, .int .i64 15, .bool false, .bool true, .int .i64 0, .int .i64 0, .bool false, .bool false]), ((w.heap.size + 1), 3, #[.int .i64 2])]) (by kernel_rfl) (fun hQ0 x9 b => ?_)
  have ku := hu'.below b hu'.lt
  have kn := hn'.below b hn'.lt
  have kB := hB'.trans (b.mono hB'.size)
  clear b hu' hn' hB'
  refine ⟨KeepS.cons ku (KeepS.cons kn (KeepS.nil _)), ?_⟩
  have hQ := And.intro hQ0 (KeepS.cons ku (KeepS.cons kn (KeepS.nil x9)))
  obtain ⟨X0, X1, X2, X3, X4, X5, X6, X7, X8, X9, X10, X11, X12⟩ := KeepS.cf12 (w.heap.size) (55) ((w.heap.size + 1)) (3) (.int .i64 0) (.int .i64 15) (.bool false) (.bool true) (.int .i64 0) (.int .i64 15) (.bool false) (.bool true) (.int .i64 0) (.int .i64 0) (.bool false) (.bool false) (.int .i64 2)
  refine s_take (i := 0) (oi := ?oia0) (v := ?va0) ?hia0 (by kernel_rfl) (by kernel_rfl) (by kernel_rfl) hQ ?hwa0 ?hya0 ?resta0
  case hia0 => simp only [List.getElem?_toArray, List.getElem?_cons_zero]; rfl
  case hwa0 => rfl
  case hya0 => intro W hW; go_simp; with_reducible rfl
  simp only [Act.put, List.setIfInBounds_toArray, List.set_cons_zero, List.set_cons_succ]
  refine s_take (i := 1) (oi := ?oia1) (v := ?va1) ?hia1 (by kernel_rfl) (by kernel_rfl) (by kernel_rfl) hQ ?hwa1 ?hya1 ?resta1
  case hia1 => simp only [List.getElem?_toArray, List.getElem?_cons_zero, List.getElem?_cons_succ]; rfl
  case hwa1 => rfl
  case hya1 => intro W hW; go_simp; with_reducible rfl
  simp only [Act.put, List.setIfInBounds_toArray, List.set_cons_zero, List.set_cons_succ]
  refine s_step (i := 2) (oi := ?oia2) (by kernel_rfl) ?hia2 ?hwa2 (fun K hK => ?_)
  case hia2 => simp only [List.getElem?_toArray, List.getElem?_cons_zero, List.getElem?_cons_succ]; rfl
  case hwa2 => rfl
  obtain ⟨y0, yf0, y1, yf1, y2, yf2, y3, yf3, y4, yf4, y5, yf5, y6, yf6, y7, yf7, y8, yf8, y9, yf9, y10, yf10, y11, yf11⟩ := ku.cf12; go_simp; obtain ⟨x8, e8, ku2, kn2, kB2⟩ := Blk.put12 ku kn kB (by omega) (Nat.le_refl _); rw [e8]; refine hK _ _ (KeepS.cons ku2 (KeepS.cons kn2 (KeepS.nil _))) ?_; clear e8
  try simp only [Act.put, List.setIfInBounds_toArray, List.set_cons_zero, List.set_cons_succ]
  refine s_step (i := 3) (oi := ?oia3) (by kernel_rfl) ?hia3 ?hwa3 (fun K hK => ?_)
  case hia3 => simp only [List.getElem?_toArray, List.getElem?_cons_zero, List.getElem?_cons_succ]; rfl
  case hwa3 => rfl
  obtain ⟨c0, f0⟩ := kn2.cf1; go_simp; have ku3 := Blk.far (p := ⟨(w.heap.size + 1), 0, none⟩) ku2 (by simp <;> omega) (.int .i64 2); have kn3 := kn2.set_ 0 (.int .i64 2); have kB3 := Below.setCell (p := ⟨(w.heap.size + 1), 0, none⟩) kB2 (by simp <;> omega) (.int .i64 2); refine hK _ _ (KeepS.cons ku3 (KeepS.cons kn3 (KeepS.nil _))) ?_; generalize (x8.setCell ⟨(w.heap.size + 1), 0, none⟩ (.int .i64 2)) = x7 at *; replace kn3 : Blk x7 (w.heap.size + 1) 3 #[.int .i64 2] := kn3
  try simp only [Act.put, List.setIfInBounds_toArray, List.set_cons_zero, List.set_cons_succ]
  refine wpAnyH_done (by kernel_rfl) ?_ _
  simp only [NoP]
  clear X0 X1 X2 X3 X4 X5 X6 X7 X8 X9 X10 X11 X12 hQ hQ0 ku ku2 kn kn2 kB kB2
  repeat (first | with_reducible refine x_in_here ?_ | with_reducible refine x_in_pass (by decide) ?_ | with_reducible refine x_then_exit ?_ | with_reducible refine x_in_norm ?_ | with_reducible refine x_then_norm ?_ | go_values | go_skip | go_guarded | go_step | go_upon | go_back)
  refine ret_ci rfl use3T Try.underlying3 rfl rfl ku3 (by rfl) rfl kn3 ?_
  exact ⟨rfl, kB3⟩

set_option maxRecDepth 100000 in
set_option maxHeartbeats 1600000 in
theorem shape_30 (w : World) :
    Calls Try.prog 21 #[.int .u8 30] w fun e w' => e = .returned (.tuple #[.agg (usL (shp 30).1).toArray, .int .i64 (shp 30).2]) ∧ Below w.heap.size w w' := by
  go_enter Try.func21, Try.ntmps21
  repeat (first | with_reducible refine x_in_here ?_ | with_reducible refine x_in_pass (by decide) ?_ | with_reducible refine x_then_exit ?_ | with_reducible refine x_in_norm ?_ | with_reducible refine x_then_norm ?_ | go_values | go_skip | go_guarded | go_step | go_upon | go_back)
  refine code_name (fun x hx => ?_)
  have hu' : Blk x w.heap.size 55 #[.int .i64 0, .int .i64 0, .bool false, .bool false, .int .i64 0, .int .i64 0, .bool false, .bool false, .int .i64 0, .int .i64 0, .bool false, .bool false] := by
    obtain ⟨cs, h1, h2⟩ : ∃ cs, Blk x w.heap.size 55 cs ∧ cs = #[.int .i64 0, .int .i64 0, .bool false, .bool false, .int .i64 0, .int .i64 0, .bool false, .bool false, .int .i64 0, .int .i64 0, .bool false, .bool false] := by
      refine ⟨_, (by rw [hx]; exact (Blk.alloc (Blk.new _ _ _) _)), ?_⟩
      rfl
    rw [h2] at h1
    exact h1
  have hn' : Blk x (w.heap.size + 1) 3 #[.int .i64 0] := by
    obtain ⟨cs, h1, h2⟩ : ∃ cs, Blk x (w.heap.size + 1) 3 cs ∧ cs = #[.int .i64 0] := by
      refine ⟨_, (by rw [hx]; exact (Blk.newAt (by simp) _ _)), ?_⟩
      rfl
    rw [h2] at h1
    exact h1
  have hB' : Below w.heap.size w x := by rw [hx]; exact ((Below.refl _ _).alloc (Nat.le_refl _) _).alloc (by simp) _
  clear hx
  refine s_go (KeepS [(w.heap.size, 55, #[.int .i64 0, .int .i64 0, .bool false, .bool false, .int .i64 0, .int .i64 0, .bool false, .bool false, .int .i64 0, .int .i64 0, .bool false, .bool false]), ((w.heap.size + 1), 3, #[.int .i64 0])]) (by kernel_rfl) (fun hQ0 x9 b => ?_)
  have ku := hu'.below b hu'.lt
  have kn := hn'.below b hn'.lt
  have kB := hB'.trans (b.mono hB'.size)
  clear b hu' hn' hB'
  refine ⟨KeepS.cons ku (KeepS.cons kn (KeepS.nil _)), ?_⟩
  have hQ := And.intro hQ0 (KeepS.cons ku (KeepS.cons kn (KeepS.nil x9)))
  obtain ⟨X0, X1, X2, X3, X4, X5, X6, X7, X8, X9, X10, X11, X12⟩ := KeepS.cf12 (w.heap.size) (55) ((w.heap.size + 1)) (3) (.int .i64 0) (.int .i64 0) (.bool false) (.bool false) (.int .i64 0) (.int .i64 0) (.bool false) (.bool false) (.int .i64 0) (.int .i64 0) (.bool false) (.bool false) (.int .i64 0)
  refine s_take (i := 0) (oi := ?oia0) (v := ?va0) ?hia0 (by kernel_rfl) (by kernel_rfl) (by kernel_rfl) hQ ?hwa0 ?hya0 ?resta0
  case hia0 => simp only [List.getElem?_toArray, List.getElem?_cons_zero]; rfl
  case hwa0 => rfl
  case hya0 => intro W hW; go_simp; with_reducible rfl
  simp only [Act.put, List.setIfInBounds_toArray, List.set_cons_zero, List.set_cons_succ]
  refine s_take (i := 1) (oi := ?oia1) (v := ?va1) ?hia1 (by kernel_rfl) (by kernel_rfl) (by kernel_rfl) hQ ?hwa1 ?hya1 ?resta1
  case hia1 => simp only [List.getElem?_toArray, List.getElem?_cons_zero, List.getElem?_cons_succ]; rfl
  case hwa1 => rfl
  case hya1 => intro W hW; go_simp; with_reducible rfl
  simp only [Act.put, List.setIfInBounds_toArray, List.set_cons_zero, List.set_cons_succ]
  refine s_step (i := 2) (oi := ?oia2) (by kernel_rfl) ?hia2 ?hwa2 (fun K hK => ?_)
  case hia2 => simp only [List.getElem?_toArray, List.getElem?_cons_zero, List.getElem?_cons_succ]; rfl
  case hwa2 => rfl
  obtain ⟨y0, yf0, y1, yf1, y2, yf2, y3, yf3, y4, yf4, y5, yf5, y6, yf6, y7, yf7, y8, yf8, y9, yf9, y10, yf10, y11, yf11⟩ := ku.cf12; go_simp; obtain ⟨x8, e8, ku2, kn2, kB2⟩ := Blk.put12 ku kn kB (by omega) (Nat.le_refl _); rw [e8]; refine hK _ _ (KeepS.cons ku2 (KeepS.cons kn2 (KeepS.nil _))) ?_; clear e8
  try simp only [Act.put, List.setIfInBounds_toArray, List.set_cons_zero, List.set_cons_succ]
  refine s_step (i := 3) (oi := ?oia3) (by kernel_rfl) ?hia3 ?hwa3 (fun K hK => ?_)
  case hia3 => simp only [List.getElem?_toArray, List.getElem?_cons_zero, List.getElem?_cons_succ]; rfl
  case hwa3 => rfl
  obtain ⟨c0, f0⟩ := kn2.cf1; go_simp; have ku3 := Blk.far (p := ⟨(w.heap.size + 1), 0, none⟩) ku2 (by simp <;> omega) (.int .i64 0); have kn3 := kn2.set_ 0 (.int .i64 0); have kB3 := Below.setCell (p := ⟨(w.heap.size + 1), 0, none⟩) kB2 (by simp <;> omega) (.int .i64 0); refine hK _ _ (KeepS.cons ku3 (KeepS.cons kn3 (KeepS.nil _))) ?_; generalize (x8.setCell ⟨(w.heap.size + 1), 0, none⟩ (.int .i64 0)) = x7 at *; replace kn3 : Blk x7 (w.heap.size + 1) 3 #[.int .i64 0] := kn3
  try simp only [Act.put, List.setIfInBounds_toArray, List.set_cons_zero, List.set_cons_succ]
  refine wpAnyH_done (by kernel_rfl) ?_ _
  simp only [NoP]
  clear X0 X1 X2 X3 X4 X5 X6 X7 X8 X9 X10 X11 X12 hQ hQ0 ku ku2 kn kn2 kB kB2
  repeat (first | with_reducible refine x_in_here ?_ | with_reducible refine x_in_pass (by decide) ?_ | with_reducible refine x_then_exit ?_ | with_reducible refine x_in_norm ?_ | with_reducible refine x_then_norm ?_ | go_values | go_skip | go_guarded | go_step | go_upon | go_back)
  refine ret_ci rfl use3T Try.underlying3 rfl rfl ku3 (by rfl) rfl kn3 ?_
  exact ⟨rfl, kB3⟩

set_option maxRecDepth 100000 in
set_option maxHeartbeats 1600000 in
theorem shape_31 (w : World) :
    Calls Try.prog 21 #[.int .u8 31] w fun e w' => e = .returned (.tuple #[.agg (usL (shp 31).1).toArray, .int .i64 (shp 31).2]) ∧ Below w.heap.size w w' := by
  go_enter Try.func21, Try.ntmps21
  repeat (first | with_reducible refine x_in_here ?_ | with_reducible refine x_in_pass (by decide) ?_ | with_reducible refine x_then_exit ?_ | with_reducible refine x_in_norm ?_ | with_reducible refine x_then_norm ?_ | go_values | go_skip | go_guarded | go_step | go_upon | go_back)
  refine code_name (fun x hx => ?_)
  have hu' : Blk x w.heap.size 55 #[.int .i64 0, .int .i64 0, .bool false, .bool false, .int .i64 0, .int .i64 0, .bool false, .bool false, .int .i64 0, .int .i64 0, .bool false, .bool false] := by
    obtain ⟨cs, h1, h2⟩ : ∃ cs, Blk x w.heap.size 55 cs ∧ cs = #[.int .i64 0, .int .i64 0, .bool false, .bool false, .int .i64 0, .int .i64 0, .bool false, .bool false, .int .i64 0, .int .i64 0, .bool false, .bool false] := by
      refine ⟨_, (by rw [hx]; exact (Blk.alloc (Blk.new _ _ _) _)), ?_⟩
      rfl
    rw [h2] at h1
    exact h1
  have hn' : Blk x (w.heap.size + 1) 3 #[.int .i64 0] := by
    obtain ⟨cs, h1, h2⟩ : ∃ cs, Blk x (w.heap.size + 1) 3 cs ∧ cs = #[.int .i64 0] := by
      refine ⟨_, (by rw [hx]; exact (Blk.newAt (by simp) _ _)), ?_⟩
      rfl
    rw [h2] at h1
    exact h1
  have hB' : Below w.heap.size w x := by rw [hx]; exact ((Below.refl _ _).alloc (Nat.le_refl _) _).alloc (by simp) _
  clear hx
  refine s_go (KeepS [(w.heap.size, 55, #[.int .i64 0, .int .i64 0, .bool false, .bool false, .int .i64 0, .int .i64 0, .bool false, .bool false, .int .i64 0, .int .i64 0, .bool false, .bool false]), ((w.heap.size + 1), 3, #[.int .i64 0])]) (by kernel_rfl) (fun hQ0 x9 b => ?_)
  have ku := hu'.below b hu'.lt
  have kn := hn'.below b hn'.lt
  have kB := hB'.trans (b.mono hB'.size)
  clear b hu' hn' hB'
  refine ⟨KeepS.cons ku (KeepS.cons kn (KeepS.nil _)), ?_⟩
  have hQ := And.intro hQ0 (KeepS.cons ku (KeepS.cons kn (KeepS.nil x9)))
  obtain ⟨X0, X1, X2, X3, X4, X5, X6, X7, X8, X9, X10, X11, X12⟩ := KeepS.cf12 (w.heap.size) (55) ((w.heap.size + 1)) (3) (.int .i64 0) (.int .i64 0) (.bool false) (.bool false) (.int .i64 0) (.int .i64 0) (.bool false) (.bool false) (.int .i64 0) (.int .i64 0) (.bool false) (.bool false) (.int .i64 0)
  refine s_take (i := 0) (oi := ?oia0) (v := ?va0) ?hia0 (by kernel_rfl) (by kernel_rfl) (by kernel_rfl) hQ ?hwa0 ?hya0 ?resta0
  case hia0 => simp only [List.getElem?_toArray, List.getElem?_cons_zero]; rfl
  case hwa0 => rfl
  case hya0 => intro W hW; go_simp; with_reducible rfl
  simp only [Act.put, List.setIfInBounds_toArray, List.set_cons_zero, List.set_cons_succ]
  refine s_take (i := 1) (oi := ?oia1) (v := ?va1) ?hia1 (by kernel_rfl) (by kernel_rfl) (by kernel_rfl) hQ ?hwa1 ?hya1 ?resta1
  case hia1 => simp only [List.getElem?_toArray, List.getElem?_cons_zero, List.getElem?_cons_succ]; rfl
  case hwa1 => rfl
  case hya1 => intro W hW; go_simp; with_reducible rfl
  simp only [Act.put, List.setIfInBounds_toArray, List.set_cons_zero, List.set_cons_succ]
  refine s_step (i := 2) (oi := ?oia2) (by kernel_rfl) ?hia2 ?hwa2 (fun K hK => ?_)
  case hia2 => simp only [List.getElem?_toArray, List.getElem?_cons_zero, List.getElem?_cons_succ]; rfl
  case hwa2 => rfl
  obtain ⟨y0, yf0, y1, yf1, y2, yf2, y3, yf3, y4, yf4, y5, yf5, y6, yf6, y7, yf7, y8, yf8, y9, yf9, y10, yf10, y11, yf11⟩ := ku.cf12; go_simp; obtain ⟨x8, e8, ku2, kn2, kB2⟩ := Blk.put12 ku kn kB (by omega) (Nat.le_refl _); rw [e8]; refine hK _ _ (KeepS.cons ku2 (KeepS.cons kn2 (KeepS.nil _))) ?_; clear e8
  try simp only [Act.put, List.setIfInBounds_toArray, List.set_cons_zero, List.set_cons_succ]
  refine s_step (i := 3) (oi := ?oia3) (by kernel_rfl) ?hia3 ?hwa3 (fun K hK => ?_)
  case hia3 => simp only [List.getElem?_toArray, List.getElem?_cons_zero, List.getElem?_cons_succ]; rfl
  case hwa3 => rfl
  obtain ⟨c0, f0⟩ := kn2.cf1; go_simp; have ku3 := Blk.far (p := ⟨(w.heap.size + 1), 0, none⟩) ku2 (by simp <;> omega) (.int .i64 0); have kn3 := kn2.set_ 0 (.int .i64 0); have kB3 := Below.setCell (p := ⟨(w.heap.size + 1), 0, none⟩) kB2 (by simp <;> omega) (.int .i64 0); refine hK _ _ (KeepS.cons ku3 (KeepS.cons kn3 (KeepS.nil _))) ?_; generalize (x8.setCell ⟨(w.heap.size + 1), 0, none⟩ (.int .i64 0)) = x7 at *; replace kn3 : Blk x7 (w.heap.size + 1) 3 #[.int .i64 0] := kn3
  try simp only [Act.put, List.setIfInBounds_toArray, List.set_cons_zero, List.set_cons_succ]
  refine wpAnyH_done (by kernel_rfl) ?_ _
  simp only [NoP]
  clear X0 X1 X2 X3 X4 X5 X6 X7 X8 X9 X10 X11 X12 hQ hQ0 ku ku2 kn kn2 kB kB2
  repeat (first | with_reducible refine x_in_here ?_ | with_reducible refine x_in_pass (by decide) ?_ | with_reducible refine x_then_exit ?_ | with_reducible refine x_in_norm ?_ | with_reducible refine x_then_norm ?_ | go_values | go_skip | go_guarded | go_step | go_upon | go_back)
  refine ret_ci rfl use3T Try.underlying3 rfl rfl ku3 (by rfl) rfl kn3 ?_
  exact ⟨rfl, kB3⟩

set_option maxRecDepth 100000 in
set_option maxHeartbeats 1600000 in
theorem shape_32 (w : World) :
    Calls Try.prog 21 #[.int .u8 32] w fun e w' => e = .returned (.tuple #[.agg (usL (shp 32).1).toArray, .int .i64 (shp 32).2]) ∧ Below w.heap.size w w' := by
  have hB : Below w.heap.size w ((w.alloc (.cells #[.int .i64 0, .int .i64 0, .bool false, .bool false, .int .i64 0, .int .i64 0, .bool false, .bool false, .int .i64 0, .int .i64 0, .bool false, .bool false] 55)).alloc (.cells #[.int .i64 0] 3)) := (Below.alloc (Below.alloc (Below.refl w.heap.size w) (by simp <;> omega) (.cells #[.int .i64 0, .int .i64 0, .bool false, .bool false, .int .i64 0, .int .i64 0, .bool false, .bool false, .int .i64 0, .int .i64 0, .bool false, .bool false] 55)) (by simp <;> omega) (.cells #[.int .i64 0] 3))
  have hu := Blk.new w 55 #[.int .i64 0, .int .i64 0, .bool false, .bool false, .int .i64 0, .int .i64 0, .bool false, .bool false, .int .i64 0, .int .i64 0, .bool false, .bool false]
  replace hu := hu.alloc (.cells #[.int .i64 0] 3)
  have hn := Blk.new (w.alloc (.cells #[.int .i64 0, .int .i64 0, .bool false, .bool false, .int .i64 0, .int .i64 0, .bool false, .bool false, .int .i64 0, .int .i64 0, .bool false, .bool false] 55)) 3 #[.int .i64 0]
  rw [show (w.alloc (.cells #[.int .i64 0, .int .i64 0, .bool false, .bool false, .int .i64 0, .int .i64 0, .bool false, .bool false, .int .i64 0, .int .i64 0, .bool false, .bool false] 55)).heap.size = w.heap.size + 1 from by simp] at hn
  go_enter Try.func21, Try.ntmps21
  have z1 := hu.lt
  have z2 := hn.lt
  repeat (first | with_reducible refine x_in_here ?_ | with_reducible refine x_in_pass (by decide) ?_ | with_reducible refine x_then_exit ?_ | with_reducible refine x_in_norm ?_ | with_reducible refine x_then_norm ?_ | go_values | go_skip | go_guarded | go_step | go_upon | go_back)
  (try go_wp2_with fail)
  refine (read6_any _).mono ?_
  rintro e w1 ⟨rfl, bB⟩
  replace hu := Blk.via0 (g := w.heap.size) (t := 55) bB (by repeat (first | with_reducible exact hu | with_reducible (apply Blk.set_) | with_reducible (apply Blk.far; case hp => (simp <;> omega)) | with_reducible (apply Blk.alloc) | with_reducible (apply Blk.drew)))
  replace hu : Blk w1 w.heap.size 55 #[.int .i64 0, .int .i64 0, .bool false, .bool false, .int .i64 0, .int .i64 0, .bool false, .bool false, .int .i64 0, .int .i64 0, .bool false, .bool false] := hu
  replace hn := Blk.via0 (g := (w.heap.size + 1)) (t := 3) bB (by repeat (first | with_reducible exact hn | with_reducible (apply Blk.set_) | with_reducible (apply Blk.far; case hp => (simp <;> omega)) | with_reducible (apply Blk.alloc) | with_reducible (apply Blk.drew)))
  replace hn : Blk w1 (w.heap.size + 1) 3 #[.int .i64 0] := hn
  replace hB := Below.via (w := w) (by have hs_ := hB.size; repeat (first | with_reducible exact hB | with_reducible (refine Below.setCell ?_ (by simp <;> omega) _) | with_reducible (refine Below.alloc ?_ (by first | exact hs_ | (simp <;> omega)) _) | with_reducible (refine Below.drew ?_))) bB
  clear z1 z2
  clear bB
  have z3 := hu.lt
  have z4 := hn.lt
  go_wp2_with fail
  have R : Reads (w1.alloc (.cells #[.int .i64 0, .int .i64 15, .bool true, .bool false] 54)) (w1.alloc (.cells #[.int .i64 0, .int .i64 15, .bool true, .bool false] 54)).heap.size 4 (some ⟨w1.heap.size, 0, none⟩) 1 (usL [uRd]) := reads_blk2 (Blk.new w1 54 #[.int .i64 0, .int .i64 15, .bool true, .bool false]) 4 1 rfl
  clear z3 z4
  refine (set6_any w.heap.size (w.heap.size + 1) (by omega) _ 1 1 [uRd] [.int .i64 0, .int .i64 0, .bool false, .bool false, .int .i64 0, .int .i64 0, .bool false, .bool false, .int .i64 0, .int .i64 0, .bool false, .bool false] 0 (w1.alloc (.cells #[.int .i64 0, .int .i64 15, .bool true, .bool false] 54)) R rfl (by omega) rfl (hu.alloc _) (hn.alloc _)).mono ?_
  rintro e w9 ⟨rfl, hu9, hn9, ex⟩
  replace hB := hB.alloc hB.size (.cells #[.int .i64 0, .int .i64 15, .bool true, .bool false] 54)
  replace hB := hB.trans (ex.below hB.size (Nat.le_refl _) (by omega))
  clear R ex hu hn
  have hu : Blk w9 w.heap.size 55 #[.int .i64 0, .int .i64 15, .bool true, .bool false, .int .i64 0, .int .i64 0, .bool false, .bool false, .int .i64 0, .int .i64 0, .bool false, .bool false] := hu9
  have hn : Blk w9 (w.heap.size + 1) 3 #[.int .i64 1] := hn9
  clear hu9 hn9
  obtain ⟨z5, z6, z7, z8, z9, z10, z11, z12, z13, z14, z15, z16, z17, z18, z19, z20, z21, z22, z23, z24, z25, z26, z27, z28⟩ := hu.cf12
  obtain ⟨z29, z30⟩ := hn.cf1
  have z31 := hu.lt
  have z32 := hn.lt
  dsimp only
  repeat (first | with_reducible refine x_in_here ?_ | with_reducible refine x_in_pass (by decide) ?_ | with_reducible refine x_then_exit ?_ | with_reducible refine x_in_norm ?_ | with_reducible refine x_then_norm ?_ | go_values | go_skip | go_guarded | go_step | go_upon | go_back)
  refine code_name (fun x hx => ?_)
  have hu' : Blk x w.heap.size 55 #[.int .i64 0, .int .i64 15, .bool true, .bool false, .int .i64 0, .int .i64 0, .bool false, .bool false, .int .i64 0, .int .i64 0, .bool false, .bool false] := by
    obtain ⟨cs, h1, h2⟩ : ∃ cs, Blk x w.heap.size 55 cs ∧ cs = #[.int .i64 0, .int .i64 15, .bool true, .bool false, .int .i64 0, .int .i64 0, .bool false, .bool false, .int .i64 0, .int .i64 0, .bool false, .bool false] := by
      refine ⟨_, (by rw [hx]; exact (by repeat (first | with_reducible exact hu | with_reducible (apply Blk.set_) | with_reducible (apply Blk.far; case hp => (simp <;> omega)) | with_reducible (apply Blk.alloc) | with_reducible (apply Blk.drew)))), ?_⟩
      rfl
    rw [h2] at h1
    exact h1
  have hn' : Blk x (w.heap.size + 1) 3 #[.int .i64 1] := by
    obtain ⟨cs, h1, h2⟩ : ∃ cs, Blk x (w.heap.size + 1) 3 cs ∧ cs = #[.int .i64 1] := by
      refine ⟨_, (by rw [hx]; exact (by repeat (first | with_reducible exact hn | with_reducible (apply Blk.set_) | with_reducible (apply Blk.far; case hp => (simp <;> omega)) | with_reducible (apply Blk.alloc) | with_reducible (apply Blk.drew)))), ?_⟩
      rfl
    rw [h2] at h1
    exact h1
  have hB' : Below w.heap.size w x := by rw [hx]; exact (by have hs_ := hB.size; repeat (first | with_reducible exact hB | with_reducible (refine Below.setCell ?_ (by simp <;> omega) _) | with_reducible (refine Below.alloc ?_ (by first | exact hs_ | (simp <;> omega)) _) | with_reducible (refine Below.drew ?_)))
  clear hx
  clear z5 z6 z7 z8 z9 z10 z11 z12 z13 z14 z15 z16 z17 z18 z19 z20 z21 z22 z23 z24 z25 z26 z27 z28 z29 z30 z31 z32
  refine s_go (KeepS [(w.heap.size, 55, #[.int .i64 0, .int .i64 15, .bool true, .bool false, .int .i64 0, .int .i64 0, .bool false, .bool false, .int .i64 0, .int .i64 0, .bool false, .bool false]), ((w.heap.size + 1), 3, #[.int .i64 1])]) (by kernel_rfl) (fun hQ0 x9 b => ?_)
  have ku := hu'.below b hu'.lt
  have kn := hn'.below b hn'.lt
  have kB := hB'.trans (b.mono hB'.size)
  clear b hu' hn' hB'
  refine ⟨KeepS.cons ku (KeepS.cons kn (KeepS.nil _)), ?_⟩
  have hQ := And.intro hQ0 (KeepS.cons ku (KeepS.cons kn (KeepS.nil x9)))
  obtain ⟨X0, X1, X2, X3, X4, X5, X6, X7, X8, X9, X10, X11, X12⟩ := KeepS.cf12 (w.heap.size) (55) ((w.heap.size + 1)) (3) (.int .i64 0) (.int .i64 15) (.bool true) (.bool false) (.int .i64 0) (.int .i64 0) (.bool false) (.bool false) (.int .i64 0) (.int .i64 0) (.bool false) (.bool false) (.int .i64 1)
  refine s_take (i := 0) (oi := ?oia0) (v := ?va0) ?hia0 (by kernel_rfl) (by kernel_rfl) (by kernel_rfl) hQ ?hwa0 ?hya0 ?resta0
  case hia0 => simp only [List.getElem?_toArray, List.getElem?_cons_zero]; rfl
  case hwa0 => rfl
  case hya0 => intro W hW; go_simp; with_reducible rfl
  simp only [Act.put, List.setIfInBounds_toArray, List.set_cons_zero, List.set_cons_succ]
  refine s_take (i := 1) (oi := ?oia1) (v := ?va1) ?hia1 (by kernel_rfl) (by kernel_rfl) (by kernel_rfl) hQ ?hwa1 ?hya1 ?resta1
  case hia1 => simp only [List.getElem?_toArray, List.getElem?_cons_zero, List.getElem?_cons_succ]; rfl
  case hwa1 => rfl
  case hya1 => intro W hW; go_simp; with_reducible rfl
  simp only [Act.put, List.setIfInBounds_toArray, List.set_cons_zero, List.set_cons_succ]
  refine s_step (i := 2) (oi := ?oia2) (by kernel_rfl) ?hia2 ?hwa2 (fun K hK => ?_)
  case hia2 => simp only [List.getElem?_toArray, List.getElem?_cons_zero, List.getElem?_cons_succ]; rfl
  case hwa2 => rfl
  obtain ⟨y0, yf0, y1, yf1, y2, yf2, y3, yf3, y4, yf4, y5, yf5, y6, yf6, y7, yf7, y8, yf8, y9, yf9, y10, yf10, y11, yf11⟩ := ku.cf12; go_simp; obtain ⟨x8, e8, ku2, kn2, kB2⟩ := Blk.put12 ku kn kB (by omega) (Nat.le_refl _); rw [e8]; refine hK _ _ (KeepS.cons ku2 (KeepS.cons kn2 (KeepS.nil _))) ?_; clear e8
  try simp only [Act.put, List.setIfInBounds_toArray, List.set_cons_zero, List.set_cons_succ]
  refine s_step (i := 3) (oi := ?oia3) (by kernel_rfl) ?hia3 ?hwa3 (fun K hK => ?_)
  case hia3 => simp only [List.getElem?_toArray, List.getElem?_cons_zero, List.getElem?_cons_succ]; rfl
  case hwa3 => rfl
  obtain ⟨c0, f0⟩ := kn2.cf1; go_simp; have ku3 := Blk.far (p := ⟨(w.heap.size + 1), 0, none⟩) ku2 (by simp <;> omega) (.int .i64 1); have kn3 := kn2.set_ 0 (.int .i64 1); have kB3 := Below.setCell (p := ⟨(w.heap.size + 1), 0, none⟩) kB2 (by simp <;> omega) (.int .i64 1); refine hK _ _ (KeepS.cons ku3 (KeepS.cons kn3 (KeepS.nil _))) ?_; generalize (x8.setCell ⟨(w.heap.size + 1), 0, none⟩ (.int .i64 1)) = x7 at *; replace kn3 : Blk x7 (w.heap.size + 1) 3 #[.int .i64 1] := kn3
  try simp only [Act.put, List.setIfInBounds_toArray, List.set_cons_zero, List.set_cons_succ]
  refine wpAnyH_done (by kernel_rfl) ?_ _
  simp only [NoP]
  clear X0 X1 X2 X3 X4 X5 X6 X7 X8 X9 X10 X11 X12 hQ hQ0 ku ku2 kn kn2 kB kB2
  repeat (first | with_reducible refine x_in_here ?_ | with_reducible refine x_in_pass (by decide) ?_ | with_reducible refine x_then_exit ?_ | with_reducible refine x_in_norm ?_ | with_reducible refine x_then_norm ?_ | go_values | go_skip | go_guarded | go_step | go_upon | go_back)
  refine ret_ci rfl use3T Try.underlying3 rfl rfl ku3 (by rfl) rfl kn3 ?_
  exact ⟨rfl, kB3⟩

set_option maxRecDepth 100000 in
set_option maxHeartbeats 1600000 in
theorem shape_33 (w : World) :
    Calls Try.prog 21 #[.int .u8 33] w fun e w' => e = .returned (.tuple #[.agg (usL (shp 33).1).toArray, .int .i64 (shp 33).2]) ∧ Below w.heap.size w w' := by
  have hB : Below w.heap.size w ((w.alloc (.cells #[.int .i64 0, .int .i64 0, .bool false, .bool false, .int .i64 0, .int .i64 0, .bool false, .bool false, .int .i64 0, .int .i64 0, .bool false, .bool false] 55)).alloc (.cells #[.int .i64 0] 3)) := (Below.alloc (Below.alloc (Below.refl w.heap.size w) (by simp <;> omega) (.cells #[.int .i64 0, .int .i64 0, .bool false, .bool false, .int .i64 0, .int .i64 0, .bool false, .bool false, .int .i64 0, .int .i64 0, .bool false, .bool false] 55)) (by simp <;> omega) (.cells #[.int .i64 0] 3))
  have hu := Blk.new w 55 #[.int .i64 0, .int .i64 0, .bool false, .bool false, .int .i64 0, .int .i64 0, .bool false, .bool false, .int .i64 0, .int .i64 0, .bool false, .bool false]
  replace hu := hu.alloc (.cells #[.int .i64 0] 3)
  have hn := Blk.new (w.alloc (.cells #[.int .i64 0, .int .i64 0, .bool false, .bool false, .int .i64 0, .int .i64 0, .bool false, .bool false, .int .i64 0, .int .i64 0, .bool false, .bool false] 55)) 3 #[.int .i64 0]
  rw [show (w.alloc (.cells #[.int .i64 0, .int .i64 0, .bool false, .bool false, .int .i64 0, .int .i64 0, .bool false, .bool false, .int .i64 0, .int .i64 0, .bool false, .bool false] 55)).heap.size = w.heap.size + 1 from by simp] at hn
  go_enter Try.func21, Try.ntmps21
  obtain ⟨z1, z2, z3, z4, z5, z6, z7, z8, z9, z10, z11, z12, z13, z14, z15, z16, z17, z18, z19, z20, z21, z22, z23, z24⟩ := hu.cf12
  obtain ⟨z25, z26⟩ := hn.cf1
  have z27 := hu.lt
  have z28 := hn.lt
  repeat (first | with_reducible refine x_in_here ?_ | with_reducible refine x_in_pass (by decide) ?_ | with_reducible refine x_then_exit ?_ | with_reducible refine x_in_norm ?_ | with_reducible refine x_then_norm ?_ | go_values | go_skip | go_guarded | go_step | go_upon | go_back)
  (try go_wp2_with fail)
  refine (write6_any _).mono ?_
  rintro e w1 ⟨rfl, bB⟩
  replace hu := Blk.via0 (g := w.heap.size) (t := 55) bB (by repeat (first | with_reducible exact hu | with_reducible (apply Blk.set_) | with_reducible (apply Blk.far; case hp => (simp <;> omega)) | with_reducible (apply Blk.alloc) | with_reducible (apply Blk.drew)))
  replace hu : Blk w1 w.heap.size 55 #[.int .i64 0, .int .i64 0, .bool false, .bool false, .int .i64 0, .int .i64 0, .bool false, .bool false, .int .i64 0, .int .i64 0, .bool false, .bool false] := hu
  replace hn := Blk.via0 (g := (w.heap.size + 1)) (t := 3) bB (by repeat (first | with_reducible exact hn | with_reducible (apply Blk.set_) | with_reducible (apply Blk.far; case hp => (simp <;> omega)) | with_reducible (apply Blk.alloc) | with_reducible (apply Blk.drew)))
  replace hn : Blk w1 (w.heap.size + 1) 3 #[.int .i64 0] := hn
  replace hB := Below.via (w := w) (by have hs_ := hB.size; repeat (first | with_reducible exact hB | with_reducible (refine Below.setCell ?_ (by simp <;> omega) _) | with_reducible (refine Below.alloc ?_ (by first | exact hs_ | (simp <;> omega)) _) | with_reducible (refine Below.drew ?_))) bB
  clear z1 z2 z3 z4 z5 z6 z7 z8 z9 z10 z11 z12 z13 z14 z15 z16 z17 z18 z19 z20 z21 z22 z23 z24 z25 z26 z27 z28
  clear bB
  obtain ⟨z29, z30, z31, z32, z33, z34, z35, z36, z37, z38, z39, z40, z41, z42, z43, z44, z45, z46, z47, z48, z49, z50, z51, z52⟩ := hu.cf12
  obtain ⟨z53, z54⟩ := hn.cf1
  have z55 := hu.lt
  have z56 := hn.lt
  go_wp2_with fail
  refine (read6_any _).mono ?_
  rintro e w2 ⟨rfl, bB⟩
  replace hu := Blk.via0 (g := w.heap.size) (t := 55) bB (by repeat (first | with_reducible exact hu | with_reducible (apply Blk.set_) | with_reducible (apply Blk.far; case hp => (simp <;> omega)) | with_reducible (apply Blk.alloc) | with_reducible (apply Blk.drew)))
  replace hu : Blk w2 w.heap.size 55 #[.int .i64 0, .int .i64 0, .bool false, .bool false, .int .i64 0, .int .i64 0, .bool false, .bool false, .int .i64 0, .int .i64 0, .bool false, .bool false] := hu
  replace hn := Blk.via0 (g := (w.heap.size + 1)) (t := 3) bB (by repeat (first | with_reducible exact hn | with_reducible (apply Blk.set_) | with_reducible (apply Blk.far; case hp => (simp <;> omega)) | with_reducible (apply Blk.alloc) | with_reducible (apply Blk.drew)))
  replace hn : Blk w2 (w.heap.size + 1) 3 #[.int .i64 0] := hn
  replace hB := Below.via (w := w) (by have hs_ := hB.size; repeat (first | with_reducible exact hB | with_reducible (refine Below.setCell ?_ (by simp <;> omega) _) | with_reducible (refine Below.alloc ?_ (by first | exact hs_ | (simp <;> omega)) _) | with_reducible (refine Below.drew ?_))) bB
  clear z29 z30 z31 z32 z33 z34 z35 z36 z37 z38 z39 z40 z41 z42 z43 z44 z45 z46 z47 z48 z49 z50 z51 z52 z53 z54 z55 z56
  clear bB
  obtain ⟨z57, z58, z59, z60, z61, z62, z63, z64, z65, z66, z67, z68, z69, z70, z71, z72, z73, z74, z75, z76, z77, z78, z79, z80⟩ := hu.cf12
  obtain ⟨z81, z82⟩ := hn.cf1
  have z83 := hu.lt
  have z84 := hn.lt
  dsimp only
  repeat (first | with_reducible refine x_in_here ?_ | with_reducible refine x_in_pass (by decide) ?_ | with_reducible refine x_then_exit ?_ | with_reducible refine x_in_norm ?_ | with_reducible refine x_then_norm ?_ | go_values | go_skip | go_guarded | go_step | go_upon | go_back)
  refine code_name (fun x hx => ?_)
  have hu' : Blk x w.heap.size 55 #[.int .i64 0, .int .i64 15, .bool false, .bool true, .int .i64 0, .int .i64 15, .bool true, .bool false, .int .i64 0, .int .i64 0, .bool false, .bool false] := by
    obtain ⟨cs, h1, h2⟩ : ∃ cs, Blk x w.heap.size 55 cs ∧ cs = #[.int .i64 0, .int .i64 15, .bool false, .bool true, .int .i64 0, .int .i64 15, .bool true, .bool false, .int .i64 0, .int .i64 0, .bool false, .bool false] := by
      refine ⟨_, (by rw [hx]; exact (by repeat (first | with_reducible exact hu | with_reducible (apply Blk.set_) | with_reducible (apply Blk.far; case hp => (simp <;> omega)) | with_reducible (apply Blk.alloc) | with_reducible (apply Blk.drew)))), ?_⟩
      rfl
    rw [h2] at h1
    exact h1
  have hn' : Blk x (w.heap.size + 1) 3 #[.int .i64 2] := by
    obtain ⟨cs, h1, h2⟩ : ∃ cs, Blk x (w.heap.size + 1) 3 cs ∧ cs = #[.int .i64 2] := by
      refine ⟨_, (by rw [hx]; exact (by repeat (first | with_reducible exact hn | with_reducible (apply Blk.set_) | with_reducible (apply Blk.far; case hp => (simp <;> omega)) | with_reducible (apply Blk.alloc) | with_reducible (apply Blk.drew)))), ?_⟩
      rfl
    rw [h2] at h1
    exact h1
  have hB' : Below w.heap.size w x := by rw [hx]; exact (by have hs_ := hB.size; repeat (first | with_reducible exact hB | with_reducible (refine Below.setCell ?_ (by simp <;> omega) _) | with_reducible (refine Below.alloc ?_ (by first | exact hs_ | (simp <;> omega)) _) | with_reducible (refine Below.drew ?_)))
  clear hx
  clear z57 z58 z59 z60 z61 z62 z63 z64 z65 z66 z67 z68 z69 z70 z71 z72 z73 z74 z75 z76 z77 z78 z79 z80 z81 z82 z83 z84
  refine s_go (KeepS [(w.heap.size, 55, #[.int .i64 0, .int .i64 15, .bool false, .bool true, .int .i64 0, .int .i64 15, .bool true, .bool false, .int .i64 0, .int .i64 0, .bool false, .bool false]), ((w.heap.size + 1), 3, #[.int .i64 2])]) (by kernel_rfl) (fun hQ0 x9 b => ?_)
  have ku := hu'.below b hu'.lt
  have kn := hn'.below b hn'.lt
  have kB := hB'.trans (b.mono hB'.size)
  clear b hu' hn' hB'
  refine ⟨KeepS.cons ku (KeepS.cons kn (KeepS.nil _)), ?_⟩
  have hQ := And.intro hQ0 (KeepS.cons ku (KeepS.cons kn (KeepS.nil x9)))
  obtain ⟨X0, X1, X2, X3, X4, X5, X6, X7, X8, X9, X10, X11, X12⟩ := KeepS.cf12 (w.heap.size) (55) ((w.heap.size + 1)) (3) (.int .i64 0) (.int .i64 15) (.bool false) (.bool true) (.int .i64 0) (.int .i64 15) (.bool true) (.bool false) (.int .i64 0) (.int .i64 0) (.bool false) (.bool false) (.int .i64 2)
  refine s_take (i := 0) (oi := ?oia0) (v := ?va0) ?hia0 (by kernel_rfl) (by kernel_rfl) (by kernel_rfl) hQ ?hwa0 ?hya0 ?resta0
  case hia0 => simp only [List.getElem?_toArray, List.getElem?_cons_zero]; rfl
  case hwa0 => rfl
  case hya0 => intro W hW; go_simp; with_reducible rfl
  simp only [Act.put, List.setIfInBounds_toArray, List.set_cons_zero, List.set_cons_succ]
  refine s_take (i := 1) (oi := ?oia1) (v := ?va1) ?hia1 (by kernel_rfl) (by kernel_rfl) (by kernel_rfl) hQ ?hwa1 ?hya1 ?resta1
  case hia1 => simp only [List.getElem?_toArray, List.getElem?_cons_zero, List.getElem?_cons_succ]; rfl
  case hwa1 => rfl
  case hya1 => intro W hW; go_simp; with_reducible rfl
  simp only [Act.put, List.setIfInBounds_toArray, List.set_cons_zero, List.set_cons_succ]
  refine s_step (i := 2) (oi := ?oia2) (by kernel_rfl) ?hia2 ?hwa2 (fun K hK => ?_)
  case hia2 => simp only [List.getElem?_toArray, List.getElem?_cons_zero, List.getElem?_cons_succ]; rfl
  case hwa2 => rfl
  obtain ⟨y0, yf0, y1, yf1, y2, yf2, y3, yf3, y4, yf4, y5, yf5, y6, yf6, y7, yf7, y8, yf8, y9, yf9, y10, yf10, y11, yf11⟩ := ku.cf12; go_simp; obtain ⟨x8, e8, ku2, kn2, kB2⟩ := Blk.put12 ku kn kB (by omega) (Nat.le_refl _); rw [e8]; refine hK _ _ (KeepS.cons ku2 (KeepS.cons kn2 (KeepS.nil _))) ?_; clear e8
  try simp only [Act.put, List.setIfInBounds_toArray, List.set_cons_zero, List.set_cons_succ]
  refine s_step (i := 3) (oi := ?oia3) (by kernel_rfl) ?hia3 ?hwa3 (fun K hK => ?_)
  case hia3 => simp only [List.getElem?_toArray, List.getElem?_cons_zero, List.getElem?_cons_succ]; rfl
  case hwa3 => rfl
  obtain ⟨c0, f0⟩ := kn2.cf1; go_simp; have ku3 := Blk.far (p := ⟨(w.heap.size + 1), 0, none⟩) ku2 (by simp <;> omega) (.int .i64 2); have kn3 := kn2.set_ 0 (.int .i64 2); have kB3 := Below.setCell (p := ⟨(w.heap.size + 1), 0, none⟩) kB2 (by simp <;> omega) (.int .i64 2); refine hK _ _ (KeepS.cons ku3 (KeepS.cons kn3 (KeepS.nil _))) ?_; generalize (x8.setCell ⟨(w.heap.size + 1), 0, none⟩ (.int .i64 2)) = x7 at *; replace kn3 : Blk x7 (w.heap.size + 1) 3 #[.int .i64 2] := kn3
  try simp only [Act.put, List.setIfInBounds_toArray, List.set_cons_zero, List.set_cons_succ]
  refine wpAnyH_done (by kernel_rfl) ?_ _
  simp only [NoP]
  clear X0 X1 X2 X3 X4 X5 X6 X7 X8 X9 X10 X11 X12 hQ hQ0 ku ku2 kn kn2 kB kB2
  repeat (first | with_reducible refine x_in_here ?_ | with_reducible refine x_in_pass (by decide) ?_ | with_reducible refine x_then_exit ?_ | with_reducible refine x_in_norm ?_ | with_reducible refine x_then_norm ?_ | go_values | go_skip | go_guarded | go_step | go_upon | go_back)
  refine ret_ci rfl use3T Try.underlying3 rfl rfl ku3 (by rfl) rfl kn3 ?_
  exact ⟨rfl, kB3⟩

set_option maxRecDepth 100000 in
set_option maxHeartbeats 1600000 in
theorem shape_34 (w : World) :
    Calls Try.prog 21 #[.int .u8 34] w fun e w' => e = .returned (.tuple #[.agg (usL (shp 34).1).toArray, .int .i64 (shp 34).2]) ∧ Below w.heap.size w w' := by
  have hB : Below w.heap.size w ((w.alloc (.cells #[.int .i64 0, .int .i64 0, .bool false, .bool false, .int .i64 0, .int .i64 0, .bool false, .bool false, .int .i64 0, .int .i64 0, .bool false, .bool false] 55)).alloc (.cells #[.int .i64 0] 3)) := (Below.alloc (Below.alloc (Below.refl w.heap.size w) (by simp <;> omega) (.cells #[.int .i64 0, .int .i64 0, .bool false, .bool false, .int .i64 0, .int .i64 0, .bool false, .bool false, .int .i64 0, .int .i64 0, .bool false, .bool false] 55)) (by simp <;> omega) (.cells #[.int .i64 0] 3))
  have hu := Blk.new w 55 #[.int .i64 0, .int .i64 0, .bool false, .bool false, .int .i64 0, .int .i64 0, .bool false, .bool false, .int .i64 0, .int .i64 0, .bool false, .bool false]
  replace hu := hu.alloc (.cells #[.int .i64 0] 3)
  have hn := Blk.new (w.alloc (.cells #[.int .i64 0, .int .i64 0, .bool false, .bool false, .int .i64 0, .int .i64 0, .bool false, .bool false, .int .i64 0, .int .i64 0, .bool false, .bool false] 55)) 3 #[.int .i64 0]
  rw [show (w.alloc (.cells #[.int .i64 0, .int .i64 0, .bool false, .bool false, .int .i64 0, .int .i64 0, .bool false, .bool false, .int .i64 0, .int .i64 0, .bool false, .bool false] 55)).heap.size = w.heap.size + 1 from by simp] at hn
  go_enter Try.func21, Try.ntmps21
  have z1 := hu.lt
  have z2 := hn.lt
  repeat (first | with_reducible refine x_in_here ?_ | with_reducible refine x_in_pass (by decide) ?_ | with_reducible refine x_then_exit ?_ | with_reducible refine x_in_norm ?_ | with_reducible refine x_then_norm ?_ | go_values | go_skip | go_guarded | go_step | go_upon | go_back)
  (try go_wp2_with fail)
  refine (read6_any _).mono ?_
  rintro e w1 ⟨rfl, bB⟩
  replace hu := Blk.via0 (g := w.heap.size) (t := 55) bB (by repeat (first | with_reducible exact hu | with_reducible (apply Blk.set_) | with_reducible (apply Blk.far; case hp => (simp <;> omega)) | with_reducible (apply Blk.alloc) | with_reducible (apply Blk.drew)))
  replace hu : Blk w1 w.heap.size 55 #[.int .i64 0, .int .i64 0, .bool false, .bool false, .int .i64 0, .int .i64 0, .bool false, .bool false, .int .i64 0, .int .i64 0, .bool false, .bool false] := hu
  replace hn := Blk.via0 (g := (w.heap.size + 1)) (t := 3) bB (by repeat (first | with_reducible exact hn | with_reducible (apply Blk.set_) | with_reducible (apply Blk.far; case hp => (simp <;> omega)) | with_reducible (apply Blk.alloc) | with_reducible (apply Blk.drew)))
  replace hn : Blk w1 (w.heap.size + 1) 3 #[.int .i64 0] := hn
  replace hB := Below.via (w := w) (by have hs_ := hB.size; repeat (first | with_reducible exact hB | with_reducible (refine Below.setCell ?_ (by simp <;> omega) _) | with_reducible (refine Below.alloc ?_ (by first | exact hs_ | (simp <;> omega)) _) | with_reducible (refine Below.drew ?_))) bB
  clear z1 z2
  clear bB
  have z3 := hu.lt
  have z4 := hn.lt
  go_wp2_with fail
  have R : Reads (w1.alloc (.cells #[.int .i64 0, .int .i64 15, .bool true, .bool false] 54)) (w1.alloc (.cells #[.int .i64 0, .int .i64 15, .bool true, .bool false] 54)).heap.size 4 (some ⟨w1.heap.size, 0, none⟩) 1 (usL [uRd]) := reads_blk2 (Blk.new w1 54 #[.int .i64 0, .int .i64 15, .bool true, .bool false]) 4 1 rfl
  clear z3 z4
  refine (set6_any w.heap.size (w.heap.size + 1) (by omega) _ 1 1 [uRd] [.int .i64 0, .int .i64 0, .bool false, .bool false, .int .i64 0, .int .i64 0, .bool false, .bool false, .int .i64 0, .int .i64 0, .bool false, .bool false] 0 (w1.alloc (.cells #[.int .i64 0, .int .i64 15, .bool true, .bool false] 54)) R rfl (by omega) rfl (hu.alloc _) (hn.alloc _)).mono ?_
  rintro e w9 ⟨rfl, hu9, hn9, ex⟩
  replace hB := hB.alloc hB.size (.cells #[.int .i64 0, .int .i64 15, .bool true, .bool false] 54)
  replace hB := hB.trans (ex.below hB.size (Nat.le_refl _) (by omega))
  clear R ex hu hn
  have hu : Blk w9 w.heap.size 55 #[.int .i64 0, .int .i64 15, .bool true, .bool false, .int .i64 0, .int .i64 0, .bool false, .bool false, .int .i64 0, .int .i64 0, .bool false, .bool false] := hu9
  have hn : Blk w9 (w.heap.size + 1) 3 #[.int .i64 1] := hn9
  clear hu9 hn9
  obtain ⟨z5, z6, z7, z8, z9, z10, z11, z12, z13, z14, z15, z16, z17, z18, z19, z20, z21, z22, z23, z24, z25, z26, z27, z28⟩ := hu.cf12
  obtain ⟨z29, z30⟩ := hn.cf1
  have z31 := hu.lt
  have z32 := hn.lt
  dsimp only
  repeat (first | with_reducible refine x_in_here ?_ | with_reducible refine x_in_pass (by decide) ?_ | with_reducible refine x_then_exit ?_ | with_reducible refine x_in_norm ?_ | with_reducible refine x_then_norm ?_ | go_values | go_skip | go_guarded | go_step | go_upon | go_back)
  refine code_name (fun x hx => ?_)
  have hu' : Blk x w.heap.size 55 #[.int .i64 (-1), .int .i64 15, .bool true, .bool false, .int .i64 0, .int .i64 0, .bool false, .bool false, .int .i64 0, .int .i64 0, .bool false, .bool false] := by
    obtain ⟨cs, h1, h2⟩ : ∃ cs, Blk x w.heap.size 55 cs ∧ cs = #[.int .i64 (-1), .int .i64 15, .bool true, .bool false, .int .i64 0, .int .i64 0, .bool false, .bool false, .int .i64 0, .int .i64 0, .bool false, .bool false] := by
      refine ⟨_, (by rw [hx]; exact (by repeat (first | with_reducible exact hu | with_reducible (apply Blk.set_) | with_reducible (apply Blk.far; case hp => (simp <;> omega)) | with_reducible (apply Blk.alloc) | with_reducible (apply Blk.drew)))), ?_⟩
      rfl
    rw [h2] at h1
    exact h1
  have hn' : Blk x (w.heap.size + 1) 3 #[.int .i64 1] := by
    obtain ⟨cs, h1, h2⟩ : ∃ cs, Blk x (w.heap.size + 1) 3 cs ∧ cs = #[.int .i64 1] := by
      refine ⟨_, (by rw [hx]; exact (by repeat (first | with_reducible exact hn | with_reducible (apply Blk.set_) | with_reducible (apply Blk.far; case hp => (simp <;> omega)) | with_reducible (apply Blk.alloc) | with_reducible (apply Blk.drew)))), ?_⟩
      rfl
    rw [h2] at h1
    exact h1
  have hB' : Below w.heap.size w x := by rw [hx]; exact (by have hs_ := hB.size; repeat (first | with_reducible exact hB | with_reducible (refine Below.setCell ?_ (by simp <;> omega) _) | with_reducible (refine Below.alloc ?_ (by first | exact hs_ | (simp <;> omega)) _) | with_reducible (refine Below.drew ?_)))
  clear hx
  clear z5 z6 z7 z8 z9 z10 z11 z12 z13 z14 z15 z16 z17 z18 z19 z20 z21 z22 z23 z24 z25 z26 z27 z28 z29 z30 z31 z32
  refine s_go (KeepS [(w.heap.size, 55, #[.int .i64 (-1), .int .i64 15, .bool true, .bool false, .int .i64 0, .int .i64 0, .bool false, .bool false, .int .i64 0, .int .i64 0, .bool false, .bool false]), ((w.heap.size + 1), 3, #[.int .i64 1])]) (by kernel_rfl) (fun hQ0 x9 b => ?_)
  have ku := hu'.below b hu'.lt
  have kn := hn'.below b hn'.lt
  have kB := hB'.trans (b.mono hB'.size)
  clear b hu' hn' hB'
  refine ⟨KeepS.cons ku (KeepS.cons kn (KeepS.nil _)), ?_⟩
  have hQ := And.intro hQ0 (KeepS.cons ku (KeepS.cons kn (KeepS.nil x9)))
  obtain ⟨X0, X1, X2, X3, X4, X5, X6, X7, X8, X9, X10, X11, X12⟩ := KeepS.cf12 (w.heap.size) (55) ((w.heap.size + 1)) (3) (.int .i64 (-1)) (.int .i64 15) (.bool true) (.bool false) (.int .i64 0) (.int .i64 0) (.bool false) (.bool false) (.int .i64 0) (.int .i64 0) (.bool false) (.bool false) (.int .i64 1)
  refine s_take (i := 0) (oi := ?oia0) (v := ?va0) ?hia0 (by kernel_rfl) (by kernel_rfl) (by kernel_rfl) hQ ?hwa0 ?hya0 ?resta0
  case hia0 => simp only [List.getElem?_toArray, List.getElem?_cons_zero]; rfl
  case hwa0 => rfl
  case hya0 => intro W hW; go_simp; with_reducible rfl
  simp only [Act.put, List.setIfInBounds_toArray, List.set_cons_zero, List.set_cons_succ]
  refine s_take (i := 1) (oi := ?oia1) (v := ?va1) ?hia1 (by kernel_rfl) (by kernel_rfl) (by kernel_rfl) hQ ?hwa1 ?hya1 ?resta1
  case hia1 => simp only [List.getElem?_toArray, List.getElem?_cons_zero, List.getElem?_cons_succ]; rfl
  case hwa1 => rfl
  case hya1 => intro W hW; go_simp; with_reducible rfl
  simp only [Act.put, List.setIfInBounds_toArray, List.set_cons_zero, List.set_cons_succ]
  refine s_step (i := 2) (oi := ?oia2) (by kernel_rfl) ?hia2 ?hwa2 (fun K hK => ?_)
  case hia2 => simp only [List.getElem?_toArray, List.getElem?_cons_zero, List.getElem?_cons_succ]; rfl
  case hwa2 => rfl
  obtain ⟨y0, yf0, y1, yf1, y2, yf2, y3, yf3, y4, yf4, y5, yf5, y6, yf6, y7, yf7, y8, yf8, y9, yf9, y10, yf10, y11, yf11⟩ := ku.cf12; go_simp; obtain ⟨x8, e8, ku2, kn2, kB2⟩ := Blk.put12 ku kn kB (by omega) (Nat.le_refl _); rw [e8]; refine hK _ _ (KeepS.cons ku2 (KeepS.cons kn2 (KeepS.nil _))) ?_; clear e8
  try simp only [Act.put, List.setIfInBounds_toArray, List.set_cons_zero, List.set_cons_succ]
  refine s_step (i := 3) (oi := ?oia3) (by kernel_rfl) ?hia3 ?hwa3 (fun K hK => ?_)
  case hia3 => simp only [List.getElem?_toArray, List.getElem?_cons_zero, List.getElem?_cons_succ]; rfl
  case hwa3 => rfl
  obtain ⟨c0, f0⟩ := kn2.cf1; go_simp; have ku3 := Blk.far (p := ⟨(w.heap.size + 1), 0, none⟩) ku2 (by simp <;> omega) (.int .i64 1); have kn3 := kn2.set_ 0 (.int .i64 1); have kB3 := Below.setCell (p := ⟨(w.heap.size + 1), 0, none⟩) kB2 (by simp <;> omega) (.int .i64 1); refine hK _ _ (KeepS.cons ku3 (KeepS.cons kn3 (KeepS.nil _))) ?_; generalize (x8.setCell ⟨(w.heap.size + 1), 0, none⟩ (.int .i64 1)) = x7 at *; replace kn3 : Blk x7 (w.heap.size + 1) 3 #[.int .i64 1] := kn3
  try simp only [Act.put, List.setIfInBounds_toArray, List.set_cons_zero, List.set_cons_succ]
  refine wpAnyH_done (by kernel_rfl) ?_ _
  simp only [NoP]
  clear X0 X1 X2 X3 X4 X5 X6 X7 X8 X9 X10 X11 X12 hQ hQ0 ku ku2 kn kn2 kB kB2
  repeat (first | with_reducible refine x_in_here ?_ | with_reducible refine x_in_pass (by decide) ?_ | with_reducible refine x_then_exit ?_ | with_reducible refine x_in_norm ?_ | with_reducible refine x_then_norm ?_ | go_values | go_skip | go_guarded | go_step | go_upon | go_back)
  refine ret_ci rfl use3T Try.underlying3 rfl rfl ku3 (by rfl) rfl kn3 ?_
  exact ⟨rfl, kB3⟩

set_option maxRecDepth 100000 in
set_option maxHeartbeats 1600000 in
theorem shape_d (op : Nat) (hop : 35 ≤ op ∧ op < 256) (w : World) :
    Calls Try.prog 21 #[.int .u8 (op : Int)] w fun e w' => e = .returned (.tuple #[.agg (usL [uNo, uNo, uNo]).toArray, .int .i64 (-1)]) ∧ Below w.heap.size w w' := by
  have d1 : ((op : Int) == 1) = false := by simp; omega
  have d2 : ((op : Int) == 2) = false := by simp; omega
  have d3 : ((op : Int) == 3) = false := by simp; omega
  have d4 : ((op : Int) == 4) = false := by simp; omega
  have d5 : ((op : Int) == 5) = false := by simp; omega
  have d6 : ((op : Int) == 6) = false := by simp; omega
  have d7 : ((op : Int) == 7) = false := by simp; omega
  have d8 : ((op : Int) == 8) = false := by simp; omega
  have d9 : ((op : Int) == 9) = false := by simp; omega
  have d10 : ((op : Int) == 10) = false := by simp; omega
  have d11 : ((op : Int) == 11) = false := by simp; omega
  have d12 : ((op : Int) == 12) = false := by simp; omega
  have d13 : ((op : Int) == 13) = false := by simp; omega
  have d14 : ((op : Int) == 14) = false := by simp; omega
  have d15 : ((op : Int) == 15) = false := by simp; omega
  have d16 : ((op : Int) == 16) = false := by simp; omega
  have d17 : ((op : Int) == 17) = false := by simp; omega
  have d18 : ((op : Int) == 18) = false := by simp; omega
  have d19 : ((op : Int) == 19) = false := by simp; omega
  have d20 : ((op : Int) == 20) = false := by simp; omega
  have d21 : ((op : Int) == 21) = false := by simp; omega
  have d22 : ((op : Int) == 22) = false := by simp; omega
  have d23 : ((op : Int) == 23) = false := by simp; omega
  have d24 : ((op : Int) == 24) = false := by simp; omega
  have d25 : ((op : Int) == 25) = false := by simp; omega
  have d26 : ((op : Int) == 26) = false := by simp; omega
  have d27 : ((op : Int) == 27) = false := by simp; omega
  have d28 : ((op : Int) == 28) = false := by simp; omega
  have d29 : ((op : Int) == 29) = false := by simp; omega
  have d30 : ((op : Int) == 30) = false := by simp; omega
  have d31 : ((op : Int) == 31) = false := by simp; omega
  have d32 : ((op : Int) == 32) = false := by simp; omega
  have d33 : ((op : Int) == 33) = false := by simp; omega
  have d34 : ((op : Int) == 34) = false := by simp; omega
  go_enter Try.func21, Try.ntmps21
  repeat (first | with_reducible refine x_in_here ?_ | with_reducible refine x_in_pass (by decide) ?_ | with_reducible refine x_then_exit ?_ | with_reducible refine x_in_norm ?_ | with_reducible refine x_then_norm ?_ | go_values | go_skip | go_guarded | go_step | go_upon | go_back)
  refine code_name (fun x hx => ?_)
  have hu' : Blk x w.heap.size 55 #[.int .i64 0, .int .i64 0, .bool false, .bool false, .int .i64 0, .int .i64 0, .bool false, .bool false, .int .i64 0, .int .i64 0, .bool false, .bool false] := by
    obtain ⟨cs, h1, h2⟩ : ∃ cs, Blk x w.heap.size 55 cs ∧ cs = #[.int .i64 0, .int .i64 0, .bool false, .bool false, .int .i64 0, .int .i64 0, .bool false, .bool false, .int .i64 0, .int .i64 0, .bool false, .bool false] := by
      refine ⟨_, (by rw [hx]; exact (Blk.alloc (Blk.new _ _ _) _)), ?_⟩
      rfl
    rw [h2] at h1
    exact h1
  have hn' : Blk x (w.heap.size + 1) 3 #[.int .i64 (-1)] := by
    obtain ⟨cs, h1, h2⟩ : ∃ cs, Blk x (w.heap.size + 1) 3 cs ∧ cs = #[.int .i64 (-1)] := by
      refine ⟨_, (by rw [hx]; exact (Blk.newAt (by simp) _ _)), ?_⟩
      rfl
    rw [h2] at h1
    exact h1
  have hB' : Below w.heap.size w x := by rw [hx]; exact ((Below.refl _ _).alloc (Nat.le_refl _) _).alloc (by simp) _
  clear hx
  refine s_go (KeepS [(w.heap.size, 55, #[.int .i64 0, .int .i64 0, .bool false, .bool false, .int .i64 0, .int .i64 0, .bool false, .bool false, .int .i64 0, .int .i64 0, .bool false, .bool false]), ((w.heap.size + 1), 3, #[.int .i64 (-1)])]) (by kernel_rfl) (fun hQ0 x9 b => ?_)
  have ku := hu'.below b hu'.lt
  have kn := hn'.below b hn'.lt
  have kB := hB'.trans (b.mono hB'.size)
  clear b hu' hn' hB'
  refine ⟨KeepS.cons ku (KeepS.cons kn (KeepS.nil _)), ?_⟩
  have hQ := And.intro hQ0 (KeepS.cons ku (KeepS.cons kn (KeepS.nil x9)))
  obtain ⟨X0, X1, X2, X3, X4, X5, X6, X7, X8, X9, X10, X11, X12⟩ := KeepS.cf12 (w.heap.size) (55) ((w.heap.size + 1)) (3) (.int .i64 0) (.int .i64 0) (.bool false) (.bool false) (.int .i64 0) (.int .i64 0) (.bool false) (.bool false) (.int .i64 0) (.int .i64 0) (.bool false) (.bool false) (.int .i64 (-1))
  refine s_take (i := 0) (oi := ?oia0) (v := ?va0) ?hia0 (by kernel_rfl) (by kernel_rfl) (by kernel_rfl) hQ ?hwa0 ?hya0 ?resta0
  case hia0 => simp only [List.getElem?_toArray, List.getElem?_cons_zero]; rfl
  case hwa0 => rfl
  case hya0 => intro W hW; go_simp; with_reducible rfl
  simp only [Act.put, List.setIfInBounds_toArray, List.set_cons_zero, List.set_cons_succ]
  refine s_take (i := 1) (oi := ?oia1) (v := ?va1) ?hia1 (by kernel_rfl) (by kernel_rfl) (by kernel_rfl) hQ ?hwa1 ?hya1 ?resta1
  case hia1 => simp only [List.getElem?_toArray, List.getElem?_cons_zero, List.getElem?_cons_succ]; rfl
  case hwa1 => rfl
  case hya1 => intro W hW; go_simp; with_reducible rfl
  simp only [Act.put, List.setIfInBounds_toArray, List.set_cons_zero, List.set_cons_succ]
  refine s_step (i := 2) (oi := ?oia2) (by kernel_rfl) ?hia2 ?hwa2 (fun K hK => ?_)
  case hia2 => simp only [List.getElem?_toArray, List.getElem?_cons_zero, List.getElem?_cons_succ]; rfl
  case hwa2 => rfl
  obtain ⟨y0, yf0, y1, yf1, y2, yf2, y3, yf3, y4, yf4, y5, yf5, y6, yf6, y7, yf7, y8, yf8, y9, yf9, y10, yf10, y11, yf11⟩ := ku.cf12; go_simp; obtain ⟨x8, e8, ku2, kn2, kB2⟩ := Blk.put12 ku kn kB (by omega) (Nat.le_refl _); rw [e8]; refine hK _ _ (KeepS.cons ku2 (KeepS.cons kn2 (KeepS.nil _))) ?_; clear e8
  try simp only [Act.put, List.setIfInBounds_toArray, List.set_cons_zero, List.set_cons_succ]
  refine s_step (i := 3) (oi := ?oia3) (by kernel_rfl) ?hia3 ?hwa3 (fun K hK => ?_)
  case hia3 => simp only [List.getElem?_toArray, List.getElem?_cons_zero, List.getElem?_cons_succ]; rfl
  case hwa3 => rfl
  obtain ⟨c0, f0⟩ := kn2.cf1; go_simp; have ku3 := Blk.far (p := ⟨(w.heap.size + 1), 0, none⟩) ku2 (by simp <;> omega) (.int .i64 (-1)); have kn3 := kn2.set_ 0 (.int .i64 (-1)); have kB3 := Below.setCell (p := ⟨(w.heap.size + 1), 0, none⟩) kB2 (by simp <;> omega) (.int .i64 (-1)); refine hK _ _ (KeepS.cons ku3 (KeepS.cons kn3 (KeepS.nil _))) ?_; generalize (x8.setCell ⟨(w.heap.size + 1), 0, none⟩ (.int .i64 (-1))) = x7 at *; replace kn3 : Blk x7 (w.heap.size + 1) 3 #[.int .i64 (-1)] := kn3
  try simp only [Act.put, List.setIfInBounds_toArray, List.set_cons_zero, List.set_cons_succ]
  refine wpAnyH_done (by kernel_rfl) ?_ _
  simp only [NoP]
  clear X0 X1 X2 X3 X4 X5 X6 X7 X8 X9 X10 X11 X12 hQ hQ0 ku ku2 kn kn2 kB kB2
  repeat (first | with_reducible refine x_in_here ?_ | with_reducible refine x_in_pass (by decide) ?_ | with_reducible refine x_then_exit ?_ | with_reducible refine x_in_norm ?_ | with_reducible refine x_then_norm ?_ | go_values | go_skip | go_guarded | go_step | go_upon | go_back)
  refine ret_ci rfl use3T Try.underlying3 rfl rfl ku3 (by rfl) rfl kn3 ?_
  exact ⟨rfl, kB3⟩

end Go.Proofs.Ytkhdeoihjnpnaaa
