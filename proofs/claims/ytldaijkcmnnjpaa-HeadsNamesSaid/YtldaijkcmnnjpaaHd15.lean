/- Contracts and laws of a chapter that its statement of names leans on. Each states its conditions. -/
import Derived.Test.YtldaijkcmnnjpaaHdOpen
namespace Go.Proofs.Ytldaijkcmnnjpaa
open Go.RowKit Wire
set_option linter.unusedVariables false
theorem rtT27 : AggT Try.prog 94 6 := ⟨⟨_, Try.underlying94, rfl⟩, by kernel_rfl⟩
theorem reads_blk {w : World} {g : Nat} {t : TypeId} {cs : Array Value} (h : Blk w g t cs) (size n : Nat) (hn : cs.size = n * size) : Reads w w.heap.size size (some ⟨g, 0, none⟩) n cs.toList := by
  refine ⟨by simpa using hn, fun _ => ⟨_, rfl, h.lt, fun j u hu => ?_⟩⟩
  have hadd : (⟨g, 0, none⟩ : Addr).add j = ⟨g, j, none⟩ := by unfold Addr.add; split <;> simp_all
  rw [hadd, h.cell j]
  simpa using hu
theorem rdC_two {w : World} {g p : Nat} (h : Blk w g 62 #[.slice none 0 0, .slice (some ⟨p, 0, none⟩) 2 2]) (h2 : Blk w p 55 #[.int .u64 65536, .int .u64 65576]) : RdC w (some ⟨g, 0, none⟩) 2 [[], [65536, 65576]] := by
  refine ⟨rfl, _, reads_blk h 1 2 rfl, fun k li hk => ?_⟩
  rcases k with _ | _ | k
  · simp at hk
    subst hk
    exact ⟨none, 0, rfl, by simp, Reads.none_, by simp⟩
  · simp at hk
    subst hk
    exact ⟨some ⟨p, 0, none⟩, 2, rfl, by simp, reads_blk h2 1 2 rfl, by intro x hx; simp at hx; omega⟩
  · simp at hk
set_option maxRecDepth 100000 in
set_option maxHeartbeats 1600000 in
theorem done_any (g : Nat) (w : World) (hg : g ≤ 1000000) :
    Calls Try.prog 43 #[.int .i64 (g : Int)] w fun e w' => e = .returned (.agg #[.int .u8 3, .int .u64 0, .int .u64 ((16777216 * (g + 1) : Nat) : Int), .int .u64 0, .int .u64 0, .int .i64 0]) ∧ Below w.heap.size w w' := by
  obtain ⟨bs, hbs⟩ : ∃ bs, 16777216 * (g + 1) = bs := ⟨_, rfl⟩
  rw [hbs]
  have HG := Lib.hid hbs
  clear hbs
  have hB : Below w.heap.size w (w.alloc (.cells #[.int .u8 0, .int .u64 0, .int .u64 0, .int .u64 0, .int .u64 0, .int .i64 0] 94)) := (Below.alloc (Below.refl w.heap.size w) (by simp <;> omega) (.cells #[.int .u8 0, .int .u64 0, .int .u64 0, .int .u64 0, .int .u64 0, .int .i64 0] 94))
  have hz := Blk.new w 94 #[.int .u8 0, .int .u64 0, .int .u64 0, .int .u64 0, .int .u64 0, .int .i64 0]
  go_enter Try.func43, Try.ntmps43
  have z1 : (w.alloc (.cells #[.int .u8 0, .int .u64 0, .int .u64 0, .int .u64 0, .int .u64 0, .int .i64 0] 94)).cell? ⟨w.heap.size, 0, none⟩ = some (.int .u8 0) := (hz.cell 0).trans rfl
  have z2 := hz.frozen 0
  have z3 : (w.alloc (.cells #[.int .u8 0, .int .u64 0, .int .u64 0, .int .u64 0, .int .u64 0, .int .i64 0] 94)).cell? ⟨w.heap.size, 1, none⟩ = some (.int .u64 0) := (hz.cell 1).trans rfl
  have z4 := hz.frozen 1
  have z5 : (w.alloc (.cells #[.int .u8 0, .int .u64 0, .int .u64 0, .int .u64 0, .int .u64 0, .int .i64 0] 94)).cell? ⟨w.heap.size, 2, none⟩ = some (.int .u64 0) := (hz.cell 2).trans rfl
  have z6 := hz.frozen 2
  have z7 : (w.alloc (.cells #[.int .u8 0, .int .u64 0, .int .u64 0, .int .u64 0, .int .u64 0, .int .i64 0] 94)).cell? ⟨w.heap.size, 3, none⟩ = some (.int .u64 0) := (hz.cell 3).trans rfl
  have z8 := hz.frozen 3
  have z9 : (w.alloc (.cells #[.int .u8 0, .int .u64 0, .int .u64 0, .int .u64 0, .int .u64 0, .int .i64 0] 94)).cell? ⟨w.heap.size, 4, none⟩ = some (.int .u64 0) := (hz.cell 4).trans rfl
  have z10 := hz.frozen 4
  have z11 : (w.alloc (.cells #[.int .u8 0, .int .u64 0, .int .u64 0, .int .u64 0, .int .u64 0, .int .i64 0] 94)).cell? ⟨w.heap.size, 5, none⟩ = some (.int .i64 0) := (hz.cell 5).trans rfl
  have z12 := hz.frozen 5
  have z13 := hz.lt
  go_wp2_with fail
  refine (rbase27_any g _ hg).mono ?_
  rintro e wq ⟨rfl, rfl⟩
  rw [HG.out]
  go_wp2_with fail
  refine ret_c rfl rtT27 rfl (Blk.new _ _ _) (by rfl) ?_
  exact ⟨rfl, (Below.refl w.heap.size w).alloc (Nat.le_refl _) _⟩
set_option maxRecDepth 100000 in
set_option maxHeartbeats 4000000 in
theorem alive27_any (w : World) :
    Calls Try.prog 48 #[] w fun e w' => e = .returned (.bool true) ∧ Below w.heap.size w w' := by
  have H1 := Lib.hid (fun W => writeEnded_any 2 0 300 W (by omega) (by omega))
  have H2 := Lib.hid (fun W => writeEnded_any 3 (-1) 0 W (by omega) (by omega))
  have HD := Lib.hid (fun W => done_any 0 W (by omega))
  have H3 := Lib.hid (fun A W (h : RdT W A 1 [(3, 0, 16777216, 0, 0, 0)]) => writeHeads_any A 1 1 _ W h (by omega))
  have H4 := Lib.hid (fun A W (h : RdC W A 2 [[], [65536, 65576]]) => writeChains_any A 2 2 _ W h (by omega))
  rw [show weL 2 0 300 = [2, 0, 172, 2] from by decide +kernel, show weE 2 0 300 = 0 from by decide +kernel] at H1
  rw [show weL 3 (-1) 0 = [3, 1, 0] from by decide +kernel, show weE 3 (-1) 0 = 0 from by decide +kernel] at H2
  rw [show (((16777216 * (0 + 1) : Nat)) : Int) = 16777216 from rfl] at HD
  rw [show whsL [(3, 0, 16777216, 0, 0, 0)] = [1, 3, 0, 0, 0, 0, 0] from by decide +kernel, show whsE [(3, 0, 16777216, 0, 0, 0)] = 0 from by decide +kernel] at H3
  rw [show wcsL [[], [65536, 65576]] = [2, 0, 2, 128, 64, 133, 64] from by decide +kernel, show wcsE [[], [65536, 65576]] = 0 from by decide +kernel] at H4
  have hB := Below.refl w.heap.size w
  go_enter Try.func48, Try.ntmps48
  go_wp2_with fail
  refine (H1.out _).mono ?_
  rintro e w1 ⟨A1, c1, rfl, o1, bB⟩
  replace o1 := own_low o1 (show w.heap.size ≤ _ from by have hs_ := hB.size; simp <;> omega)
  replace hB := Below.via (w := w) (by have hs_ := hB.size; repeat (first | with_reducible exact hB | with_reducible (refine Below.setCell ?_ (by simp <;> omega) _) | with_reducible (refine Below.alloc ?_ (by first | exact hs_ | (simp <;> omega)) _) | with_reducible (refine Below.drew ?_))) bB
  clear bB
  go_wp2_with fail
  refine (H2.out _).mono ?_
  rintro e w2 ⟨A2, c2, rfl, o2, bB⟩
  replace o2 := own_low o2 (show w.heap.size ≤ _ from by have hs_ := hB.size; simp <;> omega)
  replace o1 := own_call (by repeat (first | with_reducible exact o1 | (with_reducible apply own_set_; case hne => first | skip) | with_reducible (apply own_alloc_) | with_reducible (apply own_drew_))) bB
  replace hB := Below.via (w := w) (by have hs_ := hB.size; repeat (first | with_reducible exact hB | with_reducible (refine Below.setCell ?_ (by simp <;> omega) _) | with_reducible (refine Below.alloc ?_ (by first | exact hs_ | (simp <;> omega)) _) | with_reducible (refine Below.drew ?_))) bB
  clear bB
  go_wp2_with fail
  refine (HD.out _).mono ?_
  rintro e w3 ⟨rfl, bB⟩
  replace o1 := own_call (by repeat (first | with_reducible exact o1 | (with_reducible apply own_set_; case hne => first | skip) | with_reducible (apply own_alloc_) | with_reducible (apply own_drew_))) bB
  replace o2 := own_call (by repeat (first | with_reducible exact o2 | (with_reducible apply own_set_; case hne => first | skip) | with_reducible (apply own_alloc_) | with_reducible (apply own_drew_))) bB
  replace hB := Below.via (w := w) (by have hs_ := hB.size; repeat (first | with_reducible exact hB | with_reducible (refine Below.setCell ?_ (by simp <;> omega) _) | with_reducible (refine Below.alloc ?_ (by first | exact hs_ | (simp <;> omega)) _) | with_reducible (refine Below.drew ?_))) bB
  clear bB
  go_wp2_with fail
  refine (H3.out _ _ ⟨rfl, reads_blk (Blk.new w3 94 #[.int .u8 3, .int .u64 0, .int .u64 16777216, .int .u64 0, .int .u64 0, .int .i64 0]) 6 1 rfl, by intro x hx; simp at hx; subst hx; simp [rtOk]⟩).mono ?_
  rintro e w4 ⟨A3, c3, rfl, o3, bB⟩
  replace o3 := own_low o3 (show w.heap.size ≤ _ from by have hs_ := hB.size; simp <;> omega)
  replace o1 := own_call (by repeat (first | with_reducible exact o1 | (with_reducible apply own_set_; case hne => first | skip) | with_reducible (apply own_alloc_) | with_reducible (apply own_drew_))) bB
  replace o2 := own_call (by repeat (first | with_reducible exact o2 | (with_reducible apply own_set_; case hne => first | skip) | with_reducible (apply own_alloc_) | with_reducible (apply own_drew_))) bB
  replace hB := Below.via (w := w) (by have hs_ := hB.size; repeat (first | with_reducible exact hB | with_reducible (refine Below.setCell ?_ (by simp <;> omega) _) | with_reducible (refine Below.alloc ?_ (by first | exact hs_ | (simp <;> omega)) _) | with_reducible (refine Below.drew ?_))) bB
  clear bB
  go_wp2_with fail
  have kb := Blk.new (w4.alloc (.cells #[.int .u64 65536, .int .u64 65576] 55)) 62 #[.slice none 0 0, .slice (some ⟨w4.heap.size, 0, none⟩) 2 2]
  rw [alloc_size] at kb
  have ka := (Blk.new w4 55 #[.int .u64 65536, .int .u64 65576]).alloc (.cells #[.slice none 0 0, .slice (some ⟨w4.heap.size, 0, none⟩) 2 2] 62)
  refine (H4.out _ _ (rdC_two kb ka)).mono ?_
  rintro e w5 ⟨A4, c4, rfl, o4, bB⟩
  replace o4 := own_low o4 (show w.heap.size ≤ _ from by have hs_ := hB.size; simp <;> omega)
  replace o1 := own_call (by repeat (first | with_reducible exact o1 | (with_reducible apply own_set_; case hne => first | skip) | with_reducible (apply own_alloc_) | with_reducible (apply own_drew_))) bB
  replace o2 := own_call (by repeat (first | with_reducible exact o2 | (with_reducible apply own_set_; case hne => first | skip) | with_reducible (apply own_alloc_) | with_reducible (apply own_drew_))) bB
  replace o3 := own_call (by repeat (first | with_reducible exact o3 | (with_reducible apply own_set_; case hne => first | skip) | with_reducible (apply own_alloc_) | with_reducible (apply own_drew_))) bB
  replace hB := Below.via (w := w) (by have hs_ := hB.size; repeat (first | with_reducible exact hB | with_reducible (refine Below.setCell ?_ (by simp <;> omega) _) | with_reducible (refine Below.alloc ?_ (by first | exact hs_ | (simp <;> omega)) _) | with_reducible (refine Below.drew ?_))) bB
  clear bB
  clear ka kb
  have K0 : h_CvS A1 4 c1 [2, 0, 172, 2] w5 := h_cvS c1 (own_rd (l := [2, 0, 172, 2]) o1)
  have J0 : h_CvS (some ⟨w5.heap.size, 0, none⟩) 4 4 [2, 0, 172, 2] (w5.alloc (.cells #[.int .u8 2, .int .u8 0, .int .u8 172, .int .u8 2] 5)) := h_cvS 4 (reads_bytes w5 [2, 0, 172, 2] 5)
  have K1 : h_CvS A2 3 c2 [3, 1, 0] (w5.alloc (.cells #[.int .u8 2, .int .u8 0, .int .u8 172, .int .u8 2] 5)) := h_cvS c2 (own_rd (l := [3, 1, 0]) (own_alloc_ o2 (.cells #[.int .u8 2, .int .u8 0, .int .u8 172, .int .u8 2] 5)))
  have J1 : h_CvS (some ⟨(w5.heap.size + 1), 0, none⟩) 3 3 [3, 1, 0] ((w5.alloc (.cells #[.int .u8 2, .int .u8 0, .int .u8 172, .int .u8 2] 5)).alloc (.cells #[.int .u8 3, .int .u8 1, .int .u8 0] 5)) := by
    have h := h_cvS 3 (reads_bytes (w5.alloc (.cells #[.int .u8 2, .int .u8 0, .int .u8 172, .int .u8 2] 5)) [3, 1, 0] 5)
    rw [show (w5.alloc (.cells #[.int .u8 2, .int .u8 0, .int .u8 172, .int .u8 2] 5)).heap.size = w5.heap.size + 1 from by simp] at h
    exact h
  have K2 : h_CvS A3 7 c3 [1, 3, 0, 0, 0, 0, 0] ((w5.alloc (.cells #[.int .u8 2, .int .u8 0, .int .u8 172, .int .u8 2] 5)).alloc (.cells #[.int .u8 3, .int .u8 1, .int .u8 0] 5)) := h_cvS c3 (own_rd (l := [1, 3, 0, 0, 0, 0, 0]) (own_alloc_ (own_alloc_ o3 (.cells #[.int .u8 2, .int .u8 0, .int .u8 172, .int .u8 2] 5)) (.cells #[.int .u8 3, .int .u8 1, .int .u8 0] 5)))
  have J2 : h_CvS (some ⟨(w5.heap.size + 2), 0, none⟩) 7 7 [1, 3, 0, 0, 0, 0, 0] (((w5.alloc (.cells #[.int .u8 2, .int .u8 0, .int .u8 172, .int .u8 2] 5)).alloc (.cells #[.int .u8 3, .int .u8 1, .int .u8 0] 5)).alloc (.cells #[.int .u8 1, .int .u8 3, .int .u8 0, .int .u8 0, .int .u8 0, .int .u8 0, .int .u8 0] 5)) := by
    have h := h_cvS 7 (reads_bytes ((w5.alloc (.cells #[.int .u8 2, .int .u8 0, .int .u8 172, .int .u8 2] 5)).alloc (.cells #[.int .u8 3, .int .u8 1, .int .u8 0] 5)) [1, 3, 0, 0, 0, 0, 0] 5)
    rw [show ((w5.alloc (.cells #[.int .u8 2, .int .u8 0, .int .u8 172, .int .u8 2] 5)).alloc (.cells #[.int .u8 3, .int .u8 1, .int .u8 0] 5)).heap.size = w5.heap.size + 2 from by simp] at h
    exact h
  have K3 : h_CvS A4 7 c4 [2, 0, 2, 128, 64, 133, 64] (((w5.alloc (.cells #[.int .u8 2, .int .u8 0, .int .u8 172, .int .u8 2] 5)).alloc (.cells #[.int .u8 3, .int .u8 1, .int .u8 0] 5)).alloc (.cells #[.int .u8 1, .int .u8 3, .int .u8 0, .int .u8 0, .int .u8 0, .int .u8 0, .int .u8 0] 5)) := h_cvS c4 (own_rd (l := [2, 0, 2, 128, 64, 133, 64]) (own_alloc_ (own_alloc_ (own_alloc_ o4 (.cells #[.int .u8 2, .int .u8 0, .int .u8 172, .int .u8 2] 5)) (.cells #[.int .u8 3, .int .u8 1, .int .u8 0] 5)) (.cells #[.int .u8 1, .int .u8 3, .int .u8 0, .int .u8 0, .int .u8 0, .int .u8 0, .int .u8 0] 5)))
  have J3 : h_CvS (some ⟨(w5.heap.size + 3), 0, none⟩) 7 7 [2, 0, 2, 128, 64, 133, 64] ((((w5.alloc (.cells #[.int .u8 2, .int .u8 0, .int .u8 172, .int .u8 2] 5)).alloc (.cells #[.int .u8 3, .int .u8 1, .int .u8 0] 5)).alloc (.cells #[.int .u8 1, .int .u8 3, .int .u8 0, .int .u8 0, .int .u8 0, .int .u8 0, .int .u8 0] 5)).alloc (.cells #[.int .u8 2, .int .u8 0, .int .u8 2, .int .u8 128, .int .u8 64, .int .u8 133, .int .u8 64] 5)) := by
    have h := h_cvS 7 (reads_bytes (((w5.alloc (.cells #[.int .u8 2, .int .u8 0, .int .u8 172, .int .u8 2] 5)).alloc (.cells #[.int .u8 3, .int .u8 1, .int .u8 0] 5)).alloc (.cells #[.int .u8 1, .int .u8 3, .int .u8 0, .int .u8 0, .int .u8 0, .int .u8 0, .int .u8 0] 5)) [2, 0, 2, 128, 64, 133, 64] 5)
    rw [show (((w5.alloc (.cells #[.int .u8 2, .int .u8 0, .int .u8 172, .int .u8 2] 5)).alloc (.cells #[.int .u8 3, .int .u8 1, .int .u8 0] 5)).alloc (.cells #[.int .u8 1, .int .u8 3, .int .u8 0, .int .u8 0, .int .u8 0, .int .u8 0, .int .u8 0] 5)).heap.size = w5.heap.size + 3 from by simp] at h
    exact h
  go_wp2_with fail
  go_ret
  exact ⟨rfl, (by have hs_ := hB.size; repeat (first | with_reducible exact hB | with_reducible (refine Below.setCell ?_ (by simp <;> omega) _) | with_reducible (refine Below.alloc ?_ (by first | exact hs_ | (simp <;> omega)) _) | with_reducible (refine Below.drew ?_)))⟩

end Go.Proofs.Ytldaijkcmnnjpaa
