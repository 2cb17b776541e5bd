/- Contracts and laws of a chapter that its statement of names leans on. Each states its conditions. -/
import Derived.Test.YtldaijkcmnnjpaaHd14
import Derived.Test.YtldaijkcmnnjpaaHd15
namespace Go.Proofs.Ytldaijkcmnnjpaa
open Go.RowKit Wire
set_option linter.unusedVariables false
theorem enT27 : AggT Try.prog 89 3 := ⟨⟨_, Try.underlying89, rfl⟩, by kernel_rfl⟩
/-- What has been read of an end. -/
def EnS (l : List UInt8) (x : Nat) (f : Int) (s a' : Nat) (bd' : Bool) : Prop :=
  x < 256 ∧ (-9223372036854775808 ≤ f ∧ f ≤ 9223372036854775807) ∧ s ≤ 5000 ∧ a' ≤ l.length ∧ (bd' = true → red l = none) ∧ (bd' = false → red l = if a' = l.length ∧ enB x f (s : Int) = true then some (x, f, (s : Int)) else none)
theorem enS_of {l : List UInt8} {x v s a1 a2 a3 : Nat} {b1 b2 b3 : Bool} (h1 : ByS l 0 false x a1 b1) (h2 : NmS l a1 b1 18446744073709551615 v a2 b2) (h3 : NmS l a2 b2 5000 s a3 b3) : EnS l x (hlf v) s a3 b3 := by
  obtain ⟨p1, p2, p3, p4⟩ := h1
  obtain ⟨q1, q2, q3, q4⟩ := h2
  obtain ⟨r1, r2, r3, r4⟩ := h3
  refine ⟨p1, hlf_rng (by omega), r1, r2, ?_, ?_⟩
  · rintro rfl
    rcases p4 rfl with ⟨rfl, k⟩ | ⟨rfl, k1, k2, k3⟩
    · cases l with
      | nil => rfl
      | cons y l => simp at k
    · cases l with
      | nil => simp at k1
      | cons y l =>
        subst k3
        unfold red
        rcases q4 rfl with ⟨rfl, k⟩ | ⟨rfl, k⟩
        · rw [k]; rfl
        · rcases r4 rfl with ⟨_, j⟩ | ⟨j, _⟩
          · rw [k]; simp only [Option.bind_some]; rw [j]; rfl
          · cases j
  · rintro rfl
    have hb2 : b2 = false := by cases b2 with | false => rfl | true => exact absurd (r3 rfl) (by simp)
    subst hb2
    have hb1 : b1 = false := by cases b1 with | false => rfl | true => exact absurd (q3 rfl) (by simp)
    subst hb1
    rcases p4 rfl with ⟨k, _⟩ | ⟨_, k1, k2, k3⟩
    · cases k
    rcases q4 rfl with ⟨k, _⟩ | ⟨_, k⟩
    · cases k
    rcases r4 rfl with ⟨j, _⟩ | ⟨_, j⟩
    · cases j
    cases l with
    | nil => simp at k1
    | cons y l =>
      subst k3
      simp only [List.getElem?_cons_zero, Option.getD_some] at k2
      subst k2
      unfold red
      rw [k]
      simp only [Option.bind_some]
      rw [j]
      rfl
/-- What has been read of heads. -/
def HsS (l : List UInt8) (n j : Nat) (L : List Rtn) (a : Nat) (bd : Bool) : Prop :=
  (bd = true → rhds l = none) ∧ (bd = false → rhds l = (pHds l (n - j) j a).map fun p => (L ++ p.1, p.2)) ∧ a ≤ l.length
theorem hsS_of {l : List UInt8} {n a : Nat} {bd : Bool} (h : NmS l 0 false 16 n a bd) : HsS l n 0 [] a bd := by
  obtain ⟨p1, p2, p3, p4⟩ := h
  refine ⟨?_, ?_, p2⟩
  · rintro rfl
    rcases p4 rfl with ⟨_, k⟩ | ⟨k, _⟩
    · unfold rhds; rw [k]; rfl
    · cases k
  · rintro rfl
    rcases p4 rfl with ⟨k, _⟩ | ⟨_, k⟩
    · cases k
    · unfold rhds; rw [k]; simp
theorem hsS_end {l : List UInt8} {n : Nat} {L : List Rtn} {a : Nat} {bd : Bool} (h : HsS l n n L a bd) : a ≤ l.length ∧ (bd = true → rhd l = none) ∧ (bd = false → rhd l = if a = l.length ∧ hsB L = true then some L else none) := by
  obtain ⟨h1, h2, h3⟩ := h
  refine ⟨h3, fun e => ?_, fun e => ?_⟩
  · unfold rhd; rw [h1 e]; rfl
  · have h2 := h2 e
    rw [Nat.sub_self] at h2
    unfold rhd
    rw [h2]
    simp [pHds]
theorem rtOk_of {l : List UInt8} {j x v1 v2 v3 v4 v5 a a1 a2 a3 a4 a5 a6 : Nat} {bd b1 b2 b3 b4 b5 b6 : Bool} (hj : j < 16) (h1 : ByS l a bd x a1 b1) (h2 : NmS l a1 b1 18446744073709551615 v1 a2 b2) (h3 : NmS l a2 b2 512 v2 a3 b3)
    (h4 : NmS l a3 b3 2305843009213693951 v3 a4 b4) (h5 : NmS l a4 b4 2305843009213693951 v4 a5 b5) (h6 : NmS l a5 b5 18446744073709551615 v5 a6 b6) : rtOk (x, v1, 16777216 * (j + 1) + 8 * v2, 8 * v3, 8 * v4, hlf v5) := by
  have k1 := h1.1
  have k2 := h2.1
  have k3 := h3.1
  have k4 := h4.1
  have k5 := h5.1
  have k6 := h6.1
  have hh := hlf_rng (n := v5) (by omega)
  unfold rtOk
  refine ⟨k1, ?_, ?_, ?_, ?_, hh⟩ <;> simp only <;> omega
theorem hsS_step {l : List UInt8} {n j x v1 v2 v3 v4 v5 a a1 a2 a3 a4 a5 a6 : Nat} {L : List Rtn} {bd b1 b2 b3 b4 b5 b6 : Bool} (h : HsS l n j L a bd) (hj : j < n) (h1 : ByS l a bd x a1 b1) (h2 : NmS l a1 b1 18446744073709551615 v1 a2 b2) (h3 : NmS l a2 b2 512 v2 a3 b3)
    (h4 : NmS l a3 b3 2305843009213693951 v3 a4 b4) (h5 : NmS l a4 b4 2305843009213693951 v4 a5 b5) (h6 : NmS l a5 b5 18446744073709551615 v5 a6 b6) : HsS l n (j + 1) (L ++ [(x, v1, 16777216 * (j + 1) + 8 * v2, 8 * v3, 8 * v4, hlf v5)]) a6 b6 := by
  obtain ⟨g1, g2, g3⟩ := h
  obtain ⟨p1, p2, p3, p4⟩ := h1
  obtain ⟨q1, q2, q3, q4⟩ := h2
  obtain ⟨r1, r2, r3, r4⟩ := h3
  obtain ⟨s1, s2, s3, s4⟩ := h4
  obtain ⟨t1, t2, t3, t4⟩ := h5
  obtain ⟨u1, u2, u3, u4⟩ := h6
  have hn : n - j = (n - (j + 1)) + 1 := by omega
  refine ⟨?_, ?_, u2⟩
  · rintro rfl
    cases bd with
    | true => exact g1 rfl
    | false =>
      rw [g2 rfl, hn]
      suffices hs : pHd l j a = none by unfold pHds; rw [hs]; rfl
      unfold pHd
      rcases p4 rfl with ⟨rfl, k⟩ | ⟨rfl, k, _, rfl⟩
      · rw [if_neg (by omega)]
      rw [if_pos k]
      rcases q4 rfl with ⟨rfl, k⟩ | ⟨rfl, k⟩
      · rw [k]; rfl
      rw [k, Option.bind_some]; simp only
      rcases r4 rfl with ⟨rfl, k⟩ | ⟨rfl, k⟩
      · rw [k]; rfl
      rw [k, Option.bind_some]; simp only
      rcases s4 rfl with ⟨rfl, k⟩ | ⟨rfl, k⟩
      · rw [k]; rfl
      rw [k, Option.bind_some]; simp only
      rcases t4 rfl with ⟨rfl, k⟩ | ⟨rfl, k⟩
      · rw [k]; rfl
      rw [k, Option.bind_some]; simp only
      rcases u4 rfl with ⟨_, k⟩ | ⟨k, _⟩
      · rw [k]; rfl
      · cases k
  · rintro rfl
    have e5 : b5 = false := by cases b5 with | false => rfl | true => exact absurd (u3 rfl) (by simp)
    subst e5
    have e4 : b4 = false := by cases b4 with | false => rfl | true => exact absurd (t3 rfl) (by simp)
    subst e4
    have e3 : b3 = false := by cases b3 with | false => rfl | true => exact absurd (s3 rfl) (by simp)
    subst e3
    have e2 : b2 = false := by cases b2 with | false => rfl | true => exact absurd (r3 rfl) (by simp)
    subst e2
    have e1 : b1 = false := by cases b1 with | false => rfl | true => exact absurd (q3 rfl) (by simp)
    subst e1
    have e0 : bd = false := by cases bd with | false => rfl | true => exact absurd (p3 rfl) (by simp)
    subst e0
    rcases p4 rfl with ⟨k, _⟩ | ⟨_, ka, kx, rfl⟩
    · cases k
    rcases q4 rfl with ⟨k, _⟩ | ⟨_, kq⟩
    · cases k
    rcases r4 rfl with ⟨k, _⟩ | ⟨_, kr⟩
    · cases k
    rcases s4 rfl with ⟨k, _⟩ | ⟨_, ks⟩
    · cases k
    rcases t4 rfl with ⟨k, _⟩ | ⟨_, kt⟩
    · cases k
    rcases u4 rfl with ⟨k, _⟩ | ⟨_, ku⟩
    · cases k
    have hp : pHd l j a = some ((x, v1, 16777216 * (j + 1) + 8 * v2, 8 * v3, 8 * v4, hlf v5), a6) := by
      unfold pHd
      rw [if_pos ka, kq, Option.bind_some]; simp only
      rw [kr, Option.bind_some]; simp only
      rw [ks, Option.bind_some]; simp only
      rw [kt, Option.bind_some]; simp only
      rw [ku, Option.bind_some, kx]
    rw [g2 rfl, hn]
    conv => lhs; unfold pHds
    rw [hp, Option.bind_some]
    simp only
    cases pHds l (n - (j + 1)) (j + 1) a6 with
    | none => rfl
    | some q => simp
set_option maxRecDepth 100000 in
set_option maxHeartbeats 3200000 in
theorem readEnded1_any (g : Nat) (A : Option Addr) (n c : Nat) (l : List UInt8) (hnc : n ≤ c) (w : World) (hk : Blk w g 178 #[.slice A n c, .int .i64 0, .bool false]) (hr : RdB w g A n l) (hn : l.length ≤ 200000) :
    Calls Try.prog 96 #[.pointer (some ⟨g, 0, none⟩)] w fun e w' => ∃ (x : Nat) (f : Int) (s a' : Nat) (bd' : Bool), e = .returned (endV x f (s : Int)) ∧ EnS l x f s a' bd' ∧ Blk w' g 178 #[.slice A n c, .int .i64 (a' : Int), .bool bd'] ∧ BelowX w.heap.size g w w' := by
  have hgl := hk.lt
  have HR := Lib.hid hr
  clear hr
  have hk0 : Blk w g 178 #[.slice A n c, .int .i64 ((0 : Nat) : Int), .bool false] := hk
  clear hk
  have hk := hk0
  clear hk0
  have hB : BelowX w.heap.size g w (w.alloc (.cells #[.int .u8 0, .int .i64 0, .int .i64 0] 89)) := (BelowX.al (BelowX.refl w.heap.size g w) (by simp <;> omega) (.cells #[.int .u8 0, .int .i64 0, .int .i64 0] 89))
  replace hk := hk.alloc (.cells #[.int .u8 0, .int .i64 0, .int .i64 0] 89)
  have hz := Blk.new w 89 #[.int .u8 0, .int .i64 0, .int .i64 0]
  have rd_hz : w.heap.size ≠ g := (by omega)
  go_enter Try.func96, Try.ntmps96
  have z1 : (w.alloc (.cells #[.int .u8 0, .int .i64 0, .int .i64 0] 89)).cell? ⟨w.heap.size, 0, none⟩ = some (.int .u8 0) := (hz.cell 0).trans rfl
  have z2 := hz.frozen 0
  have z3 : (w.alloc (.cells #[.int .u8 0, .int .i64 0, .int .i64 0] 89)).cell? ⟨w.heap.size, 1, none⟩ = some (.int .i64 0) := (hz.cell 1).trans rfl
  have z4 := hz.frozen 1
  have z5 : (w.alloc (.cells #[.int .u8 0, .int .i64 0, .int .i64 0] 89)).cell? ⟨w.heap.size, 2, none⟩ = some (.int .i64 0) := (hz.cell 2).trans rfl
  have z6 := hz.frozen 2
  have z7 := hk.lt
  have z8 := hz.lt
  go_wp2_with fail
  have z9 := hk.lt
  have z10 := hz.lt
  with_reducible refine (byte_any g A n c 0 false l hnc _ (by repeat (first | with_reducible exact hk | with_reducible (apply Blk.set_) | with_reducible (apply Blk.far; case hp => (simp <;> omega)) | with_reducible (apply Blk.alloc) | with_reducible (apply Blk.drew))) (Reads.below HR.out (BelowX.below (by have hs_ := hB.size; repeat (first | with_reducible exact hB | with_reducible exact BelowX.refl _ _ _ | with_reducible (refine BelowX.setO ?_ (by first | (exact Or.inl rfl) | (exact Or.inr (by simp <;> omega))) _) | with_reducible (refine BelowX.al ?_ (by first | exact hs_ | (simp <;> omega)) _) | with_reducible (refine BelowX.drew ?_))) (Nat.le_of_lt hgl) (Nat.le_refl _))) hn (by omega)).mono ?_
  rintro e w1 ⟨x, a1, b1, rfl, h1, hk_, bB⟩
  replace hz := Blk.viax (g := w.heap.size) (t := 89) bB rd_hz (by repeat (first | with_reducible exact hz | with_reducible (apply Blk.set_) | with_reducible (apply Blk.far; case hp => (simp <;> omega)) | with_reducible (apply Blk.alloc) | with_reducible (apply Blk.drew)))
  replace hz : Blk w1 w.heap.size 89 #[.int .u8 0, .int .i64 0, .int .i64 0] := hz
  have hBs := hB.size
  replace hB := BelowX.via (B := w.heap.size) (u := w) (by have hs_ := hB.size; repeat (first | with_reducible exact hB | with_reducible exact BelowX.refl _ _ _ | with_reducible (refine BelowX.setO ?_ (by first | (exact Or.inl rfl) | (exact Or.inr (by simp <;> omega))) _) | with_reducible (refine BelowX.al ?_ (by first | exact hs_ | (simp <;> omega)) _) | with_reducible (refine BelowX.drew ?_))) (by first | omega | (simp <;> omega)) bB
  clear hBs
  replace hk := hk_
  clear hk_
  clear z1 z2 z3 z4 z5 z6 z7 z8 z9 z10
  clear bB
  have H1 := Lib.hid h1
  have i1 := h1.2.1
  have j1 := h1.1
  clear h1
  have z11 : w1.cell? ⟨w.heap.size, 0, none⟩ = some (.int .u8 0) := (hz.cell 0).trans rfl
  have z12 := hz.frozen 0
  have z13 : w1.cell? ⟨w.heap.size, 1, none⟩ = some (.int .i64 0) := (hz.cell 1).trans rfl
  have z14 := hz.frozen 1
  have z15 : w1.cell? ⟨w.heap.size, 2, none⟩ = some (.int .i64 0) := (hz.cell 2).trans rfl
  have z16 := hz.frozen 2
  have z17 := hk.lt
  have z18 := hz.lt
  go_wp2_with fail
  have z19 := hk.lt
  have z20 := hz.lt
  with_reducible refine (rsig_any g A n c a1 b1 l _ (by repeat (first | with_reducible exact hk | with_reducible (apply Blk.set_) | with_reducible (apply Blk.far; case hp => (simp <;> omega)) | with_reducible (apply Blk.alloc) | with_reducible (apply Blk.drew))) (Reads.below HR.out (BelowX.below (by have hs_ := hB.size; repeat (first | with_reducible exact hB | with_reducible exact BelowX.refl _ _ _ | with_reducible (refine BelowX.setO ?_ (by first | (exact Or.inl rfl) | (exact Or.inr (by simp <;> omega))) _) | with_reducible (refine BelowX.al ?_ (by first | exact hs_ | (simp <;> omega)) _) | with_reducible (refine BelowX.drew ?_))) (Nat.le_of_lt hgl) (Nat.le_refl _))) hn i1).mono ?_
  rintro e w2 ⟨v, a2, b2, rfl, h2, hk_, bB⟩
  replace hz := Blk.viax (g := w.heap.size) (t := 89) bB rd_hz (by repeat (first | with_reducible exact hz | with_reducible (apply Blk.set_) | with_reducible (apply Blk.far; case hp => (simp <;> omega)) | with_reducible (apply Blk.alloc) | with_reducible (apply Blk.drew)))
  replace hz : Blk w2 w.heap.size 89 #[.int .u8 0, .int .i64 0, .int .i64 0] := hz
  have hBs := hB.size
  replace hB := BelowX.via (B := w.heap.size) (u := w) (by have hs_ := hB.size; repeat (first | with_reducible exact hB | with_reducible exact BelowX.refl _ _ _ | with_reducible (refine BelowX.setO ?_ (by first | (exact Or.inl rfl) | (exact Or.inr (by simp <;> omega))) _) | with_reducible (refine BelowX.al ?_ (by first | exact hs_ | (simp <;> omega)) _) | with_reducible (refine BelowX.drew ?_))) (by first | omega | (simp <;> omega)) bB
  clear hBs
  replace hk := hk_
  clear hk_
  clear z11 z12 z13 z14 z15 z16 z17 z18 z19 z20
  clear bB
  have H2 := Lib.hid h2
  have i2 := h2.2.1
  clear h2
  have z21 : w2.cell? ⟨w.heap.size, 0, none⟩ = some (.int .u8 0) := (hz.cell 0).trans rfl
  have z22 := hz.frozen 0
  have z23 : w2.cell? ⟨w.heap.size, 1, none⟩ = some (.int .i64 0) := (hz.cell 1).trans rfl
  have z24 := hz.frozen 1
  have z25 : w2.cell? ⟨w.heap.size, 2, none⟩ = some (.int .i64 0) := (hz.cell 2).trans rfl
  have z26 := hz.frozen 2
  have z27 := hk.lt
  have z28 := hz.lt
  go_wp2_with fail
  have z29 := hk.lt
  have z30 := hz.lt
  refine (number_any g A n c a2 b2 l 5000 (by omega) _ (by repeat (first | with_reducible exact hk | with_reducible (apply Blk.set_) | with_reducible (apply Blk.far; case hp => (simp <;> omega)) | with_reducible (apply Blk.alloc) | with_reducible (apply Blk.drew))) (Reads.below HR.out (BelowX.below (by have hs_ := hB.size; repeat (first | with_reducible exact hB | with_reducible exact BelowX.refl _ _ _ | with_reducible (refine BelowX.setO ?_ (by first | (exact Or.inl rfl) | (exact Or.inr (by simp <;> omega))) _) | with_reducible (refine BelowX.al ?_ (by first | exact hs_ | (simp <;> omega)) _) | with_reducible (refine BelowX.drew ?_))) (Nat.le_of_lt hgl) (Nat.le_refl _))) hn i2).mono ?_
  rintro e w3 ⟨s, a3, b3, rfl, h3, hk_, bB⟩
  replace hz := Blk.viax (g := w.heap.size) (t := 89) bB rd_hz (by repeat (first | with_reducible exact hz | with_reducible (apply Blk.set_) | with_reducible (apply Blk.far; case hp => (simp <;> omega)) | with_reducible (apply Blk.alloc) | with_reducible (apply Blk.drew)))
  replace hz : Blk w3 w.heap.size 89 #[.int .u8 0, .int .i64 0, .int .i64 0] := hz
  have hBs := hB.size
  replace hB := BelowX.via (B := w.heap.size) (u := w) (by have hs_ := hB.size; repeat (first | with_reducible exact hB | with_reducible exact BelowX.refl _ _ _ | with_reducible (refine BelowX.setO ?_ (by first | (exact Or.inl rfl) | (exact Or.inr (by simp <;> omega))) _) | with_reducible (refine BelowX.al ?_ (by first | exact hs_ | (simp <;> omega)) _) | with_reducible (refine BelowX.drew ?_))) (by first | omega | (simp <;> omega)) bB
  clear hBs
  replace hk := hk_
  clear hk_
  clear z21 z22 z23 z24 z25 z26 z27 z28 z29 z30
  clear bB
  have H3 := Lib.hid h3
  have i3 := h3.1
  clear h3
  have hws : IntKind.i64.wrap (s : Int) = (s : Int) := by rw [IntKind.wrap_i64]; omega
  obtain ⟨fv, hfv⟩ : ∃ fv, hlf v = fv := ⟨_, rfl⟩
  rw [hfv]
  have HF := Lib.hid hfv
  clear hfv
  have z31 : w3.cell? ⟨w.heap.size, 0, none⟩ = some (.int .u8 0) := (hz.cell 0).trans rfl
  have z32 := hz.frozen 0
  have z33 : w3.cell? ⟨w.heap.size, 1, none⟩ = some (.int .i64 0) := (hz.cell 1).trans rfl
  have z34 := hz.frozen 1
  have z35 : w3.cell? ⟨w.heap.size, 2, none⟩ = some (.int .i64 0) := (hz.cell 2).trans rfl
  have z36 := hz.frozen 2
  have z37 := hk.lt
  have z38 := hz.lt
  go_wp2_with fail
  refine ret_c rfl enT27 rfl (by repeat (first | with_reducible exact hz | with_reducible (apply Blk.set_) | with_reducible (apply Blk.far; case hp => (simp <;> omega)) | with_reducible (apply Blk.alloc) | with_reducible (apply Blk.drew))) (by rfl) ?_
  exact ⟨x, fv, s, a3, b3, rfl, by rw [← HF.out]; exact enS_of H1.out H2.out H3.out, (by repeat (first | with_reducible exact hk | with_reducible (apply Blk.set_) | with_reducible (apply Blk.far; case hp => (simp <;> omega)) | with_reducible (apply Blk.alloc) | with_reducible (apply Blk.drew))), (by have hs_ := hB.size; repeat (first | with_reducible exact hB | with_reducible exact BelowX.refl _ _ _ | with_reducible (refine BelowX.setO ?_ (by first | (exact Or.inl rfl) | (exact Or.inr (by simp <;> omega))) _) | with_reducible (refine BelowX.al ?_ (by first | exact hs_ | (simp <;> omega)) _) | with_reducible (refine BelowX.drew ?_)))⟩
set_option maxRecDepth 100000 in
set_option maxHeartbeats 6400000 in
theorem readHeads1_any (g : Nat) (A : Option Addr) (n c : Nat) (l : List UInt8) (hnc : n ≤ c) (w : World) (hk : Blk w g 178 #[.slice A n c, .int .i64 0, .bool false]) (hr : RdB w g A n l) (hn : l.length ≤ 200000) :
    Calls Try.prog 87 #[.pointer (some ⟨g, 0, none⟩)] w fun e w' => ∃ (A' : Option Addr) (m c' : Nat) (L : List Rtn) (a' : Nat) (bd' : Bool), e = .returned (.slice A' m c') ∧ RdT w' A' m L ∧ m ≤ 16 ∧ (a' ≤ l.length ∧ (bd' = true → rhd l = none) ∧ (bd' = false → rhd l = if a' = l.length ∧ hsB L = true then some L else none)) ∧ Blk w' g 178 #[.slice A n c, .int .i64 (a' : Int), .bool bd'] ∧ BelowX w.heap.size g w w' := by
  have hgl := hk.lt
  have HR := Lib.hid hr
  clear hr
  have hk0 : Blk w g 178 #[.slice A n c, .int .i64 ((0 : Nat) : Int), .bool false] := hk
  clear hk
  have hk := hk0
  clear hk0
  have hB := BelowX.refl w.heap.size g w
  go_enter Try.func87, Try.ntmps87
  go_wp2_with fail
  have z1 := hk.lt
  refine (number_any g A n c 0 false l 16 (by omega) _ (by repeat (first | with_reducible exact hk | with_reducible (apply Blk.set_) | with_reducible (apply Blk.far; case hp => (simp <;> omega)) | with_reducible (apply Blk.alloc) | with_reducible (apply Blk.drew))) (Reads.below HR.out (BelowX.below (by have hs_ := hB.size; repeat (first | with_reducible exact hB | with_reducible exact BelowX.refl _ _ _ | with_reducible (refine BelowX.setO ?_ (by first | (exact Or.inl rfl) | (exact Or.inr (by simp <;> omega))) _) | with_reducible (refine BelowX.al ?_ (by first | exact hs_ | (simp <;> omega)) _) | with_reducible (refine BelowX.drew ?_))) (Nat.le_of_lt hgl) (Nat.le_refl _))) hn (by omega)).mono ?_
  rintro e w0 ⟨m, a0, b0, rfl, h0, hk_, bB⟩
  have hBs := hB.size
  replace hB := BelowX.via (B := w.heap.size) (u := w) (by have hs_ := hB.size; repeat (first | with_reducible exact hB | with_reducible exact BelowX.refl _ _ _ | with_reducible (refine BelowX.setO ?_ (by first | (exact Or.inl rfl) | (exact Or.inr (by simp <;> omega))) _) | with_reducible (refine BelowX.al ?_ (by first | exact hs_ | (simp <;> omega)) _) | with_reducible (refine BelowX.drew ?_))) (by first | omega | (simp <;> omega)) bB
  clear hBs
  replace hk := hk_
  clear hk_
  clear z1
  clear bB
  have H0 := Lib.hid (hsS_of h0)
  have hm := h0.1
  clear h0
  have hwm : IntKind.i64.wrap (m : Int) = (m : Int) := by rw [IntKind.wrap_i64]; omega
  go_wp2_with fail
  go_loopw [3, 9] (fun v i wr => ∃ (j : Nat) (A1 : Option Addr) (c1 : Nat) (L : List Rtn) (a1 : Nat) (b1 : Bool), j ≤ m ∧ i = .int .i64 (j : Int) ∧ v = .slice A1 j c1 ∧ wr.ownsRow w.heap.size 94 6 (.slice A1 j c1) j (L.map rtC).flatten ∧ L.length = j ∧ (∀ x ∈ L, rtOk x) ∧ HsS l m j L a1 b1 ∧ Blk wr g 178 #[.slice A n c, .int .i64 (a1 : Int), .bool b1] ∧ BelowX w.heap.size g w wr) (fun _ i _ => m - (intOf i).toNat)
  case atStart => exact ⟨0, none, 0, [], a0, b0, by omega, rfl, rfl, World.ownsRow_nil _ _ _ _, rfl, by simp, H0.out, hk, hB⟩
  case round =>
    clear hk hB H0
    obtain ⟨j, A1, c1, L, a1, b1, hj, rfl, rfl, o1, hL, hok, hS, hk, hB⟩ := hrel
    have HS := Lib.hid hS
    have i1 := hS.2.2
    have HL := Lib.hid hL
    have HO := Lib.hid hok
    clear hS hL hok
    by_cases hlt : j < m
    · have ne_o1_hk : (Value.slice A1 j c1).ownBlock ≠ some g := own_not_lt o1 hgl
      go_wp2_with fail
      have z2 := hk.lt
      with_reducible refine (byte_any g A n c a1 b1 l hnc _ (by repeat (first | with_reducible exact hk | with_reducible (apply Blk.set_) | with_reducible (apply Blk.far; case hp => (simp <;> omega)) | with_reducible (apply Blk.alloc) | with_reducible (apply Blk.drew))) (Reads.below HR.out (BelowX.below (by have hs_ := hB.size; repeat (first | with_reducible exact hB | with_reducible exact BelowX.refl _ _ _ | with_reducible (refine BelowX.setO ?_ (by first | (exact Or.inl rfl) | (exact Or.inr (by simp <;> omega))) _) | with_reducible (refine BelowX.al ?_ (by first | exact hs_ | (simp <;> omega)) _) | with_reducible (refine BelowX.drew ?_))) (Nat.le_of_lt hgl) (Nat.le_refl _))) hn i1).mono ?_
      rintro e w1 ⟨x, a2, b2, rfl, h2, hk_, bB⟩
      replace o1 := own_viax (by repeat (first | with_reducible exact o1 | (with_reducible apply own_set_; case hne => first | exact ne_o1_hk) | with_reducible (apply own_alloc_) | with_reducible (apply own_drew_))) ne_o1_hk bB
      have hBs := hB.size
      replace hB := BelowX.via (B := w.heap.size) (u := w) (by have hs_ := hB.size; repeat (first | with_reducible exact hB | with_reducible exact BelowX.refl _ _ _ | with_reducible (refine BelowX.setO ?_ (by first | (exact Or.inl rfl) | (exact Or.inr (by simp <;> omega))) _) | with_reducible (refine BelowX.al ?_ (by first | exact hs_ | (simp <;> omega)) _) | with_reducible (refine BelowX.drew ?_))) (by first | omega | (simp <;> omega)) bB
      clear hBs
      replace hk := hk_
      clear hk_
      clear z2
      clear bB
      have H2 := Lib.hid h2
      have i2 := h2.2.1
      have j2 := h2.1
      clear h2
      go_wp2_with fail
      have z3 := hk.lt
      refine (number_any g A n c a2 b2 l 18446744073709551615 (by omega) _ (by repeat (first | with_reducible exact hk | with_reducible (apply Blk.set_) | with_reducible (apply Blk.far; case hp => (simp <;> omega)) | with_reducible (apply Blk.alloc) | with_reducible (apply Blk.drew))) (Reads.below HR.out (BelowX.below (by have hs_ := hB.size; repeat (first | with_reducible exact hB | with_reducible exact BelowX.refl _ _ _ | with_reducible (refine BelowX.setO ?_ (by first | (exact Or.inl rfl) | (exact Or.inr (by simp <;> omega))) _) | with_reducible (refine BelowX.al ?_ (by first | exact hs_ | (simp <;> omega)) _) | with_reducible (refine BelowX.drew ?_))) (Nat.le_of_lt hgl) (Nat.le_refl _))) hn i2).mono ?_
      rintro e w2 ⟨v1, a3, b3, rfl, h3, hk_, bB⟩
      have ne_o1_hx : (Value.slice A1 j c1).ownBlock ≠ some w1.heap.size := own_not_ge o1 (by omega)
      have o_hk_hx : g < w1.heap.size := (by omega)
      have ow_hx : w.heap.size ≤ w1.heap.size := (by have := hB.size; omega)
      have rd_hx : w1.heap.size ≠ g := (by omega)
      replace o1 := own_viax (by repeat (first | with_reducible exact o1 | (with_reducible apply own_set_; case hne => first | exact ne_o1_hk) | with_reducible (apply own_alloc_) | with_reducible (apply own_drew_))) ne_o1_hk bB
      have hx := Blk.viax (g := w1.heap.size) (t := 94) bB rd_hx (by repeat (first | with_reducible exact Blk.newAt (by simp) _ _ | with_reducible (apply Blk.set_) | with_reducible (apply Blk.far; case hp => (simp <;> omega)) | with_reducible (apply Blk.alloc) | with_reducible (apply Blk.drew)))
      replace hx : Blk w2 w1.heap.size 94 #[.int .u8 (x : Int), .int .u64 0, .int .u64 0, .int .u64 0, .int .u64 0, .int .i64 0] := hx
      have hBs := hB.size
      replace hB := BelowX.via (B := w.heap.size) (u := w) (by have hs_ := hB.size; repeat (first | with_reducible exact hB | with_reducible exact BelowX.refl _ _ _ | with_reducible (refine BelowX.setO ?_ (by first | (exact Or.inl rfl) | (exact Or.inr (by simp <;> omega))) _) | with_reducible (refine BelowX.al ?_ (by first | exact hs_ | (simp <;> omega)) _) | with_reducible (refine BelowX.drew ?_))) (by first | omega | (simp <;> omega)) bB
      clear hBs
      replace hk := hk_
      clear hk_
      clear z3
      clear bB
      generalize w1.heap.size = q at *
      have H3 := Lib.hid h3
      have i3 := h3.2.1
      clear h3
      have z4 : w2.cell? ⟨q, 0, none⟩ = some (.int .u8 (x : Int)) := (hx.cell 0).trans rfl
      have z5 := hx.frozen 0
      have z6 : w2.cell? ⟨q, 1, none⟩ = some (.int .u64 0) := (hx.cell 1).trans rfl
      have z7 := hx.frozen 1
      have z8 : w2.cell? ⟨q, 2, none⟩ = some (.int .u64 0) := (hx.cell 2).trans rfl
      have z9 := hx.frozen 2
      have z10 : w2.cell? ⟨q, 3, none⟩ = some (.int .u64 0) := (hx.cell 3).trans rfl
      have z11 := hx.frozen 3
      have z12 : w2.cell? ⟨q, 4, none⟩ = some (.int .u64 0) := (hx.cell 4).trans rfl
      have z13 := hx.frozen 4
      have z14 : w2.cell? ⟨q, 5, none⟩ = some (.int .i64 0) := (hx.cell 5).trans rfl
      have z15 := hx.frozen 5
      have z16 := hk.lt
      have z17 := hx.lt
      go_wp2_with fail
      refine (base27_any j _ (by omega)).mono ?_
      rintro e wq ⟨rfl, rfl⟩
      obtain ⟨bs, hbs⟩ : ∃ bs, 16777216 * (j + 1) = bs := ⟨_, rfl⟩
      rw [hbs]
      go_wp2_with fail
      have z18 := hk.lt
      have z19 := hx.lt
      refine (number_any g A n c a3 b3 l 512 (by omega) _ (by repeat (first | with_reducible exact hk | with_reducible (apply Blk.set_) | with_reducible (apply Blk.far; case hp => (simp <;> omega)) | with_reducible (apply Blk.alloc) | with_reducible (apply Blk.drew))) (Reads.below HR.out (BelowX.below (by have hs_ := hB.size; repeat (first | with_reducible exact hB | with_reducible exact BelowX.refl _ _ _ | with_reducible (refine BelowX.setO ?_ (by first | (exact Or.inl rfl) | (exact Or.inr (by simp <;> omega))) _) | with_reducible (refine BelowX.al ?_ (by first | exact hs_ | (simp <;> omega)) _) | with_reducible (refine BelowX.drew ?_))) (Nat.le_of_lt hgl) (Nat.le_refl _))) hn i3).mono ?_
      rintro e w3 ⟨v2, a4, b4, rfl, h4, hk_, bB⟩
      replace hx := Blk.viax (g := q) (t := 94) bB rd_hx (by repeat (first | with_reducible exact hx | with_reducible (apply Blk.set_) | with_reducible (apply Blk.far; case hp => (simp <;> omega)) | with_reducible (apply Blk.alloc) | with_reducible (apply Blk.drew)))
      replace hx : Blk w3 q 94 #[.int .u8 (x : Int), .int .u64 (v1 : Int), .int .u64 0, .int .u64 0, .int .u64 0, .int .i64 0] := hx
      replace o1 := own_viax (by repeat (first | with_reducible exact o1 | (with_reducible apply own_set_; case hne => first | exact ne_o1_hk | exact ne_o1_hx) | with_reducible (apply own_alloc_) | with_reducible (apply own_drew_))) ne_o1_hk bB
      have hBs := hB.size
      replace hB := BelowX.via (B := w.heap.size) (u := w) (by have hs_ := hB.size; repeat (first | with_reducible exact hB | with_reducible exact BelowX.refl _ _ _ | with_reducible (refine BelowX.setO ?_ (by first | (exact Or.inl rfl) | (exact Or.inr (by simp <;> omega))) _) | with_reducible (refine BelowX.al ?_ (by first | exact hs_ | (simp <;> omega)) _) | with_reducible (refine BelowX.drew ?_))) (by first | omega | (simp <;> omega)) bB
      clear hBs
      replace hk := hk_
      clear hk_
      clear z4 z5 z6 z7 z8 z9 z10 z11 z12 z13 z14 z15 z16 z17 z18 z19
      clear bB
      have H4 := Lib.hid h4
      have i4 := h4.2.1
      have k4 := h4.1
      clear h4
      have hw1 : IntKind.u64.wrap (8 * (v2 : Int)) = ((8 * v2 : Nat) : Int) := by rw [IntKind.wrap_u64]; omega
      obtain ⟨e8, he8⟩ : ∃ e8, 8 * v2 = e8 := ⟨_, rfl⟩
      rw [he8] at hw1
      have hw2 : IntKind.u64.wrap ((bs : Int) + (e8 : Int)) = ((bs + e8 : Nat) : Int) := by rw [IntKind.wrap_u64]; omega
      obtain ⟨sp, hsp⟩ : ∃ sp, bs + e8 = sp := ⟨_, rfl⟩
      rw [hsp] at hw2
      have HSP := Lib.hid (show 16777216 * (j + 1) + 8 * v2 = sp from by omega)
      clear hbs he8 hsp
      have z20 : w3.cell? ⟨q, 0, none⟩ = some (.int .u8 (x : Int)) := (hx.cell 0).trans rfl
      have z21 := hx.frozen 0
      have z22 : w3.cell? ⟨q, 1, none⟩ = some (.int .u64 (v1 : Int)) := (hx.cell 1).trans rfl
      have z23 := hx.frozen 1
      have z24 : w3.cell? ⟨q, 2, none⟩ = some (.int .u64 0) := (hx.cell 2).trans rfl
      have z25 := hx.frozen 2
      have z26 : w3.cell? ⟨q, 3, none⟩ = some (.int .u64 0) := (hx.cell 3).trans rfl
      have z27 := hx.frozen 3
      have z28 : w3.cell? ⟨q, 4, none⟩ = some (.int .u64 0) := (hx.cell 4).trans rfl
      have z29 := hx.frozen 4
      have z30 : w3.cell? ⟨q, 5, none⟩ = some (.int .i64 0) := (hx.cell 5).trans rfl
      have z31 := hx.frozen 5
      have z32 := hk.lt
      have z33 := hx.lt
      go_wp2_with fail
      have z34 := hk.lt
      have z35 := hx.lt
      with_reducible refine (eight_any g A n c a4 b4 l _ (by repeat (first | with_reducible exact hk | with_reducible (apply Blk.set_) | with_reducible (apply Blk.far; case hp => (simp <;> omega)) | with_reducible (apply Blk.alloc) | with_reducible (apply Blk.drew))) (Reads.below HR.out (BelowX.below (by have hs_ := hB.size; repeat (first | with_reducible exact hB | with_reducible exact BelowX.refl _ _ _ | with_reducible (refine BelowX.setO ?_ (by first | (exact Or.inl rfl) | (exact Or.inr (by simp <;> omega))) _) | with_reducible (refine BelowX.al ?_ (by first | exact hs_ | (simp <;> omega)) _) | with_reducible (refine BelowX.drew ?_))) (Nat.le_of_lt hgl) (Nat.le_refl _))) hn i4).mono ?_
      rintro e w4 ⟨v3, a5, b5, rfl, h5, hk_, bB⟩
      replace hx := Blk.viax (g := q) (t := 94) bB rd_hx (by repeat (first | with_reducible exact hx | with_reducible (apply Blk.set_) | with_reducible (apply Blk.far; case hp => (simp <;> omega)) | with_reducible (apply Blk.alloc) | with_reducible (apply Blk.drew)))
      replace hx : Blk w4 q 94 #[.int .u8 (x : Int), .int .u64 (v1 : Int), .int .u64 (sp : Int), .int .u64 0, .int .u64 0, .int .i64 0] := hx
      replace o1 := own_viax (by repeat (first | with_reducible exact o1 | (with_reducible apply own_set_; case hne => first | exact ne_o1_hk | exact ne_o1_hx) | with_reducible (apply own_alloc_) | with_reducible (apply own_drew_))) ne_o1_hk bB
      have hBs := hB.size
      replace hB := BelowX.via (B := w.heap.size) (u := w) (by have hs_ := hB.size; repeat (first | with_reducible exact hB | with_reducible exact BelowX.refl _ _ _ | with_reducible (refine BelowX.setO ?_ (by first | (exact Or.inl rfl) | (exact Or.inr (by simp <;> omega))) _) | with_reducible (refine BelowX.al ?_ (by first | exact hs_ | (simp <;> omega)) _) | with_reducible (refine BelowX.drew ?_))) (by first | omega | (simp <;> omega)) bB
      clear hBs
      replace hk := hk_
      clear hk_
      clear z20 z21 z22 z23 z24 z25 z26 z27 z28 z29 z30 z31 z32 z33 z34 z35
      clear bB
      have H5 := Lib.hid h5
      have i5 := h5.2.1
      clear h5
      obtain ⟨df, hdf⟩ : ∃ df, 8 * v3 = df := ⟨_, rfl⟩
      rw [hdf]
      have HDF := Lib.hid hdf
      clear hdf
      have z36 : w4.cell? ⟨q, 0, none⟩ = some (.int .u8 (x : Int)) := (hx.cell 0).trans rfl
      have z37 := hx.frozen 0
      have z38 : w4.cell? ⟨q, 1, none⟩ = some (.int .u64 (v1 : Int)) := (hx.cell 1).trans rfl
      have z39 := hx.frozen 1
      have z40 : w4.cell? ⟨q, 2, none⟩ = some (.int .u64 (sp : Int)) := (hx.cell 2).trans rfl
      have z41 := hx.frozen 2
      have z42 : w4.cell? ⟨q, 3, none⟩ = some (.int .u64 0) := (hx.cell 3).trans rfl
      have z43 := hx.frozen 3
      have z44 : w4.cell? ⟨q, 4, none⟩ = some (.int .u64 0) := (hx.cell 4).trans rfl
      have z45 := hx.frozen 4
      have z46 : w4.cell? ⟨q, 5, none⟩ = some (.int .i64 0) := (hx.cell 5).trans rfl
      have z47 := hx.frozen 5
      have z48 := hk.lt
      have z49 := hx.lt
      go_wp2_with fail
      have z50 := hk.lt
      have z51 := hx.lt
      with_reducible refine (eight_any g A n c a5 b5 l _ (by repeat (first | with_reducible exact hk | with_reducible (apply Blk.set_) | with_reducible (apply Blk.far; case hp => (simp <;> omega)) | with_reducible (apply Blk.alloc) | with_reducible (apply Blk.drew))) (Reads.below HR.out (BelowX.below (by have hs_ := hB.size; repeat (first | with_reducible exact hB | with_reducible exact BelowX.refl _ _ _ | with_reducible (refine BelowX.setO ?_ (by first | (exact Or.inl rfl) | (exact Or.inr (by simp <;> omega))) _) | with_reducible (refine BelowX.al ?_ (by first | exact hs_ | (simp <;> omega)) _) | with_reducible (refine BelowX.drew ?_))) (Nat.le_of_lt hgl) (Nat.le_refl _))) hn i5).mono ?_
      rintro e w5 ⟨v4, a6, b6, rfl, h6, hk_, bB⟩
      replace hx := Blk.viax (g := q) (t := 94) bB rd_hx (by repeat (first | with_reducible exact hx | with_reducible (apply Blk.set_) | with_reducible (apply Blk.far; case hp => (simp <;> omega)) | with_reducible (apply Blk.alloc) | with_reducible (apply Blk.drew)))
      replace hx : Blk w5 q 94 #[.int .u8 (x : Int), .int .u64 (v1 : Int), .int .u64 (sp : Int), .int .u64 0, .int .u64 0, .int .i64 0] := hx
      replace o1 := own_viax (by repeat (first | with_reducible exact o1 | (with_reducible apply own_set_; case hne => first | exact ne_o1_hk | exact ne_o1_hx) | with_reducible (apply own_alloc_) | with_reducible (apply own_drew_))) ne_o1_hk bB
      have hBs := hB.size
      replace hB := BelowX.via (B := w.heap.size) (u := w) (by have hs_ := hB.size; repeat (first | with_reducible exact hB | with_reducible exact BelowX.refl _ _ _ | with_reducible (refine BelowX.setO ?_ (by first | (exact Or.inl rfl) | (exact Or.inr (by simp <;> omega))) _) | with_reducible (refine BelowX.al ?_ (by first | exact hs_ | (simp <;> omega)) _) | with_reducible (refine BelowX.drew ?_))) (by first | omega | (simp <;> omega)) bB
      clear hBs
      replace hk := hk_
      clear hk_
      clear z36 z37 z38 z39 z40 z41 z42 z43 z44 z45 z46 z47 z48 z49 z50 z51
      clear bB
      have H6 := Lib.hid h6
      have i6 := h6.2.1
      clear h6
      obtain ⟨pn, hpn⟩ : ∃ pn, 8 * v4 = pn := ⟨_, rfl⟩
      rw [hpn]
      have HPN := Lib.hid hpn
      clear hpn
      have z52 : w5.cell? ⟨q, 0, none⟩ = some (.int .u8 (x : Int)) := (hx.cell 0).trans rfl
      have z53 := hx.frozen 0
      have z54 : w5.cell? ⟨q, 1, none⟩ = some (.int .u64 (v1 : Int)) := (hx.cell 1).trans rfl
      have z55 := hx.frozen 1
      have z56 : w5.cell? ⟨q, 2, none⟩ = some (.int .u64 (sp : Int)) := (hx.cell 2).trans rfl
      have z57 := hx.frozen 2
      have z58 : w5.cell? ⟨q, 3, none⟩ = some (.int .u64 0) := (hx.cell 3).trans rfl
      have z59 := hx.frozen 3
      have z60 : w5.cell? ⟨q, 4, none⟩ = some (.int .u64 0) := (hx.cell 4).trans rfl
      have z61 := hx.frozen 4
      have z62 : w5.cell? ⟨q, 5, none⟩ = some (.int .i64 0) := (hx.cell 5).trans rfl
      have z63 := hx.frozen 5
      have z64 := hk.lt
      have z65 := hx.lt
      go_wp2_with fail
      have z66 := hk.lt
      have z67 := hx.lt
      with_reducible refine (rsig_any g A n c a6 b6 l _ (by repeat (first | with_reducible exact hk | with_reducible (apply Blk.set_) | with_reducible (apply Blk.far; case hp => (simp <;> omega)) | with_reducible (apply Blk.alloc) | with_reducible (apply Blk.drew))) (Reads.below HR.out (BelowX.below (by have hs_ := hB.size; repeat (first | with_reducible exact hB | with_reducible exact BelowX.refl _ _ _ | with_reducible (refine BelowX.setO ?_ (by first | (exact Or.inl rfl) | (exact Or.inr (by simp <;> omega))) _) | with_reducible (refine BelowX.al ?_ (by first | exact hs_ | (simp <;> omega)) _) | with_reducible (refine BelowX.drew ?_))) (Nat.le_of_lt hgl) (Nat.le_refl _))) hn i6).mono ?_
      rintro e w6 ⟨v5, a7, b7, rfl, h7, hk_, bB⟩
      replace hx := Blk.viax (g := q) (t := 94) bB rd_hx (by repeat (first | with_reducible exact hx | with_reducible (apply Blk.set_) | with_reducible (apply Blk.far; case hp => (simp <;> omega)) | with_reducible (apply Blk.alloc) | with_reducible (apply Blk.drew)))
      replace hx : Blk w6 q 94 #[.int .u8 (x : Int), .int .u64 (v1 : Int), .int .u64 (sp : Int), .int .u64 (df : Int), .int .u64 (pn : Int), .int .i64 0] := hx
      replace o1 := own_viax (by repeat (first | with_reducible exact o1 | (with_reducible apply own_set_; case hne => first | exact ne_o1_hk | exact ne_o1_hx) | with_reducible (apply own_alloc_) | with_reducible (apply own_drew_))) ne_o1_hk bB
      have hBs := hB.size
      replace hB := BelowX.via (B := w.heap.size) (u := w) (by have hs_ := hB.size; repeat (first | with_reducible exact hB | with_reducible exact BelowX.refl _ _ _ | with_reducible (refine BelowX.setO ?_ (by first | (exact Or.inl rfl) | (exact Or.inr (by simp <;> omega))) _) | with_reducible (refine BelowX.al ?_ (by first | exact hs_ | (simp <;> omega)) _) | with_reducible (refine BelowX.drew ?_))) (by first | omega | (simp <;> omega)) bB
      clear hBs
      replace hk := hk_
      clear hk_
      clear z52 z53 z54 z55 z56 z57 z58 z59 z60 z61 z62 z63 z64 z65 z66 z67
      clear bB
      have H7 := Lib.hid h7
      clear h7
      obtain ⟨ky, hky⟩ : ∃ ky, hlf v5 = ky := ⟨_, rfl⟩
      rw [hky]
      have HKY := Lib.hid hky
      clear hky
      have HST := Lib.hid (hsS_step HS.out hlt H2.out H3.out H4.out H5.out H6.out H7.out)
      have HOK := Lib.hid (rtOk_of (j := j) (by omega) H2.out H3.out H4.out H5.out H6.out H7.out)
      rw [HSP.out, HDF.out, HPN.out, HKY.out] at HST HOK
      clear H2 H3 H4 H5 H6 H7 HS
      have z68 : w6.cell? ⟨q, 0, none⟩ = some (.int .u8 (x : Int)) := (hx.cell 0).trans rfl
      have z69 := hx.frozen 0
      have z70 : w6.cell? ⟨q, 1, none⟩ = some (.int .u64 (v1 : Int)) := (hx.cell 1).trans rfl
      have z71 := hx.frozen 1
      have z72 : w6.cell? ⟨q, 2, none⟩ = some (.int .u64 (sp : Int)) := (hx.cell 2).trans rfl
      have z73 := hx.frozen 2
      have z74 : w6.cell? ⟨q, 3, none⟩ = some (.int .u64 (df : Int)) := (hx.cell 3).trans rfl
      have z75 := hx.frozen 3
      have z76 : w6.cell? ⟨q, 4, none⟩ = some (.int .u64 (pn : Int)) := (hx.cell 4).trans rfl
      have z77 := hx.frozen 4
      have z78 : w6.cell? ⟨q, 5, none⟩ = some (.int .i64 0) := (hx.cell 5).trans rfl
      have z79 := hx.frozen 5
      have z80 := hk.lt
      have z81 := hx.lt
      go_wp2_with (at_builtin; refine wpList_app rfl (.tmp 34) (.tmp 36) _ rfl slRT w.heap.size (.slice A1 j c1) j _ (by rfl) (by repeat (first | with_reducible exact o1 | (with_reducible apply own_set_; case hne => first | exact ne_o1_hk | exact ne_o1_hx) | with_reducible (apply own_alloc_) | with_reducible (apply own_drew_))) _ _ 1 1 [.int .u8 (x : Int), .int .u64 (v1 : Int), .int .u64 (sp : Int), .int .u64 (df : Int), .int .u64 (pn : Int), .int .i64 ky] rfl (reads_blk (t := 94) (cs := #[.int .u8 (x : Int), .int .u64 (v1 : Int), .int .u64 (sp : Int), .int .u64 (df : Int), .int .u64 (pn : Int), .int .i64 ky]) (Blk.newAt (by simp) _ _) 6 1 rfl) (by simp [Value.oneCell']) (by omega) (by have hs_ := hB.size; simp <;> omega) ?_; intro A7 c7 w7 o7 hg_ b_ hc_; have nw_hk : Blk w7 g 178 #[.slice A n c, .int .i64 (a7 : Int), .bool b7] := Blk.grown (by repeat (first | with_reducible exact hk | with_reducible (apply Blk.set_) | with_reducible (apply Blk.far; case hp => (simp <;> omega)) | with_reducible (apply Blk.alloc) | with_reducible (apply Blk.drew))) hg_ (fun e_ => ne_o1_hk e_.symm); replace hB : BelowX w.heap.size g w w7 := BelowX.trans (by have hs_ := hB.size; repeat (first | with_reducible exact hB | with_reducible exact BelowX.refl _ _ _ | with_reducible (refine BelowX.setO ?_ (by first | (exact Or.inl rfl) | (exact Or.inr (by simp <;> omega))) _) | with_reducible (refine BelowX.al ?_ (by first | exact hs_ | (simp <;> omega)) _) | with_reducible (refine BelowX.drew ?_))) (BelowX.of b_ g); replace hk := nw_hk; clear nw_hk; clear hx; clear hg_ b_; clear z68 z69 z70 z71 z72 z73 z74 z75 z76 z77 z78 z79 z80 z81)
      go_roundw
      case rel => exact ⟨j + 1, A7, c7, L ++ [(x, v1, sp, df, pn, ky)], a7, b7, by omega, by go_num, rfl, by simpa [rtC] using o7, by simp [HL.out], by intro y hy; rcases List.mem_append.1 hy with h | h; exact HO.out y h; simp at h; subst h; exact HOK.out, HST.out, hk, hB⟩
      case measure => simp [intOf]; omega
    · obtain rfl : j = m := by omega
      go_wp2_with fail
      go_ret
      exact ⟨A1, j, c1, L, a1, b1, rfl, ⟨HL.out, own_reads o1, HO.out⟩, hm, by have h := HS.out; exact hsS_end h, hk, hB⟩

end Go.Proofs.Ytldaijkcmnnjpaa
