/- The walk of OpsSlots. -/
import Derived.Test.YtkhdeoihjnpnaaaOps7
import Derived.BigQuiet
import Derived.Deep.QuietTactic
namespace Go.Proofs.Ytkhdeoihjnpnaaa
open Go.RowKit Wire
set_option linter.unusedVariables false

theorem ck_08 (op : Nat) (x y z : Int) : ckI op x y z = 0 ∨ ckI op x y z = 8 := by
  unfold ckI
  by_cases h : (shp op).2 < 0
  · rw [if_pos h]; exact .inr rfl
  rw [if_neg h]
  by_cases h2 : fitL (shp op).1 [x, y, z] = true
  · rw [if_pos h2]; exact .inl rfl
  · rw [if_neg h2]; exact .inr rfl
def useOk (p : List Use × Int) : Bool := match p.1 with
  | [a, b, c] => decide (a.2.2.1.toNat + a.2.2.2.toNat ≤ 1 ∧ b.2.2.1.toNat + b.2.2.2.toNat ≤ 1 ∧ c.2.2.1.toNat + c.2.2.2.toNat ≤ 1 ∧ a.2.2.2.toNat + b.2.2.2.toNat + c.2.2.2.toNat ≤ 2) &&
      (((a.2.2.1 || a.2.2.2) → a.2.1 = 15) && ((b.2.2.1 || b.2.2.2) → b.2.1 = 15) && ((c.2.2.1 || c.2.2.2) → c.2.1 = 15))
  | _ => false
theorem shp_ok (op : Nat) : useOk (shp op) = true := by
  rcases shp_mem op with h | h
  · exact List.all_eq_true.1 (show shT.all useOk = true from by decide) _ h
  · rw [h]; decide
theorem opt_len (b : Bool) (v : Int) : (if b && decide (0 ≤ v) then [v] else []).length ≤ b.toNat := by
  cases b
  · simp
  · by_cases h : 0 ≤ v <;> simp [h]
theorem sl_len (op : Nat) (x y z : Int) : (slW op x y z).length ≤ 2 ∧ (slR op x y z).length + (slW op x y z).length ≤ 3 := by
  unfold slR slW
  by_cases hc : ckI op x y z = 0
  rotate_left
  · rw [if_neg hc, if_neg hc]; simp
  rw [if_pos hc, if_pos hc]
  have h := shp_ok op
  obtain ⟨a1, a2, a3, a4, b1, b2, b3, b4, c1, c2, c3, c4, n, hs, _, _⟩ := shp_form op
  rw [hs] at h ⊢
  simp only [useOk, Bool.and_eq_true, decide_eq_true_eq] at h
  have e1 := opt_len a3 x
  have e2 := opt_len b3 y
  have e3 := opt_len c3 z
  have e4 := opt_len a4 x
  have e5 := opt_len b4 y
  have e6 := opt_len c4 z
  simp only [selU, List.length_append, List.append_nil] at e1 e2 e3 e4 e5 e6 ⊢
  omega
theorem opt_mem {b : Bool} {v u : Int} (h : u ∈ (if b && decide (0 ≤ v) then [v] else [])) : b = true ∧ 0 ≤ v ∧ u = v := by
  by_cases hb : (b && decide (0 ≤ v)) = true
  · rw [if_pos hb] at h
    simp at h hb
    exact ⟨hb.1, hb.2, h⟩
  · rw [if_neg hb] at h; cases h
theorem sl_mem {op : Nat} {x y z v : Int} (h : v ∈ slR op x y z ++ slW op x y z) : 0 ≤ v ∧ v ≤ 15 ∧ (v = x ∨ v = y ∨ v = z) := by
  unfold slR slW at h
  by_cases hc : ckI op x y z = 0
  rotate_left
  · rw [if_neg hc, if_neg hc] at h; cases h
  rw [if_pos hc, if_pos hc] at h
  have h0 := shp_ok op
  obtain ⟨a1, a2, a3, a4, b1, b2, b3, b4, c1, c2, c3, c4, n, hs, _, _⟩ := shp_form op
  have hp := ck_parts hc hs
  rw [hs] at h h0
  simp only [useOk, Bool.and_eq_true, decide_eq_true_eq] at h0
  obtain ⟨_, ⟨ha, hb⟩, hcc⟩ := h0
  simp only [selU, List.append_nil, List.mem_append] at h
  simp only at hp
  obtain ⟨_, hpa, hpb, hpc⟩ := hp
  rcases h with (h | h | h) | (h | h | h)
  all_goals obtain ⟨e1, e2, rfl⟩ := opt_mem h
  · have := ha (by simp [e1]); omega
  · have := hb (by simp [e1]); omega
  · have := hcc (by simp [e1]); omega
  · have := ha (by simp [e1]); omega
  · have := hb (by simp [e1]); omega
  · have := hcc (by simp [e1]); omega
theorem one_I (l : List Int) : ∀ u ∈ l.map vI, u.oneCell' = true := by
  intro u hu
  obtain ⟨a, _, rfl⟩ := List.mem_map.1 hu
  rfl

set_option maxRecDepth 100000 in
set_option maxHeartbeats 6400000 in
theorem opsSlots_walk (w : World) (op : Nat) (x y z : Int) (hop : op < 256) (hx : (-9223372036854775808 ≤ x ∧ x ≤ 9223372036854775807)) (hy : (-9223372036854775808 ≤ y ∧ y ≤ 9223372036854775807)) (hz : (-9223372036854775808 ≤ z ∧ z ≤ 9223372036854775807)) (n : Int) (hn : (-9223372036854775808 ≤ n ∧ n ≤ 9223372036854775807)) :
    Calls Try.prog 3 #[insV op x y z, .int .i64 n] w fun e w' => e = .returned (.bool true) ∧ Below w.heap.size w w' := by
  have hB : Below w.heap.size w (w.alloc (.cells #[.int .u8 (op : Int), .int .i64 x, .int .i64 y, .int .i64 z] 23)) := (Below.alloc (Below.refl w.heap.size w) (by simp <;> omega) (.cells #[.int .u8 (op : Int), .int .i64 x, .int .i64 y, .int .i64 z] 23))
  have hq := Blk.new w 23 #[.int .u8 (op : Int), .int .i64 x, .int .i64 y, .int .i64 z]
  go_enter Try.func3, Try.ntmps3
  have z1 : (w.alloc (.cells #[.int .u8 (op : Int), .int .i64 x, .int .i64 y, .int .i64 z] 23)).cell? ⟨w.heap.size, 0, none⟩ = some (.int .u8 (op : Int)) := (hq.cell 0).trans rfl
  have z2 := hq.frozen 0
  have z3 : (w.alloc (.cells #[.int .u8 (op : Int), .int .i64 x, .int .i64 y, .int .i64 z] 23)).cell? ⟨w.heap.size, 1, none⟩ = some (.int .i64 x) := (hq.cell 1).trans rfl
  have z4 := hq.frozen 1
  have z5 : (w.alloc (.cells #[.int .u8 (op : Int), .int .i64 x, .int .i64 y, .int .i64 z] 23)).cell? ⟨w.heap.size, 2, none⟩ = some (.int .i64 y) := (hq.cell 2).trans rfl
  have z6 := hq.frozen 2
  have z7 : (w.alloc (.cells #[.int .u8 (op : Int), .int .i64 x, .int .i64 y, .int .i64 z] 23)).cell? ⟨w.heap.size, 3, none⟩ = some (.int .i64 z) := (hq.cell 3).trans rfl
  have z8 := hq.frozen 3
  have z9 := hq.lt
  go_wp2_with fail
  obtain ⟨E, hE⟩ : ∃ E, ckI op x y z = E := ⟨_, rfl⟩
  have HE := Lib.hid hE
  have H08 := ck_08 op x y z
  have HSL := sl_len op x y z
  have HMEM := Lib.hid (fun v => sl_mem (op := op) (x := x) (y := y) (z := z) (v := v))
  have HS := fun W => slots_any op hop x y z W
  unfold SlP at HS
  rw [hE] at HS H08
  obtain ⟨RR, hRR⟩ : ∃ E, slR op x y z = E := ⟨_, rfl⟩
  obtain ⟨WW, hWW⟩ : ∃ E, slW op x y z = E := ⟨_, rfl⟩
  rw [hRR, hWW] at HS HSL HMEM
  have HRR := Lib.hid hRR
  have HWW := Lib.hid hWW
  clear hE hRR hWW
  obtain ⟨hl2, hl3⟩ := HSL
  refine (HS _).mono ?_
  rintro e w1 ⟨A1, c1, A2, c2, rfl, o1, o2, bB⟩
  have ne_o1_hq : (Value.slice A1 RR.length c1).ownBlock ≠ some w.heap.size := own_not_lt o1 (by first | omega | (simp <;> omega))
  have ne_o2_hq : (Value.slice A2 WW.length c2).ownBlock ≠ some w.heap.size := own_not_lt o2 (by first | omega | (simp <;> omega))
  replace o1 := own_low o1 (show w.heap.size ≤ _ from by have hs_ := hB.size; simp <;> omega)
  replace o2 := own_low o2 (show w.heap.size ≤ _ from by have hs_ := hB.size; simp <;> omega)
  replace hq := Blk.via0 (g := w.heap.size) (t := 23) bB (by repeat (first | with_reducible exact hq | with_reducible (apply Blk.set_) | with_reducible (apply Blk.far; case hp => (simp <;> omega)) | with_reducible (apply Blk.alloc) | with_reducible (apply Blk.drew)))
  replace hq : Blk w1 w.heap.size 23 #[.int .u8 (op : Int), .int .i64 x, .int .i64 y, .int .i64 z] := hq
  replace hB := Below.via (w := w) (by have hs_ := hB.size; repeat (first | with_reducible exact hB | with_reducible (refine Below.setCell ?_ (by simp <;> omega) _) | with_reducible (refine Below.alloc ?_ (by first | exact hs_ | (simp <;> omega)) _) | with_reducible (refine Below.drew ?_))) bB
  clear z1 z2 z3 z4 z5 z6 z7 z8 z9
  clear bB
  clear HS
  have z10 : w1.cell? ⟨w.heap.size, 0, none⟩ = some (.int .u8 (op : Int)) := (hq.cell 0).trans rfl
  have z11 := hq.frozen 0
  have z12 : w1.cell? ⟨w.heap.size, 1, none⟩ = some (.int .i64 x) := (hq.cell 1).trans rfl
  have z13 := hq.frozen 1
  have z14 : w1.cell? ⟨w.heap.size, 2, none⟩ = some (.int .i64 y) := (hq.cell 2).trans rfl
  have z15 := hq.frozen 2
  have z16 : w1.cell? ⟨w.heap.size, 3, none⟩ = some (.int .i64 z) := (hq.cell 3).trans rfl
  have z17 := hq.frozen 3
  have z18 := hq.lt
  rcases H08 with rfl | rfl
  rotate_left
  · go_wp2_with fail
    have HC := fun W => check6_any op hop x y z W
    rw [HE.out] at HC
    refine (HC _).mono ?_
    rintro e v1 ⟨rfl, bB⟩
    replace hq := Blk.via0 (g := w.heap.size) (t := 23) bB (by repeat (first | with_reducible exact hq | with_reducible (apply Blk.set_) | with_reducible (apply Blk.far; case hp => (simp <;> omega)) | with_reducible (apply Blk.alloc) | with_reducible (apply Blk.drew)))
    replace hq : Blk v1 w.heap.size 23 #[.int .u8 (op : Int), .int .i64 x, .int .i64 y, .int .i64 z] := hq
    replace o1 := own_call (by repeat (first | with_reducible exact o1 | (with_reducible apply own_set_; case hne => first | exact ne_o1_hq) | with_reducible (apply own_alloc_) | with_reducible (apply own_drew_))) bB
    replace o2 := own_call (by repeat (first | with_reducible exact o2 | (with_reducible apply own_set_; case hne => first | exact ne_o2_hq) | with_reducible (apply own_alloc_) | with_reducible (apply own_drew_))) bB
    replace hB := Below.via (w := w) (by have hs_ := hB.size; repeat (first | with_reducible exact hB | with_reducible (refine Below.setCell ?_ (by simp <;> omega) _) | with_reducible (refine Below.alloc ?_ (by first | exact hs_ | (simp <;> omega)) _) | with_reducible (refine Below.drew ?_))) bB
    clear z10 z11 z12 z13 z14 z15 z16 z17 z18
    clear bB
    go_wp2_with fail
    refine (alive6_any _).mono ?_
    rintro e v2 ⟨rfl, bB⟩
    replace hq := Blk.via0 (g := w.heap.size) (t := 23) bB (by repeat (first | with_reducible exact hq | with_reducible (apply Blk.set_) | with_reducible (apply Blk.far; case hp => (simp <;> omega)) | with_reducible (apply Blk.alloc) | with_reducible (apply Blk.drew)))
    replace hq : Blk v2 w.heap.size 23 #[.int .u8 (op : Int), .int .i64 x, .int .i64 y, .int .i64 z] := hq
    replace o1 := own_call (by repeat (first | with_reducible exact o1 | (with_reducible apply own_set_; case hne => first | exact ne_o1_hq) | with_reducible (apply own_alloc_) | with_reducible (apply own_drew_))) bB
    replace o2 := own_call (by repeat (first | with_reducible exact o2 | (with_reducible apply own_set_; case hne => first | exact ne_o2_hq) | with_reducible (apply own_alloc_) | with_reducible (apply own_drew_))) bB
    replace hB := Below.via (w := w) (by have hs_ := hB.size; repeat (first | with_reducible exact hB | with_reducible (refine Below.setCell ?_ (by simp <;> omega) _) | with_reducible (refine Below.alloc ?_ (by first | exact hs_ | (simp <;> omega)) _) | with_reducible (refine Below.drew ?_))) bB
    clear bB
    go_wp2_with fail
    go_ret
    exact ⟨rfl, (by have hs_ := hB.size; repeat (first | with_reducible exact hB | with_reducible (refine Below.setCell ?_ (by simp <;> omega) _) | with_reducible (refine Below.alloc ?_ (by first | exact hs_ | (simp <;> omega)) _) | with_reducible (refine Below.drew ?_)))⟩
  have oe := own_empty w1 (Nat.le_refl _) 3 1
  have hE0 := (Below.refl w1.heap.size w1).alloc (Nat.le_refl _) (.cells #[] 3)
  have RR1 := (own_reads o1).mv hE0
  have n1 : RR.length ≤ 3 := by omega
  go_wp2_with (at_builtin; first | (refine wpList_app rfl (.tmp 44) (.tmp 45) _ rfl slI w1.heap.size _ 0 [] rfl oe _ A1 RR.length c1 (RR.map vI) rfl RR1 (one_I RR) (by omega) hE0.size ?_; intro A4 c4 w4 o4 g4 b4 hc4; simp only [Nat.zero_add, List.nil_append] at o4 ⊢; have b14 := hE0.trans b4; have RW1 := (own_reads o2).mv b14; clear RR1 oe hE0) | (refine wpList_app rfl (.tmp 46) (.tmp 47) _ rfl slI w1.heap.size _ RR.length _ rfl o4 _ A2 WW.length c2 (WW.map vI) rfl RW1 (one_I WW) (by omega) b14.size ?_; intro A5 c5 w5 o5 g5 b5 hc5))
  have b15 := b14.trans b5
  obtain ⟨N, hN⟩ : ∃ N, RR.length + WW.length = N := ⟨_, rfl⟩
  rw [hN] at o5 ⊢
  have hN3 : N ≤ 3 := by omega
  rw [← List.map_append] at o5
  have RA := own_reads o5
  replace o1 := own_call o1 b15
  replace o2 := own_call o2 b15
  replace hq := hq.below b15 hq.lt
  replace hB := hB.trans (b15.mono hB.size)
  clear b14 b4 b5 b15 RW1 o4 g4 g5 o5 hc4 hc5
  have HRA := Lib.hid RA
  clear RA
  clear z10 z11 z12 z13 z14 z15 z16 z17 z18
  go_loopw [9] (fun i wr => ∃ j : Nat, j ≤ N ∧ i = .int .i64 (j : Int) ∧ Below w5.heap.size w5 wr) (fun i _ => N - (intOf i).toNat)
  case atStart => exact ⟨0, by omega, rfl, Below.refl _ _⟩
  case round =>
    obtain ⟨j, hj, rfl, hC⟩ := hrel
    by_cases hlt : j < N
    · obtain ⟨ad, v, hA, hab, hv, hc⟩ := (HRA.out.mv hC).int hlt
      obtain ⟨v0, v15, hv3⟩ := HMEM.out v (List.mem_of_getElem? hv)
      clear hv
      subst hA
      have hq2 := hq.below hC hq.lt
      have Y0 : ∀ n, (wr.drewN n).cell? (ad.add j) = some (.int .i64 v) := fun n => hc
      have Y1 : ∀ n, (wr.drewN n).cell? ⟨w.heap.size, 1, none⟩ = some (.int .i64 x) := fun n => (hq2.cell 1).trans rfl
      have Y2 : ∀ n, (wr.drewN n).cell? ⟨w.heap.size, 2, none⟩ = some (.int .i64 y) := fun n => (hq2.cell 2).trans rfl
      have Y3 : ∀ n, (wr.drewN n).cell? ⟨w.heap.size, 3, none⟩ = some (.int .i64 z) := fun n => (hq2.cell 3).trans rfl
      have j1 : (j : Int) < (N : Int) := by omega
      have d1 : decide (v < 0) = false := by simp; omega
      have d2 : decide (v > 15) = false := by simp; omega
      have d3 : decide (15 < v) = false := by simp; omega
      have HV3 := Lib.hid hv3
      clear hq2 hc v0 v15 hv3
      by_cases e : v = x
      · have q1 : (v != x) = false := by simp [e]
        clear e
        go_wp2_with fail
        go_quiet (fail)
        go_wp2_with fail
        go_roundw
        case rel => exact ⟨j + 1, by omega, by go_num, ⟨hC.os, hC.tape, hC.output, hC.size, hC.block⟩⟩
        case measure => simp [intOf]; omega
      · by_cases f : v = y
        · have q1 : (v != x) = true := by simpa using e
          have q2 : (v != y) = false := by simp [f]
          clear e f
          go_wp2_with fail
          go_quiet (fail)
          go_wp2_with fail
          go_roundw
          case rel => exact ⟨j + 1, by omega, by go_num, ⟨hC.os, hC.tape, hC.output, hC.size, hC.block⟩⟩
          case measure => simp [intOf]; omega
        · have q1 : (v != x) = true := by simpa using e
          have q2 : (v != y) = true := by simpa using f
          have q3 : (v != z) = false := by have := HV3.out; simp; omega
          clear e f
          go_wp2_with fail
          go_quiet (fail)
          go_wp2_with fail
          go_roundw
          case rel => exact ⟨j + 1, by omega, by go_num, ⟨hC.os, hC.tape, hC.output, hC.size, hC.block⟩⟩
          case measure => simp [intOf]; omega
    · have hj2 : N ≤ j := by omega
      replace hq := hq.below hC hq.lt
      replace o1 := own_call o1 hC
      replace o2 := own_call o2 hC
      replace hB := hB.trans (hC.mono hB.size)
      clear hC HRA HMEM
      by_cases k1 : op = 1
      · subst k1
        obtain ⟨E2, hE2⟩ : ∃ E, ckI 1 x n z = E := ⟨_, rfl⟩
        have HE2 := Lib.hid hE2
        have H08 := ck_08 1 x n z
        have HS := fun W => slots_any 1 (by omega) x n z W
        unfold SlP at HS
        have HSAME := Lib.hid (show ckI 1 x n z = 0 → slR 1 x n z = RR ∧ slW 1 x n z = WW from fun h => by
          rw [← HRR.out, ← HWW.out]
          exact ⟨by rw [slR, slR, if_pos h, if_pos HE.out]; rfl, by rw [slW, slW, if_pos h, if_pos HE.out]; rfl⟩)
        rw [hE2] at HS H08
        clear hE2
        have z1 : wr.cell? ⟨w.heap.size, 0, none⟩ = some (.int .u8 1) := (hq.cell 0).trans rfl
        have z2 := hq.frozen 0
        have z3 : wr.cell? ⟨w.heap.size, 1, none⟩ = some (.int .i64 x) := (hq.cell 1).trans rfl
        have z4 := hq.frozen 1
        have z5 : wr.cell? ⟨w.heap.size, 2, none⟩ = some (.int .i64 y) := (hq.cell 2).trans rfl
        have z6 := hq.frozen 2
        have z7 : wr.cell? ⟨w.heap.size, 3, none⟩ = some (.int .i64 z) := (hq.cell 3).trans rfl
        have z8 := hq.frozen 3
        have z9 := hq.lt
        go_wp2_with fail
        obtain ⟨R2, hR2⟩ : ∃ R2, slR 1 x n z = R2 := ⟨_, rfl⟩
        obtain ⟨W2, hW2⟩ : ∃ W2, slW 1 x n z = W2 := ⟨_, rfl⟩
        rw [hR2, hW2] at HS HSAME
        refine (HS _).mono ?_
        rintro e v1 ⟨A6, c6, A7, c7, rfl, p1, p2, bB⟩
        have ne_p1_hq : (Value.slice A6 R2.length c6).ownBlock ≠ some w.heap.size := own_not_lt p1 (by first | omega | (simp <;> omega))
        have ne_p1_hy : (Value.slice A6 R2.length c6).ownBlock ≠ some wr.heap.size := own_not_lt p1 (by first | omega | (simp <;> omega))
        have ne_p2_hq : (Value.slice A7 W2.length c7).ownBlock ≠ some w.heap.size := own_not_lt p2 (by first | omega | (simp <;> omega))
        have ne_p2_hy : (Value.slice A7 W2.length c7).ownBlock ≠ some wr.heap.size := own_not_lt p2 (by first | omega | (simp <;> omega))
        replace p1 := own_low p1 (show w.heap.size ≤ _ from by have hs_ := hB.size; simp <;> omega)
        replace p2 := own_low p2 (show w.heap.size ≤ _ from by have hs_ := hB.size; simp <;> omega)
        have ne_o1_hy : (Value.slice A1 RR.length c1).ownBlock ≠ some wr.heap.size := own_not_ge o1 (by omega)
        have ne_o2_hy : (Value.slice A2 WW.length c2).ownBlock ≠ some wr.heap.size := own_not_ge o2 (by omega)
        have o_hq_hy : w.heap.size < wr.heap.size := (by omega)
        have ow_hy : w.heap.size ≤ wr.heap.size := (by have := hB.size; omega)
        replace hq := Blk.via0 (g := w.heap.size) (t := 23) bB (by repeat (first | with_reducible exact hq | with_reducible (apply Blk.set_) | with_reducible (apply Blk.far; case hp => (simp <;> omega)) | with_reducible (apply Blk.alloc) | with_reducible (apply Blk.drew)))
        replace hq : Blk v1 w.heap.size 23 #[.int .u8 1, .int .i64 x, .int .i64 y, .int .i64 z] := hq
        replace o1 := own_call (by repeat (first | with_reducible exact o1 | (with_reducible apply own_set_; case hne => first | exact ne_o1_hq) | with_reducible (apply own_alloc_) | with_reducible (apply own_drew_))) bB
        replace o2 := own_call (by repeat (first | with_reducible exact o2 | (with_reducible apply own_set_; case hne => first | exact ne_o2_hq) | with_reducible (apply own_alloc_) | with_reducible (apply own_drew_))) bB
        have hy := Blk.via0 (g := wr.heap.size) (t := 23) bB (by repeat (first | with_reducible exact Blk.newAt (by simp) _ _ | with_reducible (apply Blk.set_) | with_reducible (apply Blk.far; case hp => (simp <;> omega)) | with_reducible (apply Blk.alloc) | with_reducible (apply Blk.drew)))
        replace hy : Blk v1 wr.heap.size 23 #[.int .u8 1, .int .i64 x, .int .i64 n, .int .i64 z] := hy
        replace hB := Below.via (w := w) (by have hs_ := hB.size; repeat (first | with_reducible exact hB | with_reducible (refine Below.setCell ?_ (by simp <;> omega) _) | with_reducible (refine Below.alloc ?_ (by first | exact hs_ | (simp <;> omega)) _) | with_reducible (refine Below.drew ?_))) bB
        clear z1 z2 z3 z4 z5 z6 z7 z8 z9
        clear bB
        generalize wr.heap.size = py at *
        clear HS
        have z10 : v1.cell? ⟨w.heap.size, 0, none⟩ = some (.int .u8 1) := (hq.cell 0).trans rfl
        have z11 := hq.frozen 0
        have z12 : v1.cell? ⟨w.heap.size, 1, none⟩ = some (.int .i64 x) := (hq.cell 1).trans rfl
        have z13 := hq.frozen 1
        have z14 : v1.cell? ⟨w.heap.size, 2, none⟩ = some (.int .i64 y) := (hq.cell 2).trans rfl
        have z15 := hq.frozen 2
        have z16 : v1.cell? ⟨w.heap.size, 3, none⟩ = some (.int .i64 z) := (hq.cell 3).trans rfl
        have z17 := hq.frozen 3
        have z18 : v1.cell? ⟨py, 0, none⟩ = some (.int .u8 1) := (hy.cell 0).trans rfl
        have z19 := hy.frozen 0
        have z20 : v1.cell? ⟨py, 1, none⟩ = some (.int .i64 x) := (hy.cell 1).trans rfl
        have z21 := hy.frozen 1
        have z22 : v1.cell? ⟨py, 2, none⟩ = some (.int .i64 n) := (hy.cell 2).trans rfl
        have z23 := hy.frozen 2
        have z24 : v1.cell? ⟨py, 3, none⟩ = some (.int .i64 z) := (hy.cell 3).trans rfl
        have z25 := hy.frozen 3
        have z26 := hq.lt
        have z27 := hy.lt
        rcases H08 with rfl | rfl
        · obtain ⟨e1, e2⟩ := HSAME.out HE2.out
          rw [e1] at p1
          rw [e2] at p2
          clear e1 e2
          rw [(HSAME.out HE2.out).1, (HSAME.out HE2.out).2]
          go_wp2_with fail
          refine (sameInts_any A1 RR.length c1 RR A6 RR.length c6 RR _ (own_reads o1) (own_reads p1) (by omega)).mono ?_
          rintro e v2 ⟨rfl, bB⟩
          rw [decide_eq_true (rfl : RR = RR)]
          replace hq := Blk.via0 (g := w.heap.size) (t := 23) bB (by repeat (first | with_reducible exact hq | with_reducible (apply Blk.set_) | with_reducible (apply Blk.far; case hp => (simp <;> omega)) | with_reducible (apply Blk.alloc) | with_reducible (apply Blk.drew)))
          replace hq : Blk v2 w.heap.size 23 #[.int .u8 1, .int .i64 x, .int .i64 y, .int .i64 z] := hq
          replace hy := Blk.via0 (g := py) (t := 23) bB (by repeat (first | with_reducible exact hy | with_reducible (apply Blk.set_) | with_reducible (apply Blk.far; case hp => (simp <;> omega)) | with_reducible (apply Blk.alloc) | with_reducible (apply Blk.drew)))
          replace hy : Blk v2 py 23 #[.int .u8 1, .int .i64 x, .int .i64 n, .int .i64 z] := hy
          replace o1 := own_call (by repeat (first | with_reducible exact o1 | (with_reducible apply own_set_; case hne => first | exact ne_o1_hq | exact ne_o1_hy) | with_reducible (apply own_alloc_) | with_reducible (apply own_drew_))) bB
          replace o2 := own_call (by repeat (first | with_reducible exact o2 | (with_reducible apply own_set_; case hne => first | exact ne_o2_hq | exact ne_o2_hy) | with_reducible (apply own_alloc_) | with_reducible (apply own_drew_))) bB
          replace p1 := own_call (by repeat (first | with_reducible exact p1 | (with_reducible apply own_set_; case hne => first | exact ne_p1_hq | exact ne_p1_hy) | with_reducible (apply own_alloc_) | with_reducible (apply own_drew_))) bB
          replace p2 := own_call (by repeat (first | with_reducible exact p2 | (with_reducible apply own_set_; case hne => first | exact ne_p2_hq | exact ne_p2_hy) | with_reducible (apply own_alloc_) | with_reducible (apply own_drew_))) bB
          replace hB := Below.via (w := w) (by have hs_ := hB.size; repeat (first | with_reducible exact hB | with_reducible (refine Below.setCell ?_ (by simp <;> omega) _) | with_reducible (refine Below.alloc ?_ (by first | exact hs_ | (simp <;> omega)) _) | with_reducible (refine Below.drew ?_))) bB
          clear z10 z11 z12 z13 z14 z15 z16 z17 z18 z19 z20 z21 z22 z23 z24 z25 z26 z27
          clear bB
          go_wp2_with fail
          refine (sameInts_any A2 WW.length c2 WW A7 WW.length c7 WW _ (own_reads o2) (own_reads p2) (by omega)).mono ?_
          rintro e v3 ⟨rfl, bB⟩
          rw [decide_eq_true (rfl : WW = WW)]
          replace hq := Blk.via0 (g := w.heap.size) (t := 23) bB (by repeat (first | with_reducible exact hq | with_reducible (apply Blk.set_) | with_reducible (apply Blk.far; case hp => (simp <;> omega)) | with_reducible (apply Blk.alloc) | with_reducible (apply Blk.drew)))
          replace hq : Blk v3 w.heap.size 23 #[.int .u8 1, .int .i64 x, .int .i64 y, .int .i64 z] := hq
          replace hy := Blk.via0 (g := py) (t := 23) bB (by repeat (first | with_reducible exact hy | with_reducible (apply Blk.set_) | with_reducible (apply Blk.far; case hp => (simp <;> omega)) | with_reducible (apply Blk.alloc) | with_reducible (apply Blk.drew)))
          replace hy : Blk v3 py 23 #[.int .u8 1, .int .i64 x, .int .i64 n, .int .i64 z] := hy
          replace o1 := own_call (by repeat (first | with_reducible exact o1 | (with_reducible apply own_set_; case hne => first | exact ne_o1_hq | exact ne_o1_hy) | with_reducible (apply own_alloc_) | with_reducible (apply own_drew_))) bB
          replace o2 := own_call (by repeat (first | with_reducible exact o2 | (with_reducible apply own_set_; case hne => first | exact ne_o2_hq | exact ne_o2_hy) | with_reducible (apply own_alloc_) | with_reducible (apply own_drew_))) bB
          replace p1 := own_call (by repeat (first | with_reducible exact p1 | (with_reducible apply own_set_; case hne => first | exact ne_p1_hq | exact ne_p1_hy) | with_reducible (apply own_alloc_) | with_reducible (apply own_drew_))) bB
          replace p2 := own_call (by repeat (first | with_reducible exact p2 | (with_reducible apply own_set_; case hne => first | exact ne_p2_hq | exact ne_p2_hy) | with_reducible (apply own_alloc_) | with_reducible (apply own_drew_))) bB
          replace hB := Below.via (w := w) (by have hs_ := hB.size; repeat (first | with_reducible exact hB | with_reducible (refine Below.setCell ?_ (by simp <;> omega) _) | with_reducible (refine Below.alloc ?_ (by first | exact hs_ | (simp <;> omega)) _) | with_reducible (refine Below.drew ?_))) bB
          clear bB
          go_wp2_with fail
          refine (alive6_any _).mono ?_
          rintro e v4 ⟨rfl, bB⟩
          replace hq := Blk.via0 (g := w.heap.size) (t := 23) bB (by repeat (first | with_reducible exact hq | with_reducible (apply Blk.set_) | with_reducible (apply Blk.far; case hp => (simp <;> omega)) | with_reducible (apply Blk.alloc) | with_reducible (apply Blk.drew)))
          replace hq : Blk v4 w.heap.size 23 #[.int .u8 1, .int .i64 x, .int .i64 y, .int .i64 z] := hq
          replace hy := Blk.via0 (g := py) (t := 23) bB (by repeat (first | with_reducible exact hy | with_reducible (apply Blk.set_) | with_reducible (apply Blk.far; case hp => (simp <;> omega)) | with_reducible (apply Blk.alloc) | with_reducible (apply Blk.drew)))
          replace hy : Blk v4 py 23 #[.int .u8 1, .int .i64 x, .int .i64 n, .int .i64 z] := hy
          replace o1 := own_call (by repeat (first | with_reducible exact o1 | (with_reducible apply own_set_; case hne => first | exact ne_o1_hq | exact ne_o1_hy) | with_reducible (apply own_alloc_) | with_reducible (apply own_drew_))) bB
          replace o2 := own_call (by repeat (first | with_reducible exact o2 | (with_reducible apply own_set_; case hne => first | exact ne_o2_hq | exact ne_o2_hy) | with_reducible (apply own_alloc_) | with_reducible (apply own_drew_))) bB
          replace p1 := own_call (by repeat (first | with_reducible exact p1 | (with_reducible apply own_set_; case hne => first | exact ne_p1_hq | exact ne_p1_hy) | with_reducible (apply own_alloc_) | with_reducible (apply own_drew_))) bB
          replace p2 := own_call (by repeat (first | with_reducible exact p2 | (with_reducible apply own_set_; case hne => first | exact ne_p2_hq | exact ne_p2_hy) | with_reducible (apply own_alloc_) | with_reducible (apply own_drew_))) bB
          replace hB := Below.via (w := w) (by have hs_ := hB.size; repeat (first | with_reducible exact hB | with_reducible (refine Below.setCell ?_ (by simp <;> omega) _) | with_reducible (refine Below.alloc ?_ (by first | exact hs_ | (simp <;> omega)) _) | with_reducible (refine Below.drew ?_))) bB
          clear bB
          go_wp2_with fail
          go_ret
          exact ⟨rfl, (by have hs_ := hB.size; repeat (first | with_reducible exact hB | with_reducible (refine Below.setCell ?_ (by simp <;> omega) _) | with_reducible (refine Below.alloc ?_ (by first | exact hs_ | (simp <;> omega)) _) | with_reducible (refine Below.drew ?_)))⟩
        · have hne : y ≠ n := by
            rintro rfl
            exact absurd (HE2.out.symm.trans HE.out) (by decide)
          have g1 : (y == n) = false := by simpa using hne
          have g2 : (n == y) = false := by simpa using fun h => hne h.symm
          have HC := fun W => check6_any 1 (by omega) x n z W
          rw [HE2.out] at HC
          clear hne
          go_wp2_with fail
          refine (HC _).mono ?_
          rintro e v2 ⟨rfl, bB⟩
          replace hq := Blk.via0 (g := w.heap.size) (t := 23) bB (by repeat (first | with_reducible exact hq | with_reducible (apply Blk.set_) | with_reducible (apply Blk.far; case hp => (simp <;> omega)) | with_reducible (apply Blk.alloc) | with_reducible (apply Blk.drew)))
          replace hq : Blk v2 w.heap.size 23 #[.int .u8 1, .int .i64 x, .int .i64 y, .int .i64 z] := hq
          replace hy := Blk.via0 (g := py) (t := 23) bB (by repeat (first | with_reducible exact hy | with_reducible (apply Blk.set_) | with_reducible (apply Blk.far; case hp => (simp <;> omega)) | with_reducible (apply Blk.alloc) | with_reducible (apply Blk.drew)))
          replace hy : Blk v2 py 23 #[.int .u8 1, .int .i64 x, .int .i64 n, .int .i64 z] := hy
          replace hB := Below.via (w := w) (by have hs_ := hB.size; repeat (first | with_reducible exact hB | with_reducible (refine Below.setCell ?_ (by simp <;> omega) _) | with_reducible (refine Below.alloc ?_ (by first | exact hs_ | (simp <;> omega)) _) | with_reducible (refine Below.drew ?_))) bB
          clear z10 z11 z12 z13 z14 z15 z16 z17 z18 z19 z20 z21 z22 z23 z24 z25 z26 z27
          clear bB
          go_wp2_with fail
          refine (alive6_any _).mono ?_
          rintro e v3 ⟨rfl, bB⟩
          replace hq := Blk.via0 (g := w.heap.size) (t := 23) bB (by repeat (first | with_reducible exact hq | with_reducible (apply Blk.set_) | with_reducible (apply Blk.far; case hp => (simp <;> omega)) | with_reducible (apply Blk.alloc) | with_reducible (apply Blk.drew)))
          replace hq : Blk v3 w.heap.size 23 #[.int .u8 1, .int .i64 x, .int .i64 y, .int .i64 z] := hq
          replace hy := Blk.via0 (g := py) (t := 23) bB (by repeat (first | with_reducible exact hy | with_reducible (apply Blk.set_) | with_reducible (apply Blk.far; case hp => (simp <;> omega)) | with_reducible (apply Blk.alloc) | with_reducible (apply Blk.drew)))
          replace hy : Blk v3 py 23 #[.int .u8 1, .int .i64 x, .int .i64 n, .int .i64 z] := hy
          replace hB := Below.via (w := w) (by have hs_ := hB.size; repeat (first | with_reducible exact hB | with_reducible (refine Below.setCell ?_ (by simp <;> omega) _) | with_reducible (refine Below.alloc ?_ (by first | exact hs_ | (simp <;> omega)) _) | with_reducible (refine Below.drew ?_))) bB
          clear bB
          go_wp2_with fail
          go_ret
          exact ⟨rfl, (by have hs_ := hB.size; repeat (first | with_reducible exact hB | with_reducible (refine Below.setCell ?_ (by simp <;> omega) _) | with_reducible (refine Below.alloc ?_ (by first | exact hs_ | (simp <;> omega)) _) | with_reducible (refine Below.drew ?_)))⟩
      by_cases k2 : op = 2
      · subst k2
        obtain ⟨E2, hE2⟩ : ∃ E, ckI 2 x n z = E := ⟨_, rfl⟩
        have HE2 := Lib.hid hE2
        have H08 := ck_08 2 x n z
        have HS := fun W => slots_any 2 (by omega) x n z W
        unfold SlP at HS
        have HSAME := Lib.hid (show ckI 2 x n z = 0 → slR 2 x n z = RR ∧ slW 2 x n z = WW from fun h => by
          rw [← HRR.out, ← HWW.out]
          exact ⟨by rw [slR, slR, if_pos h, if_pos HE.out]; rfl, by rw [slW, slW, if_pos h, if_pos HE.out]; rfl⟩)
        rw [hE2] at HS H08
        clear hE2
        have z1 : wr.cell? ⟨w.heap.size, 0, none⟩ = some (.int .u8 2) := (hq.cell 0).trans rfl
        have z2 := hq.frozen 0
        have z3 : wr.cell? ⟨w.heap.size, 1, none⟩ = some (.int .i64 x) := (hq.cell 1).trans rfl
        have z4 := hq.frozen 1
        have z5 : wr.cell? ⟨w.heap.size, 2, none⟩ = some (.int .i64 y) := (hq.cell 2).trans rfl
        have z6 := hq.frozen 2
        have z7 : wr.cell? ⟨w.heap.size, 3, none⟩ = some (.int .i64 z) := (hq.cell 3).trans rfl
        have z8 := hq.frozen 3
        have z9 := hq.lt
        go_wp2_with fail
        obtain ⟨R2, hR2⟩ : ∃ R2, slR 2 x n z = R2 := ⟨_, rfl⟩
        obtain ⟨W2, hW2⟩ : ∃ W2, slW 2 x n z = W2 := ⟨_, rfl⟩
        rw [hR2, hW2] at HS HSAME
        refine (HS _).mono ?_
        rintro e v1 ⟨A6, c6, A7, c7, rfl, p1, p2, bB⟩
        have ne_p1_hq : (Value.slice A6 R2.length c6).ownBlock ≠ some w.heap.size := own_not_lt p1 (by first | omega | (simp <;> omega))
        have ne_p1_hy : (Value.slice A6 R2.length c6).ownBlock ≠ some wr.heap.size := own_not_lt p1 (by first | omega | (simp <;> omega))
        have ne_p2_hq : (Value.slice A7 W2.length c7).ownBlock ≠ some w.heap.size := own_not_lt p2 (by first | omega | (simp <;> omega))
        have ne_p2_hy : (Value.slice A7 W2.length c7).ownBlock ≠ some wr.heap.size := own_not_lt p2 (by first | omega | (simp <;> omega))
        replace p1 := own_low p1 (show w.heap.size ≤ _ from by have hs_ := hB.size; simp <;> omega)
        replace p2 := own_low p2 (show w.heap.size ≤ _ from by have hs_ := hB.size; simp <;> omega)
        have ne_o1_hy : (Value.slice A1 RR.length c1).ownBlock ≠ some wr.heap.size := own_not_ge o1 (by omega)
        have ne_o2_hy : (Value.slice A2 WW.length c2).ownBlock ≠ some wr.heap.size := own_not_ge o2 (by omega)
        have o_hq_hy : w.heap.size < wr.heap.size := (by omega)
        have ow_hy : w.heap.size ≤ wr.heap.size := (by have := hB.size; omega)
        replace hq := Blk.via0 (g := w.heap.size) (t := 23) bB (by repeat (first | with_reducible exact hq | with_reducible (apply Blk.set_) | with_reducible (apply Blk.far; case hp => (simp <;> omega)) | with_reducible (apply Blk.alloc) | with_reducible (apply Blk.drew)))
        replace hq : Blk v1 w.heap.size 23 #[.int .u8 2, .int .i64 x, .int .i64 y, .int .i64 z] := hq
        replace o1 := own_call (by repeat (first | with_reducible exact o1 | (with_reducible apply own_set_; case hne => first | exact ne_o1_hq) | with_reducible (apply own_alloc_) | with_reducible (apply own_drew_))) bB
        replace o2 := own_call (by repeat (first | with_reducible exact o2 | (with_reducible apply own_set_; case hne => first | exact ne_o2_hq) | with_reducible (apply own_alloc_) | with_reducible (apply own_drew_))) bB
        have hy := Blk.via0 (g := wr.heap.size) (t := 23) bB (by repeat (first | with_reducible exact Blk.newAt (by simp) _ _ | with_reducible (apply Blk.set_) | with_reducible (apply Blk.far; case hp => (simp <;> omega)) | with_reducible (apply Blk.alloc) | with_reducible (apply Blk.drew)))
        replace hy : Blk v1 wr.heap.size 23 #[.int .u8 2, .int .i64 x, .int .i64 n, .int .i64 z] := hy
        replace hB := Below.via (w := w) (by have hs_ := hB.size; repeat (first | with_reducible exact hB | with_reducible (refine Below.setCell ?_ (by simp <;> omega) _) | with_reducible (refine Below.alloc ?_ (by first | exact hs_ | (simp <;> omega)) _) | with_reducible (refine Below.drew ?_))) bB
        clear z1 z2 z3 z4 z5 z6 z7 z8 z9
        clear bB
        generalize wr.heap.size = py at *
        clear HS
        have z10 : v1.cell? ⟨w.heap.size, 0, none⟩ = some (.int .u8 2) := (hq.cell 0).trans rfl
        have z11 := hq.frozen 0
        have z12 : v1.cell? ⟨w.heap.size, 1, none⟩ = some (.int .i64 x) := (hq.cell 1).trans rfl
        have z13 := hq.frozen 1
        have z14 : v1.cell? ⟨w.heap.size, 2, none⟩ = some (.int .i64 y) := (hq.cell 2).trans rfl
        have z15 := hq.frozen 2
        have z16 : v1.cell? ⟨w.heap.size, 3, none⟩ = some (.int .i64 z) := (hq.cell 3).trans rfl
        have z17 := hq.frozen 3
        have z18 : v1.cell? ⟨py, 0, none⟩ = some (.int .u8 2) := (hy.cell 0).trans rfl
        have z19 := hy.frozen 0
        have z20 : v1.cell? ⟨py, 1, none⟩ = some (.int .i64 x) := (hy.cell 1).trans rfl
        have z21 := hy.frozen 1
        have z22 : v1.cell? ⟨py, 2, none⟩ = some (.int .i64 n) := (hy.cell 2).trans rfl
        have z23 := hy.frozen 2
        have z24 : v1.cell? ⟨py, 3, none⟩ = some (.int .i64 z) := (hy.cell 3).trans rfl
        have z25 := hy.frozen 3
        have z26 := hq.lt
        have z27 := hy.lt
        rcases H08 with rfl | rfl
        · obtain ⟨e1, e2⟩ := HSAME.out HE2.out
          rw [e1] at p1
          rw [e2] at p2
          clear e1 e2
          rw [(HSAME.out HE2.out).1, (HSAME.out HE2.out).2]
          go_wp2_with fail
          refine (sameInts_any A1 RR.length c1 RR A6 RR.length c6 RR _ (own_reads o1) (own_reads p1) (by omega)).mono ?_
          rintro e v2 ⟨rfl, bB⟩
          rw [decide_eq_true (rfl : RR = RR)]
          replace hq := Blk.via0 (g := w.heap.size) (t := 23) bB (by repeat (first | with_reducible exact hq | with_reducible (apply Blk.set_) | with_reducible (apply Blk.far; case hp => (simp <;> omega)) | with_reducible (apply Blk.alloc) | with_reducible (apply Blk.drew)))
          replace hq : Blk v2 w.heap.size 23 #[.int .u8 2, .int .i64 x, .int .i64 y, .int .i64 z] := hq
          replace hy := Blk.via0 (g := py) (t := 23) bB (by repeat (first | with_reducible exact hy | with_reducible (apply Blk.set_) | with_reducible (apply Blk.far; case hp => (simp <;> omega)) | with_reducible (apply Blk.alloc) | with_reducible (apply Blk.drew)))
          replace hy : Blk v2 py 23 #[.int .u8 2, .int .i64 x, .int .i64 n, .int .i64 z] := hy
          replace o1 := own_call (by repeat (first | with_reducible exact o1 | (with_reducible apply own_set_; case hne => first | exact ne_o1_hq | exact ne_o1_hy) | with_reducible (apply own_alloc_) | with_reducible (apply own_drew_))) bB
          replace o2 := own_call (by repeat (first | with_reducible exact o2 | (with_reducible apply own_set_; case hne => first | exact ne_o2_hq | exact ne_o2_hy) | with_reducible (apply own_alloc_) | with_reducible (apply own_drew_))) bB
          replace p1 := own_call (by repeat (first | with_reducible exact p1 | (with_reducible apply own_set_; case hne => first | exact ne_p1_hq | exact ne_p1_hy) | with_reducible (apply own_alloc_) | with_reducible (apply own_drew_))) bB
          replace p2 := own_call (by repeat (first | with_reducible exact p2 | (with_reducible apply own_set_; case hne => first | exact ne_p2_hq | exact ne_p2_hy) | with_reducible (apply own_alloc_) | with_reducible (apply own_drew_))) bB
          replace hB := Below.via (w := w) (by have hs_ := hB.size; repeat (first | with_reducible exact hB | with_reducible (refine Below.setCell ?_ (by simp <;> omega) _) | with_reducible (refine Below.alloc ?_ (by first | exact hs_ | (simp <;> omega)) _) | with_reducible (refine Below.drew ?_))) bB
          clear z10 z11 z12 z13 z14 z15 z16 z17 z18 z19 z20 z21 z22 z23 z24 z25 z26 z27
          clear bB
          go_wp2_with fail
          refine (sameInts_any A2 WW.length c2 WW A7 WW.length c7 WW _ (own_reads o2) (own_reads p2) (by omega)).mono ?_
          rintro e v3 ⟨rfl, bB⟩
          rw [decide_eq_true (rfl : WW = WW)]
          replace hq := Blk.via0 (g := w.heap.size) (t := 23) bB (by repeat (first | with_reducible exact hq | with_reducible (apply Blk.set_) | with_reducible (apply Blk.far; case hp => (simp <;> omega)) | with_reducible (apply Blk.alloc) | with_reducible (apply Blk.drew)))
          replace hq : Blk v3 w.heap.size 23 #[.int .u8 2, .int .i64 x, .int .i64 y, .int .i64 z] := hq
          replace hy := Blk.via0 (g := py) (t := 23) bB (by repeat (first | with_reducible exact hy | with_reducible (apply Blk.set_) | with_reducible (apply Blk.far; case hp => (simp <;> omega)) | with_reducible (apply Blk.alloc) | with_reducible (apply Blk.drew)))
          replace hy : Blk v3 py 23 #[.int .u8 2, .int .i64 x, .int .i64 n, .int .i64 z] := hy
          replace o1 := own_call (by repeat (first | with_reducible exact o1 | (with_reducible apply own_set_; case hne => first | exact ne_o1_hq | exact ne_o1_hy) | with_reducible (apply own_alloc_) | with_reducible (apply own_drew_))) bB
          replace o2 := own_call (by repeat (first | with_reducible exact o2 | (with_reducible apply own_set_; case hne => first | exact ne_o2_hq | exact ne_o2_hy) | with_reducible (apply own_alloc_) | with_reducible (apply own_drew_))) bB
          replace p1 := own_call (by repeat (first | with_reducible exact p1 | (with_reducible apply own_set_; case hne => first | exact ne_p1_hq | exact ne_p1_hy) | with_reducible (apply own_alloc_) | with_reducible (apply own_drew_))) bB
          replace p2 := own_call (by repeat (first | with_reducible exact p2 | (with_reducible apply own_set_; case hne => first | exact ne_p2_hq | exact ne_p2_hy) | with_reducible (apply own_alloc_) | with_reducible (apply own_drew_))) bB
          replace hB := Below.via (w := w) (by have hs_ := hB.size; repeat (first | with_reducible exact hB | with_reducible (refine Below.setCell ?_ (by simp <;> omega) _) | with_reducible (refine Below.alloc ?_ (by first | exact hs_ | (simp <;> omega)) _) | with_reducible (refine Below.drew ?_))) bB
          clear bB
          go_wp2_with fail
          refine (alive6_any _).mono ?_
          rintro e v4 ⟨rfl, bB⟩
          replace hq := Blk.via0 (g := w.heap.size) (t := 23) bB (by repeat (first | with_reducible exact hq | with_reducible (apply Blk.set_) | with_reducible (apply Blk.far; case hp => (simp <;> omega)) | with_reducible (apply Blk.alloc) | with_reducible (apply Blk.drew)))
          replace hq : Blk v4 w.heap.size 23 #[.int .u8 2, .int .i64 x, .int .i64 y, .int .i64 z] := hq
          replace hy := Blk.via0 (g := py) (t := 23) bB (by repeat (first | with_reducible exact hy | with_reducible (apply Blk.set_) | with_reducible (apply Blk.far; case hp => (simp <;> omega)) | with_reducible (apply Blk.alloc) | with_reducible (apply Blk.drew)))
          replace hy : Blk v4 py 23 #[.int .u8 2, .int .i64 x, .int .i64 n, .int .i64 z] := hy
          replace o1 := own_call (by repeat (first | with_reducible exact o1 | (with_reducible apply own_set_; case hne => first | exact ne_o1_hq | exact ne_o1_hy) | with_reducible (apply own_alloc_) | with_reducible (apply own_drew_))) bB
          replace o2 := own_call (by repeat (first | with_reducible exact o2 | (with_reducible apply own_set_; case hne => first | exact ne_o2_hq | exact ne_o2_hy) | with_reducible (apply own_alloc_) | with_reducible (apply own_drew_))) bB
          replace p1 := own_call (by repeat (first | with_reducible exact p1 | (with_reducible apply own_set_; case hne => first | exact ne_p1_hq | exact ne_p1_hy) | with_reducible (apply own_alloc_) | with_reducible (apply own_drew_))) bB
          replace p2 := own_call (by repeat (first | with_reducible exact p2 | (with_reducible apply own_set_; case hne => first | exact ne_p2_hq | exact ne_p2_hy) | with_reducible (apply own_alloc_) | with_reducible (apply own_drew_))) bB
          replace hB := Below.via (w := w) (by have hs_ := hB.size; repeat (first | with_reducible exact hB | with_reducible (refine Below.setCell ?_ (by simp <;> omega) _) | with_reducible (refine Below.alloc ?_ (by first | exact hs_ | (simp <;> omega)) _) | with_reducible (refine Below.drew ?_))) bB
          clear bB
          go_wp2_with fail
          go_ret
          exact ⟨rfl, (by have hs_ := hB.size; repeat (first | with_reducible exact hB | with_reducible (refine Below.setCell ?_ (by simp <;> omega) _) | with_reducible (refine Below.alloc ?_ (by first | exact hs_ | (simp <;> omega)) _) | with_reducible (refine Below.drew ?_)))⟩
        · have hne : y ≠ n := by
            rintro rfl
            exact absurd (HE2.out.symm.trans HE.out) (by decide)
          have g1 : (y == n) = false := by simpa using hne
          have g2 : (n == y) = false := by simpa using fun h => hne h.symm
          have HC := fun W => check6_any 2 (by omega) x n z W
          rw [HE2.out] at HC
          clear hne
          go_wp2_with fail
          refine (HC _).mono ?_
          rintro e v2 ⟨rfl, bB⟩
          replace hq := Blk.via0 (g := w.heap.size) (t := 23) bB (by repeat (first | with_reducible exact hq | with_reducible (apply Blk.set_) | with_reducible (apply Blk.far; case hp => (simp <;> omega)) | with_reducible (apply Blk.alloc) | with_reducible (apply Blk.drew)))
          replace hq : Blk v2 w.heap.size 23 #[.int .u8 2, .int .i64 x, .int .i64 y, .int .i64 z] := hq
          replace hy := Blk.via0 (g := py) (t := 23) bB (by repeat (first | with_reducible exact hy | with_reducible (apply Blk.set_) | with_reducible (apply Blk.far; case hp => (simp <;> omega)) | with_reducible (apply Blk.alloc) | with_reducible (apply Blk.drew)))
          replace hy : Blk v2 py 23 #[.int .u8 2, .int .i64 x, .int .i64 n, .int .i64 z] := hy
          replace hB := Below.via (w := w) (by have hs_ := hB.size; repeat (first | with_reducible exact hB | with_reducible (refine Below.setCell ?_ (by simp <;> omega) _) | with_reducible (refine Below.alloc ?_ (by first | exact hs_ | (simp <;> omega)) _) | with_reducible (refine Below.drew ?_))) bB
          clear z10 z11 z12 z13 z14 z15 z16 z17 z18 z19 z20 z21 z22 z23 z24 z25 z26 z27
          clear bB
          go_wp2_with fail
          refine (alive6_any _).mono ?_
          rintro e v3 ⟨rfl, bB⟩
          replace hq := Blk.via0 (g := w.heap.size) (t := 23) bB (by repeat (first | with_reducible exact hq | with_reducible (apply Blk.set_) | with_reducible (apply Blk.far; case hp => (simp <;> omega)) | with_reducible (apply Blk.alloc) | with_reducible (apply Blk.drew)))
          replace hq : Blk v3 w.heap.size 23 #[.int .u8 2, .int .i64 x, .int .i64 y, .int .i64 z] := hq
          replace hy := Blk.via0 (g := py) (t := 23) bB (by repeat (first | with_reducible exact hy | with_reducible (apply Blk.set_) | with_reducible (apply Blk.far; case hp => (simp <;> omega)) | with_reducible (apply Blk.alloc) | with_reducible (apply Blk.drew)))
          replace hy : Blk v3 py 23 #[.int .u8 2, .int .i64 x, .int .i64 n, .int .i64 z] := hy
          replace hB := Below.via (w := w) (by have hs_ := hB.size; repeat (first | with_reducible exact hB | with_reducible (refine Below.setCell ?_ (by simp <;> omega) _) | with_reducible (refine Below.alloc ?_ (by first | exact hs_ | (simp <;> omega)) _) | with_reducible (refine Below.drew ?_))) bB
          clear bB
          go_wp2_with fail
          go_ret
          exact ⟨rfl, (by have hs_ := hB.size; repeat (first | with_reducible exact hB | with_reducible (refine Below.setCell ?_ (by simp <;> omega) _) | with_reducible (refine Below.alloc ?_ (by first | exact hs_ | (simp <;> omega)) _) | with_reducible (refine Below.drew ?_)))⟩
      by_cases k3 : op = 3
      · subst k3
        obtain ⟨E2, hE2⟩ : ∃ E, ckI 3 x n z = E := ⟨_, rfl⟩
        have HE2 := Lib.hid hE2
        have H08 := ck_08 3 x n z
        have HS := fun W => slots_any 3 (by omega) x n z W
        unfold SlP at HS
        have HSAME := Lib.hid (show ckI 3 x n z = 0 → slR 3 x n z = RR ∧ slW 3 x n z = WW from fun h => by
          rw [← HRR.out, ← HWW.out]
          exact ⟨by rw [slR, slR, if_pos h, if_pos HE.out]; rfl, by rw [slW, slW, if_pos h, if_pos HE.out]; rfl⟩)
        rw [hE2] at HS H08
        clear hE2
        have z1 : wr.cell? ⟨w.heap.size, 0, none⟩ = some (.int .u8 3) := (hq.cell 0).trans rfl
        have z2 := hq.frozen 0
        have z3 : wr.cell? ⟨w.heap.size, 1, none⟩ = some (.int .i64 x) := (hq.cell 1).trans rfl
        have z4 := hq.frozen 1
        have z5 : wr.cell? ⟨w.heap.size, 2, none⟩ = some (.int .i64 y) := (hq.cell 2).trans rfl
        have z6 := hq.frozen 2
        have z7 : wr.cell? ⟨w.heap.size, 3, none⟩ = some (.int .i64 z) := (hq.cell 3).trans rfl
        have z8 := hq.frozen 3
        have z9 := hq.lt
        go_wp2_with fail
        obtain ⟨R2, hR2⟩ : ∃ R2, slR 3 x n z = R2 := ⟨_, rfl⟩
        obtain ⟨W2, hW2⟩ : ∃ W2, slW 3 x n z = W2 := ⟨_, rfl⟩
        rw [hR2, hW2] at HS HSAME
        refine (HS _).mono ?_
        rintro e v1 ⟨A6, c6, A7, c7, rfl, p1, p2, bB⟩
        have ne_p1_hq : (Value.slice A6 R2.length c6).ownBlock ≠ some w.heap.size := own_not_lt p1 (by first | omega | (simp <;> omega))
        have ne_p1_hy : (Value.slice A6 R2.length c6).ownBlock ≠ some wr.heap.size := own_not_lt p1 (by first | omega | (simp <;> omega))
        have ne_p2_hq : (Value.slice A7 W2.length c7).ownBlock ≠ some w.heap.size := own_not_lt p2 (by first | omega | (simp <;> omega))
        have ne_p2_hy : (Value.slice A7 W2.length c7).ownBlock ≠ some wr.heap.size := own_not_lt p2 (by first | omega | (simp <;> omega))
        replace p1 := own_low p1 (show w.heap.size ≤ _ from by have hs_ := hB.size; simp <;> omega)
        replace p2 := own_low p2 (show w.heap.size ≤ _ from by have hs_ := hB.size; simp <;> omega)
        have ne_o1_hy : (Value.slice A1 RR.length c1).ownBlock ≠ some wr.heap.size := own_not_ge o1 (by omega)
        have ne_o2_hy : (Value.slice A2 WW.length c2).ownBlock ≠ some wr.heap.size := own_not_ge o2 (by omega)
        have o_hq_hy : w.heap.size < wr.heap.size := (by omega)
        have ow_hy : w.heap.size ≤ wr.heap.size := (by have := hB.size; omega)
        replace hq := Blk.via0 (g := w.heap.size) (t := 23) bB (by repeat (first | with_reducible exact hq | with_reducible (apply Blk.set_) | with_reducible (apply Blk.far; case hp => (simp <;> omega)) | with_reducible (apply Blk.alloc) | with_reducible (apply Blk.drew)))
        replace hq : Blk v1 w.heap.size 23 #[.int .u8 3, .int .i64 x, .int .i64 y, .int .i64 z] := hq
        replace o1 := own_call (by repeat (first | with_reducible exact o1 | (with_reducible apply own_set_; case hne => first | exact ne_o1_hq) | with_reducible (apply own_alloc_) | with_reducible (apply own_drew_))) bB
        replace o2 := own_call (by repeat (first | with_reducible exact o2 | (with_reducible apply own_set_; case hne => first | exact ne_o2_hq) | with_reducible (apply own_alloc_) | with_reducible (apply own_drew_))) bB
        have hy := Blk.via0 (g := wr.heap.size) (t := 23) bB (by repeat (first | with_reducible exact Blk.newAt (by simp) _ _ | with_reducible (apply Blk.set_) | with_reducible (apply Blk.far; case hp => (simp <;> omega)) | with_reducible (apply Blk.alloc) | with_reducible (apply Blk.drew)))
        replace hy : Blk v1 wr.heap.size 23 #[.int .u8 3, .int .i64 x, .int .i64 n, .int .i64 z] := hy
        replace hB := Below.via (w := w) (by have hs_ := hB.size; repeat (first | with_reducible exact hB | with_reducible (refine Below.setCell ?_ (by simp <;> omega) _) | with_reducible (refine Below.alloc ?_ (by first | exact hs_ | (simp <;> omega)) _) | with_reducible (refine Below.drew ?_))) bB
        clear z1 z2 z3 z4 z5 z6 z7 z8 z9
        clear bB
        generalize wr.heap.size = py at *
        clear HS
        have z10 : v1.cell? ⟨w.heap.size, 0, none⟩ = some (.int .u8 3) := (hq.cell 0).trans rfl
        have z11 := hq.frozen 0
        have z12 : v1.cell? ⟨w.heap.size, 1, none⟩ = some (.int .i64 x) := (hq.cell 1).trans rfl
        have z13 := hq.frozen 1
        have z14 : v1.cell? ⟨w.heap.size, 2, none⟩ = some (.int .i64 y) := (hq.cell 2).trans rfl
        have z15 := hq.frozen 2
        have z16 : v1.cell? ⟨w.heap.size, 3, none⟩ = some (.int .i64 z) := (hq.cell 3).trans rfl
        have z17 := hq.frozen 3
        have z18 : v1.cell? ⟨py, 0, none⟩ = some (.int .u8 3) := (hy.cell 0).trans rfl
        have z19 := hy.frozen 0
        have z20 : v1.cell? ⟨py, 1, none⟩ = some (.int .i64 x) := (hy.cell 1).trans rfl
        have z21 := hy.frozen 1
        have z22 : v1.cell? ⟨py, 2, none⟩ = some (.int .i64 n) := (hy.cell 2).trans rfl
        have z23 := hy.frozen 2
        have z24 : v1.cell? ⟨py, 3, none⟩ = some (.int .i64 z) := (hy.cell 3).trans rfl
        have z25 := hy.frozen 3
        have z26 := hq.lt
        have z27 := hy.lt
        rcases H08 with rfl | rfl
        · obtain ⟨e1, e2⟩ := HSAME.out HE2.out
          rw [e1] at p1
          rw [e2] at p2
          clear e1 e2
          rw [(HSAME.out HE2.out).1, (HSAME.out HE2.out).2]
          go_wp2_with fail
          refine (sameInts_any A1 RR.length c1 RR A6 RR.length c6 RR _ (own_reads o1) (own_reads p1) (by omega)).mono ?_
          rintro e v2 ⟨rfl, bB⟩
          rw [decide_eq_true (rfl : RR = RR)]
          replace hq := Blk.via0 (g := w.heap.size) (t := 23) bB (by repeat (first | with_reducible exact hq | with_reducible (apply Blk.set_) | with_reducible (apply Blk.far; case hp => (simp <;> omega)) | with_reducible (apply Blk.alloc) | with_reducible (apply Blk.drew)))
          replace hq : Blk v2 w.heap.size 23 #[.int .u8 3, .int .i64 x, .int .i64 y, .int .i64 z] := hq
          replace hy := Blk.via0 (g := py) (t := 23) bB (by repeat (first | with_reducible exact hy | with_reducible (apply Blk.set_) | with_reducible (apply Blk.far; case hp => (simp <;> omega)) | with_reducible (apply Blk.alloc) | with_reducible (apply Blk.drew)))
          replace hy : Blk v2 py 23 #[.int .u8 3, .int .i64 x, .int .i64 n, .int .i64 z] := hy
          replace o1 := own_call (by repeat (first | with_reducible exact o1 | (with_reducible apply own_set_; case hne => first | exact ne_o1_hq | exact ne_o1_hy) | with_reducible (apply own_alloc_) | with_reducible (apply own_drew_))) bB
          replace o2 := own_call (by repeat (first | with_reducible exact o2 | (with_reducible apply own_set_; case hne => first | exact ne_o2_hq | exact ne_o2_hy) | with_reducible (apply own_alloc_) | with_reducible (apply own_drew_))) bB
          replace p1 := own_call (by repeat (first | with_reducible exact p1 | (with_reducible apply own_set_; case hne => first | exact ne_p1_hq | exact ne_p1_hy) | with_reducible (apply own_alloc_) | with_reducible (apply own_drew_))) bB
          replace p2 := own_call (by repeat (first | with_reducible exact p2 | (with_reducible apply own_set_; case hne => first | exact ne_p2_hq | exact ne_p2_hy) | with_reducible (apply own_alloc_) | with_reducible (apply own_drew_))) bB
          replace hB := Below.via (w := w) (by have hs_ := hB.size; repeat (first | with_reducible exact hB | with_reducible (refine Below.setCell ?_ (by simp <;> omega) _) | with_reducible (refine Below.alloc ?_ (by first | exact hs_ | (simp <;> omega)) _) | with_reducible (refine Below.drew ?_))) bB
          clear z10 z11 z12 z13 z14 z15 z16 z17 z18 z19 z20 z21 z22 z23 z24 z25 z26 z27
          clear bB
          go_wp2_with fail
          refine (sameInts_any A2 WW.length c2 WW A7 WW.length c7 WW _ (own_reads o2) (own_reads p2) (by omega)).mono ?_
          rintro e v3 ⟨rfl, bB⟩
          rw [decide_eq_true (rfl : WW = WW)]
          replace hq := Blk.via0 (g := w.heap.size) (t := 23) bB (by repeat (first | with_reducible exact hq | with_reducible (apply Blk.set_) | with_reducible (apply Blk.far; case hp => (simp <;> omega)) | with_reducible (apply Blk.alloc) | with_reducible (apply Blk.drew)))
          replace hq : Blk v3 w.heap.size 23 #[.int .u8 3, .int .i64 x, .int .i64 y, .int .i64 z] := hq
          replace hy := Blk.via0 (g := py) (t := 23) bB (by repeat (first | with_reducible exact hy | with_reducible (apply Blk.set_) | with_reducible (apply Blk.far; case hp => (simp <;> omega)) | with_reducible (apply Blk.alloc) | with_reducible (apply Blk.drew)))
          replace hy : Blk v3 py 23 #[.int .u8 3, .int .i64 x, .int .i64 n, .int .i64 z] := hy
          replace o1 := own_call (by repeat (first | with_reducible exact o1 | (with_reducible apply own_set_; case hne => first | exact ne_o1_hq | exact ne_o1_hy) | with_reducible (apply own_alloc_) | with_reducible (apply own_drew_))) bB
          replace o2 := own_call (by repeat (first | with_reducible exact o2 | (with_reducible apply own_set_; case hne => first | exact ne_o2_hq | exact ne_o2_hy) | with_reducible (apply own_alloc_) | with_reducible (apply own_drew_))) bB
          replace p1 := own_call (by repeat (first | with_reducible exact p1 | (with_reducible apply own_set_; case hne => first | exact ne_p1_hq | exact ne_p1_hy) | with_reducible (apply own_alloc_) | with_reducible (apply own_drew_))) bB
          replace p2 := own_call (by repeat (first | with_reducible exact p2 | (with_reducible apply own_set_; case hne => first | exact ne_p2_hq | exact ne_p2_hy) | with_reducible (apply own_alloc_) | with_reducible (apply own_drew_))) bB
          replace hB := Below.via (w := w) (by have hs_ := hB.size; repeat (first | with_reducible exact hB | with_reducible (refine Below.setCell ?_ (by simp <;> omega) _) | with_reducible (refine Below.alloc ?_ (by first | exact hs_ | (simp <;> omega)) _) | with_reducible (refine Below.drew ?_))) bB
          clear bB
          go_wp2_with fail
          refine (alive6_any _).mono ?_
          rintro e v4 ⟨rfl, bB⟩
          replace hq := Blk.via0 (g := w.heap.size) (t := 23) bB (by repeat (first | with_reducible exact hq | with_reducible (apply Blk.set_) | with_reducible (apply Blk.far; case hp => (simp <;> omega)) | with_reducible (apply Blk.alloc) | with_reducible (apply Blk.drew)))
          replace hq : Blk v4 w.heap.size 23 #[.int .u8 3, .int .i64 x, .int .i64 y, .int .i64 z] := hq
          replace hy := Blk.via0 (g := py) (t := 23) bB (by repeat (first | with_reducible exact hy | with_reducible (apply Blk.set_) | with_reducible (apply Blk.far; case hp => (simp <;> omega)) | with_reducible (apply Blk.alloc) | with_reducible (apply Blk.drew)))
          replace hy : Blk v4 py 23 #[.int .u8 3, .int .i64 x, .int .i64 n, .int .i64 z] := hy
          replace o1 := own_call (by repeat (first | with_reducible exact o1 | (with_reducible apply own_set_; case hne => first | exact ne_o1_hq | exact ne_o1_hy) | with_reducible (apply own_alloc_) | with_reducible (apply own_drew_))) bB
          replace o2 := own_call (by repeat (first | with_reducible exact o2 | (with_reducible apply own_set_; case hne => first | exact ne_o2_hq | exact ne_o2_hy) | with_reducible (apply own_alloc_) | with_reducible (apply own_drew_))) bB
          replace p1 := own_call (by repeat (first | with_reducible exact p1 | (with_reducible apply own_set_; case hne => first | exact ne_p1_hq | exact ne_p1_hy) | with_reducible (apply own_alloc_) | with_reducible (apply own_drew_))) bB
          replace p2 := own_call (by repeat (first | with_reducible exact p2 | (with_reducible apply own_set_; case hne => first | exact ne_p2_hq | exact ne_p2_hy) | with_reducible (apply own_alloc_) | with_reducible (apply own_drew_))) bB
          replace hB := Below.via (w := w) (by have hs_ := hB.size; repeat (first | with_reducible exact hB | with_reducible (refine Below.setCell ?_ (by simp <;> omega) _) | with_reducible (refine Below.alloc ?_ (by first | exact hs_ | (simp <;> omega)) _) | with_reducible (refine Below.drew ?_))) bB
          clear bB
          go_wp2_with fail
          go_ret
          exact ⟨rfl, (by have hs_ := hB.size; repeat (first | with_reducible exact hB | with_reducible (refine Below.setCell ?_ (by simp <;> omega) _) | with_reducible (refine Below.alloc ?_ (by first | exact hs_ | (simp <;> omega)) _) | with_reducible (refine Below.drew ?_)))⟩
        · have hne : y ≠ n := by
            rintro rfl
            exact absurd (HE2.out.symm.trans HE.out) (by decide)
          have g1 : (y == n) = false := by simpa using hne
          have g2 : (n == y) = false := by simpa using fun h => hne h.symm
          have HC := fun W => check6_any 3 (by omega) x n z W
          rw [HE2.out] at HC
          clear hne
          go_wp2_with fail
          refine (HC _).mono ?_
          rintro e v2 ⟨rfl, bB⟩
          replace hq := Blk.via0 (g := w.heap.size) (t := 23) bB (by repeat (first | with_reducible exact hq | with_reducible (apply Blk.set_) | with_reducible (apply Blk.far; case hp => (simp <;> omega)) | with_reducible (apply Blk.alloc) | with_reducible (apply Blk.drew)))
          replace hq : Blk v2 w.heap.size 23 #[.int .u8 3, .int .i64 x, .int .i64 y, .int .i64 z] := hq
          replace hy := Blk.via0 (g := py) (t := 23) bB (by repeat (first | with_reducible exact hy | with_reducible (apply Blk.set_) | with_reducible (apply Blk.far; case hp => (simp <;> omega)) | with_reducible (apply Blk.alloc) | with_reducible (apply Blk.drew)))
          replace hy : Blk v2 py 23 #[.int .u8 3, .int .i64 x, .int .i64 n, .int .i64 z] := hy
          replace hB := Below.via (w := w) (by have hs_ := hB.size; repeat (first | with_reducible exact hB | with_reducible (refine Below.setCell ?_ (by simp <;> omega) _) | with_reducible (refine Below.alloc ?_ (by first | exact hs_ | (simp <;> omega)) _) | with_reducible (refine Below.drew ?_))) bB
          clear z10 z11 z12 z13 z14 z15 z16 z17 z18 z19 z20 z21 z22 z23 z24 z25 z26 z27
          clear bB
          go_wp2_with fail
          refine (alive6_any _).mono ?_
          rintro e v3 ⟨rfl, bB⟩
          replace hq := Blk.via0 (g := w.heap.size) (t := 23) bB (by repeat (first | with_reducible exact hq | with_reducible (apply Blk.set_) | with_reducible (apply Blk.far; case hp => (simp <;> omega)) | with_reducible (apply Blk.alloc) | with_reducible (apply Blk.drew)))
          replace hq : Blk v3 w.heap.size 23 #[.int .u8 3, .int .i64 x, .int .i64 y, .int .i64 z] := hq
          replace hy := Blk.via0 (g := py) (t := 23) bB (by repeat (first | with_reducible exact hy | with_reducible (apply Blk.set_) | with_reducible (apply Blk.far; case hp => (simp <;> omega)) | with_reducible (apply Blk.alloc) | with_reducible (apply Blk.drew)))
          replace hy : Blk v3 py 23 #[.int .u8 3, .int .i64 x, .int .i64 n, .int .i64 z] := hy
          replace hB := Below.via (w := w) (by have hs_ := hB.size; repeat (first | with_reducible exact hB | with_reducible (refine Below.setCell ?_ (by simp <;> omega) _) | with_reducible (refine Below.alloc ?_ (by first | exact hs_ | (simp <;> omega)) _) | with_reducible (refine Below.drew ?_))) bB
          clear bB
          go_wp2_with fail
          go_ret
          exact ⟨rfl, (by have hs_ := hB.size; repeat (first | with_reducible exact hB | with_reducible (refine Below.setCell ?_ (by simp <;> omega) _) | with_reducible (refine Below.alloc ?_ (by first | exact hs_ | (simp <;> omega)) _) | with_reducible (refine Below.drew ?_)))⟩
      by_cases k14 : op = 14
      · subst k14
        obtain ⟨E2, hE2⟩ : ∃ E, ckI 14 x n z = E := ⟨_, rfl⟩
        have HE2 := Lib.hid hE2
        have H08 := ck_08 14 x n z
        have HS := fun W => slots_any 14 (by omega) x n z W
        unfold SlP at HS
        have HSAME := Lib.hid (show ckI 14 x n z = 0 → slR 14 x n z = RR ∧ slW 14 x n z = WW from fun h => by
          rw [← HRR.out, ← HWW.out]
          exact ⟨by rw [slR, slR, if_pos h, if_pos HE.out]; rfl, by rw [slW, slW, if_pos h, if_pos HE.out]; rfl⟩)
        rw [hE2] at HS H08
        clear hE2
        have z1 : wr.cell? ⟨w.heap.size, 0, none⟩ = some (.int .u8 14) := (hq.cell 0).trans rfl
        have z2 := hq.frozen 0
        have z3 : wr.cell? ⟨w.heap.size, 1, none⟩ = some (.int .i64 x) := (hq.cell 1).trans rfl
        have z4 := hq.frozen 1
        have z5 : wr.cell? ⟨w.heap.size, 2, none⟩ = some (.int .i64 y) := (hq.cell 2).trans rfl
        have z6 := hq.frozen 2
        have z7 : wr.cell? ⟨w.heap.size, 3, none⟩ = some (.int .i64 z) := (hq.cell 3).trans rfl
        have z8 := hq.frozen 3
        have z9 := hq.lt
        go_wp2_with fail
        obtain ⟨R2, hR2⟩ : ∃ R2, slR 14 x n z = R2 := ⟨_, rfl⟩
        obtain ⟨W2, hW2⟩ : ∃ W2, slW 14 x n z = W2 := ⟨_, rfl⟩
        rw [hR2, hW2] at HS HSAME
        refine (HS _).mono ?_
        rintro e v1 ⟨A6, c6, A7, c7, rfl, p1, p2, bB⟩
        have ne_p1_hq : (Value.slice A6 R2.length c6).ownBlock ≠ some w.heap.size := own_not_lt p1 (by first | omega | (simp <;> omega))
        have ne_p1_hy : (Value.slice A6 R2.length c6).ownBlock ≠ some wr.heap.size := own_not_lt p1 (by first | omega | (simp <;> omega))
        have ne_p2_hq : (Value.slice A7 W2.length c7).ownBlock ≠ some w.heap.size := own_not_lt p2 (by first | omega | (simp <;> omega))
        have ne_p2_hy : (Value.slice A7 W2.length c7).ownBlock ≠ some wr.heap.size := own_not_lt p2 (by first | omega | (simp <;> omega))
        replace p1 := own_low p1 (show w.heap.size ≤ _ from by have hs_ := hB.size; simp <;> omega)
        replace p2 := own_low p2 (show w.heap.size ≤ _ from by have hs_ := hB.size; simp <;> omega)
        have ne_o1_hy : (Value.slice A1 RR.length c1).ownBlock ≠ some wr.heap.size := own_not_ge o1 (by omega)
        have ne_o2_hy : (Value.slice A2 WW.length c2).ownBlock ≠ some wr.heap.size := own_not_ge o2 (by omega)
        have o_hq_hy : w.heap.size < wr.heap.size := (by omega)
        have ow_hy : w.heap.size ≤ wr.heap.size := (by have := hB.size; omega)
        replace hq := Blk.via0 (g := w.heap.size) (t := 23) bB (by repeat (first | with_reducible exact hq | with_reducible (apply Blk.set_) | with_reducible (apply Blk.far; case hp => (simp <;> omega)) | with_reducible (apply Blk.alloc) | with_reducible (apply Blk.drew)))
        replace hq : Blk v1 w.heap.size 23 #[.int .u8 14, .int .i64 x, .int .i64 y, .int .i64 z] := hq
        replace o1 := own_call (by repeat (first | with_reducible exact o1 | (with_reducible apply own_set_; case hne => first | exact ne_o1_hq) | with_reducible (apply own_alloc_) | with_reducible (apply own_drew_))) bB
        replace o2 := own_call (by repeat (first | with_reducible exact o2 | (with_reducible apply own_set_; case hne => first | exact ne_o2_hq) | with_reducible (apply own_alloc_) | with_reducible (apply own_drew_))) bB
        have hy := Blk.via0 (g := wr.heap.size) (t := 23) bB (by repeat (first | with_reducible exact Blk.newAt (by simp) _ _ | with_reducible (apply Blk.set_) | with_reducible (apply Blk.far; case hp => (simp <;> omega)) | with_reducible (apply Blk.alloc) | with_reducible (apply Blk.drew)))
        replace hy : Blk v1 wr.heap.size 23 #[.int .u8 14, .int .i64 x, .int .i64 n, .int .i64 z] := hy
        replace hB := Below.via (w := w) (by have hs_ := hB.size; repeat (first | with_reducible exact hB | with_reducible (refine Below.setCell ?_ (by simp <;> omega) _) | with_reducible (refine Below.alloc ?_ (by first | exact hs_ | (simp <;> omega)) _) | with_reducible (refine Below.drew ?_))) bB
        clear z1 z2 z3 z4 z5 z6 z7 z8 z9
        clear bB
        generalize wr.heap.size = py at *
        clear HS
        have z10 : v1.cell? ⟨w.heap.size, 0, none⟩ = some (.int .u8 14) := (hq.cell 0).trans rfl
        have z11 := hq.frozen 0
        have z12 : v1.cell? ⟨w.heap.size, 1, none⟩ = some (.int .i64 x) := (hq.cell 1).trans rfl
        have z13 := hq.frozen 1
        have z14 : v1.cell? ⟨w.heap.size, 2, none⟩ = some (.int .i64 y) := (hq.cell 2).trans rfl
        have z15 := hq.frozen 2
        have z16 : v1.cell? ⟨w.heap.size, 3, none⟩ = some (.int .i64 z) := (hq.cell 3).trans rfl
        have z17 := hq.frozen 3
        have z18 : v1.cell? ⟨py, 0, none⟩ = some (.int .u8 14) := (hy.cell 0).trans rfl
        have z19 := hy.frozen 0
        have z20 : v1.cell? ⟨py, 1, none⟩ = some (.int .i64 x) := (hy.cell 1).trans rfl
        have z21 := hy.frozen 1
        have z22 : v1.cell? ⟨py, 2, none⟩ = some (.int .i64 n) := (hy.cell 2).trans rfl
        have z23 := hy.frozen 2
        have z24 : v1.cell? ⟨py, 3, none⟩ = some (.int .i64 z) := (hy.cell 3).trans rfl
        have z25 := hy.frozen 3
        have z26 := hq.lt
        have z27 := hy.lt
        rcases H08 with rfl | rfl
        · obtain ⟨e1, e2⟩ := HSAME.out HE2.out
          rw [e1] at p1
          rw [e2] at p2
          clear e1 e2
          rw [(HSAME.out HE2.out).1, (HSAME.out HE2.out).2]
          go_wp2_with fail
          refine (sameInts_any A1 RR.length c1 RR A6 RR.length c6 RR _ (own_reads o1) (own_reads p1) (by omega)).mono ?_
          rintro e v2 ⟨rfl, bB⟩
          rw [decide_eq_true (rfl : RR = RR)]
          replace hq := Blk.via0 (g := w.heap.size) (t := 23) bB (by repeat (first | with_reducible exact hq | with_reducible (apply Blk.set_) | with_reducible (apply Blk.far; case hp => (simp <;> omega)) | with_reducible (apply Blk.alloc) | with_reducible (apply Blk.drew)))
          replace hq : Blk v2 w.heap.size 23 #[.int .u8 14, .int .i64 x, .int .i64 y, .int .i64 z] := hq
          replace hy := Blk.via0 (g := py) (t := 23) bB (by repeat (first | with_reducible exact hy | with_reducible (apply Blk.set_) | with_reducible (apply Blk.far; case hp => (simp <;> omega)) | with_reducible (apply Blk.alloc) | with_reducible (apply Blk.drew)))
          replace hy : Blk v2 py 23 #[.int .u8 14, .int .i64 x, .int .i64 n, .int .i64 z] := hy
          replace o1 := own_call (by repeat (first | with_reducible exact o1 | (with_reducible apply own_set_; case hne => first | exact ne_o1_hq | exact ne_o1_hy) | with_reducible (apply own_alloc_) | with_reducible (apply own_drew_))) bB
          replace o2 := own_call (by repeat (first | with_reducible exact o2 | (with_reducible apply own_set_; case hne => first | exact ne_o2_hq | exact ne_o2_hy) | with_reducible (apply own_alloc_) | with_reducible (apply own_drew_))) bB
          replace p1 := own_call (by repeat (first | with_reducible exact p1 | (with_reducible apply own_set_; case hne => first | exact ne_p1_hq | exact ne_p1_hy) | with_reducible (apply own_alloc_) | with_reducible (apply own_drew_))) bB
          replace p2 := own_call (by repeat (first | with_reducible exact p2 | (with_reducible apply own_set_; case hne => first | exact ne_p2_hq | exact ne_p2_hy) | with_reducible (apply own_alloc_) | with_reducible (apply own_drew_))) bB
          replace hB := Below.via (w := w) (by have hs_ := hB.size; repeat (first | with_reducible exact hB | with_reducible (refine Below.setCell ?_ (by simp <;> omega) _) | with_reducible (refine Below.alloc ?_ (by first | exact hs_ | (simp <;> omega)) _) | with_reducible (refine Below.drew ?_))) bB
          clear z10 z11 z12 z13 z14 z15 z16 z17 z18 z19 z20 z21 z22 z23 z24 z25 z26 z27
          clear bB
          go_wp2_with fail
          refine (sameInts_any A2 WW.length c2 WW A7 WW.length c7 WW _ (own_reads o2) (own_reads p2) (by omega)).mono ?_
          rintro e v3 ⟨rfl, bB⟩
          rw [decide_eq_true (rfl : WW = WW)]
          replace hq := Blk.via0 (g := w.heap.size) (t := 23) bB (by repeat (first | with_reducible exact hq | with_reducible (apply Blk.set_) | with_reducible (apply Blk.far; case hp => (simp <;> omega)) | with_reducible (apply Blk.alloc) | with_reducible (apply Blk.drew)))
          replace hq : Blk v3 w.heap.size 23 #[.int .u8 14, .int .i64 x, .int .i64 y, .int .i64 z] := hq
          replace hy := Blk.via0 (g := py) (t := 23) bB (by repeat (first | with_reducible exact hy | with_reducible (apply Blk.set_) | with_reducible (apply Blk.far; case hp => (simp <;> omega)) | with_reducible (apply Blk.alloc) | with_reducible (apply Blk.drew)))
          replace hy : Blk v3 py 23 #[.int .u8 14, .int .i64 x, .int .i64 n, .int .i64 z] := hy
          replace o1 := own_call (by repeat (first | with_reducible exact o1 | (with_reducible apply own_set_; case hne => first | exact ne_o1_hq | exact ne_o1_hy) | with_reducible (apply own_alloc_) | with_reducible (apply own_drew_))) bB
          replace o2 := own_call (by repeat (first | with_reducible exact o2 | (with_reducible apply own_set_; case hne => first | exact ne_o2_hq | exact ne_o2_hy) | with_reducible (apply own_alloc_) | with_reducible (apply own_drew_))) bB
          replace p1 := own_call (by repeat (first | with_reducible exact p1 | (with_reducible apply own_set_; case hne => first | exact ne_p1_hq | exact ne_p1_hy) | with_reducible (apply own_alloc_) | with_reducible (apply own_drew_))) bB
          replace p2 := own_call (by repeat (first | with_reducible exact p2 | (with_reducible apply own_set_; case hne => first | exact ne_p2_hq | exact ne_p2_hy) | with_reducible (apply own_alloc_) | with_reducible (apply own_drew_))) bB
          replace hB := Below.via (w := w) (by have hs_ := hB.size; repeat (first | with_reducible exact hB | with_reducible (refine Below.setCell ?_ (by simp <;> omega) _) | with_reducible (refine Below.alloc ?_ (by first | exact hs_ | (simp <;> omega)) _) | with_reducible (refine Below.drew ?_))) bB
          clear bB
          go_wp2_with fail
          refine (alive6_any _).mono ?_
          rintro e v4 ⟨rfl, bB⟩
          replace hq := Blk.via0 (g := w.heap.size) (t := 23) bB (by repeat (first | with_reducible exact hq | with_reducible (apply Blk.set_) | with_reducible (apply Blk.far; case hp => (simp <;> omega)) | with_reducible (apply Blk.alloc) | with_reducible (apply Blk.drew)))
          replace hq : Blk v4 w.heap.size 23 #[.int .u8 14, .int .i64 x, .int .i64 y, .int .i64 z] := hq
          replace hy := Blk.via0 (g := py) (t := 23) bB (by repeat (first | with_reducible exact hy | with_reducible (apply Blk.set_) | with_reducible (apply Blk.far; case hp => (simp <;> omega)) | with_reducible (apply Blk.alloc) | with_reducible (apply Blk.drew)))
          replace hy : Blk v4 py 23 #[.int .u8 14, .int .i64 x, .int .i64 n, .int .i64 z] := hy
          replace o1 := own_call (by repeat (first | with_reducible exact o1 | (with_reducible apply own_set_; case hne => first | exact ne_o1_hq | exact ne_o1_hy) | with_reducible (apply own_alloc_) | with_reducible (apply own_drew_))) bB
          replace o2 := own_call (by repeat (first | with_reducible exact o2 | (with_reducible apply own_set_; case hne => first | exact ne_o2_hq | exact ne_o2_hy) | with_reducible (apply own_alloc_) | with_reducible (apply own_drew_))) bB
          replace p1 := own_call (by repeat (first | with_reducible exact p1 | (with_reducible apply own_set_; case hne => first | exact ne_p1_hq | exact ne_p1_hy) | with_reducible (apply own_alloc_) | with_reducible (apply own_drew_))) bB
          replace p2 := own_call (by repeat (first | with_reducible exact p2 | (with_reducible apply own_set_; case hne => first | exact ne_p2_hq | exact ne_p2_hy) | with_reducible (apply own_alloc_) | with_reducible (apply own_drew_))) bB
          replace hB := Below.via (w := w) (by have hs_ := hB.size; repeat (first | with_reducible exact hB | with_reducible (refine Below.setCell ?_ (by simp <;> omega) _) | with_reducible (refine Below.alloc ?_ (by first | exact hs_ | (simp <;> omega)) _) | with_reducible (refine Below.drew ?_))) bB
          clear bB
          go_wp2_with fail
          go_ret
          exact ⟨rfl, (by have hs_ := hB.size; repeat (first | with_reducible exact hB | with_reducible (refine Below.setCell ?_ (by simp <;> omega) _) | with_reducible (refine Below.alloc ?_ (by first | exact hs_ | (simp <;> omega)) _) | with_reducible (refine Below.drew ?_)))⟩
        · have hne : y ≠ n := by
            rintro rfl
            exact absurd (HE2.out.symm.trans HE.out) (by decide)
          have g1 : (y == n) = false := by simpa using hne
          have g2 : (n == y) = false := by simpa using fun h => hne h.symm
          have HC := fun W => check6_any 14 (by omega) x n z W
          rw [HE2.out] at HC
          clear hne
          go_wp2_with fail
          refine (HC _).mono ?_
          rintro e v2 ⟨rfl, bB⟩
          replace hq := Blk.via0 (g := w.heap.size) (t := 23) bB (by repeat (first | with_reducible exact hq | with_reducible (apply Blk.set_) | with_reducible (apply Blk.far; case hp => (simp <;> omega)) | with_reducible (apply Blk.alloc) | with_reducible (apply Blk.drew)))
          replace hq : Blk v2 w.heap.size 23 #[.int .u8 14, .int .i64 x, .int .i64 y, .int .i64 z] := hq
          replace hy := Blk.via0 (g := py) (t := 23) bB (by repeat (first | with_reducible exact hy | with_reducible (apply Blk.set_) | with_reducible (apply Blk.far; case hp => (simp <;> omega)) | with_reducible (apply Blk.alloc) | with_reducible (apply Blk.drew)))
          replace hy : Blk v2 py 23 #[.int .u8 14, .int .i64 x, .int .i64 n, .int .i64 z] := hy
          replace hB := Below.via (w := w) (by have hs_ := hB.size; repeat (first | with_reducible exact hB | with_reducible (refine Below.setCell ?_ (by simp <;> omega) _) | with_reducible (refine Below.alloc ?_ (by first | exact hs_ | (simp <;> omega)) _) | with_reducible (refine Below.drew ?_))) bB
          clear z10 z11 z12 z13 z14 z15 z16 z17 z18 z19 z20 z21 z22 z23 z24 z25 z26 z27
          clear bB
          go_wp2_with fail
          refine (alive6_any _).mono ?_
          rintro e v3 ⟨rfl, bB⟩
          replace hq := Blk.via0 (g := w.heap.size) (t := 23) bB (by repeat (first | with_reducible exact hq | with_reducible (apply Blk.set_) | with_reducible (apply Blk.far; case hp => (simp <;> omega)) | with_reducible (apply Blk.alloc) | with_reducible (apply Blk.drew)))
          replace hq : Blk v3 w.heap.size 23 #[.int .u8 14, .int .i64 x, .int .i64 y, .int .i64 z] := hq
          replace hy := Blk.via0 (g := py) (t := 23) bB (by repeat (first | with_reducible exact hy | with_reducible (apply Blk.set_) | with_reducible (apply Blk.far; case hp => (simp <;> omega)) | with_reducible (apply Blk.alloc) | with_reducible (apply Blk.drew)))
          replace hy : Blk v3 py 23 #[.int .u8 14, .int .i64 x, .int .i64 n, .int .i64 z] := hy
          replace hB := Below.via (w := w) (by have hs_ := hB.size; repeat (first | with_reducible exact hB | with_reducible (refine Below.setCell ?_ (by simp <;> omega) _) | with_reducible (refine Below.alloc ?_ (by first | exact hs_ | (simp <;> omega)) _) | with_reducible (refine Below.drew ?_))) bB
          clear bB
          go_wp2_with fail
          go_ret
          exact ⟨rfl, (by have hs_ := hB.size; repeat (first | with_reducible exact hB | with_reducible (refine Below.setCell ?_ (by simp <;> omega) _) | with_reducible (refine Below.alloc ?_ (by first | exact hs_ | (simp <;> omega)) _) | with_reducible (refine Below.drew ?_)))⟩
      by_cases k23 : op = 23
      · subst k23
        obtain ⟨E2, hE2⟩ : ∃ E, ckI 23 x n z = E := ⟨_, rfl⟩
        have HE2 := Lib.hid hE2
        have H08 := ck_08 23 x n z
        have HS := fun W => slots_any 23 (by omega) x n z W
        unfold SlP at HS
        have HSAME := Lib.hid (show ckI 23 x n z = 0 → slR 23 x n z = RR ∧ slW 23 x n z = WW from fun h => by
          rw [← HRR.out, ← HWW.out]
          exact ⟨by rw [slR, slR, if_pos h, if_pos HE.out]; rfl, by rw [slW, slW, if_pos h, if_pos HE.out]; rfl⟩)
        rw [hE2] at HS H08
        clear hE2
        have z1 : wr.cell? ⟨w.heap.size, 0, none⟩ = some (.int .u8 23) := (hq.cell 0).trans rfl
        have z2 := hq.frozen 0
        have z3 : wr.cell? ⟨w.heap.size, 1, none⟩ = some (.int .i64 x) := (hq.cell 1).trans rfl
        have z4 := hq.frozen 1
        have z5 : wr.cell? ⟨w.heap.size, 2, none⟩ = some (.int .i64 y) := (hq.cell 2).trans rfl
        have z6 := hq.frozen 2
        have z7 : wr.cell? ⟨w.heap.size, 3, none⟩ = some (.int .i64 z) := (hq.cell 3).trans rfl
        have z8 := hq.frozen 3
        have z9 := hq.lt
        go_wp2_with fail
        obtain ⟨R2, hR2⟩ : ∃ R2, slR 23 x n z = R2 := ⟨_, rfl⟩
        obtain ⟨W2, hW2⟩ : ∃ W2, slW 23 x n z = W2 := ⟨_, rfl⟩
        rw [hR2, hW2] at HS HSAME
        refine (HS _).mono ?_
        rintro e v1 ⟨A6, c6, A7, c7, rfl, p1, p2, bB⟩
        have ne_p1_hq : (Value.slice A6 R2.length c6).ownBlock ≠ some w.heap.size := own_not_lt p1 (by first | omega | (simp <;> omega))
        have ne_p1_hy : (Value.slice A6 R2.length c6).ownBlock ≠ some wr.heap.size := own_not_lt p1 (by first | omega | (simp <;> omega))
        have ne_p2_hq : (Value.slice A7 W2.length c7).ownBlock ≠ some w.heap.size := own_not_lt p2 (by first | omega | (simp <;> omega))
        have ne_p2_hy : (Value.slice A7 W2.length c7).ownBlock ≠ some wr.heap.size := own_not_lt p2 (by first | omega | (simp <;> omega))
        replace p1 := own_low p1 (show w.heap.size ≤ _ from by have hs_ := hB.size; simp <;> omega)
        replace p2 := own_low p2 (show w.heap.size ≤ _ from by have hs_ := hB.size; simp <;> omega)
        have ne_o1_hy : (Value.slice A1 RR.length c1).ownBlock ≠ some wr.heap.size := own_not_ge o1 (by omega)
        have ne_o2_hy : (Value.slice A2 WW.length c2).ownBlock ≠ some wr.heap.size := own_not_ge o2 (by omega)
        have o_hq_hy : w.heap.size < wr.heap.size := (by omega)
        have ow_hy : w.heap.size ≤ wr.heap.size := (by have := hB.size; omega)
        replace hq := Blk.via0 (g := w.heap.size) (t := 23) bB (by repeat (first | with_reducible exact hq | with_reducible (apply Blk.set_) | with_reducible (apply Blk.far; case hp => (simp <;> omega)) | with_reducible (apply Blk.alloc) | with_reducible (apply Blk.drew)))
        replace hq : Blk v1 w.heap.size 23 #[.int .u8 23, .int .i64 x, .int .i64 y, .int .i64 z] := hq
        replace o1 := own_call (by repeat (first | with_reducible exact o1 | (with_reducible apply own_set_; case hne => first | exact ne_o1_hq) | with_reducible (apply own_alloc_) | with_reducible (apply own_drew_))) bB
        replace o2 := own_call (by repeat (first | with_reducible exact o2 | (with_reducible apply own_set_; case hne => first | exact ne_o2_hq) | with_reducible (apply own_alloc_) | with_reducible (apply own_drew_))) bB
        have hy := Blk.via0 (g := wr.heap.size) (t := 23) bB (by repeat (first | with_reducible exact Blk.newAt (by simp) _ _ | with_reducible (apply Blk.set_) | with_reducible (apply Blk.far; case hp => (simp <;> omega)) | with_reducible (apply Blk.alloc) | with_reducible (apply Blk.drew)))
        replace hy : Blk v1 wr.heap.size 23 #[.int .u8 23, .int .i64 x, .int .i64 n, .int .i64 z] := hy
        replace hB := Below.via (w := w) (by have hs_ := hB.size; repeat (first | with_reducible exact hB | with_reducible (refine Below.setCell ?_ (by simp <;> omega) _) | with_reducible (refine Below.alloc ?_ (by first | exact hs_ | (simp <;> omega)) _) | with_reducible (refine Below.drew ?_))) bB
        clear z1 z2 z3 z4 z5 z6 z7 z8 z9
        clear bB
        generalize wr.heap.size = py at *
        clear HS
        have z10 : v1.cell? ⟨w.heap.size, 0, none⟩ = some (.int .u8 23) := (hq.cell 0).trans rfl
        have z11 := hq.frozen 0
        have z12 : v1.cell? ⟨w.heap.size, 1, none⟩ = some (.int .i64 x) := (hq.cell 1).trans rfl
        have z13 := hq.frozen 1
        have z14 : v1.cell? ⟨w.heap.size, 2, none⟩ = some (.int .i64 y) := (hq.cell 2).trans rfl
        have z15 := hq.frozen 2
        have z16 : v1.cell? ⟨w.heap.size, 3, none⟩ = some (.int .i64 z) := (hq.cell 3).trans rfl
        have z17 := hq.frozen 3
        have z18 : v1.cell? ⟨py, 0, none⟩ = some (.int .u8 23) := (hy.cell 0).trans rfl
        have z19 := hy.frozen 0
        have z20 : v1.cell? ⟨py, 1, none⟩ = some (.int .i64 x) := (hy.cell 1).trans rfl
        have z21 := hy.frozen 1
        have z22 : v1.cell? ⟨py, 2, none⟩ = some (.int .i64 n) := (hy.cell 2).trans rfl
        have z23 := hy.frozen 2
        have z24 : v1.cell? ⟨py, 3, none⟩ = some (.int .i64 z) := (hy.cell 3).trans rfl
        have z25 := hy.frozen 3
        have z26 := hq.lt
        have z27 := hy.lt
        rcases H08 with rfl | rfl
        · obtain ⟨e1, e2⟩ := HSAME.out HE2.out
          rw [e1] at p1
          rw [e2] at p2
          clear e1 e2
          rw [(HSAME.out HE2.out).1, (HSAME.out HE2.out).2]
          go_wp2_with fail
          refine (sameInts_any A1 RR.length c1 RR A6 RR.length c6 RR _ (own_reads o1) (own_reads p1) (by omega)).mono ?_
          rintro e v2 ⟨rfl, bB⟩
          rw [decide_eq_true (rfl : RR = RR)]
          replace hq := Blk.via0 (g := w.heap.size) (t := 23) bB (by repeat (first | with_reducible exact hq | with_reducible (apply Blk.set_) | with_reducible (apply Blk.far; case hp => (simp <;> omega)) | with_reducible (apply Blk.alloc) | with_reducible (apply Blk.drew)))
          replace hq : Blk v2 w.heap.size 23 #[.int .u8 23, .int .i64 x, .int .i64 y, .int .i64 z] := hq
          replace hy := Blk.via0 (g := py) (t := 23) bB (by repeat (first | with_reducible exact hy | with_reducible (apply Blk.set_) | with_reducible (apply Blk.far; case hp => (simp <;> omega)) | with_reducible (apply Blk.alloc) | with_reducible (apply Blk.drew)))
          replace hy : Blk v2 py 23 #[.int .u8 23, .int .i64 x, .int .i64 n, .int .i64 z] := hy
          replace o1 := own_call (by repeat (first | with_reducible exact o1 | (with_reducible apply own_set_; case hne => first | exact ne_o1_hq | exact ne_o1_hy) | with_reducible (apply own_alloc_) | with_reducible (apply own_drew_))) bB
          replace o2 := own_call (by repeat (first | with_reducible exact o2 | (with_reducible apply own_set_; case hne => first | exact ne_o2_hq | exact ne_o2_hy) | with_reducible (apply own_alloc_) | with_reducible (apply own_drew_))) bB
          replace p1 := own_call (by repeat (first | with_reducible exact p1 | (with_reducible apply own_set_; case hne => first | exact ne_p1_hq | exact ne_p1_hy) | with_reducible (apply own_alloc_) | with_reducible (apply own_drew_))) bB
          replace p2 := own_call (by repeat (first | with_reducible exact p2 | (with_reducible apply own_set_; case hne => first | exact ne_p2_hq | exact ne_p2_hy) | with_reducible (apply own_alloc_) | with_reducible (apply own_drew_))) bB
          replace hB := Below.via (w := w) (by have hs_ := hB.size; repeat (first | with_reducible exact hB | with_reducible (refine Below.setCell ?_ (by simp <;> omega) _) | with_reducible (refine Below.alloc ?_ (by first | exact hs_ | (simp <;> omega)) _) | with_reducible (refine Below.drew ?_))) bB
          clear z10 z11 z12 z13 z14 z15 z16 z17 z18 z19 z20 z21 z22 z23 z24 z25 z26 z27
          clear bB
          go_wp2_with fail
          refine (sameInts_any A2 WW.length c2 WW A7 WW.length c7 WW _ (own_reads o2) (own_reads p2) (by omega)).mono ?_
          rintro e v3 ⟨rfl, bB⟩
          rw [decide_eq_true (rfl : WW = WW)]
          replace hq := Blk.via0 (g := w.heap.size) (t := 23) bB (by repeat (first | with_reducible exact hq | with_reducible (apply Blk.set_) | with_reducible (apply Blk.far; case hp => (simp <;> omega)) | with_reducible (apply Blk.alloc) | with_reducible (apply Blk.drew)))
          replace hq : Blk v3 w.heap.size 23 #[.int .u8 23, .int .i64 x, .int .i64 y, .int .i64 z] := hq
          replace hy := Blk.via0 (g := py) (t := 23) bB (by repeat (first | with_reducible exact hy | with_reducible (apply Blk.set_) | with_reducible (apply Blk.far; case hp => (simp <;> omega)) | with_reducible (apply Blk.alloc) | with_reducible (apply Blk.drew)))
          replace hy : Blk v3 py 23 #[.int .u8 23, .int .i64 x, .int .i64 n, .int .i64 z] := hy
          replace o1 := own_call (by repeat (first | with_reducible exact o1 | (with_reducible apply own_set_; case hne => first | exact ne_o1_hq | exact ne_o1_hy) | with_reducible (apply own_alloc_) | with_reducible (apply own_drew_))) bB
          replace o2 := own_call (by repeat (first | with_reducible exact o2 | (with_reducible apply own_set_; case hne => first | exact ne_o2_hq | exact ne_o2_hy) | with_reducible (apply own_alloc_) | with_reducible (apply own_drew_))) bB
          replace p1 := own_call (by repeat (first | with_reducible exact p1 | (with_reducible apply own_set_; case hne => first | exact ne_p1_hq | exact ne_p1_hy) | with_reducible (apply own_alloc_) | with_reducible (apply own_drew_))) bB
          replace p2 := own_call (by repeat (first | with_reducible exact p2 | (with_reducible apply own_set_; case hne => first | exact ne_p2_hq | exact ne_p2_hy) | with_reducible (apply own_alloc_) | with_reducible (apply own_drew_))) bB
          replace hB := Below.via (w := w) (by have hs_ := hB.size; repeat (first | with_reducible exact hB | with_reducible (refine Below.setCell ?_ (by simp <;> omega) _) | with_reducible (refine Below.alloc ?_ (by first | exact hs_ | (simp <;> omega)) _) | with_reducible (refine Below.drew ?_))) bB
          clear bB
          go_wp2_with fail
          refine (alive6_any _).mono ?_
          rintro e v4 ⟨rfl, bB⟩
          replace hq := Blk.via0 (g := w.heap.size) (t := 23) bB (by repeat (first | with_reducible exact hq | with_reducible (apply Blk.set_) | with_reducible (apply Blk.far; case hp => (simp <;> omega)) | with_reducible (apply Blk.alloc) | with_reducible (apply Blk.drew)))
          replace hq : Blk v4 w.heap.size 23 #[.int .u8 23, .int .i64 x, .int .i64 y, .int .i64 z] := hq
          replace hy := Blk.via0 (g := py) (t := 23) bB (by repeat (first | with_reducible exact hy | with_reducible (apply Blk.set_) | with_reducible (apply Blk.far; case hp => (simp <;> omega)) | with_reducible (apply Blk.alloc) | with_reducible (apply Blk.drew)))
          replace hy : Blk v4 py 23 #[.int .u8 23, .int .i64 x, .int .i64 n, .int .i64 z] := hy
          replace o1 := own_call (by repeat (first | with_reducible exact o1 | (with_reducible apply own_set_; case hne => first | exact ne_o1_hq | exact ne_o1_hy) | with_reducible (apply own_alloc_) | with_reducible (apply own_drew_))) bB
          replace o2 := own_call (by repeat (first | with_reducible exact o2 | (with_reducible apply own_set_; case hne => first | exact ne_o2_hq | exact ne_o2_hy) | with_reducible (apply own_alloc_) | with_reducible (apply own_drew_))) bB
          replace p1 := own_call (by repeat (first | with_reducible exact p1 | (with_reducible apply own_set_; case hne => first | exact ne_p1_hq | exact ne_p1_hy) | with_reducible (apply own_alloc_) | with_reducible (apply own_drew_))) bB
          replace p2 := own_call (by repeat (first | with_reducible exact p2 | (with_reducible apply own_set_; case hne => first | exact ne_p2_hq | exact ne_p2_hy) | with_reducible (apply own_alloc_) | with_reducible (apply own_drew_))) bB
          replace hB := Below.via (w := w) (by have hs_ := hB.size; repeat (first | with_reducible exact hB | with_reducible (refine Below.setCell ?_ (by simp <;> omega) _) | with_reducible (refine Below.alloc ?_ (by first | exact hs_ | (simp <;> omega)) _) | with_reducible (refine Below.drew ?_))) bB
          clear bB
          go_wp2_with fail
          go_ret
          exact ⟨rfl, (by have hs_ := hB.size; repeat (first | with_reducible exact hB | with_reducible (refine Below.setCell ?_ (by simp <;> omega) _) | with_reducible (refine Below.alloc ?_ (by first | exact hs_ | (simp <;> omega)) _) | with_reducible (refine Below.drew ?_)))⟩
        · have hne : y ≠ n := by
            rintro rfl
            exact absurd (HE2.out.symm.trans HE.out) (by decide)
          have g1 : (y == n) = false := by simpa using hne
          have g2 : (n == y) = false := by simpa using fun h => hne h.symm
          have HC := fun W => check6_any 23 (by omega) x n z W
          rw [HE2.out] at HC
          clear hne
          go_wp2_with fail
          refine (HC _).mono ?_
          rintro e v2 ⟨rfl, bB⟩
          replace hq := Blk.via0 (g := w.heap.size) (t := 23) bB (by repeat (first | with_reducible exact hq | with_reducible (apply Blk.set_) | with_reducible (apply Blk.far; case hp => (simp <;> omega)) | with_reducible (apply Blk.alloc) | with_reducible (apply Blk.drew)))
          replace hq : Blk v2 w.heap.size 23 #[.int .u8 23, .int .i64 x, .int .i64 y, .int .i64 z] := hq
          replace hy := Blk.via0 (g := py) (t := 23) bB (by repeat (first | with_reducible exact hy | with_reducible (apply Blk.set_) | with_reducible (apply Blk.far; case hp => (simp <;> omega)) | with_reducible (apply Blk.alloc) | with_reducible (apply Blk.drew)))
          replace hy : Blk v2 py 23 #[.int .u8 23, .int .i64 x, .int .i64 n, .int .i64 z] := hy
          replace hB := Below.via (w := w) (by have hs_ := hB.size; repeat (first | with_reducible exact hB | with_reducible (refine Below.setCell ?_ (by simp <;> omega) _) | with_reducible (refine Below.alloc ?_ (by first | exact hs_ | (simp <;> omega)) _) | with_reducible (refine Below.drew ?_))) bB
          clear z10 z11 z12 z13 z14 z15 z16 z17 z18 z19 z20 z21 z22 z23 z24 z25 z26 z27
          clear bB
          go_wp2_with fail
          refine (alive6_any _).mono ?_
          rintro e v3 ⟨rfl, bB⟩
          replace hq := Blk.via0 (g := w.heap.size) (t := 23) bB (by repeat (first | with_reducible exact hq | with_reducible (apply Blk.set_) | with_reducible (apply Blk.far; case hp => (simp <;> omega)) | with_reducible (apply Blk.alloc) | with_reducible (apply Blk.drew)))
          replace hq : Blk v3 w.heap.size 23 #[.int .u8 23, .int .i64 x, .int .i64 y, .int .i64 z] := hq
          replace hy := Blk.via0 (g := py) (t := 23) bB (by repeat (first | with_reducible exact hy | with_reducible (apply Blk.set_) | with_reducible (apply Blk.far; case hp => (simp <;> omega)) | with_reducible (apply Blk.alloc) | with_reducible (apply Blk.drew)))
          replace hy : Blk v3 py 23 #[.int .u8 23, .int .i64 x, .int .i64 n, .int .i64 z] := hy
          replace hB := Below.via (w := w) (by have hs_ := hB.size; repeat (first | with_reducible exact hB | with_reducible (refine Below.setCell ?_ (by simp <;> omega) _) | with_reducible (refine Below.alloc ?_ (by first | exact hs_ | (simp <;> omega)) _) | with_reducible (refine Below.drew ?_))) bB
          clear bB
          go_wp2_with fail
          go_ret
          exact ⟨rfl, (by have hs_ := hB.size; repeat (first | with_reducible exact hB | with_reducible (refine Below.setCell ?_ (by simp <;> omega) _) | with_reducible (refine Below.alloc ?_ (by first | exact hs_ | (simp <;> omega)) _) | with_reducible (refine Below.drew ?_)))⟩
      by_cases k25 : op = 25
      · subst k25
        obtain ⟨E2, hE2⟩ : ∃ E, ckI 25 x n z = E := ⟨_, rfl⟩
        have HE2 := Lib.hid hE2
        have H08 := ck_08 25 x n z
        have HS := fun W => slots_any 25 (by omega) x n z W
        unfold SlP at HS
        have HSAME := Lib.hid (show ckI 25 x n z = 0 → slR 25 x n z = RR ∧ slW 25 x n z = WW from fun h => by
          rw [← HRR.out, ← HWW.out]
          exact ⟨by rw [slR, slR, if_pos h, if_pos HE.out]; rfl, by rw [slW, slW, if_pos h, if_pos HE.out]; rfl⟩)
        rw [hE2] at HS H08
        clear hE2
        have z1 : wr.cell? ⟨w.heap.size, 0, none⟩ = some (.int .u8 25) := (hq.cell 0).trans rfl
        have z2 := hq.frozen 0
        have z3 : wr.cell? ⟨w.heap.size, 1, none⟩ = some (.int .i64 x) := (hq.cell 1).trans rfl
        have z4 := hq.frozen 1
        have z5 : wr.cell? ⟨w.heap.size, 2, none⟩ = some (.int .i64 y) := (hq.cell 2).trans rfl
        have z6 := hq.frozen 2
        have z7 : wr.cell? ⟨w.heap.size, 3, none⟩ = some (.int .i64 z) := (hq.cell 3).trans rfl
        have z8 := hq.frozen 3
        have z9 := hq.lt
        go_wp2_with fail
        obtain ⟨R2, hR2⟩ : ∃ R2, slR 25 x n z = R2 := ⟨_, rfl⟩
        obtain ⟨W2, hW2⟩ : ∃ W2, slW 25 x n z = W2 := ⟨_, rfl⟩
        rw [hR2, hW2] at HS HSAME
        refine (HS _).mono ?_
        rintro e v1 ⟨A6, c6, A7, c7, rfl, p1, p2, bB⟩
        have ne_p1_hq : (Value.slice A6 R2.length c6).ownBlock ≠ some w.heap.size := own_not_lt p1 (by first | omega | (simp <;> omega))
        have ne_p1_hy : (Value.slice A6 R2.length c6).ownBlock ≠ some wr.heap.size := own_not_lt p1 (by first | omega | (simp <;> omega))
        have ne_p2_hq : (Value.slice A7 W2.length c7).ownBlock ≠ some w.heap.size := own_not_lt p2 (by first | omega | (simp <;> omega))
        have ne_p2_hy : (Value.slice A7 W2.length c7).ownBlock ≠ some wr.heap.size := own_not_lt p2 (by first | omega | (simp <;> omega))
        replace p1 := own_low p1 (show w.heap.size ≤ _ from by have hs_ := hB.size; simp <;> omega)
        replace p2 := own_low p2 (show w.heap.size ≤ _ from by have hs_ := hB.size; simp <;> omega)
        have ne_o1_hy : (Value.slice A1 RR.length c1).ownBlock ≠ some wr.heap.size := own_not_ge o1 (by omega)
        have ne_o2_hy : (Value.slice A2 WW.length c2).ownBlock ≠ some wr.heap.size := own_not_ge o2 (by omega)
        have o_hq_hy : w.heap.size < wr.heap.size := (by omega)
        have ow_hy : w.heap.size ≤ wr.heap.size := (by have := hB.size; omega)
        replace hq := Blk.via0 (g := w.heap.size) (t := 23) bB (by repeat (first | with_reducible exact hq | with_reducible (apply Blk.set_) | with_reducible (apply Blk.far; case hp => (simp <;> omega)) | with_reducible (apply Blk.alloc) | with_reducible (apply Blk.drew)))
        replace hq : Blk v1 w.heap.size 23 #[.int .u8 25, .int .i64 x, .int .i64 y, .int .i64 z] := hq
        replace o1 := own_call (by repeat (first | with_reducible exact o1 | (with_reducible apply own_set_; case hne => first | exact ne_o1_hq) | with_reducible (apply own_alloc_) | with_reducible (apply own_drew_))) bB
        replace o2 := own_call (by repeat (first | with_reducible exact o2 | (with_reducible apply own_set_; case hne => first | exact ne_o2_hq) | with_reducible (apply own_alloc_) | with_reducible (apply own_drew_))) bB
        have hy := Blk.via0 (g := wr.heap.size) (t := 23) bB (by repeat (first | with_reducible exact Blk.newAt (by simp) _ _ | with_reducible (apply Blk.set_) | with_reducible (apply Blk.far; case hp => (simp <;> omega)) | with_reducible (apply Blk.alloc) | with_reducible (apply Blk.drew)))
        replace hy : Blk v1 wr.heap.size 23 #[.int .u8 25, .int .i64 x, .int .i64 n, .int .i64 z] := hy
        replace hB := Below.via (w := w) (by have hs_ := hB.size; repeat (first | with_reducible exact hB | with_reducible (refine Below.setCell ?_ (by simp <;> omega) _) | with_reducible (refine Below.alloc ?_ (by first | exact hs_ | (simp <;> omega)) _) | with_reducible (refine Below.drew ?_))) bB
        clear z1 z2 z3 z4 z5 z6 z7 z8 z9
        clear bB
        generalize wr.heap.size = py at *
        clear HS
        have z10 : v1.cell? ⟨w.heap.size, 0, none⟩ = some (.int .u8 25) := (hq.cell 0).trans rfl
        have z11 := hq.frozen 0
        have z12 : v1.cell? ⟨w.heap.size, 1, none⟩ = some (.int .i64 x) := (hq.cell 1).trans rfl
        have z13 := hq.frozen 1
        have z14 : v1.cell? ⟨w.heap.size, 2, none⟩ = some (.int .i64 y) := (hq.cell 2).trans rfl
        have z15 := hq.frozen 2
        have z16 : v1.cell? ⟨w.heap.size, 3, none⟩ = some (.int .i64 z) := (hq.cell 3).trans rfl
        have z17 := hq.frozen 3
        have z18 : v1.cell? ⟨py, 0, none⟩ = some (.int .u8 25) := (hy.cell 0).trans rfl
        have z19 := hy.frozen 0
        have z20 : v1.cell? ⟨py, 1, none⟩ = some (.int .i64 x) := (hy.cell 1).trans rfl
        have z21 := hy.frozen 1
        have z22 : v1.cell? ⟨py, 2, none⟩ = some (.int .i64 n) := (hy.cell 2).trans rfl
        have z23 := hy.frozen 2
        have z24 : v1.cell? ⟨py, 3, none⟩ = some (.int .i64 z) := (hy.cell 3).trans rfl
        have z25 := hy.frozen 3
        have z26 := hq.lt
        have z27 := hy.lt
        rcases H08 with rfl | rfl
        · obtain ⟨e1, e2⟩ := HSAME.out HE2.out
          rw [e1] at p1
          rw [e2] at p2
          clear e1 e2
          rw [(HSAME.out HE2.out).1, (HSAME.out HE2.out).2]
          go_wp2_with fail
          refine (sameInts_any A1 RR.length c1 RR A6 RR.length c6 RR _ (own_reads o1) (own_reads p1) (by omega)).mono ?_
          rintro e v2 ⟨rfl, bB⟩
          rw [decide_eq_true (rfl : RR = RR)]
          replace hq := Blk.via0 (g := w.heap.size) (t := 23) bB (by repeat (first | with_reducible exact hq | with_reducible (apply Blk.set_) | with_reducible (apply Blk.far; case hp => (simp <;> omega)) | with_reducible (apply Blk.alloc) | with_reducible (apply Blk.drew)))
          replace hq : Blk v2 w.heap.size 23 #[.int .u8 25, .int .i64 x, .int .i64 y, .int .i64 z] := hq
          replace hy := Blk.via0 (g := py) (t := 23) bB (by repeat (first | with_reducible exact hy | with_reducible (apply Blk.set_) | with_reducible (apply Blk.far; case hp => (simp <;> omega)) | with_reducible (apply Blk.alloc) | with_reducible (apply Blk.drew)))
          replace hy : Blk v2 py 23 #[.int .u8 25, .int .i64 x, .int .i64 n, .int .i64 z] := hy
          replace o1 := own_call (by repeat (first | with_reducible exact o1 | (with_reducible apply own_set_; case hne => first | exact ne_o1_hq | exact ne_o1_hy) | with_reducible (apply own_alloc_) | with_reducible (apply own_drew_))) bB
          replace o2 := own_call (by repeat (first | with_reducible exact o2 | (with_reducible apply own_set_; case hne => first | exact ne_o2_hq | exact ne_o2_hy) | with_reducible (apply own_alloc_) | with_reducible (apply own_drew_))) bB
          replace p1 := own_call (by repeat (first | with_reducible exact p1 | (with_reducible apply own_set_; case hne => first | exact ne_p1_hq | exact ne_p1_hy) | with_reducible (apply own_alloc_) | with_reducible (apply own_drew_))) bB
          replace p2 := own_call (by repeat (first | with_reducible exact p2 | (with_reducible apply own_set_; case hne => first | exact ne_p2_hq | exact ne_p2_hy) | with_reducible (apply own_alloc_) | with_reducible (apply own_drew_))) bB
          replace hB := Below.via (w := w) (by have hs_ := hB.size; repeat (first | with_reducible exact hB | with_reducible (refine Below.setCell ?_ (by simp <;> omega) _) | with_reducible (refine Below.alloc ?_ (by first | exact hs_ | (simp <;> omega)) _) | with_reducible (refine Below.drew ?_))) bB
          clear z10 z11 z12 z13 z14 z15 z16 z17 z18 z19 z20 z21 z22 z23 z24 z25 z26 z27
          clear bB
          go_wp2_with fail
          refine (sameInts_any A2 WW.length c2 WW A7 WW.length c7 WW _ (own_reads o2) (own_reads p2) (by omega)).mono ?_
          rintro e v3 ⟨rfl, bB⟩
          rw [decide_eq_true (rfl : WW = WW)]
          replace hq := Blk.via0 (g := w.heap.size) (t := 23) bB (by repeat (first | with_reducible exact hq | with_reducible (apply Blk.set_) | with_reducible (apply Blk.far; case hp => (simp <;> omega)) | with_reducible (apply Blk.alloc) | with_reducible (apply Blk.drew)))
          replace hq : Blk v3 w.heap.size 23 #[.int .u8 25, .int .i64 x, .int .i64 y, .int .i64 z] := hq
          replace hy := Blk.via0 (g := py) (t := 23) bB (by repeat (first | with_reducible exact hy | with_reducible (apply Blk.set_) | with_reducible (apply Blk.far; case hp => (simp <;> omega)) | with_reducible (apply Blk.alloc) | with_reducible (apply Blk.drew)))
          replace hy : Blk v3 py 23 #[.int .u8 25, .int .i64 x, .int .i64 n, .int .i64 z] := hy
          replace o1 := own_call (by repeat (first | with_reducible exact o1 | (with_reducible apply own_set_; case hne => first | exact ne_o1_hq | exact ne_o1_hy) | with_reducible (apply own_alloc_) | with_reducible (apply own_drew_))) bB
          replace o2 := own_call (by repeat (first | with_reducible exact o2 | (with_reducible apply own_set_; case hne => first | exact ne_o2_hq | exact ne_o2_hy) | with_reducible (apply own_alloc_) | with_reducible (apply own_drew_))) bB
          replace p1 := own_call (by repeat (first | with_reducible exact p1 | (with_reducible apply own_set_; case hne => first | exact ne_p1_hq | exact ne_p1_hy) | with_reducible (apply own_alloc_) | with_reducible (apply own_drew_))) bB
          replace p2 := own_call (by repeat (first | with_reducible exact p2 | (with_reducible apply own_set_; case hne => first | exact ne_p2_hq | exact ne_p2_hy) | with_reducible (apply own_alloc_) | with_reducible (apply own_drew_))) bB
          replace hB := Below.via (w := w) (by have hs_ := hB.size; repeat (first | with_reducible exact hB | with_reducible (refine Below.setCell ?_ (by simp <;> omega) _) | with_reducible (refine Below.alloc ?_ (by first | exact hs_ | (simp <;> omega)) _) | with_reducible (refine Below.drew ?_))) bB
          clear bB
          go_wp2_with fail
          refine (alive6_any _).mono ?_
          rintro e v4 ⟨rfl, bB⟩
          replace hq := Blk.via0 (g := w.heap.size) (t := 23) bB (by repeat (first | with_reducible exact hq | with_reducible (apply Blk.set_) | with_reducible (apply Blk.far; case hp => (simp <;> omega)) | with_reducible (apply Blk.alloc) | with_reducible (apply Blk.drew)))
          replace hq : Blk v4 w.heap.size 23 #[.int .u8 25, .int .i64 x, .int .i64 y, .int .i64 z] := hq
          replace hy := Blk.via0 (g := py) (t := 23) bB (by repeat (first | with_reducible exact hy | with_reducible (apply Blk.set_) | with_reducible (apply Blk.far; case hp => (simp <;> omega)) | with_reducible (apply Blk.alloc) | with_reducible (apply Blk.drew)))
          replace hy : Blk v4 py 23 #[.int .u8 25, .int .i64 x, .int .i64 n, .int .i64 z] := hy
          replace o1 := own_call (by repeat (first | with_reducible exact o1 | (with_reducible apply own_set_; case hne => first | exact ne_o1_hq | exact ne_o1_hy) | with_reducible (apply own_alloc_) | with_reducible (apply own_drew_))) bB
          replace o2 := own_call (by repeat (first | with_reducible exact o2 | (with_reducible apply own_set_; case hne => first | exact ne_o2_hq | exact ne_o2_hy) | with_reducible (apply own_alloc_) | with_reducible (apply own_drew_))) bB
          replace p1 := own_call (by repeat (first | with_reducible exact p1 | (with_reducible apply own_set_; case hne => first | exact ne_p1_hq | exact ne_p1_hy) | with_reducible (apply own_alloc_) | with_reducible (apply own_drew_))) bB
          replace p2 := own_call (by repeat (first | with_reducible exact p2 | (with_reducible apply own_set_; case hne => first | exact ne_p2_hq | exact ne_p2_hy) | with_reducible (apply own_alloc_) | with_reducible (apply own_drew_))) bB
          replace hB := Below.via (w := w) (by have hs_ := hB.size; repeat (first | with_reducible exact hB | with_reducible (refine Below.setCell ?_ (by simp <;> omega) _) | with_reducible (refine Below.alloc ?_ (by first | exact hs_ | (simp <;> omega)) _) | with_reducible (refine Below.drew ?_))) bB
          clear bB
          go_wp2_with fail
          go_ret
          exact ⟨rfl, (by have hs_ := hB.size; repeat (first | with_reducible exact hB | with_reducible (refine Below.setCell ?_ (by simp <;> omega) _) | with_reducible (refine Below.alloc ?_ (by first | exact hs_ | (simp <;> omega)) _) | with_reducible (refine Below.drew ?_)))⟩
        · have hne : y ≠ n := by
            rintro rfl
            exact absurd (HE2.out.symm.trans HE.out) (by decide)
          have g1 : (y == n) = false := by simpa using hne
          have g2 : (n == y) = false := by simpa using fun h => hne h.symm
          have HC := fun W => check6_any 25 (by omega) x n z W
          rw [HE2.out] at HC
          clear hne
          go_wp2_with fail
          refine (HC _).mono ?_
          rintro e v2 ⟨rfl, bB⟩
          replace hq := Blk.via0 (g := w.heap.size) (t := 23) bB (by repeat (first | with_reducible exact hq | with_reducible (apply Blk.set_) | with_reducible (apply Blk.far; case hp => (simp <;> omega)) | with_reducible (apply Blk.alloc) | with_reducible (apply Blk.drew)))
          replace hq : Blk v2 w.heap.size 23 #[.int .u8 25, .int .i64 x, .int .i64 y, .int .i64 z] := hq
          replace hy := Blk.via0 (g := py) (t := 23) bB (by repeat (first | with_reducible exact hy | with_reducible (apply Blk.set_) | with_reducible (apply Blk.far; case hp => (simp <;> omega)) | with_reducible (apply Blk.alloc) | with_reducible (apply Blk.drew)))
          replace hy : Blk v2 py 23 #[.int .u8 25, .int .i64 x, .int .i64 n, .int .i64 z] := hy
          replace hB := Below.via (w := w) (by have hs_ := hB.size; repeat (first | with_reducible exact hB | with_reducible (refine Below.setCell ?_ (by simp <;> omega) _) | with_reducible (refine Below.alloc ?_ (by first | exact hs_ | (simp <;> omega)) _) | with_reducible (refine Below.drew ?_))) bB
          clear z10 z11 z12 z13 z14 z15 z16 z17 z18 z19 z20 z21 z22 z23 z24 z25 z26 z27
          clear bB
          go_wp2_with fail
          refine (alive6_any _).mono ?_
          rintro e v3 ⟨rfl, bB⟩
          replace hq := Blk.via0 (g := w.heap.size) (t := 23) bB (by repeat (first | with_reducible exact hq | with_reducible (apply Blk.set_) | with_reducible (apply Blk.far; case hp => (simp <;> omega)) | with_reducible (apply Blk.alloc) | with_reducible (apply Blk.drew)))
          replace hq : Blk v3 w.heap.size 23 #[.int .u8 25, .int .i64 x, .int .i64 y, .int .i64 z] := hq
          replace hy := Blk.via0 (g := py) (t := 23) bB (by repeat (first | with_reducible exact hy | with_reducible (apply Blk.set_) | with_reducible (apply Blk.far; case hp => (simp <;> omega)) | with_reducible (apply Blk.alloc) | with_reducible (apply Blk.drew)))
          replace hy : Blk v3 py 23 #[.int .u8 25, .int .i64 x, .int .i64 n, .int .i64 z] := hy
          replace hB := Below.via (w := w) (by have hs_ := hB.size; repeat (first | with_reducible exact hB | with_reducible (refine Below.setCell ?_ (by simp <;> omega) _) | with_reducible (refine Below.alloc ?_ (by first | exact hs_ | (simp <;> omega)) _) | with_reducible (refine Below.drew ?_))) bB
          clear bB
          go_wp2_with fail
          go_ret
          exact ⟨rfl, (by have hs_ := hB.size; repeat (first | with_reducible exact hB | with_reducible (refine Below.setCell ?_ (by simp <;> omega) _) | with_reducible (refine Below.alloc ?_ (by first | exact hs_ | (simp <;> omega)) _) | with_reducible (refine Below.drew ?_)))⟩
      by_cases k13 : op = 13
      · subst k13
        obtain ⟨E2, hE2⟩ : ∃ E, ckI 13 x y n = E := ⟨_, rfl⟩
        have HE2 := Lib.hid hE2
        have H08 := ck_08 13 x y n
        have HS := fun W => slots_any 13 (by omega) x y n W
        unfold SlP at HS
        have HSAME := Lib.hid (show ckI 13 x y n = 0 → slR 13 x y n = RR ∧ slW 13 x y n = WW from fun h => by
          rw [← HRR.out, ← HWW.out]
          exact ⟨by rw [slR, slR, if_pos h, if_pos HE.out]; rfl, by rw [slW, slW, if_pos h, if_pos HE.out]; rfl⟩)
        rw [hE2] at HS H08
        clear hE2
        have z1 : wr.cell? ⟨w.heap.size, 0, none⟩ = some (.int .u8 13) := (hq.cell 0).trans rfl
        have z2 := hq.frozen 0
        have z3 : wr.cell? ⟨w.heap.size, 1, none⟩ = some (.int .i64 x) := (hq.cell 1).trans rfl
        have z4 := hq.frozen 1
        have z5 : wr.cell? ⟨w.heap.size, 2, none⟩ = some (.int .i64 y) := (hq.cell 2).trans rfl
        have z6 := hq.frozen 2
        have z7 : wr.cell? ⟨w.heap.size, 3, none⟩ = some (.int .i64 z) := (hq.cell 3).trans rfl
        have z8 := hq.frozen 3
        have z9 := hq.lt
        go_wp2_with fail
        obtain ⟨R2, hR2⟩ : ∃ R2, slR 13 x y n = R2 := ⟨_, rfl⟩
        obtain ⟨W2, hW2⟩ : ∃ W2, slW 13 x y n = W2 := ⟨_, rfl⟩
        rw [hR2, hW2] at HS HSAME
        refine (HS _).mono ?_
        rintro e v1 ⟨A6, c6, A7, c7, rfl, p1, p2, bB⟩
        have ne_p1_hq : (Value.slice A6 R2.length c6).ownBlock ≠ some w.heap.size := own_not_lt p1 (by first | omega | (simp <;> omega))
        have ne_p1_hy : (Value.slice A6 R2.length c6).ownBlock ≠ some wr.heap.size := own_not_lt p1 (by first | omega | (simp <;> omega))
        have ne_p2_hq : (Value.slice A7 W2.length c7).ownBlock ≠ some w.heap.size := own_not_lt p2 (by first | omega | (simp <;> omega))
        have ne_p2_hy : (Value.slice A7 W2.length c7).ownBlock ≠ some wr.heap.size := own_not_lt p2 (by first | omega | (simp <;> omega))
        replace p1 := own_low p1 (show w.heap.size ≤ _ from by have hs_ := hB.size; simp <;> omega)
        replace p2 := own_low p2 (show w.heap.size ≤ _ from by have hs_ := hB.size; simp <;> omega)
        have ne_o1_hy : (Value.slice A1 RR.length c1).ownBlock ≠ some wr.heap.size := own_not_ge o1 (by omega)
        have ne_o2_hy : (Value.slice A2 WW.length c2).ownBlock ≠ some wr.heap.size := own_not_ge o2 (by omega)
        have o_hq_hy : w.heap.size < wr.heap.size := (by omega)
        have ow_hy : w.heap.size ≤ wr.heap.size := (by have := hB.size; omega)
        replace hq := Blk.via0 (g := w.heap.size) (t := 23) bB (by repeat (first | with_reducible exact hq | with_reducible (apply Blk.set_) | with_reducible (apply Blk.far; case hp => (simp <;> omega)) | with_reducible (apply Blk.alloc) | with_reducible (apply Blk.drew)))
        replace hq : Blk v1 w.heap.size 23 #[.int .u8 13, .int .i64 x, .int .i64 y, .int .i64 z] := hq
        replace o1 := own_call (by repeat (first | with_reducible exact o1 | (with_reducible apply own_set_; case hne => first | exact ne_o1_hq) | with_reducible (apply own_alloc_) | with_reducible (apply own_drew_))) bB
        replace o2 := own_call (by repeat (first | with_reducible exact o2 | (with_reducible apply own_set_; case hne => first | exact ne_o2_hq) | with_reducible (apply own_alloc_) | with_reducible (apply own_drew_))) bB
        have hy := Blk.via0 (g := wr.heap.size) (t := 23) bB (by repeat (first | with_reducible exact Blk.newAt (by simp) _ _ | with_reducible (apply Blk.set_) | with_reducible (apply Blk.far; case hp => (simp <;> omega)) | with_reducible (apply Blk.alloc) | with_reducible (apply Blk.drew)))
        replace hy : Blk v1 wr.heap.size 23 #[.int .u8 13, .int .i64 x, .int .i64 y, .int .i64 n] := hy
        replace hB := Below.via (w := w) (by have hs_ := hB.size; repeat (first | with_reducible exact hB | with_reducible (refine Below.setCell ?_ (by simp <;> omega) _) | with_reducible (refine Below.alloc ?_ (by first | exact hs_ | (simp <;> omega)) _) | with_reducible (refine Below.drew ?_))) bB
        clear z1 z2 z3 z4 z5 z6 z7 z8 z9
        clear bB
        generalize wr.heap.size = py at *
        clear HS
        have z10 : v1.cell? ⟨w.heap.size, 0, none⟩ = some (.int .u8 13) := (hq.cell 0).trans rfl
        have z11 := hq.frozen 0
        have z12 : v1.cell? ⟨w.heap.size, 1, none⟩ = some (.int .i64 x) := (hq.cell 1).trans rfl
        have z13 := hq.frozen 1
        have z14 : v1.cell? ⟨w.heap.size, 2, none⟩ = some (.int .i64 y) := (hq.cell 2).trans rfl
        have z15 := hq.frozen 2
        have z16 : v1.cell? ⟨w.heap.size, 3, none⟩ = some (.int .i64 z) := (hq.cell 3).trans rfl
        have z17 := hq.frozen 3
        have z18 : v1.cell? ⟨py, 0, none⟩ = some (.int .u8 13) := (hy.cell 0).trans rfl
        have z19 := hy.frozen 0
        have z20 : v1.cell? ⟨py, 1, none⟩ = some (.int .i64 x) := (hy.cell 1).trans rfl
        have z21 := hy.frozen 1
        have z22 : v1.cell? ⟨py, 2, none⟩ = some (.int .i64 y) := (hy.cell 2).trans rfl
        have z23 := hy.frozen 2
        have z24 : v1.cell? ⟨py, 3, none⟩ = some (.int .i64 n) := (hy.cell 3).trans rfl
        have z25 := hy.frozen 3
        have z26 := hq.lt
        have z27 := hy.lt
        rcases H08 with rfl | rfl
        · obtain ⟨e1, e2⟩ := HSAME.out HE2.out
          rw [e1] at p1
          rw [e2] at p2
          clear e1 e2
          rw [(HSAME.out HE2.out).1, (HSAME.out HE2.out).2]
          go_wp2_with fail
          refine (sameInts_any A1 RR.length c1 RR A6 RR.length c6 RR _ (own_reads o1) (own_reads p1) (by omega)).mono ?_
          rintro e v2 ⟨rfl, bB⟩
          rw [decide_eq_true (rfl : RR = RR)]
          replace hq := Blk.via0 (g := w.heap.size) (t := 23) bB (by repeat (first | with_reducible exact hq | with_reducible (apply Blk.set_) | with_reducible (apply Blk.far; case hp => (simp <;> omega)) | with_reducible (apply Blk.alloc) | with_reducible (apply Blk.drew)))
          replace hq : Blk v2 w.heap.size 23 #[.int .u8 13, .int .i64 x, .int .i64 y, .int .i64 z] := hq
          replace hy := Blk.via0 (g := py) (t := 23) bB (by repeat (first | with_reducible exact hy | with_reducible (apply Blk.set_) | with_reducible (apply Blk.far; case hp => (simp <;> omega)) | with_reducible (apply Blk.alloc) | with_reducible (apply Blk.drew)))
          replace hy : Blk v2 py 23 #[.int .u8 13, .int .i64 x, .int .i64 y, .int .i64 n] := hy
          replace o1 := own_call (by repeat (first | with_reducible exact o1 | (with_reducible apply own_set_; case hne => first | exact ne_o1_hq | exact ne_o1_hy) | with_reducible (apply own_alloc_) | with_reducible (apply own_drew_))) bB
          replace o2 := own_call (by repeat (first | with_reducible exact o2 | (with_reducible apply own_set_; case hne => first | exact ne_o2_hq | exact ne_o2_hy) | with_reducible (apply own_alloc_) | with_reducible (apply own_drew_))) bB
          replace p1 := own_call (by repeat (first | with_reducible exact p1 | (with_reducible apply own_set_; case hne => first | exact ne_p1_hq | exact ne_p1_hy) | with_reducible (apply own_alloc_) | with_reducible (apply own_drew_))) bB
          replace p2 := own_call (by repeat (first | with_reducible exact p2 | (with_reducible apply own_set_; case hne => first | exact ne_p2_hq | exact ne_p2_hy) | with_reducible (apply own_alloc_) | with_reducible (apply own_drew_))) bB
          replace hB := Below.via (w := w) (by have hs_ := hB.size; repeat (first | with_reducible exact hB | with_reducible (refine Below.setCell ?_ (by simp <;> omega) _) | with_reducible (refine Below.alloc ?_ (by first | exact hs_ | (simp <;> omega)) _) | with_reducible (refine Below.drew ?_))) bB
          clear z10 z11 z12 z13 z14 z15 z16 z17 z18 z19 z20 z21 z22 z23 z24 z25 z26 z27
          clear bB
          go_wp2_with fail
          refine (sameInts_any A2 WW.length c2 WW A7 WW.length c7 WW _ (own_reads o2) (own_reads p2) (by omega)).mono ?_
          rintro e v3 ⟨rfl, bB⟩
          rw [decide_eq_true (rfl : WW = WW)]
          replace hq := Blk.via0 (g := w.heap.size) (t := 23) bB (by repeat (first | with_reducible exact hq | with_reducible (apply Blk.set_) | with_reducible (apply Blk.far; case hp => (simp <;> omega)) | with_reducible (apply Blk.alloc) | with_reducible (apply Blk.drew)))
          replace hq : Blk v3 w.heap.size 23 #[.int .u8 13, .int .i64 x, .int .i64 y, .int .i64 z] := hq
          replace hy := Blk.via0 (g := py) (t := 23) bB (by repeat (first | with_reducible exact hy | with_reducible (apply Blk.set_) | with_reducible (apply Blk.far; case hp => (simp <;> omega)) | with_reducible (apply Blk.alloc) | with_reducible (apply Blk.drew)))
          replace hy : Blk v3 py 23 #[.int .u8 13, .int .i64 x, .int .i64 y, .int .i64 n] := hy
          replace o1 := own_call (by repeat (first | with_reducible exact o1 | (with_reducible apply own_set_; case hne => first | exact ne_o1_hq | exact ne_o1_hy) | with_reducible (apply own_alloc_) | with_reducible (apply own_drew_))) bB
          replace o2 := own_call (by repeat (first | with_reducible exact o2 | (with_reducible apply own_set_; case hne => first | exact ne_o2_hq | exact ne_o2_hy) | with_reducible (apply own_alloc_) | with_reducible (apply own_drew_))) bB
          replace p1 := own_call (by repeat (first | with_reducible exact p1 | (with_reducible apply own_set_; case hne => first | exact ne_p1_hq | exact ne_p1_hy) | with_reducible (apply own_alloc_) | with_reducible (apply own_drew_))) bB
          replace p2 := own_call (by repeat (first | with_reducible exact p2 | (with_reducible apply own_set_; case hne => first | exact ne_p2_hq | exact ne_p2_hy) | with_reducible (apply own_alloc_) | with_reducible (apply own_drew_))) bB
          replace hB := Below.via (w := w) (by have hs_ := hB.size; repeat (first | with_reducible exact hB | with_reducible (refine Below.setCell ?_ (by simp <;> omega) _) | with_reducible (refine Below.alloc ?_ (by first | exact hs_ | (simp <;> omega)) _) | with_reducible (refine Below.drew ?_))) bB
          clear bB
          go_wp2_with fail
          refine (alive6_any _).mono ?_
          rintro e v4 ⟨rfl, bB⟩
          replace hq := Blk.via0 (g := w.heap.size) (t := 23) bB (by repeat (first | with_reducible exact hq | with_reducible (apply Blk.set_) | with_reducible (apply Blk.far; case hp => (simp <;> omega)) | with_reducible (apply Blk.alloc) | with_reducible (apply Blk.drew)))
          replace hq : Blk v4 w.heap.size 23 #[.int .u8 13, .int .i64 x, .int .i64 y, .int .i64 z] := hq
          replace hy := Blk.via0 (g := py) (t := 23) bB (by repeat (first | with_reducible exact hy | with_reducible (apply Blk.set_) | with_reducible (apply Blk.far; case hp => (simp <;> omega)) | with_reducible (apply Blk.alloc) | with_reducible (apply Blk.drew)))
          replace hy : Blk v4 py 23 #[.int .u8 13, .int .i64 x, .int .i64 y, .int .i64 n] := hy
          replace o1 := own_call (by repeat (first | with_reducible exact o1 | (with_reducible apply own_set_; case hne => first | exact ne_o1_hq | exact ne_o1_hy) | with_reducible (apply own_alloc_) | with_reducible (apply own_drew_))) bB
          replace o2 := own_call (by repeat (first | with_reducible exact o2 | (with_reducible apply own_set_; case hne => first | exact ne_o2_hq | exact ne_o2_hy) | with_reducible (apply own_alloc_) | with_reducible (apply own_drew_))) bB
          replace p1 := own_call (by repeat (first | with_reducible exact p1 | (with_reducible apply own_set_; case hne => first | exact ne_p1_hq | exact ne_p1_hy) | with_reducible (apply own_alloc_) | with_reducible (apply own_drew_))) bB
          replace p2 := own_call (by repeat (first | with_reducible exact p2 | (with_reducible apply own_set_; case hne => first | exact ne_p2_hq | exact ne_p2_hy) | with_reducible (apply own_alloc_) | with_reducible (apply own_drew_))) bB
          replace hB := Below.via (w := w) (by have hs_ := hB.size; repeat (first | with_reducible exact hB | with_reducible (refine Below.setCell ?_ (by simp <;> omega) _) | with_reducible (refine Below.alloc ?_ (by first | exact hs_ | (simp <;> omega)) _) | with_reducible (refine Below.drew ?_))) bB
          clear bB
          go_wp2_with fail
          go_ret
          exact ⟨rfl, (by have hs_ := hB.size; repeat (first | with_reducible exact hB | with_reducible (refine Below.setCell ?_ (by simp <;> omega) _) | with_reducible (refine Below.alloc ?_ (by first | exact hs_ | (simp <;> omega)) _) | with_reducible (refine Below.drew ?_)))⟩
        · have hne : z ≠ n := by
            rintro rfl
            exact absurd (HE2.out.symm.trans HE.out) (by decide)
          have g1 : (z == n) = false := by simpa using hne
          have g2 : (n == z) = false := by simpa using fun h => hne h.symm
          have HC := fun W => check6_any 13 (by omega) x y n W
          rw [HE2.out] at HC
          clear hne
          go_wp2_with fail
          refine (HC _).mono ?_
          rintro e v2 ⟨rfl, bB⟩
          replace hq := Blk.via0 (g := w.heap.size) (t := 23) bB (by repeat (first | with_reducible exact hq | with_reducible (apply Blk.set_) | with_reducible (apply Blk.far; case hp => (simp <;> omega)) | with_reducible (apply Blk.alloc) | with_reducible (apply Blk.drew)))
          replace hq : Blk v2 w.heap.size 23 #[.int .u8 13, .int .i64 x, .int .i64 y, .int .i64 z] := hq
          replace hy := Blk.via0 (g := py) (t := 23) bB (by repeat (first | with_reducible exact hy | with_reducible (apply Blk.set_) | with_reducible (apply Blk.far; case hp => (simp <;> omega)) | with_reducible (apply Blk.alloc) | with_reducible (apply Blk.drew)))
          replace hy : Blk v2 py 23 #[.int .u8 13, .int .i64 x, .int .i64 y, .int .i64 n] := hy
          replace hB := Below.via (w := w) (by have hs_ := hB.size; repeat (first | with_reducible exact hB | with_reducible (refine Below.setCell ?_ (by simp <;> omega) _) | with_reducible (refine Below.alloc ?_ (by first | exact hs_ | (simp <;> omega)) _) | with_reducible (refine Below.drew ?_))) bB
          clear z10 z11 z12 z13 z14 z15 z16 z17 z18 z19 z20 z21 z22 z23 z24 z25 z26 z27
          clear bB
          go_wp2_with fail
          refine (alive6_any _).mono ?_
          rintro e v3 ⟨rfl, bB⟩
          replace hq := Blk.via0 (g := w.heap.size) (t := 23) bB (by repeat (first | with_reducible exact hq | with_reducible (apply Blk.set_) | with_reducible (apply Blk.far; case hp => (simp <;> omega)) | with_reducible (apply Blk.alloc) | with_reducible (apply Blk.drew)))
          replace hq : Blk v3 w.heap.size 23 #[.int .u8 13, .int .i64 x, .int .i64 y, .int .i64 z] := hq
          replace hy := Blk.via0 (g := py) (t := 23) bB (by repeat (first | with_reducible exact hy | with_reducible (apply Blk.set_) | with_reducible (apply Blk.far; case hp => (simp <;> omega)) | with_reducible (apply Blk.alloc) | with_reducible (apply Blk.drew)))
          replace hy : Blk v3 py 23 #[.int .u8 13, .int .i64 x, .int .i64 y, .int .i64 n] := hy
          replace hB := Below.via (w := w) (by have hs_ := hB.size; repeat (first | with_reducible exact hB | with_reducible (refine Below.setCell ?_ (by simp <;> omega) _) | with_reducible (refine Below.alloc ?_ (by first | exact hs_ | (simp <;> omega)) _) | with_reducible (refine Below.drew ?_))) bB
          clear bB
          go_wp2_with fail
          go_ret
          exact ⟨rfl, (by have hs_ := hB.size; repeat (first | with_reducible exact hB | with_reducible (refine Below.setCell ?_ (by simp <;> omega) _) | with_reducible (refine Below.alloc ?_ (by first | exact hs_ | (simp <;> omega)) _) | with_reducible (refine Below.drew ?_)))⟩
      by_cases k22 : op = 22
      · subst k22
        obtain ⟨E2, hE2⟩ : ∃ E, ckI 22 n y z = E := ⟨_, rfl⟩
        have HE2 := Lib.hid hE2
        have H08 := ck_08 22 n y z
        have HS := fun W => slots_any 22 (by omega) n y z W
        unfold SlP at HS
        have HSAME := Lib.hid (show ckI 22 n y z = 0 → slR 22 n y z = RR ∧ slW 22 n y z = WW from fun h => by
          rw [← HRR.out, ← HWW.out]
          exact ⟨by rw [slR, slR, if_pos h, if_pos HE.out]; rfl, by rw [slW, slW, if_pos h, if_pos HE.out]; rfl⟩)
        rw [hE2] at HS H08
        clear hE2
        have z1 : wr.cell? ⟨w.heap.size, 0, none⟩ = some (.int .u8 22) := (hq.cell 0).trans rfl
        have z2 := hq.frozen 0
        have z3 : wr.cell? ⟨w.heap.size, 1, none⟩ = some (.int .i64 x) := (hq.cell 1).trans rfl
        have z4 := hq.frozen 1
        have z5 : wr.cell? ⟨w.heap.size, 2, none⟩ = some (.int .i64 y) := (hq.cell 2).trans rfl
        have z6 := hq.frozen 2
        have z7 : wr.cell? ⟨w.heap.size, 3, none⟩ = some (.int .i64 z) := (hq.cell 3).trans rfl
        have z8 := hq.frozen 3
        have z9 := hq.lt
        go_wp2_with fail
        obtain ⟨R2, hR2⟩ : ∃ R2, slR 22 n y z = R2 := ⟨_, rfl⟩
        obtain ⟨W2, hW2⟩ : ∃ W2, slW 22 n y z = W2 := ⟨_, rfl⟩
        rw [hR2, hW2] at HS HSAME
        refine (HS _).mono ?_
        rintro e v1 ⟨A6, c6, A7, c7, rfl, p1, p2, bB⟩
        have ne_p1_hq : (Value.slice A6 R2.length c6).ownBlock ≠ some w.heap.size := own_not_lt p1 (by first | omega | (simp <;> omega))
        have ne_p1_hy : (Value.slice A6 R2.length c6).ownBlock ≠ some wr.heap.size := own_not_lt p1 (by first | omega | (simp <;> omega))
        have ne_p2_hq : (Value.slice A7 W2.length c7).ownBlock ≠ some w.heap.size := own_not_lt p2 (by first | omega | (simp <;> omega))
        have ne_p2_hy : (Value.slice A7 W2.length c7).ownBlock ≠ some wr.heap.size := own_not_lt p2 (by first | omega | (simp <;> omega))
        replace p1 := own_low p1 (show w.heap.size ≤ _ from by have hs_ := hB.size; simp <;> omega)
        replace p2 := own_low p2 (show w.heap.size ≤ _ from by have hs_ := hB.size; simp <;> omega)
        have ne_o1_hy : (Value.slice A1 RR.length c1).ownBlock ≠ some wr.heap.size := own_not_ge o1 (by omega)
        have ne_o2_hy : (Value.slice A2 WW.length c2).ownBlock ≠ some wr.heap.size := own_not_ge o2 (by omega)
        have o_hq_hy : w.heap.size < wr.heap.size := (by omega)
        have ow_hy : w.heap.size ≤ wr.heap.size := (by have := hB.size; omega)
        replace hq := Blk.via0 (g := w.heap.size) (t := 23) bB (by repeat (first | with_reducible exact hq | with_reducible (apply Blk.set_) | with_reducible (apply Blk.far; case hp => (simp <;> omega)) | with_reducible (apply Blk.alloc) | with_reducible (apply Blk.drew)))
        replace hq : Blk v1 w.heap.size 23 #[.int .u8 22, .int .i64 x, .int .i64 y, .int .i64 z] := hq
        replace o1 := own_call (by repeat (first | with_reducible exact o1 | (with_reducible apply own_set_; case hne => first | exact ne_o1_hq) | with_reducible (apply own_alloc_) | with_reducible (apply own_drew_))) bB
        replace o2 := own_call (by repeat (first | with_reducible exact o2 | (with_reducible apply own_set_; case hne => first | exact ne_o2_hq) | with_reducible (apply own_alloc_) | with_reducible (apply own_drew_))) bB
        have hy := Blk.via0 (g := wr.heap.size) (t := 23) bB (by repeat (first | with_reducible exact Blk.newAt (by simp) _ _ | with_reducible (apply Blk.set_) | with_reducible (apply Blk.far; case hp => (simp <;> omega)) | with_reducible (apply Blk.alloc) | with_reducible (apply Blk.drew)))
        replace hy : Blk v1 wr.heap.size 23 #[.int .u8 22, .int .i64 n, .int .i64 y, .int .i64 z] := hy
        replace hB := Below.via (w := w) (by have hs_ := hB.size; repeat (first | with_reducible exact hB | with_reducible (refine Below.setCell ?_ (by simp <;> omega) _) | with_reducible (refine Below.alloc ?_ (by first | exact hs_ | (simp <;> omega)) _) | with_reducible (refine Below.drew ?_))) bB
        clear z1 z2 z3 z4 z5 z6 z7 z8 z9
        clear bB
        generalize wr.heap.size = py at *
        clear HS
        have z10 : v1.cell? ⟨w.heap.size, 0, none⟩ = some (.int .u8 22) := (hq.cell 0).trans rfl
        have z11 := hq.frozen 0
        have z12 : v1.cell? ⟨w.heap.size, 1, none⟩ = some (.int .i64 x) := (hq.cell 1).trans rfl
        have z13 := hq.frozen 1
        have z14 : v1.cell? ⟨w.heap.size, 2, none⟩ = some (.int .i64 y) := (hq.cell 2).trans rfl
        have z15 := hq.frozen 2
        have z16 : v1.cell? ⟨w.heap.size, 3, none⟩ = some (.int .i64 z) := (hq.cell 3).trans rfl
        have z17 := hq.frozen 3
        have z18 : v1.cell? ⟨py, 0, none⟩ = some (.int .u8 22) := (hy.cell 0).trans rfl
        have z19 := hy.frozen 0
        have z20 : v1.cell? ⟨py, 1, none⟩ = some (.int .i64 n) := (hy.cell 1).trans rfl
        have z21 := hy.frozen 1
        have z22 : v1.cell? ⟨py, 2, none⟩ = some (.int .i64 y) := (hy.cell 2).trans rfl
        have z23 := hy.frozen 2
        have z24 : v1.cell? ⟨py, 3, none⟩ = some (.int .i64 z) := (hy.cell 3).trans rfl
        have z25 := hy.frozen 3
        have z26 := hq.lt
        have z27 := hy.lt
        rcases H08 with rfl | rfl
        · obtain ⟨e1, e2⟩ := HSAME.out HE2.out
          rw [e1] at p1
          rw [e2] at p2
          clear e1 e2
          rw [(HSAME.out HE2.out).1, (HSAME.out HE2.out).2]
          go_wp2_with fail
          refine (sameInts_any A1 RR.length c1 RR A6 RR.length c6 RR _ (own_reads o1) (own_reads p1) (by omega)).mono ?_
          rintro e v2 ⟨rfl, bB⟩
          rw [decide_eq_true (rfl : RR = RR)]
          replace hq := Blk.via0 (g := w.heap.size) (t := 23) bB (by repeat (first | with_reducible exact hq | with_reducible (apply Blk.set_) | with_reducible (apply Blk.far; case hp => (simp <;> omega)) | with_reducible (apply Blk.alloc) | with_reducible (apply Blk.drew)))
          replace hq : Blk v2 w.heap.size 23 #[.int .u8 22, .int .i64 x, .int .i64 y, .int .i64 z] := hq
          replace hy := Blk.via0 (g := py) (t := 23) bB (by repeat (first | with_reducible exact hy | with_reducible (apply Blk.set_) | with_reducible (apply Blk.far; case hp => (simp <;> omega)) | with_reducible (apply Blk.alloc) | with_reducible (apply Blk.drew)))
          replace hy : Blk v2 py 23 #[.int .u8 22, .int .i64 n, .int .i64 y, .int .i64 z] := hy
          replace o1 := own_call (by repeat (first | with_reducible exact o1 | (with_reducible apply own_set_; case hne => first | exact ne_o1_hq | exact ne_o1_hy) | with_reducible (apply own_alloc_) | with_reducible (apply own_drew_))) bB
          replace o2 := own_call (by repeat (first | with_reducible exact o2 | (with_reducible apply own_set_; case hne => first | exact ne_o2_hq | exact ne_o2_hy) | with_reducible (apply own_alloc_) | with_reducible (apply own_drew_))) bB
          replace p1 := own_call (by repeat (first | with_reducible exact p1 | (with_reducible apply own_set_; case hne => first | exact ne_p1_hq | exact ne_p1_hy) | with_reducible (apply own_alloc_) | with_reducible (apply own_drew_))) bB
          replace p2 := own_call (by repeat (first | with_reducible exact p2 | (with_reducible apply own_set_; case hne => first | exact ne_p2_hq | exact ne_p2_hy) | with_reducible (apply own_alloc_) | with_reducible (apply own_drew_))) bB
          replace hB := Below.via (w := w) (by have hs_ := hB.size; repeat (first | with_reducible exact hB | with_reducible (refine Below.setCell ?_ (by simp <;> omega) _) | with_reducible (refine Below.alloc ?_ (by first | exact hs_ | (simp <;> omega)) _) | with_reducible (refine Below.drew ?_))) bB
          clear z10 z11 z12 z13 z14 z15 z16 z17 z18 z19 z20 z21 z22 z23 z24 z25 z26 z27
          clear bB
          go_wp2_with fail
          refine (sameInts_any A2 WW.length c2 WW A7 WW.length c7 WW _ (own_reads o2) (own_reads p2) (by omega)).mono ?_
          rintro e v3 ⟨rfl, bB⟩
          rw [decide_eq_true (rfl : WW = WW)]
          replace hq := Blk.via0 (g := w.heap.size) (t := 23) bB (by repeat (first | with_reducible exact hq | with_reducible (apply Blk.set_) | with_reducible (apply Blk.far; case hp => (simp <;> omega)) | with_reducible (apply Blk.alloc) | with_reducible (apply Blk.drew)))
          replace hq : Blk v3 w.heap.size 23 #[.int .u8 22, .int .i64 x, .int .i64 y, .int .i64 z] := hq
          replace hy := Blk.via0 (g := py) (t := 23) bB (by repeat (first | with_reducible exact hy | with_reducible (apply Blk.set_) | with_reducible (apply Blk.far; case hp => (simp <;> omega)) | with_reducible (apply Blk.alloc) | with_reducible (apply Blk.drew)))
          replace hy : Blk v3 py 23 #[.int .u8 22, .int .i64 n, .int .i64 y, .int .i64 z] := hy
          replace o1 := own_call (by repeat (first | with_reducible exact o1 | (with_reducible apply own_set_; case hne => first | exact ne_o1_hq | exact ne_o1_hy) | with_reducible (apply own_alloc_) | with_reducible (apply own_drew_))) bB
          replace o2 := own_call (by repeat (first | with_reducible exact o2 | (with_reducible apply own_set_; case hne => first | exact ne_o2_hq | exact ne_o2_hy) | with_reducible (apply own_alloc_) | with_reducible (apply own_drew_))) bB
          replace p1 := own_call (by repeat (first | with_reducible exact p1 | (with_reducible apply own_set_; case hne => first | exact ne_p1_hq | exact ne_p1_hy) | with_reducible (apply own_alloc_) | with_reducible (apply own_drew_))) bB
          replace p2 := own_call (by repeat (first | with_reducible exact p2 | (with_reducible apply own_set_; case hne => first | exact ne_p2_hq | exact ne_p2_hy) | with_reducible (apply own_alloc_) | with_reducible (apply own_drew_))) bB
          replace hB := Below.via (w := w) (by have hs_ := hB.size; repeat (first | with_reducible exact hB | with_reducible (refine Below.setCell ?_ (by simp <;> omega) _) | with_reducible (refine Below.alloc ?_ (by first | exact hs_ | (simp <;> omega)) _) | with_reducible (refine Below.drew ?_))) bB
          clear bB
          go_wp2_with fail
          refine (alive6_any _).mono ?_
          rintro e v4 ⟨rfl, bB⟩
          replace hq := Blk.via0 (g := w.heap.size) (t := 23) bB (by repeat (first | with_reducible exact hq | with_reducible (apply Blk.set_) | with_reducible (apply Blk.far; case hp => (simp <;> omega)) | with_reducible (apply Blk.alloc) | with_reducible (apply Blk.drew)))
          replace hq : Blk v4 w.heap.size 23 #[.int .u8 22, .int .i64 x, .int .i64 y, .int .i64 z] := hq
          replace hy := Blk.via0 (g := py) (t := 23) bB (by repeat (first | with_reducible exact hy | with_reducible (apply Blk.set_) | with_reducible (apply Blk.far; case hp => (simp <;> omega)) | with_reducible (apply Blk.alloc) | with_reducible (apply Blk.drew)))
          replace hy : Blk v4 py 23 #[.int .u8 22, .int .i64 n, .int .i64 y, .int .i64 z] := hy
          replace o1 := own_call (by repeat (first | with_reducible exact o1 | (with_reducible apply own_set_; case hne => first | exact ne_o1_hq | exact ne_o1_hy) | with_reducible (apply own_alloc_) | with_reducible (apply own_drew_))) bB
          replace o2 := own_call (by repeat (first | with_reducible exact o2 | (with_reducible apply own_set_; case hne => first | exact ne_o2_hq | exact ne_o2_hy) | with_reducible (apply own_alloc_) | with_reducible (apply own_drew_))) bB
          replace p1 := own_call (by repeat (first | with_reducible exact p1 | (with_reducible apply own_set_; case hne => first | exact ne_p1_hq | exact ne_p1_hy) | with_reducible (apply own_alloc_) | with_reducible (apply own_drew_))) bB
          replace p2 := own_call (by repeat (first | with_reducible exact p2 | (with_reducible apply own_set_; case hne => first | exact ne_p2_hq | exact ne_p2_hy) | with_reducible (apply own_alloc_) | with_reducible (apply own_drew_))) bB
          replace hB := Below.via (w := w) (by have hs_ := hB.size; repeat (first | with_reducible exact hB | with_reducible (refine Below.setCell ?_ (by simp <;> omega) _) | with_reducible (refine Below.alloc ?_ (by first | exact hs_ | (simp <;> omega)) _) | with_reducible (refine Below.drew ?_))) bB
          clear bB
          go_wp2_with fail
          go_ret
          exact ⟨rfl, (by have hs_ := hB.size; repeat (first | with_reducible exact hB | with_reducible (refine Below.setCell ?_ (by simp <;> omega) _) | with_reducible (refine Below.alloc ?_ (by first | exact hs_ | (simp <;> omega)) _) | with_reducible (refine Below.drew ?_)))⟩
        · have hne : x ≠ n := by
            rintro rfl
            exact absurd (HE2.out.symm.trans HE.out) (by decide)
          have g1 : (x == n) = false := by simpa using hne
          have g2 : (n == x) = false := by simpa using fun h => hne h.symm
          have HC := fun W => check6_any 22 (by omega) n y z W
          rw [HE2.out] at HC
          clear hne
          go_wp2_with fail
          refine (HC _).mono ?_
          rintro e v2 ⟨rfl, bB⟩
          replace hq := Blk.via0 (g := w.heap.size) (t := 23) bB (by repeat (first | with_reducible exact hq | with_reducible (apply Blk.set_) | with_reducible (apply Blk.far; case hp => (simp <;> omega)) | with_reducible (apply Blk.alloc) | with_reducible (apply Blk.drew)))
          replace hq : Blk v2 w.heap.size 23 #[.int .u8 22, .int .i64 x, .int .i64 y, .int .i64 z] := hq
          replace hy := Blk.via0 (g := py) (t := 23) bB (by repeat (first | with_reducible exact hy | with_reducible (apply Blk.set_) | with_reducible (apply Blk.far; case hp => (simp <;> omega)) | with_reducible (apply Blk.alloc) | with_reducible (apply Blk.drew)))
          replace hy : Blk v2 py 23 #[.int .u8 22, .int .i64 n, .int .i64 y, .int .i64 z] := hy
          replace hB := Below.via (w := w) (by have hs_ := hB.size; repeat (first | with_reducible exact hB | with_reducible (refine Below.setCell ?_ (by simp <;> omega) _) | with_reducible (refine Below.alloc ?_ (by first | exact hs_ | (simp <;> omega)) _) | with_reducible (refine Below.drew ?_))) bB
          clear z10 z11 z12 z13 z14 z15 z16 z17 z18 z19 z20 z21 z22 z23 z24 z25 z26 z27
          clear bB
          go_wp2_with fail
          refine (alive6_any _).mono ?_
          rintro e v3 ⟨rfl, bB⟩
          replace hq := Blk.via0 (g := w.heap.size) (t := 23) bB (by repeat (first | with_reducible exact hq | with_reducible (apply Blk.set_) | with_reducible (apply Blk.far; case hp => (simp <;> omega)) | with_reducible (apply Blk.alloc) | with_reducible (apply Blk.drew)))
          replace hq : Blk v3 w.heap.size 23 #[.int .u8 22, .int .i64 x, .int .i64 y, .int .i64 z] := hq
          replace hy := Blk.via0 (g := py) (t := 23) bB (by repeat (first | with_reducible exact hy | with_reducible (apply Blk.set_) | with_reducible (apply Blk.far; case hp => (simp <;> omega)) | with_reducible (apply Blk.alloc) | with_reducible (apply Blk.drew)))
          replace hy : Blk v3 py 23 #[.int .u8 22, .int .i64 n, .int .i64 y, .int .i64 z] := hy
          replace hB := Below.via (w := w) (by have hs_ := hB.size; repeat (first | with_reducible exact hB | with_reducible (refine Below.setCell ?_ (by simp <;> omega) _) | with_reducible (refine Below.alloc ?_ (by first | exact hs_ | (simp <;> omega)) _) | with_reducible (refine Below.drew ?_))) bB
          clear bB
          go_wp2_with fail
          go_ret
          exact ⟨rfl, (by have hs_ := hB.size; repeat (first | with_reducible exact hB | with_reducible (refine Below.setCell ?_ (by simp <;> omega) _) | with_reducible (refine Below.alloc ?_ (by first | exact hs_ | (simp <;> omega)) _) | with_reducible (refine Below.drew ?_)))⟩
      by_cases k26 : op = 26
      · subst k26
        obtain ⟨E2, hE2⟩ : ∃ E, ckI 26 n y z = E := ⟨_, rfl⟩
        have HE2 := Lib.hid hE2
        have H08 := ck_08 26 n y z
        have HS := fun W => slots_any 26 (by omega) n y z W
        unfold SlP at HS
        have HSAME := Lib.hid (show ckI 26 n y z = 0 → slR 26 n y z = RR ∧ slW 26 n y z = WW from fun h => by
          rw [← HRR.out, ← HWW.out]
          exact ⟨by rw [slR, slR, if_pos h, if_pos HE.out]; rfl, by rw [slW, slW, if_pos h, if_pos HE.out]; rfl⟩)
        rw [hE2] at HS H08
        clear hE2
        have z1 : wr.cell? ⟨w.heap.size, 0, none⟩ = some (.int .u8 26) := (hq.cell 0).trans rfl
        have z2 := hq.frozen 0
        have z3 : wr.cell? ⟨w.heap.size, 1, none⟩ = some (.int .i64 x) := (hq.cell 1).trans rfl
        have z4 := hq.frozen 1
        have z5 : wr.cell? ⟨w.heap.size, 2, none⟩ = some (.int .i64 y) := (hq.cell 2).trans rfl
        have z6 := hq.frozen 2
        have z7 : wr.cell? ⟨w.heap.size, 3, none⟩ = some (.int .i64 z) := (hq.cell 3).trans rfl
        have z8 := hq.frozen 3
        have z9 := hq.lt
        go_wp2_with fail
        obtain ⟨R2, hR2⟩ : ∃ R2, slR 26 n y z = R2 := ⟨_, rfl⟩
        obtain ⟨W2, hW2⟩ : ∃ W2, slW 26 n y z = W2 := ⟨_, rfl⟩
        rw [hR2, hW2] at HS HSAME
        refine (HS _).mono ?_
        rintro e v1 ⟨A6, c6, A7, c7, rfl, p1, p2, bB⟩
        have ne_p1_hq : (Value.slice A6 R2.length c6).ownBlock ≠ some w.heap.size := own_not_lt p1 (by first | omega | (simp <;> omega))
        have ne_p1_hy : (Value.slice A6 R2.length c6).ownBlock ≠ some wr.heap.size := own_not_lt p1 (by first | omega | (simp <;> omega))
        have ne_p2_hq : (Value.slice A7 W2.length c7).ownBlock ≠ some w.heap.size := own_not_lt p2 (by first | omega | (simp <;> omega))
        have ne_p2_hy : (Value.slice A7 W2.length c7).ownBlock ≠ some wr.heap.size := own_not_lt p2 (by first | omega | (simp <;> omega))
        replace p1 := own_low p1 (show w.heap.size ≤ _ from by have hs_ := hB.size; simp <;> omega)
        replace p2 := own_low p2 (show w.heap.size ≤ _ from by have hs_ := hB.size; simp <;> omega)
        have ne_o1_hy : (Value.slice A1 RR.length c1).ownBlock ≠ some wr.heap.size := own_not_ge o1 (by omega)
        have ne_o2_hy : (Value.slice A2 WW.length c2).ownBlock ≠ some wr.heap.size := own_not_ge o2 (by omega)
        have o_hq_hy : w.heap.size < wr.heap.size := (by omega)
        have ow_hy : w.heap.size ≤ wr.heap.size := (by have := hB.size; omega)
        replace hq := Blk.via0 (g := w.heap.size) (t := 23) bB (by repeat (first | with_reducible exact hq | with_reducible (apply Blk.set_) | with_reducible (apply Blk.far; case hp => (simp <;> omega)) | with_reducible (apply Blk.alloc) | with_reducible (apply Blk.drew)))
        replace hq : Blk v1 w.heap.size 23 #[.int .u8 26, .int .i64 x, .int .i64 y, .int .i64 z] := hq
        replace o1 := own_call (by repeat (first | with_reducible exact o1 | (with_reducible apply own_set_; case hne => first | exact ne_o1_hq) | with_reducible (apply own_alloc_) | with_reducible (apply own_drew_))) bB
        replace o2 := own_call (by repeat (first | with_reducible exact o2 | (with_reducible apply own_set_; case hne => first | exact ne_o2_hq) | with_reducible (apply own_alloc_) | with_reducible (apply own_drew_))) bB
        have hy := Blk.via0 (g := wr.heap.size) (t := 23) bB (by repeat (first | with_reducible exact Blk.newAt (by simp) _ _ | with_reducible (apply Blk.set_) | with_reducible (apply Blk.far; case hp => (simp <;> omega)) | with_reducible (apply Blk.alloc) | with_reducible (apply Blk.drew)))
        replace hy : Blk v1 wr.heap.size 23 #[.int .u8 26, .int .i64 n, .int .i64 y, .int .i64 z] := hy
        replace hB := Below.via (w := w) (by have hs_ := hB.size; repeat (first | with_reducible exact hB | with_reducible (refine Below.setCell ?_ (by simp <;> omega) _) | with_reducible (refine Below.alloc ?_ (by first | exact hs_ | (simp <;> omega)) _) | with_reducible (refine Below.drew ?_))) bB
        clear z1 z2 z3 z4 z5 z6 z7 z8 z9
        clear bB
        generalize wr.heap.size = py at *
        clear HS
        have z10 : v1.cell? ⟨w.heap.size, 0, none⟩ = some (.int .u8 26) := (hq.cell 0).trans rfl
        have z11 := hq.frozen 0
        have z12 : v1.cell? ⟨w.heap.size, 1, none⟩ = some (.int .i64 x) := (hq.cell 1).trans rfl
        have z13 := hq.frozen 1
        have z14 : v1.cell? ⟨w.heap.size, 2, none⟩ = some (.int .i64 y) := (hq.cell 2).trans rfl
        have z15 := hq.frozen 2
        have z16 : v1.cell? ⟨w.heap.size, 3, none⟩ = some (.int .i64 z) := (hq.cell 3).trans rfl
        have z17 := hq.frozen 3
        have z18 : v1.cell? ⟨py, 0, none⟩ = some (.int .u8 26) := (hy.cell 0).trans rfl
        have z19 := hy.frozen 0
        have z20 : v1.cell? ⟨py, 1, none⟩ = some (.int .i64 n) := (hy.cell 1).trans rfl
        have z21 := hy.frozen 1
        have z22 : v1.cell? ⟨py, 2, none⟩ = some (.int .i64 y) := (hy.cell 2).trans rfl
        have z23 := hy.frozen 2
        have z24 : v1.cell? ⟨py, 3, none⟩ = some (.int .i64 z) := (hy.cell 3).trans rfl
        have z25 := hy.frozen 3
        have z26 := hq.lt
        have z27 := hy.lt
        rcases H08 with rfl | rfl
        · obtain ⟨e1, e2⟩ := HSAME.out HE2.out
          rw [e1] at p1
          rw [e2] at p2
          clear e1 e2
          rw [(HSAME.out HE2.out).1, (HSAME.out HE2.out).2]
          go_wp2_with fail
          refine (sameInts_any A1 RR.length c1 RR A6 RR.length c6 RR _ (own_reads o1) (own_reads p1) (by omega)).mono ?_
          rintro e v2 ⟨rfl, bB⟩
          rw [decide_eq_true (rfl : RR = RR)]
          replace hq := Blk.via0 (g := w.heap.size) (t := 23) bB (by repeat (first | with_reducible exact hq | with_reducible (apply Blk.set_) | with_reducible (apply Blk.far; case hp => (simp <;> omega)) | with_reducible (apply Blk.alloc) | with_reducible (apply Blk.drew)))
          replace hq : Blk v2 w.heap.size 23 #[.int .u8 26, .int .i64 x, .int .i64 y, .int .i64 z] := hq
          replace hy := Blk.via0 (g := py) (t := 23) bB (by repeat (first | with_reducible exact hy | with_reducible (apply Blk.set_) | with_reducible (apply Blk.far; case hp => (simp <;> omega)) | with_reducible (apply Blk.alloc) | with_reducible (apply Blk.drew)))
          replace hy : Blk v2 py 23 #[.int .u8 26, .int .i64 n, .int .i64 y, .int .i64 z] := hy
          replace o1 := own_call (by repeat (first | with_reducible exact o1 | (with_reducible apply own_set_; case hne => first | exact ne_o1_hq | exact ne_o1_hy) | with_reducible (apply own_alloc_) | with_reducible (apply own_drew_))) bB
          replace o2 := own_call (by repeat (first | with_reducible exact o2 | (with_reducible apply own_set_; case hne => first | exact ne_o2_hq | exact ne_o2_hy) | with_reducible (apply own_alloc_) | with_reducible (apply own_drew_))) bB
          replace p1 := own_call (by repeat (first | with_reducible exact p1 | (with_reducible apply own_set_; case hne => first | exact ne_p1_hq | exact ne_p1_hy) | with_reducible (apply own_alloc_) | with_reducible (apply own_drew_))) bB
          replace p2 := own_call (by repeat (first | with_reducible exact p2 | (with_reducible apply own_set_; case hne => first | exact ne_p2_hq | exact ne_p2_hy) | with_reducible (apply own_alloc_) | with_reducible (apply own_drew_))) bB
          replace hB := Below.via (w := w) (by have hs_ := hB.size; repeat (first | with_reducible exact hB | with_reducible (refine Below.setCell ?_ (by simp <;> omega) _) | with_reducible (refine Below.alloc ?_ (by first | exact hs_ | (simp <;> omega)) _) | with_reducible (refine Below.drew ?_))) bB
          clear z10 z11 z12 z13 z14 z15 z16 z17 z18 z19 z20 z21 z22 z23 z24 z25 z26 z27
          clear bB
          go_wp2_with fail
          refine (sameInts_any A2 WW.length c2 WW A7 WW.length c7 WW _ (own_reads o2) (own_reads p2) (by omega)).mono ?_
          rintro e v3 ⟨rfl, bB⟩
          rw [decide_eq_true (rfl : WW = WW)]
          replace hq := Blk.via0 (g := w.heap.size) (t := 23) bB (by repeat (first | with_reducible exact hq | with_reducible (apply Blk.set_) | with_reducible (apply Blk.far; case hp => (simp <;> omega)) | with_reducible (apply Blk.alloc) | with_reducible (apply Blk.drew)))
          replace hq : Blk v3 w.heap.size 23 #[.int .u8 26, .int .i64 x, .int .i64 y, .int .i64 z] := hq
          replace hy := Blk.via0 (g := py) (t := 23) bB (by repeat (first | with_reducible exact hy | with_reducible (apply Blk.set_) | with_reducible (apply Blk.far; case hp => (simp <;> omega)) | with_reducible (apply Blk.alloc) | with_reducible (apply Blk.drew)))
          replace hy : Blk v3 py 23 #[.int .u8 26, .int .i64 n, .int .i64 y, .int .i64 z] := hy
          replace o1 := own_call (by repeat (first | with_reducible exact o1 | (with_reducible apply own_set_; case hne => first | exact ne_o1_hq | exact ne_o1_hy) | with_reducible (apply own_alloc_) | with_reducible (apply own_drew_))) bB
          replace o2 := own_call (by repeat (first | with_reducible exact o2 | (with_reducible apply own_set_; case hne => first | exact ne_o2_hq | exact ne_o2_hy) | with_reducible (apply own_alloc_) | with_reducible (apply own_drew_))) bB
          replace p1 := own_call (by repeat (first | with_reducible exact p1 | (with_reducible apply own_set_; case hne => first | exact ne_p1_hq | exact ne_p1_hy) | with_reducible (apply own_alloc_) | with_reducible (apply own_drew_))) bB
          replace p2 := own_call (by repeat (first | with_reducible exact p2 | (with_reducible apply own_set_; case hne => first | exact ne_p2_hq | exact ne_p2_hy) | with_reducible (apply own_alloc_) | with_reducible (apply own_drew_))) bB
          replace hB := Below.via (w := w) (by have hs_ := hB.size; repeat (first | with_reducible exact hB | with_reducible (refine Below.setCell ?_ (by simp <;> omega) _) | with_reducible (refine Below.alloc ?_ (by first | exact hs_ | (simp <;> omega)) _) | with_reducible (refine Below.drew ?_))) bB
          clear bB
          go_wp2_with fail
          refine (alive6_any _).mono ?_
          rintro e v4 ⟨rfl, bB⟩
          replace hq := Blk.via0 (g := w.heap.size) (t := 23) bB (by repeat (first | with_reducible exact hq | with_reducible (apply Blk.set_) | with_reducible (apply Blk.far; case hp => (simp <;> omega)) | with_reducible (apply Blk.alloc) | with_reducible (apply Blk.drew)))
          replace hq : Blk v4 w.heap.size 23 #[.int .u8 26, .int .i64 x, .int .i64 y, .int .i64 z] := hq
          replace hy := Blk.via0 (g := py) (t := 23) bB (by repeat (first | with_reducible exact hy | with_reducible (apply Blk.set_) | with_reducible (apply Blk.far; case hp => (simp <;> omega)) | with_reducible (apply Blk.alloc) | with_reducible (apply Blk.drew)))
          replace hy : Blk v4 py 23 #[.int .u8 26, .int .i64 n, .int .i64 y, .int .i64 z] := hy
          replace o1 := own_call (by repeat (first | with_reducible exact o1 | (with_reducible apply own_set_; case hne => first | exact ne_o1_hq | exact ne_o1_hy) | with_reducible (apply own_alloc_) | with_reducible (apply own_drew_))) bB
          replace o2 := own_call (by repeat (first | with_reducible exact o2 | (with_reducible apply own_set_; case hne => first | exact ne_o2_hq | exact ne_o2_hy) | with_reducible (apply own_alloc_) | with_reducible (apply own_drew_))) bB
          replace p1 := own_call (by repeat (first | with_reducible exact p1 | (with_reducible apply own_set_; case hne => first | exact ne_p1_hq | exact ne_p1_hy) | with_reducible (apply own_alloc_) | with_reducible (apply own_drew_))) bB
          replace p2 := own_call (by repeat (first | with_reducible exact p2 | (with_reducible apply own_set_; case hne => first | exact ne_p2_hq | exact ne_p2_hy) | with_reducible (apply own_alloc_) | with_reducible (apply own_drew_))) bB
          replace hB := Below.via (w := w) (by have hs_ := hB.size; repeat (first | with_reducible exact hB | with_reducible (refine Below.setCell ?_ (by simp <;> omega) _) | with_reducible (refine Below.alloc ?_ (by first | exact hs_ | (simp <;> omega)) _) | with_reducible (refine Below.drew ?_))) bB
          clear bB
          go_wp2_with fail
          go_ret
          exact ⟨rfl, (by have hs_ := hB.size; repeat (first | with_reducible exact hB | with_reducible (refine Below.setCell ?_ (by simp <;> omega) _) | with_reducible (refine Below.alloc ?_ (by first | exact hs_ | (simp <;> omega)) _) | with_reducible (refine Below.drew ?_)))⟩
        · have hne : x ≠ n := by
            rintro rfl
            exact absurd (HE2.out.symm.trans HE.out) (by decide)
          have g1 : (x == n) = false := by simpa using hne
          have g2 : (n == x) = false := by simpa using fun h => hne h.symm
          have HC := fun W => check6_any 26 (by omega) n y z W
          rw [HE2.out] at HC
          clear hne
          go_wp2_with fail
          refine (HC _).mono ?_
          rintro e v2 ⟨rfl, bB⟩
          replace hq := Blk.via0 (g := w.heap.size) (t := 23) bB (by repeat (first | with_reducible exact hq | with_reducible (apply Blk.set_) | with_reducible (apply Blk.far; case hp => (simp <;> omega)) | with_reducible (apply Blk.alloc) | with_reducible (apply Blk.drew)))
          replace hq : Blk v2 w.heap.size 23 #[.int .u8 26, .int .i64 x, .int .i64 y, .int .i64 z] := hq
          replace hy := Blk.via0 (g := py) (t := 23) bB (by repeat (first | with_reducible exact hy | with_reducible (apply Blk.set_) | with_reducible (apply Blk.far; case hp => (simp <;> omega)) | with_reducible (apply Blk.alloc) | with_reducible (apply Blk.drew)))
          replace hy : Blk v2 py 23 #[.int .u8 26, .int .i64 n, .int .i64 y, .int .i64 z] := hy
          replace hB := Below.via (w := w) (by have hs_ := hB.size; repeat (first | with_reducible exact hB | with_reducible (refine Below.setCell ?_ (by simp <;> omega) _) | with_reducible (refine Below.alloc ?_ (by first | exact hs_ | (simp <;> omega)) _) | with_reducible (refine Below.drew ?_))) bB
          clear z10 z11 z12 z13 z14 z15 z16 z17 z18 z19 z20 z21 z22 z23 z24 z25 z26 z27
          clear bB
          go_wp2_with fail
          refine (alive6_any _).mono ?_
          rintro e v3 ⟨rfl, bB⟩
          replace hq := Blk.via0 (g := w.heap.size) (t := 23) bB (by repeat (first | with_reducible exact hq | with_reducible (apply Blk.set_) | with_reducible (apply Blk.far; case hp => (simp <;> omega)) | with_reducible (apply Blk.alloc) | with_reducible (apply Blk.drew)))
          replace hq : Blk v3 w.heap.size 23 #[.int .u8 26, .int .i64 x, .int .i64 y, .int .i64 z] := hq
          replace hy := Blk.via0 (g := py) (t := 23) bB (by repeat (first | with_reducible exact hy | with_reducible (apply Blk.set_) | with_reducible (apply Blk.far; case hp => (simp <;> omega)) | with_reducible (apply Blk.alloc) | with_reducible (apply Blk.drew)))
          replace hy : Blk v3 py 23 #[.int .u8 26, .int .i64 n, .int .i64 y, .int .i64 z] := hy
          replace hB := Below.via (w := w) (by have hs_ := hB.size; repeat (first | with_reducible exact hB | with_reducible (refine Below.setCell ?_ (by simp <;> omega) _) | with_reducible (refine Below.alloc ?_ (by first | exact hs_ | (simp <;> omega)) _) | with_reducible (refine Below.drew ?_))) bB
          clear bB
          go_wp2_with fail
          go_ret
          exact ⟨rfl, (by have hs_ := hB.size; repeat (first | with_reducible exact hB | with_reducible (refine Below.setCell ?_ (by simp <;> omega) _) | with_reducible (refine Below.alloc ?_ (by first | exact hs_ | (simp <;> omega)) _) | with_reducible (refine Below.drew ?_)))⟩
      by_cases k27 : op = 27
      · subst k27
        obtain ⟨E2, hE2⟩ : ∃ E, ckI 27 n y z = E := ⟨_, rfl⟩
        have HE2 := Lib.hid hE2
        have H08 := ck_08 27 n y z
        have HS := fun W => slots_any 27 (by omega) n y z W
        unfold SlP at HS
        have HSAME := Lib.hid (show ckI 27 n y z = 0 → slR 27 n y z = RR ∧ slW 27 n y z = WW from fun h => by
          rw [← HRR.out, ← HWW.out]
          exact ⟨by rw [slR, slR, if_pos h, if_pos HE.out]; rfl, by rw [slW, slW, if_pos h, if_pos HE.out]; rfl⟩)
        rw [hE2] at HS H08
        clear hE2
        have z1 : wr.cell? ⟨w.heap.size, 0, none⟩ = some (.int .u8 27) := (hq.cell 0).trans rfl
        have z2 := hq.frozen 0
        have z3 : wr.cell? ⟨w.heap.size, 1, none⟩ = some (.int .i64 x) := (hq.cell 1).trans rfl
        have z4 := hq.frozen 1
        have z5 : wr.cell? ⟨w.heap.size, 2, none⟩ = some (.int .i64 y) := (hq.cell 2).trans rfl
        have z6 := hq.frozen 2
        have z7 : wr.cell? ⟨w.heap.size, 3, none⟩ = some (.int .i64 z) := (hq.cell 3).trans rfl
        have z8 := hq.frozen 3
        have z9 := hq.lt
        go_wp2_with fail
        obtain ⟨R2, hR2⟩ : ∃ R2, slR 27 n y z = R2 := ⟨_, rfl⟩
        obtain ⟨W2, hW2⟩ : ∃ W2, slW 27 n y z = W2 := ⟨_, rfl⟩
        rw [hR2, hW2] at HS HSAME
        refine (HS _).mono ?_
        rintro e v1 ⟨A6, c6, A7, c7, rfl, p1, p2, bB⟩
        have ne_p1_hq : (Value.slice A6 R2.length c6).ownBlock ≠ some w.heap.size := own_not_lt p1 (by first | omega | (simp <;> omega))
        have ne_p1_hy : (Value.slice A6 R2.length c6).ownBlock ≠ some wr.heap.size := own_not_lt p1 (by first | omega | (simp <;> omega))
        have ne_p2_hq : (Value.slice A7 W2.length c7).ownBlock ≠ some w.heap.size := own_not_lt p2 (by first | omega | (simp <;> omega))
        have ne_p2_hy : (Value.slice A7 W2.length c7).ownBlock ≠ some wr.heap.size := own_not_lt p2 (by first | omega | (simp <;> omega))
        replace p1 := own_low p1 (show w.heap.size ≤ _ from by have hs_ := hB.size; simp <;> omega)
        replace p2 := own_low p2 (show w.heap.size ≤ _ from by have hs_ := hB.size; simp <;> omega)
        have ne_o1_hy : (Value.slice A1 RR.length c1).ownBlock ≠ some wr.heap.size := own_not_ge o1 (by omega)
        have ne_o2_hy : (Value.slice A2 WW.length c2).ownBlock ≠ some wr.heap.size := own_not_ge o2 (by omega)
        have o_hq_hy : w.heap.size < wr.heap.size := (by omega)
        have ow_hy : w.heap.size ≤ wr.heap.size := (by have := hB.size; omega)
        replace hq := Blk.via0 (g := w.heap.size) (t := 23) bB (by repeat (first | with_reducible exact hq | with_reducible (apply Blk.set_) | with_reducible (apply Blk.far; case hp => (simp <;> omega)) | with_reducible (apply Blk.alloc) | with_reducible (apply Blk.drew)))
        replace hq : Blk v1 w.heap.size 23 #[.int .u8 27, .int .i64 x, .int .i64 y, .int .i64 z] := hq
        replace o1 := own_call (by repeat (first | with_reducible exact o1 | (with_reducible apply own_set_; case hne => first | exact ne_o1_hq) | with_reducible (apply own_alloc_) | with_reducible (apply own_drew_))) bB
        replace o2 := own_call (by repeat (first | with_reducible exact o2 | (with_reducible apply own_set_; case hne => first | exact ne_o2_hq) | with_reducible (apply own_alloc_) | with_reducible (apply own_drew_))) bB
        have hy := Blk.via0 (g := wr.heap.size) (t := 23) bB (by repeat (first | with_reducible exact Blk.newAt (by simp) _ _ | with_reducible (apply Blk.set_) | with_reducible (apply Blk.far; case hp => (simp <;> omega)) | with_reducible (apply Blk.alloc) | with_reducible (apply Blk.drew)))
        replace hy : Blk v1 wr.heap.size 23 #[.int .u8 27, .int .i64 n, .int .i64 y, .int .i64 z] := hy
        replace hB := Below.via (w := w) (by have hs_ := hB.size; repeat (first | with_reducible exact hB | with_reducible (refine Below.setCell ?_ (by simp <;> omega) _) | with_reducible (refine Below.alloc ?_ (by first | exact hs_ | (simp <;> omega)) _) | with_reducible (refine Below.drew ?_))) bB
        clear z1 z2 z3 z4 z5 z6 z7 z8 z9
        clear bB
        generalize wr.heap.size = py at *
        clear HS
        have z10 : v1.cell? ⟨w.heap.size, 0, none⟩ = some (.int .u8 27) := (hq.cell 0).trans rfl
        have z11 := hq.frozen 0
        have z12 : v1.cell? ⟨w.heap.size, 1, none⟩ = some (.int .i64 x) := (hq.cell 1).trans rfl
        have z13 := hq.frozen 1
        have z14 : v1.cell? ⟨w.heap.size, 2, none⟩ = some (.int .i64 y) := (hq.cell 2).trans rfl
        have z15 := hq.frozen 2
        have z16 : v1.cell? ⟨w.heap.size, 3, none⟩ = some (.int .i64 z) := (hq.cell 3).trans rfl
        have z17 := hq.frozen 3
        have z18 : v1.cell? ⟨py, 0, none⟩ = some (.int .u8 27) := (hy.cell 0).trans rfl
        have z19 := hy.frozen 0
        have z20 : v1.cell? ⟨py, 1, none⟩ = some (.int .i64 n) := (hy.cell 1).trans rfl
        have z21 := hy.frozen 1
        have z22 : v1.cell? ⟨py, 2, none⟩ = some (.int .i64 y) := (hy.cell 2).trans rfl
        have z23 := hy.frozen 2
        have z24 : v1.cell? ⟨py, 3, none⟩ = some (.int .i64 z) := (hy.cell 3).trans rfl
        have z25 := hy.frozen 3
        have z26 := hq.lt
        have z27 := hy.lt
        rcases H08 with rfl | rfl
        · obtain ⟨e1, e2⟩ := HSAME.out HE2.out
          rw [e1] at p1
          rw [e2] at p2
          clear e1 e2
          rw [(HSAME.out HE2.out).1, (HSAME.out HE2.out).2]
          go_wp2_with fail
          refine (sameInts_any A1 RR.length c1 RR A6 RR.length c6 RR _ (own_reads o1) (own_reads p1) (by omega)).mono ?_
          rintro e v2 ⟨rfl, bB⟩
          rw [decide_eq_true (rfl : RR = RR)]
          replace hq := Blk.via0 (g := w.heap.size) (t := 23) bB (by repeat (first | with_reducible exact hq | with_reducible (apply Blk.set_) | with_reducible (apply Blk.far; case hp => (simp <;> omega)) | with_reducible (apply Blk.alloc) | with_reducible (apply Blk.drew)))
          replace hq : Blk v2 w.heap.size 23 #[.int .u8 27, .int .i64 x, .int .i64 y, .int .i64 z] := hq
          replace hy := Blk.via0 (g := py) (t := 23) bB (by repeat (first | with_reducible exact hy | with_reducible (apply Blk.set_) | with_reducible (apply Blk.far; case hp => (simp <;> omega)) | with_reducible (apply Blk.alloc) | with_reducible (apply Blk.drew)))
          replace hy : Blk v2 py 23 #[.int .u8 27, .int .i64 n, .int .i64 y, .int .i64 z] := hy
          replace o1 := own_call (by repeat (first | with_reducible exact o1 | (with_reducible apply own_set_; case hne => first | exact ne_o1_hq | exact ne_o1_hy) | with_reducible (apply own_alloc_) | with_reducible (apply own_drew_))) bB
          replace o2 := own_call (by repeat (first | with_reducible exact o2 | (with_reducible apply own_set_; case hne => first | exact ne_o2_hq | exact ne_o2_hy) | with_reducible (apply own_alloc_) | with_reducible (apply own_drew_))) bB
          replace p1 := own_call (by repeat (first | with_reducible exact p1 | (with_reducible apply own_set_; case hne => first | exact ne_p1_hq | exact ne_p1_hy) | with_reducible (apply own_alloc_) | with_reducible (apply own_drew_))) bB
          replace p2 := own_call (by repeat (first | with_reducible exact p2 | (with_reducible apply own_set_; case hne => first | exact ne_p2_hq | exact ne_p2_hy) | with_reducible (apply own_alloc_) | with_reducible (apply own_drew_))) bB
          replace hB := Below.via (w := w) (by have hs_ := hB.size; repeat (first | with_reducible exact hB | with_reducible (refine Below.setCell ?_ (by simp <;> omega) _) | with_reducible (refine Below.alloc ?_ (by first | exact hs_ | (simp <;> omega)) _) | with_reducible (refine Below.drew ?_))) bB
          clear z10 z11 z12 z13 z14 z15 z16 z17 z18 z19 z20 z21 z22 z23 z24 z25 z26 z27
          clear bB
          go_wp2_with fail
          refine (sameInts_any A2 WW.length c2 WW A7 WW.length c7 WW _ (own_reads o2) (own_reads p2) (by omega)).mono ?_
          rintro e v3 ⟨rfl, bB⟩
          rw [decide_eq_true (rfl : WW = WW)]
          replace hq := Blk.via0 (g := w.heap.size) (t := 23) bB (by repeat (first | with_reducible exact hq | with_reducible (apply Blk.set_) | with_reducible (apply Blk.far; case hp => (simp <;> omega)) | with_reducible (apply Blk.alloc) | with_reducible (apply Blk.drew)))
          replace hq : Blk v3 w.heap.size 23 #[.int .u8 27, .int .i64 x, .int .i64 y, .int .i64 z] := hq
          replace hy := Blk.via0 (g := py) (t := 23) bB (by repeat (first | with_reducible exact hy | with_reducible (apply Blk.set_) | with_reducible (apply Blk.far; case hp => (simp <;> omega)) | with_reducible (apply Blk.alloc) | with_reducible (apply Blk.drew)))
          replace hy : Blk v3 py 23 #[.int .u8 27, .int .i64 n, .int .i64 y, .int .i64 z] := hy
          replace o1 := own_call (by repeat (first | with_reducible exact o1 | (with_reducible apply own_set_; case hne => first | exact ne_o1_hq | exact ne_o1_hy) | with_reducible (apply own_alloc_) | with_reducible (apply own_drew_))) bB
          replace o2 := own_call (by repeat (first | with_reducible exact o2 | (with_reducible apply own_set_; case hne => first | exact ne_o2_hq | exact ne_o2_hy) | with_reducible (apply own_alloc_) | with_reducible (apply own_drew_))) bB
          replace p1 := own_call (by repeat (first | with_reducible exact p1 | (with_reducible apply own_set_; case hne => first | exact ne_p1_hq | exact ne_p1_hy) | with_reducible (apply own_alloc_) | with_reducible (apply own_drew_))) bB
          replace p2 := own_call (by repeat (first | with_reducible exact p2 | (with_reducible apply own_set_; case hne => first | exact ne_p2_hq | exact ne_p2_hy) | with_reducible (apply own_alloc_) | with_reducible (apply own_drew_))) bB
          replace hB := Below.via (w := w) (by have hs_ := hB.size; repeat (first | with_reducible exact hB | with_reducible (refine Below.setCell ?_ (by simp <;> omega) _) | with_reducible (refine Below.alloc ?_ (by first | exact hs_ | (simp <;> omega)) _) | with_reducible (refine Below.drew ?_))) bB
          clear bB
          go_wp2_with fail
          refine (alive6_any _).mono ?_
          rintro e v4 ⟨rfl, bB⟩
          replace hq := Blk.via0 (g := w.heap.size) (t := 23) bB (by repeat (first | with_reducible exact hq | with_reducible (apply Blk.set_) | with_reducible (apply Blk.far; case hp => (simp <;> omega)) | with_reducible (apply Blk.alloc) | with_reducible (apply Blk.drew)))
          replace hq : Blk v4 w.heap.size 23 #[.int .u8 27, .int .i64 x, .int .i64 y, .int .i64 z] := hq
          replace hy := Blk.via0 (g := py) (t := 23) bB (by repeat (first | with_reducible exact hy | with_reducible (apply Blk.set_) | with_reducible (apply Blk.far; case hp => (simp <;> omega)) | with_reducible (apply Blk.alloc) | with_reducible (apply Blk.drew)))
          replace hy : Blk v4 py 23 #[.int .u8 27, .int .i64 n, .int .i64 y, .int .i64 z] := hy
          replace o1 := own_call (by repeat (first | with_reducible exact o1 | (with_reducible apply own_set_; case hne => first | exact ne_o1_hq | exact ne_o1_hy) | with_reducible (apply own_alloc_) | with_reducible (apply own_drew_))) bB
          replace o2 := own_call (by repeat (first | with_reducible exact o2 | (with_reducible apply own_set_; case hne => first | exact ne_o2_hq | exact ne_o2_hy) | with_reducible (apply own_alloc_) | with_reducible (apply own_drew_))) bB
          replace p1 := own_call (by repeat (first | with_reducible exact p1 | (with_reducible apply own_set_; case hne => first | exact ne_p1_hq | exact ne_p1_hy) | with_reducible (apply own_alloc_) | with_reducible (apply own_drew_))) bB
          replace p2 := own_call (by repeat (first | with_reducible exact p2 | (with_reducible apply own_set_; case hne => first | exact ne_p2_hq | exact ne_p2_hy) | with_reducible (apply own_alloc_) | with_reducible (apply own_drew_))) bB
          replace hB := Below.via (w := w) (by have hs_ := hB.size; repeat (first | with_reducible exact hB | with_reducible (refine Below.setCell ?_ (by simp <;> omega) _) | with_reducible (refine Below.alloc ?_ (by first | exact hs_ | (simp <;> omega)) _) | with_reducible (refine Below.drew ?_))) bB
          clear bB
          go_wp2_with fail
          go_ret
          exact ⟨rfl, (by have hs_ := hB.size; repeat (first | with_reducible exact hB | with_reducible (refine Below.setCell ?_ (by simp <;> omega) _) | with_reducible (refine Below.alloc ?_ (by first | exact hs_ | (simp <;> omega)) _) | with_reducible (refine Below.drew ?_)))⟩
        · have hne : x ≠ n := by
            rintro rfl
            exact absurd (HE2.out.symm.trans HE.out) (by decide)
          have g1 : (x == n) = false := by simpa using hne
          have g2 : (n == x) = false := by simpa using fun h => hne h.symm
          have HC := fun W => check6_any 27 (by omega) n y z W
          rw [HE2.out] at HC
          clear hne
          go_wp2_with fail
          refine (HC _).mono ?_
          rintro e v2 ⟨rfl, bB⟩
          replace hq := Blk.via0 (g := w.heap.size) (t := 23) bB (by repeat (first | with_reducible exact hq | with_reducible (apply Blk.set_) | with_reducible (apply Blk.far; case hp => (simp <;> omega)) | with_reducible (apply Blk.alloc) | with_reducible (apply Blk.drew)))
          replace hq : Blk v2 w.heap.size 23 #[.int .u8 27, .int .i64 x, .int .i64 y, .int .i64 z] := hq
          replace hy := Blk.via0 (g := py) (t := 23) bB (by repeat (first | with_reducible exact hy | with_reducible (apply Blk.set_) | with_reducible (apply Blk.far; case hp => (simp <;> omega)) | with_reducible (apply Blk.alloc) | with_reducible (apply Blk.drew)))
          replace hy : Blk v2 py 23 #[.int .u8 27, .int .i64 n, .int .i64 y, .int .i64 z] := hy
          replace hB := Below.via (w := w) (by have hs_ := hB.size; repeat (first | with_reducible exact hB | with_reducible (refine Below.setCell ?_ (by simp <;> omega) _) | with_reducible (refine Below.alloc ?_ (by first | exact hs_ | (simp <;> omega)) _) | with_reducible (refine Below.drew ?_))) bB
          clear z10 z11 z12 z13 z14 z15 z16 z17 z18 z19 z20 z21 z22 z23 z24 z25 z26 z27
          clear bB
          go_wp2_with fail
          refine (alive6_any _).mono ?_
          rintro e v3 ⟨rfl, bB⟩
          replace hq := Blk.via0 (g := w.heap.size) (t := 23) bB (by repeat (first | with_reducible exact hq | with_reducible (apply Blk.set_) | with_reducible (apply Blk.far; case hp => (simp <;> omega)) | with_reducible (apply Blk.alloc) | with_reducible (apply Blk.drew)))
          replace hq : Blk v3 w.heap.size 23 #[.int .u8 27, .int .i64 x, .int .i64 y, .int .i64 z] := hq
          replace hy := Blk.via0 (g := py) (t := 23) bB (by repeat (first | with_reducible exact hy | with_reducible (apply Blk.set_) | with_reducible (apply Blk.far; case hp => (simp <;> omega)) | with_reducible (apply Blk.alloc) | with_reducible (apply Blk.drew)))
          replace hy : Blk v3 py 23 #[.int .u8 27, .int .i64 n, .int .i64 y, .int .i64 z] := hy
          replace hB := Below.via (w := w) (by have hs_ := hB.size; repeat (first | with_reducible exact hB | with_reducible (refine Below.setCell ?_ (by simp <;> omega) _) | with_reducible (refine Below.alloc ?_ (by first | exact hs_ | (simp <;> omega)) _) | with_reducible (refine Below.drew ?_))) bB
          clear bB
          go_wp2_with fail
          go_ret
          exact ⟨rfl, (by have hs_ := hB.size; repeat (first | with_reducible exact hB | with_reducible (refine Below.setCell ?_ (by simp <;> omega) _) | with_reducible (refine Below.alloc ?_ (by first | exact hs_ | (simp <;> omega)) _) | with_reducible (refine Below.drew ?_)))⟩
      have t1 : ((op : Int) == 1) = false := by simp; omega
      have t2 : ((op : Int) == 2) = false := by simp; omega
      have t3 : ((op : Int) == 3) = false := by simp; omega
      have t14 : ((op : Int) == 14) = false := by simp; omega
      have t23 : ((op : Int) == 23) = false := by simp; omega
      have t25 : ((op : Int) == 25) = false := by simp; omega
      have t13 : ((op : Int) == 13) = false := by simp; omega
      have t22 : ((op : Int) == 22) = false := by simp; omega
      have t26 : ((op : Int) == 26) = false := by simp; omega
      have t27 : ((op : Int) == 27) = false := by simp; omega
      obtain ⟨E2, hE2⟩ : ∃ E, ckI op x y z = E := ⟨_, rfl⟩
      have HE2 := Lib.hid hE2
      have H08 := ck_08 op x y z
      have HS := fun W => slots_any op hop x y z W
      unfold SlP at HS
      have HSAME := Lib.hid (show ckI op x y z = 0 → slR op x y z = RR ∧ slW op x y z = WW from fun h => by
        rw [← HRR.out, ← HWW.out]
        exact ⟨rfl, rfl⟩)
      rw [hE2] at HS H08
      clear hE2
      have z1 : wr.cell? ⟨w.heap.size, 0, none⟩ = some (.int .u8 (op : Int)) := (hq.cell 0).trans rfl
      have z2 := hq.frozen 0
      have z3 : wr.cell? ⟨w.heap.size, 1, none⟩ = some (.int .i64 x) := (hq.cell 1).trans rfl
      have z4 := hq.frozen 1
      have z5 : wr.cell? ⟨w.heap.size, 2, none⟩ = some (.int .i64 y) := (hq.cell 2).trans rfl
      have z6 := hq.frozen 2
      have z7 : wr.cell? ⟨w.heap.size, 3, none⟩ = some (.int .i64 z) := (hq.cell 3).trans rfl
      have z8 := hq.frozen 3
      have z9 := hq.lt
      go_wp2_with fail
      obtain ⟨R2, hR2⟩ : ∃ R2, slR op x y z = R2 := ⟨_, rfl⟩
      obtain ⟨W2, hW2⟩ : ∃ W2, slW op x y z = W2 := ⟨_, rfl⟩
      rw [hR2, hW2] at HS HSAME
      refine (HS _).mono ?_
      rintro e v1 ⟨A6, c6, A7, c7, rfl, p1, p2, bB⟩
      have ne_p1_hq : (Value.slice A6 R2.length c6).ownBlock ≠ some w.heap.size := own_not_lt p1 (by first | omega | (simp <;> omega))
      have ne_p1_hy : (Value.slice A6 R2.length c6).ownBlock ≠ some wr.heap.size := own_not_lt p1 (by first | omega | (simp <;> omega))
      have ne_p2_hq : (Value.slice A7 W2.length c7).ownBlock ≠ some w.heap.size := own_not_lt p2 (by first | omega | (simp <;> omega))
      have ne_p2_hy : (Value.slice A7 W2.length c7).ownBlock ≠ some wr.heap.size := own_not_lt p2 (by first | omega | (simp <;> omega))
      replace p1 := own_low p1 (show w.heap.size ≤ _ from by have hs_ := hB.size; simp <;> omega)
      replace p2 := own_low p2 (show w.heap.size ≤ _ from by have hs_ := hB.size; simp <;> omega)
      have ne_o1_hy : (Value.slice A1 RR.length c1).ownBlock ≠ some wr.heap.size := own_not_ge o1 (by omega)
      have ne_o2_hy : (Value.slice A2 WW.length c2).ownBlock ≠ some wr.heap.size := own_not_ge o2 (by omega)
      have o_hq_hy : w.heap.size < wr.heap.size := (by omega)
      have ow_hy : w.heap.size ≤ wr.heap.size := (by have := hB.size; omega)
      replace hq := Blk.via0 (g := w.heap.size) (t := 23) bB (by repeat (first | with_reducible exact hq | with_reducible (apply Blk.set_) | with_reducible (apply Blk.far; case hp => (simp <;> omega)) | with_reducible (apply Blk.alloc) | with_reducible (apply Blk.drew)))
      replace hq : Blk v1 w.heap.size 23 #[.int .u8 (op : Int), .int .i64 x, .int .i64 y, .int .i64 z] := hq
      replace o1 := own_call (by repeat (first | with_reducible exact o1 | (with_reducible apply own_set_; case hne => first | exact ne_o1_hq) | with_reducible (apply own_alloc_) | with_reducible (apply own_drew_))) bB
      replace o2 := own_call (by repeat (first | with_reducible exact o2 | (with_reducible apply own_set_; case hne => first | exact ne_o2_hq) | with_reducible (apply own_alloc_) | with_reducible (apply own_drew_))) bB
      have hy := Blk.via0 (g := wr.heap.size) (t := 23) bB (by repeat (first | with_reducible exact Blk.newAt (by simp) _ _ | with_reducible (apply Blk.set_) | with_reducible (apply Blk.far; case hp => (simp <;> omega)) | with_reducible (apply Blk.alloc) | with_reducible (apply Blk.drew)))
      replace hy : Blk v1 wr.heap.size 23 #[.int .u8 (op : Int), .int .i64 x, .int .i64 y, .int .i64 z] := hy
      replace hB := Below.via (w := w) (by have hs_ := hB.size; repeat (first | with_reducible exact hB | with_reducible (refine Below.setCell ?_ (by simp <;> omega) _) | with_reducible (refine Below.alloc ?_ (by first | exact hs_ | (simp <;> omega)) _) | with_reducible (refine Below.drew ?_))) bB
      clear z1 z2 z3 z4 z5 z6 z7 z8 z9
      clear bB
      generalize wr.heap.size = py at *
      clear HS
      have z10 : v1.cell? ⟨w.heap.size, 0, none⟩ = some (.int .u8 (op : Int)) := (hq.cell 0).trans rfl
      have z11 := hq.frozen 0
      have z12 : v1.cell? ⟨w.heap.size, 1, none⟩ = some (.int .i64 x) := (hq.cell 1).trans rfl
      have z13 := hq.frozen 1
      have z14 : v1.cell? ⟨w.heap.size, 2, none⟩ = some (.int .i64 y) := (hq.cell 2).trans rfl
      have z15 := hq.frozen 2
      have z16 : v1.cell? ⟨w.heap.size, 3, none⟩ = some (.int .i64 z) := (hq.cell 3).trans rfl
      have z17 := hq.frozen 3
      have z18 : v1.cell? ⟨py, 0, none⟩ = some (.int .u8 (op : Int)) := (hy.cell 0).trans rfl
      have z19 := hy.frozen 0
      have z20 : v1.cell? ⟨py, 1, none⟩ = some (.int .i64 x) := (hy.cell 1).trans rfl
      have z21 := hy.frozen 1
      have z22 : v1.cell? ⟨py, 2, none⟩ = some (.int .i64 y) := (hy.cell 2).trans rfl
      have z23 := hy.frozen 2
      have z24 : v1.cell? ⟨py, 3, none⟩ = some (.int .i64 z) := (hy.cell 3).trans rfl
      have z25 := hy.frozen 3
      have z26 := hq.lt
      have z27 := hy.lt
      rcases H08 with rfl | rfl
      · obtain ⟨e1, e2⟩ := HSAME.out HE2.out
        rw [e1] at p1
        rw [e2] at p2
        clear e1 e2
        rw [(HSAME.out HE2.out).1, (HSAME.out HE2.out).2]
        go_wp2_with fail
        refine (sameInts_any A1 RR.length c1 RR A6 RR.length c6 RR _ (own_reads o1) (own_reads p1) (by omega)).mono ?_
        rintro e v2 ⟨rfl, bB⟩
        rw [decide_eq_true (rfl : RR = RR)]
        replace hq := Blk.via0 (g := w.heap.size) (t := 23) bB (by repeat (first | with_reducible exact hq | with_reducible (apply Blk.set_) | with_reducible (apply Blk.far; case hp => (simp <;> omega)) | with_reducible (apply Blk.alloc) | with_reducible (apply Blk.drew)))
        replace hq : Blk v2 w.heap.size 23 #[.int .u8 (op : Int), .int .i64 x, .int .i64 y, .int .i64 z] := hq
        replace hy := Blk.via0 (g := py) (t := 23) bB (by repeat (first | with_reducible exact hy | with_reducible (apply Blk.set_) | with_reducible (apply Blk.far; case hp => (simp <;> omega)) | with_reducible (apply Blk.alloc) | with_reducible (apply Blk.drew)))
        replace hy : Blk v2 py 23 #[.int .u8 (op : Int), .int .i64 x, .int .i64 y, .int .i64 z] := hy
        replace o1 := own_call (by repeat (first | with_reducible exact o1 | (with_reducible apply own_set_; case hne => first | exact ne_o1_hq | exact ne_o1_hy) | with_reducible (apply own_alloc_) | with_reducible (apply own_drew_))) bB
        replace o2 := own_call (by repeat (first | with_reducible exact o2 | (with_reducible apply own_set_; case hne => first | exact ne_o2_hq | exact ne_o2_hy) | with_reducible (apply own_alloc_) | with_reducible (apply own_drew_))) bB
        replace p1 := own_call (by repeat (first | with_reducible exact p1 | (with_reducible apply own_set_; case hne => first | exact ne_p1_hq | exact ne_p1_hy) | with_reducible (apply own_alloc_) | with_reducible (apply own_drew_))) bB
        replace p2 := own_call (by repeat (first | with_reducible exact p2 | (with_reducible apply own_set_; case hne => first | exact ne_p2_hq | exact ne_p2_hy) | with_reducible (apply own_alloc_) | with_reducible (apply own_drew_))) bB
        replace hB := Below.via (w := w) (by have hs_ := hB.size; repeat (first | with_reducible exact hB | with_reducible (refine Below.setCell ?_ (by simp <;> omega) _) | with_reducible (refine Below.alloc ?_ (by first | exact hs_ | (simp <;> omega)) _) | with_reducible (refine Below.drew ?_))) bB
        clear z10 z11 z12 z13 z14 z15 z16 z17 z18 z19 z20 z21 z22 z23 z24 z25 z26 z27
        clear bB
        go_wp2_with fail
        refine (sameInts_any A2 WW.length c2 WW A7 WW.length c7 WW _ (own_reads o2) (own_reads p2) (by omega)).mono ?_
        rintro e v3 ⟨rfl, bB⟩
        rw [decide_eq_true (rfl : WW = WW)]
        replace hq := Blk.via0 (g := w.heap.size) (t := 23) bB (by repeat (first | with_reducible exact hq | with_reducible (apply Blk.set_) | with_reducible (apply Blk.far; case hp => (simp <;> omega)) | with_reducible (apply Blk.alloc) | with_reducible (apply Blk.drew)))
        replace hq : Blk v3 w.heap.size 23 #[.int .u8 (op : Int), .int .i64 x, .int .i64 y, .int .i64 z] := hq
        replace hy := Blk.via0 (g := py) (t := 23) bB (by repeat (first | with_reducible exact hy | with_reducible (apply Blk.set_) | with_reducible (apply Blk.far; case hp => (simp <;> omega)) | with_reducible (apply Blk.alloc) | with_reducible (apply Blk.drew)))
        replace hy : Blk v3 py 23 #[.int .u8 (op : Int), .int .i64 x, .int .i64 y, .int .i64 z] := hy
        replace o1 := own_call (by repeat (first | with_reducible exact o1 | (with_reducible apply own_set_; case hne => first | exact ne_o1_hq | exact ne_o1_hy) | with_reducible (apply own_alloc_) | with_reducible (apply own_drew_))) bB
        replace o2 := own_call (by repeat (first | with_reducible exact o2 | (with_reducible apply own_set_; case hne => first | exact ne_o2_hq | exact ne_o2_hy) | with_reducible (apply own_alloc_) | with_reducible (apply own_drew_))) bB
        replace p1 := own_call (by repeat (first | with_reducible exact p1 | (with_reducible apply own_set_; case hne => first | exact ne_p1_hq | exact ne_p1_hy) | with_reducible (apply own_alloc_) | with_reducible (apply own_drew_))) bB
        replace p2 := own_call (by repeat (first | with_reducible exact p2 | (with_reducible apply own_set_; case hne => first | exact ne_p2_hq | exact ne_p2_hy) | with_reducible (apply own_alloc_) | with_reducible (apply own_drew_))) bB
        replace hB := Below.via (w := w) (by have hs_ := hB.size; repeat (first | with_reducible exact hB | with_reducible (refine Below.setCell ?_ (by simp <;> omega) _) | with_reducible (refine Below.alloc ?_ (by first | exact hs_ | (simp <;> omega)) _) | with_reducible (refine Below.drew ?_))) bB
        clear bB
        go_wp2_with fail
        refine (alive6_any _).mono ?_
        rintro e v4 ⟨rfl, bB⟩
        replace hq := Blk.via0 (g := w.heap.size) (t := 23) bB (by repeat (first | with_reducible exact hq | with_reducible (apply Blk.set_) | with_reducible (apply Blk.far; case hp => (simp <;> omega)) | with_reducible (apply Blk.alloc) | with_reducible (apply Blk.drew)))
        replace hq : Blk v4 w.heap.size 23 #[.int .u8 (op : Int), .int .i64 x, .int .i64 y, .int .i64 z] := hq
        replace hy := Blk.via0 (g := py) (t := 23) bB (by repeat (first | with_reducible exact hy | with_reducible (apply Blk.set_) | with_reducible (apply Blk.far; case hp => (simp <;> omega)) | with_reducible (apply Blk.alloc) | with_reducible (apply Blk.drew)))
        replace hy : Blk v4 py 23 #[.int .u8 (op : Int), .int .i64 x, .int .i64 y, .int .i64 z] := hy
        replace o1 := own_call (by repeat (first | with_reducible exact o1 | (with_reducible apply own_set_; case hne => first | exact ne_o1_hq | exact ne_o1_hy) | with_reducible (apply own_alloc_) | with_reducible (apply own_drew_))) bB
        replace o2 := own_call (by repeat (first | with_reducible exact o2 | (with_reducible apply own_set_; case hne => first | exact ne_o2_hq | exact ne_o2_hy) | with_reducible (apply own_alloc_) | with_reducible (apply own_drew_))) bB
        replace p1 := own_call (by repeat (first | with_reducible exact p1 | (with_reducible apply own_set_; case hne => first | exact ne_p1_hq | exact ne_p1_hy) | with_reducible (apply own_alloc_) | with_reducible (apply own_drew_))) bB
        replace p2 := own_call (by repeat (first | with_reducible exact p2 | (with_reducible apply own_set_; case hne => first | exact ne_p2_hq | exact ne_p2_hy) | with_reducible (apply own_alloc_) | with_reducible (apply own_drew_))) bB
        replace hB := Below.via (w := w) (by have hs_ := hB.size; repeat (first | with_reducible exact hB | with_reducible (refine Below.setCell ?_ (by simp <;> omega) _) | with_reducible (refine Below.alloc ?_ (by first | exact hs_ | (simp <;> omega)) _) | with_reducible (refine Below.drew ?_))) bB
        clear bB
        go_wp2_with fail
        go_ret
        exact ⟨rfl, (by have hs_ := hB.size; repeat (first | with_reducible exact hB | with_reducible (refine Below.setCell ?_ (by simp <;> omega) _) | with_reducible (refine Below.alloc ?_ (by first | exact hs_ | (simp <;> omega)) _) | with_reducible (refine Below.drew ?_)))⟩
      · exact absurd (HE2.out.symm.trans HE.out) (by decide)

end Go.Proofs.Ytkhdeoihjnpnaaa
