/- The contract of Check. It states its conditions. -/
import Derived.Test.YtkhdeoihjnpnaaaOps3
import Derived.BigQuiet
namespace Go.Proofs.Ytkhdeoihjnpnaaa
open Go.RowKit Wire
set_option linter.unusedVariables false

/-- An instruction as a value. -/
abbrev insV (op : Nat) (x y z : Int) : Value := .agg #[.int .u8 (op : Int), .int .i64 x, .int .i64 y, .int .i64 z]
def fitU (u : Use) (v : Int) : Bool := decide (u.1 ≤ v) && decide (v ≤ u.2.1)
def fitL : List Use → List Int → Bool
  | u :: us, v :: vs => fitU u v && fitL us vs
  | _, _ => true
/-- What Check answers. -/
def ckI (op : Nat) (x y z : Int) : Int := if (shp op).2 < 0 then 8 else if fitL (shp op).1 [x, y, z] then 0 else 8
theorem shT_all : (shT.all fun p => p.1.length == 3 && decide (-1 ≤ p.2 ∧ p.2 ≤ 3)) = true := by decide
theorem shp_mem (op : Nat) : shp op ∈ shT ∨ shp op = ([uNo, uNo, uNo], -1) := by
  unfold shp
  rw [List.getD_eq_getElem?_getD]
  cases h : shT[op]? with
  | none => exact .inr rfl
  | some p => exact .inl (List.mem_of_getElem? h)
theorem shp_form (op : Nat) : ∃ a1 a2 a3 a4 b1 b2 b3 b4 c1 c2 c3 c4 n, shp op = ([(a1, a2, a3, a4), (b1, b2, b3, b4), (c1, c2, c3, c4)], n) ∧ -1 ≤ n ∧ n ≤ 3 := by
  have h : (shp op).1.length = 3 ∧ -1 ≤ (shp op).2 ∧ (shp op).2 ≤ 3 := by
    rcases shp_mem op with h | h
    · have := List.all_eq_true.1 shT_all _ h
      simp only [Bool.and_eq_true, beq_iff_eq, decide_eq_true_eq] at this
      exact ⟨this.1, this.2⟩
    · rw [h]; decide
  generalize shp op = p at h ⊢
  obtain ⟨l, n⟩ := p
  obtain ⟨h1, h2⟩ := h
  match l, h1 with
  | [(a1, a2, a3, a4), (b1, b2, b3, b4), (c1, c2, c3, c4)], _ => exact ⟨_, _, _, _, _, _, _, _, _, _, _, _, n, rfl, h2⟩
theorem idx_i3 (x y z : Int) (W : World) : (Instr.index 58 (.agg #[.int .i64 x, .int .i64 y, .int .i64 z]) (.int .i64 0)).run Try.prog W = .ok (.int .i64 x) W ∧
    (Instr.index 58 (.agg #[.int .i64 x, .int .i64 y, .int .i64 z]) (.int .i64 1)).run Try.prog W = .ok (.int .i64 y) W ∧ (Instr.index 58 (.agg #[.int .i64 x, .int .i64 y, .int .i64 z]) (.int .i64 2)).run Try.prog W = .ok (.int .i64 z) W := by
  have hs : ∀ w, (sizeOf 3).run Try.prog w = .ok 1 w := fun _ => by kernel_rfl
  refine ⟨?_, ?_, ?_⟩ <;> simp [Instr.index, asIntOf, run_underlying Try.underlying58, hs, part, isAgg, run_underlying Try.underlying3]
theorem usL3 (a1 a2 : Int) (a3 a4 : Bool) (b1 b2 : Int) (b3 b4 : Bool) (c1 c2 : Int) (c3 c4 : Bool) : (usL [(a1, a2, a3, a4), (b1, b2, b3, b4), (c1, c2, c3, c4)]).toArray = #[.int .i64 a1, .int .i64 a2, .bool a3, .bool a4, .int .i64 b1, .int .i64 b2, .bool b3, .bool b4, .int .i64 c1, .int .i64 c2, .bool c3, .bool c4] := rfl

set_option maxRecDepth 100000 in
set_option maxHeartbeats 1600000 in
theorem check6_any (op : Nat) (hop : op < 256) (x y z : Int) (w : World) :
    Calls Try.prog 10 #[insV op x y z] w fun e w' => e = .returned (.int .i64 (ckI op x y z)) ∧ Below w.heap.size w w' := by
  obtain ⟨a1, a2, a3, a4, b1, b2, b3, b4, c1, c2, c3, c4, n, hsh, hn1, hn3⟩ := shp_form op
  have HC := Lib.hid (show ckI op x y z = if n < 0 then 8 else if fitU (a1, a2, a3, a4) x && (fitU (b1, b2, b3, b4) y && (fitU (c1, c2, c3, c4) z && true)) then 0 else 8 from by unfold ckI; rw [hsh]; rfl)
  have HS := fun W => shape_any op hop W
  rw [hsh, usL3] at HS
  have hB : Below w.heap.size w (w.alloc (.cells #[.int .u8 (op : Int), .int .i64 x, .int .i64 y, .int .i64 z] 23)) := (Below.alloc (Below.refl w.heap.size w) (by simp <;> omega) (.cells #[.int .u8 (op : Int), .int .i64 x, .int .i64 y, .int .i64 z] 23))
  have hx := Blk.new w 23 #[.int .u8 (op : Int), .int .i64 x, .int .i64 y, .int .i64 z]
  go_enter Try.func10, Try.ntmps10
  have z1 : (w.alloc (.cells #[.int .u8 (op : Int), .int .i64 x, .int .i64 y, .int .i64 z] 23)).cell? ⟨w.heap.size, 0, none⟩ = some (.int .u8 (op : Int)) := (hx.cell 0).trans rfl
  have z2 := hx.frozen 0
  have z3 : (w.alloc (.cells #[.int .u8 (op : Int), .int .i64 x, .int .i64 y, .int .i64 z] 23)).cell? ⟨w.heap.size, 1, none⟩ = some (.int .i64 x) := (hx.cell 1).trans rfl
  have z4 := hx.frozen 1
  have z5 : (w.alloc (.cells #[.int .u8 (op : Int), .int .i64 x, .int .i64 y, .int .i64 z] 23)).cell? ⟨w.heap.size, 2, none⟩ = some (.int .i64 y) := (hx.cell 2).trans rfl
  have z6 := hx.frozen 2
  have z7 : (w.alloc (.cells #[.int .u8 (op : Int), .int .i64 x, .int .i64 y, .int .i64 z] 23)).cell? ⟨w.heap.size, 3, none⟩ = some (.int .i64 z) := (hx.cell 3).trans rfl
  have z8 := hx.frozen 3
  have z9 := hx.lt
  go_wp2_with fail
  refine (HS _).mono ?_
  rintro e w1 ⟨rfl, bB⟩
  replace hx := Blk.via0 (g := w.heap.size) (t := 23) bB (by repeat (first | with_reducible exact hx | with_reducible (apply Blk.set_) | with_reducible (apply Blk.far; case hp => (simp <;> omega)) | with_reducible (apply Blk.alloc) | with_reducible (apply Blk.drew)))
  replace hx : Blk w1 w.heap.size 23 #[.int .u8 (op : Int), .int .i64 x, .int .i64 y, .int .i64 z] := hx
  replace hB := Below.via (w := w) (by have hs_ := hB.size; repeat (first | with_reducible exact hB | with_reducible (refine Below.setCell ?_ (by simp <;> omega) _) | with_reducible (refine Below.alloc ?_ (by first | exact hs_ | (simp <;> omega)) _) | with_reducible (refine Below.drew ?_))) bB
  clear z1 z2 z3 z4 z5 z6 z7 z8 z9
  clear bB
  clear HS hsh
  have z10 : w1.cell? ⟨w.heap.size, 0, none⟩ = some (.int .u8 (op : Int)) := (hx.cell 0).trans rfl
  have z11 := hx.frozen 0
  have z12 : w1.cell? ⟨w.heap.size, 1, none⟩ = some (.int .i64 x) := (hx.cell 1).trans rfl
  have z13 := hx.frozen 1
  have z14 : w1.cell? ⟨w.heap.size, 2, none⟩ = some (.int .i64 y) := (hx.cell 2).trans rfl
  have z15 := hx.frozen 2
  have z16 : w1.cell? ⟨w.heap.size, 3, none⟩ = some (.int .i64 z) := (hx.cell 3).trans rfl
  have z17 := hx.frozen 3
  have z18 := hx.lt
  by_cases hneg : n < 0
  · have HE := Lib.hid (show ckI op x y z = 8 from by rw [HC.out, if_pos hneg])
    go_wp2_with fail
    go_ret
    exact ⟨by rw [HE.out]; rfl, (by have hs_ := hB.size; repeat (first | with_reducible exact hB | with_reducible (refine Below.setCell ?_ (by simp <;> omega) _) | with_reducible (refine Below.alloc ?_ (by first | exact hs_ | (simp <;> omega)) _) | with_reducible (refine Below.drew ?_)))⟩
  have HC2 := Lib.hid (show ckI op x y z = if fitU (a1, a2, a3, a4) x && (fitU (b1, b2, b3, b4) y && (fitU (c1, c2, c3, c4) z && true)) then 0 else 8 from by rw [HC.out, if_neg hneg])
  clear HC
  go_wp2_with fail
  refine (operands_any op x y z _).mono ?_
  rintro e w2 ⟨rfl, bB⟩
  have o_hx_hu : w.heap.size < w1.heap.size := (by omega)
  have ow_hu : w.heap.size ≤ w1.heap.size := (by have := hB.size; omega)
  replace hx := Blk.via0 (g := w.heap.size) (t := 23) bB (by repeat (first | with_reducible exact hx | with_reducible (apply Blk.set_) | with_reducible (apply Blk.far; case hp => (simp <;> omega)) | with_reducible (apply Blk.alloc) | with_reducible (apply Blk.drew)))
  replace hx : Blk w2 w.heap.size 23 #[.int .u8 (op : Int), .int .i64 x, .int .i64 y, .int .i64 z] := hx
  have hu := Blk.via0 (g := w1.heap.size) (t := 55) bB (by repeat (first | with_reducible exact Blk.newAt (by simp) _ _ | with_reducible (apply Blk.set_) | with_reducible (apply Blk.far; case hp => (simp <;> omega)) | with_reducible (apply Blk.alloc) | with_reducible (apply Blk.drew)))
  replace hu : Blk w2 w1.heap.size 55 #[.int .i64 a1, .int .i64 a2, .bool a3, .bool a4, .int .i64 b1, .int .i64 b2, .bool b3, .bool b4, .int .i64 c1, .int .i64 c2, .bool c3, .bool c4] := hu
  replace hB := Below.via (w := w) (by have hs_ := hB.size; repeat (first | with_reducible exact hB | with_reducible (refine Below.setCell ?_ (by simp <;> omega) _) | with_reducible (refine Below.alloc ?_ (by first | exact hs_ | (simp <;> omega)) _) | with_reducible (refine Below.drew ?_))) bB
  clear z10 z11 z12 z13 z14 z15 z16 z17 z18
  clear bB
  generalize w1.heap.size = pu at *
  have z19 : w2.cell? ⟨w.heap.size, 0, none⟩ = some (.int .u8 (op : Int)) := (hx.cell 0).trans rfl
  have z20 := hx.frozen 0
  have z21 : w2.cell? ⟨w.heap.size, 1, none⟩ = some (.int .i64 x) := (hx.cell 1).trans rfl
  have z22 := hx.frozen 1
  have z23 : w2.cell? ⟨w.heap.size, 2, none⟩ = some (.int .i64 y) := (hx.cell 2).trans rfl
  have z24 := hx.frozen 2
  have z25 : w2.cell? ⟨w.heap.size, 3, none⟩ = some (.int .i64 z) := (hx.cell 3).trans rfl
  have z26 := hx.frozen 3
  have z27 : w2.cell? ⟨pu, 0, none⟩ = some (.int .i64 a1) := (hu.cell 0).trans rfl
  have z28 := hu.frozen 0
  have z29 : w2.cell? ⟨pu, 1, none⟩ = some (.int .i64 a2) := (hu.cell 1).trans rfl
  have z30 := hu.frozen 1
  have z31 : w2.cell? ⟨pu, 2, none⟩ = some (.bool a3) := (hu.cell 2).trans rfl
  have z32 := hu.frozen 2
  have z33 : w2.cell? ⟨pu, 3, none⟩ = some (.bool a4) := (hu.cell 3).trans rfl
  have z34 := hu.frozen 3
  have z35 : w2.cell? ⟨pu, 4, none⟩ = some (.int .i64 b1) := (hu.cell 4).trans rfl
  have z36 := hu.frozen 4
  have z37 : w2.cell? ⟨pu, 5, none⟩ = some (.int .i64 b2) := (hu.cell 5).trans rfl
  have z38 := hu.frozen 5
  have z39 : w2.cell? ⟨pu, 6, none⟩ = some (.bool b3) := (hu.cell 6).trans rfl
  have z40 := hu.frozen 6
  have z41 : w2.cell? ⟨pu, 7, none⟩ = some (.bool b4) := (hu.cell 7).trans rfl
  have z42 := hu.frozen 7
  have z43 : w2.cell? ⟨pu, 8, none⟩ = some (.int .i64 c1) := (hu.cell 8).trans rfl
  have z44 := hu.frozen 8
  have z45 : w2.cell? ⟨pu, 9, none⟩ = some (.int .i64 c2) := (hu.cell 9).trans rfl
  have z46 := hu.frozen 9
  have z47 : w2.cell? ⟨pu, 10, none⟩ = some (.bool c3) := (hu.cell 10).trans rfl
  have z48 := hu.frozen 10
  have z49 : w2.cell? ⟨pu, 11, none⟩ = some (.bool c4) := (hu.cell 11).trans rfl
  have z50 := hu.frozen 11
  have z51 := hx.lt
  have z52 := hu.lt
  go_wp2_with fail
  have I0 := fun W => (idx_i3 x y z W).1
  have I1 := fun W => (idx_i3 x y z W).2.1
  have I2 := fun W => (idx_i3 x y z W).2.2
  go_loopw [17] (fun i wr => ∃ j : Nat, j ≤ 3 ∧ i = .int .i64 (j : Int) ∧ (0 < j → fitU (a1, a2, a3, a4) x = true) ∧ (1 < j → fitU (b1, b2, b3, b4) y = true) ∧ (2 < j → fitU (c1, c2, c3, c4) z = true) ∧ w2 = wr) (fun i _ => 3 - (intOf i).toNat)
  case atStart => exact ⟨0, by omega, rfl, by omega, by omega, by omega, rfl⟩
  case round =>
    obtain ⟨j, hj, rfl, h0, h1, h2, rfl⟩ := hrel
    rcases j with _ | _ | _ | _ | j
    · skip
      by_cases e1 : x < a1
      · have HE := Lib.hid (show ckI op x y z = 8 from by
          have : fitU (a1, a2, a3, a4) x = false := by simp [fitU]; omega
          rw [HC2.out, this]; simp)
        go_wp2_with fail
        go_ret
        exact ⟨by rw [HE.out]; rfl, hB⟩
      · by_cases e2 : a2 < x
        · have HE := Lib.hid (show ckI op x y z = 8 from by
            have : fitU (a1, a2, a3, a4) x = false := by simp [fitU]; omega
            rw [HC2.out, this]; simp)
          go_wp2_with fail
          go_ret
          exact ⟨by rw [HE.out]; rfl, hB⟩
        · have HF := Lib.hid (show fitU (a1, a2, a3, a4) x = true from by simp [fitU]; omega)
          go_wp2_with fail
          go_roundw
          case rel => exact ⟨1, by omega, by go_num, fun _ => HF.out, by omega, by omega, by trivial⟩
          case measure => simp [intOf]
    · have g0 := h0 (by omega)
      by_cases e1 : y < b1
      · have HE := Lib.hid (show ckI op x y z = 8 from by
          have : fitU (b1, b2, b3, b4) y = false := by simp [fitU]; omega
          rw [HC2.out, this]; simp)
        go_wp2_with fail
        go_ret
        exact ⟨by rw [HE.out]; rfl, hB⟩
      · by_cases e2 : b2 < y
        · have HE := Lib.hid (show ckI op x y z = 8 from by
            have : fitU (b1, b2, b3, b4) y = false := by simp [fitU]; omega
            rw [HC2.out, this]; simp)
          go_wp2_with fail
          go_ret
          exact ⟨by rw [HE.out]; rfl, hB⟩
        · have HF := Lib.hid (show fitU (b1, b2, b3, b4) y = true from by simp [fitU]; omega)
          go_wp2_with fail
          go_roundw
          case rel => exact ⟨2, by omega, by go_num, fun _ => h0 (by omega), fun _ => HF.out, by omega, by trivial⟩
          case measure => simp [intOf]
    · have g0 := h0 (by omega); have g1 := h1 (by omega)
      by_cases e1 : z < c1
      · have HE := Lib.hid (show ckI op x y z = 8 from by
          have : fitU (c1, c2, c3, c4) z = false := by simp [fitU]; omega
          rw [HC2.out, this]; simp)
        go_wp2_with fail
        go_ret
        exact ⟨by rw [HE.out]; rfl, hB⟩
      · by_cases e2 : c2 < z
        · have HE := Lib.hid (show ckI op x y z = 8 from by
            have : fitU (c1, c2, c3, c4) z = false := by simp [fitU]; omega
            rw [HC2.out, this]; simp)
          go_wp2_with fail
          go_ret
          exact ⟨by rw [HE.out]; rfl, hB⟩
        · have HF := Lib.hid (show fitU (c1, c2, c3, c4) z = true from by simp [fitU]; omega)
          go_wp2_with fail
          go_roundw
          case rel => exact ⟨3, by omega, by go_num, fun _ => h0 (by omega), fun _ => h1 (by omega), fun _ => HF.out, by trivial⟩
          case measure => simp [intOf]
    · have HE := Lib.hid (show ckI op x y z = 0 from by rw [HC2.out, h0 (by omega), h1 (by omega), h2 (by omega)]; rfl)
      clear h0 h1 h2
      go_wp2_with fail
      go_ret
      exact ⟨by rw [HE.out]; rfl, hB⟩
    · omega

end Go.Proofs.Ytkhdeoihjnpnaaa
